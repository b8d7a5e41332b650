/- MessageTellsUpto: texts of this claim, packed: what the kit's print has written for it and own texts, without what its proof does not reach. -/
import Derived.Test.YtkddlhcpplkpbaaKMessageTellsUpto6
import Derived.StillTailTactics
set_option linter.unusedVariables false
set_option linter.unusedSimpArgs false
set_option linter.unusedSectionVars false
section
namespace WB
open Go Go.RowKit Go.Proofs.YtkddlhcpplkpbaaW.PrintWords
section
variable {P : Program} {ops : Array Oper} {Q : Exit → Act → World → Prop}
/-- How many have not come up. -/
def leftOf (n : Nat) (f : Nat → Bool) : Nat := ((List.range n).filter fun j => !f j).length
theorem leftOf_set {n i : Nat} {f : Nat → Bool} (hi : i < n) (hf : f i = false) : leftOf n (fun j => if j = i then true else f j) < leftOf n f := by
 unfold leftOf
 induction n with
 | zero => omega
 | succ n ih =>
  rw [List.range_succ, List.filter_append, List.filter_append, List.length_append, List.length_append]
  by_cases hin : i = n
  · subst hin
    have h1 : (List.filter (fun j => !if j = i then true else f j) (List.range i)).length = (List.filter (fun j => !f j) (List.range i)).length := by
     congr 1
     refine List.filter_congr fun j hj => ?_
     rw [if_neg (by have := List.mem_range.1 hj; omega)]
    rw [h1]
    simp [hf]
  · have h2 := ih (by omega)
    have h3 : (List.filter (fun j => !if j = i then true else f j) [n]) = (List.filter (fun j => !f j) [n]) := by
     refine List.filter_congr fun j hj => ?_
     have : j = n := by simpa using hj
     rw [if_neg (by omega)]
    rw [h3]
    omega
theorem listed_fun {listed : Array Bool} {i j : Nat} (hi : i < listed.size) : (listed.setIfInBounds i true).getD j true = if j = i then true else listed.getD j true := by
 by_cases h : j = i
 · subst h; simp [hi]
 · rw [if_neg h, Array.getD_eq_getD_getElem?, Array.getElem?_setIfInBounds_ne (Ne.symm h), Array.getD_eq_getD_getElem?]
/-- All edges that bind lead back. -/
def backB (ops : Array Oper) : Bool := (List.range ops.size).all fun j => ((ops[j]?).map (·.after.all fun e => !(Region.binds .any e) || decide (e.on < j))).getD true
theorem backB_spec (h : backB ops = true) {j : Nat} {o : Oper} (ho : ops[j]? = some o) : ∀ e ∈ o.after, Region.binds .any e = true → e.on < j := by
 unfold backB at h
 rw [List.all_eq_true] at h
 have h1 := h j (List.mem_range.2 (Array.getElem?_eq_some_iff.1 ho).1)
 rw [ho] at h1
 intro e he hbd
 simp only [Option.map_some, Option.getD_some] at h1
 have := Array.all_eq_true_iff_forall_mem.1 h1 e he
 rw [hbd] at this
 simpa using this
theorem wpAny_inv (I : (Nat → Bool) → Act → World → Prop) (hb : backB ops = true)
  (step : ∀ f a w i o, I f a w → ops[i]? = some o → f i = false → (∀ e ∈ o.after, Region.binds .any e = true → f e.on = true) → wpOp P ops Q i (fun a' w' => I (fun j => if j = i then true else f j) a' w') a w)
  (fin : ∀ f a w, I f a w → (∀ j, f j = true) → Q .normal a w) :
  ∀ (fuel : Nat) (listed : Array Bool) (a : Act) (w : World), listed.size = ops.size → leftOf ops.size (fun j => listed.getD j true) ≤ fuel → I (fun j => listed.getD j true) a w → wpAny P .any ops Q fuel listed a w := by
 have done : ∀ (listed : Array Bool) (a : Act) (w : World), listed.size = ops.size → I (fun j => listed.getD j true) a w → Region.ready .any ops listed = [] → Q .normal a w := by
  intro listed a w hs hI hr
  refine fin _ _ _ hI fun j => ?_
  induction j using Nat.strongRecOn with
  | ind j ih =>
    rcases Nat.lt_or_ge j ops.size with hj | hj
    · cases hl : listed.getD j true with
      | true => rfl
      | false =>
       have : j ∈ Region.ready .any ops listed := mem_ready.2 ⟨hl, ops[j], by simp, fun e he hbd => by
        have hlt := backB_spec hb (j := j) (by simp) e he hbd
        have h1 := ih _ hlt
        have hsz : e.on < listed.size := by omega
        simp [hsz] at h1 ⊢
        exact h1⟩
       rw [hr] at this
       cases this
    · simp [Array.getD_eq_getD_getElem?, Array.getElem?_eq_none (show listed.size ≤ j by omega)]
 intro fuel
 induction fuel with
 | zero =>
  intro listed a w hs hl hI
  have hr : Region.ready .any ops listed = [] := by
    cases h : Region.ready .any ops listed with
    | nil => rfl
    | cons i l =>
      have hi : i ∈ Region.ready .any ops listed := by rw [h]; simp
      obtain ⟨h1, o, ho, _⟩ := mem_ready.1 hi
      have := leftOf_set (n := ops.size) (f := fun j => listed.getD j true) (Array.getElem?_eq_some_iff.1 ho).1 h1
      omega
  exact ⟨hr, done _ _ _ hs hI hr⟩
 | succ fuel ih =>
  intro listed a w hs hl hI
  refine ⟨done _ _ _ hs hI, fun i hi => ?_⟩
  obtain ⟨h1, o, ho, h2⟩ := mem_ready.1 hi
  have hio := (Array.getElem?_eq_some_iff.1 ho).1
  refine wpOp_mono (fun a' w' h => ?_) (step _ a w i o hI ho h1 (fun e he hbd => by
    have h3 := h2 e he hbd
    have hsz : e.on < listed.size := by have := backB_spec hb ho e he hbd; omega
    simp [hsz] at h3 ⊢
    exact h3))
  have he : (fun j => (listed.setIfInBounds i true).getD j true) = fun j => if j = i then true else listed.getD j true := by
    funext j
    exact listed_fun (by omega)
  refine ih _ a' w' (by simp [hs]) ?_ ?_
  · rw [he]
    have := leftOf_set (n := ops.size) (f := fun j => listed.getD j true) hio h1
    omega
  · rw [he]; exact h
/-- A REGION THAT DRAWS ITS ORDER: I tells what holds, by which have come up; each operation by itself keeps it. -/
theorem region_inv {id : Nat} {a : Act} {w : World} (I : (Nat → Bool) → Act → World → Prop) (hm : P.follows .mixedOrders = true) (hb : backB ops = true) (h0 : I (fun j => decide (ops.size ≤ j)) a w.drew)
   (step : ∀ f a w i o, I f a w → ops[i]? = some o → f i = false → (∀ e ∈ o.after, Region.binds .any e = true → f e.on = true) → wpOp P ops Q i (fun a' w' => I (fun j => if j = i then true else f j) a' w') a w)
   (fin : ∀ f a w, I f a w → (∀ j, f j = true) → Q .normal a w) : (Code.region id ops true).wp P Q a w := by
 refine wp_region_any hm (wpAny_inv I hb step fin _ _ _ _ (by simp) ?_ ?_)
 · exact Nat.le_trans (List.length_filter_le _ _) (by simp)
 · have he : (fun j => (Array.replicate ops.size false).getD j true) = fun j => decide (ops.size ≤ j) := by
    funext j
    simp only [Array.getD_eq_getD_getElem?, Array.getElem?_replicate]
    by_cases h : j < ops.size
    · rw [if_pos h]; simp; omega
    · rw [if_neg h]; simp; omega
   rw [he]
   exact h0
theorem wpOp_value {i : Nat} {o : Oper} {a : Act} {w w1 : World} {v : Value} {K : Act → World → Prop} (hi : ops[i]? = some o) (hg : o.guard = none) (hr : (execOp a.eval o).run P w = .ok (.value v) w1) (h : K (a.put o.dst v) w1) : wpOp P ops Q i K a w := by
 unfold wpOp
 rw [hi]
 simp only [Region.wanted, hg, if_true]
 left
 unfold Oper.wp
 rw [hr]
 exact h
theorem wpOp_skip {i : Nat} {o : Oper} {a : Act} {w w1 : World} {K : Act → World → Prop} (hi : ops[i]? = some o) (hg : o.guard = none) (hr : (execOp a.eval o).run P w = .ok .skip w1) (h : K (a.put o.dst undef) w1) : wpOp P ops Q i K a w := by
 unfold wpOp
 rw [hi]
 simp only [Region.wanted, hg, if_true]
 left
 unfold Oper.wp
 rw [hr]
 exact h
theorem wpOp_call {i : Nat} {o : Oper} {a : Act} {w : World} {K : Act → World → Prop} (hi : ops[i]? = some o) (hg : o.guard = none) {f : FuncId} {fn : Func} {as : Array Operand} {ts : Array TypeId} (hf : P.funcs[f]? = some fn) (hname : (fn.name == "runtime.NumGoroutine") = false) (hb : fn.body.isSome = true) (args : Array Value)
  (hop : o.op = .call { callee := .value (.func f), args := as, argTypes := ts }) (hargs : as.map a.eval = args)
  (h : Calls P f args w fun e w' => ∃ v, e = .returned v ∧ K (a.put o.dst v) w') : wpOp P ops Q i K a w := by
 have := Go.Proofs.YtkddlhcpplkpbaaW.PrintLast.goes_ (ops := ops) (Q := Q) (K := K) (N := o.dst) (oi := o) (a := a) (w := w) hf hname hb args (by simp [Region.wanted, hg]) rfl hop hargs h
 unfold wpOp
 rw [hi]
 simp only [Region.wanted, hg, if_true] at this ⊢
 exact .inl this
end
end WB
namespace WB
open Go Go.RowKit Go.Proofs.YtkddlhcpplkpbaaW.PrintWords
/-- Places filled, one after the other. -/
def putL (a : Act) : List (Tmp × Value) → Act
 | [] => a
 | e :: r => putL (a.put (some e.1) e.2) r
theorem putL_defers : ∀ (l : List (Tmp × Value)) (a : Act), (putL a l).defers = a.defers
 | [], _ => rfl
 | e :: r, a => (putL_defers r _).trans rfl
theorem putL_out : ∀ (l : List (Tmp × Value)) (a : Act) (t : Tmp), (∀ e ∈ l, e.1 ≠ t) → (putL a l).tmps[t]? = a.tmps[t]?
 | [], _, _, _ => rfl
 | e :: r, a, t, h => (putL_out r _ t (fun x hx => h x (by simp [hx]))).trans (by simp [Act.put, Array.getElem?_setIfInBounds_ne (h e (by simp))])
theorem putL_in (x : Tmp → Value) : ∀ (l : List Tmp) (a : Act) (t : Tmp), t ∈ l → t < a.tmps.size → (putL a (l.map fun d => (d, x d))).tmps[t]? = some (x t)
 | d :: r, a, t, h, hs => by
  by_cases hr : t ∈ r
  · exact putL_in x r _ t hr (by simp [Act.put, hs])
  · obtain rfl : d = t := by
     rcases List.mem_cons.1 h with h | h
     · exact h.symm
     · exact absurd h hr
    have h1 : ∀ e ∈ r.map (fun d => (d, x d)), e.1 ≠ d := by
     intro e he hh
     obtain ⟨q, hq, rfl⟩ := List.mem_map.1 he
     have hh' : q = d := hh
     subst hh'
     exact hr hq
    exact (putL_out _ _ d h1).trans (by simp [Act.put, hs])
section
variable {P : Program} {ops : Array Oper} {Q : Exit → Act → World → Prop}
/-- A fact of a value that stays as the world grows. -/
abbrev Fact := Tmp × (Value → World → Prop)
def Fact.stays (e : Fact) : Prop := ∀ v w1 w2, Below w1.heap.size w1 w2 → e.2 v w1 → e.2 v w2
/-- A REGION THAT DRAWS ITS ORDER, whose operations make or read and write nothing that was there: one fact for each operation's value, each shown by itself. -/
theorem region_facts {id : Nat} {a0 : Act} {w0 w : World} {B : Nat} (facts : List Fact) (hm : P.follows .mixedOrders = true) (hb : backB ops = true)
   (hd : ops.toList.map (·.dst) = facts.map (fun e => some e.1)) (hnd : (facts.map (·.1)).Nodup) (hsz : ∀ e ∈ facts, e.1 < a0.tmps.size) (hst : ∀ e ∈ facts, Fact.stays e) (hB : Below B w0 w) (hBs : B ≤ w.heap.size)
   (step : ∀ i o e, ops[i]? = some o → facts[i]? = some e → ∀ a w1, a.tmps.size = a0.tmps.size → a.defers = a0.defers → (∀ t, t ∉ facts.map (·.1) → a.tmps[t]? = a0.tmps[t]?) → Below B w0 w1 → B ≤ w1.heap.size →
     (∀ d ∈ o.after, Region.binds .any d = true → ∀ q, facts[d.on]? = some q → q.2 (a.tmps.getD q.1 undef) w1) →
     wpOp P ops Q i (fun a' w2 => ∃ v, a' = a.put (some e.1) v ∧ e.2 v w2 ∧ Below w1.heap.size w1 w2) a w1)
   (fin : ∀ (x : Tmp → Value) w1, Below B w0 w1 → (∀ e ∈ facts, e.2 (x e.1) w1) → Q .normal (putL a0 ((facts.map (·.1)).map fun d => (d, x d))) w1) : (Code.region id ops true).wp P Q a0 w := by
 have hlen : facts.length = ops.size := by have := congrArg List.length hd; simpa using this.symm
 refine region_inv (fun f a w1 => (a.tmps.size = a0.tmps.size ∧ a.defers = a0.defers ∧ (∀ t, t ∉ facts.map (·.1) → a.tmps[t]? = a0.tmps[t]?)) ∧ Below B w0 w1 ∧ B ≤ w1.heap.size ∧ ∀ i e, facts[i]? = some e → f i = true → e.2 (a.tmps.getD e.1 undef) w1) hm hb ?_ ?_ ?_
 · refine ⟨⟨rfl, rfl, fun _ _ => rfl⟩, below_drew hB, hBs, fun i e he hf => ?_⟩
   have := (List.getElem?_eq_some_iff.1 he).1
   simp only [decide_eq_true_eq] at hf
   omega
 · intro f a w1 i o ⟨⟨hs, hdf, hfr⟩, hbl, hbs, hfa⟩ ho hfi haf
   have hi : i < facts.length := by rw [hlen]; exact (Array.getElem?_eq_some_iff.1 ho).1
   have he : facts[i]? = some facts[i] := List.getElem?_eq_getElem hi
   obtain ⟨e, hee⟩ : ∃ e, e = facts[i] := ⟨_, rfl⟩
   rw [← hee] at he
   refine wpOp_mono ?_ (step i o e ho he a w1 hs hdf hfr hbl hbs fun d hdm hbd q hq => hfa _ _ hq (haf d hdm hbd))
   rintro a' w2 ⟨v, rfl, hp, hbw⟩
   have hem : e ∈ facts := List.mem_of_getElem? he
   refine ⟨⟨by simp [Act.put, hs], by simp [Act.put, hdf], fun t ht => ?_⟩, below_then hbl hbs hbw, Nat.le_trans hbs hbw.size, fun j q hq hj => ?_⟩
   · rw [← hfr t ht]
     have : e.1 ≠ t := fun h => ht (h ▸ List.mem_map.2 ⟨e, hem, rfl⟩)
     simp [Act.put, Array.getElem?_setIfInBounds_ne this]
   · by_cases hji : j = i
     · subst hji
       rw [he] at hq
       cases hq
       have : e.1 < a.tmps.size := by rw [hs]; exact hsz e hem
       simpa [Act.put, this] using hp
     · have hj : f j = true := by simpa [hji] using hj
       have h1 := hst q (List.mem_of_getElem? hq) _ _ _ hbw (hfa j q hq hj)
       have hne : e.1 ≠ q.1 := by
         intro h
         have hj' : j < (facts.map (·.1)).length := by simp; exact (List.getElem?_eq_some_iff.1 hq).1
         have hi' : i < (facts.map (·.1)).length := by simpa using hi
         have e1 : (facts.map (·.1))[i] = e.1 := by simp [hee]
         have e2 : (facts.map (·.1))[j] = q.1 := by simp [(List.getElem?_eq_some_iff.1 hq).2]
         exact hji ((List.getElem_inj hnd).1 (by rw [e1, e2, h])).symm
       have : (a.put (some e.1) v).tmps.getD q.1 undef = a.tmps.getD q.1 undef := by
         simp [Act.put, Array.getD_eq_getD_getElem?, Array.getElem?_setIfInBounds_ne hne]
       rw [this]
       exact h1
 · intro f a w1 ⟨⟨hs, hdf, hfr⟩, hbl, hbs, hfa⟩ hall
   have h1 := fin (fun t => a.tmps.getD t undef) w1 hbl (fun e he => by
     obtain ⟨i, hi, rfl⟩ := List.mem_iff_getElem.1 he
     exact hfa i _ (List.getElem?_eq_getElem hi) (hall i))
   have he : putL a0 ((facts.map (·.1)).map fun d => (d, a.tmps.getD d undef)) = a := by
     have h2 : (putL a0 ((facts.map (·.1)).map fun d => (d, a.tmps.getD d undef))).tmps = a.tmps := by
       apply Array.ext_getElem?
       intro t
       by_cases ht : t ∈ facts.map (·.1)
       · obtain ⟨e, hem, rfl⟩ := List.mem_map.1 ht
         have hlt := hsz e hem
         rw [putL_in _ _ _ _ ht hlt, Array.getD_eq_getD_getElem?, Array.getElem?_eq_getElem (show e.1 < a.tmps.size by rw [hs]; exact hlt)]
         rfl
       · rw [hfr t ht]
         refine putL_out _ _ t fun q hq => ?_
         obtain ⟨d, hd', rfl⟩ := List.mem_map.1 hq
         exact fun h => ht (h ▸ hd')
     have h3 : (putL a0 ((facts.map (·.1)).map fun d => (d, a.tmps.getD d undef))).defers = a.defers := by rw [putL_defers, hdf]
     cases hx : putL a0 ((facts.map (·.1)).map fun d => (d, a.tmps.getD d undef))
     rw [hx] at h2 h3
     cases a
     simp only at h2 h3
     rw [h2, h3]
   rw [he] at h1
   exact h1
end
end WB
namespace WB
open Go Go.RowKit Go.Proofs.YtkddlhcpplkpbaaW.PrintWords
section
variable {P : Program} {ops : Array Oper} {Q : Exit → Act → World → Prop}
theorem wpOp_list {i : Nat} {o : Oper} {rest : List Oper} {a : Act} {w : World} (hi : ops[i]? = some o) : wpList P ops Q (o :: rest) a w = wpOp P ops Q i (wpList P ops Q rest) a w := by
 simp only [wpList, wpOp, hi]
/-- The same, where the region's last operations (from number n on) come one behind the other, when all others have come up. -/
theorem region_tail {id : Nat} {a0 : Act} {w0 w : World} {B : Nat} (n : Nat) (facts : List Fact) (hm : P.follows .mixedOrders = true) (hb : backB ops = true) (hn : n < ops.size)
   (hsk : Region.sinkB .any ops n = true) (hch : Region.chainB .any ops n = true)
   (hd : (ops.toList.take n).map (·.dst) = facts.map (fun e => some e.1)) (hnd : (facts.map (·.1)).Nodup) (hsz : ∀ e ∈ facts, e.1 < a0.tmps.size) (hst : ∀ e ∈ facts, Fact.stays e) (hB : Below B w0 w) (hBs : B ≤ w.heap.size)
   (step : ∀ i o e, ops[i]? = some o → facts[i]? = some e → ∀ a w1, a.tmps.size = a0.tmps.size → a.defers = a0.defers → (∀ t, t ∉ facts.map (·.1) → a.tmps[t]? = a0.tmps[t]?) → Below B w0 w1 → B ≤ w1.heap.size →
     (∀ d ∈ o.after, Region.binds .any d = true → ∀ q, facts[d.on]? = some q → q.2 (a.tmps.getD q.1 undef) w1) →
     wpOp P ops Q i (fun a' w2 => ∃ v, a' = a.put (some e.1) v ∧ e.2 v w2 ∧ Below w1.heap.size w1 w2) a w1)
   (fin : ∀ (x : Tmp → Value) w1, Below B w0 w1 → B ≤ w1.heap.size → (∀ e ∈ facts, e.2 (x e.1) w1) → wpList P ops Q (ops.toList.drop n) (putL a0 ((facts.map (·.1)).map fun d => (d, x d))) w1) : (Code.region id ops true).wp P Q a0 w := by
 have hlen : facts.length = n := by
   have := congrArg List.length hd
   simp at this
   omega
 let J : (Nat → Bool) → Act → World → Prop := fun f a w1 => ((a.tmps.size = a0.tmps.size ∧ a.defers = a0.defers ∧ (∀ t, t ∉ facts.map (·.1) → a.tmps[t]? = a0.tmps[t]?)) ∧ Below B w0 w1 ∧ B ≤ w1.heap.size ∧ ∀ i e, facts[i]? = some e → f i = true → e.2 (a.tmps.getD e.1 undef) w1) ∧ (∀ t, n ≤ t → t < ops.size → f t = false)
 let L : (Nat → Bool) → Act → World → Prop := fun f a w1 => ∃ k, n ≤ k ∧ k ≤ ops.size ∧ (∀ j, j < k → f j = true) ∧ (∀ j, k ≤ j → j < ops.size → f j = false) ∧ wpList P ops Q (ops.toList.drop k) a w1
 let C : (Nat → Bool) → Prop := fun f => ∀ j oj, ops[j]? = some oj → f j = true → ∀ e ∈ oj.after, Region.binds .any e = true → f e.on = true
 have hC : ∀ (f : Nat → Bool) (i : Nat) (o : Oper), C f → ops[i]? = some o → (∀ e ∈ o.after, Region.binds .any e = true → f e.on = true) → C (fun j => if j = i then true else f j) := by
   intro f i o hc ho haf j oj hj hfj e he hbd
   by_cases hei : e.on = i
   · simp [hei]
   · show (if e.on = i then true else f e.on) = true
     rw [if_neg hei]
     by_cases hji : j = i
     · subst hji
       rw [ho] at hj
       cases hj
       exact haf e he hbd
     · have : f j = true := by simpa [hji] using hfj
       exact hc j oj hj this e he hbd
 have hwait : ∀ (f : Nat → Bool) (i t : Nat), (∀ o, ops[t]? = some o → ∀ e ∈ o.after, Region.binds .any e = true → f e.on = true) → Region.waitsFor .any ops t i = true → f i = true := by
   intro f i t haf hw
   obtain ⟨oj, hj, e, he, hbd, rfl⟩ := Region.waitsFor_spec hw
   exact haf oj hj e he hbd
 refine region_inv (fun f a w1 => C f ∧ (J f a w1 ∨ L f a w1)) hm hb ?_ ?_ ?_
 · refine ⟨fun j oj hj hfj => ?_, .inl ⟨⟨⟨rfl, rfl, fun _ _ => rfl⟩, below_drew hB, hBs, fun i e he hf => ?_⟩, fun t _ ht => by simp; omega⟩⟩
   · have := (Array.getElem?_eq_some_iff.1 hj).1
     simp only [decide_eq_true_eq] at hfj
     omega
   · have := (List.getElem?_eq_some_iff.1 he).1
     simp only [decide_eq_true_eq] at hf
     omega
 · intro f a w1 i o ⟨hc, hJL⟩ ho hfi haf
   have hio := (Array.getElem?_eq_some_iff.1 ho).1
   rcases hJL with ⟨⟨⟨hs, hdf, hfr⟩, hbl, hbs, hfa⟩, htl⟩ | ⟨k, hnk, hks, hk1, hk2, hwp⟩
   · rcases Nat.lt_or_ge i n with hin | hin
     · have hi : i < facts.length := by omega
       have he : facts[i]? = some facts[i] := List.getElem?_eq_getElem hi
       obtain ⟨e, hee⟩ : ∃ e, e = facts[i] := ⟨_, rfl⟩
       rw [← hee] at he
       refine wpOp_mono ?_ (step i o e ho he a w1 hs hdf hfr hbl hbs fun d hdm hbd q hq => hfa _ _ hq (haf d hdm hbd))
       rintro a' w2 ⟨v, rfl, hp, hbw⟩
       have hem : e ∈ facts := List.mem_of_getElem? he
       refine ⟨hC f i o hc ho haf, .inl ⟨⟨⟨by simp [Act.put, hs], by simp [Act.put, hdf], fun t ht => ?_⟩, below_then hbl hbs hbw, Nat.le_trans hbs hbw.size, fun j q hq hj => ?_⟩, fun t ht ht' => ?_⟩⟩
       · rw [← hfr t ht]
         have : e.1 ≠ t := fun h => ht (h ▸ List.mem_map.2 ⟨e, hem, rfl⟩)
         simp [Act.put, Array.getElem?_setIfInBounds_ne this]
       · by_cases hji : j = i
         · subst hji
           rw [he] at hq
           cases hq
           have : e.1 < a.tmps.size := by rw [hs]; exact hsz e hem
           simpa [Act.put, this] using hp
         · have hj : f j = true := by simpa [hji] using hj
           have h1 := hst q (List.mem_of_getElem? hq) _ _ _ hbw (hfa j q hq hj)
           have hne : e.1 ≠ q.1 := by
             intro h
             have hj' : j < (facts.map (·.1)).length := by simp; exact (List.getElem?_eq_some_iff.1 hq).1
             have hi' : i < (facts.map (·.1)).length := by simpa using hi
             have e1 : (facts.map (·.1))[i] = e.1 := by simp [hee]
             have e2 : (facts.map (·.1))[j] = q.1 := by simp [(List.getElem?_eq_some_iff.1 hq).2]
             exact hji ((List.getElem_inj hnd).1 (by rw [e1, e2, h])).symm
           have : (a.put (some e.1) v).tmps.getD q.1 undef = a.tmps.getD q.1 undef := by
             simp [Act.put, Array.getD_eq_getD_getElem?, Array.getElem?_setIfInBounds_ne hne]
           rw [this]
           exact h1
       · show (if t = i then true else f t) = false
         rw [if_neg (by omega)]
         exact htl t ht ht'
     · have hin' : i = n := by
         rcases Nat.lt_or_ge n i with h | h
         · have h2 := List.all_eq_true.1 hch i (List.mem_range.2 hio)
           simp only [Bool.or_eq_true, decide_eq_true_eq] at h2
           have h3 := hwait f (i - 1) i (fun o' ho' => by rw [ho] at ho'; cases ho'; exact haf) (h2.resolve_left (by omega))
           rw [htl (i - 1) (by omega) (by omega)] at h3
           cases h3
         · omega
       subst hin'
       have hall : ∀ d j, j + d = i → 0 < d → f j = true := by
         intro d
         induction d using Nat.strongRecOn with
         | ind d ih =>
           intro j hj hd0
           have h2 := List.all_eq_true.1 hsk j (List.mem_range.2 (by omega))
           obtain ⟨t, ht, h3⟩ := List.any_eq_true.1 h2
           have ht' := List.mem_range.1 ht
           simp only [Bool.and_eq_true, decide_eq_true_eq] at h3
           refine hwait f j t (fun o' ho' => ?_) h3.2
           rcases Nat.lt_or_ge t i with h | h
           · exact hc t o' ho' (ih (i - t) (by omega) t (by omega) (by omega))
           · obtain rfl : t = i := by omega
             rw [ho] at ho'
             cases ho'
             exact haf
       have hall' : ∀ j, j < i → f j = true := fun j hj => hall (i - j) j (by omega) (by omega)
       have h1 := fin (fun t => a.tmps.getD t undef) w1 hbl hbs (fun e he => by
         obtain ⟨j, hj, rfl⟩ := List.mem_iff_getElem.1 he
         exact hfa j _ (List.getElem?_eq_getElem hj) (hall' j (by omega)))
       have he : putL a0 ((facts.map (·.1)).map fun d => (d, a.tmps.getD d undef)) = a := by
         have h2 : (putL a0 ((facts.map (·.1)).map fun d => (d, a.tmps.getD d undef))).tmps = a.tmps := by
           apply Array.ext_getElem?
           intro t
           by_cases ht : t ∈ facts.map (·.1)
           · obtain ⟨e, hem, rfl⟩ := List.mem_map.1 ht
             have hlt := hsz e hem
             rw [putL_in _ _ _ _ ht hlt, Array.getD_eq_getD_getElem?, Array.getElem?_eq_getElem (show e.1 < a.tmps.size by rw [hs]; exact hlt)]
             rfl
           · rw [hfr t ht]
             refine putL_out _ _ t fun q hq => ?_
             obtain ⟨d, hd', rfl⟩ := List.mem_map.1 hq
             exact fun h => ht (h ▸ hd')
         have h3 : (putL a0 ((facts.map (·.1)).map fun d => (d, a.tmps.getD d undef))).defers = a.defers := by rw [putL_defers, hdf]
         cases hx : putL a0 ((facts.map (·.1)).map fun d => (d, a.tmps.getD d undef))
         rw [hx] at h2 h3
         cases a
         simp only at h2 h3
         rw [h2, h3]
       rw [he] at h1
       have hdr : ops.toList.drop i = o :: ops.toList.drop (i + 1) := by
         rw [List.drop_eq_getElem_cons (by simpa using hio)]
         congr 1
         have := (Array.getElem?_eq_some_iff.1 ho).2
         simpa using this
       rw [hdr, wpOp_list ho] at h1
       refine wpOp_mono (fun a' w2 h => ⟨hC f i o hc ho haf, .inr ⟨i + 1, by omega, by omega, fun j hj => ?_, fun j hj hj' => ?_, h⟩⟩) h1
       · show (if j = i then true else f j) = true
         by_cases hji : j = i
         · rw [if_pos hji]
         · rw [if_neg hji]; exact hall' j (by omega)
       · show (if j = i then true else f j) = false
         rw [if_neg (by omega)]
         exact htl j (by omega) hj'
   · have hik : i = k := by
       rcases Nat.lt_or_ge i k with h | h
       · rw [hk1 i h] at hfi; cases hfi
       · rcases Nat.lt_or_ge k i with h' | h'
         · have h2 := List.all_eq_true.1 hch i (List.mem_range.2 hio)
           simp only [Bool.or_eq_true, decide_eq_true_eq] at h2
           have h3 := hwait f (i - 1) i (fun o' ho' => by rw [ho] at ho'; cases ho'; exact haf) (h2.resolve_left (by omega))
           rw [hk2 (i - 1) (by omega) (by omega)] at h3
           cases h3
         · omega
     subst hik
     have hdr : ops.toList.drop i = o :: ops.toList.drop (i + 1) := by
       rw [List.drop_eq_getElem_cons (by simpa using hio)]
       congr 1
       have := (Array.getElem?_eq_some_iff.1 ho).2
       simpa using this
     rw [hdr, wpOp_list ho] at hwp
     refine wpOp_mono (fun a' w2 h => ⟨hC f i o hc ho haf, .inr ⟨i + 1, by omega, by omega, fun j hj => ?_, fun j hj hj' => ?_, h⟩⟩) hwp
     · show (if j = i then true else f j) = true
       by_cases hji : j = i
       · rw [if_pos hji]
       · rw [if_neg hji]; exact hk1 j (by omega)
     · show (if j = i then true else f j) = false
       rw [if_neg (by omega)]
       exact hk2 j (by omega) hj'
 · intro f a w1 ⟨hc, hJL⟩ hall
   rcases hJL with ⟨_, htl⟩ | ⟨k, hnk, hks, hk1, hk2, hwp⟩
   · have := htl n (Nat.le_refl _) hn
     rw [hall n] at this
     cases this
   · have : k = ops.size := by
       rcases Nat.lt_or_ge k ops.size with h | h
       · have := hk2 k (Nat.le_refl _) h
         rw [hall k] at this
         cases this
       · omega
     subst this
     rw [List.drop_of_length_le (by simp)] at hwp
     exact hwp
end
end WB
end
section
namespace WB
open Go Go.RowKit Go.Proofs.YtkddlhcpplkpbaaW.PrintWords
section
variable {P : Program} {ops : Array Oper} {Q : Exit → Act → World → Prop}
theorem wanted_of {o : Oper} {a : Act} {n : Nat} {d : Tmp} {b : Bool} (hg : o.guard = some (n, b)) (hd : (ops[n]?).bind (·.dst) = some d) (hs : d < a.tmps.size) (he : a.tmps.getD d undef = .bool b) : Region.wanted o (yielded ops a.tmps) = true := by
 have h1 : a.tmps[d]? = some (.bool b) := by
  rw [Array.getD_eq_getD_getElem?, Array.getElem?_eq_getElem hs] at he
  rw [Array.getElem?_eq_getElem hs]
  simpa using he
 have h2 : yielded ops a.tmps n = some b := by
  unfold yielded
  rw [hd]
  simp only [Option.bind_some, h1]
 unfold Region.wanted
 rw [hg]
 simp only [h2]
 simp
theorem unwanted_of {o : Oper} {a : Act} {n : Nat} {d : Tmp} {b : Bool} {v : Value} (hg : o.guard = some (n, b)) (hd : (ops[n]?).bind (·.dst) = some d) (he : a.tmps.getD d undef = v) (hv : v ≠ .bool b) : Region.wanted o (yielded ops a.tmps) = false := by
 have h2 : yielded ops a.tmps n ≠ some b := by
  unfold yielded
  rw [hd]
  simp only [Option.bind_some]
  rcases Nat.lt_or_ge d a.tmps.size with hs | hs
  · rw [Array.getD_eq_getD_getElem?, Array.getElem?_eq_getElem hs] at he
    rw [Array.getElem?_eq_getElem hs]
    simp only [Option.getD_some] at he
    rw [he]
    split
    · rename_i c h
      intro hh
      injection h with h
      injection hh with hh
      exact hv (by rw [h, hh])
    · simp
  · rw [Array.getElem?_eq_none hs]
    simp
 unfold Region.wanted
 rw [hg]
 simp only [beq_eq_false_iff_ne, ne_eq]
 exact h2
theorem wpOp_value_w {i : Nat} {o : Oper} {a : Act} {w w1 : World} {v : Value} {K : Act → World → Prop} (hi : ops[i]? = some o) (hw : Region.wanted o (yielded ops a.tmps) = true) (hr : (execOp a.eval o).run P w = .ok (.value v) w1) (h : K (a.put o.dst v) w1) : wpOp P ops Q i K a w := by
 unfold wpOp
 rw [hi]
 simp only [hw, if_true]
 left
 unfold Oper.wp
 rw [hr]
 exact h
theorem wpOp_call_w {i : Nat} {o : Oper} {a : Act} {w : World} {K : Act → World → Prop} (hi : ops[i]? = some o) (hw : Region.wanted o (yielded ops a.tmps) = true) {f : FuncId} {fn : Func} {as : Array Operand} {ts : Array TypeId} (hf : P.funcs[f]? = some fn) (hname : (fn.name == "runtime.NumGoroutine") = false) (hb : fn.body.isSome = true) (args : Array Value)
  (hop : o.op = .call { callee := .value (.func f), args := as, argTypes := ts }) (hargs : as.map a.eval = args)
  (h : Calls P f args w fun e w' => ∃ v, e = .returned v ∧ K (a.put o.dst v) w') : wpOp P ops Q i K a w := by
 have := Go.Proofs.YtkddlhcpplkpbaaW.PrintLast.goes_ (ops := ops) (Q := Q) (K := K) (N := o.dst) (oi := o) (a := a) (w := w) hf hname hb args hw rfl hop hargs h
 unfold wpOp
 rw [hi]
 simp only [hw, if_true] at this ⊢
 exact .inl this
theorem wpOp_step {i : Nat} {o : Oper} {a : Act} {w : World} {K : Act → World → Prop} (hi : ops[i]? = some o) (h : ∀ K' : Act → World → Prop, (∀ a' w', K a' w' → K' a' w') → if Region.wanted o (yielded ops a.tmps) = true then Oper.wp P o a w K' Q else K' (a.put o.dst undef) w) : wpOp P ops Q i K a w := by
 replace h := h K (fun _ _ h => h)
 unfold wpOp
 rw [hi]
 dsimp only
 split at h
 · rename_i hw; rw [if_pos hw]; exact .inl h
 · rename_i hw; rw [if_neg hw]; exact h
end
end WB
end
