/- Words for walks by hand: a region that draws its order, each operation with its own way to move the world. -/
import Derived.Test.YtkdkjnjiianogaaQReg
set_option linter.unusedVariables false
namespace WB
open Go Go.RowKit Go.Proofs.YtkdkjnjiianogaaW.PrintWords
section
variable {P : Program} {ops : Array Oper} {Q : Exit → Act → World → Prop}
/-- The same, where each operation tells how it moves the world (Rl), and a fact need not stay under an operation that it waits for. -/
theorem region_moves {id : Nat} {a0 : Act} {w : World} (n : Nat) (Rl : Nat → World → World → Prop) (Tr : (Nat → Bool) → World → Prop) (facts : List Fact) (hm : P.follows .mixedOrders = true) (hb : backB ops = true) (hn : n < ops.size)
    (hsk : Region.sinkB .any ops n = true) (hch : Region.chainB .any ops n = true)
    (hd : (ops.toList.take n).map (·.dst) = facts.map (fun e => some e.1)) (hnd : (facts.map (·.1)).Nodup) (hsz : ∀ e ∈ facts, e.1 < a0.tmps.size) (hst : ∀ i j q, facts[j]? = some q → i ≠ j → i < n → Region.waitsFor .any ops j i = true ∨ ∀ f v w1 w2, Tr f w1 → Rl i w1 w2 → q.2 v w1 → q.2 v w2) (hT0 : ∀ f, (∀ j, j < ops.size → f j = false) → Tr f w.drew) (hT : ∀ f i w1 w2, f i = false → Tr f w1 → Rl i w1 w2 → Tr (fun j => if j = i then true else f j) w2)
    (step : ∀ i o e, ops[i]? = some o → facts[i]? = some e → ∀ f a w1, f i = false → a.tmps.size = a0.tmps.size → a.defers = a0.defers → (∀ t, t ∉ facts.map (·.1) → a.tmps[t]? = a0.tmps[t]?) → Tr f w1 →
      (∀ d ∈ o.after, Region.binds .any d = true → ∀ q, facts[d.on]? = some q → q.2 (a.tmps.getD q.1 undef) w1) →
      wpOp P ops Q i (fun a' w2 => ∃ v, a' = a.put (some e.1) v ∧ e.2 v w2 ∧ Rl i w1 w2) a w1)
    (fin : ∀ (x : Tmp → Value) f w1, Tr f w1 → (∀ e ∈ facts, e.2 (x e.1) w1) → wpList P ops Q (ops.toList.drop n) (putL a0 ((facts.map (·.1)).map fun d => (d, x d))) w1) : (Code.region id ops true).wp P Q a0 w := by
  have hlen : facts.length = n := by
    have := congrArg List.length hd
    simp at this
    omega
  let J : (Nat → Bool) → Act → World → Prop := fun f a w1 => ((a.tmps.size = a0.tmps.size ∧ a.defers = a0.defers ∧ (∀ t, t ∉ facts.map (·.1) → a.tmps[t]? = a0.tmps[t]?)) ∧ Tr f w1 ∧ ∀ i e, facts[i]? = some e → f i = true → e.2 (a.tmps.getD e.1 undef) w1) ∧ (∀ t, n ≤ t → t < ops.size → f t = false)
  let L : (Nat → Bool) → Act → World → Prop := fun f a w1 => ∃ k, n ≤ k ∧ k ≤ ops.size ∧ (∀ j, j < k → f j = true) ∧ (∀ j, k ≤ j → j < ops.size → f j = false) ∧ wpList P ops Q (ops.toList.drop k) a w1
  let C : (Nat → Bool) → Prop := fun f => ∀ j oj, ops[j]? = some oj → f j = true → ∀ e ∈ oj.after, Region.binds .any e = true → f e.on = true
  have hC : ∀ (f : Nat → Bool) (i : Nat) (o : Oper), C f → ops[i]? = some o → (∀ e ∈ o.after, Region.binds .any e = true → f e.on = true) → C (fun j => if j = i then true else f j) := by
    intro f i o hc ho haf j oj hj hfj e he hbd
    by_cases hei : e.on = i
    · simp [hei]
    · show (if e.on = i then true else f e.on) = true
      rw [if_neg hei]
      by_cases hji : j = i
      · subst hji
        rw [ho] at hj
        cases hj
        exact haf e he hbd
      · have : f j = true := by simpa [hji] using hfj
        exact hc j oj hj this e he hbd
  have hwait : ∀ (f : Nat → Bool) (i t : Nat), (∀ o, ops[t]? = some o → ∀ e ∈ o.after, Region.binds .any e = true → f e.on = true) → Region.waitsFor .any ops t i = true → f i = true := by
    intro f i t haf hw
    obtain ⟨oj, hj, e, he, hbd, rfl⟩ := Region.waitsFor_spec hw
    exact haf oj hj e he hbd
  refine region_inv (fun f a w1 => C f ∧ (J f a w1 ∨ L f a w1)) hm hb ?_ ?_ ?_
  · refine ⟨fun j oj hj hfj => ?_, .inl ⟨⟨⟨rfl, rfl, fun _ _ => rfl⟩, hT0 _ (fun j hj => by simp; omega), fun i e he hf => ?_⟩, fun t _ ht => by simp; omega⟩⟩
    · have := (Array.getElem?_eq_some_iff.1 hj).1
      simp only [decide_eq_true_eq] at hfj
      omega
    · have := (List.getElem?_eq_some_iff.1 he).1
      simp only [decide_eq_true_eq] at hf
      omega
  · intro f a w1 i o ⟨hc, hJL⟩ ho hfi haf
    have hio := (Array.getElem?_eq_some_iff.1 ho).1
    rcases hJL with ⟨⟨⟨hs, hdf, hfr⟩, hbl, hfa⟩, htl⟩ | ⟨k, hnk, hks, hk1, hk2, hwp⟩
    · rcases Nat.lt_or_ge i n with hin | hin
      · have hi : i < facts.length := by omega
        have he : facts[i]? = some facts[i] := List.getElem?_eq_getElem hi
        obtain ⟨e, hee⟩ : ∃ e, e = facts[i] := ⟨_, rfl⟩
        rw [← hee] at he
        refine wpOp_mono ?_ (step i o e ho he f a w1 hfi hs hdf hfr hbl fun d hdm hbd q hq => hfa _ _ hq (haf d hdm hbd))
        rintro a' w2 ⟨v, rfl, hp, hbw⟩
        have hem : e ∈ facts := List.mem_of_getElem? he
        refine ⟨hC f i o hc ho haf, .inl ⟨⟨⟨by simp [Act.put, hs], by simp [Act.put, hdf], fun t ht => ?_⟩, hT _ _ _ _ hfi hbl hbw, fun j q hq hj => ?_⟩, fun t ht ht' => ?_⟩⟩
        · rw [← hfr t ht]
          have : e.1 ≠ t := fun h => ht (h ▸ List.mem_map.2 ⟨e, hem, rfl⟩)
          simp [Act.put, Array.getElem?_setIfInBounds_ne this]
        · by_cases hji : j = i
          · subst hji
            rw [he] at hq
            cases hq
            have : e.1 < a.tmps.size := by rw [hs]; exact hsz e hem
            simpa [Act.put, this] using hp
          · have hj : f j = true := by simpa [hji] using hj
            have h1 : q.2 (a.tmps.getD q.1 undef) w2 := by
              rcases hst i j q hq (fun h => hji h.symm) hin with hw | hst'
              · have := hwait f i j (fun oj hoj => hc j oj hoj hj) hw
                rw [hfi] at this
                cases this
              · exact hst' f _ _ _ hbl hbw (hfa j q hq hj)
            have hne : e.1 ≠ q.1 := by
              intro h
              have hj' : j < (facts.map (·.1)).length := by simp; exact (List.getElem?_eq_some_iff.1 hq).1
              have hi' : i < (facts.map (·.1)).length := by simpa using hi
              have e1 : (facts.map (·.1))[i] = e.1 := by simp [hee]
              have e2 : (facts.map (·.1))[j] = q.1 := by simp [(List.getElem?_eq_some_iff.1 hq).2]
              exact hji ((List.getElem_inj hnd).1 (by rw [e1, e2, h])).symm
            have : (a.put (some e.1) v).tmps.getD q.1 undef = a.tmps.getD q.1 undef := by
              simp [Act.put, Array.getD_eq_getD_getElem?, Array.getElem?_setIfInBounds_ne hne]
            rw [this]
            exact h1
        · show (if t = i then true else f t) = false
          rw [if_neg (by omega)]
          exact htl t ht ht'
      · have hin' : i = n := by
          rcases Nat.lt_or_ge n i with h | h
          · have h2 := List.all_eq_true.1 hch i (List.mem_range.2 hio)
            simp only [Bool.or_eq_true, decide_eq_true_eq] at h2
            have h3 := hwait f (i - 1) i (fun o' ho' => by rw [ho] at ho'; cases ho'; exact haf) (h2.resolve_left (by omega))
            rw [htl (i - 1) (by omega) (by omega)] at h3
            cases h3
          · omega
        subst hin'
        have hall : ∀ d j, j + d = i → 0 < d → f j = true := by
          intro d
          induction d using Nat.strongRecOn with
          | ind d ih =>
            intro j hj hd0
            have h2 := List.all_eq_true.1 hsk j (List.mem_range.2 (by omega))
            obtain ⟨t, ht, h3⟩ := List.any_eq_true.1 h2
            have ht' := List.mem_range.1 ht
            simp only [Bool.and_eq_true, decide_eq_true_eq] at h3
            refine hwait f j t (fun o' ho' => ?_) h3.2
            rcases Nat.lt_or_ge t i with h | h
            · exact hc t o' ho' (ih (i - t) (by omega) t (by omega) (by omega))
            · obtain rfl : t = i := by omega
              rw [ho] at ho'
              cases ho'
              exact haf
        have hall' : ∀ j, j < i → f j = true := fun j hj => hall (i - j) j (by omega) (by omega)
        have h1 := fin (fun t => a.tmps.getD t undef) f w1 hbl (fun e he => by
          obtain ⟨j, hj, rfl⟩ := List.mem_iff_getElem.1 he
          exact hfa j _ (List.getElem?_eq_getElem hj) (hall' j (by omega)))
        have he : putL a0 ((facts.map (·.1)).map fun d => (d, a.tmps.getD d undef)) = a := by
          have h2 : (putL a0 ((facts.map (·.1)).map fun d => (d, a.tmps.getD d undef))).tmps = a.tmps := by
            apply Array.ext_getElem?
            intro t
            by_cases ht : t ∈ facts.map (·.1)
            · obtain ⟨e, hem, rfl⟩ := List.mem_map.1 ht
              have hlt := hsz e hem
              rw [putL_in _ _ _ _ ht hlt, Array.getD_eq_getD_getElem?, Array.getElem?_eq_getElem (show e.1 < a.tmps.size by rw [hs]; exact hlt)]
              rfl
            · rw [hfr t ht]
              refine putL_out _ _ t fun q hq => ?_
              obtain ⟨d, hd', rfl⟩ := List.mem_map.1 hq
              exact fun h => ht (h ▸ hd')
          have h3 : (putL a0 ((facts.map (·.1)).map fun d => (d, a.tmps.getD d undef))).defers = a.defers := by rw [putL_defers, hdf]
          cases hx : putL a0 ((facts.map (·.1)).map fun d => (d, a.tmps.getD d undef))
          rw [hx] at h2 h3
          cases a
          simp only at h2 h3
          rw [h2, h3]
        rw [he] at h1
        have hdr : ops.toList.drop i = o :: ops.toList.drop (i + 1) := by
          rw [List.drop_eq_getElem_cons (by simpa using hio)]
          congr 1
          have := (Array.getElem?_eq_some_iff.1 ho).2
          simpa using this
        rw [hdr, wpOp_list ho] at h1
        refine wpOp_mono (fun a' w2 h => ⟨hC f i o hc ho haf, .inr ⟨i + 1, by omega, by omega, fun j hj => ?_, fun j hj hj' => ?_, h⟩⟩) h1
        · show (if j = i then true else f j) = true
          by_cases hji : j = i
          · rw [if_pos hji]
          · rw [if_neg hji]; exact hall' j (by omega)
        · show (if j = i then true else f j) = false
          rw [if_neg (by omega)]
          exact htl j (by omega) hj'
    · have hik : i = k := by
        rcases Nat.lt_or_ge i k with h | h
        · rw [hk1 i h] at hfi; cases hfi
        · rcases Nat.lt_or_ge k i with h' | h'
          · have h2 := List.all_eq_true.1 hch i (List.mem_range.2 hio)
            simp only [Bool.or_eq_true, decide_eq_true_eq] at h2
            have h3 := hwait f (i - 1) i (fun o' ho' => by rw [ho] at ho'; cases ho'; exact haf) (h2.resolve_left (by omega))
            rw [hk2 (i - 1) (by omega) (by omega)] at h3
            cases h3
          · omega
      subst hik
      have hdr : ops.toList.drop i = o :: ops.toList.drop (i + 1) := by
        rw [List.drop_eq_getElem_cons (by simpa using hio)]
        congr 1
        have := (Array.getElem?_eq_some_iff.1 ho).2
        simpa using this
      rw [hdr, wpOp_list ho] at hwp
      refine wpOp_mono (fun a' w2 h => ⟨hC f i o hc ho haf, .inr ⟨i + 1, by omega, by omega, fun j hj => ?_, fun j hj hj' => ?_, h⟩⟩) hwp
      · show (if j = i then true else f j) = true
        by_cases hji : j = i
        · rw [if_pos hji]
        · rw [if_neg hji]; exact hk1 j (by omega)
      · show (if j = i then true else f j) = false
        rw [if_neg (by omega)]
        exact hk2 j (by omega) hj'
  · intro f a w1 ⟨hc, hJL⟩ hall
    rcases hJL with ⟨_, htl⟩ | ⟨k, hnk, hks, hk1, hk2, hwp⟩
    · have := htl n (Nat.le_refl _) hn
      rw [hall n] at this
      cases this
    · have : k = ops.size := by
        rcases Nat.lt_or_ge k ops.size with h | h
        · have := hk2 k (Nat.le_refl _) h
          rw [hall k] at this
          cases this
        · omega
      subst this
      rw [List.drop_of_length_le (by simp)] at hwp
      exact hwp
theorem wanted_of {o : Oper} {a : Act} {n : Nat} {d : Tmp} {b : Bool} (hg : o.guard = some (n, b)) (hd : (ops[n]?).bind (·.dst) = some d) (hs : d < a.tmps.size) (he : a.tmps.getD d undef = .bool b) : Region.wanted o (yielded ops a.tmps) = true := by
  have h1 : a.tmps[d]? = some (.bool b) := by
    rw [Array.getD_eq_getD_getElem?, Array.getElem?_eq_getElem hs] at he
    rw [Array.getElem?_eq_getElem hs]
    simpa using he
  have h2 : yielded ops a.tmps n = some b := by
    unfold yielded
    rw [hd]
    simp only [Option.bind_some, h1]
  unfold Region.wanted
  rw [hg]
  simp only [h2]
  simp
theorem unwanted_of {o : Oper} {a : Act} {n : Nat} {d : Tmp} {b : Bool} {v : Value} (hg : o.guard = some (n, b)) (hd : (ops[n]?).bind (·.dst) = some d) (he : a.tmps.getD d undef = v) (hv : v ≠ .bool b) : Region.wanted o (yielded ops a.tmps) = false := by
  have h2 : yielded ops a.tmps n ≠ some b := by
    unfold yielded
    rw [hd]
    simp only [Option.bind_some]
    rcases Nat.lt_or_ge d a.tmps.size with hs | hs
    · rw [Array.getD_eq_getD_getElem?, Array.getElem?_eq_getElem hs] at he
      rw [Array.getElem?_eq_getElem hs]
      simp only [Option.getD_some] at he
      rw [he]
      split
      · rename_i c h
        intro hh
        injection h with h
        injection hh with hh
        exact hv (by rw [h, hh])
      · simp
    · rw [Array.getElem?_eq_none hs]
      simp
  unfold Region.wanted
  rw [hg]
  simp only [beq_eq_false_iff_ne, ne_eq]
  exact h2
theorem wpOp_unwanted {i : Nat} {o : Oper} {a : Act} {w : World} {K : Act → World → Prop} (hi : ops[i]? = some o) (hw : Region.wanted o (yielded ops a.tmps) = false) (h : K (a.put o.dst undef) w) : wpOp P ops Q i K a w := by
  unfold wpOp
  rw [hi]
  simp only [hw]
  exact h
theorem wpOp_value_w {i : Nat} {o : Oper} {a : Act} {w w1 : World} {v : Value} {K : Act → World → Prop} (hi : ops[i]? = some o) (hw : Region.wanted o (yielded ops a.tmps) = true) (hr : (execOp a.eval o).run P w = .ok (.value v) w1) (h : K (a.put o.dst v) w1) : wpOp P ops Q i K a w := by
  unfold wpOp
  rw [hi]
  simp only [hw, if_true]
  left
  unfold Oper.wp
  rw [hr]
  exact h
theorem wpOp_step {i : Nat} {o : Oper} {a : Act} {w : World} {K : Act → World → Prop} (hi : ops[i]? = some o) (h : ∀ K' : Act → World → Prop, (∀ a' w', K a' w' → K' a' w') → if Region.wanted o (yielded ops a.tmps) = true then Oper.wp P o a w K' Q else K' (a.put o.dst undef) w) : wpOp P ops Q i K a w := by
  replace h := h K (fun _ _ h => h)
  unfold wpOp
  rw [hi]
  dsimp only
  split at h
  · rename_i hw; rw [if_pos hw]; exact .inl h
  · rename_i hw; rw [if_neg hw]; exact h
end
end WB
