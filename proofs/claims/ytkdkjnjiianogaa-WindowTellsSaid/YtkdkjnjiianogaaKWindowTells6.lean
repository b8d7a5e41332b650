/- WindowTells: texts of this claim, packed: what the kit's print has written for it and own texts, without what its proof does not reach. -/
import Derived.Test.YtkdkjnjiianogaaKWindowTells5
import Derived.Lib.Overlaps
import Derived.Lib.AppendZeros
import Derived.Lib.AppendZerosOnto
import Derived.Laws.Externs
import Derived.Deep.RegionLaw
set_option linter.unusedVariables false
set_option linter.unusedSimpArgs false
set_option linter.unusedSectionVars false
section
set_option linter.unusedVariables false
set_option linter.unusedSimpArgs false
namespace WB
open Go Go.RowKit Go.Proofs.YtkdkjnjiianogaaW.PrintWords Go.Proofs.YtkdkjnjiianogaaW.PrintLast Go.Proofs.YtkdkjnjiianogaaW.PrintMore
open Kd
theorem run_copy_rows {P : Program} (w : World) (dT sT ty elem : TypeId) (sz b o dLen dCap : Nat) (a : Addr) (sLen sCap : Nat) (cs : List Value)
    (hu : P.underlying dT = some (.slice elem)) (hs : (P.info? elem).map (·.size) = some sz) (hn : cs.length = Nat.min sLen dLen * sz)
    (hsrc : ∀ j v, cs[j]? = some v → w.cell? (a.add j) = some v) (hc : ∀ j, j < cs.length → (w.cell? ⟨b, o + j, none⟩).isSome = true) (hf : ∀ j, j < cs.length → w.frozen? ⟨b, o + j, none⟩ = false) (h1 : ∀ v ∈ cs, v.oneCell' = true) :
    (Builtin.copy_ #[dT, sT] ty #[.slice (some ⟨b, o, none⟩) dLen dCap, .slice (some a) sLen sCap]).run P w = .ok (goInt (Nat.min sLen dLen)) (w.setCells b o cs) := by
  have hl := run_loadCells_list (P := P) w a cs hsrc
  have hst := run_storeCells_cells (P := P) b o cs 0 w (by simpa using hc) (by simpa using hf) h1
  cases hq : P.info? elem with
  | none => simp [hq] at hs
  | some i =>
    have hi : i.size = sz := by simpa [hq] using hs
    simp [Builtin.copy_, run_underlying hu, Builtin.lenOf, Builtin.firstCells, Go.sizeOf, typeInfo, hq, hi, ← hn, hl, hst]
section
variable {e g n cap base sz : Nat} {ok : Nat → Prop} {w : World} {rows : List (List Value)}
theorem raw_block (h : (raw sz).R e w base ok (.slice (some ⟨g, 0, none⟩) n cap) rows) : base ≤ g ∧ rows.length = n ∧ n ≤ cap ∧ cap ≤ maxLen ∧ ∃ cur : Array Value, w.heap[g]? = some (.cells cur e (0, 0)) ∧ cur.size = cap * sz ∧
    ∀ j c, rows[j]? = some c → c = (cur.toList.drop (j * sz)).take sz ∧ c.length = sz ∧ ∀ u ∈ c, u.oneCell' = true := by
  obtain ⟨_, inner, ⟨ho1, ho2⟩, hr⟩ := h
  rcases ho2 with ⟨hv, _⟩ | ⟨g', cap', cur, hv, hb, hh, hnc, hcm, hcs, ht⟩
  · cases hv
  injection hv with ha hn hc
  injection ha with ha
  injection ha with hg
  subst hg; subst hc
  have hl : rows.length = n := hn.symm
  refine ⟨hb, hl, by rw [← hl]; exact hnc, hcm, cur, hh, hcs, fun j c hj => ?_⟩
  have hjl := (List.getElem?_eq_some_iff.1 hj).1
  obtain ⟨h1, h2, h3⟩ := hr.2 j c hj
  have h1' : (inner.drop (j * sz)).take sz = c := h1
  have h2' : ((inner.drop (j * sz)).take sz).length = sz := h2
  have h3' : ∀ u ∈ (inner.drop (j * sz)).take sz, u.oneCell' = true := h3
  rw [h1'] at h2' h3'
  refine ⟨?_, h2', h3'⟩
  rw [← h1', ← ht, List.drop_take, List.take_take]
  congr 1
  have : (j + 1) * sz ≤ rows.length * sz := Nat.mul_le_mul_right _ hjl
  rw [Nat.add_mul, Nat.one_mul] at this
  show min sz (rows.length * sz - j * sz) = sz
  omega
theorem raw_mk {cur : Array Value} (hb : base ≤ g) (hok : ok g) (hl : rows.length = n) (hn : n ≤ cap) (hm : cap ≤ maxLen) (hh : w.heap[g]? = some (.cells cur e (0, 0))) (hs : cur.size = cap * sz)
    (hr : ∀ j c, rows[j]? = some c → c = (cur.toList.drop (j * sz)).take sz ∧ c.length = sz ∧ ∀ u ∈ c, u.oneCell' = true) : (raw sz).R e w base ok (.slice (some ⟨g, 0, none⟩) n cap) rows := by
  subst hl
  have hle : rows.length * sz ≤ cap * sz := Nat.mul_le_mul_right _ hn
  refine ⟨fun k hk => ?_, cur.toList.take (rows.length * sz), ⟨?_, .inr ⟨g, cap, cur, rfl, hb, hh, hn, hm, hs, rfl⟩⟩, ?_, fun j c hj => ?_⟩
  · have : g = k := by simpa [Value.ownBlock] using hk
    rw [← this]; exact hok
  · rw [List.length_take, Array.length_toList]
    show min (rows.length * sz) cur.size = rows.length * sz
    omega
  · rw [List.length_take, Array.length_toList]
    show min (rows.length * sz) cur.size = rows.length * sz
    omega
  · have hjl := (List.getElem?_eq_some_iff.1 hj).1
    obtain ⟨h1, h2, h3⟩ := hr j c hj
    have : (j + 1) * sz ≤ rows.length * sz := Nat.mul_le_mul_right _ hjl
    rw [Nat.add_mul, Nat.one_mul] at this
    have hp : ((cur.toList.take (rows.length * sz)).drop (j * sz)).take sz = c := by
      rw [List.drop_take, List.take_take, h1]
      congr 1
      omega
    show ((cur.toList.take (rows.length * sz)).drop (j * sz)).take sz = c ∧ (((cur.toList.take (rows.length * sz)).drop (j * sz)).take sz).length = sz ∧ ∀ u ∈ ((cur.toList.take (rows.length * sz)).drop (j * sz)).take sz, u.oneCell' = true
    rw [hp]
    exact ⟨rfl, h2, h3⟩
end
theorem flat_of {sz : Nat} : ∀ (rows : List (List Value)) (l : List Value), l.length = rows.length * sz → (∀ j c, rows[j]? = some c → (l.drop (j * sz)).take sz = c) → l = rows.flatten
  | [], l, hl, _ => by simpa using hl
  | c :: rows, l, hl, h => by
    have h0 := h 0 c rfl
    rw [Nat.zero_mul, List.drop_zero] at h0
    have ih := flat_of (sz := sz) rows (l.drop sz) (by rw [List.length_drop, hl, List.length_cons, Nat.add_mul, Nat.one_mul]; omega) (fun j c hj => by
      have := h (j + 1) c (by simpa using hj)
      rwa [Nat.add_mul, Nat.one_mul, Nat.add_comm, ← List.drop_drop] at this)
    rw [List.flatten_cons, ← ih, ← h0, List.take_append_drop]
theorem flat_len {sz : Nat} : ∀ (rows : List (List Value)), (∀ c ∈ rows, c.length = sz) → rows.flatten.length = rows.length * sz
  | [], _ => by simp
  | c :: rows, h => by
    rw [List.flatten_cons, List.length_append, flat_len rows (fun d hd => h d (List.mem_cons_of_mem _ hd)), h c List.mem_cons_self, List.length_cons, Nat.add_mul, Nat.one_mul, Nat.add_comm]
theorem flat_at {sz : Nat} : ∀ (rows : List (List Value)) (rest : List Value), (∀ c ∈ rows, c.length = sz) → ∀ j c, rows[j]? = some c → c = ((rows.flatten ++ rest).drop (j * sz)).take sz
  | [], _, _, j, c, hj => by simp at hj
  | d :: rows, rest, h, 0, c, hj => by
    have : d = c := by simpa using hj
    subst this
    rw [Nat.zero_mul, List.drop_zero, List.flatten_cons, List.append_assoc, List.take_left' (h d List.mem_cons_self)]
  | d :: rows, rest, h, j + 1, c, hj => by
    have hd := h d List.mem_cons_self
    rw [List.flatten_cons, List.append_assoc, Nat.add_mul, Nat.one_mul, Nat.add_comm (j * sz), ← List.drop_drop, List.drop_left' hd]
    exact flat_at rows rest (fun e he => h e (List.mem_cons_of_mem _ he)) j c (by simpa using hj)
section
variable {e g n cap base sz : Nat} {ok : Nat → Prop} {w : World} {rows : List (List Value)}
theorem raw_flat (h : (raw sz).R e w base ok (.slice (some ⟨g, 0, none⟩) n cap) rows) : base ≤ g ∧ ok g ∧ rows.length = n ∧ n ≤ cap ∧ cap ≤ maxLen ∧ (∀ c ∈ rows, c.length = sz ∧ ∀ u ∈ c, u.oneCell' = true) ∧
    ∃ (cur : Array Value) (rest : List Value), w.heap[g]? = some (.cells cur e (0, 0)) ∧ cur.size = cap * sz ∧ cur.toList = rows.flatten ++ rest := by
  have hok : ok g := h.1 g (by simp [Value.ownBlock])
  obtain ⟨h1, h2, h3, h4, cur, h5, h6, h7⟩ := raw_block h
  refine ⟨h1, hok, h2, h3, h4, fun c hc => ?_, cur, cur.toList.drop (n * sz), h5, h6, ?_⟩
  · obtain ⟨j, hj, rfl⟩ := List.mem_iff_getElem.1 hc
    exact (h7 j _ (List.getElem?_eq_getElem hj)).2
  · have hle : n * sz ≤ cap * sz := Nat.mul_le_mul_right _ h3
    have he := flat_of (sz := sz) rows (cur.toList.take (n * sz)) (by rw [List.length_take, Array.length_toList, h2]; omega) (fun j c hj => by
      have hjl := (List.getElem?_eq_some_iff.1 hj).1
      have : (j + 1) * sz ≤ n * sz := Nat.mul_le_mul_right _ (by omega)
      rw [Nat.add_mul, Nat.one_mul] at this
      rw [List.drop_take, List.take_take, show min sz (n * sz - j * sz) = sz by omega]
      exact (h7 j c hj).1.symm)
    rw [← he, List.take_append_drop]
theorem raw_unflat {cur : Array Value} {rest : List Value} (hb : base ≤ g) (hok : ok g) (hl : rows.length = n) (hn : n ≤ cap) (hm : cap ≤ maxLen) (hr : ∀ c ∈ rows, c.length = sz ∧ ∀ u ∈ c, u.oneCell' = true)
    (hh : w.heap[g]? = some (.cells cur e (0, 0))) (hs : cur.size = cap * sz) (ht : cur.toList = rows.flatten ++ rest) : (raw sz).R e w base ok (.slice (some ⟨g, 0, none⟩) n cap) rows :=
  raw_mk hb hok hl hn hm hh hs (fun j c hj => ⟨by rw [ht]; exact flat_at rows rest (fun c hc => (hr c hc).1) j c hj, hr c (List.mem_of_getElem? hj)⟩)
end
/-- copy, where its run is known. -/
theorem wp_copy_by {P : Program} (w : World) {o : Oper} {a : Act} {K : Act → World → Prop} {Q : Exit → Act → World → Prop} (d s : Operand) (t t' : TypeId) (ho : o.op = .call { callee := .builtin .copy, args := #[d, s], argTypes := #[t, t'] }) (v u : Value) (hd : a.eval d = v) (hs : a.eval s = u) {v' : Value} {w' : World}
    (hr : (Builtin.copy_ #[t, t'] o.type #[v, u]).run P w = .ok v' w') (h : K (a.put o.dst v') w') : o.wp P a w K Q := by
  unfold Oper.wp execOp
  simp only [ho, resolve, invoke, builtin, Sem.run_bind, Sem.run_pure, Result.andThen_ok, List.map_toArray, List.map_cons, List.map_nil, hd, hs, hr]
  exact h
theorem wpList_copy_by {P : Program} (w : World) {ops : Array Oper} {rest : List Oper} {o : Oper} {a : Act} {Q : Exit → Act → World → Prop} (hgd : o.guard = none) (d s : Operand) (t t' : TypeId) (ho : o.op = .call { callee := .builtin .copy, args := #[d, s], argTypes := #[t, t'] }) (v u : Value) (hd : a.eval d = v) (hs : a.eval s = u) {v' : Value} {w' : World}
    (hr : (Builtin.copy_ #[t, t'] o.type #[v, u]).run P w = .ok v' w') (h : wpList P ops Q rest (a.put o.dst v') w') : wpList P ops Q (o :: rest) a w :=
  wpList_plain hgd fun _ hK => wp_copy_by w d s t t' ho v u hd hs hr (hK _ _ h)
theorem step_copy_by {P : Program} {ops : Array Oper} {o : Oper} {a : Act} {w : World} {K : Act → World → Prop} {Q : Exit → Act → World → Prop} {E : Prop} (hg : o.guard = none) (d x : Operand) (dT sT : TypeId) (hop : o.op = Op.call { callee := Callee.builtin Builtin.copy, args := #[d, x], argTypes := #[dT, sT] })
    (v u : Value) (hd : a.eval d = v) (hx : a.eval x = u) {v' : Value} {w' : World} (hr : (Builtin.copy_ #[dT, sT] o.type #[v, u]).run P w = .ok v' w') (hK : K (a.put o.dst v') w') : if Region.wanted o (yielded ops a.tmps) = true then Oper.wp P o a w K Q else E := by
  have hw : Region.wanted o (yielded ops a.tmps) = true := by simp [Region.wanted, hg]
  rw [if_pos hw]
  exact wp_copy_by w d x dT sT hop v u hd hx hr hK
end WB
end
