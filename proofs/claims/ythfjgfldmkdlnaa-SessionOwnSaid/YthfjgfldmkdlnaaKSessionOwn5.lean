/- SessionOwn: texts of this claim, packed: what the kit's print has written for it and own texts, without what its proof does not reach. -/
import Derived.Test.YthfjgfldmkdlnaaKSessionOwn3
import Derived.Laws.IdiomCopy
set_option linter.unusedVariables false
set_option linter.unusedSimpArgs false
set_option linter.unusedSectionVars false
section
set_option linter.unusedVariables false
set_option linter.unusedSimpArgs false
namespace WB
open Go Go.RowKit Go.Proofs.YthfjgfldmkdlnaaW.PrintWords Go.Proofs.YthfjgfldmkdlnaaW.PrintLast Go.Proofs.YthfjgfldmkdlnaaW.PrintMore
open Kd
section
variable {α : Type} {d : Kd α} {e : Nat} {w w1 : World} {base : Nat} {ok ok' : Nat → Prop} {v : Value} {xs : List α}
open Classical in
/-- The tags may be any that tell the elements apart. -/
theorem S_close {rows : List (List Value)} {f t : Nat → Nat} (h0 : ∀ k, v.ownBlock = some k → ok k) (hl : rows.length = xs.length) (hR : (raw d.sz).R e w base ok' v rows) (ht : ∀ i j, i < xs.length → j < xs.length → t i = t j → i = j)
    (hM : ∀ (j : Nat) (x : α) (c : List Value), xs[j]? = some x → rows[j]? = some c → d.M w base (fun k => (ok k ∧ some k ≠ v.ownBlock) ∧ f k = t j) x c) : Kd.S d e w base ok v xs := by
  obtain ⟨_, inner, ho, hr⟩ := hR
  rw [hl] at ho
  let f' : Nat → Nat := fun k => if h : ∃ j, j < xs.length ∧ t j = f k then h.choose else xs.length
  have hf : ∀ j k, j < xs.length → f k = t j → f' k = j := fun j k hj hk => by
    have hx : ∃ j, j < xs.length ∧ t j = f k := ⟨j, hj, hk.symm⟩
    show (if h : ∃ j, j < xs.length ∧ t j = f k then h.choose else xs.length) = j
    rw [dif_pos hx]
    have hs := hx.choose_spec
    exact ht _ _ hs.1 hj (hs.2.trans hk)
  refine ⟨f', h0, inner, by rw [List.length_zipIdx]; exact ho, by have := hr.1; rw [hl] at this; rw [List.length_zipIdx]; exact this, fun j p hj => ?_⟩
  rw [List.getElem?_zipIdx] at hj
  obtain ⟨x, hx, rfl⟩ := Option.map_eq_some_iff.1 hj
  have hjl := (List.getElem?_eq_some_iff.1 hx).1
  have hc := List.getElem?_eq_getElem (l := rows) (show j < rows.length by omega)
  have hm := hM j x _ hx hc
  have hq := (hr.2 j _ hc).1
  show d.M w base (fun k => (ok k ∧ some k ≠ v.ownBlock) ∧ f' k = 0 + j) x ((inner.drop (j * d.sz)).take d.sz)
  have hq' : (inner.drop (j * d.sz)).take d.sz = rows[j]'(by omega) := hq
  rw [hq']
  exact d.M_mono (fun k hk => ⟨hk.1, by rw [Nat.zero_add]; exact hf j k hjl hk.2⟩) hm
end
theorem grown_trans {w w1 w2 : World} {row : Option Nat} (h : w.grownBy w1 row) (k : w1.grownBy w2 row) : w.grownBy w2 row :=
  ⟨k.os.trans h.os, k.tape.trans h.tape, k.output.trans h.output, Nat.le_trans h.size k.size, fun i hi hn => (k.block i (by have := h.size; omega) hn).trans (h.block i hi hn)⟩
theorem below_alloc0 {B : Nat} {w w1 : World} (h : Below B w w1) (hb : B ≤ w1.heap.size) (o : Obj) : Below B w (w1.alloc o) := h.alloc hb o
theorem setCells_split (b : Nat) : ∀ (vs us : List Value) (o : Nat) (w : World), w.setCells b o (vs ++ us) = (w.setCells b o vs).setCells b (o + vs.length) us
  | [], us, o, w => by simp [World.setCells]
  | v :: vs, us, o, w => by
    rw [List.cons_append, World.setCells, setCells_split b vs us, World.setCells, List.length_cons]
    congr 1
    omega
theorem zero_cells_succ (z : Array Value) (n : Nat) (h0 : 0 < z.size) : (Builtin.zeroCells z (n + 1)).toList = z.toList ++ (Builtin.zeroCells z n).toList := by
  apply List.ext_getElem
  · simp [Builtin.zeroCells, Nat.add_mul]
    omega
  · intro i h1 h2
    rw [List.getElem_append]
    split
    · rename_i h3
      have h3' : i < z.size := by simpa using h3
      simp [Builtin.zeroCells, Nat.mod_eq_of_lt h3', getElem!_pos z i h3']
    · rename_i h3
      have h3' : z.size ≤ i := by simpa using h3
      simp only [Builtin.zeroCells, Array.getElem_toList, Array.getElem_map, Array.getElem_range, Array.length_toList]
      rw [Nat.mod_eq_sub_mod h3']
theorem raw_wipe {e g n cap base : Nat} {ok : Nat → Prop} (z : Array Value) (h0 : 0 < z.size) (h1 : ∀ u ∈ z.toList, u.oneCell' = true) : ∀ (k i : Nat) (W : World) (rows : List (List Value)), i + k = n → rows.length = n → (raw z.size).R e W base ok (.slice (some ⟨g, 0, none⟩) n cap) rows →
    ∃ rows', rows'.length = n ∧ rows'.take i = rows.take i ∧ (raw z.size).R e (W.setCells g (i * z.size) (Builtin.zeroCells z k).toList) base ok (.slice (some ⟨g, 0, none⟩) n cap) rows' ∧ W.grownBy (W.setCells g (i * z.size) (Builtin.zeroCells z k).toList) (some g)
  | 0, i, W, rows, hn, hl, hR => by
    have h2 : (Builtin.zeroCells z 0).toList = [] := by simp [Builtin.zeroCells]
    rw [h2]
    exact ⟨rows, hl, rfl, hR, ⟨rfl, rfl, rfl, Nat.le_refl _, fun _ _ _ => rfl⟩⟩
  | k + 1, i, W, rows, hn, hl, hR => by
    obtain ⟨c, hc1, _, hc3, _⟩ := R_elem hR [] (i : Int) (by omega) (by omega)
    have hc1' : c.length = z.size := hc1
    obtain ⟨hS, hG⟩ := R_seg hR (i : Int) (by omega) (by omega) (c := c) (seg := z.toList) (j := 0) (x' := z.toList) (okp := fun _ => False) hc1 hc3 (by show 0 + z.toList.length ≤ z.size; simp) (by
      rw [List.take_zero, List.nil_append, List.drop_of_length_le (by rw [hc1']; simp), List.append_nil]
      exact ⟨rfl, by show z.toList.length = z.size; simp, h1⟩) (fun _ hk => hk.elim)
    have hS' : (raw z.size).R e (W.setCells g (i * z.size) z.toList) base ok (.slice (some ⟨g, 0, none⟩) n cap) (rows.set i z.toList) := hS
    have hG' : W.grownBy (W.setCells g (i * z.size) z.toList) (some g) := hG
    obtain ⟨rows', hl', ht, hR', hG2⟩ := raw_wipe z h0 h1 k (i + 1) _ (rows.set i z.toList) (by omega) (by rw [List.length_set, hl]) hS'
    have he : W.setCells g (i * z.size) (Builtin.zeroCells z (k + 1)).toList = (W.setCells g (i * z.size) z.toList).setCells g ((i + 1) * z.size) (Builtin.zeroCells z k).toList := by
      rw [zero_cells_succ z k h0, setCells_split, Array.length_toList, Nat.add_mul, Nat.one_mul]
    refine ⟨rows', hl', ?_, by rw [he]; exact hR', by rw [he]; exact grown_trans hG' hG2⟩
    have h3 := congrArg (List.take i) ht
    rw [List.take_take, List.take_take, Nat.min_eq_left (by omega), List.take_set_of_le (Nat.le_refl _)] at h3
    exact h3
/-- clear of the end of a row. -/
theorem run_clear_row {P : Program} (w : World) (t e ty : TypeId) (z : Value) (ht : P.underlying t = some (.slice e)) (hv : ∀ w, (zeroValue e).run P w = .ok z w) (h1 : ∀ u ∈ z.cells.toList, u.oneCell' = true) (b o n c : Nat) (hn : 0 < n)
    (hc : ∀ j, j < n * z.cells.size → (w.cell? ⟨b, o + j, none⟩).isSome = true) (hf : ∀ j, j < n * z.cells.size → w.frozen? ⟨b, o + j, none⟩ = false) :
    (Builtin.clear_ #[t] ty #[.slice (some ⟨b, o, none⟩) n c]).run P w = .ok (.tuple #[]) (w.setCells b o (Builtin.zeroCells z.cells n).toList) := by
  have hlen : (Builtin.zeroCells z.cells n).toList.length = n * z.cells.size := by simp [Builtin.zeroCells]
  have hone : ∀ v ∈ (Builtin.zeroCells z.cells n).toList, v.oneCell' = true := by
    intro v hv'
    obtain ⟨i, hi, rfl⟩ := List.mem_iff_getElem.1 hv'
    simp only [Builtin.zeroCells, Array.getElem_toList, Array.getElem_map, Array.getElem_range]
    have h2 : 0 < z.cells.size := by
      rcases Nat.eq_zero_or_pos z.cells.size with h | h
      · rw [hlen, h] at hi; omega
      · exact h
    rw [getElem!_pos z.cells _ (Nat.mod_lt _ h2)]
    exact h1 _ (by simp)
  have hst := run_storeCells_cells (P := P) b o (Builtin.zeroCells z.cells n).toList 0 w (by rw [hlen]; simpa using hc) (by rw [hlen]; simpa using hf) hone
  simp only [Nat.add_zero] at hst
  obtain ⟨m, rfl⟩ : ∃ m, n = m + 1 := ⟨n - 1, by omega⟩
  simp [Builtin.clear_, run_underlying ht, hv, hst]
end WB
end
