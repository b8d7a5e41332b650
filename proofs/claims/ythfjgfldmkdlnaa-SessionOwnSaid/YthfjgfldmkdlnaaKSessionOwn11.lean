/- SessionOwn: texts of this claim, packed: what the kit's print has written for it and own texts, without what its proof does not reach. -/
import Derived.Test.YthfjgfldmkdlnaaKSessionOwn0
import Derived.Test.YthfjgfldmkdlnaaKSessionOwn1
import Derived.Test.YthfjgfldmkdlnaaKSessionOwn2
import Derived.Test.YthfjgfldmkdlnaaKSessionOwn3
import Derived.Test.YthfjgfldmkdlnaaKSessionOwn4
import Derived.Test.YthfjgfldmkdlnaaKSessionOwn5
import Derived.Test.YthfjgfldmkdlnaaKSessionOwn6
import Derived.Test.YthfjgfldmkdlnaaKSessionOwn7
import Derived.Test.YthfjgfldmkdlnaaKSessionOwn8
import Derived.Test.YthfjgfldmkdlnaaKSessionOwn9
import Derived.Test.YthfjgfldmkdlnaaKSessionOwn10
import Derived.Laws.BitsAllLaws
import Derived.Laws.BitsLemmas
import Derived.WalkKit
import Derived.Deep.RegionLaw
import Derived.Laws.Externs
import Derived.Lib.AppendZeros
import Derived.Lib.AppendZerosOnto
import Derived.Lib.Overlaps
import Derived.Laws.StructEq
import Derived.Test.YthfjgfldmkdlnaaProg
import Derived.Below
import Derived.Deep.Draws
import Derived.Deep.AppendLies
import Derived.Maps.AppendAt
import Derived.OwnWalk
import Derived.Laws.BytesArg
import Derived.Laws.MakeOwn
import Derived.Laws.OwnMore
import Derived.Deep.OwnRows
import Derived.Tactics
import Derived.Lib.ConvBytes
import Derived.Laws.Slices
import Derived.KernelRfl
import Derived.RowKit3
import Derived.Deep.LoopGhost
import Derived.Deep.QuietTactic
import Derived.BigQuiet
import Derived.WideLaws
import Derived.Deep.DeepCutAuto
import Derived.Deep.CutBlock
import Derived.Deep.RegionHeld3
import Derived.Laws.Rows
import Derived.Lib.AppendStr
import Derived.ArgAppend
import Derived.Laws.IdiomCopy
import Derived.OrdersHeld
import Derived.RowKit
import Derived.Lib.SliceRun
set_option linter.unusedVariables false
set_option linter.unusedSimpArgs false
set_option linter.unusedSectionVars false
section
namespace Go.Proofs.Ythfjgfldmkdlnaa.G
open WB Go.RowKit Go.Proofs.YthfjgfldmkdlnaaW.PrintWords Go.Proofs.YthfjgfldmkdlnaaW.PrintLast Go.Proofs.YthfjgfldmkdlnaaW.PrintMore
attribute [local go_sem] max2_int min2_int max_two min_two max_three min_three max_four min_four   -- for this text's walks alone
set_option linter.unusedVariables false
set_option linter.unusedSimpArgs false
def errW : Option Int → Value
  | none => .nilIface
  | some c => .iface 0 (.int .i64 c)
theorem errW_none : errW none = .nilIface := rfl
theorem errW_some (c : Int) : errW (some c) = .iface 0 (.int .i64 c) := rfl
theorem info3 : (Try.prog.info? 3).map (fun i => (i.zero, i.size, i.bytes)) = some (some (.int .i64 0), 1, 8) := by kernel_rfl
theorem info5 : (Try.prog.info? 5).map (fun i => (i.zero, i.size, i.bytes)) = some (some (.int .u8 0), 1, 1) := by kernel_rfl
theorem info38 : (Try.prog.info? 38).map (fun i => (i.zero, i.size, i.bytes)) = some (some (.agg #[(.int .i64 0), (.int .i64 0), (.int .i64 0), (.int .i64 0), (.slice none 0 0)]), 5, 56) := by kernel_rfl
theorem info51 : (Try.prog.info? 51).map (fun i => (i.zero, i.size, i.bytes)) = some (some (.agg #[(.int .i64 0), (.int .i64 0), (.slice none 0 0)]), 3, 40) := by kernel_rfl
structure S51 where
  f0 : Int
  f1 : Int
  f2 : (List Int)
def z51 : S51 := ⟨(0 : Int), (0 : Int), ([] : List Int)⟩
def k51 : Kd S51 := Kd.iso (Kd.pair (Kd.int .i64) (Kd.pair (Kd.int .i64) (Kd.slice 5 (Kd.int .u8)))) (fun x : S51 => (x.f0, x.f1, x.f2))
theorem k51_open {w : World} {x : S51} {cs : List Value} (h : k51.K w x cs) : ∃ A2 c2, cs = [.int .i64 x.f0, .int .i64 x.f1, .slice A2 x.f2.length c2] ∧ x.f2.length ≤ c2 ∧ (Kd.int .u8).C w A2 x.f2.length x.f2 := by
  obtain ⟨_, _, rfl, rfl, ⟨_, _, rfl, rfl, ⟨A2, c2, rfl, l2, g2⟩⟩⟩ := h
  exact ⟨A2, c2, rfl, l2, g2⟩
theorem k51_openM {w : World} {base : Nat} {ok : Nat → Prop} {x : S51} {cs : List Value} (h : k51.M w base ok x cs) : ∃ v2, cs = [.int .i64 x.f0, .int .i64 x.f1, v2] ∧ (Kd.int .u8).R 5 w base ok v2 x.f2 := by
  obtain ⟨_, _, rfl, rfl, ⟨_, _, rfl, rfl, ⟨v2, rfl, g2⟩⟩⟩ := h
  exact ⟨v2, rfl, g2⟩
theorem k51_mkM (w : World) (base : Nat) (ok : Nat → Prop) (x : S51) {v2 : Value} (g2 : (Kd.int .u8).R 5 w base ok v2 x.f2) : k51.M w base ok x [.int .i64 x.f0, .int .i64 x.f1, v2] := ⟨[.int .i64 x.f0], [.int .i64 x.f1, v2], rfl, rfl, ⟨[.int .i64 x.f1], [v2], rfl, rfl, ⟨v2, rfl, g2⟩⟩⟩
def rd_T51 (xs : List S51) (i : Int) : S51 := xs.getD i.toNat z51
theorem at_T51 {w : World} {A : Option Addr} {n : Nat} {xs : List S51} (h : Kd.C k51 w A n xs) (i : Int) (h0 : 0 ≤ i) (h1 : i < n) : ∃ ad A2 c2, A = some ad ∧ w.cell? (ad.add (i.toNat * 3)) = some (.int .i64 (rd_T51 xs i).f0) ∧ w.cell? ⟨(ad.add (i.toNat * 3)).block, (ad.add (i.toNat * 3)).off + 1, none⟩ = some (.int .i64 (rd_T51 xs i).f1) ∧ w.cell? ⟨(ad.add (i.toNat * 3)).block, (ad.add (i.toNat * 3)).off + 2, none⟩ = some (.slice A2 (rd_T51 xs i).f2.length c2) ∧ (rd_T51 xs i).f2.length ≤ c2 ∧ (Kd.int .u8).C w A2 (rd_T51 xs i).f2.length (rd_T51 xs i).f2 := by
  obtain ⟨ad, c, e, _, hK, hc0⟩ := Kd.C_get h z51 i h0 h1
  have hc : ∀ j u, c[j]? = some u → w.cell? (ad.add (i.toNat * 3 + j)) = some u := hc0
  obtain ⟨A2, c2, rfl, l2, g2⟩ := k51_open hK
  exact ⟨ad, A2, c2, e, hc 0 _ rfl, by rw [← add_field _ _ 1 (by omega)]; exact hc 1 _ rfl, by rw [← add_field _ _ 2 (by omega)]; exact hc 2 _ rfl, l2, g2⟩
structure S36 where
  f0 : Int
  f1 : (List S51)
def z36 : S36 := ⟨(0 : Int), ([] : List S51)⟩
def k36 : Kd S36 := Kd.iso (Kd.pair (Kd.int .i64) (Kd.slice 51 k51)) (fun x : S36 => (x.f0, x.f1))
theorem k36_open {w : World} {x : S36} {cs : List Value} (h : k36.K w x cs) : ∃ A1 c1, cs = [.int .i64 x.f0, .slice A1 x.f1.length c1] ∧ x.f1.length ≤ c1 ∧ k51.C w A1 x.f1.length x.f1 := by
  obtain ⟨_, _, rfl, rfl, ⟨A1, c1, rfl, l1, g1⟩⟩ := h
  exact ⟨A1, c1, rfl, l1, g1⟩
theorem k36_openM {w : World} {base : Nat} {ok : Nat → Prop} {x : S36} {cs : List Value} (h : k36.M w base ok x cs) : ∃ v1, cs = [.int .i64 x.f0, v1] ∧ k51.R 51 w base ok v1 x.f1 := by
  obtain ⟨_, _, rfl, rfl, ⟨v1, rfl, g1⟩⟩ := h
  exact ⟨v1, rfl, g1⟩
theorem k36_mkM (w : World) (base : Nat) (ok : Nat → Prop) (x : S36) {v1 : Value} (g1 : k51.R 51 w base ok v1 x.f1) : k36.M w base ok x [.int .i64 x.f0, v1] := ⟨[.int .i64 x.f0], [v1], rfl, rfl, ⟨v1, rfl, g1⟩⟩
structure S38 where
  f0 : Int
  f1 : Int
  f2 : Int
  f3 : S36
def z38 : S38 := ⟨(0 : Int), (0 : Int), (0 : Int), z36⟩
def k38 : Kd S38 := Kd.iso (Kd.pair (Kd.int .i64) (Kd.pair (Kd.int .i64) (Kd.pair (Kd.int .i64) k36))) (fun x : S38 => (x.f0, x.f1, x.f2, x.f3))
theorem k38_open {w : World} {x : S38} {cs : List Value} (h : k38.K w x cs) : ∃ A4 c4, cs = [.int .i64 x.f0, .int .i64 x.f1, .int .i64 x.f2, .int .i64 x.f3.f0, .slice A4 x.f3.f1.length c4] ∧ x.f3.f1.length ≤ c4 ∧ k51.C w A4 x.f3.f1.length x.f3.f1 := by
  obtain ⟨_, _, rfl, rfl, ⟨_, _, rfl, rfl, ⟨_, _, rfl, rfl, s3⟩⟩⟩ := h
  obtain ⟨A4, c4, rfl, l4, g4⟩ := k36_open s3
  exact ⟨A4, c4, rfl, l4, g4⟩
theorem k38_openM {w : World} {base : Nat} {ok : Nat → Prop} {x : S38} {cs : List Value} (h : k38.M w base ok x cs) : ∃ v4, cs = [.int .i64 x.f0, .int .i64 x.f1, .int .i64 x.f2, .int .i64 x.f3.f0, v4] ∧ k51.R 51 w base ok v4 x.f3.f1 := by
  obtain ⟨_, _, rfl, rfl, ⟨_, _, rfl, rfl, ⟨_, _, rfl, rfl, s3⟩⟩⟩ := h
  obtain ⟨v4, rfl, g4⟩ := k36_openM s3
  exact ⟨v4, rfl, g4⟩
theorem k38_mkM (w : World) (base : Nat) (ok : Nat → Prop) (x : S38) {v4 : Value} (g4 : k51.R 51 w base ok v4 x.f3.f1) : k38.M w base ok x [.int .i64 x.f0, .int .i64 x.f1, .int .i64 x.f2, .int .i64 x.f3.f0, v4] := ⟨[.int .i64 x.f0], [.int .i64 x.f1, .int .i64 x.f2, .int .i64 x.f3.f0, v4], rfl, rfl, ⟨[.int .i64 x.f1], [.int .i64 x.f2, .int .i64 x.f3.f0, v4], rfl, rfl, ⟨[.int .i64 x.f2], [.int .i64 x.f3.f0, v4], rfl, rfl, (k36_mkM w base ok x.f3 g4)⟩⟩⟩
def rd_T38 (xs : List S38) (i : Int) : S38 := xs.getD i.toNat z38
theorem at_T38 {w : World} {A : Option Addr} {n : Nat} {xs : List S38} (h : Kd.C k38 w A n xs) (i : Int) (h0 : 0 ≤ i) (h1 : i < n) : ∃ ad A4 c4, A = some ad ∧ w.cell? (ad.add (i.toNat * 5)) = some (.int .i64 (rd_T38 xs i).f0) ∧ w.cell? ⟨(ad.add (i.toNat * 5)).block, (ad.add (i.toNat * 5)).off + 1, none⟩ = some (.int .i64 (rd_T38 xs i).f1) ∧ w.cell? ⟨(ad.add (i.toNat * 5)).block, (ad.add (i.toNat * 5)).off + 2, none⟩ = some (.int .i64 (rd_T38 xs i).f2) ∧ w.cell? ⟨(ad.add (i.toNat * 5)).block, (ad.add (i.toNat * 5)).off + 3, none⟩ = some (.int .i64 (rd_T38 xs i).f3.f0) ∧ w.cell? ⟨(ad.add (i.toNat * 5)).block, (ad.add (i.toNat * 5)).off + 4, none⟩ = some (.slice A4 (rd_T38 xs i).f3.f1.length c4) ∧ (rd_T38 xs i).f3.f1.length ≤ c4 ∧ k51.C w A4 (rd_T38 xs i).f3.f1.length (rd_T38 xs i).f3.f1 := by
  obtain ⟨ad, c, e, _, hK, hc0⟩ := Kd.C_get h z38 i h0 h1
  have hc : ∀ j u, c[j]? = some u → w.cell? (ad.add (i.toNat * 5 + j)) = some u := hc0
  obtain ⟨A4, c4, rfl, l4, g4⟩ := k38_open hK
  exact ⟨ad, A4, c4, e, hc 0 _ rfl, by rw [← add_field _ _ 1 (by omega)]; exact hc 1 _ rfl, by rw [← add_field _ _ 2 (by omega)]; exact hc 2 _ rfl, by rw [← add_field _ _ 3 (by omega)]; exact hc 3 _ rfl, by rw [← add_field _ _ 4 (by omega)]; exact hc 4 _ rfl, l4, g4⟩
structure S24 where
  f0 : Int
  f1 : Int
  f2 : Int
def k24 : Kd S24 := Kd.iso (Kd.pair (Kd.int .i64) (Kd.pair (Kd.int .i64) (Kd.int .i64))) (fun x : S24 => (x.f0, x.f1, x.f2))
theorem k24_open {w : World} {x : S24} {cs : List Value} (h : k24.K w x cs) : cs = [.int .i64 x.f0, .int .i64 x.f1, .int .i64 x.f2] := by
  obtain ⟨_, _, rfl, rfl, ⟨_, _, rfl, rfl, rfl⟩⟩ := h
  exact rfl
/-- May something kept not be? -/
def oddD (mark size : Int) (d : S51) : Bool := decide (d.f0 < mark) || (decide (d.f0 ≥ mark + size) || (decide (d.f1 < 0) || (decide (d.f1 > 1000) || decide ((d.f2.length : Int) > 1024))))
/-- Do the seqs rise? -/
def risesD : List S51 → Bool
  | [] => true
  | [_] => true
  | a :: b :: l => decide (a.f0 < b.f0) && risesD (b :: l)
theorem rises_snoc : ∀ (l : List S51) (a b : S51), risesD (l ++ [a, b]) = (risesD (l ++ [a]) && decide (a.f0 < b.f0))
  | [], a, b => by simp [risesD]
  | [x], a, b => by simp [risesD, Bool.and_assoc]
  | x :: y :: l, a, b => by
    have := rises_snoc (y :: l) a b
    simp only [List.cons_append, risesD] at this ⊢
    rw [this, Bool.and_assoc]
theorem rises_step (l : List S51) (k : Nat) (h0 : 0 < k) (h : k < l.length) : risesD (l.take (k + 1)) = (risesD (l.take k) && decide ((l.getD (k - 1) z51).f0 < (l.getD k z51).f0)) := by
  obtain ⟨j, rfl⟩ : ∃ j, k = j + 1 := ⟨k - 1, by omega⟩
  rw [List.take_succ_eq_append_getElem h, List.take_succ_eq_append_getElem (by omega), List.append_assoc]
  rw [show [l[j]] ++ [l[j + 1]] = [l[j], l[j + 1]] from rfl, rises_snoc]
  simp [List.getElem?_eq_getElem h, List.getElem?_eq_getElem (show j < l.length by omega)]
theorem rises_false (l : List S51) (k : Nat) (h : risesD (l.take k) = false) : risesD l = false := by
  rcases Nat.lt_or_ge k l.length with hk | hk
  · have : ∀ d, k + d ≤ l.length → risesD (l.take (k + d)) = false := by
      intro d
      induction d with
      | zero => exact fun _ => h
      | succ d ih =>
        intro hd
        rcases Nat.eq_zero_or_pos (k + d) with h0 | h0
        · have := ih (by omega)
          rw [h0] at this
          simp [risesD] at this
        · rw [← Nat.add_assoc, rises_step l (k + d) h0 (by omega), ih (by omega)]
          rfl
    have := this (l.length - k) (by omega)
    rwa [Nat.add_sub_cancel' (by omega), List.take_length] at this
  · rwa [List.take_of_length_le hk] at h
/-- May a window be? -/
def checkW (mark : Int) (l : List S51) (size : Int) : Int :=
  if size < 1 ∨ 64 < size then 4 else if (mark < 1 ∨ 1073741824 < mark) ∨ l.any (oddD mark size) = true ∨ risesD l = false then 9 else 0
/-- Where a seq stands, or would stand: all ahead are smaller, none behind is. -/
structure FoundAt (l : List S51) (seq : Int) (i : Nat) (b : Bool) : Prop where
  le : i ≤ l.length
  lo : ∀ j, j < i → (l.getD j z51).f0 < seq
  hi : ∀ j, i ≤ j → j < l.length → seq ≤ (l.getD j z51).f0
  is : b = decide (i < l.length ∧ (l.getD i z51).f0 = seq)
/-- The seqs rise, and all lie in bounds. -/
structure Neat (l : List S51) : Prop where
  up : ∀ i j, i ≤ j → j < l.length → (l.getD i z51).f0 ≤ (l.getD j z51).f0
  bd : ∀ i, i < l.length → 0 ≤ (l.getD i z51).f0 ∧ (l.getD i z51).f0 ≤ 2147483648
theorem rises_at (l : List S51) (h : risesD l = true) (j : Nat) (hj : j + 1 < l.length) : (l.getD j z51).f0 < (l.getD (j + 1) z51).f0 := by
  by_cases hlt : (l.getD j z51).f0 < (l.getD (j + 1) z51).f0
  · exact hlt
  · have e := rises_step l (j + 1) (by omega) hj
    rw [Nat.add_sub_cancel, decide_eq_false hlt, Bool.and_false] at e
    rw [rises_false l _ e] at h
    cases h
theorem rises_up (l : List S51) (h : risesD l = true) (i d : Nat) : i + d < l.length → (l.getD i z51).f0 + d ≤ (l.getD (i + d) z51).f0 := by
  induction d with
  | zero => intro _; simp
  | succ d ih =>
    intro hl
    have := rises_at l h (i + d) (by omega)
    have := ih (by omega)
    rw [show i + (d + 1) = i + d + 1 by omega]
    push_cast
    omega
/-- A window that may be: what its check tells. -/
structure May (mark size : Int) (l : List S51) : Prop where
  m1 : 1 ≤ mark
  m2 : mark ≤ 1073741824
  s1 : 1 ≤ size
  s2 : size ≤ 64
  od : ∀ i, i < l.length → oddD mark size (l.getD i z51) = false
  up : risesD l = true
theorem may_of (mark size : Int) (l : List S51) (h : checkW mark l size = 0) : May mark size l := by
  unfold checkW at h
  split at h
  · cases h
  · rename_i h0
    split at h
    · cases h
    · rename_i h1
      rw [not_or] at h1
      obtain ⟨h1, h4⟩ := h1
      rw [not_or] at h4
      obtain ⟨h2, h3⟩ := h4
      refine ⟨by omega, by omega, by omega, by omega, fun i hi => ?_, by simpa using h3⟩
      have h2 : l.any (oddD mark size) = false := by simpa using h2
      rw [List.any_eq_false] at h2
      have := h2 _ (List.getElem_mem hi)
      simpa [List.getD_eq_getElem?_getD, List.getElem?_eq_getElem hi] using this
theorem May.bds {mark size : Int} {l : List S51} (h : May mark size l) (i : Nat) (hi : i < l.length) : mark ≤ (l.getD i z51).f0 ∧ (l.getD i z51).f0 < mark + size ∧ 0 ≤ (l.getD i z51).f1 ∧ (l.getD i z51).f1 ≤ 1000 ∧ (l.getD i z51).f2.length ≤ 1024 := by
  have := h.od i hi
  simp only [oddD, Bool.or_eq_false_iff, decide_eq_false_iff_not] at this
  omega
theorem May.len {mark size : Int} {l : List S51} (h : May mark size l) : (l.length : Int) ≤ size := by
  rcases Nat.eq_zero_or_pos l.length with h0 | h0
  · have := h.s1; omega
  · have a := (h.bds 0 h0).1
    have b := (h.bds (l.length - 1) (by omega)).2.1
    have c := rises_up l h.up 0 (l.length - 1) (by omega)
    rw [Nat.zero_add] at c
    omega
/-- How many are smaller. -/
def placeD (l : List S51) (seq : Int) : Nat := (l.takeWhile (fun d => decide (d.f0 < seq))).length
theorem place_of : ∀ (l : List S51) (seq : Int) (i : Nat), i ≤ l.length → (∀ j, j < i → (l.getD j z51).f0 < seq) → (i < l.length → seq ≤ (l.getD i z51).f0) → placeD l seq = i
  | [], seq, i, h, _, _ => by simp [placeD] at *; omega
  | d :: l, seq, 0, _, _, h => by
    have := h (by simp)
    simp at this
    unfold placeD
    rw [List.takeWhile_cons_of_neg (by simp; omega)]
    rfl
  | d :: l, seq, i + 1, h, lo, hi => by
    have a := lo 0 (by omega)
    simp at a
    have e := place_of l seq i (by simp at h; omega) (fun j hj => by have := lo (j + 1) (by omega); simpa using this) (fun hl => by have := hi (by simp; omega); simpa using this)
    unfold placeD at e ⊢
    rw [List.takeWhile_cons_of_pos (by simpa using a), List.length_cons, e]
theorem FoundAt.place {l : List S51} {seq : Int} {i : Nat} {b : Bool} (h : FoundAt l seq i b) : placeD l seq = i :=
  place_of l seq i h.le h.lo fun hl => h.hi i (Nat.le_refl _) hl
theorem FoundAt.any {l : List S51} {seq : Int} {i : Nat} {b : Bool} (hn : Neat l) (h : FoundAt l seq i b) : (l.any fun d => d.f0 == seq) = b := by
  rw [h.is, Bool.eq_iff_iff, List.any_eq_true, decide_eq_true_iff]
  constructor
  · rintro ⟨x, hx, he⟩
    obtain ⟨j, hj, rfl⟩ := List.mem_iff_getElem.1 hx
    have ej : (l.getD j z51) = l[j] := by simp [List.getElem?_eq_getElem hj]
    have he : l[j].f0 = seq := by simpa using he
    have hij : i ≤ j := by
      rcases Nat.lt_or_ge j i with hlt | hge
      · have := h.lo j hlt; rw [ej] at this; omega
      · exact hge
    have u := hn.up i j hij hj
    have v := h.hi i (Nat.le_refl _) (by omega)
    rw [ej] at u
    exact ⟨by omega, by omega⟩
  · rintro ⟨hi, he⟩
    refine ⟨l[i], List.getElem_mem hi, ?_⟩
    have ei : (l.getD i z51) = l[i] := by simp [List.getElem?_eq_getElem hi]
    rw [ei] at he
    simpa using he
/-- Are two replies one? -/
def oneD (x y : S51) : Bool := x.f0 == y.f0 && (x.f1 == y.f1 && decide ((strOfNums x.f2).toList = (strOfNums y.f2).toList))
def sameW (m : Int) (l : List S51) (m2 : Int) (l2 : List S51) : Bool :=
  decide (m = m2) && (decide (l.length = l2.length) && (List.range l.length).all fun i => oneD (l.getD i z51) (l2.getD i z51))
theorem same_no {m m2 : Int} {l l2 : List S51} {i : Nat} (hi : i < l.length) (h : oneD (l.getD i z51) (l2.getD i z51) = false) : sameW m l m2 l2 = false := by
  unfold sameW
  rw [Bool.and_eq_false_iff]
  refine Or.inr ?_
  rw [Bool.and_eq_false_iff]
  refine Or.inr ?_
  rw [← Bool.not_eq_true, List.all_eq_true]
  exact fun ha => by have := ha i (List.mem_range.2 hi); rw [h] at this; cases this
/-- May settings be? -/
def setsS (a b c : Int) : Bool := (decide (1 ≤ a) && decide (a ≤ 64)) && ((decide (1 ≤ b) && decide (b ≤ 1048576)) && (decide (1 ≤ c) && decide (c ≤ 64)))
/-- Does a number lie outside? -/
def outB (n a b : Int) : Bool := !(decide (a ≤ n) && decide (n ≤ b))
/-- May a session not be? -/
def oddS (size next tick : Int) (x : S38) : Bool := outB x.f0 1 (next - 1) || (outB x.f1 0 2147483647 || (outB x.f2 0 tick || (checkW x.f3.f0 x.f3.f1 size != 0)))
/-- Do the numbers rise? -/
def risesS : List S38 → Bool
  | [] => true
  | [_] => true
  | a :: b :: l => decide (a.f0 < b.f0) && risesS (b :: l)
/-- May sessions be? -/
def checkS (l : List S38) (s0 s1 s2 next tick : Int) : Int :=
  if setsS s0 s1 s2 = false ∨ outB next 1 1073741824 = true ∨ outB tick 0 536870912 = true then 4
  else if (l.length : Int) > s0 ∨ l.any (oddS s2 next tick) = true ∨ risesS l = false then 9 else 0
theorem risesS_snoc : ∀ (l : List S38) (a b : S38), risesS (l ++ [a, b]) = (risesS (l ++ [a]) && decide (a.f0 < b.f0))
  | [], a, b => by simp [risesS]
  | [x], a, b => by simp [risesS, Bool.and_assoc]
  | x :: y :: l, a, b => by
    have := risesS_snoc (y :: l) a b
    simp only [List.cons_append, risesS] at this ⊢
    rw [this, Bool.and_assoc]
theorem risesS_step (l : List S38) (k : Nat) (h0 : 0 < k) (h : k < l.length) : risesS (l.take (k + 1)) = (risesS (l.take k) && decide ((l.getD (k - 1) z38).f0 < (l.getD k z38).f0)) := by
  obtain ⟨j, rfl⟩ : ∃ j, k = j + 1 := ⟨k - 1, by omega⟩
  rw [List.take_succ_eq_append_getElem h, List.take_succ_eq_append_getElem (by omega), List.append_assoc]
  rw [show [l[j]] ++ [l[j + 1]] = [l[j], l[j + 1]] from rfl, risesS_snoc]
  simp [List.getElem?_eq_getElem h, List.getElem?_eq_getElem (show j < l.length by omega)]
theorem risesS_false (l : List S38) (k : Nat) (h : risesS (l.take k) = false) : risesS l = false := by
  rcases Nat.lt_or_ge k l.length with hk | hk
  · have : ∀ d, k + d ≤ l.length → risesS (l.take (k + d)) = false := by
      intro d
      induction d with
      | zero => exact fun _ => h
      | succ d ih =>
        intro hd
        rcases Nat.eq_zero_or_pos (k + d) with h0 | h0
        · have := ih (by omega)
          rw [h0] at this
          simp [risesS] at this
        · rw [← Nat.add_assoc, risesS_step l (k + d) h0 (by omega), ih (by omega)]
          rfl
    have := this (l.length - k) (by omega)
    rwa [Nat.add_sub_cancel' (by omega), List.take_length] at this
  · rwa [List.take_of_length_le hk] at h
/-- Sessions that may be: what their check tells. -/
structure MayS (l : List S38) (s0 s1 s2 next tick : Int) : Prop where
  s : 1 ≤ s0 ∧ s0 ≤ 64 ∧ 1 ≤ s1 ∧ s1 ≤ 1048576 ∧ 1 ≤ s2 ∧ s2 ≤ 64
  n : 1 ≤ next ∧ next ≤ 1073741824 ∧ 0 ≤ tick ∧ tick ≤ 536870912
  len : (l.length : Int) ≤ s0
  od : ∀ x ∈ l, 1 ≤ x.f0 ∧ x.f0 < next ∧ 0 ≤ x.f1 ∧ x.f1 ≤ 2147483647 ∧ 0 ≤ x.f2 ∧ x.f2 ≤ tick ∧ checkW x.f3.f0 x.f3.f1 s2 = 0
  up : risesS l = true
theorem out_true {n a b : Int} : outB n a b = true ↔ n < a ∨ b < n := by
  unfold outB
  rw [Bool.not_eq_true', Bool.and_eq_false_iff, decide_eq_false_iff_not, decide_eq_false_iff_not]
  omega
theorem out_false {n a b : Int} : outB n a b = false ↔ a ≤ n ∧ n ≤ b := by
  unfold outB
  rw [Bool.not_eq_false', Bool.and_eq_true, decide_eq_true_eq, decide_eq_true_eq]
theorem sets_true {a b c : Int} : setsS a b c = true ↔ 1 ≤ a ∧ a ≤ 64 ∧ 1 ≤ b ∧ b ≤ 1048576 ∧ 1 ≤ c ∧ c ≤ 64 := by
  unfold setsS
  rw [Bool.and_eq_true, Bool.and_eq_true, Bool.and_eq_true, Bool.and_eq_true, Bool.and_eq_true, decide_eq_true_eq, decide_eq_true_eq, decide_eq_true_eq, decide_eq_true_eq, decide_eq_true_eq, decide_eq_true_eq]
  omega
theorem mayS_of {l : List S38} {s0 s1 s2 next tick : Int} (h : checkS l s0 s1 s2 next tick = 0) : MayS l s0 s1 s2 next tick := by
  unfold checkS at h
  split at h
  · cases h
  · rename_i h1
    split at h
    · cases h
    · rename_i h2
      rw [not_or, not_or] at h1 h2
      obtain ⟨h1, h3, h4⟩ := h1
      obtain ⟨h2, h5, h6⟩ := h2
      have h1 := sets_true.1 (by simpa using h1)
      have h3 := out_false.1 (by simpa using h3)
      have h4 := out_false.1 (by simpa using h4)
      refine ⟨h1, ⟨h3.1, h3.2, h4.1, h4.2⟩, by omega, fun x hx => ?_, by simpa using h6⟩
      have h5 : l.any (oddS s2 next tick) = false := by simpa using h5
      rw [List.any_eq_false] at h5
      have h7 := h5 x hx
      simp only [oddS, Bool.or_eq_true, not_or, Bool.not_eq_true, out_false, bne_eq_false_iff_eq] at h7
      omega
/-- Small enough for a copy. -/
def SmallS (l : List S38) : Prop := l.length < 1000000 ∧ ∀ x ∈ l, x.f3.f1.length < 1000000000 ∧ ∀ d ∈ x.f3.f1, d.f2.length < 140737488355328
theorem MayS.small {l : List S38} {s0 s1 s2 next tick : Int} (h : MayS l s0 s1 s2 next tick) : SmallS l := by
  have h1 := h.s
  have h2 := h.len
  refine ⟨by omega, fun x hx => ?_⟩
  have h3 := may_of _ _ _ (h.od x hx).2.2.2.2.2.2
  have h4 := h3.len
  refine ⟨by omega, fun d hd => ?_⟩
  obtain ⟨i, hi, rfl⟩ := List.mem_iff_getElem.1 hd
  have h5 := (h3.bds i hi).2.2.2.2
  rw [List.getD_eq_getElem?_getD, List.getElem?_eq_getElem hi] at h5
  simp only [Option.getD_some] at h5
  omega
/-- The cells of those that stay. -/
def keepP {α : Type} (p : α → Bool) (l : List α) (rows : List (List Value)) : List (List Value) := ((l.zip rows).filter fun x => !p x.1).map (·.2)
theorem keepP_step {α : Type} (p : α → Bool) (l : List α) (rows : List (List Value)) (j : Nat) (d : α) (r : List Value) (hd : l[j]? = some d) (hr : rows[j]? = some r) : keepP p (l.take (j + 1)) (rows.take (j + 1)) = keepP p (l.take j) (rows.take j) ++ (if p d = true then [] else [r]) := by
  obtain ⟨h1, rfl⟩ := List.getElem?_eq_some_iff.1 hd
  obtain ⟨h2, rfl⟩ := List.getElem?_eq_some_iff.1 hr
  unfold keepP
  rw [List.take_succ_eq_append_getElem h1, List.take_succ_eq_append_getElem h2, List.zip_append (by rw [List.length_take, List.length_take]; omega), List.filter_append, List.map_append]
  congr 1
  by_cases h : p l[j] = true
  · simp [h]
  · simp [h]
theorem keepP_none {α : Type} (p : α → Bool) (l : List α) (rows : List (List Value)) (hl : rows.length = l.length) : ∀ k, k ≤ l.length → (∀ q d, q < k → l[q]? = some d → p d = false) → keepP p (l.take k) (rows.take k) = rows.take k
  | 0, _, _ => by simp [keepP]
  | k + 1, hk, h => by
    have h1 : k < l.length := by omega
    have h2 : k < rows.length := by omega
    rw [keepP_step p l rows k l[k] rows[k] (List.getElem?_eq_getElem h1) (List.getElem?_eq_getElem h2), keepP_none p l rows hl k (by omega) (fun q d hq => h q d (by omega)), h k _ (by omega) (List.getElem?_eq_getElem h1), List.take_succ_eq_append_getElem h2]
    simp
/-- The first place of one that a test takes; none: -1. -/
def firstP {α : Type} (p : α → Bool) (l : List α) : Int := if l.any p = true then (l.findIdx p : Int) else -1
theorem firstP_none {α : Type} (p : α → Bool) (l : List α) (h : ∀ x ∈ l, p x = false) : firstP p l = -1 := by
  unfold firstP
  rw [if_neg]
  rw [List.any_eq_true]
  rintro ⟨x, hx, hp⟩
  rw [h x hx] at hp
  cases hp
theorem firstP_at {α : Type} (p : α → Bool) (l : List α) (k : Nat) (d : α) (hd : l[k]? = some d) (hp : p d = true) (h : ∀ x ∈ l.take k, p x = false) : firstP p l = k := by
  obtain ⟨hk, rfl⟩ := List.getElem?_eq_some_iff.1 hd
  unfold firstP
  rw [if_pos (List.any_eq_true.2 ⟨_, List.getElem_mem hk, hp⟩)]
  congr 1
  rw [List.findIdx_eq hk]
  exact ⟨hp, fun j hj => h _ (List.mem_take_iff_getElem.2 ⟨j, by omega, rfl⟩)⟩
theorem keepP_len {α : Type} (p : α → Bool) : ∀ (l : List α) (rows : List (List Value)), rows.length = l.length → (keepP p l rows).length = (l.filter fun x => !p x).length
  | [], [], _ => rfl
  | x :: l, r :: rows, h => by
    have ih := keepP_len p l rows (by simpa using h)
    unfold keepP at ih ⊢
    by_cases hp : p x = true
    · simp only [List.zip_cons_cons, List.filter_cons, hp, Bool.not_true, Bool.false_eq_true, if_false]
      exact ih
    · simp only [List.zip_cons_cons, List.filter_cons, Bool.eq_false_iff.2 hp, Bool.not_false, if_true, List.map_cons, List.length_cons, ih]
theorem keepP_at {α : Type} (p : α → Bool) : ∀ (l : List α) (rows : List (List Value)), rows.length = l.length → ∀ (j : Nat) (x : α) (c : List Value), (l.filter fun x => !p x)[j]? = some x → (keepP p l rows)[j]? = some c → ∃ i : Nat, l[i]? = some x ∧ rows[i]? = some c
  | [], [], _, j, x, c, hx, _ => by simp at hx
  | y :: l, r :: rows, h, j, x, c, hx, hc => by
    have ih := keepP_at p l rows (by simpa using h)
    unfold keepP at ih hc
    by_cases hp : p y = true
    · simp only [List.filter_cons, hp, Bool.not_true, Bool.false_eq_true, if_false] at hx
      simp only [List.zip_cons_cons, List.filter_cons, hp, Bool.not_true, Bool.false_eq_true, if_false] at hc
      obtain ⟨i, h1, h2⟩ := ih j x c hx hc
      exact ⟨i + 1, by simpa using h1, by simpa using h2⟩
    · simp only [List.filter_cons, Bool.eq_false_iff.2 hp, Bool.not_false, if_true] at hx
      simp only [List.zip_cons_cons, List.filter_cons, Bool.eq_false_iff.2 hp, Bool.not_false, if_true, List.map_cons] at hc
      cases j with
      | zero => exact ⟨0, hx, hc⟩
      | succ j =>
        obtain ⟨i, h1, h2⟩ := ih j x c (by simpa using hx) (by simpa using hc)
        exact ⟨i + 1, by simpa using h1, by simpa using h2⟩
section
variable {α : Type} {d : Kd α} {e base : Nat} {ok : Nat → Prop} {w : World} {v : Value} {xs : List α}
theorem R_of_raw {rows : List (List Value)} (hraw : (Kd.raw d.sz).R e w base ok v rows) (hl : rows.length = xs.length) (hm : ∀ (j : Nat) x cs, xs[j]? = some x → rows[j]? = some cs → d.M w base (fun k => ok k ∧ some k ≠ v.ownBlock) x cs) : d.R e w base ok v xs := by
  obtain ⟨h0, inner, ho, hrep⟩ := hraw
  refine ⟨h0, inner, by rw [← hl]; exact ho, by rw [← hl]; exact hrep.1, fun j x hx => ?_⟩
  have hj : j < rows.length := by rw [hl]; exact (List.getElem?_eq_some_iff.1 hx).1
  have h1 := (hrep.2 j rows[j] (List.getElem?_eq_getElem hj)).1
  have h2 := hm j x rows[j] hx (List.getElem?_eq_getElem hj)
  rw [← h1] at h2
  exact h2
theorem raw_of_R (h : d.R e w base ok v xs) : ∃ rows : List (List Value), rows.length = xs.length ∧ (Kd.raw d.sz).R e w base ok v rows ∧ ∀ (j : Nat) x cs, xs[j]? = some x → rows[j]? = some cs → d.M w base (fun k => ok k ∧ some k ≠ v.ownBlock) x cs := by
  obtain ⟨h0, inner, ho, hrep⟩ := h
  refine ⟨Kd.chunks d.sz xs.length inner, Kd.chunks_length _ _ _, ⟨h0, inner, by rw [Kd.chunks_length]; exact ho, Kd.reps_raw hrep (fun x c hx => ⟨d.K_len (d.K_of_M hx), d.K_one (d.K_of_M hx)⟩)⟩, fun j x cs hx hc => ?_⟩
  rw [Kd.chunks_get hc]
  exact hrep.2 j x hx
end
end Go.Proofs.Ythfjgfldmkdlnaa.G
end

section
namespace Go.Proofs.Ythfjgfldmkdlnaa.G
open WB Go.RowKit Go.Proofs.YthfjgfldmkdlnaaW.PrintWords Go.Proofs.YthfjgfldmkdlnaaW.PrintLast Go.Proofs.YthfjgfldmkdlnaaW.PrintMore
attribute [local go_sem] max2_int min2_int max_two min_two max_three min_three max_four min_four   -- for this text's walks alone
set_option linter.unusedVariables false
set_option linter.unusedSimpArgs false
def session_in.f (a0 : Int) (a1 : Int) (a2 : Int) : Option (Bool) := if a0 ≥ a1 then (some (decide (a0 ≤ a2))) else (some false)
set_option maxHeartbeats 8000000 in
set_option maxRecDepth 100000 in
theorem session_in.calls (a0 : Int) (a1 : Int) (a2 : Int) (r : Bool) (w : World) (h : session_in.f a0 a1 a2 = some r) :
    Calls Try.prog 30 #[.int .i64 a0, .int .i64 a1, .int .i64 a2] w fun e w' => e = .returned (.bool r) ∧ Drawn0 w w' := by
  have H : (if a0 ≥ a1 then (some (decide (a0 ≤ a2))) else (some false)) = some r := h
  clear h
  by_cases c4 : a0 ≥ a1
  · rw [if_pos c4] at H
    have c4b0 : decide (a1 ≤ a0) = true := decide_eq_true c4
    clear c4
    obtain rfl := Option.some.inj H
    simp only [Option.some.injEq, Prod.mk.injEq] at H
    obtain ⟨rfl⟩ := H
    go_enter Try.func30, Try.ntmps30
    go_wp2
    go_ret
    exact ⟨by first | rfl | (simp; done) | (simp [*]; done), by repeat (first | exact Drawn0.refl _ | apply Drawn0.step)⟩
  · rw [if_neg c4] at H
    have c4b0 : decide (a1 ≤ a0) = false := decide_eq_false c4
    clear c4
    obtain rfl := Option.some.inj H
    simp only [Option.some.injEq, Prod.mk.injEq] at H
    obtain ⟨rfl⟩ := H
    go_enter Try.func30, Try.ntmps30
    go_wp2
    go_ret
    exact ⟨by first | rfl | (simp; done) | (simp [*]; done), by repeat (first | exact Drawn0.refl _ | apply Drawn0.step)⟩
end Go.Proofs.Ythfjgfldmkdlnaa.G
end

section
namespace Go.Proofs.Ythfjgfldmkdlnaa.G
open WB Go.RowKit Go.Proofs.YthfjgfldmkdlnaaW.PrintWords Go.Proofs.YthfjgfldmkdlnaaW.PrintLast Go.Proofs.YthfjgfldmkdlnaaW.PrintMore
attribute [local go_sem] max2_int min2_int max_two min_two max_three min_three max_four min_four   -- for this text's walks alone
set_option linter.unusedVariables false
set_option linter.unusedSimpArgs false
def session_Sets.f (a0_0 : Int) (a0_1 : Int) (a0_2 : Int) : Option (Bool) := (session_in.f a0_0 1 64).bind fun t102 => (if t102 = true then ((session_in.f a0_1 1 1048576).bind fun t103 => (if t103 = true then ((session_in.f a0_2 1 64).bind fun t104 => (some t104)) else (some false))) else (some false))
set_option maxHeartbeats 8000000 in
set_option maxRecDepth 100000 in
theorem session_Sets.calls (a0_0 : Int) (a0_1 : Int) (a0_2 : Int) (r : Bool) (w : World) (h : session_Sets.f a0_0 a0_1 a0_2 = some r) :
    Calls Try.prog 42 #[.agg #[.int .i64 a0_0, .int .i64 a0_1, .int .i64 a0_2]] w fun e w' => e = .returned (.bool r) ∧ Below w.heap.size w w' := by
  have hu24 := Try.underlying24
  have HB := Aside0.mk (Below.refl w.heap.size w)
  have H : ((session_in.f a0_0 1 64).bind fun t102 => (if t102 = true then ((session_in.f a0_1 1 1048576).bind fun t103 => (if t103 = true then ((session_in.f a0_2 1 64).bind fun t104 => (some t104)) else (some false))) else (some false))) = some r := h
  clear h
  replace H := Option.bind_eq_some_iff.mp H
  obtain ⟨t102, A20, H⟩ := H
  replace H : (if t102 = true then ((session_in.f a0_1 1 1048576).bind fun t103 => (if t103 = true then ((session_in.f a0_2 1 64).bind fun t104 => (some t104)) else (some false))) else (some false)) = some r := H
  have A2 := Aside0.mk A20
  clear A20
  by_cases c3 : t102 = true
  · subst c3
    have H1 : ((session_in.f a0_1 1 1048576).bind fun t103 => (if t103 = true then ((session_in.f a0_2 1 64).bind fun t104 => (some t104)) else (some false))) = some r := by rw [if_pos rfl] at H; exact H
    clear H
    have H := H1
    clear H1
    replace H := Option.bind_eq_some_iff.mp H
    obtain ⟨t103, A40, H⟩ := H
    replace H : (if t103 = true then ((session_in.f a0_2 1 64).bind fun t104 => (some t104)) else (some false)) = some r := H
    have A4 := Aside0.mk A40
    clear A40
    by_cases c5 : t103 = true
    · subst c5
      have H1 : ((session_in.f a0_2 1 64).bind fun t104 => (some t104)) = some r := by rw [if_pos rfl] at H; exact H
      clear H
      have H := H1
      clear H1
      replace H := Option.bind_eq_some_iff.mp H
      obtain ⟨t104, A60, H⟩ := H
      replace H : (some t104) = some r := H
      have A6 := Aside0.mk A60
      clear A60
      obtain rfl := Option.some.inj H
      simp only [Option.some.injEq, Prod.mk.injEq] at H
      obtain ⟨rfl⟩ := H
      go_enter Try.func42, Try.ntmps42
      go_wp2_with (first | ((with_reducible refine gate_dst (N := 1) rfl ?_); refine box_event ?hg (N := 1) ?hd (cs := #[.int .i64 a0_0, .int .i64 a0_1, .int .i64 a0_2]) (t := 24) ?hr ?_; (case hd => rfl); (case hg => rfl); (case hr => first | (go_simp; done) | (go_simp; rfl)); intro gb101 hg w7 hbox hb; have n0_ := Aside0.mk (below_step (by repeat (first | (with_reducible first | exact HB.out | apply below_alloc | apply pw_below_drewN | apply below_drew1) | exact HB.out)) hb); have n1_ := Aside0.mk (hbox); have n2_ := Aside0.mk ((by rw [hg]; exact (below_size (by repeat (first | (with_reducible first | exact HB.out | apply below_alloc | apply pw_below_drewN | apply below_drew1) | exact HB.out))) : w.heap.size ≤ gb101)); have n3_ := Aside0.mk ((by rw [hg]; exact (below_size (by repeat (first | (with_reducible first | exact HB.out | apply below_alloc | apply pw_below_drewN | apply below_drew1) | exact HB.out))) : w.heap.size ≤ gb101)); clear HB; have HB := n0_; have BK101 := n1_; have GW101 := n2_; have GE101 := n3_; clear n0_ n1_ n2_ n3_; clear hb hbox hg; have hcz8_0 : w7.cell? ⟨gb101, 0, none⟩ = some (.int .i64 a0_0) := (blk_cell BK101.out 0).trans rfl; have hcz8_1 : w7.cell? ⟨gb101, 1, none⟩ = some (.int .i64 a0_1) := (blk_cell BK101.out 1).trans rfl; have hcz8_2 : w7.cell? ⟨gb101, 2, none⟩ = some (.int .i64 a0_2) := (blk_cell BK101.out 2).trans rfl; have hfz8_0 := blk_frozen BK101.out 0; have hfz8_1 := blk_frozen BK101.out 1; have hfz8_2 := blk_frozen BK101.out 2) | ((with_reducible refine gate_callee (f := 30) rfl ?_); refine goesL_ (some 5) rfl rfl Try.func30 (by kernel_rfl) rfl #[.int .i64 a0_0, .int .i64 1, .int .i64 64] rfl (by (try simp only [List.map_toArray, List.map_cons, List.map_nil]); first | done | rfl | (simp only [List.length_drop, List.length_take]; rfl)) ?_; (with_reducible refine (session_in.calls a0_0 1 64 true _ A2.out).mono ?_); rintro e w' ⟨rfl, ⟨nd, rfl⟩⟩; refine ⟨_, rfl, ?_⟩) | (go_at_call 30; (with_reducible refine (session_in.calls a0_1 1 1048576 true _ A4.out).mono ?_); rintro e w' ⟨rfl, ⟨nd, rfl⟩⟩) | (go_at_call 30; (with_reducible refine (session_in.calls a0_2 1 64 t104 _ A6.out).mono ?_); rintro e w' ⟨rfl, ⟨nd, rfl⟩⟩))
      go_ret
      exact ⟨by first | rfl | (simp [errW_none, errW_some] <;> rfl) | (simp [*, errW_none, errW_some] <;> rfl), by repeat (first | (with_reducible first | exact HB.out | apply below_alloc | apply pw_below_drewN | apply below_drew1 | refine below_set ?_ GE101.out) | exact HB.out)⟩
    · replace c5 := Bool.eq_false_iff.mpr c5
      subst c5
      have H1 : (some false) = some r := by rw [if_neg (show ¬ (false = true) by decide)] at H; exact H
      clear H
      have H := H1
      clear H1
      obtain rfl := Option.some.inj H
      simp only [Option.some.injEq, Prod.mk.injEq] at H
      obtain ⟨rfl⟩ := H
      go_enter Try.func42, Try.ntmps42
      go_wp2_with (first | ((with_reducible refine gate_dst (N := 1) rfl ?_); refine box_event ?hg (N := 1) ?hd (cs := #[.int .i64 a0_0, .int .i64 a0_1, .int .i64 a0_2]) (t := 24) ?hr ?_; (case hd => rfl); (case hg => rfl); (case hr => first | (go_simp; done) | (go_simp; rfl)); intro gb101 hg w9 hbox hb; have n0_ := Aside0.mk (below_step (by repeat (first | (with_reducible first | exact HB.out | apply below_alloc | apply pw_below_drewN | apply below_drew1) | exact HB.out)) hb); have n1_ := Aside0.mk (hbox); have n2_ := Aside0.mk ((by rw [hg]; exact (below_size (by repeat (first | (with_reducible first | exact HB.out | apply below_alloc | apply pw_below_drewN | apply below_drew1) | exact HB.out))) : w.heap.size ≤ gb101)); have n3_ := Aside0.mk ((by rw [hg]; exact (below_size (by repeat (first | (with_reducible first | exact HB.out | apply below_alloc | apply pw_below_drewN | apply below_drew1) | exact HB.out))) : w.heap.size ≤ gb101)); clear HB; have HB := n0_; have BK101 := n1_; have GW101 := n2_; have GE101 := n3_; clear n0_ n1_ n2_ n3_; clear hb hbox hg; have hcz10_0 : w9.cell? ⟨gb101, 0, none⟩ = some (.int .i64 a0_0) := (blk_cell BK101.out 0).trans rfl; have hcz10_1 : w9.cell? ⟨gb101, 1, none⟩ = some (.int .i64 a0_1) := (blk_cell BK101.out 1).trans rfl; have hcz10_2 : w9.cell? ⟨gb101, 2, none⟩ = some (.int .i64 a0_2) := (blk_cell BK101.out 2).trans rfl; have hfz10_0 := blk_frozen BK101.out 0; have hfz10_1 := blk_frozen BK101.out 1; have hfz10_2 := blk_frozen BK101.out 2) | ((with_reducible refine gate_callee (f := 30) rfl ?_); refine goesL_ (some 5) rfl rfl Try.func30 (by kernel_rfl) rfl #[.int .i64 a0_0, .int .i64 1, .int .i64 64] rfl (by (try simp only [List.map_toArray, List.map_cons, List.map_nil]); first | done | rfl | (simp only [List.length_drop, List.length_take]; rfl)) ?_; (with_reducible refine (session_in.calls a0_0 1 64 true _ A2.out).mono ?_); rintro e w' ⟨rfl, ⟨nd, rfl⟩⟩; refine ⟨_, rfl, ?_⟩) | (go_at_call 30; (with_reducible refine (session_in.calls a0_1 1 1048576 false _ A4.out).mono ?_); rintro e w' ⟨rfl, ⟨nd, rfl⟩⟩))
      go_ret
      exact ⟨by first | rfl | (simp [errW_none, errW_some] <;> rfl) | (simp [*, errW_none, errW_some] <;> rfl), by repeat (first | (with_reducible first | exact HB.out | apply below_alloc | apply pw_below_drewN | apply below_drew1 | refine below_set ?_ GE101.out) | exact HB.out)⟩
  · replace c3 := Bool.eq_false_iff.mpr c3
    subst c3
    have H1 : (some false) = some r := by rw [if_neg (show ¬ (false = true) by decide)] at H; exact H
    clear H
    have H := H1
    clear H1
    obtain rfl := Option.some.inj H
    simp only [Option.some.injEq, Prod.mk.injEq] at H
    obtain ⟨rfl⟩ := H
    go_enter Try.func42, Try.ntmps42
    go_wp2_with (first | ((with_reducible refine gate_dst (N := 1) rfl ?_); refine box_event ?hg (N := 1) ?hd (cs := #[.int .i64 a0_0, .int .i64 a0_1, .int .i64 a0_2]) (t := 24) ?hr ?_; (case hd => rfl); (case hg => rfl); (case hr => first | (go_simp; done) | (go_simp; rfl)); intro gb101 hg w11 hbox hb; have n0_ := Aside0.mk (below_step (by repeat (first | (with_reducible first | exact HB.out | apply below_alloc | apply pw_below_drewN | apply below_drew1) | exact HB.out)) hb); have n1_ := Aside0.mk (hbox); have n2_ := Aside0.mk ((by rw [hg]; exact (below_size (by repeat (first | (with_reducible first | exact HB.out | apply below_alloc | apply pw_below_drewN | apply below_drew1) | exact HB.out))) : w.heap.size ≤ gb101)); have n3_ := Aside0.mk ((by rw [hg]; exact (below_size (by repeat (first | (with_reducible first | exact HB.out | apply below_alloc | apply pw_below_drewN | apply below_drew1) | exact HB.out))) : w.heap.size ≤ gb101)); clear HB; have HB := n0_; have BK101 := n1_; have GW101 := n2_; have GE101 := n3_; clear n0_ n1_ n2_ n3_; clear hb hbox hg; have hcz12_0 : w11.cell? ⟨gb101, 0, none⟩ = some (.int .i64 a0_0) := (blk_cell BK101.out 0).trans rfl; have hcz12_1 : w11.cell? ⟨gb101, 1, none⟩ = some (.int .i64 a0_1) := (blk_cell BK101.out 1).trans rfl; have hcz12_2 : w11.cell? ⟨gb101, 2, none⟩ = some (.int .i64 a0_2) := (blk_cell BK101.out 2).trans rfl; have hfz12_0 := blk_frozen BK101.out 0; have hfz12_1 := blk_frozen BK101.out 1; have hfz12_2 := blk_frozen BK101.out 2) | ((with_reducible refine gate_callee (f := 30) rfl ?_); refine goesL_ (some 5) rfl rfl Try.func30 (by kernel_rfl) rfl #[.int .i64 a0_0, .int .i64 1, .int .i64 64] rfl (by (try simp only [List.map_toArray, List.map_cons, List.map_nil]); first | done | rfl | (simp only [List.length_drop, List.length_take]; rfl)) ?_; (with_reducible refine (session_in.calls a0_0 1 64 false _ A2.out).mono ?_); rintro e w' ⟨rfl, ⟨nd, rfl⟩⟩; refine ⟨_, rfl, ?_⟩))
    go_ret
    exact ⟨by first | rfl | (simp [errW_none, errW_some] <;> rfl) | (simp [*, errW_none, errW_some] <;> rfl), by repeat (first | (with_reducible first | exact HB.out | apply below_alloc | apply pw_below_drewN | apply below_drew1 | refine below_set ?_ GE101.out) | exact HB.out)⟩
end Go.Proofs.Ythfjgfldmkdlnaa.G
end

section
namespace Go.Proofs.Ythfjgfldmkdlnaa.G
open WB Go.RowKit Go.Proofs.YthfjgfldmkdlnaaW.PrintWords Go.Proofs.YthfjgfldmkdlnaaW.PrintLast Go.Proofs.YthfjgfldmkdlnaaW.PrintMore
attribute [local go_sem] max2_int min2_int max_two min_two max_three min_three max_four min_four   -- for this text's walks alone
set_option linter.unusedVariables false
set_option linter.unusedSimpArgs false
set_option maxHeartbeats 2000000 in
set_option maxRecDepth 100000 in
theorem window_odd (g : Nat) (mark size : Int) (A : Value) (d : S51) (A2 : Option Addr) (c2 : Nat) (w : World) (hg : w.heap[g]? = some (.cells #[.int .i64 mark, A, .int .i64 size] 89 (0, 0)))
    (hm : 1 ≤ mark ∧ mark ≤ 1073741824) (hs : 1 ≤ size ∧ size ≤ 64) :
    Calls Try.prog 48 #[.pointer (some ⟨g, 0, none⟩), .agg #[.int .i64 d.f0, .int .i64 d.f1, .slice A2 d.f2.length c2]] w fun e w' => e = .returned (.bool (oddD mark size d)) ∧ Below w.heap.size w w' := by
  obtain ⟨hm1, hm2⟩ := hm
  obtain ⟨hs1, hs2⟩ := hs
  have b0 := blk_cell hg 0
  have b2 := blk_cell hg 2
  have hlt := blk_lt hg
  simp at b0 b2
  clear hg
  have fin : ∀ b, oddD mark size d = b → ∀ (w' : World), Below w.heap.size w w' → (Ending.returned (.bool b) = .returned (.bool (oddD mark size d)) ∧ Below w.heap.size w w') := fun b hb w' h => ⟨by rw [hb], h⟩
  have fin' := Aside0.mk fin
  clear fin
  by_cases h0 : d.f0 < mark
  · have f0 : decide (d.f0 < mark) = true := decide_eq_true h0
    have HF : Aside0 (oddD mark size d = true) := ⟨by simp [oddD]; omega⟩
    clear h0
    go_enter Try.func48, Try.ntmps48
    go_wp2
    go_quiet (fail)
    go_wp2
    go_ret
    exact fin'.out _ HF.out _ (by repeat (first | exact Below.refl _ _ | apply below_alloc | apply pw_below_drewN | apply below_drew1))
  by_cases h1 : mark + size ≤ d.f0
  · have f0 : decide (d.f0 < mark) = false := decide_eq_false h0
    have f1 : decide (mark + size ≤ d.f0) = true := decide_eq_true h1
    have HF : Aside0 (oddD mark size d = true) := ⟨by simp [oddD]; omega⟩
    clear h0 h1
    go_enter Try.func48, Try.ntmps48
    go_wp2
    go_quiet (fail)
    go_wp2
    go_ret
    exact fin'.out _ HF.out _ (by repeat (first | exact Below.refl _ _ | apply below_alloc | apply pw_below_drewN | apply below_drew1))
  by_cases h2 : d.f1 < 0
  · have f0 : decide (d.f0 < mark) = false := decide_eq_false h0
    have f1 : decide (mark + size ≤ d.f0) = false := decide_eq_false h1
    have f2 : decide (d.f1 < 0) = true := decide_eq_true h2
    have HF : Aside0 (oddD mark size d = true) := ⟨by simp [oddD]; omega⟩
    clear h0 h1 h2
    go_enter Try.func48, Try.ntmps48
    go_wp2
    go_quiet (fail)
    go_wp2
    go_ret
    exact fin'.out _ HF.out _ (by repeat (first | exact Below.refl _ _ | apply below_alloc | apply pw_below_drewN | apply below_drew1))
  by_cases h3 : 1000 < d.f1
  · have f0 : decide (d.f0 < mark) = false := decide_eq_false h0
    have f1 : decide (mark + size ≤ d.f0) = false := decide_eq_false h1
    have f2 : decide (d.f1 < 0) = false := decide_eq_false h2
    have f3 : decide (1000 < d.f1) = true := decide_eq_true h3
    have HF : Aside0 (oddD mark size d = true) := ⟨by simp [oddD]; omega⟩
    clear h0 h1 h2 h3
    go_enter Try.func48, Try.ntmps48
    go_wp2
    go_quiet (fail)
    go_wp2
    go_ret
    exact fin'.out _ HF.out _ (by repeat (first | exact Below.refl _ _ | apply below_alloc | apply pw_below_drewN | apply below_drew1))
  by_cases h4 : (1024 : Int) < d.f2.length
  · have f0 : decide (d.f0 < mark) = false := decide_eq_false h0
    have f1 : decide (mark + size ≤ d.f0) = false := decide_eq_false h1
    have f2 : decide (d.f1 < 0) = false := decide_eq_false h2
    have f3 : decide (1000 < d.f1) = false := decide_eq_false h3
    have f4 : decide ((1024 : Int) < d.f2.length) = true := decide_eq_true h4
    have f5 : decide (1024 < d.f2.length) = true := decide_eq_true (by omega)
    have HF : Aside0 (oddD mark size d = true) := ⟨by simp [oddD]; omega⟩
    clear h0 h1 h2 h3 h4
    go_enter Try.func48, Try.ntmps48
    go_wp2
    go_quiet (fail)
    go_wp2
    go_ret
    exact fin'.out _ HF.out _ (by repeat (first | exact Below.refl _ _ | apply below_alloc | apply pw_below_drewN | apply below_drew1))
  have f0 : decide (d.f0 < mark) = false := decide_eq_false h0
  have f1 : decide (mark + size ≤ d.f0) = false := decide_eq_false h1
  have f2 : decide (d.f1 < 0) = false := decide_eq_false h2
  have f3 : decide (1000 < d.f1) = false := decide_eq_false h3
  have f4 : decide ((1024 : Int) < d.f2.length) = false := decide_eq_false h4
  have f5 : decide (1024 < d.f2.length) = false := decide_eq_false (by omega)
  have HF : Aside0 (oddD mark size d = false) := ⟨by simp [oddD]; omega⟩
  clear h0 h1 h2 h3 h4
  go_enter Try.func48, Try.ntmps48
  go_wp2
  go_quiet (fail)
  go_wp2
  go_ret
  exact fin'.out _ HF.out _ (by repeat (first | exact Below.refl _ _ | apply below_alloc | apply pw_below_drewN | apply below_drew1))
set_option maxHeartbeats 2000000 in
set_option maxRecDepth 100000 in
theorem index_odd (g : Nat) (mark size : Int) (A : Value) (B : Option Addr) (c : Nat) (l : List S51) (w : World) (hr : Kd.C k51 w B l.length l) (hc : l.length ≤ c) (hg : w.heap[g]? = some (.cells #[.int .i64 mark, A, .int .i64 size] 89 (0, 0)))
    (hm : 1 ≤ mark ∧ mark ≤ 1073741824) (hs : 1 ≤ size ∧ size ≤ 64) :
    Calls Try.prog 54 #[.slice B l.length c, .func (.func 48) #[.pointer (some ⟨g, 0, none⟩)] #[]] w
      fun e w' => Aside0 (∃ i : Int, e = .returned (.int .i64 i) ∧ decide (0 ≤ i) = l.any (oddD mark size)) ∧ Below w.heap.size w w' := by
  have HR := Aside0.mk hr
  have HC := Aside0.mk hc
  have HG := Aside0.mk hg
  have HM := Aside0.mk hm
  have HS := Aside0.mk hs
  have hlen : l.length ≤ 9223372036854775807 := hr.2.1
  clear hr hc hg hm hs
  go_enter Try.func54, Try.ntmps54
  go_wp2
  go_loopw [8] (fun v8 wr => ∃ k : Nat, v8 = .int .i64 k ∧ k ≤ l.length ∧ Aside0 ((l.take k).any (oddD mark size) = false) ∧ Aside0 (Below w.heap.size w wr)) (fun v8 _ => l.length - (intOf v8).toNat)
  case atStart => exact ⟨0, rfl, by omega, ⟨by simp⟩, ⟨Below.refl _ _⟩⟩
  case round =>
    obtain ⟨k, rfl, hk, HT, HB⟩ := hrel
    by_cases hlt : k < l.length
    · obtain ⟨ad, A2, c2, e1, q0, q1, q2, q3, q4⟩ := at_T51 (Kd.C_below HR.out HB.out) (k : Int) (by omega) (by omega)
      simp only [Int.toNat_natCast] at q0 q1 q2
      obtain ⟨d, hd⟩ : ∃ d, d = rd_T51 l (k : Int) := ⟨_, rfl⟩
      rw [← hd] at q0 q1 q2
      have HD : Aside0 (l.take (k + 1) = l.take k ++ [d]) := ⟨by
        rw [List.take_succ_eq_append_getElem hlt, hd]; simp [rd_T51, List.getElem?_eq_getElem hlt]⟩
      have HDm : Aside0 (d ∈ l) := ⟨by rw [hd]; simp [rd_T51, List.getElem?_eq_getElem hlt]⟩
      have b1 : decide (k < l.length) = true := decide_eq_true hlt
      have hG := HB.out.block g (blk_lt HG.out)
      have HGr : Aside0 (wr.heap[g]? = some (.cells #[.int .i64 mark, A, .int .i64 size] 89 (0, 0))) := ⟨hG.trans HG.out⟩
      clear q3 q4 hG hd
      subst e1
      by_cases ho : oddD mark size d = true
      · go_wp2_with (go_at_call 48; (with_reducible refine (window_odd g mark size A d A2 _ _ HGr.out HM.out HS.out).mono ?_); rintro e w1 ⟨rfl, hb⟩; have HB1 := Aside0.mk hb; clear hb)
        have HA : Aside0 (l.any (oddD mark size) = true) := ⟨List.any_eq_true.2 ⟨d, HDm.out, ho⟩⟩
        go_ret
        exact ⟨⟨(k : Int), rfl, by rw [HA.out]; exact decide_eq_true (by omega)⟩, below_then HB.out HB.out.size HB1.out⟩
      · have ho' : oddD mark size d = false := by simpa using ho
        have HT' : Aside0 ((l.take (k + 1)).any (oddD mark size) = false) := ⟨by rw [HD.out, List.any_append, HT.out]; simp [ho']⟩
        clear ho
        go_wp2_with (go_at_call 48; (with_reducible refine (window_odd g mark size A d A2 _ _ HGr.out HM.out HS.out).mono ?_); rintro e w1 ⟨rfl, hb⟩; have HB1 := Aside0.mk hb; clear hb)
        go_roundw
        case rel => exact ⟨k + 1, by go_num, by omega, HT', ⟨below_then HB.out HB.out.size HB1.out⟩⟩
        case measure => simp [intOf]; omega
    · have b1 : decide (k < l.length) = false := decide_eq_false hlt
      have HA : Aside0 (l.any (oddD mark size) = false) := ⟨by have := HT.out; rwa [List.take_of_length_le (by omega)] at this⟩
      go_wp2
      go_ret
      exact ⟨⟨(-1 : Int), rfl, by rw [HA.out]; rfl⟩, HB.out⟩
set_option maxHeartbeats 2000000 in
set_option maxRecDepth 100000 in
theorem contains_odd (g : Nat) (mark size : Int) (A : Value) (B : Option Addr) (c : Nat) (l : List S51) (w : World) (hr : Kd.C k51 w B l.length l) (hc : l.length ≤ c) (hg : w.heap[g]? = some (.cells #[.int .i64 mark, A, .int .i64 size] 89 (0, 0)))
    (hm : 1 ≤ mark ∧ mark ≤ 1073741824) (hs : 1 ≤ size ∧ size ≤ 64) :
    Calls Try.prog 47 #[.slice B l.length c, .func (.func 48) #[.pointer (some ⟨g, 0, none⟩)] #[]] w
      fun e w' => e = .returned (.bool (l.any (oddD mark size))) ∧ Below w.heap.size w w' := by
  have H := fun W hr hg => index_odd g mark size A B c l W hr hc hg hm hs
  have H1 := Aside0.mk (H w hr hg)
  clear H hr hc hg hm hs
  go_enter Try.func47, Try.ntmps47
  go_wp2_with (go_at_call 54; (with_reducible refine (H1.out).mono ?_); rintro e w1 ⟨⟨i, rfl, hi⟩, hb⟩; have HI := Aside0.mk hi; have HB := Aside0.mk hb; clear hi hb)
  go_ret
  exact ⟨by simp [HI.out], HB.out⟩
set_option maxHeartbeats 2000000 in
set_option maxRecDepth 100000 in
theorem rises_any (B : Option Addr) (c : Nat) (l : List S51) (w : World) (hr : Kd.C k51 w B l.length l) (hc : l.length ≤ c) :
    Calls Try.prog 49 #[.slice B l.length c] w fun e w' => e = .returned (.bool (risesD l)) ∧ Drawn0 w w' := by
  have HR := Aside0.mk hr
  have hlen : l.length ≤ 9223372036854775807 := hr.2.1
  clear hr hc
  go_enter Try.func49, Try.ntmps49
  go_wp2
  go_loopw [6] (fun v6 wr => ∃ k : Nat, v6 = .int .i64 k ∧ k ≤ l.length ∧ Aside0 (risesD (l.take k) = true) ∧ Drawn0 w wr) (fun v6 _ => l.length - (intOf v6).toNat)
  case atStart => exact ⟨0, rfl, by omega, ⟨by simp [risesD]⟩, Drawn0.refl _⟩
  case round =>
    obtain ⟨k, rfl, hk, HT, ⟨m, rfl⟩⟩ := hrel
    have HDr : Aside0 (Drawn0 w (w.drewN m)) := ⟨⟨m, rfl⟩⟩
    by_cases hlt : k < l.length
    · have b1 : decide (k < l.length) = true := decide_eq_true hlt
      rcases Nat.eq_zero_or_pos k with h0 | h0
      · subst h0
        have HT' : Aside0 (risesD (l.take (0 + 1)) = true) := ⟨by
          rw [List.take_succ_eq_append_getElem hlt]; simp [risesD]⟩
        go_wp2
        go_quiet (fail)
        go_wp2
        go_roundw
        case rel => exact ⟨1, rfl, by omega, HT', (by first | exact ⟨⟨_, rfl⟩⟩ | exact HDr.out.step nq)⟩
        case measure => simp [intOf]; omega
      · obtain ⟨ad, A2, c2, e1, q0, q1, q2, q3, q4⟩ := at_T51 HR.out (k : Int) (by omega) (by omega)
        obtain ⟨ad', A3, c3, e2, p0, p1, p2, p3, p4⟩ := at_T51 HR.out ((k : Int) - 1) (by omega) (by omega)
        have HS := Aside0.mk (rises_step l k h0 hlt)
        have f1 : (rd_T51 l (k : Int)).f0 = (l.getD k z51).f0 := by simp [rd_T51]
        have f2 : (rd_T51 l ((k : Int) - 1)).f0 = (l.getD (k - 1) z51).f0 := by
          have : ((k : Int) - 1).toNat = k - 1 := by omega
          simp [rd_T51, this]
        rw [e1] at e2
        obtain rfl := Option.some.inj e2
        rw [f1] at q0
        rw [f2] at p0
        have n1 : ((k : Int) - 1).toNat = k - 1 := by omega
        simp only [Int.toNat_natCast] at q0
        rw [n1] at p0
        clear q1 q2 q3 q4 p1 p2 p3 p4 f1 f2 e2
        obtain ⟨x, hx⟩ : ∃ x, x = (l.getD k z51).f0 := ⟨_, rfl⟩
        obtain ⟨y, hy⟩ : ∃ y, y = (l.getD (k - 1) z51).f0 := ⟨_, rfl⟩
        rw [← hx] at q0
        rw [← hy] at p0
        have HS' : Aside0 (risesD (l.take (k + 1)) = decide (y < x)) := ⟨by rw [HS.out, HT.out, hx, hy]; rfl⟩
        clear HS hx hy
        have c0 : decide ((0 : Int) < k) = true := decide_eq_true (by omega)
        have c1 : (0 : Int) ≤ (k : Int) - 1 := by omega
        have cw : IntKind.i64.wrap ((k : Int) - 1) = (k : Int) - 1 := by rw [IntKind.wrap_i64]; omega
        have c2' : (k : Int) - 1 < (l.length : Int) := by omega
        subst e1
        by_cases hxy : x ≤ y
        · have d1 : decide (x ≤ y) = true := decide_eq_true hxy
          have HA : Aside0 (risesD l = false) := ⟨rises_false l (k + 1) (by rw [HS'.out]; exact decide_eq_false (by omega))⟩
          clear hxy
          go_wp2
          go_quiet (fail)
          go_wp2
          go_ret
          exact ⟨by rw [HA.out]; rfl, (by first | exact ⟨⟨_, rfl⟩⟩ | exact HDr.out.step nq)⟩
        · have d1 : decide (x ≤ y) = false := decide_eq_false hxy
          have HT' : Aside0 (risesD (l.take (k + 1)) = true) := ⟨by rw [HS'.out]; exact decide_eq_true (by omega)⟩
          clear hxy
          go_wp2
          go_quiet (fail)
          go_wp2
          go_roundw
          case rel => exact ⟨k + 1, by go_num, by omega, HT', (by first | exact ⟨⟨_, rfl⟩⟩ | exact HDr.out.step nq)⟩
          case measure => simp [intOf]; omega
    · have b1 : decide (k < l.length) = false := decide_eq_false hlt
      have HA : Aside0 (risesD l = true) := ⟨by have := HT.out; rwa [List.take_of_length_le (by omega)] at this⟩
      go_wp2
      go_ret
      exact ⟨by rw [HA.out]; rfl, HDr.out⟩
def window_Check.f (a0_0 : Int) (l0_1 : List (S51)) (a1 : Int) : Option (Int) := some (checkW a0_0 l0_1 a1)
set_option maxHeartbeats 2000000 in
set_option maxRecDepth 100000 in
theorem window_Check.calls (a0_0 : Int) (A0_1 : Option Addr) (c0_1 : Nat) (l0_1 : List (S51)) (a1 : Int) (r : Int) (w : World) (hr0_1 : Kd.C k51 w A0_1 l0_1.length l0_1) (hc0_1 : l0_1.length ≤ c0_1) (h : window_Check.f a0_0 l0_1 a1 = some r) :
    Calls Try.prog 35 #[.agg #[.int .i64 a0_0, .slice A0_1 l0_1.length c0_1], .int .i64 a1] w fun e w' => e = .returned (.int .i64 r) ∧ Below w.heap.size w w' := by
  unfold window_Check.f at h
  obtain rfl := Option.some.inj h
  clear h
  have HR := Aside0.mk hr0_1
  have HC := Aside0.mk hc0_1
  clear hr0_1 hc0_1
  have HODD := fun (W : World) (g : Nat) hg hm hs hr => Aside0.mk (contains_odd g a0_0 a1 (.slice A0_1 l0_1.length c0_1) A0_1 c0_1 l0_1 W hr HC.out hg hm hs)
  have HRI := fun (W : World) hr => Aside0.mk (rises_any A0_1 c0_1 l0_1 W hr HC.out)
  have HO' := Aside0.mk HODD
  have HI' := Aside0.mk HRI
  clear HODD HRI
  by_cases h0 : a1 < 1 ∨ 64 < a1
  · have HE : Aside0 (checkW a0_0 l0_1 a1 = 4) := ⟨by unfold checkW; rw [if_pos h0]⟩
    rw [HE.out]
    rcases h0 with h0 | h0
    · have b0 : decide (a1 < 1) = true := decide_eq_true h0
      clear h0
      go_enter Try.func35, Try.ntmps35
      go_wp2
      go_ret
      exact ⟨rfl, by repeat (first | exact Below.refl _ _ | apply below_alloc | apply pw_below_drewN | apply below_drew1)⟩
    · have b0 : decide (a1 < 1) = false := decide_eq_false (by omega)
      have b1 : decide (64 < a1) = true := decide_eq_true h0
      clear h0
      go_enter Try.func35, Try.ntmps35
      go_wp2
      go_ret
      exact ⟨rfl, by repeat (first | exact Below.refl _ _ | apply below_alloc | apply pw_below_drewN | apply below_drew1)⟩
  · have b0 : decide (a1 < 1) = false := decide_eq_false (by omega)
    have b1 : decide (64 < a1) = false := decide_eq_false (by omega)
    by_cases hm : a0_0 < 1 ∨ 1073741824 < a0_0
    · have HE : Aside0 (checkW a0_0 l0_1 a1 = 9) := ⟨by unfold checkW; rw [if_neg h0, if_pos (Or.inl hm)]⟩
      rw [HE.out]
      clear h0
      rcases hm with hm | hm
      · have b2 : decide (a0_0 < 1) = true := decide_eq_true hm
        clear hm
        go_enter Try.func35, Try.ntmps35
        go_wp2
        go_ret
        exact ⟨rfl, by repeat (first | exact Below.refl _ _ | apply below_alloc | apply pw_below_drewN | apply below_drew1)⟩
      · have b2 : decide (a0_0 < 1) = false := decide_eq_false (by omega)
        have b3 : decide (1073741824 < a0_0) = true := decide_eq_true hm
        clear hm
        go_enter Try.func35, Try.ntmps35
        go_wp2
        go_ret
        exact ⟨rfl, by repeat (first | exact Below.refl _ _ | apply below_alloc | apply pw_below_drewN | apply below_drew1)⟩
    · have b2 : decide (a0_0 < 1) = false := decide_eq_false (by omega)
      have b3 : decide (1073741824 < a0_0) = false := decide_eq_false (by omega)
      have HM : Aside0 (1 ≤ a0_0 ∧ a0_0 ≤ 1073741824) := ⟨by omega⟩
      have HS : Aside0 (1 ≤ a1 ∧ a1 ≤ 64) := ⟨by omega⟩
      by_cases ha : l0_1.any (oddD a0_0 a1) = true
      · have HE : Aside0 (checkW a0_0 l0_1 a1 = 9) := ⟨by unfold checkW; rw [if_neg h0, if_pos (Or.inr (Or.inl ha))]⟩
        rw [HE.out]
        clear h0 hm
        go_enter Try.func35, Try.ntmps35
        go_wp2_with (go_at_call 47; (with_reducible refine ((HO'.out _ (w.heap.size + 1) ?hg HM.out HS.out ?hr).out).mono ?_); (case hg => exact heap_new2 _ _ _); (case hr => exact Kd.C_alloc (Kd.C_alloc HR.out _) _); rintro e w1 ⟨rfl, hb⟩; have HB1 := Aside0.mk (below_then (below_alloc (below_alloc (Below.refl _ _) _) _) (by simp; omega) hb); have hcell1 : w1.cell? ⟨w.heap.size, 1, none⟩ = some (.slice A0_1 l0_1.length c0_1) := (hb.cell (p := ⟨w.heap.size, 1, none⟩) (by simp; omega)).trans (cell_in2 _ _ _ _ 1); clear hb)
        go_ret
        exact ⟨rfl, HB1.out⟩
      · have ha' : l0_1.any (oddD a0_0 a1) = false := by simpa using ha
        by_cases hri : risesD l0_1 = true
        · have HE : Aside0 (checkW a0_0 l0_1 a1 = 0) := ⟨by unfold checkW; rw [if_neg h0, if_neg (by rintro (hx | hx | hx); exact absurd hx hm; rw [ha'] at hx; cases hx; rw [hri] at hx; cases hx)]⟩
          rw [HE.out]
          clear h0 hm ha
          go_enter Try.func35, Try.ntmps35
          go_wp2_with (first | (go_at_call 47; (with_reducible refine ((HO'.out _ (w.heap.size + 1) ?hg HM.out HS.out ?hr).out).mono ?_); (case hg => exact heap_new2 _ _ _); (case hr => exact Kd.C_alloc (Kd.C_alloc HR.out _) _); rintro e w1 ⟨rfl, hb⟩; have HB1 := Aside0.mk (below_then (below_alloc (below_alloc (Below.refl _ _) _) _) (by simp; omega) hb); have hcell1 : w1.cell? ⟨w.heap.size, 1, none⟩ = some (.slice A0_1 l0_1.length c0_1) := (hb.cell (p := ⟨w.heap.size, 1, none⟩) (by simp; omega)).trans (cell_in2 _ _ _ _ 1); clear hb) | (go_at_call 49; (with_reducible refine ((HI'.out _ ?hr2).out).mono ?_); (case hr2 => exact Kd.C_below HR.out HB1.out); rintro e w2 ⟨rfl, ⟨nd, rfl⟩⟩))
          go_ret
          exact ⟨rfl, pw_below_drewN HB1.out _⟩
        · have hri' : risesD l0_1 = false := by simpa using hri
          have HE : Aside0 (checkW a0_0 l0_1 a1 = 9) := ⟨by unfold checkW; rw [if_neg h0, if_pos (Or.inr (Or.inr hri'))]⟩
          rw [HE.out]
          clear h0 hm ha hri
          go_enter Try.func35, Try.ntmps35
          go_wp2_with (first | (go_at_call 47; (with_reducible refine ((HO'.out _ (w.heap.size + 1) ?hg HM.out HS.out ?hr).out).mono ?_); (case hg => exact heap_new2 _ _ _); (case hr => exact Kd.C_alloc (Kd.C_alloc HR.out _) _); rintro e w1 ⟨rfl, hb⟩; have HB1 := Aside0.mk (below_then (below_alloc (below_alloc (Below.refl _ _) _) _) (by simp; omega) hb); have hcell1 : w1.cell? ⟨w.heap.size, 1, none⟩ = some (.slice A0_1 l0_1.length c0_1) := (hb.cell (p := ⟨w.heap.size, 1, none⟩) (by simp; omega)).trans (cell_in2 _ _ _ _ 1); clear hb) | (go_at_call 49; (with_reducible refine ((HI'.out _ ?hr2).out).mono ?_); (case hr2 => exact Kd.C_below HR.out HB1.out); rintro e w2 ⟨rfl, ⟨nd, rfl⟩⟩))
          go_ret
          exact ⟨rfl, pw_below_drewN HB1.out _⟩
end Go.Proofs.Ythfjgfldmkdlnaa.G
end
