-- Made by wip/tools/xprint.py (over the kit's print program) for this claim.
import Derived.Test.YtkdkjnjiianogaaProg
import Derived.Below
import Derived.Deep.Draws
import Derived.Deep.AppendLies
import Derived.Maps.AppendAt
import Derived.OwnWalk
import Derived.Laws.BytesArg
import Derived.Laws.MakeOwn
import Derived.Laws.OwnMore
import Derived.Deep.OwnRows
import Derived.Tactics
import Derived.Lib.ConvBytes
import Derived.Laws.Slices
import Derived.WalkKit
import Derived.KernelRfl
import Derived.RowKit3
import Derived.Deep.LoopGhost
import Derived.Deep.QuietTactic
import Derived.BigQuiet
import Derived.WideLaws
import Derived.Deep.DeepCutAuto
import Derived.Deep.CutBlock
import Derived.Deep.RegionHeld3
import Derived.Laws.Rows
import Derived.Lib.AppendStr
import Derived.ArgAppend
import Derived.Laws.IdiomCopy
import Derived.OrdersHeld
import Derived.Laws.BitsLemmas
import Derived.RowKit
import Derived.Lib.SliceRun
import Derived.Laws.BitsAllLaws
import Derived.Test.YtkdkjnjiianogaaQBase
import Derived.Test.YtkdkjnjiianogaaQOpen
import Derived.Test.YtkdkjnjiianogaaQKd
import Derived.Test.YtkdkjnjiianogaaQReg
import Derived.Test.YtkdkjnjiianogaaQMove
import Derived.Test.YtkdkjnjiianogaaQRows
import Derived.Test.YtkdkjnjiianogaaQGhost
import Derived.Test.YtkdkjnjiianogaaQIns
import Derived.Test.YtkdkjnjiianogaaQFar
import Derived.Test.YtkdkjnjiianogaaWWords
import Derived.Test.YtkdkjnjiianogaaWLast
import Derived.Test.YtkdkjnjiianogaaWTab
import Derived.Test.YtkdkjnjiianogaaWFour
import Derived.Test.YtkdkjnjiianogaaWQPut
import Derived.Test.YtkdkjnjiianogaaWApart
import Derived.Test.YtkdkjnjiianogaaWArr
import Derived.Test.YtkdkjnjiianogaaWZeros
import Derived.Test.YtkdkjnjiianogaaWFoot
import Derived.Test.YtkdkjnjiianogaaWKept
import Derived.Test.YtkdkjnjiianogaaWShare
import Derived.Test.YtkdkjnjiianogaaWN
import Derived.Test.YtkdkjnjiianogaaWFootNe
import Derived.Test.YtkdkjnjiianogaaWAt
import Derived.Test.YtkdkjnjiianogaaWEqStruct
import Derived.Test.YtkdkjnjiianogaaWRepsOne
import Derived.Test.YtkdkjnjiianogaaWInv
import Derived.Test.YtkdkjnjiianogaaWInvWords
import Derived.Test.YtkdkjnjiianogaaWGuard
import Derived.Test.YtkdkjnjiianogaaWNEv
import Derived.Test.YtkdkjnjiianogaaWMore
namespace Go.Proofs.Ytkdkjnjiianogaa.G
open WB Go.RowKit Go.Proofs.YtkdkjnjiianogaaW.PrintWords Go.Proofs.YtkdkjnjiianogaaW.PrintLast Go.Proofs.YtkdkjnjiianogaaW.PrintMore
attribute [local go_sem] max2_int min2_int max_two min_two max_three min_three max_four min_four   -- for this text's walks alone
set_option linter.unusedVariables false
set_option linter.unusedSimpArgs false



def errW : Option Int → Value
  | none => .nilIface
  | some c => .iface 0 (.int .i64 c)
theorem errW_none : errW none = .nilIface := rfl
theorem errW_some (c : Int) : errW (some c) = .iface 0 (.int .i64 c) := rfl

theorem info5 : (Try.prog.info? 5).map (fun i => (i.zero, i.size, i.bytes)) = some (some (.int .u8 0), 1, 1) := by kernel_rfl
theorem info32 : (Try.prog.info? 32).map (fun i => (i.zero, i.size, i.bytes)) = some (some (.agg #[(.int .i64 0), (.int .i64 0), (.slice none 0 0)]), 3, 40) := by kernel_rfl
-- the values' own types
def rd_L2 (xs : List (List Int)) (i : Int) : (List Int) := xs.getD i.toNat ([] : List Int)
theorem at_L2 {w : World} {A : Option Addr} {n : Nat} {xs : List (List Int)} (h : Kd.C (Kd.slice 5 (Kd.int .u8)) w A n xs) (i : Int) (h0 : 0 ≤ i) (h1 : i < n) : ∃ ad A0 c0, A = some ad ∧ w.cell? (ad.add i.toNat) = some (.slice A0 (rd_L2 xs i).length c0) ∧ (rd_L2 xs i).length ≤ c0 ∧ (Kd.int .u8).C w A0 (rd_L2 xs i).length (rd_L2 xs i) := by
  obtain ⟨ad, c, e, _, hK, hc0⟩ := Kd.C_get h ([] : List Int) i h0 h1
  have hc : ∀ j u, c[j]? = some u → w.cell? (ad.add (i.toNat * 1 + j)) = some u := hc0
  obtain ⟨A0, c0, rfl, l0, g0⟩ := hK
  exact ⟨ad, A0, c0, e, by have hq := hc 0 _ rfl; rwa [Nat.mul_one, Nat.add_zero] at hq, l0, g0⟩

/-! #### struct type 32 -/
structure S32 where
  f0 : Int
  f1 : Int
  f2 : (List Int)
def z32 : S32 := ⟨(0 : Int), (0 : Int), ([] : List Int)⟩
def k32 : Kd S32 := Kd.iso (Kd.pair (Kd.int .i64) (Kd.pair (Kd.int .i64) (Kd.slice 5 (Kd.int .u8)))) (fun x : S32 => (x.f0, x.f1, x.f2))
theorem k32_open {w : World} {x : S32} {cs : List Value} (h : k32.K w x cs) : ∃ A2 c2, cs = [.int .i64 x.f0, .int .i64 x.f1, .slice A2 x.f2.length c2] ∧ x.f2.length ≤ c2 ∧ (Kd.int .u8).C w A2 x.f2.length x.f2 := by
  obtain ⟨_, _, rfl, rfl, ⟨_, _, rfl, rfl, ⟨A2, c2, rfl, l2, g2⟩⟩⟩ := h
  exact ⟨A2, c2, rfl, l2, g2⟩
theorem k32_openM {w : World} {base : Nat} {ok : Nat → Prop} {x : S32} {cs : List Value} (h : k32.M w base ok x cs) : ∃ v2, cs = [.int .i64 x.f0, .int .i64 x.f1, v2] ∧ (Kd.int .u8).R 5 w base ok v2 x.f2 := by
  obtain ⟨_, _, rfl, rfl, ⟨_, _, rfl, rfl, ⟨v2, rfl, g2⟩⟩⟩ := h
  exact ⟨v2, rfl, g2⟩
theorem k32_mk (w : World) (x : S32) {A2 : Option Addr} {c2 : Nat} (l2 : x.f2.length ≤ c2) (g2 : (Kd.int .u8).C w A2 x.f2.length x.f2) : k32.K w x [.int .i64 x.f0, .int .i64 x.f1, .slice A2 x.f2.length c2] := ⟨[.int .i64 x.f0], [.int .i64 x.f1, .slice A2 x.f2.length c2], rfl, rfl, ⟨[.int .i64 x.f1], [.slice A2 x.f2.length c2], rfl, rfl, ⟨A2, c2, rfl, l2, g2⟩⟩⟩
theorem k32_mkM (w : World) (base : Nat) (ok : Nat → Prop) (x : S32) {v2 : Value} (g2 : (Kd.int .u8).R 5 w base ok v2 x.f2) : k32.M w base ok x [.int .i64 x.f0, .int .i64 x.f1, v2] := ⟨[.int .i64 x.f0], [.int .i64 x.f1, v2], rfl, rfl, ⟨[.int .i64 x.f1], [v2], rfl, rfl, ⟨v2, rfl, g2⟩⟩⟩
def rd_T32 (xs : List S32) (i : Int) : S32 := xs.getD i.toNat z32
theorem at_T32 {w : World} {A : Option Addr} {n : Nat} {xs : List S32} (h : Kd.C k32 w A n xs) (i : Int) (h0 : 0 ≤ i) (h1 : i < n) : ∃ ad A2 c2, A = some ad ∧ w.cell? (ad.add (i.toNat * 3)) = some (.int .i64 (rd_T32 xs i).f0) ∧ w.cell? ⟨(ad.add (i.toNat * 3)).block, (ad.add (i.toNat * 3)).off + 1, none⟩ = some (.int .i64 (rd_T32 xs i).f1) ∧ w.cell? ⟨(ad.add (i.toNat * 3)).block, (ad.add (i.toNat * 3)).off + 2, none⟩ = some (.slice A2 (rd_T32 xs i).f2.length c2) ∧ (rd_T32 xs i).f2.length ≤ c2 ∧ (Kd.int .u8).C w A2 (rd_T32 xs i).f2.length (rd_T32 xs i).f2 := by
  obtain ⟨ad, c, e, _, hK, hc0⟩ := Kd.C_get h z32 i h0 h1
  have hc : ∀ j u, c[j]? = some u → w.cell? (ad.add (i.toNat * 3 + j)) = some u := hc0
  obtain ⟨A2, c2, rfl, l2, g2⟩ := k32_open hK
  exact ⟨ad, A2, c2, e, hc 0 _ rfl, by rw [← add_field _ _ 1 (by omega)]; exact hc 1 _ rfl, by rw [← add_field _ _ 2 (by omega)]; exact hc 2 _ rfl, l2, g2⟩

def rd_L4 (xs : List (List S32)) (i : Int) : (List S32) := xs.getD i.toNat ([] : List S32)
theorem at_L4 {w : World} {A : Option Addr} {n : Nat} {xs : List (List S32)} (h : Kd.C (Kd.slice 32 k32) w A n xs) (i : Int) (h0 : 0 ≤ i) (h1 : i < n) : ∃ ad A0 c0, A = some ad ∧ w.cell? (ad.add i.toNat) = some (.slice A0 (rd_L4 xs i).length c0) ∧ (rd_L4 xs i).length ≤ c0 ∧ k32.C w A0 (rd_L4 xs i).length (rd_L4 xs i) := by
  obtain ⟨ad, c, e, _, hK, hc0⟩ := Kd.C_get h ([] : List S32) i h0 h1
  have hc : ∀ j u, c[j]? = some u → w.cell? (ad.add (i.toNat * 1 + j)) = some u := hc0
  obtain ⟨A0, c0, rfl, l0, g0⟩ := hK
  exact ⟨ad, A0, c0, e, by have hq := hc 0 _ rfl; rwa [Nat.mul_one, Nat.add_zero] at hq, l0, g0⟩

/-! #### struct type 24 -/
structure S24 where
  f0 : Int
  f1 : (List S32)
def z24 : S24 := ⟨(0 : Int), ([] : List S32)⟩
def k24 : Kd S24 := Kd.iso (Kd.pair (Kd.int .i64) (Kd.slice 32 k32)) (fun x : S24 => (x.f0, x.f1))
theorem k24_open {w : World} {x : S24} {cs : List Value} (h : k24.K w x cs) : ∃ A1 c1, cs = [.int .i64 x.f0, .slice A1 x.f1.length c1] ∧ x.f1.length ≤ c1 ∧ k32.C w A1 x.f1.length x.f1 := by
  obtain ⟨_, _, rfl, rfl, ⟨A1, c1, rfl, l1, g1⟩⟩ := h
  exact ⟨A1, c1, rfl, l1, g1⟩
theorem k24_openM {w : World} {base : Nat} {ok : Nat → Prop} {x : S24} {cs : List Value} (h : k24.M w base ok x cs) : ∃ v1, cs = [.int .i64 x.f0, v1] ∧ k32.R 32 w base ok v1 x.f1 := by
  obtain ⟨_, _, rfl, rfl, ⟨v1, rfl, g1⟩⟩ := h
  exact ⟨v1, rfl, g1⟩
theorem k24_mk (w : World) (x : S24) {A1 : Option Addr} {c1 : Nat} (l1 : x.f1.length ≤ c1) (g1 : k32.C w A1 x.f1.length x.f1) : k24.K w x [.int .i64 x.f0, .slice A1 x.f1.length c1] := ⟨[.int .i64 x.f0], [.slice A1 x.f1.length c1], rfl, rfl, ⟨A1, c1, rfl, l1, g1⟩⟩
theorem k24_mkM (w : World) (base : Nat) (ok : Nat → Prop) (x : S24) {v1 : Value} (g1 : k32.R 32 w base ok v1 x.f1) : k24.M w base ok x [.int .i64 x.f0, v1] := ⟨[.int .i64 x.f0], [v1], rfl, rfl, ⟨v1, rfl, g1⟩⟩
def rd_T24 (xs : List S24) (i : Int) : S24 := xs.getD i.toNat z24
theorem at_T24 {w : World} {A : Option Addr} {n : Nat} {xs : List S24} (h : Kd.C k24 w A n xs) (i : Int) (h0 : 0 ≤ i) (h1 : i < n) : ∃ ad A1 c1, A = some ad ∧ w.cell? (ad.add (i.toNat * 2)) = some (.int .i64 (rd_T24 xs i).f0) ∧ w.cell? ⟨(ad.add (i.toNat * 2)).block, (ad.add (i.toNat * 2)).off + 1, none⟩ = some (.slice A1 (rd_T24 xs i).f1.length c1) ∧ (rd_T24 xs i).f1.length ≤ c1 ∧ k32.C w A1 (rd_T24 xs i).f1.length (rd_T24 xs i).f1 := by
  obtain ⟨ad, c, e, _, hK, hc0⟩ := Kd.C_get h z24 i h0 h1
  have hc : ∀ j u, c[j]? = some u → w.cell? (ad.add (i.toNat * 2 + j)) = some u := hc0
  obtain ⟨A1, c1, rfl, l1, g1⟩ := k24_open hK
  exact ⟨ad, A1, c1, e, hc 0 _ rfl, by rw [← add_field _ _ 1 (by omega)]; exact hc 1 _ rfl, l1, g1⟩

/-- May something kept not be? -/
def oddD (mark size : Int) (d : S32) : Bool := decide (d.f0 < mark) || (decide (d.f0 ≥ mark + size) || (decide (d.f1 < 0) || (decide (d.f1 > 1000) || decide ((d.f2.length : Int) > 1024))))
/-- Do the seqs rise? -/
def risesD : List S32 → Bool
  | [] => true
  | [_] => true
  | a :: b :: l => decide (a.f0 < b.f0) && risesD (b :: l)
theorem rises_snoc : ∀ (l : List S32) (a b : S32), risesD (l ++ [a, b]) = (risesD (l ++ [a]) && decide (a.f0 < b.f0))
  | [], a, b => by simp [risesD]
  | [x], a, b => by simp [risesD, Bool.and_assoc]
  | x :: y :: l, a, b => by
    have := rises_snoc (y :: l) a b
    simp only [List.cons_append, risesD] at this ⊢
    rw [this, Bool.and_assoc]
theorem rises_step (l : List S32) (k : Nat) (h0 : 0 < k) (h : k < l.length) : risesD (l.take (k + 1)) = (risesD (l.take k) && decide ((l.getD (k - 1) z32).f0 < (l.getD k z32).f0)) := by
  obtain ⟨j, rfl⟩ : ∃ j, k = j + 1 := ⟨k - 1, by omega⟩
  rw [List.take_succ_eq_append_getElem h, List.take_succ_eq_append_getElem (by omega), List.append_assoc]
  rw [show [l[j]] ++ [l[j + 1]] = [l[j], l[j + 1]] from rfl, rises_snoc]
  simp [List.getElem?_eq_getElem h, List.getElem?_eq_getElem (show j < l.length by omega)]
theorem rises_false (l : List S32) (k : Nat) (h : risesD (l.take k) = false) : risesD l = false := by
  rcases Nat.lt_or_ge k l.length with hk | hk
  · have : ∀ d, k + d ≤ l.length → risesD (l.take (k + d)) = false := by
      intro d
      induction d with
      | zero => exact fun _ => h
      | succ d ih =>
        intro hd
        rcases Nat.eq_zero_or_pos (k + d) with h0 | h0
        · have := ih (by omega)
          rw [h0] at this
          simp [risesD] at this
        · rw [← Nat.add_assoc, rises_step l (k + d) h0 (by omega), ih (by omega)]
          rfl
    have := this (l.length - k) (by omega)
    rwa [Nat.add_sub_cancel' (by omega), List.take_length] at this
  · rwa [List.take_of_length_le hk] at h
/-- May a window be? -/
def checkW (mark : Int) (l : List S32) (size : Int) : Int :=
  if size < 1 ∨ 64 < size then 4 else if (mark < 1 ∨ 1073741824 < mark) ∨ l.any (oddD mark size) = true ∨ risesD l = false then 9 else 0

/-- Where a seq stands, or would stand: all ahead are smaller, none behind is. -/
structure FoundAt (l : List S32) (seq : Int) (i : Nat) (b : Bool) : Prop where
  le : i ≤ l.length
  lo : ∀ j, j < i → (l.getD j z32).f0 < seq
  hi : ∀ j, i ≤ j → j < l.length → seq ≤ (l.getD j z32).f0
  is : b = decide (i < l.length ∧ (l.getD i z32).f0 = seq)
/-- The seqs rise, and all lie in bounds. -/
structure Neat (l : List S32) : Prop where
  up : ∀ i j, i ≤ j → j < l.length → (l.getD i z32).f0 ≤ (l.getD j z32).f0
  bd : ∀ i, i < l.length → 0 ≤ (l.getD i z32).f0 ∧ (l.getD i z32).f0 ≤ 2147483648
theorem rises_at (l : List S32) (h : risesD l = true) (j : Nat) (hj : j + 1 < l.length) : (l.getD j z32).f0 < (l.getD (j + 1) z32).f0 := by
  by_cases hlt : (l.getD j z32).f0 < (l.getD (j + 1) z32).f0
  · exact hlt
  · have e := rises_step l (j + 1) (by omega) hj
    rw [Nat.add_sub_cancel, decide_eq_false hlt, Bool.and_false] at e
    rw [rises_false l _ e] at h
    cases h
theorem rises_up (l : List S32) (h : risesD l = true) (i d : Nat) : i + d < l.length → (l.getD i z32).f0 + d ≤ (l.getD (i + d) z32).f0 := by
  induction d with
  | zero => intro _; simp
  | succ d ih =>
    intro hl
    have := rises_at l h (i + d) (by omega)
    have := ih (by omega)
    rw [show i + (d + 1) = i + d + 1 by omega]
    push_cast
    omega
/-- A window that may be: what its check tells. -/
structure May (mark size : Int) (l : List S32) : Prop where
  m1 : 1 ≤ mark
  m2 : mark ≤ 1073741824
  s1 : 1 ≤ size
  s2 : size ≤ 64
  od : ∀ i, i < l.length → oddD mark size (l.getD i z32) = false
  up : risesD l = true
theorem may_of (mark size : Int) (l : List S32) (h : checkW mark l size = 0) : May mark size l := by
  unfold checkW at h
  split at h
  · cases h
  · rename_i h0
    split at h
    · cases h
    · rename_i h1
      rw [not_or] at h1
      obtain ⟨h1, h4⟩ := h1
      rw [not_or] at h4
      obtain ⟨h2, h3⟩ := h4
      refine ⟨by omega, by omega, by omega, by omega, fun i hi => ?_, by simpa using h3⟩
      have h2 : l.any (oddD mark size) = false := by simpa using h2
      rw [List.any_eq_false] at h2
      have := h2 _ (List.getElem_mem hi)
      simpa [List.getD_eq_getElem?_getD, List.getElem?_eq_getElem hi] using this
theorem check_of (mark size : Int) (l : List S32) (h : May mark size l) : checkW mark l size = 0 := by
  obtain ⟨h1, h2, h3, h4, h5, h6⟩ := h
  unfold checkW
  rw [if_neg (by omega), if_neg]
  rintro (h | h | h)
  · omega
  · rw [List.any_eq_true] at h
    obtain ⟨x, hx, ho⟩ := h
    obtain ⟨i, hi, rfl⟩ := List.mem_iff_getElem.1 hx
    have := h5 i hi
    rw [List.getD_eq_getElem?_getD, List.getElem?_eq_getElem hi] at this
    simp only [Option.getD_some] at this
    rw [this] at ho
    cases ho
  · rw [h6] at h; cases h
theorem May.bds {mark size : Int} {l : List S32} (h : May mark size l) (i : Nat) (hi : i < l.length) : mark ≤ (l.getD i z32).f0 ∧ (l.getD i z32).f0 < mark + size ∧ 0 ≤ (l.getD i z32).f1 ∧ (l.getD i z32).f1 ≤ 1000 ∧ (l.getD i z32).f2.length ≤ 1024 := by
  have := h.od i hi
  simp only [oddD, Bool.or_eq_false_iff, decide_eq_false_iff_not] at this
  omega
theorem May.len {mark size : Int} {l : List S32} (h : May mark size l) : (l.length : Int) ≤ size := by
  rcases Nat.eq_zero_or_pos l.length with h0 | h0
  · have := h.s1; omega
  · have a := (h.bds 0 h0).1
    have b := (h.bds (l.length - 1) (by omega)).2.1
    have c := rises_up l h.up 0 (l.length - 1) (by omega)
    rw [Nat.zero_add] at c
    omega
theorem May.neat {mark size : Int} {l : List S32} (h : May mark size l) : Neat l := by
  refine ⟨fun i j hij hj => ?_, fun i hi => ?_⟩
  · have := rises_up l h.up i (j - i) (by omega)
    rw [Nat.add_sub_cancel' hij] at this
    omega
  · have a := h.bds i hi
    have := h.m1
    have := h.m2
    have := h.s2
    omega
/-- How many are smaller. -/
def placeD (l : List S32) (seq : Int) : Nat := (l.takeWhile (fun d => decide (d.f0 < seq))).length
/-- What a seq is. -/
def whatD (mark size : Int) (l : List S32) (seq : Int) : Int :=
  if seq < mark then 2 else if seq ≥ mark + size then 3 else if (l.any fun d => d.f0 == seq) then 1 else 0
/-- Its place. -/
def spotD (mark size : Int) (l : List S32) (seq : Int) : Nat := if seq < mark ∨ seq ≥ mark + size then 0 else placeD l seq
theorem place_of : ∀ (l : List S32) (seq : Int) (i : Nat), i ≤ l.length → (∀ j, j < i → (l.getD j z32).f0 < seq) → (i < l.length → seq ≤ (l.getD i z32).f0) → placeD l seq = i
  | [], seq, i, h, _, _ => by simp [placeD] at *; omega
  | d :: l, seq, 0, _, _, h => by
    have := h (by simp)
    simp at this
    unfold placeD
    rw [List.takeWhile_cons_of_neg (by simp; omega)]
    rfl
  | d :: l, seq, i + 1, h, lo, hi => by
    have a := lo 0 (by omega)
    simp at a
    have e := place_of l seq i (by simp at h; omega) (fun j hj => by have := lo (j + 1) (by omega); simpa using this) (fun hl => by have := hi (by simp; omega); simpa using this)
    unfold placeD at e ⊢
    rw [List.takeWhile_cons_of_pos (by simpa using a), List.length_cons, e]
theorem FoundAt.place {l : List S32} {seq : Int} {i : Nat} {b : Bool} (h : FoundAt l seq i b) : placeD l seq = i :=
  place_of l seq i h.le h.lo fun hl => h.hi i (Nat.le_refl _) hl
theorem FoundAt.any {l : List S32} {seq : Int} {i : Nat} {b : Bool} (hn : Neat l) (h : FoundAt l seq i b) : (l.any fun d => d.f0 == seq) = b := by
  rw [h.is, Bool.eq_iff_iff, List.any_eq_true, decide_eq_true_iff]
  constructor
  · rintro ⟨x, hx, he⟩
    obtain ⟨j, hj, rfl⟩ := List.mem_iff_getElem.1 hx
    have ej : (l.getD j z32) = l[j] := by simp [List.getElem?_eq_getElem hj]
    have he : l[j].f0 = seq := by simpa using he
    have hij : i ≤ j := by
      rcases Nat.lt_or_ge j i with hlt | hge
      · have := h.lo j hlt; rw [ej] at this; omega
      · exact hge
    have u := hn.up i j hij hj
    have v := h.hi i (Nat.le_refl _) (by omega)
    rw [ej] at u
    exact ⟨by omega, by omega⟩
  · rintro ⟨hi, he⟩
    refine ⟨l[i], List.getElem_mem hi, ?_⟩
    have ei : (l.getD i z32) = l[i] := by simp [List.getElem?_eq_getElem hi]
    rw [ei] at he
    simpa using he

/-- What a seq is, with its reply. -/
def seeW (mark : Int) (l : List S32) (size seq : Int) : Int × Int × Int × List Int × Int :=
  if checkW mark l size ≠ 0 then (0, 0, 0, [], checkW mark l size)
  else if whatD mark size l seq = 1 then (1, (l.getD (placeD l seq) z32).f0, (l.getD (placeD l seq) z32).f1, (l.getD (placeD l seq) z32).f2, 0)
  else (whatD mark size l seq, 0, 0, [], 0)
theorem what_place (mark size : Int) (l : List S32) (seq : Int) (hm : May mark size l) (h : whatD mark size l seq = 1) : mark ≤ seq ∧ seq < mark + size ∧ placeD l seq < l.length ∧ (l.getD (placeD l seq) z32).f0 = seq := by
  unfold whatD at h
  split at h
  · cases h
  · split at h
    · cases h
    · split at h
      · rename_i h1 h2 h3
        rw [List.any_eq_true] at h3
        obtain ⟨x, hx, he⟩ := h3
        obtain ⟨j, hj, rfl⟩ := List.mem_iff_getElem.1 hx
        have he : l[j].f0 = seq := by simpa using he
        have ej : (l.getD j z32) = l[j] := by simp [List.getElem?_eq_getElem hj]
        have : placeD l seq = j := by
          refine place_of l seq j (by omega) (fun q hq => ?_) (fun _ => ?_)
          · have := rises_up l hm.up q (j - q) (by omega)
            rw [Nat.add_sub_cancel' (by omega), ej] at this
            omega
          · rw [ej]; omega
        rw [this, ej]
        exact ⟨by omega, by omega, hj, he⟩
      · cases h

/-- The cells of those that are not below a mark. -/
def keepR (l : List S32) (rows : List (List Value)) (m : Int) : List (List Value) := ((l.zip rows).filter fun p => !decide (p.1.f0 < m)).map (·.2)
/-- Those that are not below a mark. -/
def keepD (l : List S32) (m : Int) : List S32 := l.filter fun d => !decide (d.f0 < m)
theorem keep_step (l : List S32) (rows : List (List Value)) (m : Int) (j : Nat) (hl : rows.length = l.length) (h : j < l.length) (d : S32) (cs : List Value) (hd : l[j]? = some d) (hc : rows[j]? = some cs) :
    keepR (l.take (j + 1)) (rows.take (j + 1)) m = keepR (l.take j) (rows.take j) m ++ (if d.f0 < m then [] else [cs]) := by
  have hd' : l[j] = d := by rw [List.getElem?_eq_getElem h] at hd; exact Option.some.inj hd
  have hc' : rows[j]'(by omega) = cs := by rw [List.getElem?_eq_getElem (by omega)] at hc; exact Option.some.inj hc
  unfold keepR
  rw [List.take_succ_eq_append_getElem h, List.take_succ_eq_append_getElem (show j < rows.length by omega), hd', hc', List.zip_append (by simp; omega), List.filter_append, List.map_append]
  congr 1
  by_cases hm : d.f0 < m <;> simp [hm]
theorem keep_len_le (l : List S32) (rows : List (List Value)) (m : Int) (j : Nat) : (keepR (l.take j) (rows.take j) m).length ≤ j := by
  unfold keepR
  rw [List.length_map]
  exact Nat.le_trans (List.length_filter_le _ _) (by simp; omega)
theorem keep_none (l : List S32) (rows : List (List Value)) (m : Int) (hl : rows.length = l.length) (j : Nat) (hj : j ≤ l.length) (h : ∀ q, q < j → ¬ (l.getD q z32).f0 < m) : keepR (l.take j) (rows.take j) m = rows.take j := by
  induction j with
  | zero => rfl
  | succ j ih =>
    have hlt : j < l.length := by omega
    have h1 := h j (by omega)
    rw [List.getD_eq_getElem?_getD, List.getElem?_eq_getElem hlt, Option.getD_some] at h1
    rw [keep_step l rows m j hl hlt _ _ (List.getElem?_eq_getElem hlt) (List.getElem?_eq_getElem (show j < rows.length by omega)), ih (by omega) (fun q hq => h q (by omega)), if_neg h1, ← List.take_succ_eq_append_getElem]
/-- What a row's cells are. -/
def LineD (l : List S32) (rows : List (List Value)) : Prop := ∀ (j : Nat) d cs, l[j]? = some d → rows[j]? = some cs → ∃ (A : Option Addr) (n c : Nat), cs = [.int .i64 d.f0, .int .i64 d.f1, .slice A n c]
def forgetW (mark : Int) (l : List S32) (size m : Int) : Int × List S32 × Int × Int :=
  if checkW mark l size ≠ 0 then (0, [], 0, checkW mark l size) else if 1073741824 < m then (0, [], 0, 4)
  else (max m mark, keepD l (max m mark), (l.length : Int) - ((keepD l (max m mark)).length : Int), 0)
theorem keep_tags : ∀ (l : List S32) (rows : List (List Value)) (m : Int), rows.length = l.length → (keepR l rows m).length = (keepD l m).length ∧ ∃ t : Nat → Nat, (∀ i j, i < (keepD l m).length → j < (keepD l m).length → t i = t j → i = j) ∧ ∀ j x c, (keepD l m)[j]? = some x → (keepR l rows m)[j]? = some c → l[t j]? = some x ∧ rows[t j]? = some c
  | [], [], m, _ => ⟨rfl, fun j => j, fun i j hi => by simp [keepD] at hi, fun j x c hx => by simp [keepD] at hx⟩
  | d :: l, cs :: rows, m, hl => by
    obtain ⟨h0, t, h1, h2⟩ := keep_tags l rows m (by simpa using hl)
    by_cases hm : d.f0 < m
    · have e1 : keepD (d :: l) m = keepD l m := by simp [keepD, hm]
      have e2 : keepR (d :: l) (cs :: rows) m = keepR l rows m := by simp [keepR, hm]
      rw [e1, e2]
      exact ⟨h0, fun j => t j + 1, fun i j hi hj he => h1 i j hi hj (by simpa using he), fun j x c hx hc => by simpa using h2 j x c hx hc⟩
    · have e1 : keepD (d :: l) m = d :: keepD l m := by simp [keepD, hm]
      have e2 : keepR (d :: l) (cs :: rows) m = cs :: keepR l rows m := by simp [keepR, hm]
      rw [e1, e2]
      refine ⟨by simp [h0], fun j => match j with | 0 => 0 | j + 1 => t j + 1, ?_, ?_⟩
      · intro i j hi hj he
        match i, j with
        | 0, 0 => rfl
        | 0, j + 1 => simp at he
        | i + 1, 0 => simp at he
        | i + 1, j + 1 =>
          have := h1 i j (by simpa using hi) (by simpa using hj) (by simpa using he)
          omega
      · intro j x c hx hc
        match j with
        | 0 => exact ⟨hx, hc⟩
        | j + 1 => simpa using h2 j x c (by simpa using hx) (by simpa using hc)

/-- One more. -/
def putW (mark size : Int) (l : List S32) (d : S32) : Int × List S32 :=
  if d.f1 < 0 ∨ 1000 < d.f1 then (4, l) else if 1024 < d.f2.length then (5, l)
  else if whatD mark size l d.f0 = 1 then (6, l) else if whatD mark size l d.f0 = 2 then (73, l) else if whatD mark size l d.f0 = 3 then (72, l)
  else (0, l.take (placeD l d.f0) ++ d :: l.drop (placeD l d.f0))

theorem rises_pw : ∀ l : List S32, risesD l = true ↔ l.Pairwise (fun a b => a.f0 < b.f0)
  | [] => by simp [risesD]
  | [a] => by simp [risesD]
  | a :: b :: l => by
    rw [risesD, Bool.and_eq_true, decide_eq_true_iff, rises_pw (b :: l), @List.pairwise_cons _ _ a (b :: l)]
    constructor
    · rintro ⟨h1, h2⟩
      refine ⟨fun x hx => ?_, h2⟩
      rcases List.mem_cons.1 hx with rfl | hx
      · exact h1
      · exact Int.lt_trans h1 ((List.pairwise_cons.1 h2).1 x hx)
    · rintro ⟨h1, h2⟩
      exact ⟨h1 b List.mem_cons_self, h2⟩
theorem odd_of (mark size : Int) (d : S32) : oddD mark size d = false ↔ mark ≤ d.f0 ∧ d.f0 < mark + size ∧ 0 ≤ d.f1 ∧ d.f1 ≤ 1000 ∧ d.f2.length ≤ 1024 := by
  simp only [oddD, Bool.or_eq_false_iff, decide_eq_false_iff_not]
  omega
theorem may_iff (mark size : Int) (l : List S32) : May mark size l ↔ (1 ≤ mark ∧ mark ≤ 1073741824 ∧ 1 ≤ size ∧ size ≤ 64) ∧ (∀ d ∈ l, oddD mark size d = false) ∧ l.Pairwise (fun a b => a.f0 < b.f0) := by
  constructor
  · intro h
    refine ⟨⟨h.m1, h.m2, h.s1, h.s2⟩, fun d hd => ?_, (rises_pw l).1 h.up⟩
    obtain ⟨i, hi, rfl⟩ := List.mem_iff_getElem.1 hd
    have := h.od i hi
    rwa [List.getD_eq_getElem?_getD, List.getElem?_eq_getElem hi] at this
  · rintro ⟨⟨h1, h2, h3, h4⟩, h5, h6⟩
    refine ⟨h1, h2, h3, h4, fun i hi => ?_, (rises_pw l).2 h6⟩
    rw [List.getD_eq_getElem?_getD, List.getElem?_eq_getElem hi]
    exact h5 _ (List.getElem_mem hi)
/-- Behind the place all are greater. -/
theorem place_split (mark size : Int) (l : List S32) (d : S32) (hp : l.Pairwise (fun a b => a.f0 < b.f0)) (hn : ∀ x ∈ l, x.f0 ≠ d.f0) : (∀ x ∈ l.take (placeD l d.f0), x.f0 < d.f0) ∧ (∀ x ∈ l.drop (placeD l d.f0), d.f0 < x.f0) := by
  have e1 : l.take (placeD l d.f0) = l.takeWhile (fun x => decide (x.f0 < d.f0)) := by
    have e : l.take (l.takeWhile (fun x => decide (x.f0 < d.f0))).length = (l.takeWhile (fun x => decide (x.f0 < d.f0)) ++ l.dropWhile (fun x => decide (x.f0 < d.f0))).take (l.takeWhile (fun x => decide (x.f0 < d.f0))).length := by rw [List.takeWhile_append_dropWhile]
    exact e.trans (List.take_left' rfl)
  have e2 : l.drop (placeD l d.f0) = l.dropWhile (fun x => decide (x.f0 < d.f0)) := by
    have e : l.drop (l.takeWhile (fun x => decide (x.f0 < d.f0))).length = (l.takeWhile (fun x => decide (x.f0 < d.f0)) ++ l.dropWhile (fun x => decide (x.f0 < d.f0))).drop (l.takeWhile (fun x => decide (x.f0 < d.f0))).length := by rw [List.takeWhile_append_dropWhile]
    exact e.trans (List.drop_left' rfl)
  refine ⟨fun x hx => ?_, fun x hx => ?_⟩
  · rw [e1] at hx
    simpa using List.all_eq_true.1 (List.all_takeWhile (p := fun x : S32 => decide (x.f0 < d.f0)) (l := l)) x hx
  · have hm : x ∈ l := List.mem_of_mem_drop hx
    rw [e2] at hx
    have hq : (l.dropWhile (fun x => decide (x.f0 < d.f0))).Pairwise (fun a b => a.f0 < b.f0) := hp.sublist (List.dropWhile_sublist _)
    cases hd : l.dropWhile (fun x => decide (x.f0 < d.f0)) with
    | nil => rw [hd] at hx; simp at hx
    | cons y ys =>
      have hy : ¬ y.f0 < d.f0 := by
        have := List.head?_dropWhile_not (fun x : S32 => decide (x.f0 < d.f0)) l
        rw [hd] at this
        simpa using this
      have hyl : y ∈ l := (List.dropWhile_sublist _).mem (by rw [hd]; exact List.mem_cons_self)
      have hyn := hn y hyl
      rw [hd] at hx hq
      rcases List.mem_cons.1 hx with rfl | hx
      · omega
      · have := (List.pairwise_cons.1 hq).1 x hx
        omega
theorem may_put (mark size : Int) (l : List S32) (d : S32) (hm : May mark size l) (h : (putW mark size l d).1 = 0) : (putW mark size l d).2 = l.take (placeD l d.f0) ++ d :: l.drop (placeD l d.f0) ∧ May mark size (l.take (placeD l d.f0) ++ d :: l.drop (placeD l d.f0)) := by
  unfold putW at h ⊢
  split at h
  · cases h
  rename_i h1
  split at h
  · cases h
  rename_i h2
  split at h
  · cases h
  rename_i h3
  split at h
  · cases h
  rename_i h4
  split at h
  · cases h
  rename_i h5
  rw [if_neg h1, if_neg h2, if_neg h3, if_neg h4, if_neg h5]
  refine ⟨rfl, ?_⟩
  obtain ⟨ha, hb, hc⟩ := (may_iff mark size l).1 hm
  have hn : ∀ x ∈ l, x.f0 ≠ d.f0 := fun x hx he => by
    apply h3
    have hbd := (odd_of mark size x).1 (hb x hx)
    unfold whatD
    rw [if_neg (by omega), if_neg (by omega), if_pos]
    exact List.any_eq_true.2 ⟨x, hx, by simpa using he⟩
  have hin : mark ≤ d.f0 ∧ d.f0 < mark + size := by
    unfold whatD at h4 h5
    by_cases q1 : d.f0 < mark
    · rw [if_pos q1] at h4; exact absurd rfl h4
    · by_cases q2 : d.f0 ≥ mark + size
      · rw [if_neg q1, if_pos q2] at h5; exact absurd rfl h5
      · omega
  obtain ⟨p1, p2⟩ := place_split mark size l d hc hn
  refine (may_iff mark size _).2 ⟨ha, fun x hx => ?_, ?_⟩
  · rcases List.mem_append.1 hx with hx | hx
    · exact hb x (List.mem_of_mem_take hx)
    · rcases List.mem_cons.1 hx with rfl | hx
      · exact (odd_of mark size x).2 ⟨hin.1, hin.2, by omega, by omega, by omega⟩
      · exact hb x (List.mem_of_mem_drop hx)
  · rw [List.pairwise_append]
    refine ⟨hc.sublist (List.take_sublist _ _), List.pairwise_cons.2 ⟨p2, hc.sublist (List.drop_sublist _ _)⟩, fun a hta b htb => ?_⟩
    rcases List.mem_cons.1 htb with rfl | htb
    · exact p1 a hta
    · exact Int.lt_trans (p1 a hta) (p2 b htb)
/-- Several more. -/
def putAll (mark size : Int) : List S32 → List S32 → Int × List S32
  | [], l => (0, l)
  | d :: ds, l => if (putW mark size l d).1 = 0 then putAll mark size ds (putW mark size l d).2 else ((putW mark size l d).1, [])
def putsW (mark : Int) (l : List S32) (size : Int) (ds : List S32) : Int × List S32 × Int :=
  if checkW mark l size ≠ 0 then (0, [], checkW mark l size) else if (putAll mark size ds l).1 = 0 then (mark, (putAll mark size ds l).2, 0) else (0, [], (putAll mark size ds l).1)

/-- Are two replies one? -/
def oneD (x y : S32) : Bool := x.f0 == y.f0 && (x.f1 == y.f1 && decide ((strOfNums x.f2).toList = (strOfNums y.f2).toList))
def sameW (m : Int) (l : List S32) (m2 : Int) (l2 : List S32) : Bool :=
  decide (m = m2) && (decide (l.length = l2.length) && (List.range l.length).all fun i => oneD (l.getD i z32) (l2.getD i z32))
theorem same_no {m m2 : Int} {l l2 : List S32} {i : Nat} (hi : i < l.length) (h : oneD (l.getD i z32) (l2.getD i z32) = false) : sameW m l m2 l2 = false := by
  unfold sameW
  rw [Bool.and_eq_false_iff]
  refine Or.inr ?_
  rw [Bool.and_eq_false_iff]
  refine Or.inr ?_
  rw [← Bool.not_eq_true, List.all_eq_true]
  exact fun ha => by have := ha i (List.mem_range.2 hi); rw [h] at this; cases this

theorem any_in {l : List S32} {q : Int} : (l.any fun d => d.f0 == q) = true ↔ ∃ d ∈ l, d.f0 = q := by
  rw [List.any_eq_true]
  constructor
  · rintro ⟨d, hd, he⟩
    exact ⟨d, hd, by simpa using he⟩
  · rintro ⟨d, hd, he⟩
    exact ⟨d, hd, by simpa using he⟩
theorem what_done (m s : Int) (l : List S32) (q : Int) : whatD m s l q = 1 ↔ m ≤ q ∧ q < m + s ∧ ∃ d ∈ l, d.f0 = q := by
  unfold whatD
  split
  · simp; omega
  · split
    · simp; omega
    · split
      · rename_i h
        have := any_in.1 h
        simp
        exact ⟨by omega, by omega, this⟩
      · rename_i h
        simp
        intro _ _ x hx he
        exact h (any_in.2 ⟨x, hx, he⟩)
theorem what_gone (m s : Int) (l : List S32) (q : Int) : whatD m s l q = 2 ↔ q < m := by
  unfold whatD
  split
  · simpa using ‹q < m›
  · split
    · simp; omega
    · split <;> (simp; omega)
/-- What is done, or old, stays so behind a reply more. -/
theorem put_keeps {m s : Int} {l : List S32} {d : S32} (hm : May m s l) (h : (putW m s l d).1 = 0) (q was : Int) (hq : whatD m s l q = was) (hw : was = 1 ∨ was = 2) : whatD m s (putW m s l d).2 q = was := by
  obtain ⟨e, _⟩ := may_put m s l d hm h
  rw [e]
  rcases hw with rfl | rfl
  · obtain ⟨h1, h2, x, hx, he⟩ := (what_done m s l q).1 hq
    refine (what_done _ _ _ _).2 ⟨h1, h2, x, ?_, he⟩
    rw [← List.take_append_drop (placeD l d.f0) l, List.mem_append] at hx
    rw [List.mem_append, List.mem_cons]
    rcases hx with hx | hx
    · exact .inl hx
    · exact .inr (.inr hx)
  · exact (what_gone _ _ _ _).2 ((what_gone m s l q).1 hq)
theorem may_forget {m s M : Int} {l : List S32} (hm : May m s l) (hM : M ≤ 1073741824) : May (max M m) s (keepD l (max M m)) := by
  obtain ⟨⟨a1, a2, a3, a4⟩, ho, hp⟩ := (may_iff m s l).1 hm
  refine (may_iff _ _ _).2 ⟨⟨by omega, by omega, a3, a4⟩, fun d hd => ?_, hp.sublist List.filter_sublist⟩
  unfold keepD at hd
  rw [List.mem_filter] at hd
  have := (odd_of m s d).1 (ho d hd.1)
  have h2 : ¬ d.f0 < max M m := by simpa using hd.2
  exact (odd_of _ _ _).2 (by omega)
theorem forget_keeps {m s M : Int} {l : List S32} (hm : May m s l) (q was : Int) (hq : whatD m s l q = was) (hw : was = 1 ∨ was = 2) : ∃ is, whatD (max M m) s (keepD l (max M m)) q = is ∧ (is = 1 ∨ is = 2) ∧ (was = 2 → is = 2) := by
  by_cases h : q < max M m
  · exact ⟨2, (what_gone _ _ _ _).2 h, .inr rfl, fun _ => rfl⟩
  · rcases hw with rfl | rfl
    · obtain ⟨h1, h2, x, hx, he⟩ := (what_done m s l q).1 hq
      refine ⟨1, (what_done _ _ _ _).2 ⟨by omega, by omega, x, ?_, he⟩, .inl rfl, fun h => by cases h⟩
      unfold keepD
      rw [List.mem_filter]
      exact ⟨hx, by simp; omega⟩
    · have := (what_gone m s l q).1 hq
      omega
theorem see_whole {m s : Int} {l : List S32} (hm : May m s l) (q : Int) : ∃ x1 x2 x3, seeW m l s q = (whatD m s l q, x1, x2, x3, 0) := by
  unfold seeW
  rw [if_neg (by rw [check_of m s l hm]; simp)]
  split
  · rename_i h
    exact ⟨_, _, _, by rw [h]⟩
  · exact ⟨_, _, _, rfl⟩
/-- One reply that lies in memory, read as a row of one. -/
theorem C_done1 {W : World} {g c2 : Nat} {A2 : Option Addr} {d : S32} (hb : W.heap[g]? = some (.cells #[.int .i64 d.f0, .int .i64 d.f1, .slice A2 d.f2.length c2] 32 (0, 0))) (hl : d.f2.length ≤ c2) (hC : Kd.C (Kd.int .u8) W A2 d.f2.length d.f2) : Kd.C k32 W (some ⟨g, 0, none⟩) [d].length [d] :=
  ⟨rfl, by simp, fun _ => ⟨_, rfl, fun j p hj => by
    have h0 : j = 0 := by have := (List.getElem?_eq_some_iff.1 hj).1; simpa using this
    subst h0
    obtain rfl : d = p := by simpa using hj
    exact ⟨[.int .i64 d.f0, .int .i64 d.f1, .slice A2 d.f2.length c2], rfl, ⟨[.int .i64 d.f0], [.int .i64 d.f1, .slice A2 d.f2.length c2], rfl, rfl, [.int .i64 d.f1], [.slice A2 d.f2.length c2], rfl, rfl, ⟨A2, c2, rfl, hl, hC⟩⟩, fun i u hu => by rw [Addr.add_lit, blk_cell hb]; simpa using hu⟩⟩⟩
theorem puts_one {m s : Int} {L : List S32} (hm : May m s L) (d : S32) : ∃ r1 r2 r3, putsW m L s [d] = (r1, r2, r3) ∧ (r3 = 0 → r1 = m ∧ May m s r2 ∧ ∀ q was, whatD m s L q = was → (was = 1 ∨ was = 2) → whatD m s r2 q = was) := by
  refine ⟨(putsW m L s [d]).1, (putsW m L s [d]).2.1, (putsW m L s [d]).2.2, rfl, ?_⟩
  unfold putsW
  rw [if_neg (by rw [check_of m s L hm]; simp)]
  by_cases h : (putW m s L d).1 = 0
  · have e : putAll m s [d] L = (0, (putW m s L d).2) := by rw [putAll, if_pos h, putAll]
    rw [e, if_pos rfl]
    obtain ⟨h1, h2⟩ := may_put m s L d hm h
    exact fun _ => ⟨rfl, by rw [h1]; exact h2, fun q was hq hw => put_keeps hm h q was hq hw⟩
  · have e : putAll m s [d] L = ((putW m s L d).1, []) := by rw [putAll, if_neg h]
    rw [e, if_neg h]
    exact fun hh => absurd hh h
theorem forget_one {m s : Int} {L : List S32} (hm : May m s L) (M : Int) : ∃ r1 r2 r3 r4, forgetW m L s M = (r1, r2, r3, r4) ∧ (r4 = 0 → May r1 s r2 ∧ ∀ q was, whatD m s L q = was → (was = 1 ∨ was = 2) → ∃ is, whatD r1 s r2 q = is ∧ (is = 1 ∨ is = 2) ∧ (was = 2 → is = 2)) := by
  have e : forgetW m L s M = if 1073741824 < M then (0, [], 0, 4) else (max M m, keepD L (max M m), (L.length : Int) - ((keepD L (max M m)).length : Int), 0) := by
    unfold forgetW
    rw [if_neg (by rw [check_of m s L hm]; simp)]
  by_cases h : 1073741824 < M
  · exact ⟨0, [], 0, 4, by rw [e, if_pos h], fun hh => by cases hh⟩
  · exact ⟨_, _, _, _, by rw [e, if_neg h], fun _ => ⟨may_forget hm (by omega), fun q was hq hw => forget_keeps hm q was hq hw⟩⟩

end Go.Proofs.Ytkdkjnjiianogaa.G
