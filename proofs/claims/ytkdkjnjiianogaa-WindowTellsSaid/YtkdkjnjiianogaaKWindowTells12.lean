/- WindowTells: texts of this claim, packed: what the kit's print has written for it and own texts, without what its proof does not reach. -/
import Derived.Test.YtkdkjnjiianogaaKWindowTells0
import Derived.Test.YtkdkjnjiianogaaKWindowTells1
import Derived.Test.YtkdkjnjiianogaaKWindowTells2
import Derived.Test.YtkdkjnjiianogaaKWindowTells3
import Derived.Test.YtkdkjnjiianogaaKWindowTells4
import Derived.Test.YtkdkjnjiianogaaKWindowTells5
import Derived.Test.YtkdkjnjiianogaaKWindowTells6
import Derived.Test.YtkdkjnjiianogaaKWindowTells7
import Derived.Test.YtkdkjnjiianogaaKWindowTells8
import Derived.Test.YtkdkjnjiianogaaKWindowTells9
import Derived.Test.YtkdkjnjiianogaaKWindowTells10
import Derived.Test.YtkdkjnjiianogaaKWindowTells11
import Derived.Laws.BitsAllLaws
import Derived.Laws.BitsLemmas
import Derived.WalkKit
import Derived.Laws.StructEq
import Derived.Test.YtkdkjnjiianogaaProg
import Derived.Below
import Derived.Deep.Draws
import Derived.Deep.AppendLies
import Derived.Maps.AppendAt
import Derived.OwnWalk
import Derived.Laws.BytesArg
import Derived.Laws.MakeOwn
import Derived.Laws.OwnMore
import Derived.Deep.OwnRows
import Derived.Tactics
import Derived.Lib.ConvBytes
import Derived.Laws.Slices
import Derived.KernelRfl
import Derived.RowKit3
import Derived.Deep.LoopGhost
import Derived.Deep.QuietTactic
import Derived.BigQuiet
import Derived.WideLaws
import Derived.Deep.DeepCutAuto
import Derived.Deep.CutBlock
import Derived.Deep.RegionHeld3
import Derived.Laws.Rows
import Derived.Lib.AppendStr
import Derived.ArgAppend
import Derived.Laws.IdiomCopy
import Derived.OrdersHeld
import Derived.RowKit
import Derived.Lib.SliceRun
set_option linter.unusedVariables false
set_option linter.unusedSimpArgs false
set_option linter.unusedSectionVars false
section
namespace Go.Proofs.Ytkdkjnjiianogaa.G
open WB Go.RowKit Go.Proofs.YtkdkjnjiianogaaW.PrintWords Go.Proofs.YtkdkjnjiianogaaW.PrintLast Go.Proofs.YtkdkjnjiianogaaW.PrintMore
attribute [local go_sem] max2_int min2_int max_two min_two max_three min_three max_four min_four   -- for this text's walks alone
set_option linter.unusedVariables false
set_option linter.unusedSimpArgs false
def errW : Option Int → Value
  | none => .nilIface
  | some c => .iface 0 (.int .i64 c)
theorem errW_none : errW none = .nilIface := rfl
theorem errW_some (c : Int) : errW (some c) = .iface 0 (.int .i64 c) := rfl
theorem info3 : (Try.prog.info? 3).map (fun i => (i.zero, i.size, i.bytes)) = some (some (.int .i64 0), 1, 8) := by kernel_rfl
theorem info5 : (Try.prog.info? 5).map (fun i => (i.zero, i.size, i.bytes)) = some (some (.int .u8 0), 1, 1) := by kernel_rfl
theorem info32 : (Try.prog.info? 32).map (fun i => (i.zero, i.size, i.bytes)) = some (some (.agg #[(.int .i64 0), (.int .i64 0), (.slice none 0 0)]), 3, 40) := by kernel_rfl
structure S32 where
  f0 : Int
  f1 : Int
  f2 : (List Int)
def z32 : S32 := ⟨(0 : Int), (0 : Int), ([] : List Int)⟩
def k32 : Kd S32 := Kd.iso (Kd.pair (Kd.int .i64) (Kd.pair (Kd.int .i64) (Kd.slice 5 (Kd.int .u8)))) (fun x : S32 => (x.f0, x.f1, x.f2))
theorem k32_open {w : World} {x : S32} {cs : List Value} (h : k32.K w x cs) : ∃ A2 c2, cs = [.int .i64 x.f0, .int .i64 x.f1, .slice A2 x.f2.length c2] ∧ x.f2.length ≤ c2 ∧ (Kd.int .u8).C w A2 x.f2.length x.f2 := by
  obtain ⟨_, _, rfl, rfl, ⟨_, _, rfl, rfl, ⟨A2, c2, rfl, l2, g2⟩⟩⟩ := h
  exact ⟨A2, c2, rfl, l2, g2⟩
theorem k32_openM {w : World} {base : Nat} {ok : Nat → Prop} {x : S32} {cs : List Value} (h : k32.M w base ok x cs) : ∃ v2, cs = [.int .i64 x.f0, .int .i64 x.f1, v2] ∧ (Kd.int .u8).R 5 w base ok v2 x.f2 := by
  obtain ⟨_, _, rfl, rfl, ⟨_, _, rfl, rfl, ⟨v2, rfl, g2⟩⟩⟩ := h
  exact ⟨v2, rfl, g2⟩
theorem k32_mkM (w : World) (base : Nat) (ok : Nat → Prop) (x : S32) {v2 : Value} (g2 : (Kd.int .u8).R 5 w base ok v2 x.f2) : k32.M w base ok x [.int .i64 x.f0, .int .i64 x.f1, v2] := ⟨[.int .i64 x.f0], [.int .i64 x.f1, v2], rfl, rfl, ⟨[.int .i64 x.f1], [v2], rfl, rfl, ⟨v2, rfl, g2⟩⟩⟩
def rd_T32 (xs : List S32) (i : Int) : S32 := xs.getD i.toNat z32
theorem at_T32 {w : World} {A : Option Addr} {n : Nat} {xs : List S32} (h : Kd.C k32 w A n xs) (i : Int) (h0 : 0 ≤ i) (h1 : i < n) : ∃ ad A2 c2, A = some ad ∧ w.cell? (ad.add (i.toNat * 3)) = some (.int .i64 (rd_T32 xs i).f0) ∧ w.cell? ⟨(ad.add (i.toNat * 3)).block, (ad.add (i.toNat * 3)).off + 1, none⟩ = some (.int .i64 (rd_T32 xs i).f1) ∧ w.cell? ⟨(ad.add (i.toNat * 3)).block, (ad.add (i.toNat * 3)).off + 2, none⟩ = some (.slice A2 (rd_T32 xs i).f2.length c2) ∧ (rd_T32 xs i).f2.length ≤ c2 ∧ (Kd.int .u8).C w A2 (rd_T32 xs i).f2.length (rd_T32 xs i).f2 := by
  obtain ⟨ad, c, e, _, hK, hc0⟩ := Kd.C_get h z32 i h0 h1
  have hc : ∀ j u, c[j]? = some u → w.cell? (ad.add (i.toNat * 3 + j)) = some u := hc0
  obtain ⟨A2, c2, rfl, l2, g2⟩ := k32_open hK
  exact ⟨ad, A2, c2, e, hc 0 _ rfl, by rw [← add_field _ _ 1 (by omega)]; exact hc 1 _ rfl, by rw [← add_field _ _ 2 (by omega)]; exact hc 2 _ rfl, l2, g2⟩
structure S24 where
  f0 : Int
  f1 : (List S32)
def k24 : Kd S24 := Kd.iso (Kd.pair (Kd.int .i64) (Kd.slice 32 k32)) (fun x : S24 => (x.f0, x.f1))
theorem k24_open {w : World} {x : S24} {cs : List Value} (h : k24.K w x cs) : ∃ A1 c1, cs = [.int .i64 x.f0, .slice A1 x.f1.length c1] ∧ x.f1.length ≤ c1 ∧ k32.C w A1 x.f1.length x.f1 := by
  obtain ⟨_, _, rfl, rfl, ⟨A1, c1, rfl, l1, g1⟩⟩ := h
  exact ⟨A1, c1, rfl, l1, g1⟩
/-- May something kept not be? -/
def oddD (mark size : Int) (d : S32) : Bool := decide (d.f0 < mark) || (decide (d.f0 ≥ mark + size) || (decide (d.f1 < 0) || (decide (d.f1 > 1000) || decide ((d.f2.length : Int) > 1024))))
/-- Do the seqs rise? -/
def risesD : List S32 → Bool
  | [] => true
  | [_] => true
  | a :: b :: l => decide (a.f0 < b.f0) && risesD (b :: l)
theorem rises_snoc : ∀ (l : List S32) (a b : S32), risesD (l ++ [a, b]) = (risesD (l ++ [a]) && decide (a.f0 < b.f0))
  | [], a, b => by simp [risesD]
  | [x], a, b => by simp [risesD, Bool.and_assoc]
  | x :: y :: l, a, b => by
    have := rises_snoc (y :: l) a b
    simp only [List.cons_append, risesD] at this ⊢
    rw [this, Bool.and_assoc]
theorem rises_step (l : List S32) (k : Nat) (h0 : 0 < k) (h : k < l.length) : risesD (l.take (k + 1)) = (risesD (l.take k) && decide ((l.getD (k - 1) z32).f0 < (l.getD k z32).f0)) := by
  obtain ⟨j, rfl⟩ : ∃ j, k = j + 1 := ⟨k - 1, by omega⟩
  rw [List.take_succ_eq_append_getElem h, List.take_succ_eq_append_getElem (by omega), List.append_assoc]
  rw [show [l[j]] ++ [l[j + 1]] = [l[j], l[j + 1]] from rfl, rises_snoc]
  simp [List.getElem?_eq_getElem h, List.getElem?_eq_getElem (show j < l.length by omega)]
theorem rises_false (l : List S32) (k : Nat) (h : risesD (l.take k) = false) : risesD l = false := by
  rcases Nat.lt_or_ge k l.length with hk | hk
  · have : ∀ d, k + d ≤ l.length → risesD (l.take (k + d)) = false := by
      intro d
      induction d with
      | zero => exact fun _ => h
      | succ d ih =>
        intro hd
        rcases Nat.eq_zero_or_pos (k + d) with h0 | h0
        · have := ih (by omega)
          rw [h0] at this
          simp [risesD] at this
        · rw [← Nat.add_assoc, rises_step l (k + d) h0 (by omega), ih (by omega)]
          rfl
    have := this (l.length - k) (by omega)
    rwa [Nat.add_sub_cancel' (by omega), List.take_length] at this
  · rwa [List.take_of_length_le hk] at h
/-- May a window be? -/
def checkW (mark : Int) (l : List S32) (size : Int) : Int :=
  if size < 1 ∨ 64 < size then 4 else if (mark < 1 ∨ 1073741824 < mark) ∨ l.any (oddD mark size) = true ∨ risesD l = false then 9 else 0
/-- Where a seq stands, or would stand: all ahead are smaller, none behind is. -/
structure FoundAt (l : List S32) (seq : Int) (i : Nat) (b : Bool) : Prop where
  le : i ≤ l.length
  lo : ∀ j, j < i → (l.getD j z32).f0 < seq
  hi : ∀ j, i ≤ j → j < l.length → seq ≤ (l.getD j z32).f0
  is : b = decide (i < l.length ∧ (l.getD i z32).f0 = seq)
/-- The seqs rise, and all lie in bounds. -/
structure Neat (l : List S32) : Prop where
  up : ∀ i j, i ≤ j → j < l.length → (l.getD i z32).f0 ≤ (l.getD j z32).f0
  bd : ∀ i, i < l.length → 0 ≤ (l.getD i z32).f0 ∧ (l.getD i z32).f0 ≤ 2147483648
theorem rises_at (l : List S32) (h : risesD l = true) (j : Nat) (hj : j + 1 < l.length) : (l.getD j z32).f0 < (l.getD (j + 1) z32).f0 := by
  by_cases hlt : (l.getD j z32).f0 < (l.getD (j + 1) z32).f0
  · exact hlt
  · have e := rises_step l (j + 1) (by omega) hj
    rw [Nat.add_sub_cancel, decide_eq_false hlt, Bool.and_false] at e
    rw [rises_false l _ e] at h
    cases h
theorem rises_up (l : List S32) (h : risesD l = true) (i d : Nat) : i + d < l.length → (l.getD i z32).f0 + d ≤ (l.getD (i + d) z32).f0 := by
  induction d with
  | zero => intro _; simp
  | succ d ih =>
    intro hl
    have := rises_at l h (i + d) (by omega)
    have := ih (by omega)
    rw [show i + (d + 1) = i + d + 1 by omega]
    push_cast
    omega
/-- A window that may be: what its check tells. -/
structure May (mark size : Int) (l : List S32) : Prop where
  m1 : 1 ≤ mark
  m2 : mark ≤ 1073741824
  s1 : 1 ≤ size
  s2 : size ≤ 64
  od : ∀ i, i < l.length → oddD mark size (l.getD i z32) = false
  up : risesD l = true
theorem may_of (mark size : Int) (l : List S32) (h : checkW mark l size = 0) : May mark size l := by
  unfold checkW at h
  split at h
  · cases h
  · rename_i h0
    split at h
    · cases h
    · rename_i h1
      rw [not_or] at h1
      obtain ⟨h1, h4⟩ := h1
      rw [not_or] at h4
      obtain ⟨h2, h3⟩ := h4
      refine ⟨by omega, by omega, by omega, by omega, fun i hi => ?_, by simpa using h3⟩
      have h2 : l.any (oddD mark size) = false := by simpa using h2
      rw [List.any_eq_false] at h2
      have := h2 _ (List.getElem_mem hi)
      simpa [List.getD_eq_getElem?_getD, List.getElem?_eq_getElem hi] using this
theorem check_of (mark size : Int) (l : List S32) (h : May mark size l) : checkW mark l size = 0 := by
  obtain ⟨h1, h2, h3, h4, h5, h6⟩ := h
  unfold checkW
  rw [if_neg (by omega), if_neg]
  rintro (h | h | h)
  · omega
  · rw [List.any_eq_true] at h
    obtain ⟨x, hx, ho⟩ := h
    obtain ⟨i, hi, rfl⟩ := List.mem_iff_getElem.1 hx
    have := h5 i hi
    rw [List.getD_eq_getElem?_getD, List.getElem?_eq_getElem hi] at this
    simp only [Option.getD_some] at this
    rw [this] at ho
    cases ho
  · rw [h6] at h; cases h
theorem May.bds {mark size : Int} {l : List S32} (h : May mark size l) (i : Nat) (hi : i < l.length) : mark ≤ (l.getD i z32).f0 ∧ (l.getD i z32).f0 < mark + size ∧ 0 ≤ (l.getD i z32).f1 ∧ (l.getD i z32).f1 ≤ 1000 ∧ (l.getD i z32).f2.length ≤ 1024 := by
  have := h.od i hi
  simp only [oddD, Bool.or_eq_false_iff, decide_eq_false_iff_not] at this
  omega
theorem May.len {mark size : Int} {l : List S32} (h : May mark size l) : (l.length : Int) ≤ size := by
  rcases Nat.eq_zero_or_pos l.length with h0 | h0
  · have := h.s1; omega
  · have a := (h.bds 0 h0).1
    have b := (h.bds (l.length - 1) (by omega)).2.1
    have c := rises_up l h.up 0 (l.length - 1) (by omega)
    rw [Nat.zero_add] at c
    omega
theorem May.neat {mark size : Int} {l : List S32} (h : May mark size l) : Neat l := by
  refine ⟨fun i j hij hj => ?_, fun i hi => ?_⟩
  · have := rises_up l h.up i (j - i) (by omega)
    rw [Nat.add_sub_cancel' hij] at this
    omega
  · have a := h.bds i hi
    have := h.m1
    have := h.m2
    have := h.s2
    omega
/-- How many are smaller. -/
def placeD (l : List S32) (seq : Int) : Nat := (l.takeWhile (fun d => decide (d.f0 < seq))).length
/-- What a seq is. -/
def whatD (mark size : Int) (l : List S32) (seq : Int) : Int :=
  if seq < mark then 2 else if seq ≥ mark + size then 3 else if (l.any fun d => d.f0 == seq) then 1 else 0
/-- Its place. -/
def spotD (mark size : Int) (l : List S32) (seq : Int) : Nat := if seq < mark ∨ seq ≥ mark + size then 0 else placeD l seq
theorem place_of : ∀ (l : List S32) (seq : Int) (i : Nat), i ≤ l.length → (∀ j, j < i → (l.getD j z32).f0 < seq) → (i < l.length → seq ≤ (l.getD i z32).f0) → placeD l seq = i
  | [], seq, i, h, _, _ => by simp [placeD] at *; omega
  | d :: l, seq, 0, _, _, h => by
    have := h (by simp)
    simp at this
    unfold placeD
    rw [List.takeWhile_cons_of_neg (by simp; omega)]
    rfl
  | d :: l, seq, i + 1, h, lo, hi => by
    have a := lo 0 (by omega)
    simp at a
    have e := place_of l seq i (by simp at h; omega) (fun j hj => by have := lo (j + 1) (by omega); simpa using this) (fun hl => by have := hi (by simp; omega); simpa using this)
    unfold placeD at e ⊢
    rw [List.takeWhile_cons_of_pos (by simpa using a), List.length_cons, e]
theorem FoundAt.place {l : List S32} {seq : Int} {i : Nat} {b : Bool} (h : FoundAt l seq i b) : placeD l seq = i :=
  place_of l seq i h.le h.lo fun hl => h.hi i (Nat.le_refl _) hl
theorem FoundAt.any {l : List S32} {seq : Int} {i : Nat} {b : Bool} (hn : Neat l) (h : FoundAt l seq i b) : (l.any fun d => d.f0 == seq) = b := by
  rw [h.is, Bool.eq_iff_iff, List.any_eq_true, decide_eq_true_iff]
  constructor
  · rintro ⟨x, hx, he⟩
    obtain ⟨j, hj, rfl⟩ := List.mem_iff_getElem.1 hx
    have ej : (l.getD j z32) = l[j] := by simp [List.getElem?_eq_getElem hj]
    have he : l[j].f0 = seq := by simpa using he
    have hij : i ≤ j := by
      rcases Nat.lt_or_ge j i with hlt | hge
      · have := h.lo j hlt; rw [ej] at this; omega
      · exact hge
    have u := hn.up i j hij hj
    have v := h.hi i (Nat.le_refl _) (by omega)
    rw [ej] at u
    exact ⟨by omega, by omega⟩
  · rintro ⟨hi, he⟩
    refine ⟨l[i], List.getElem_mem hi, ?_⟩
    have ei : (l.getD i z32) = l[i] := by simp [List.getElem?_eq_getElem hi]
    rw [ei] at he
    simpa using he
/-- What a seq is, with its reply. -/
def seeW (mark : Int) (l : List S32) (size seq : Int) : Int × Int × Int × List Int × Int :=
  if checkW mark l size ≠ 0 then (0, 0, 0, [], checkW mark l size)
  else if whatD mark size l seq = 1 then (1, (l.getD (placeD l seq) z32).f0, (l.getD (placeD l seq) z32).f1, (l.getD (placeD l seq) z32).f2, 0)
  else (whatD mark size l seq, 0, 0, [], 0)
theorem what_place (mark size : Int) (l : List S32) (seq : Int) (hm : May mark size l) (h : whatD mark size l seq = 1) : mark ≤ seq ∧ seq < mark + size ∧ placeD l seq < l.length ∧ (l.getD (placeD l seq) z32).f0 = seq := by
  unfold whatD at h
  split at h
  · cases h
  · split at h
    · cases h
    · split at h
      · rename_i h1 h2 h3
        rw [List.any_eq_true] at h3
        obtain ⟨x, hx, he⟩ := h3
        obtain ⟨j, hj, rfl⟩ := List.mem_iff_getElem.1 hx
        have he : l[j].f0 = seq := by simpa using he
        have ej : (l.getD j z32) = l[j] := by simp [List.getElem?_eq_getElem hj]
        have : placeD l seq = j := by
          refine place_of l seq j (by omega) (fun q hq => ?_) (fun _ => ?_)
          · have := rises_up l hm.up q (j - q) (by omega)
            rw [Nat.add_sub_cancel' (by omega), ej] at this
            omega
          · rw [ej]; omega
        rw [this, ej]
        exact ⟨by omega, by omega, hj, he⟩
      · cases h
/-- The cells of those that are not below a mark. -/
def keepR (l : List S32) (rows : List (List Value)) (m : Int) : List (List Value) := ((l.zip rows).filter fun p => !decide (p.1.f0 < m)).map (·.2)
/-- Those that are not below a mark. -/
def keepD (l : List S32) (m : Int) : List S32 := l.filter fun d => !decide (d.f0 < m)
theorem keep_step (l : List S32) (rows : List (List Value)) (m : Int) (j : Nat) (hl : rows.length = l.length) (h : j < l.length) (d : S32) (cs : List Value) (hd : l[j]? = some d) (hc : rows[j]? = some cs) :
    keepR (l.take (j + 1)) (rows.take (j + 1)) m = keepR (l.take j) (rows.take j) m ++ (if d.f0 < m then [] else [cs]) := by
  have hd' : l[j] = d := by rw [List.getElem?_eq_getElem h] at hd; exact Option.some.inj hd
  have hc' : rows[j]'(by omega) = cs := by rw [List.getElem?_eq_getElem (by omega)] at hc; exact Option.some.inj hc
  unfold keepR
  rw [List.take_succ_eq_append_getElem h, List.take_succ_eq_append_getElem (show j < rows.length by omega), hd', hc', List.zip_append (by simp; omega), List.filter_append, List.map_append]
  congr 1
  by_cases hm : d.f0 < m <;> simp [hm]
theorem keep_len_le (l : List S32) (rows : List (List Value)) (m : Int) (j : Nat) : (keepR (l.take j) (rows.take j) m).length ≤ j := by
  unfold keepR
  rw [List.length_map]
  exact Nat.le_trans (List.length_filter_le _ _) (by simp; omega)
theorem keep_none (l : List S32) (rows : List (List Value)) (m : Int) (hl : rows.length = l.length) (j : Nat) (hj : j ≤ l.length) (h : ∀ q, q < j → ¬ (l.getD q z32).f0 < m) : keepR (l.take j) (rows.take j) m = rows.take j := by
  induction j with
  | zero => rfl
  | succ j ih =>
    have hlt : j < l.length := by omega
    have h1 := h j (by omega)
    rw [List.getD_eq_getElem?_getD, List.getElem?_eq_getElem hlt, Option.getD_some] at h1
    rw [keep_step l rows m j hl hlt _ _ (List.getElem?_eq_getElem hlt) (List.getElem?_eq_getElem (show j < rows.length by omega)), ih (by omega) (fun q hq => h q (by omega)), if_neg h1, ← List.take_succ_eq_append_getElem]
/-- What a row's cells are. -/
def LineD (l : List S32) (rows : List (List Value)) : Prop := ∀ (j : Nat) d cs, l[j]? = some d → rows[j]? = some cs → ∃ (A : Option Addr) (n c : Nat), cs = [.int .i64 d.f0, .int .i64 d.f1, .slice A n c]
def forgetW (mark : Int) (l : List S32) (size m : Int) : Int × List S32 × Int × Int :=
  if checkW mark l size ≠ 0 then (0, [], 0, checkW mark l size) else if 1073741824 < m then (0, [], 0, 4)
  else (max m mark, keepD l (max m mark), (l.length : Int) - ((keepD l (max m mark)).length : Int), 0)
theorem keep_tags : ∀ (l : List S32) (rows : List (List Value)) (m : Int), rows.length = l.length → (keepR l rows m).length = (keepD l m).length ∧ ∃ t : Nat → Nat, (∀ i j, i < (keepD l m).length → j < (keepD l m).length → t i = t j → i = j) ∧ ∀ j x c, (keepD l m)[j]? = some x → (keepR l rows m)[j]? = some c → l[t j]? = some x ∧ rows[t j]? = some c
  | [], [], m, _ => ⟨rfl, fun j => j, fun i j hi => by simp [keepD] at hi, fun j x c hx => by simp [keepD] at hx⟩
  | d :: l, cs :: rows, m, hl => by
    obtain ⟨h0, t, h1, h2⟩ := keep_tags l rows m (by simpa using hl)
    by_cases hm : d.f0 < m
    · have e1 : keepD (d :: l) m = keepD l m := by simp [keepD, hm]
      have e2 : keepR (d :: l) (cs :: rows) m = keepR l rows m := by simp [keepR, hm]
      rw [e1, e2]
      exact ⟨h0, fun j => t j + 1, fun i j hi hj he => h1 i j hi hj (by simpa using he), fun j x c hx hc => by simpa using h2 j x c hx hc⟩
    · have e1 : keepD (d :: l) m = d :: keepD l m := by simp [keepD, hm]
      have e2 : keepR (d :: l) (cs :: rows) m = cs :: keepR l rows m := by simp [keepR, hm]
      rw [e1, e2]
      refine ⟨by simp [h0], fun j => match j with | 0 => 0 | j + 1 => t j + 1, ?_, ?_⟩
      · intro i j hi hj he
        match i, j with
        | 0, 0 => rfl
        | 0, j + 1 => simp at he
        | i + 1, 0 => simp at he
        | i + 1, j + 1 =>
          have := h1 i j (by simpa using hi) (by simpa using hj) (by simpa using he)
          omega
      · intro j x c hx hc
        match j with
        | 0 => exact ⟨hx, hc⟩
        | j + 1 => simpa using h2 j x c (by simpa using hx) (by simpa using hc)
/-- One more. -/
def putW (mark size : Int) (l : List S32) (d : S32) : Int × List S32 :=
  if d.f1 < 0 ∨ 1000 < d.f1 then (4, l) else if 1024 < d.f2.length then (5, l)
  else if whatD mark size l d.f0 = 1 then (6, l) else if whatD mark size l d.f0 = 2 then (73, l) else if whatD mark size l d.f0 = 3 then (72, l)
  else (0, l.take (placeD l d.f0) ++ d :: l.drop (placeD l d.f0))
theorem rises_pw : ∀ l : List S32, risesD l = true ↔ l.Pairwise (fun a b => a.f0 < b.f0)
  | [] => by simp [risesD]
  | [a] => by simp [risesD]
  | a :: b :: l => by
    rw [risesD, Bool.and_eq_true, decide_eq_true_iff, rises_pw (b :: l), @List.pairwise_cons _ _ a (b :: l)]
    constructor
    · rintro ⟨h1, h2⟩
      refine ⟨fun x hx => ?_, h2⟩
      rcases List.mem_cons.1 hx with rfl | hx
      · exact h1
      · exact Int.lt_trans h1 ((List.pairwise_cons.1 h2).1 x hx)
    · rintro ⟨h1, h2⟩
      exact ⟨h1 b List.mem_cons_self, h2⟩
theorem odd_of (mark size : Int) (d : S32) : oddD mark size d = false ↔ mark ≤ d.f0 ∧ d.f0 < mark + size ∧ 0 ≤ d.f1 ∧ d.f1 ≤ 1000 ∧ d.f2.length ≤ 1024 := by
  simp only [oddD, Bool.or_eq_false_iff, decide_eq_false_iff_not]
  omega
theorem may_iff (mark size : Int) (l : List S32) : May mark size l ↔ (1 ≤ mark ∧ mark ≤ 1073741824 ∧ 1 ≤ size ∧ size ≤ 64) ∧ (∀ d ∈ l, oddD mark size d = false) ∧ l.Pairwise (fun a b => a.f0 < b.f0) := by
  constructor
  · intro h
    refine ⟨⟨h.m1, h.m2, h.s1, h.s2⟩, fun d hd => ?_, (rises_pw l).1 h.up⟩
    obtain ⟨i, hi, rfl⟩ := List.mem_iff_getElem.1 hd
    have := h.od i hi
    rwa [List.getD_eq_getElem?_getD, List.getElem?_eq_getElem hi] at this
  · rintro ⟨⟨h1, h2, h3, h4⟩, h5, h6⟩
    refine ⟨h1, h2, h3, h4, fun i hi => ?_, (rises_pw l).2 h6⟩
    rw [List.getD_eq_getElem?_getD, List.getElem?_eq_getElem hi]
    exact h5 _ (List.getElem_mem hi)
/-- Behind the place all are greater. -/
theorem place_split (mark size : Int) (l : List S32) (d : S32) (hp : l.Pairwise (fun a b => a.f0 < b.f0)) (hn : ∀ x ∈ l, x.f0 ≠ d.f0) : (∀ x ∈ l.take (placeD l d.f0), x.f0 < d.f0) ∧ (∀ x ∈ l.drop (placeD l d.f0), d.f0 < x.f0) := by
  have e1 : l.take (placeD l d.f0) = l.takeWhile (fun x => decide (x.f0 < d.f0)) := by
    have e : l.take (l.takeWhile (fun x => decide (x.f0 < d.f0))).length = (l.takeWhile (fun x => decide (x.f0 < d.f0)) ++ l.dropWhile (fun x => decide (x.f0 < d.f0))).take (l.takeWhile (fun x => decide (x.f0 < d.f0))).length := by rw [List.takeWhile_append_dropWhile]
    exact e.trans (List.take_left' rfl)
  have e2 : l.drop (placeD l d.f0) = l.dropWhile (fun x => decide (x.f0 < d.f0)) := by
    have e : l.drop (l.takeWhile (fun x => decide (x.f0 < d.f0))).length = (l.takeWhile (fun x => decide (x.f0 < d.f0)) ++ l.dropWhile (fun x => decide (x.f0 < d.f0))).drop (l.takeWhile (fun x => decide (x.f0 < d.f0))).length := by rw [List.takeWhile_append_dropWhile]
    exact e.trans (List.drop_left' rfl)
  refine ⟨fun x hx => ?_, fun x hx => ?_⟩
  · rw [e1] at hx
    simpa using List.all_eq_true.1 (List.all_takeWhile (p := fun x : S32 => decide (x.f0 < d.f0)) (l := l)) x hx
  · have hm : x ∈ l := List.mem_of_mem_drop hx
    rw [e2] at hx
    have hq : (l.dropWhile (fun x => decide (x.f0 < d.f0))).Pairwise (fun a b => a.f0 < b.f0) := hp.sublist (List.dropWhile_sublist _)
    cases hd : l.dropWhile (fun x => decide (x.f0 < d.f0)) with
    | nil => rw [hd] at hx; simp at hx
    | cons y ys =>
      have hy : ¬ y.f0 < d.f0 := by
        have := List.head?_dropWhile_not (fun x : S32 => decide (x.f0 < d.f0)) l
        rw [hd] at this
        simpa using this
      have hyl : y ∈ l := (List.dropWhile_sublist _).mem (by rw [hd]; exact List.mem_cons_self)
      have hyn := hn y hyl
      rw [hd] at hx hq
      rcases List.mem_cons.1 hx with rfl | hx
      · omega
      · have := (List.pairwise_cons.1 hq).1 x hx
        omega
theorem may_put (mark size : Int) (l : List S32) (d : S32) (hm : May mark size l) (h : (putW mark size l d).1 = 0) : (putW mark size l d).2 = l.take (placeD l d.f0) ++ d :: l.drop (placeD l d.f0) ∧ May mark size (l.take (placeD l d.f0) ++ d :: l.drop (placeD l d.f0)) := by
  unfold putW at h ⊢
  split at h
  · cases h
  rename_i h1
  split at h
  · cases h
  rename_i h2
  split at h
  · cases h
  rename_i h3
  split at h
  · cases h
  rename_i h4
  split at h
  · cases h
  rename_i h5
  rw [if_neg h1, if_neg h2, if_neg h3, if_neg h4, if_neg h5]
  refine ⟨rfl, ?_⟩
  obtain ⟨ha, hb, hc⟩ := (may_iff mark size l).1 hm
  have hn : ∀ x ∈ l, x.f0 ≠ d.f0 := fun x hx he => by
    apply h3
    have hbd := (odd_of mark size x).1 (hb x hx)
    unfold whatD
    rw [if_neg (by omega), if_neg (by omega), if_pos]
    exact List.any_eq_true.2 ⟨x, hx, by simpa using he⟩
  have hin : mark ≤ d.f0 ∧ d.f0 < mark + size := by
    unfold whatD at h4 h5
    by_cases q1 : d.f0 < mark
    · rw [if_pos q1] at h4; exact absurd rfl h4
    · by_cases q2 : d.f0 ≥ mark + size
      · rw [if_neg q1, if_pos q2] at h5; exact absurd rfl h5
      · omega
  obtain ⟨p1, p2⟩ := place_split mark size l d hc hn
  refine (may_iff mark size _).2 ⟨ha, fun x hx => ?_, ?_⟩
  · rcases List.mem_append.1 hx with hx | hx
    · exact hb x (List.mem_of_mem_take hx)
    · rcases List.mem_cons.1 hx with rfl | hx
      · exact (odd_of mark size x).2 ⟨hin.1, hin.2, by omega, by omega, by omega⟩
      · exact hb x (List.mem_of_mem_drop hx)
  · rw [List.pairwise_append]
    refine ⟨hc.sublist (List.take_sublist _ _), List.pairwise_cons.2 ⟨p2, hc.sublist (List.drop_sublist _ _)⟩, fun a hta b htb => ?_⟩
    rcases List.mem_cons.1 htb with rfl | htb
    · exact p1 a hta
    · exact Int.lt_trans (p1 a hta) (p2 b htb)
/-- Several more. -/
def putAll (mark size : Int) : List S32 → List S32 → Int × List S32
  | [], l => (0, l)
  | d :: ds, l => if (putW mark size l d).1 = 0 then putAll mark size ds (putW mark size l d).2 else ((putW mark size l d).1, [])
def putsW (mark : Int) (l : List S32) (size : Int) (ds : List S32) : Int × List S32 × Int :=
  if checkW mark l size ≠ 0 then (0, [], checkW mark l size) else if (putAll mark size ds l).1 = 0 then (mark, (putAll mark size ds l).2, 0) else (0, [], (putAll mark size ds l).1)
/-- Are two replies one? -/
def oneD (x y : S32) : Bool := x.f0 == y.f0 && (x.f1 == y.f1 && decide ((strOfNums x.f2).toList = (strOfNums y.f2).toList))
def sameW (m : Int) (l : List S32) (m2 : Int) (l2 : List S32) : Bool :=
  decide (m = m2) && (decide (l.length = l2.length) && (List.range l.length).all fun i => oneD (l.getD i z32) (l2.getD i z32))
theorem same_no {m m2 : Int} {l l2 : List S32} {i : Nat} (hi : i < l.length) (h : oneD (l.getD i z32) (l2.getD i z32) = false) : sameW m l m2 l2 = false := by
  unfold sameW
  rw [Bool.and_eq_false_iff]
  refine Or.inr ?_
  rw [Bool.and_eq_false_iff]
  refine Or.inr ?_
  rw [← Bool.not_eq_true, List.all_eq_true]
  exact fun ha => by have := ha i (List.mem_range.2 hi); rw [h] at this; cases this
theorem any_in {l : List S32} {q : Int} : (l.any fun d => d.f0 == q) = true ↔ ∃ d ∈ l, d.f0 = q := by
  rw [List.any_eq_true]
  constructor
  · rintro ⟨d, hd, he⟩
    exact ⟨d, hd, by simpa using he⟩
  · rintro ⟨d, hd, he⟩
    exact ⟨d, hd, by simpa using he⟩
theorem what_done (m s : Int) (l : List S32) (q : Int) : whatD m s l q = 1 ↔ m ≤ q ∧ q < m + s ∧ ∃ d ∈ l, d.f0 = q := by
  unfold whatD
  split
  · simp; omega
  · split
    · simp; omega
    · split
      · rename_i h
        have := any_in.1 h
        simp
        exact ⟨by omega, by omega, this⟩
      · rename_i h
        simp
        intro _ _ x hx he
        exact h (any_in.2 ⟨x, hx, he⟩)
theorem see_whole {m s : Int} {l : List S32} (hm : May m s l) (q : Int) : ∃ x1 x2 x3, seeW m l s q = (whatD m s l q, x1, x2, x3, 0) := by
  unfold seeW
  rw [if_neg (by rw [check_of m s l hm]; simp)]
  split
  · rename_i h
    exact ⟨_, _, _, by rw [h]⟩
  · exact ⟨_, _, _, rfl⟩
end Go.Proofs.Ytkdkjnjiianogaa.G
end

section
namespace Go.Proofs.Ytkdkjnjiianogaa.G
open WB Go.RowKit Go.Proofs.YtkdkjnjiianogaaW.PrintWords Go.Proofs.YtkdkjnjiianogaaW.PrintLast Go.Proofs.YtkdkjnjiianogaaW.PrintMore
attribute [local go_sem] max2_int min2_int max_two min_two max_three min_three max_four min_four   -- for this text's walks alone
set_option linter.unusedVariables false
set_option linter.unusedSimpArgs false
set_option maxHeartbeats 2000000 in
set_option maxRecDepth 100000 in
theorem window_odd (g : Nat) (mark size : Int) (A : Value) (d : S32) (A2 : Option Addr) (c2 : Nat) (w : World) (hg : w.heap[g]? = some (.cells #[.int .i64 mark, A, .int .i64 size] 65 (0, 0)))
    (hm : 1 ≤ mark ∧ mark ≤ 1073741824) (hs : 1 ≤ size ∧ size ≤ 64) :
    Calls Try.prog 34 #[.pointer (some ⟨g, 0, none⟩), .agg #[.int .i64 d.f0, .int .i64 d.f1, .slice A2 d.f2.length c2]] w fun e w' => e = .returned (.bool (oddD mark size d)) ∧ Below w.heap.size w w' := by
  obtain ⟨hm1, hm2⟩ := hm
  obtain ⟨hs1, hs2⟩ := hs
  have b0 := blk_cell hg 0
  have b2 := blk_cell hg 2
  have hlt := blk_lt hg
  simp at b0 b2
  clear hg
  have fin : ∀ b, oddD mark size d = b → ∀ (w' : World), Below w.heap.size w w' → (Ending.returned (.bool b) = .returned (.bool (oddD mark size d)) ∧ Below w.heap.size w w') := fun b hb w' h => ⟨by rw [hb], h⟩
  have fin' := Aside0.mk fin
  clear fin
  by_cases h0 : d.f0 < mark
  · have f0 : decide (d.f0 < mark) = true := decide_eq_true h0
    have HF : Aside0 (oddD mark size d = true) := ⟨by simp [oddD]; omega⟩
    clear h0
    go_enter Try.func34, Try.ntmps34
    go_wp2
    go_quiet (fail)
    go_wp2
    go_ret
    exact fin'.out _ HF.out _ (by repeat (first | exact Below.refl _ _ | apply below_alloc | apply pw_below_drewN | apply below_drew1))
  by_cases h1 : mark + size ≤ d.f0
  · have f0 : decide (d.f0 < mark) = false := decide_eq_false h0
    have f1 : decide (mark + size ≤ d.f0) = true := decide_eq_true h1
    have HF : Aside0 (oddD mark size d = true) := ⟨by simp [oddD]; omega⟩
    clear h0 h1
    go_enter Try.func34, Try.ntmps34
    go_wp2
    go_quiet (fail)
    go_wp2
    go_ret
    exact fin'.out _ HF.out _ (by repeat (first | exact Below.refl _ _ | apply below_alloc | apply pw_below_drewN | apply below_drew1))
  by_cases h2 : d.f1 < 0
  · have f0 : decide (d.f0 < mark) = false := decide_eq_false h0
    have f1 : decide (mark + size ≤ d.f0) = false := decide_eq_false h1
    have f2 : decide (d.f1 < 0) = true := decide_eq_true h2
    have HF : Aside0 (oddD mark size d = true) := ⟨by simp [oddD]; omega⟩
    clear h0 h1 h2
    go_enter Try.func34, Try.ntmps34
    go_wp2
    go_quiet (fail)
    go_wp2
    go_ret
    exact fin'.out _ HF.out _ (by repeat (first | exact Below.refl _ _ | apply below_alloc | apply pw_below_drewN | apply below_drew1))
  by_cases h3 : 1000 < d.f1
  · have f0 : decide (d.f0 < mark) = false := decide_eq_false h0
    have f1 : decide (mark + size ≤ d.f0) = false := decide_eq_false h1
    have f2 : decide (d.f1 < 0) = false := decide_eq_false h2
    have f3 : decide (1000 < d.f1) = true := decide_eq_true h3
    have HF : Aside0 (oddD mark size d = true) := ⟨by simp [oddD]; omega⟩
    clear h0 h1 h2 h3
    go_enter Try.func34, Try.ntmps34
    go_wp2
    go_quiet (fail)
    go_wp2
    go_ret
    exact fin'.out _ HF.out _ (by repeat (first | exact Below.refl _ _ | apply below_alloc | apply pw_below_drewN | apply below_drew1))
  by_cases h4 : (1024 : Int) < d.f2.length
  · have f0 : decide (d.f0 < mark) = false := decide_eq_false h0
    have f1 : decide (mark + size ≤ d.f0) = false := decide_eq_false h1
    have f2 : decide (d.f1 < 0) = false := decide_eq_false h2
    have f3 : decide (1000 < d.f1) = false := decide_eq_false h3
    have f4 : decide ((1024 : Int) < d.f2.length) = true := decide_eq_true h4
    have f5 : decide (1024 < d.f2.length) = true := decide_eq_true (by omega)
    have HF : Aside0 (oddD mark size d = true) := ⟨by simp [oddD]; omega⟩
    clear h0 h1 h2 h3 h4
    go_enter Try.func34, Try.ntmps34
    go_wp2
    go_quiet (fail)
    go_wp2
    go_ret
    exact fin'.out _ HF.out _ (by repeat (first | exact Below.refl _ _ | apply below_alloc | apply pw_below_drewN | apply below_drew1))
  have f0 : decide (d.f0 < mark) = false := decide_eq_false h0
  have f1 : decide (mark + size ≤ d.f0) = false := decide_eq_false h1
  have f2 : decide (d.f1 < 0) = false := decide_eq_false h2
  have f3 : decide (1000 < d.f1) = false := decide_eq_false h3
  have f4 : decide ((1024 : Int) < d.f2.length) = false := decide_eq_false h4
  have f5 : decide (1024 < d.f2.length) = false := decide_eq_false (by omega)
  have HF : Aside0 (oddD mark size d = false) := ⟨by simp [oddD]; omega⟩
  clear h0 h1 h2 h3 h4
  go_enter Try.func34, Try.ntmps34
  go_wp2
  go_quiet (fail)
  go_wp2
  go_ret
  exact fin'.out _ HF.out _ (by repeat (first | exact Below.refl _ _ | apply below_alloc | apply pw_below_drewN | apply below_drew1))
set_option maxHeartbeats 2000000 in
set_option maxRecDepth 100000 in
theorem index_odd (g : Nat) (mark size : Int) (A : Value) (B : Option Addr) (c : Nat) (l : List S32) (w : World) (hr : Kd.C k32 w B l.length l) (hc : l.length ≤ c) (hg : w.heap[g]? = some (.cells #[.int .i64 mark, A, .int .i64 size] 65 (0, 0)))
    (hm : 1 ≤ mark ∧ mark ≤ 1073741824) (hs : 1 ≤ size ∧ size ≤ 64) :
    Calls Try.prog 43 #[.slice B l.length c, .func (.func 34) #[.pointer (some ⟨g, 0, none⟩)] #[]] w
      fun e w' => Aside0 (∃ i : Int, e = .returned (.int .i64 i) ∧ decide (0 ≤ i) = l.any (oddD mark size)) ∧ Below w.heap.size w w' := by
  have HR := Aside0.mk hr
  have HC := Aside0.mk hc
  have HG := Aside0.mk hg
  have HM := Aside0.mk hm
  have HS := Aside0.mk hs
  have hlen : l.length ≤ 9223372036854775807 := hr.2.1
  clear hr hc hg hm hs
  go_enter Try.func43, Try.ntmps43
  go_wp2
  go_loopw [8] (fun v8 wr => ∃ k : Nat, v8 = .int .i64 k ∧ k ≤ l.length ∧ Aside0 ((l.take k).any (oddD mark size) = false) ∧ Aside0 (Below w.heap.size w wr)) (fun v8 _ => l.length - (intOf v8).toNat)
  case atStart => exact ⟨0, rfl, by omega, ⟨by simp⟩, ⟨Below.refl _ _⟩⟩
  case round =>
    obtain ⟨k, rfl, hk, HT, HB⟩ := hrel
    by_cases hlt : k < l.length
    · obtain ⟨ad, A2, c2, e1, q0, q1, q2, q3, q4⟩ := at_T32 (Kd.C_below HR.out HB.out) (k : Int) (by omega) (by omega)
      simp only [Int.toNat_natCast] at q0 q1 q2
      obtain ⟨d, hd⟩ : ∃ d, d = rd_T32 l (k : Int) := ⟨_, rfl⟩
      rw [← hd] at q0 q1 q2
      have HD : Aside0 (l.take (k + 1) = l.take k ++ [d]) := ⟨by
        rw [List.take_succ_eq_append_getElem hlt, hd]; simp [rd_T32, List.getElem?_eq_getElem hlt]⟩
      have HDm : Aside0 (d ∈ l) := ⟨by rw [hd]; simp [rd_T32, List.getElem?_eq_getElem hlt]⟩
      have b1 : decide (k < l.length) = true := decide_eq_true hlt
      have hG := HB.out.block g (blk_lt HG.out)
      have HGr : Aside0 (wr.heap[g]? = some (.cells #[.int .i64 mark, A, .int .i64 size] 65 (0, 0))) := ⟨hG.trans HG.out⟩
      clear q3 q4 hG hd
      subst e1
      by_cases ho : oddD mark size d = true
      · go_wp2_with (go_at_call 34; (with_reducible refine (window_odd g mark size A d A2 _ _ HGr.out HM.out HS.out).mono ?_); rintro e w1 ⟨rfl, hb⟩; have HB1 := Aside0.mk hb; clear hb)
        have HA : Aside0 (l.any (oddD mark size) = true) := ⟨List.any_eq_true.2 ⟨d, HDm.out, ho⟩⟩
        go_ret
        exact ⟨⟨(k : Int), rfl, by rw [HA.out]; exact decide_eq_true (by omega)⟩, below_then HB.out HB.out.size HB1.out⟩
      · have ho' : oddD mark size d = false := by simpa using ho
        have HT' : Aside0 ((l.take (k + 1)).any (oddD mark size) = false) := ⟨by rw [HD.out, List.any_append, HT.out]; simp [ho']⟩
        clear ho
        go_wp2_with (go_at_call 34; (with_reducible refine (window_odd g mark size A d A2 _ _ HGr.out HM.out HS.out).mono ?_); rintro e w1 ⟨rfl, hb⟩; have HB1 := Aside0.mk hb; clear hb)
        go_roundw
        case rel => exact ⟨k + 1, by go_num, by omega, HT', ⟨below_then HB.out HB.out.size HB1.out⟩⟩
        case measure => simp [intOf]; omega
    · have b1 : decide (k < l.length) = false := decide_eq_false hlt
      have HA : Aside0 (l.any (oddD mark size) = false) := ⟨by have := HT.out; rwa [List.take_of_length_le (by omega)] at this⟩
      go_wp2
      go_ret
      exact ⟨⟨(-1 : Int), rfl, by rw [HA.out]; rfl⟩, HB.out⟩
set_option maxHeartbeats 2000000 in
set_option maxRecDepth 100000 in
theorem contains_odd (g : Nat) (mark size : Int) (A : Value) (B : Option Addr) (c : Nat) (l : List S32) (w : World) (hr : Kd.C k32 w B l.length l) (hc : l.length ≤ c) (hg : w.heap[g]? = some (.cells #[.int .i64 mark, A, .int .i64 size] 65 (0, 0)))
    (hm : 1 ≤ mark ∧ mark ≤ 1073741824) (hs : 1 ≤ size ∧ size ≤ 64) :
    Calls Try.prog 33 #[.slice B l.length c, .func (.func 34) #[.pointer (some ⟨g, 0, none⟩)] #[]] w
      fun e w' => e = .returned (.bool (l.any (oddD mark size))) ∧ Below w.heap.size w w' := by
  have H := fun W hr hg => index_odd g mark size A B c l W hr hc hg hm hs
  have H1 := Aside0.mk (H w hr hg)
  clear H hr hc hg hm hs
  go_enter Try.func33, Try.ntmps33
  go_wp2_with (go_at_call 43; (with_reducible refine (H1.out).mono ?_); rintro e w1 ⟨⟨i, rfl, hi⟩, hb⟩; have HI := Aside0.mk hi; have HB := Aside0.mk hb; clear hi hb)
  go_ret
  exact ⟨by simp [HI.out], HB.out⟩
set_option maxHeartbeats 2000000 in
set_option maxRecDepth 100000 in
theorem rises_any (B : Option Addr) (c : Nat) (l : List S32) (w : World) (hr : Kd.C k32 w B l.length l) (hc : l.length ≤ c) :
    Calls Try.prog 35 #[.slice B l.length c] w fun e w' => e = .returned (.bool (risesD l)) ∧ Drawn0 w w' := by
  have HR := Aside0.mk hr
  have hlen : l.length ≤ 9223372036854775807 := hr.2.1
  clear hr hc
  go_enter Try.func35, Try.ntmps35
  go_wp2
  go_loopw [6] (fun v6 wr => ∃ k : Nat, v6 = .int .i64 k ∧ k ≤ l.length ∧ Aside0 (risesD (l.take k) = true) ∧ Drawn0 w wr) (fun v6 _ => l.length - (intOf v6).toNat)
  case atStart => exact ⟨0, rfl, by omega, ⟨by simp [risesD]⟩, Drawn0.refl _⟩
  case round =>
    obtain ⟨k, rfl, hk, HT, ⟨m, rfl⟩⟩ := hrel
    have HDr : Aside0 (Drawn0 w (w.drewN m)) := ⟨⟨m, rfl⟩⟩
    by_cases hlt : k < l.length
    · have b1 : decide (k < l.length) = true := decide_eq_true hlt
      rcases Nat.eq_zero_or_pos k with h0 | h0
      · subst h0
        have HT' : Aside0 (risesD (l.take (0 + 1)) = true) := ⟨by
          rw [List.take_succ_eq_append_getElem hlt]; simp [risesD]⟩
        go_wp2
        go_quiet (fail)
        go_wp2
        go_roundw
        case rel => exact ⟨1, rfl, by omega, HT', (by first | exact ⟨⟨_, rfl⟩⟩ | exact HDr.out.step nq)⟩
        case measure => simp [intOf]; omega
      · obtain ⟨ad, A2, c2, e1, q0, q1, q2, q3, q4⟩ := at_T32 HR.out (k : Int) (by omega) (by omega)
        obtain ⟨ad', A3, c3, e2, p0, p1, p2, p3, p4⟩ := at_T32 HR.out ((k : Int) - 1) (by omega) (by omega)
        have HS := Aside0.mk (rises_step l k h0 hlt)
        have f1 : (rd_T32 l (k : Int)).f0 = (l.getD k z32).f0 := by simp [rd_T32]
        have f2 : (rd_T32 l ((k : Int) - 1)).f0 = (l.getD (k - 1) z32).f0 := by
          have : ((k : Int) - 1).toNat = k - 1 := by omega
          simp [rd_T32, this]
        rw [e1] at e2
        obtain rfl := Option.some.inj e2
        rw [f1] at q0
        rw [f2] at p0
        have n1 : ((k : Int) - 1).toNat = k - 1 := by omega
        simp only [Int.toNat_natCast] at q0
        rw [n1] at p0
        clear q1 q2 q3 q4 p1 p2 p3 p4 f1 f2 e2
        obtain ⟨x, hx⟩ : ∃ x, x = (l.getD k z32).f0 := ⟨_, rfl⟩
        obtain ⟨y, hy⟩ : ∃ y, y = (l.getD (k - 1) z32).f0 := ⟨_, rfl⟩
        rw [← hx] at q0
        rw [← hy] at p0
        have HS' : Aside0 (risesD (l.take (k + 1)) = decide (y < x)) := ⟨by rw [HS.out, HT.out, hx, hy]; rfl⟩
        clear HS hx hy
        have c0 : decide ((0 : Int) < k) = true := decide_eq_true (by omega)
        have c1 : (0 : Int) ≤ (k : Int) - 1 := by omega
        have cw : IntKind.i64.wrap ((k : Int) - 1) = (k : Int) - 1 := by rw [IntKind.wrap_i64]; omega
        have c2' : (k : Int) - 1 < (l.length : Int) := by omega
        subst e1
        by_cases hxy : x ≤ y
        · have d1 : decide (x ≤ y) = true := decide_eq_true hxy
          have HA : Aside0 (risesD l = false) := ⟨rises_false l (k + 1) (by rw [HS'.out]; exact decide_eq_false (by omega))⟩
          clear hxy
          go_wp2
          go_quiet (fail)
          go_wp2
          go_ret
          exact ⟨by rw [HA.out]; rfl, (by first | exact ⟨⟨_, rfl⟩⟩ | exact HDr.out.step nq)⟩
        · have d1 : decide (x ≤ y) = false := decide_eq_false hxy
          have HT' : Aside0 (risesD (l.take (k + 1)) = true) := ⟨by rw [HS'.out]; exact decide_eq_true (by omega)⟩
          clear hxy
          go_wp2
          go_quiet (fail)
          go_wp2
          go_roundw
          case rel => exact ⟨k + 1, by go_num, by omega, HT', (by first | exact ⟨⟨_, rfl⟩⟩ | exact HDr.out.step nq)⟩
          case measure => simp [intOf]; omega
    · have b1 : decide (k < l.length) = false := decide_eq_false hlt
      have HA : Aside0 (risesD l = true) := ⟨by have := HT.out; rwa [List.take_of_length_le (by omega)] at this⟩
      go_wp2
      go_ret
      exact ⟨by rw [HA.out]; rfl, HDr.out⟩
def window_Check.f (a0_0 : Int) (l0_1 : List (S32)) (a1 : Int) : Option (Int) := some (checkW a0_0 l0_1 a1)
set_option maxHeartbeats 2000000 in
set_option maxRecDepth 100000 in
theorem window_Check.calls (a0_0 : Int) (A0_1 : Option Addr) (c0_1 : Nat) (l0_1 : List (S32)) (a1 : Int) (r : Int) (w : World) (hr0_1 : Kd.C k32 w A0_1 l0_1.length l0_1) (hc0_1 : l0_1.length ≤ c0_1) (h : window_Check.f a0_0 l0_1 a1 = some r) :
    Calls Try.prog 14 #[.agg #[.int .i64 a0_0, .slice A0_1 l0_1.length c0_1], .int .i64 a1] w fun e w' => e = .returned (.int .i64 r) ∧ Below w.heap.size w w' := by
  unfold window_Check.f at h
  obtain rfl := Option.some.inj h
  clear h
  have HR := Aside0.mk hr0_1
  have HC := Aside0.mk hc0_1
  clear hr0_1 hc0_1
  have HODD := fun (W : World) (g : Nat) hg hm hs hr => Aside0.mk (contains_odd g a0_0 a1 (.slice A0_1 l0_1.length c0_1) A0_1 c0_1 l0_1 W hr HC.out hg hm hs)
  have HRI := fun (W : World) hr => Aside0.mk (rises_any A0_1 c0_1 l0_1 W hr HC.out)
  have HO' := Aside0.mk HODD
  have HI' := Aside0.mk HRI
  clear HODD HRI
  by_cases h0 : a1 < 1 ∨ 64 < a1
  · have HE : Aside0 (checkW a0_0 l0_1 a1 = 4) := ⟨by unfold checkW; rw [if_pos h0]⟩
    rw [HE.out]
    rcases h0 with h0 | h0
    · have b0 : decide (a1 < 1) = true := decide_eq_true h0
      clear h0
      go_enter Try.func14, Try.ntmps14
      go_wp2
      go_ret
      exact ⟨rfl, by repeat (first | exact Below.refl _ _ | apply below_alloc | apply pw_below_drewN | apply below_drew1)⟩
    · have b0 : decide (a1 < 1) = false := decide_eq_false (by omega)
      have b1 : decide (64 < a1) = true := decide_eq_true h0
      clear h0
      go_enter Try.func14, Try.ntmps14
      go_wp2
      go_ret
      exact ⟨rfl, by repeat (first | exact Below.refl _ _ | apply below_alloc | apply pw_below_drewN | apply below_drew1)⟩
  · have b0 : decide (a1 < 1) = false := decide_eq_false (by omega)
    have b1 : decide (64 < a1) = false := decide_eq_false (by omega)
    by_cases hm : a0_0 < 1 ∨ 1073741824 < a0_0
    · have HE : Aside0 (checkW a0_0 l0_1 a1 = 9) := ⟨by unfold checkW; rw [if_neg h0, if_pos (Or.inl hm)]⟩
      rw [HE.out]
      clear h0
      rcases hm with hm | hm
      · have b2 : decide (a0_0 < 1) = true := decide_eq_true hm
        clear hm
        go_enter Try.func14, Try.ntmps14
        go_wp2
        go_ret
        exact ⟨rfl, by repeat (first | exact Below.refl _ _ | apply below_alloc | apply pw_below_drewN | apply below_drew1)⟩
      · have b2 : decide (a0_0 < 1) = false := decide_eq_false (by omega)
        have b3 : decide (1073741824 < a0_0) = true := decide_eq_true hm
        clear hm
        go_enter Try.func14, Try.ntmps14
        go_wp2
        go_ret
        exact ⟨rfl, by repeat (first | exact Below.refl _ _ | apply below_alloc | apply pw_below_drewN | apply below_drew1)⟩
    · have b2 : decide (a0_0 < 1) = false := decide_eq_false (by omega)
      have b3 : decide (1073741824 < a0_0) = false := decide_eq_false (by omega)
      have HM : Aside0 (1 ≤ a0_0 ∧ a0_0 ≤ 1073741824) := ⟨by omega⟩
      have HS : Aside0 (1 ≤ a1 ∧ a1 ≤ 64) := ⟨by omega⟩
      by_cases ha : l0_1.any (oddD a0_0 a1) = true
      · have HE : Aside0 (checkW a0_0 l0_1 a1 = 9) := ⟨by unfold checkW; rw [if_neg h0, if_pos (Or.inr (Or.inl ha))]⟩
        rw [HE.out]
        clear h0 hm
        go_enter Try.func14, Try.ntmps14
        go_wp2_with (go_at_call 33; (with_reducible refine ((HO'.out _ (w.heap.size + 1) ?hg HM.out HS.out ?hr).out).mono ?_); (case hg => exact heap_new2 _ _ _); (case hr => exact Kd.C_alloc (Kd.C_alloc HR.out _) _); rintro e w1 ⟨rfl, hb⟩; have HB1 := Aside0.mk (below_then (below_alloc (below_alloc (Below.refl _ _) _) _) (by simp; omega) hb); have hcell1 : w1.cell? ⟨w.heap.size, 1, none⟩ = some (.slice A0_1 l0_1.length c0_1) := (hb.cell (p := ⟨w.heap.size, 1, none⟩) (by simp; omega)).trans (cell_in2 _ _ _ _ 1); clear hb)
        go_ret
        exact ⟨rfl, HB1.out⟩
      · have ha' : l0_1.any (oddD a0_0 a1) = false := by simpa using ha
        by_cases hri : risesD l0_1 = true
        · have HE : Aside0 (checkW a0_0 l0_1 a1 = 0) := ⟨by unfold checkW; rw [if_neg h0, if_neg (by rintro (hx | hx | hx); exact absurd hx hm; rw [ha'] at hx; cases hx; rw [hri] at hx; cases hx)]⟩
          rw [HE.out]
          clear h0 hm ha
          go_enter Try.func14, Try.ntmps14
          go_wp2_with (first | (go_at_call 33; (with_reducible refine ((HO'.out _ (w.heap.size + 1) ?hg HM.out HS.out ?hr).out).mono ?_); (case hg => exact heap_new2 _ _ _); (case hr => exact Kd.C_alloc (Kd.C_alloc HR.out _) _); rintro e w1 ⟨rfl, hb⟩; have HB1 := Aside0.mk (below_then (below_alloc (below_alloc (Below.refl _ _) _) _) (by simp; omega) hb); have hcell1 : w1.cell? ⟨w.heap.size, 1, none⟩ = some (.slice A0_1 l0_1.length c0_1) := (hb.cell (p := ⟨w.heap.size, 1, none⟩) (by simp; omega)).trans (cell_in2 _ _ _ _ 1); clear hb) | (go_at_call 35; (with_reducible refine ((HI'.out _ ?hr2).out).mono ?_); (case hr2 => exact Kd.C_below HR.out HB1.out); rintro e w2 ⟨rfl, ⟨nd, rfl⟩⟩))
          go_ret
          exact ⟨rfl, pw_below_drewN HB1.out _⟩
        · have hri' : risesD l0_1 = false := by simpa using hri
          have HE : Aside0 (checkW a0_0 l0_1 a1 = 9) := ⟨by unfold checkW; rw [if_neg h0, if_pos (Or.inr (Or.inr hri'))]⟩
          rw [HE.out]
          clear h0 hm ha hri
          go_enter Try.func14, Try.ntmps14
          go_wp2_with (first | (go_at_call 33; (with_reducible refine ((HO'.out _ (w.heap.size + 1) ?hg HM.out HS.out ?hr).out).mono ?_); (case hg => exact heap_new2 _ _ _); (case hr => exact Kd.C_alloc (Kd.C_alloc HR.out _) _); rintro e w1 ⟨rfl, hb⟩; have HB1 := Aside0.mk (below_then (below_alloc (below_alloc (Below.refl _ _) _) _) (by simp; omega) hb); have hcell1 : w1.cell? ⟨w.heap.size, 1, none⟩ = some (.slice A0_1 l0_1.length c0_1) := (hb.cell (p := ⟨w.heap.size, 1, none⟩) (by simp; omega)).trans (cell_in2 _ _ _ _ 1); clear hb) | (go_at_call 35; (with_reducible refine ((HI'.out _ ?hr2).out).mono ?_); (case hr2 => exact Kd.C_below HR.out HB1.out); rintro e w2 ⟨rfl, ⟨nd, rfl⟩⟩))
          go_ret
          exact ⟨rfl, pw_below_drewN HB1.out _⟩
end Go.Proofs.Ytkdkjnjiianogaa.G
end
