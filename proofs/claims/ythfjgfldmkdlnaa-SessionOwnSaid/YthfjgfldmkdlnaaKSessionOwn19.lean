/- SessionOwn: texts of this claim, packed: what the kit's print has written for it and own texts, without what its proof does not reach. -/
import Derived.Test.YthfjgfldmkdlnaaKSessionOwn11
import Derived.Test.YthfjgfldmkdlnaaKSessionOwn17
import Derived.Test.YthfjgfldmkdlnaaKSessionOwn18
set_option linter.unusedVariables false
set_option linter.unusedSimpArgs false
set_option linter.unusedSectionVars false
section
namespace Go.Proofs.Ythfjgfldmkdlnaa.G
open WB Go.RowKit Go.Proofs.YthfjgfldmkdlnaaW.PrintWords Go.Proofs.YthfjgfldmkdlnaaW.PrintLast Go.Proofs.YthfjgfldmkdlnaaW.PrintMore
attribute [local go_sem] max2_int min2_int max_two min_two max_three min_three max_four min_four   -- for this text's walks alone
set_option linter.unusedVariables false
set_option linter.unusedSimpArgs false
theorem swrap_in {x : Int} (h0 : -9223372036854775808 ≤ x) (h1 : x ≤ 9223372036854775807) : wrap64 x = x := by unfold wrap64; omega
theorem srcheck_l0 (m s : Int) (l : List S51) (hm : 1 ≤ m ∧ m ≤ 1073741824) (hs : 1 ≤ s ∧ s ≤ 64) (hl : l.length ≤ 9223372036854775807) : ∀ (n i : Nat), l.length - i = n → i ≤ l.length → (l.take i).any (oddD m s) = false → risesD (l.take i) = true → ∀ k, n < k →
    waybillref22_Check.l0 k s (i : Int) m l = some (if l.any (oddD m s) = true ∨ risesD l = false then 9 else 0) := by
  intro n
  induction n with
  | zero =>
    intro i hn hi ho hr k hk
    obtain ⟨k, rfl⟩ : ∃ q, k = q + 1 := ⟨k - 1, by omega⟩
    simp only [waybillref22_Check.l0]
    rw [List.take_of_length_le (by omega)] at ho hr
    rw [if_neg (by omega), if_neg (by rw [ho, hr]; simp)]
  | succ n ih =>
    intro i hn hi ho hr k hk
    obtain ⟨k, rfl⟩ : ∃ q, k = q + 1 := ⟨k - 1, by omega⟩
    have hlt : i < l.length := by omega
    obtain ⟨x, hx⟩ : ∃ x, x = l.getD i z51 := ⟨_, rfl⟩
    have hxe : l[i] = x := by rw [hx]; simp [List.getElem?_eq_getElem hlt]
    have hrd : rd_T51 l (i : Int) = x := by rw [hx]; simp [rd_T51]
    have hmem : x ∈ l := by rw [← hxe]; exact List.getElem_mem hlt
    have hbad : oddD m s x = true → (if l.any (oddD m s) = true ∨ risesD l = false then (9 : Int) else 0) = 9 := fun h => if_pos (.inl (List.any_eq_true.2 ⟨x, hmem, h⟩))
    have hsn : l.take (i + 1) = l.take i ++ [x] := by rw [List.take_succ_eq_append_getElem hlt, hxe]
    have hw1 : wrap64 (m + s) = m + s := swrap_in (by omega) (by omega)
    have hw2 : wrap64 ((i : Int) + 1) = ((i + 1 : Nat) : Int) := swrap_in (by omega) (by omega)
    simp only [waybillref22_Check.l0]
    rw [if_pos (show (i : Int) < (l.length : Int) by omega), if_pos (by omega), hrd, hw1]
    by_cases c1 : x.f0 < m
    · rw [if_pos c1, hbad (by simp [oddD]; omega)]
    rw [if_neg c1]
    by_cases c2 : x.f0 ≥ m + s
    · rw [if_pos c2, hbad (by simp [oddD]; omega)]
    rw [if_neg c2]
    have tail : ∀ (hr' : risesD (l.take (i + 1)) = true), (if x.f1 < 0 then (some 9 : Option Int) else if x.f1 > 1000 then some 9 else if (x.f2.length : Int) > 1024 then some 9 else waybillref22_Check.l0 k s (wrap64 ((i : Int) + 1)) m l) = some (if l.any (oddD m s) = true ∨ risesD l = false then 9 else 0) := by
      intro hr'
      by_cases c3 : x.f1 < 0
      · rw [if_pos c3, hbad (by simp [oddD]; omega)]
      rw [if_neg c3]
      by_cases c4 : x.f1 > 1000
      · rw [if_pos c4, hbad (by simp [oddD]; omega)]
      rw [if_neg c4]
      by_cases c5 : (x.f2.length : Int) > 1024
      · rw [if_pos c5, hbad (by simp [oddD]; omega)]
      rw [if_neg c5, hw2]
      refine ih (i + 1) (by omega) (by omega) ?_ hr' k (by omega)
      rw [hsn, List.any_append, ho]
      simp [oddD]
      omega
    by_cases c6 : (i : Int) > 0
    · obtain ⟨y, hy⟩ : ∃ y, y = l.getD (i - 1) z51 := ⟨_, rfl⟩
      have hw3 : wrap64 ((i : Int) - 1) = ((i - 1 : Nat) : Int) := by rw [swrap_in (by omega) (by omega)]; omega
      have hrd2 : rd_T51 l ((i - 1 : Nat) : Int) = y := by rw [hy]; simp [rd_T51]
      have hst := rises_step l i (by omega) hlt
      rw [hr, ← hx, ← hy, Bool.true_and] at hst
      rw [if_pos c6, hw3, if_pos (by omega), if_pos (by omega), hrd2]
      by_cases c7 : x.f0 ≤ y.f0
      · have : risesD l = false := rises_false l (i + 1) (by rw [hst]; exact decide_eq_false (by omega))
        rw [if_pos c7, if_pos (.inr this)]
      · rw [if_neg c7]
        exact tail (by rw [hst]; exact decide_eq_true (by omega))
    · rw [if_neg c6]
      refine tail ?_
      obtain rfl : i = 0 := by omega
      rw [hsn]
      rfl
theorem srcheck_all (m s : Int) (l : List S51) (hl : l.length ≤ 9223372036854775807) : ∀ k, l.length + 3 ≤ k → waybillref22_Check.f k m l s = some (checkW m l s) := by
  intro k hk
  obtain ⟨k, rfl⟩ : ∃ q, k = q + 1 := ⟨k - 1, by omega⟩
  unfold waybillref22_Check.f checkW
  by_cases h1 : s < 1
  · rw [if_pos h1, if_pos (.inl h1)]
    simp only [waybillref22_Check.j0]
    rw [if_pos trivial]
  rw [if_neg h1]
  simp only [waybillref22_Check.j0]
  by_cases h2 : s > 64
  · rw [if_pos (by simpa using h2), if_pos (.inr h2)]
  rw [if_neg (by simpa using h2), if_neg (show ¬ (s < 1 ∨ 64 < s) by omega)]
  by_cases h3 : m < 1
  · rw [if_pos h3, if_pos (.inl (.inl h3))]
  rw [if_neg h3]
  by_cases h4 : m > 1073741824
  · rw [if_pos h4, if_pos (.inl (.inr h4))]
  rw [if_neg h4]
  by_cases h5 : (l.length : Int) > s
  · rw [if_pos h5, if_pos]
    by_cases h6 : l.any (oddD m s) = true ∨ risesD l = false
    · exact .inr h6
    · rw [not_or] at h6
      have hmay : May m s l := may_of m s l (by unfold checkW; rw [if_neg (by omega), if_neg]; rintro (h | h | h) <;> first | omega | exact h6.1 h | exact h6.2 h)
      have := hmay.len
      omega
  · rw [if_neg h5]
    rw [show ((0 : Int)) = ((0 : Nat) : Int) from rfl, srcheck_l0 m s l ⟨by omega, by omega⟩ ⟨by omega, by omega⟩ hl l.length 0 (by omega) (by omega) rfl rfl k (by omega)]
    congr 1
    by_cases h6 : l.any (oddD m s) = true ∨ risesD l = false
    · rw [if_pos h6, if_pos (.inr h6)]
    · rw [if_neg h6, if_neg]
      · rfl
      · rintro (h | h)
        · omega
        · exact h6 h
theorem srcheck_fix (m s : Int) (l : List S51) (hl : l.length ≤ 9223372036854775807) : waybillref22_Check.f (l.length + 3) m l s = some (checkW m l s) := srcheck_all m s l hl _ (Nat.le_refl _)
theorem srsets_f (a b c : Int) : waybillref23_Sets.f a b c = some (setsS a b c) := by
  unfold waybillref23_Sets.f setsS
  by_cases h1 : 1 ≤ a
  · by_cases h2 : a ≤ 64
    · by_cases h3 : 1 ≤ b
      · by_cases h4 : b ≤ 1048576
        · by_cases h5 : 1 ≤ c
          · simp [h1, h2, h3, h4, h5]
          · simp [h1, h2, h3, h4, h5]
        · simp [h1, h2, h3, h4]
      · simp [h1, h2, h3]
    · simp [h1, h2]
  · simp [h1]
def waybillref23_Check.f (l0 : List (S38)) (a1_0 : Int) (a1_1 : Int) (a1_2 : Int) (a2 : Int) (a3 : Int) : Option (Int) := some (checkS l0 a1_0 a1_1 a1_2 a2 a3)
set_option maxHeartbeats 8000000 in
set_option maxRecDepth 100000 in
theorem waybillref23_Check.calls (A0 : Option Addr) (c0 : Nat) (l0 : List (S38)) (a1_0 : Int) (a1_1 : Int) (a1_2 : Int) (a2 : Int) (a3 : Int) (r : Int) (w : World) (hr0 : Kd.C k38 w A0 l0.length l0) (hc0 : l0.length ≤ c0) (h : waybillref23_Check.f l0 a1_0 a1_1 a1_2 a2 a3 = some r) :
    Calls Try.prog 28 #[.slice A0 l0.length c0, .agg #[.int .i64 a1_0, .int .i64 a1_1, .int .i64 a1_2], .int .i64 a2, .int .i64 a3] w fun e w' => e = .returned (.int .i64 r) ∧ Below w.heap.size w w' := by
  obtain rfl := Option.some.inj h
  have HR := Aside0.mk hr0
  have HC := Aside0.mk hc0
  have hm0 : l0.length ≤ 9223372036854775807 := hr0.2.1
  have HBW := Aside0.mk (below_alloc (Below.refl w.heap.size w) (.cells #[.int .i64 a1_0, .int .i64 a1_1, .int .i64 a1_2] 24))
  have BS := Aside0.mk (heap_new1 w (.cells #[.int .i64 a1_0, .int .i64 a1_1, .int .i64 a1_2] 24))
  clear h hr0 hc0
  go_enter Try.func28, Try.ntmps28
  go_wp2_with fail
  go_at_call 16
  with_reducible refine (waybillref23_Sets.calls a1_0 a1_1 a1_2 (setsS a1_0 a1_1 a1_2) _ (srsets_f _ _ _)).mono ?_
  rintro e w1 ⟨rfl, hb⟩
  have HB1 := Aside0.mk (below_then HBW.out HBW.out.size hb)
  have BS1 := Aside0.mk (blk_below BS.out hb)
  clear hb
  by_cases h1 : setsS a1_0 a1_1 a1_2 = true
  · rw [h1]
    have four : ∀ n t : Prop, (outB a2 1 1073741824 = true ∨ outB a3 0 536870912 = true) → Aside0 (checkS l0 a1_0 a1_1 a1_2 a2 a3 = 4) := fun _ _ h => ⟨by unfold checkS; rw [if_pos (.inr h)]⟩
    have FOUR := Aside0.mk (four True True)
    clear four
    by_cases g1 : a2 < 1
    · have d1 : decide (a2 < 1) = true := decide_eq_true g1
      have HE := FOUR.out (.inl (out_true.2 (.inl g1)))
      clear g1
      go_wp2_with fail
      go_ret
      exact ⟨by rw [HE.out]; rfl, HB1.out⟩
    have d1 : decide (a2 < 1) = false := decide_eq_false g1
    by_cases g2 : 1073741824 < a2
    · have d2 : decide (1073741824 < a2) = true := decide_eq_true g2
      have HE := FOUR.out (.inl (out_true.2 (.inr g2)))
      clear g1 g2
      go_wp2_with fail
      go_ret
      exact ⟨by rw [HE.out]; rfl, HB1.out⟩
    have d2 : decide (1073741824 < a2) = false := decide_eq_false g2
    by_cases g3 : a3 < 0
    · have d3 : decide (a3 < 0) = true := decide_eq_true g3
      have HE := FOUR.out (.inr (out_true.2 (.inl g3)))
      clear g1 g2 g3
      go_wp2_with fail
      go_ret
      exact ⟨by rw [HE.out]; rfl, HB1.out⟩
    have d3 : decide (a3 < 0) = false := decide_eq_false g3
    by_cases g4 : 536870912 < a3
    · have d4 : decide (536870912 < a3) = true := decide_eq_true g4
      have HE := FOUR.out (.inr (out_true.2 (.inr g4)))
      clear g1 g2 g3 g4
      go_wp2_with fail
      go_ret
      exact ⟨by rw [HE.out]; rfl, HB1.out⟩
    have d4 : decide (536870912 < a3) = false := decide_eq_false g4
    have HE0 : Aside0 (checkS l0 a1_0 a1_1 a1_2 a2 a3 = if (l0.length : Int) > a1_0 ∨ l0.any (oddS a1_2 a2 a3) = true ∨ risesS l0 = false then 9 else 0) := ⟨by unfold checkS; rw [if_neg (by rw [not_or, not_or]; exact ⟨by rw [h1]; simp, by rw [out_false.2 ⟨by omega, by omega⟩]; simp, by rw [out_false.2 ⟨by omega, by omega⟩]; simp⟩)]⟩
    have z0 : w1.cell? ⟨w.heap.size, 0, none⟩ = some (.int .i64 a1_0) := (blk_cell BS1.out 0).trans rfl
    have HN : Aside0 (1 ≤ a2 ∧ a2 ≤ 1073741824) := ⟨by omega⟩
    have HSL : Aside0 (a1_0 ≤ 64) := ⟨(sets_true.1 h1).2.1⟩
    clear g1 g2 g3 g4 h1 FOUR
    by_cases g5 : a1_0 < (l0.length : Int)
    · have d5 : decide (a1_0 < (l0.length : Int)) = true := decide_eq_true g5
      have HE : Aside0 (checkS l0 a1_0 a1_1 a1_2 a2 a3 = 9) := ⟨by rw [HE0.out, if_pos (.inl g5)]⟩
      clear g5
      go_wp2_with fail
      go_ret
      exact ⟨by rw [HE.out]; rfl, HB1.out⟩
    have d5 : decide (a1_0 < (l0.length : Int)) = false := decide_eq_false g5
    have HLN : Aside0 (¬ (a1_0 < (l0.length : Int)) ∧ l0.length ≤ 64) := ⟨g5, by have := HSL.out; omega⟩
    go_wp2_with fail
    go_loopw [9] (fun v9 wr => ∃ k : Nat, v9 = .int .i64 k ∧ k ≤ l0.length ∧ Aside0 ((l0.take k).any (oddS a1_2 a2 a3) = false) ∧ Aside0 (risesS (l0.take k) = true) ∧ Aside0 (Below w.heap.size w wr) ∧ Aside0 (wr.heap[w.heap.size]? = some (.cells #[.int .i64 a1_0, .int .i64 a1_1, .int .i64 a1_2] 24 (0, 0)))) (fun v9 _ => l0.length - (intOf v9).toNat)
    case atStart => exact ⟨0, rfl, by omega, ⟨by simp⟩, ⟨by simp [risesS]⟩, HB1, BS1⟩
    case round =>
      obtain ⟨k, rfl, hk, HAN, HRS, HB, BSW⟩ := hrel
      clear z0 d1 d2 d3 d4 d5 g5
      by_cases hlt : k < l0.length
      · have b0 : decide ((k : Int) < (l0.length : Int)) = true := decide_eq_true (by omega)
        have b0' : decide (k < l0.length) = true := decide_eq_true hlt
        obtain ⟨ad, A2, c2, e1, q0, q1, q2, q3, q4, q5, q6⟩ := at_T38 (Kd.C_below HR.out HB.out) (k : Int) (by omega) (by omega)
        simp only [Int.toNat_natCast] at q0 q1 q2 q3 q4
        have hrd : rd_T38 l0 (k : Int) = l0[k] := by simp [rd_T38, List.getElem?_eq_getElem hlt]
        rw [hrd] at q0 q1 q2 q3 q4 q5 q6
        obtain ⟨x, hx⟩ : ∃ x, x = l0[k] := ⟨_, rfl⟩
        rw [← hx] at q0 q1 q2 q3 q4 q5 q6
        have HTK : Aside0 (l0.take (k + 1) = l0.take k ++ [x]) := ⟨by rw [List.take_succ_eq_append_getElem hlt, hx]⟩
        have HXM : Aside0 (x ∈ l0) := ⟨by rw [hx]; exact List.getElem_mem hlt⟩
        have HXG : Aside0 (l0.getD k z38 = x) := ⟨by rw [hx]; simp [List.getElem?_eq_getElem hlt]⟩
        have L2 := Aside0.mk q5
        have G2 := Aside0.mk (Kd.C_alloc q6 (.cells #[.int .i64 x.f0, .int .i64 x.f1, .int .i64 x.f2, .int .i64 x.f3.f0, .slice A2 x.f3.f1.length c2] 38))
        have HBX := Aside0.mk (below_alloc HB.out (.cells #[.int .i64 x.f0, .int .i64 x.f1, .int .i64 x.f2, .int .i64 x.f3.f0, .slice A2 x.f3.f1.length c2] 38))
        have BX := Aside0.mk (heap_new1 wr (.cells #[.int .i64 x.f0, .int .i64 x.f1, .int .i64 x.f2, .int .i64 x.f3.f0, .slice A2 x.f3.f1.length c2] 38))
        have BSr := Aside0.mk (blk_alloc BSW.out (.cells #[.int .i64 x.f0, .int .i64 x.f1, .int .i64 x.f2, .int .i64 x.f3.f0, .slice A2 x.f3.f1.length c2] 38))
        obtain ⟨b1, hb1⟩ : ∃ b, decide (x.f0 < 1) = b := ⟨_, rfl⟩
        obtain ⟨b2, hb2⟩ : ∃ b, decide (a2 ≤ x.f0) = b := ⟨_, rfl⟩
        obtain ⟨b4, hb4⟩ : ∃ b, decide (x.f1 < 0) = b := ⟨_, rfl⟩
        obtain ⟨b5, hb5⟩ : ∃ b, decide (2147483647 < x.f1) = b := ⟨_, rfl⟩
        obtain ⟨b6, hb6⟩ : ∃ b, decide (x.f2 < 0) = b := ⟨_, rfl⟩
        obtain ⟨b7, hb7⟩ : ∃ b, decide (a3 < x.f2) = b := ⟨_, rfl⟩
        obtain ⟨cw, hcw⟩ : ∃ b, b = checkW x.f3.f0 x.f3.f1 a1_2 := ⟨_, rfl⟩
        have I4 : Aside0 (waybillref22_Check.f (x.f3.f1.length + 3) x.f3.f0 x.f3.f1 a1_2 = some cw) := ⟨by rw [hcw]; exact srcheck_fix _ _ _ q6.2.1⟩
        have HOD : Aside0 (oddS a1_2 a2 a3 x = (b1 || b2 || b4 || b5 || b6 || b7 || (cw != 0))) := ⟨by
          rw [← hb1, ← hb2, ← hb4, ← hb5, ← hb6, ← hb7, hcw]
          have o1 : outB x.f0 1 (a2 - 1) = (decide (x.f0 < 1) || decide (a2 ≤ x.f0)) := by rw [Bool.eq_iff_iff, out_true, Bool.or_eq_true, decide_eq_true_eq, decide_eq_true_eq]; omega
          have o2 : outB x.f1 0 2147483647 = (decide (x.f1 < 0) || decide (2147483647 < x.f1)) := by rw [Bool.eq_iff_iff, out_true, Bool.or_eq_true, decide_eq_true_eq, decide_eq_true_eq]
          have o3 : outB x.f2 0 a3 = (decide (x.f2 < 0) || decide (a3 < x.f2)) := by rw [Bool.eq_iff_iff, out_true, Bool.or_eq_true, decide_eq_true_eq, decide_eq_true_eq]
          unfold oddS
          rw [o1, o2, o3]
          simp only [Bool.or_assoc]⟩
        subst e1
        clear hrd hx q5 q6 hcw
        rcases Nat.eq_zero_or_pos k with hz | hz
        · have HRI : Aside0 (risesS (l0.take (k + 1)) = true) := ⟨by rw [HTK.out, hz]; simp [risesS]⟩
          have pz : decide ((0 : Int) < (k : Int)) = false := decide_eq_false (by omega)
          have pz' : decide (0 < k) = false := decide_eq_false (by omega)
          clear hz
          go_upto_region 9 with fail
          obtain ⟨W0, hW0⟩ : ∃ W, W = wr.alloc (.cells #[.int .i64 x.f0, .int .i64 x.f1, .int .i64 x.f2, .int .i64 x.f3.f0, .slice A2 x.f3.f1.length c2] 38) := ⟨_, rfl⟩
          rw [← hW0] at G2 HBX BX BSr ⊢
          clear hW0 q0 q1 q2 q3 q4
          have x0 : W0.cell? ⟨wr.heap.size, 0, none⟩ = some (.int .i64 x.f0) := (blk_cell BX.out 0).trans rfl
          have x1 : W0.cell? ⟨wr.heap.size, 1, none⟩ = some (.int .i64 x.f1) := (blk_cell BX.out 1).trans rfl
          have x2 : W0.cell? ⟨wr.heap.size, 2, none⟩ = some (.int .i64 x.f2) := (blk_cell BX.out 2).trans rfl
          have x3 : W0.cell? ⟨wr.heap.size, 3, none⟩ = some (.int .i64 x.f3.f0) := (blk_cell BX.out 3).trans rfl
          have x4 : W0.cell? ⟨wr.heap.size, 4, none⟩ = some (.slice A2 x.f3.f1.length c2) := (blk_cell BX.out 4).trans rfl
          have ys : W0.cell? ⟨w.heap.size, 2, none⟩ = some (.int .i64 a1_2) := (blk_cell BSr.out 2).trans rfl
          refine region_facts (B := _) (w0 := _) [(47, (fun v _ => v = .pointer (some ⟨wr.heap.size, 0, none⟩))), (48, (fun v _ => v = .int .i64 x.f0)), (49, (fun v _ => v = .bool (b1))), (50, (fun v _ => v = .bool (b1))), (51, (fun v _ => v = if (b1) = false then .pointer (some ⟨wr.heap.size, 0, none⟩) else undef)), (52, (fun v _ => v = if (b1) = false then .int .i64 x.f0 else undef)), (53, (fun v _ => v = if (b1) = false then .int .i64 a2 else undef)), (54, (fun v _ => v = if (b1) = false then .bool (b2) else undef)), (55, (fun v _ => v = .bool (b1 || b2))), (56, (fun v _ => v = .bool (b1 || b2))), (57, (fun v _ => v = if (b1 || b2) = false then .int .i64 k else undef)), (58, (fun v _ => v = if (b1 || b2) = false then .bool false else undef)), (59, (fun v _ => v = if (b1 || b2) = false then .bool false else undef)), (60, (fun v _ => v = undef)), (61, (fun v _ => v = undef)), (62, (fun v _ => v = undef)), (63, (fun v _ => v = undef)), (64, (fun v _ => v = undef)), (65, (fun v _ => v = undef)), (66, (fun v _ => v = undef)), (67, (fun v _ => v = undef)), (68, (fun v _ => v = undef)), (69, (fun v _ => v = if (b1 || b2) = false then .bool (false) else undef)), (70, (fun v _ => v = .bool (b1 || b2 || false))), (71, (fun v _ => v = .bool (b1 || b2 || false))), (72, (fun v _ => v = if (b1 || b2 || false) = false then .pointer (some ⟨wr.heap.size, 1, none⟩) else undef)), (73, (fun v _ => v = if (b1 || b2 || false) = false then .int .i64 x.f1 else undef)), (74, (fun v _ => v = if (b1 || b2 || false) = false then .bool (b4) else undef)), (75, (fun v _ => v = .bool (b1 || b2 || false || b4))), (76, (fun v _ => v = .bool (b1 || b2 || false || b4))), (77, (fun v _ => v = if (b1 || b2 || false || b4) = false then .pointer (some ⟨wr.heap.size, 1, none⟩) else undef)), (78, (fun v _ => v = if (b1 || b2 || false || b4) = false then .int .i64 x.f1 else undef)), (79, (fun v _ => v = if (b1 || b2 || false || b4) = false then .bool (b5) else undef)), (80, (fun v _ => v = .bool (b1 || b2 || false || b4 || b5))), (81, (fun v _ => v = .bool (b1 || b2 || false || b4 || b5))), (82, (fun v _ => v = if (b1 || b2 || false || b4 || b5) = false then .pointer (some ⟨wr.heap.size, 2, none⟩) else undef)), (83, (fun v _ => v = if (b1 || b2 || false || b4 || b5) = false then .int .i64 x.f2 else undef)), (84, (fun v _ => v = if (b1 || b2 || false || b4 || b5) = false then .bool (b6) else undef)), (85, (fun v _ => v = .bool (b1 || b2 || false || b4 || b5 || b6))), (86, (fun v _ => v = .bool (b1 || b2 || false || b4 || b5 || b6))), (87, (fun v _ => v = if (b1 || b2 || false || b4 || b5 || b6) = false then .pointer (some ⟨wr.heap.size, 2, none⟩) else undef)), (88, (fun v _ => v = if (b1 || b2 || false || b4 || b5 || b6) = false then .int .i64 x.f2 else undef)), (89, (fun v _ => v = if (b1 || b2 || false || b4 || b5 || b6) = false then .int .i64 a3 else undef)), (90, (fun v _ => v = if (b1 || b2 || false || b4 || b5 || b6) = false then .bool (b7) else undef)), (91, (fun v _ => v = .bool (b1 || b2 || false || b4 || b5 || b6 || b7))), (92, (fun v _ => v = .bool (b1 || b2 || false || b4 || b5 || b6 || b7))), (93, (fun v _ => v = if (b1 || b2 || false || b4 || b5 || b6 || b7) = false then .pointer (some ⟨wr.heap.size, 3, none⟩) else undef)), (94, (fun v _ => v = if (b1 || b2 || false || b4 || b5 || b6 || b7) = false then .agg #[.int .i64 x.f3.f0, .slice A2 x.f3.f1.length c2] else undef)), (95, (fun v _ => v = if (b1 || b2 || false || b4 || b5 || b6 || b7) = false then .pointer (some ⟨w.heap.size, 2, none⟩) else undef)), (96, (fun v _ => v = if (b1 || b2 || false || b4 || b5 || b6 || b7) = false then .int .i64 a1_2 else undef)), (97, (fun v _ => v = if (b1 || b2 || false || b4 || b5 || b6 || b7) = false then .int .i64 cw else undef)), (98, (fun v _ => v = if (b1 || b2 || false || b4 || b5 || b6 || b7) = false then .bool (cw != 0) else undef)), (99, (fun v _ => v = .bool (b1 || b2 || false || b4 || b5 || b6 || b7 || cw != 0)))] (by kernel_rfl) (by kernel_rfl) (by rfl) (show ([47, 48, 49, 50, 51, 52, 53, 54, 55, 56, 57, 58, 59, 60, 61, 62, 63, 64, 65, 66, 67, 68, 69, 70, 71, 72, 73, 74, 75, 76, 77, 78, 79, 80, 81, 82, 83, 84, 85, 86, 87, 88, 89, 90, 91, 92, 93, 94, 95, 96, 97, 98, 99] : List Nat).Nodup by decide) ?hsz ?hst (Below.refl _ _) (Nat.le_refl _) ?step ?fin
          case hsz => exact List.forall_mem_cons.2 ⟨(show 47 < 100 by decide), List.forall_mem_cons.2 ⟨(show 48 < 100 by decide), List.forall_mem_cons.2 ⟨(show 49 < 100 by decide), List.forall_mem_cons.2 ⟨(show 50 < 100 by decide), List.forall_mem_cons.2 ⟨(show 51 < 100 by decide), List.forall_mem_cons.2 ⟨(show 52 < 100 by decide), List.forall_mem_cons.2 ⟨(show 53 < 100 by decide), List.forall_mem_cons.2 ⟨(show 54 < 100 by decide), List.forall_mem_cons.2 ⟨(show 55 < 100 by decide), List.forall_mem_cons.2 ⟨(show 56 < 100 by decide), List.forall_mem_cons.2 ⟨(show 57 < 100 by decide), List.forall_mem_cons.2 ⟨(show 58 < 100 by decide), List.forall_mem_cons.2 ⟨(show 59 < 100 by decide), List.forall_mem_cons.2 ⟨(show 60 < 100 by decide), List.forall_mem_cons.2 ⟨(show 61 < 100 by decide), List.forall_mem_cons.2 ⟨(show 62 < 100 by decide), List.forall_mem_cons.2 ⟨(show 63 < 100 by decide), List.forall_mem_cons.2 ⟨(show 64 < 100 by decide), List.forall_mem_cons.2 ⟨(show 65 < 100 by decide), List.forall_mem_cons.2 ⟨(show 66 < 100 by decide), List.forall_mem_cons.2 ⟨(show 67 < 100 by decide), List.forall_mem_cons.2 ⟨(show 68 < 100 by decide), List.forall_mem_cons.2 ⟨(show 69 < 100 by decide), List.forall_mem_cons.2 ⟨(show 70 < 100 by decide), List.forall_mem_cons.2 ⟨(show 71 < 100 by decide), List.forall_mem_cons.2 ⟨(show 72 < 100 by decide), List.forall_mem_cons.2 ⟨(show 73 < 100 by decide), List.forall_mem_cons.2 ⟨(show 74 < 100 by decide), List.forall_mem_cons.2 ⟨(show 75 < 100 by decide), List.forall_mem_cons.2 ⟨(show 76 < 100 by decide), List.forall_mem_cons.2 ⟨(show 77 < 100 by decide), List.forall_mem_cons.2 ⟨(show 78 < 100 by decide), List.forall_mem_cons.2 ⟨(show 79 < 100 by decide), List.forall_mem_cons.2 ⟨(show 80 < 100 by decide), List.forall_mem_cons.2 ⟨(show 81 < 100 by decide), List.forall_mem_cons.2 ⟨(show 82 < 100 by decide), List.forall_mem_cons.2 ⟨(show 83 < 100 by decide), List.forall_mem_cons.2 ⟨(show 84 < 100 by decide), List.forall_mem_cons.2 ⟨(show 85 < 100 by decide), List.forall_mem_cons.2 ⟨(show 86 < 100 by decide), List.forall_mem_cons.2 ⟨(show 87 < 100 by decide), List.forall_mem_cons.2 ⟨(show 88 < 100 by decide), List.forall_mem_cons.2 ⟨(show 89 < 100 by decide), List.forall_mem_cons.2 ⟨(show 90 < 100 by decide), List.forall_mem_cons.2 ⟨(show 91 < 100 by decide), List.forall_mem_cons.2 ⟨(show 92 < 100 by decide), List.forall_mem_cons.2 ⟨(show 93 < 100 by decide), List.forall_mem_cons.2 ⟨(show 94 < 100 by decide), List.forall_mem_cons.2 ⟨(show 95 < 100 by decide), List.forall_mem_cons.2 ⟨(show 96 < 100 by decide), List.forall_mem_cons.2 ⟨(show 97 < 100 by decide), List.forall_mem_cons.2 ⟨(show 98 < 100 by decide), List.forall_mem_cons.2 ⟨(show 99 < 100 by decide), fun _ h => nomatch h⟩⟩⟩⟩⟩⟩⟩⟩⟩⟩⟩⟩⟩⟩⟩⟩⟩⟩⟩⟩⟩⟩⟩⟩⟩⟩⟩⟩⟩⟩⟩⟩⟩⟩⟩⟩⟩⟩⟩⟩⟩⟩⟩⟩⟩⟩⟩⟩⟩⟩⟩⟩⟩
          case hst => exact List.forall_mem_cons.2 ⟨(fun v w1 w2 hb h => h), List.forall_mem_cons.2 ⟨(fun v w1 w2 hb h => h), List.forall_mem_cons.2 ⟨(fun v w1 w2 hb h => h), List.forall_mem_cons.2 ⟨(fun v w1 w2 hb h => h), List.forall_mem_cons.2 ⟨(fun v w1 w2 hb h => h), List.forall_mem_cons.2 ⟨(fun v w1 w2 hb h => h), List.forall_mem_cons.2 ⟨(fun v w1 w2 hb h => h), List.forall_mem_cons.2 ⟨(fun v w1 w2 hb h => h), List.forall_mem_cons.2 ⟨(fun v w1 w2 hb h => h), List.forall_mem_cons.2 ⟨(fun v w1 w2 hb h => h), List.forall_mem_cons.2 ⟨(fun v w1 w2 hb h => h), List.forall_mem_cons.2 ⟨(fun v w1 w2 hb h => h), List.forall_mem_cons.2 ⟨(fun v w1 w2 hb h => h), List.forall_mem_cons.2 ⟨(fun v w1 w2 hb h => h), List.forall_mem_cons.2 ⟨(fun v w1 w2 hb h => h), List.forall_mem_cons.2 ⟨(fun v w1 w2 hb h => h), List.forall_mem_cons.2 ⟨(fun v w1 w2 hb h => h), List.forall_mem_cons.2 ⟨(fun v w1 w2 hb h => h), List.forall_mem_cons.2 ⟨(fun v w1 w2 hb h => h), List.forall_mem_cons.2 ⟨(fun v w1 w2 hb h => h), List.forall_mem_cons.2 ⟨(fun v w1 w2 hb h => h), List.forall_mem_cons.2 ⟨(fun v w1 w2 hb h => h), List.forall_mem_cons.2 ⟨(fun v w1 w2 hb h => h), List.forall_mem_cons.2 ⟨(fun v w1 w2 hb h => h), List.forall_mem_cons.2 ⟨(fun v w1 w2 hb h => h), List.forall_mem_cons.2 ⟨(fun v w1 w2 hb h => h), List.forall_mem_cons.2 ⟨(fun v w1 w2 hb h => h), List.forall_mem_cons.2 ⟨(fun v w1 w2 hb h => h), List.forall_mem_cons.2 ⟨(fun v w1 w2 hb h => h), List.forall_mem_cons.2 ⟨(fun v w1 w2 hb h => h), List.forall_mem_cons.2 ⟨(fun v w1 w2 hb h => h), List.forall_mem_cons.2 ⟨(fun v w1 w2 hb h => h), List.forall_mem_cons.2 ⟨(fun v w1 w2 hb h => h), List.forall_mem_cons.2 ⟨(fun v w1 w2 hb h => h), List.forall_mem_cons.2 ⟨(fun v w1 w2 hb h => h), List.forall_mem_cons.2 ⟨(fun v w1 w2 hb h => h), List.forall_mem_cons.2 ⟨(fun v w1 w2 hb h => h), List.forall_mem_cons.2 ⟨(fun v w1 w2 hb h => h), List.forall_mem_cons.2 ⟨(fun v w1 w2 hb h => h), List.forall_mem_cons.2 ⟨(fun v w1 w2 hb h => h), List.forall_mem_cons.2 ⟨(fun v w1 w2 hb h => h), List.forall_mem_cons.2 ⟨(fun v w1 w2 hb h => h), List.forall_mem_cons.2 ⟨(fun v w1 w2 hb h => h), List.forall_mem_cons.2 ⟨(fun v w1 w2 hb h => h), List.forall_mem_cons.2 ⟨(fun v w1 w2 hb h => h), List.forall_mem_cons.2 ⟨(fun v w1 w2 hb h => h), List.forall_mem_cons.2 ⟨(fun v w1 w2 hb h => h), List.forall_mem_cons.2 ⟨(fun v w1 w2 hb h => h), List.forall_mem_cons.2 ⟨(fun v w1 w2 hb h => h), List.forall_mem_cons.2 ⟨(fun v w1 w2 hb h => h), List.forall_mem_cons.2 ⟨(fun v w1 w2 hb h => h), List.forall_mem_cons.2 ⟨(fun v w1 w2 hb h => h), List.forall_mem_cons.2 ⟨(fun v w1 w2 hb h => h), fun _ h => nomatch h⟩⟩⟩⟩⟩⟩⟩⟩⟩⟩⟩⟩⟩⟩⟩⟩⟩⟩⟩⟩⟩⟩⟩⟩⟩⟩⟩⟩⟩⟩⟩⟩⟩⟩⟩⟩⟩⟩⟩⟩⟩⟩⟩⟩⟩⟩⟩⟩⟩⟩⟩⟩⟩
          case step =>
            intro i_ o_ e_ ho he a w1_ hs hdf hfr hbl hbs hpre
            match i_, ho, he with
            | 0, ho, he => obtain rfl : o_ = ⟨_, _, _, _, _, _⟩ := (Option.some.inj ho).symm; obtain rfl := Option.some.inj he; clear he; have f10 : a.tmps.getD 10 undef = .pointer (some ⟨wr.heap.size, 0, none⟩) := (by rw [Array.getD_eq_getD_getElem?, hfr 10 (show ¬ 10 ∈ ([47, 48, 49, 50, 51, 52, 53, 54, 55, 56, 57, 58, 59, 60, 61, 62, 63, 64, 65, 66, 67, 68, 69, 70, 71, 72, 73, 74, 75, 76, 77, 78, 79, 80, 81, 82, 83, 84, 85, 86, 87, 88, 89, 90, 91, 92, 93, 94, 95, 96, 97, 98, 99] : List Nat) by decide)]; rfl); clear hpre hfr; refine wpOp_value (v := .pointer (some ⟨wr.heap.size, 0, none⟩)) ho rfl ?_ ⟨_, rfl, rfl, Below.refl _ _⟩; simp only [execOp, Act.eval, List.map_toArray, List.map_cons, List.map_nil, f10]; first | rfl | (go_simp; done) | (go_simp; rfl) | (go_simp; intro h_; exfalso; omega)
            | 1, ho, he => obtain rfl : o_ = ⟨_, _, _, _, _, _⟩ := (Option.some.inj ho).symm; obtain rfl := Option.some.inj he; clear he; have e47 : a.tmps.getD 47 undef = .pointer (some ⟨wr.heap.size, 0, none⟩) := hpre ⟨0, .data⟩ (by simp) rfl _ rfl; clear hpre hfr; have k_x0 := (hbl.cell (World.block_lt_of_cell? _ _ x0)).trans x0; refine wpOp_value (v := .int .i64 x.f0) ho rfl ?_ ⟨_, rfl, rfl, Below.refl _ _⟩; simp only [execOp, Act.eval, List.map_toArray, List.map_cons, List.map_nil, e47]; first | rfl | (go_simp; done) | (go_simp; rfl) | (go_simp; intro h_; exfalso; omega)
            | 2, ho, he => obtain rfl : o_ = ⟨_, _, _, _, _, _⟩ := (Option.some.inj ho).symm; obtain rfl := Option.some.inj he; clear he; have e48 : a.tmps.getD 48 undef = .int .i64 x.f0 := hpre ⟨1, .data⟩ (by simp) rfl _ rfl; clear hpre hfr; refine wpOp_value (v := .bool (b1)) ho rfl ?_ ⟨_, rfl, rfl, Below.refl _ _⟩; simp only [execOp, Act.eval, List.map_toArray, List.map_cons, List.map_nil, e48]; first | rfl | (go_simp; done) | (go_simp; rfl) | (go_simp; intro h_; exfalso; omega)
            | 3, ho, he => obtain rfl : o_ = ⟨_, _, _, _, _, _⟩ := (Option.some.inj ho).symm; obtain rfl := Option.some.inj he; clear he; have e49 : a.tmps.getD 49 undef = .bool (b1) := hpre ⟨2, .data⟩ (by simp) rfl _ rfl; clear hpre hfr; refine wpOp_value (v := .bool (b1)) ho rfl ?_ ⟨_, rfl, rfl, Below.refl _ _⟩; simp only [execOp, Act.eval, List.map_toArray, List.map_cons, List.map_nil, e49]; first | rfl | (go_simp; done) | (go_simp; rfl) | (go_simp; intro h_; exfalso; omega)
            | 4, ho, he =>
              obtain rfl : o_ = ⟨_, _, _, _, _, _⟩ := (Option.some.inj ho).symm
              obtain rfl := Option.some.inj he; clear he
              have e50 : a.tmps.getD 50 undef = .bool (b1) := hpre ⟨3, .guard⟩ (by simp) rfl _ rfl
              have f10 : a.tmps.getD 10 undef = .pointer (some ⟨wr.heap.size, 0, none⟩) := by rw [Array.getD_eq_getD_getElem?, hfr 10 (show ¬ 10 ∈ ([47, 48, 49, 50, 51, 52, 53, 54, 55, 56, 57, 58, 59, 60, 61, 62, 63, 64, 65, 66, 67, 68, 69, 70, 71, 72, 73, 74, 75, 76, 77, 78, 79, 80, 81, 82, 83, 84, 85, 86, 87, 88, 89, 90, 91, 92, 93, 94, 95, 96, 97, 98, 99] : List Nat) by decide)]; rfl
              clear hpre hfr
              by_cases hq_ : (b1) = false
              · refine wpOp_value_w (v := .pointer (some ⟨wr.heap.size, 0, none⟩)) ho (wanted_of (n := 3) (d := 50) rfl rfl (by rw [hs]; exact (show 50 < 100 by decide)) (e50.trans (congrArg _ hq_))) ?_ ⟨_, by rw [if_pos hq_], rfl, Below.refl _ _⟩
                simp only [execOp, Act.eval, List.map_toArray, List.map_cons, List.map_nil, e50, f10]
                first | rfl | (go_simp; done) | (go_simp; rfl) | (go_simp; intro h_; exfalso; omega)
              · exact wpOp_unwanted ho (unwanted_if (n := 3) (d := 50) rfl rfl e50 hq_) ⟨_, by rw [if_neg hq_], rfl, Below.refl _ _⟩
            | 5, ho, he =>
              obtain rfl : o_ = ⟨_, _, _, _, _, _⟩ := (Option.some.inj ho).symm
              obtain rfl := Option.some.inj he; clear he
              have e51 : a.tmps.getD 51 undef = if (b1) = false then .pointer (some ⟨wr.heap.size, 0, none⟩) else undef := hpre ⟨4, .data⟩ (by simp) rfl _ rfl
              have e50 : a.tmps.getD 50 undef = .bool (b1) := hpre ⟨3, .guard⟩ (by simp) rfl _ rfl
              clear hpre hfr
              have k_x0 := (hbl.cell (World.block_lt_of_cell? _ _ x0)).trans x0
              by_cases hq_ : (b1) = false
              · rw [if_pos hq_] at e51
                refine wpOp_value_w (v := .int .i64 x.f0) ho (wanted_of (n := 3) (d := 50) rfl rfl (by rw [hs]; exact (show 50 < 100 by decide)) (e50.trans (congrArg _ hq_))) ?_ ⟨_, by rw [if_pos hq_], rfl, Below.refl _ _⟩
                simp only [execOp, Act.eval, List.map_toArray, List.map_cons, List.map_nil, e51, e50]
                first | rfl | (go_simp; done) | (go_simp; rfl) | (go_simp; intro h_; exfalso; omega)
              · exact wpOp_unwanted ho (unwanted_if (n := 3) (d := 50) rfl rfl e50 hq_) ⟨_, by rw [if_neg hq_], rfl, Below.refl _ _⟩
            | 6, ho, he =>
              obtain rfl : o_ = ⟨_, _, _, _, _, _⟩ := (Option.some.inj ho).symm
              obtain rfl := Option.some.inj he; clear he
              have e50 : a.tmps.getD 50 undef = .bool (b1) := hpre ⟨3, .guard⟩ (by simp) rfl _ rfl
              have f2 : a.tmps.getD 2 undef = .int .i64 a2 := by rw [Array.getD_eq_getD_getElem?, hfr 2 (show ¬ 2 ∈ ([47, 48, 49, 50, 51, 52, 53, 54, 55, 56, 57, 58, 59, 60, 61, 62, 63, 64, 65, 66, 67, 68, 69, 70, 71, 72, 73, 74, 75, 76, 77, 78, 79, 80, 81, 82, 83, 84, 85, 86, 87, 88, 89, 90, 91, 92, 93, 94, 95, 96, 97, 98, 99] : List Nat) by decide)]; rfl
              clear hpre hfr
              by_cases hq_ : (b1) = false
              · refine wpOp_value_w (v := .int .i64 a2) ho (wanted_of (n := 3) (d := 50) rfl rfl (by rw [hs]; exact (show 50 < 100 by decide)) (e50.trans (congrArg _ hq_))) ?_ ⟨_, by rw [if_pos hq_], rfl, Below.refl _ _⟩
                simp only [execOp, Act.eval, List.map_toArray, List.map_cons, List.map_nil, e50, f2]
                first | rfl | (go_simp; done) | (go_simp; rfl) | (go_simp; intro h_; exfalso; omega)
              · exact wpOp_unwanted ho (unwanted_if (n := 3) (d := 50) rfl rfl e50 hq_) ⟨_, by rw [if_neg hq_], rfl, Below.refl _ _⟩
            | 7, ho, he =>
              obtain rfl : o_ = ⟨_, _, _, _, _, _⟩ := (Option.some.inj ho).symm
              obtain rfl := Option.some.inj he; clear he
              have e52 : a.tmps.getD 52 undef = if (b1) = false then .int .i64 x.f0 else undef := hpre ⟨5, .data⟩ (by simp) rfl _ rfl
              have e53 : a.tmps.getD 53 undef = if (b1) = false then .int .i64 a2 else undef := hpre ⟨6, .data⟩ (by simp) rfl _ rfl
              have e50 : a.tmps.getD 50 undef = .bool (b1) := hpre ⟨3, .guard⟩ (by simp) rfl _ rfl
              clear hpre hfr
              by_cases hq_ : (b1) = false
              · rw [if_pos hq_] at e52
                rw [if_pos hq_] at e53
                refine wpOp_value_w (v := .bool (b2)) ho (wanted_of (n := 3) (d := 50) rfl rfl (by rw [hs]; exact (show 50 < 100 by decide)) (e50.trans (congrArg _ hq_))) ?_ ⟨_, by rw [if_pos hq_], rfl, Below.refl _ _⟩
                simp only [execOp, Act.eval, List.map_toArray, List.map_cons, List.map_nil, e52, e53, e50]
                first | rfl | (go_simp; done) | (go_simp; rfl) | (go_simp; intro h_; exfalso; omega)
              · exact wpOp_unwanted ho (unwanted_if (n := 3) (d := 50) rfl rfl e50 hq_) ⟨_, by rw [if_neg hq_], rfl, Below.refl _ _⟩
            | 8, ho, he =>
              obtain rfl : o_ = ⟨_, _, _, _, _, _⟩ := (Option.some.inj ho).symm
              obtain rfl := Option.some.inj he; clear he
              have e50 : a.tmps.getD 50 undef = .bool (b1) := hpre ⟨3, .data⟩ (by simp) rfl _ rfl
              have e54 : a.tmps.getD 54 undef = if (b1) = false then .bool (b2) else undef := hpre ⟨7, .data⟩ (by simp) rfl _ rfl
              clear hpre hfr
              by_cases hq_ : (b1) = false
              · rw [if_pos hq_] at e54
                refine wpOp_value (v := .bool (b1 || b2)) ho rfl ?_ ⟨_, rfl, rfl, Below.refl _ _⟩
                simp only [execOp, Act.eval, List.map_toArray, List.map_cons, List.map_nil, hq_, e50, e54]
                first | rfl | (go_simp; done) | (go_simp; rfl) | (simp [hq_]; done)
              · rw [if_neg hq_] at e54
                replace hq_ : (b1) = true := Bool.of_not_eq_false hq_
                refine wpOp_value (v := .bool (b1 || b2)) ho rfl ?_ ⟨_, rfl, rfl, Below.refl _ _⟩
                simp only [execOp, Act.eval, List.map_toArray, List.map_cons, List.map_nil, hq_, e50, e54]
                first | rfl | (go_simp; done) | (go_simp; rfl) | (simp [hq_]; done)
            | 9, ho, he => obtain rfl : o_ = ⟨_, _, _, _, _, _⟩ := (Option.some.inj ho).symm; obtain rfl := Option.some.inj he; clear he; have e55 : a.tmps.getD 55 undef = .bool (b1 || b2) := hpre ⟨8, .data⟩ (by simp) rfl _ rfl; clear hpre hfr; refine wpOp_value (v := .bool (b1 || b2)) ho rfl ?_ ⟨_, rfl, rfl, Below.refl _ _⟩; simp only [execOp, Act.eval, List.map_toArray, List.map_cons, List.map_nil, e55]; first | rfl | (go_simp; done) | (go_simp; rfl) | (go_simp; intro h_; exfalso; omega)
            | 10, ho, he =>
              obtain rfl : o_ = ⟨_, _, _, _, _, _⟩ := (Option.some.inj ho).symm
              obtain rfl := Option.some.inj he; clear he
              have e56 : a.tmps.getD 56 undef = .bool (b1 || b2) := hpre ⟨9, .guard⟩ (by simp) rfl _ rfl
              have f9 : a.tmps.getD 9 undef = .int .i64 k := by rw [Array.getD_eq_getD_getElem?, hfr 9 (show ¬ 9 ∈ ([47, 48, 49, 50, 51, 52, 53, 54, 55, 56, 57, 58, 59, 60, 61, 62, 63, 64, 65, 66, 67, 68, 69, 70, 71, 72, 73, 74, 75, 76, 77, 78, 79, 80, 81, 82, 83, 84, 85, 86, 87, 88, 89, 90, 91, 92, 93, 94, 95, 96, 97, 98, 99] : List Nat) by decide)]; rfl
              clear hpre hfr
              by_cases hq_ : (b1 || b2) = false
              · refine wpOp_value_w (v := .int .i64 k) ho (wanted_of (n := 9) (d := 56) rfl rfl (by rw [hs]; exact (show 56 < 100 by decide)) (e56.trans (congrArg _ hq_))) ?_ ⟨_, by rw [if_pos hq_], rfl, Below.refl _ _⟩
                simp only [execOp, Act.eval, List.map_toArray, List.map_cons, List.map_nil, e56, f9]
                first | rfl | (go_simp; done) | (go_simp; rfl) | (go_simp; intro h_; exfalso; omega)
              · exact wpOp_unwanted ho (unwanted_if (n := 9) (d := 56) rfl rfl e56 hq_) ⟨_, by rw [if_neg hq_], rfl, Below.refl _ _⟩
            | 11, ho, he =>
              obtain rfl : o_ = ⟨_, _, _, _, _, _⟩ := (Option.some.inj ho).symm
              obtain rfl := Option.some.inj he; clear he
              have e57 : a.tmps.getD 57 undef = if (b1 || b2) = false then .int .i64 k else undef := hpre ⟨10, .data⟩ (by simp) rfl _ rfl
              have e56 : a.tmps.getD 56 undef = .bool (b1 || b2) := hpre ⟨9, .guard⟩ (by simp) rfl _ rfl
              clear hpre hfr
              by_cases hq_ : (b1 || b2) = false
              · rw [if_pos hq_] at e57
                refine wpOp_value_w (v := .bool false) ho (wanted_of (n := 9) (d := 56) rfl rfl (by rw [hs]; exact (show 56 < 100 by decide)) (e56.trans (congrArg _ hq_))) ?_ ⟨_, by rw [if_pos hq_], rfl, Below.refl _ _⟩
                simp only [execOp, Act.eval, List.map_toArray, List.map_cons, List.map_nil, e57, e56]
                first | rfl | (go_simp; done) | (go_simp; rfl) | (go_simp; intro h_; exfalso; omega)
              · exact wpOp_unwanted ho (unwanted_if (n := 9) (d := 56) rfl rfl e56 hq_) ⟨_, by rw [if_neg hq_], rfl, Below.refl _ _⟩
            | 12, ho, he =>
              obtain rfl : o_ = ⟨_, _, _, _, _, _⟩ := (Option.some.inj ho).symm
              obtain rfl := Option.some.inj he; clear he
              have e58 : a.tmps.getD 58 undef = if (b1 || b2) = false then .bool false else undef := hpre ⟨11, .data⟩ (by simp) rfl _ rfl
              have e56 : a.tmps.getD 56 undef = .bool (b1 || b2) := hpre ⟨9, .guard⟩ (by simp) rfl _ rfl
              clear hpre hfr
              by_cases hq_ : (b1 || b2) = false
              · rw [if_pos hq_] at e58
                refine wpOp_value_w (v := .bool false) ho (wanted_of (n := 9) (d := 56) rfl rfl (by rw [hs]; exact (show 56 < 100 by decide)) (e56.trans (congrArg _ hq_))) ?_ ⟨_, by rw [if_pos hq_], rfl, Below.refl _ _⟩
                simp only [execOp, Act.eval, List.map_toArray, List.map_cons, List.map_nil, e58, e56]
                first | rfl | (go_simp; done) | (go_simp; rfl) | (go_simp; intro h_; exfalso; omega)
              · exact wpOp_unwanted ho (unwanted_if (n := 9) (d := 56) rfl rfl e56 hq_) ⟨_, by rw [if_neg hq_], rfl, Below.refl _ _⟩
            | 13, ho, he => obtain rfl : o_ = ⟨_, _, _, _, _, _⟩ := (Option.some.inj ho).symm; obtain rfl := Option.some.inj he; clear he; have e59 : a.tmps.getD 59 undef = if (b1 || b2) = false then .bool false else undef := hpre ⟨12, .guard⟩ (by simp) rfl _ rfl; have f10 : a.tmps.getD 10 undef = .pointer (some ⟨wr.heap.size, 0, none⟩) := (by rw [Array.getD_eq_getD_getElem?, hfr 10 (show ¬ 10 ∈ ([47, 48, 49, 50, 51, 52, 53, 54, 55, 56, 57, 58, 59, 60, 61, 62, 63, 64, 65, 66, 67, 68, 69, 70, 71, 72, 73, 74, 75, 76, 77, 78, 79, 80, 81, 82, 83, 84, 85, 86, 87, 88, 89, 90, 91, 92, 93, 94, 95, 96, 97, 98, 99] : List Nat) by decide)]; rfl); clear hpre hfr; exact wpOp_unwanted ho (unwanted_of (n := 12) (d := 59) rfl rfl e59 (by split <;> simp [undef])) ⟨_, rfl, rfl, Below.refl _ _⟩
            | 14, ho, he => obtain rfl : o_ = ⟨_, _, _, _, _, _⟩ := (Option.some.inj ho).symm; obtain rfl := Option.some.inj he; clear he; have e60 : a.tmps.getD 60 undef = undef := hpre ⟨13, .data⟩ (by simp) rfl _ rfl; have e59 : a.tmps.getD 59 undef = if (b1 || b2) = false then .bool false else undef := hpre ⟨12, .guard⟩ (by simp) rfl _ rfl; clear hpre hfr; exact wpOp_unwanted ho (unwanted_of (n := 12) (d := 59) rfl rfl e59 (by split <;> simp [undef])) ⟨_, rfl, rfl, Below.refl _ _⟩
            | 15, ho, he => obtain rfl : o_ = ⟨_, _, _, _, _, _⟩ := (Option.some.inj ho).symm; obtain rfl := Option.some.inj he; clear he; have e59 : a.tmps.getD 59 undef = if (b1 || b2) = false then .bool false else undef := hpre ⟨12, .guard⟩ (by simp) rfl _ rfl; have f0 : a.tmps.getD 0 undef = .slice (some ad) l0.length c0 := (by rw [Array.getD_eq_getD_getElem?, hfr 0 (show ¬ 0 ∈ ([47, 48, 49, 50, 51, 52, 53, 54, 55, 56, 57, 58, 59, 60, 61, 62, 63, 64, 65, 66, 67, 68, 69, 70, 71, 72, 73, 74, 75, 76, 77, 78, 79, 80, 81, 82, 83, 84, 85, 86, 87, 88, 89, 90, 91, 92, 93, 94, 95, 96, 97, 98, 99] : List Nat) by decide)]; rfl); clear hpre hfr; exact wpOp_unwanted ho (unwanted_of (n := 12) (d := 59) rfl rfl e59 (by split <;> simp [undef])) ⟨_, rfl, rfl, Below.refl _ _⟩
            | 16, ho, he => obtain rfl : o_ = ⟨_, _, _, _, _, _⟩ := (Option.some.inj ho).symm; obtain rfl := Option.some.inj he; clear he; have e59 : a.tmps.getD 59 undef = if (b1 || b2) = false then .bool false else undef := hpre ⟨12, .guard⟩ (by simp) rfl _ rfl; have f9 : a.tmps.getD 9 undef = .int .i64 k := (by rw [Array.getD_eq_getD_getElem?, hfr 9 (show ¬ 9 ∈ ([47, 48, 49, 50, 51, 52, 53, 54, 55, 56, 57, 58, 59, 60, 61, 62, 63, 64, 65, 66, 67, 68, 69, 70, 71, 72, 73, 74, 75, 76, 77, 78, 79, 80, 81, 82, 83, 84, 85, 86, 87, 88, 89, 90, 91, 92, 93, 94, 95, 96, 97, 98, 99] : List Nat) by decide)]; rfl); clear hpre hfr; exact wpOp_unwanted ho (unwanted_of (n := 12) (d := 59) rfl rfl e59 (by split <;> simp [undef])) ⟨_, rfl, rfl, Below.refl _ _⟩
            | 17, ho, he => obtain rfl : o_ = ⟨_, _, _, _, _, _⟩ := (Option.some.inj ho).symm; obtain rfl := Option.some.inj he; clear he; have e63 : a.tmps.getD 63 undef = undef := hpre ⟨16, .data⟩ (by simp) rfl _ rfl; have e59 : a.tmps.getD 59 undef = if (b1 || b2) = false then .bool false else undef := hpre ⟨12, .guard⟩ (by simp) rfl _ rfl; clear hpre hfr; exact wpOp_unwanted ho (unwanted_of (n := 12) (d := 59) rfl rfl e59 (by split <;> simp [undef])) ⟨_, rfl, rfl, Below.refl _ _⟩
            | 18, ho, he => obtain rfl : o_ = ⟨_, _, _, _, _, _⟩ := (Option.some.inj ho).symm; obtain rfl := Option.some.inj he; clear he; have e62 : a.tmps.getD 62 undef = undef := hpre ⟨15, .data⟩ (by simp) rfl _ rfl; have e64 : a.tmps.getD 64 undef = undef := hpre ⟨17, .data⟩ (by simp) rfl _ rfl; have e59 : a.tmps.getD 59 undef = if (b1 || b2) = false then .bool false else undef := hpre ⟨12, .guard⟩ (by simp) rfl _ rfl; clear hpre hfr; exact wpOp_unwanted ho (unwanted_of (n := 12) (d := 59) rfl rfl e59 (by split <;> simp [undef])) ⟨_, rfl, rfl, Below.refl _ _⟩
            | 19, ho, he => obtain rfl : o_ = ⟨_, _, _, _, _, _⟩ := (Option.some.inj ho).symm; obtain rfl := Option.some.inj he; clear he; have e65 : a.tmps.getD 65 undef = undef := hpre ⟨18, .data⟩ (by simp) rfl _ rfl; have e59 : a.tmps.getD 59 undef = if (b1 || b2) = false then .bool false else undef := hpre ⟨12, .guard⟩ (by simp) rfl _ rfl; clear hpre hfr; exact wpOp_unwanted ho (unwanted_of (n := 12) (d := 59) rfl rfl e59 (by split <;> simp [undef])) ⟨_, rfl, rfl, Below.refl _ _⟩
            | 20, ho, he => obtain rfl : o_ = ⟨_, _, _, _, _, _⟩ := (Option.some.inj ho).symm; obtain rfl := Option.some.inj he; clear he; have e66 : a.tmps.getD 66 undef = undef := hpre ⟨19, .data⟩ (by simp) rfl _ rfl; have e59 : a.tmps.getD 59 undef = if (b1 || b2) = false then .bool false else undef := hpre ⟨12, .guard⟩ (by simp) rfl _ rfl; clear hpre hfr; exact wpOp_unwanted ho (unwanted_of (n := 12) (d := 59) rfl rfl e59 (by split <;> simp [undef])) ⟨_, rfl, rfl, Below.refl _ _⟩
            | 21, ho, he => obtain rfl : o_ = ⟨_, _, _, _, _, _⟩ := (Option.some.inj ho).symm; obtain rfl := Option.some.inj he; clear he; have e61 : a.tmps.getD 61 undef = undef := hpre ⟨14, .data⟩ (by simp) rfl _ rfl; have e67 : a.tmps.getD 67 undef = undef := hpre ⟨20, .data⟩ (by simp) rfl _ rfl; have e59 : a.tmps.getD 59 undef = if (b1 || b2) = false then .bool false else undef := hpre ⟨12, .guard⟩ (by simp) rfl _ rfl; clear hpre hfr; exact wpOp_unwanted ho (unwanted_of (n := 12) (d := 59) rfl rfl e59 (by split <;> simp [undef])) ⟨_, rfl, rfl, Below.refl _ _⟩
            | 22, ho, he =>
              obtain rfl : o_ = ⟨_, _, _, _, _, _⟩ := (Option.some.inj ho).symm
              obtain rfl := Option.some.inj he; clear he
              have e59 : a.tmps.getD 59 undef = if (b1 || b2) = false then .bool false else undef := hpre ⟨12, .data⟩ (by simp) rfl _ rfl
              have e68 : a.tmps.getD 68 undef = undef := hpre ⟨21, .data⟩ (by simp) rfl _ rfl
              have e56 : a.tmps.getD 56 undef = .bool (b1 || b2) := hpre ⟨9, .guard⟩ (by simp) rfl _ rfl
              clear hpre hfr
              by_cases hq_ : (b1 || b2) = false
              · rw [if_pos hq_] at e59
                refine wpOp_value_w (v := .bool (false)) ho (wanted_of (n := 9) (d := 56) rfl rfl (by rw [hs]; exact (show 56 < 100 by decide)) (e56.trans (congrArg _ hq_))) ?_ ⟨_, by rw [if_pos hq_], rfl, Below.refl _ _⟩
                simp only [execOp, Act.eval, List.map_toArray, List.map_cons, List.map_nil, e59, e68, e56]
                first | rfl | (go_simp; done) | (go_simp; rfl) | (go_simp; intro h_; exfalso; omega)
              · exact wpOp_unwanted ho (unwanted_if (n := 9) (d := 56) rfl rfl e56 hq_) ⟨_, by rw [if_neg hq_], rfl, Below.refl _ _⟩
            | 23, ho, he =>
              obtain rfl : o_ = ⟨_, _, _, _, _, _⟩ := (Option.some.inj ho).symm
              obtain rfl := Option.some.inj he; clear he
              have e56 : a.tmps.getD 56 undef = .bool (b1 || b2) := hpre ⟨9, .data⟩ (by simp) rfl _ rfl
              have e69 : a.tmps.getD 69 undef = if (b1 || b2) = false then .bool (false) else undef := hpre ⟨22, .data⟩ (by simp) rfl _ rfl
              clear hpre hfr
              by_cases hq_ : (b1 || b2) = false
              · rw [if_pos hq_] at e69
                refine wpOp_value (v := .bool (b1 || b2 || false)) ho rfl ?_ ⟨_, rfl, rfl, Below.refl _ _⟩
                simp only [execOp, Act.eval, List.map_toArray, List.map_cons, List.map_nil, hq_, e56, e69]
                first | rfl | (go_simp; done) | (go_simp; rfl) | (simp [hq_]; done)
              · rw [if_neg hq_] at e69
                replace hq_ : (b1 || b2) = true := Bool.of_not_eq_false hq_
                refine wpOp_value (v := .bool (b1 || b2 || false)) ho rfl ?_ ⟨_, rfl, rfl, Below.refl _ _⟩
                simp only [execOp, Act.eval, List.map_toArray, List.map_cons, List.map_nil, hq_, e56, e69]
                first | rfl | (go_simp; done) | (go_simp; rfl) | (simp [hq_]; done)
            | 24, ho, he => obtain rfl : o_ = ⟨_, _, _, _, _, _⟩ := (Option.some.inj ho).symm; obtain rfl := Option.some.inj he; clear he; have e70 : a.tmps.getD 70 undef = .bool (b1 || b2 || false) := hpre ⟨23, .data⟩ (by simp) rfl _ rfl; clear hpre hfr; refine wpOp_value (v := .bool (b1 || b2 || false)) ho rfl ?_ ⟨_, rfl, rfl, Below.refl _ _⟩; simp only [execOp, Act.eval, List.map_toArray, List.map_cons, List.map_nil, e70]; first | rfl | (go_simp; done) | (go_simp; rfl) | (go_simp; intro h_; exfalso; omega)
            | 25, ho, he =>
              obtain rfl : o_ = ⟨_, _, _, _, _, _⟩ := (Option.some.inj ho).symm
              obtain rfl := Option.some.inj he; clear he
              have e71 : a.tmps.getD 71 undef = .bool (b1 || b2 || false) := hpre ⟨24, .guard⟩ (by simp) rfl _ rfl
              have f10 : a.tmps.getD 10 undef = .pointer (some ⟨wr.heap.size, 0, none⟩) := by rw [Array.getD_eq_getD_getElem?, hfr 10 (show ¬ 10 ∈ ([47, 48, 49, 50, 51, 52, 53, 54, 55, 56, 57, 58, 59, 60, 61, 62, 63, 64, 65, 66, 67, 68, 69, 70, 71, 72, 73, 74, 75, 76, 77, 78, 79, 80, 81, 82, 83, 84, 85, 86, 87, 88, 89, 90, 91, 92, 93, 94, 95, 96, 97, 98, 99] : List Nat) by decide)]; rfl
              clear hpre hfr
              by_cases hq_ : (b1 || b2 || false) = false
              · refine wpOp_value_w (v := .pointer (some ⟨wr.heap.size, 1, none⟩)) ho (wanted_of (n := 24) (d := 71) rfl rfl (by rw [hs]; exact (show 71 < 100 by decide)) (e71.trans (congrArg _ hq_))) ?_ ⟨_, by rw [if_pos hq_], rfl, Below.refl _ _⟩
                simp only [execOp, Act.eval, List.map_toArray, List.map_cons, List.map_nil, e71, f10]
                first | rfl | (go_simp; done) | (go_simp; rfl) | (go_simp; intro h_; exfalso; omega)
              · exact wpOp_unwanted ho (unwanted_if (n := 24) (d := 71) rfl rfl e71 hq_) ⟨_, by rw [if_neg hq_], rfl, Below.refl _ _⟩
            | 26, ho, he =>
              obtain rfl : o_ = ⟨_, _, _, _, _, _⟩ := (Option.some.inj ho).symm
              obtain rfl := Option.some.inj he; clear he
              have e72 : a.tmps.getD 72 undef = if (b1 || b2 || false) = false then .pointer (some ⟨wr.heap.size, 1, none⟩) else undef := hpre ⟨25, .data⟩ (by simp) rfl _ rfl
              have e71 : a.tmps.getD 71 undef = .bool (b1 || b2 || false) := hpre ⟨24, .guard⟩ (by simp) rfl _ rfl
              clear hpre hfr
              have k_x1 := (hbl.cell (World.block_lt_of_cell? _ _ x1)).trans x1
              by_cases hq_ : (b1 || b2 || false) = false
              · rw [if_pos hq_] at e72
                refine wpOp_value_w (v := .int .i64 x.f1) ho (wanted_of (n := 24) (d := 71) rfl rfl (by rw [hs]; exact (show 71 < 100 by decide)) (e71.trans (congrArg _ hq_))) ?_ ⟨_, by rw [if_pos hq_], rfl, Below.refl _ _⟩
                simp only [execOp, Act.eval, List.map_toArray, List.map_cons, List.map_nil, e72, e71]
                first | rfl | (go_simp; done) | (go_simp; rfl) | (go_simp; intro h_; exfalso; omega)
              · exact wpOp_unwanted ho (unwanted_if (n := 24) (d := 71) rfl rfl e71 hq_) ⟨_, by rw [if_neg hq_], rfl, Below.refl _ _⟩
            | 27, ho, he =>
              obtain rfl : o_ = ⟨_, _, _, _, _, _⟩ := (Option.some.inj ho).symm
              obtain rfl := Option.some.inj he; clear he
              have e73 : a.tmps.getD 73 undef = if (b1 || b2 || false) = false then .int .i64 x.f1 else undef := hpre ⟨26, .data⟩ (by simp) rfl _ rfl
              have e71 : a.tmps.getD 71 undef = .bool (b1 || b2 || false) := hpre ⟨24, .guard⟩ (by simp) rfl _ rfl
              clear hpre hfr
              by_cases hq_ : (b1 || b2 || false) = false
              · rw [if_pos hq_] at e73
                refine wpOp_value_w (v := .bool (b4)) ho (wanted_of (n := 24) (d := 71) rfl rfl (by rw [hs]; exact (show 71 < 100 by decide)) (e71.trans (congrArg _ hq_))) ?_ ⟨_, by rw [if_pos hq_], rfl, Below.refl _ _⟩
                simp only [execOp, Act.eval, List.map_toArray, List.map_cons, List.map_nil, e73, e71]
                first | rfl | (go_simp; done) | (go_simp; rfl) | (go_simp; intro h_; exfalso; omega)
              · exact wpOp_unwanted ho (unwanted_if (n := 24) (d := 71) rfl rfl e71 hq_) ⟨_, by rw [if_neg hq_], rfl, Below.refl _ _⟩
            | 28, ho, he =>
              obtain rfl : o_ = ⟨_, _, _, _, _, _⟩ := (Option.some.inj ho).symm
              obtain rfl := Option.some.inj he; clear he
              have e71 : a.tmps.getD 71 undef = .bool (b1 || b2 || false) := hpre ⟨24, .data⟩ (by simp) rfl _ rfl
              have e74 : a.tmps.getD 74 undef = if (b1 || b2 || false) = false then .bool (b4) else undef := hpre ⟨27, .data⟩ (by simp) rfl _ rfl
              clear hpre hfr
              by_cases hq_ : (b1 || b2 || false) = false
              · rw [if_pos hq_] at e74
                refine wpOp_value (v := .bool (b1 || b2 || false || b4)) ho rfl ?_ ⟨_, rfl, rfl, Below.refl _ _⟩
                simp only [execOp, Act.eval, List.map_toArray, List.map_cons, List.map_nil, hq_, e71, e74]
                first | rfl | (go_simp; done) | (go_simp; rfl) | (simp [hq_]; done)
              · rw [if_neg hq_] at e74
                replace hq_ : (b1 || b2 || false) = true := Bool.of_not_eq_false hq_
                refine wpOp_value (v := .bool (b1 || b2 || false || b4)) ho rfl ?_ ⟨_, rfl, rfl, Below.refl _ _⟩
                simp only [execOp, Act.eval, List.map_toArray, List.map_cons, List.map_nil, hq_, e71, e74]
                first | rfl | (go_simp; done) | (go_simp; rfl) | (simp [hq_]; done)
            | 29, ho, he => obtain rfl : o_ = ⟨_, _, _, _, _, _⟩ := (Option.some.inj ho).symm; obtain rfl := Option.some.inj he; clear he; have e75 : a.tmps.getD 75 undef = .bool (b1 || b2 || false || b4) := hpre ⟨28, .data⟩ (by simp) rfl _ rfl; clear hpre hfr; refine wpOp_value (v := .bool (b1 || b2 || false || b4)) ho rfl ?_ ⟨_, rfl, rfl, Below.refl _ _⟩; simp only [execOp, Act.eval, List.map_toArray, List.map_cons, List.map_nil, e75]; first | rfl | (go_simp; done) | (go_simp; rfl) | (go_simp; intro h_; exfalso; omega)
            | 30, ho, he =>
              obtain rfl : o_ = ⟨_, _, _, _, _, _⟩ := (Option.some.inj ho).symm
              obtain rfl := Option.some.inj he; clear he
              have e76 : a.tmps.getD 76 undef = .bool (b1 || b2 || false || b4) := hpre ⟨29, .guard⟩ (by simp) rfl _ rfl
              have f10 : a.tmps.getD 10 undef = .pointer (some ⟨wr.heap.size, 0, none⟩) := by rw [Array.getD_eq_getD_getElem?, hfr 10 (show ¬ 10 ∈ ([47, 48, 49, 50, 51, 52, 53, 54, 55, 56, 57, 58, 59, 60, 61, 62, 63, 64, 65, 66, 67, 68, 69, 70, 71, 72, 73, 74, 75, 76, 77, 78, 79, 80, 81, 82, 83, 84, 85, 86, 87, 88, 89, 90, 91, 92, 93, 94, 95, 96, 97, 98, 99] : List Nat) by decide)]; rfl
              clear hpre hfr
              by_cases hq_ : (b1 || b2 || false || b4) = false
              · refine wpOp_value_w (v := .pointer (some ⟨wr.heap.size, 1, none⟩)) ho (wanted_of (n := 29) (d := 76) rfl rfl (by rw [hs]; exact (show 76 < 100 by decide)) (e76.trans (congrArg _ hq_))) ?_ ⟨_, by rw [if_pos hq_], rfl, Below.refl _ _⟩
                simp only [execOp, Act.eval, List.map_toArray, List.map_cons, List.map_nil, e76, f10]
                first | rfl | (go_simp; done) | (go_simp; rfl) | (go_simp; intro h_; exfalso; omega)
              · exact wpOp_unwanted ho (unwanted_if (n := 29) (d := 76) rfl rfl e76 hq_) ⟨_, by rw [if_neg hq_], rfl, Below.refl _ _⟩
            | 31, ho, he =>
              obtain rfl : o_ = ⟨_, _, _, _, _, _⟩ := (Option.some.inj ho).symm
              obtain rfl := Option.some.inj he; clear he
              have e77 : a.tmps.getD 77 undef = if (b1 || b2 || false || b4) = false then .pointer (some ⟨wr.heap.size, 1, none⟩) else undef := hpre ⟨30, .data⟩ (by simp) rfl _ rfl
              have e76 : a.tmps.getD 76 undef = .bool (b1 || b2 || false || b4) := hpre ⟨29, .guard⟩ (by simp) rfl _ rfl
              clear hpre hfr
              have k_x1 := (hbl.cell (World.block_lt_of_cell? _ _ x1)).trans x1
              by_cases hq_ : (b1 || b2 || false || b4) = false
              · rw [if_pos hq_] at e77
                refine wpOp_value_w (v := .int .i64 x.f1) ho (wanted_of (n := 29) (d := 76) rfl rfl (by rw [hs]; exact (show 76 < 100 by decide)) (e76.trans (congrArg _ hq_))) ?_ ⟨_, by rw [if_pos hq_], rfl, Below.refl _ _⟩
                simp only [execOp, Act.eval, List.map_toArray, List.map_cons, List.map_nil, e77, e76]
                first | rfl | (go_simp; done) | (go_simp; rfl) | (go_simp; intro h_; exfalso; omega)
              · exact wpOp_unwanted ho (unwanted_if (n := 29) (d := 76) rfl rfl e76 hq_) ⟨_, by rw [if_neg hq_], rfl, Below.refl _ _⟩
            | 32, ho, he =>
              obtain rfl : o_ = ⟨_, _, _, _, _, _⟩ := (Option.some.inj ho).symm
              obtain rfl := Option.some.inj he; clear he
              have e78 : a.tmps.getD 78 undef = if (b1 || b2 || false || b4) = false then .int .i64 x.f1 else undef := hpre ⟨31, .data⟩ (by simp) rfl _ rfl
              have e76 : a.tmps.getD 76 undef = .bool (b1 || b2 || false || b4) := hpre ⟨29, .guard⟩ (by simp) rfl _ rfl
              clear hpre hfr
              by_cases hq_ : (b1 || b2 || false || b4) = false
              · rw [if_pos hq_] at e78
                refine wpOp_value_w (v := .bool (b5)) ho (wanted_of (n := 29) (d := 76) rfl rfl (by rw [hs]; exact (show 76 < 100 by decide)) (e76.trans (congrArg _ hq_))) ?_ ⟨_, by rw [if_pos hq_], rfl, Below.refl _ _⟩
                simp only [execOp, Act.eval, List.map_toArray, List.map_cons, List.map_nil, e78, e76]
                first | rfl | (go_simp; done) | (go_simp; rfl) | (go_simp; intro h_; exfalso; omega)
              · exact wpOp_unwanted ho (unwanted_if (n := 29) (d := 76) rfl rfl e76 hq_) ⟨_, by rw [if_neg hq_], rfl, Below.refl _ _⟩
            | 33, ho, he =>
              obtain rfl : o_ = ⟨_, _, _, _, _, _⟩ := (Option.some.inj ho).symm
              obtain rfl := Option.some.inj he; clear he
              have e76 : a.tmps.getD 76 undef = .bool (b1 || b2 || false || b4) := hpre ⟨29, .data⟩ (by simp) rfl _ rfl
              have e79 : a.tmps.getD 79 undef = if (b1 || b2 || false || b4) = false then .bool (b5) else undef := hpre ⟨32, .data⟩ (by simp) rfl _ rfl
              clear hpre hfr
              by_cases hq_ : (b1 || b2 || false || b4) = false
              · rw [if_pos hq_] at e79
                refine wpOp_value (v := .bool (b1 || b2 || false || b4 || b5)) ho rfl ?_ ⟨_, rfl, rfl, Below.refl _ _⟩
                simp only [execOp, Act.eval, List.map_toArray, List.map_cons, List.map_nil, hq_, e76, e79]
                first | rfl | (go_simp; done) | (go_simp; rfl) | (simp [hq_]; done)
              · rw [if_neg hq_] at e79
                replace hq_ : (b1 || b2 || false || b4) = true := Bool.of_not_eq_false hq_
                refine wpOp_value (v := .bool (b1 || b2 || false || b4 || b5)) ho rfl ?_ ⟨_, rfl, rfl, Below.refl _ _⟩
                simp only [execOp, Act.eval, List.map_toArray, List.map_cons, List.map_nil, hq_, e76, e79]
                first | rfl | (go_simp; done) | (go_simp; rfl) | (simp [hq_]; done)
            | 34, ho, he => obtain rfl : o_ = ⟨_, _, _, _, _, _⟩ := (Option.some.inj ho).symm; obtain rfl := Option.some.inj he; clear he; have e80 : a.tmps.getD 80 undef = .bool (b1 || b2 || false || b4 || b5) := hpre ⟨33, .data⟩ (by simp) rfl _ rfl; clear hpre hfr; refine wpOp_value (v := .bool (b1 || b2 || false || b4 || b5)) ho rfl ?_ ⟨_, rfl, rfl, Below.refl _ _⟩; simp only [execOp, Act.eval, List.map_toArray, List.map_cons, List.map_nil, e80]; first | rfl | (go_simp; done) | (go_simp; rfl) | (go_simp; intro h_; exfalso; omega)
            | 35, ho, he =>
              obtain rfl : o_ = ⟨_, _, _, _, _, _⟩ := (Option.some.inj ho).symm
              obtain rfl := Option.some.inj he; clear he
              have e81 : a.tmps.getD 81 undef = .bool (b1 || b2 || false || b4 || b5) := hpre ⟨34, .guard⟩ (by simp) rfl _ rfl
              have f10 : a.tmps.getD 10 undef = .pointer (some ⟨wr.heap.size, 0, none⟩) := by rw [Array.getD_eq_getD_getElem?, hfr 10 (show ¬ 10 ∈ ([47, 48, 49, 50, 51, 52, 53, 54, 55, 56, 57, 58, 59, 60, 61, 62, 63, 64, 65, 66, 67, 68, 69, 70, 71, 72, 73, 74, 75, 76, 77, 78, 79, 80, 81, 82, 83, 84, 85, 86, 87, 88, 89, 90, 91, 92, 93, 94, 95, 96, 97, 98, 99] : List Nat) by decide)]; rfl
              clear hpre hfr
              by_cases hq_ : (b1 || b2 || false || b4 || b5) = false
              · refine wpOp_value_w (v := .pointer (some ⟨wr.heap.size, 2, none⟩)) ho (wanted_of (n := 34) (d := 81) rfl rfl (by rw [hs]; exact (show 81 < 100 by decide)) (e81.trans (congrArg _ hq_))) ?_ ⟨_, by rw [if_pos hq_], rfl, Below.refl _ _⟩
                simp only [execOp, Act.eval, List.map_toArray, List.map_cons, List.map_nil, e81, f10]
                first | rfl | (go_simp; done) | (go_simp; rfl) | (go_simp; intro h_; exfalso; omega)
              · exact wpOp_unwanted ho (unwanted_if (n := 34) (d := 81) rfl rfl e81 hq_) ⟨_, by rw [if_neg hq_], rfl, Below.refl _ _⟩
            | 36, ho, he =>
              obtain rfl : o_ = ⟨_, _, _, _, _, _⟩ := (Option.some.inj ho).symm
              obtain rfl := Option.some.inj he; clear he
              have e82 : a.tmps.getD 82 undef = if (b1 || b2 || false || b4 || b5) = false then .pointer (some ⟨wr.heap.size, 2, none⟩) else undef := hpre ⟨35, .data⟩ (by simp) rfl _ rfl
              have e81 : a.tmps.getD 81 undef = .bool (b1 || b2 || false || b4 || b5) := hpre ⟨34, .guard⟩ (by simp) rfl _ rfl
              clear hpre hfr
              have k_x2 := (hbl.cell (World.block_lt_of_cell? _ _ x2)).trans x2
              by_cases hq_ : (b1 || b2 || false || b4 || b5) = false
              · rw [if_pos hq_] at e82
                refine wpOp_value_w (v := .int .i64 x.f2) ho (wanted_of (n := 34) (d := 81) rfl rfl (by rw [hs]; exact (show 81 < 100 by decide)) (e81.trans (congrArg _ hq_))) ?_ ⟨_, by rw [if_pos hq_], rfl, Below.refl _ _⟩
                simp only [execOp, Act.eval, List.map_toArray, List.map_cons, List.map_nil, e82, e81]
                first | rfl | (go_simp; done) | (go_simp; rfl) | (go_simp; intro h_; exfalso; omega)
              · exact wpOp_unwanted ho (unwanted_if (n := 34) (d := 81) rfl rfl e81 hq_) ⟨_, by rw [if_neg hq_], rfl, Below.refl _ _⟩
            | 37, ho, he =>
              obtain rfl : o_ = ⟨_, _, _, _, _, _⟩ := (Option.some.inj ho).symm
              obtain rfl := Option.some.inj he; clear he
              have e83 : a.tmps.getD 83 undef = if (b1 || b2 || false || b4 || b5) = false then .int .i64 x.f2 else undef := hpre ⟨36, .data⟩ (by simp) rfl _ rfl
              have e81 : a.tmps.getD 81 undef = .bool (b1 || b2 || false || b4 || b5) := hpre ⟨34, .guard⟩ (by simp) rfl _ rfl
              clear hpre hfr
              by_cases hq_ : (b1 || b2 || false || b4 || b5) = false
              · rw [if_pos hq_] at e83
                refine wpOp_value_w (v := .bool (b6)) ho (wanted_of (n := 34) (d := 81) rfl rfl (by rw [hs]; exact (show 81 < 100 by decide)) (e81.trans (congrArg _ hq_))) ?_ ⟨_, by rw [if_pos hq_], rfl, Below.refl _ _⟩
                simp only [execOp, Act.eval, List.map_toArray, List.map_cons, List.map_nil, e83, e81]
                first | rfl | (go_simp; done) | (go_simp; rfl) | (go_simp; intro h_; exfalso; omega)
              · exact wpOp_unwanted ho (unwanted_if (n := 34) (d := 81) rfl rfl e81 hq_) ⟨_, by rw [if_neg hq_], rfl, Below.refl _ _⟩
            | 38, ho, he =>
              obtain rfl : o_ = ⟨_, _, _, _, _, _⟩ := (Option.some.inj ho).symm
              obtain rfl := Option.some.inj he; clear he
              have e81 : a.tmps.getD 81 undef = .bool (b1 || b2 || false || b4 || b5) := hpre ⟨34, .data⟩ (by simp) rfl _ rfl
              have e84 : a.tmps.getD 84 undef = if (b1 || b2 || false || b4 || b5) = false then .bool (b6) else undef := hpre ⟨37, .data⟩ (by simp) rfl _ rfl
              clear hpre hfr
              by_cases hq_ : (b1 || b2 || false || b4 || b5) = false
              · rw [if_pos hq_] at e84
                refine wpOp_value (v := .bool (b1 || b2 || false || b4 || b5 || b6)) ho rfl ?_ ⟨_, rfl, rfl, Below.refl _ _⟩
                simp only [execOp, Act.eval, List.map_toArray, List.map_cons, List.map_nil, hq_, e81, e84]
                first | rfl | (go_simp; done) | (go_simp; rfl) | (simp [hq_]; done)
              · rw [if_neg hq_] at e84
                replace hq_ : (b1 || b2 || false || b4 || b5) = true := Bool.of_not_eq_false hq_
                refine wpOp_value (v := .bool (b1 || b2 || false || b4 || b5 || b6)) ho rfl ?_ ⟨_, rfl, rfl, Below.refl _ _⟩
                simp only [execOp, Act.eval, List.map_toArray, List.map_cons, List.map_nil, hq_, e81, e84]
                first | rfl | (go_simp; done) | (go_simp; rfl) | (simp [hq_]; done)
            | 39, ho, he => obtain rfl : o_ = ⟨_, _, _, _, _, _⟩ := (Option.some.inj ho).symm; obtain rfl := Option.some.inj he; clear he; have e85 : a.tmps.getD 85 undef = .bool (b1 || b2 || false || b4 || b5 || b6) := hpre ⟨38, .data⟩ (by simp) rfl _ rfl; clear hpre hfr; refine wpOp_value (v := .bool (b1 || b2 || false || b4 || b5 || b6)) ho rfl ?_ ⟨_, rfl, rfl, Below.refl _ _⟩; simp only [execOp, Act.eval, List.map_toArray, List.map_cons, List.map_nil, e85]; first | rfl | (go_simp; done) | (go_simp; rfl) | (go_simp; intro h_; exfalso; omega)
            | 40, ho, he =>
              obtain rfl : o_ = ⟨_, _, _, _, _, _⟩ := (Option.some.inj ho).symm
              obtain rfl := Option.some.inj he; clear he
              have e86 : a.tmps.getD 86 undef = .bool (b1 || b2 || false || b4 || b5 || b6) := hpre ⟨39, .guard⟩ (by simp) rfl _ rfl
              have f10 : a.tmps.getD 10 undef = .pointer (some ⟨wr.heap.size, 0, none⟩) := by rw [Array.getD_eq_getD_getElem?, hfr 10 (show ¬ 10 ∈ ([47, 48, 49, 50, 51, 52, 53, 54, 55, 56, 57, 58, 59, 60, 61, 62, 63, 64, 65, 66, 67, 68, 69, 70, 71, 72, 73, 74, 75, 76, 77, 78, 79, 80, 81, 82, 83, 84, 85, 86, 87, 88, 89, 90, 91, 92, 93, 94, 95, 96, 97, 98, 99] : List Nat) by decide)]; rfl
              clear hpre hfr
              by_cases hq_ : (b1 || b2 || false || b4 || b5 || b6) = false
              · refine wpOp_value_w (v := .pointer (some ⟨wr.heap.size, 2, none⟩)) ho (wanted_of (n := 39) (d := 86) rfl rfl (by rw [hs]; exact (show 86 < 100 by decide)) (e86.trans (congrArg _ hq_))) ?_ ⟨_, by rw [if_pos hq_], rfl, Below.refl _ _⟩
                simp only [execOp, Act.eval, List.map_toArray, List.map_cons, List.map_nil, e86, f10]
                first | rfl | (go_simp; done) | (go_simp; rfl) | (go_simp; intro h_; exfalso; omega)
              · exact wpOp_unwanted ho (unwanted_if (n := 39) (d := 86) rfl rfl e86 hq_) ⟨_, by rw [if_neg hq_], rfl, Below.refl _ _⟩
            | 41, ho, he =>
              obtain rfl : o_ = ⟨_, _, _, _, _, _⟩ := (Option.some.inj ho).symm
              obtain rfl := Option.some.inj he; clear he
              have e87 : a.tmps.getD 87 undef = if (b1 || b2 || false || b4 || b5 || b6) = false then .pointer (some ⟨wr.heap.size, 2, none⟩) else undef := hpre ⟨40, .data⟩ (by simp) rfl _ rfl
              have e86 : a.tmps.getD 86 undef = .bool (b1 || b2 || false || b4 || b5 || b6) := hpre ⟨39, .guard⟩ (by simp) rfl _ rfl
              clear hpre hfr
              have k_x2 := (hbl.cell (World.block_lt_of_cell? _ _ x2)).trans x2
              by_cases hq_ : (b1 || b2 || false || b4 || b5 || b6) = false
              · rw [if_pos hq_] at e87
                refine wpOp_value_w (v := .int .i64 x.f2) ho (wanted_of (n := 39) (d := 86) rfl rfl (by rw [hs]; exact (show 86 < 100 by decide)) (e86.trans (congrArg _ hq_))) ?_ ⟨_, by rw [if_pos hq_], rfl, Below.refl _ _⟩
                simp only [execOp, Act.eval, List.map_toArray, List.map_cons, List.map_nil, e87, e86]
                first | rfl | (go_simp; done) | (go_simp; rfl) | (go_simp; intro h_; exfalso; omega)
              · exact wpOp_unwanted ho (unwanted_if (n := 39) (d := 86) rfl rfl e86 hq_) ⟨_, by rw [if_neg hq_], rfl, Below.refl _ _⟩
            | 42, ho, he =>
              obtain rfl : o_ = ⟨_, _, _, _, _, _⟩ := (Option.some.inj ho).symm
              obtain rfl := Option.some.inj he; clear he
              have e86 : a.tmps.getD 86 undef = .bool (b1 || b2 || false || b4 || b5 || b6) := hpre ⟨39, .guard⟩ (by simp) rfl _ rfl
              have f3 : a.tmps.getD 3 undef = .int .i64 a3 := by rw [Array.getD_eq_getD_getElem?, hfr 3 (show ¬ 3 ∈ ([47, 48, 49, 50, 51, 52, 53, 54, 55, 56, 57, 58, 59, 60, 61, 62, 63, 64, 65, 66, 67, 68, 69, 70, 71, 72, 73, 74, 75, 76, 77, 78, 79, 80, 81, 82, 83, 84, 85, 86, 87, 88, 89, 90, 91, 92, 93, 94, 95, 96, 97, 98, 99] : List Nat) by decide)]; rfl
              clear hpre hfr
              by_cases hq_ : (b1 || b2 || false || b4 || b5 || b6) = false
              · refine wpOp_value_w (v := .int .i64 a3) ho (wanted_of (n := 39) (d := 86) rfl rfl (by rw [hs]; exact (show 86 < 100 by decide)) (e86.trans (congrArg _ hq_))) ?_ ⟨_, by rw [if_pos hq_], rfl, Below.refl _ _⟩
                simp only [execOp, Act.eval, List.map_toArray, List.map_cons, List.map_nil, e86, f3]
                first | rfl | (go_simp; done) | (go_simp; rfl) | (go_simp; intro h_; exfalso; omega)
              · exact wpOp_unwanted ho (unwanted_if (n := 39) (d := 86) rfl rfl e86 hq_) ⟨_, by rw [if_neg hq_], rfl, Below.refl _ _⟩
            | 43, ho, he =>
              obtain rfl : o_ = ⟨_, _, _, _, _, _⟩ := (Option.some.inj ho).symm
              obtain rfl := Option.some.inj he; clear he
              have e88 : a.tmps.getD 88 undef = if (b1 || b2 || false || b4 || b5 || b6) = false then .int .i64 x.f2 else undef := hpre ⟨41, .data⟩ (by simp) rfl _ rfl
              have e89 : a.tmps.getD 89 undef = if (b1 || b2 || false || b4 || b5 || b6) = false then .int .i64 a3 else undef := hpre ⟨42, .data⟩ (by simp) rfl _ rfl
              have e86 : a.tmps.getD 86 undef = .bool (b1 || b2 || false || b4 || b5 || b6) := hpre ⟨39, .guard⟩ (by simp) rfl _ rfl
              clear hpre hfr
              by_cases hq_ : (b1 || b2 || false || b4 || b5 || b6) = false
              · rw [if_pos hq_] at e88
                rw [if_pos hq_] at e89
                refine wpOp_value_w (v := .bool (b7)) ho (wanted_of (n := 39) (d := 86) rfl rfl (by rw [hs]; exact (show 86 < 100 by decide)) (e86.trans (congrArg _ hq_))) ?_ ⟨_, by rw [if_pos hq_], rfl, Below.refl _ _⟩
                simp only [execOp, Act.eval, List.map_toArray, List.map_cons, List.map_nil, e88, e89, e86]
                first | rfl | (go_simp; done) | (go_simp; rfl) | (go_simp; intro h_; exfalso; omega)
              · exact wpOp_unwanted ho (unwanted_if (n := 39) (d := 86) rfl rfl e86 hq_) ⟨_, by rw [if_neg hq_], rfl, Below.refl _ _⟩
            | 44, ho, he =>
              obtain rfl : o_ = ⟨_, _, _, _, _, _⟩ := (Option.some.inj ho).symm
              obtain rfl := Option.some.inj he; clear he
              have e86 : a.tmps.getD 86 undef = .bool (b1 || b2 || false || b4 || b5 || b6) := hpre ⟨39, .data⟩ (by simp) rfl _ rfl
              have e90 : a.tmps.getD 90 undef = if (b1 || b2 || false || b4 || b5 || b6) = false then .bool (b7) else undef := hpre ⟨43, .data⟩ (by simp) rfl _ rfl
              clear hpre hfr
              by_cases hq_ : (b1 || b2 || false || b4 || b5 || b6) = false
              · rw [if_pos hq_] at e90
                refine wpOp_value (v := .bool (b1 || b2 || false || b4 || b5 || b6 || b7)) ho rfl ?_ ⟨_, rfl, rfl, Below.refl _ _⟩
                simp only [execOp, Act.eval, List.map_toArray, List.map_cons, List.map_nil, hq_, e86, e90]
                first | rfl | (go_simp; done) | (go_simp; rfl) | (simp [hq_]; done)
              · rw [if_neg hq_] at e90
                replace hq_ : (b1 || b2 || false || b4 || b5 || b6) = true := Bool.of_not_eq_false hq_
                refine wpOp_value (v := .bool (b1 || b2 || false || b4 || b5 || b6 || b7)) ho rfl ?_ ⟨_, rfl, rfl, Below.refl _ _⟩
                simp only [execOp, Act.eval, List.map_toArray, List.map_cons, List.map_nil, hq_, e86, e90]
                first | rfl | (go_simp; done) | (go_simp; rfl) | (simp [hq_]; done)
            | 45, ho, he => obtain rfl : o_ = ⟨_, _, _, _, _, _⟩ := (Option.some.inj ho).symm; obtain rfl := Option.some.inj he; clear he; have e91 : a.tmps.getD 91 undef = .bool (b1 || b2 || false || b4 || b5 || b6 || b7) := hpre ⟨44, .data⟩ (by simp) rfl _ rfl; clear hpre hfr; refine wpOp_value (v := .bool (b1 || b2 || false || b4 || b5 || b6 || b7)) ho rfl ?_ ⟨_, rfl, rfl, Below.refl _ _⟩; simp only [execOp, Act.eval, List.map_toArray, List.map_cons, List.map_nil, e91]; first | rfl | (go_simp; done) | (go_simp; rfl) | (go_simp; intro h_; exfalso; omega)
            | 46, ho, he =>
              obtain rfl : o_ = ⟨_, _, _, _, _, _⟩ := (Option.some.inj ho).symm
              obtain rfl := Option.some.inj he; clear he
              have e92 : a.tmps.getD 92 undef = .bool (b1 || b2 || false || b4 || b5 || b6 || b7) := hpre ⟨45, .guard⟩ (by simp) rfl _ rfl
              have f10 : a.tmps.getD 10 undef = .pointer (some ⟨wr.heap.size, 0, none⟩) := by rw [Array.getD_eq_getD_getElem?, hfr 10 (show ¬ 10 ∈ ([47, 48, 49, 50, 51, 52, 53, 54, 55, 56, 57, 58, 59, 60, 61, 62, 63, 64, 65, 66, 67, 68, 69, 70, 71, 72, 73, 74, 75, 76, 77, 78, 79, 80, 81, 82, 83, 84, 85, 86, 87, 88, 89, 90, 91, 92, 93, 94, 95, 96, 97, 98, 99] : List Nat) by decide)]; rfl
              clear hpre hfr
              by_cases hq_ : (b1 || b2 || false || b4 || b5 || b6 || b7) = false
              · refine wpOp_value_w (v := .pointer (some ⟨wr.heap.size, 3, none⟩)) ho (wanted_of (n := 45) (d := 92) rfl rfl (by rw [hs]; exact (show 92 < 100 by decide)) (e92.trans (congrArg _ hq_))) ?_ ⟨_, by rw [if_pos hq_], rfl, Below.refl _ _⟩
                simp only [execOp, Act.eval, List.map_toArray, List.map_cons, List.map_nil, e92, f10]
                first | rfl | (go_simp; done) | (go_simp; rfl) | (go_simp; intro h_; exfalso; omega)
              · exact wpOp_unwanted ho (unwanted_if (n := 45) (d := 92) rfl rfl e92 hq_) ⟨_, by rw [if_neg hq_], rfl, Below.refl _ _⟩
            | 47, ho, he =>
              obtain rfl : o_ = ⟨_, _, _, _, _, _⟩ := (Option.some.inj ho).symm
              obtain rfl := Option.some.inj he; clear he
              have e93 : a.tmps.getD 93 undef = if (b1 || b2 || false || b4 || b5 || b6 || b7) = false then .pointer (some ⟨wr.heap.size, 3, none⟩) else undef := hpre ⟨46, .data⟩ (by simp) rfl _ rfl
              have e92 : a.tmps.getD 92 undef = .bool (b1 || b2 || false || b4 || b5 || b6 || b7) := hpre ⟨45, .guard⟩ (by simp) rfl _ rfl
              clear hpre hfr
              have k_x3 := (hbl.cell (World.block_lt_of_cell? _ _ x3)).trans x3
              have k_x4 := (hbl.cell (World.block_lt_of_cell? _ _ x4)).trans x4
              by_cases hq_ : (b1 || b2 || false || b4 || b5 || b6 || b7) = false
              · rw [if_pos hq_] at e93
                refine wpOp_value_w (v := .agg #[.int .i64 x.f3.f0, .slice A2 x.f3.f1.length c2]) ho (wanted_of (n := 45) (d := 92) rfl rfl (by rw [hs]; exact (show 92 < 100 by decide)) (e92.trans (congrArg _ hq_))) ?_ ⟨_, by rw [if_pos hq_], rfl, Below.refl _ _⟩
                simp only [execOp, Act.eval, List.map_toArray, List.map_cons, List.map_nil, e93, e92]
                first | rfl | (go_simp; done) | (go_simp; rfl) | (go_simp; intro h_; exfalso; omega)
              · exact wpOp_unwanted ho (unwanted_if (n := 45) (d := 92) rfl rfl e92 hq_) ⟨_, by rw [if_neg hq_], rfl, Below.refl _ _⟩
            | 48, ho, he =>
              obtain rfl : o_ = ⟨_, _, _, _, _, _⟩ := (Option.some.inj ho).symm
              obtain rfl := Option.some.inj he; clear he
              have e92 : a.tmps.getD 92 undef = .bool (b1 || b2 || false || b4 || b5 || b6 || b7) := hpre ⟨45, .guard⟩ (by simp) rfl _ rfl
              have f5 : a.tmps.getD 5 undef = .pointer (some ⟨w.heap.size, 0, none⟩) := by rw [Array.getD_eq_getD_getElem?, hfr 5 (show ¬ 5 ∈ ([47, 48, 49, 50, 51, 52, 53, 54, 55, 56, 57, 58, 59, 60, 61, 62, 63, 64, 65, 66, 67, 68, 69, 70, 71, 72, 73, 74, 75, 76, 77, 78, 79, 80, 81, 82, 83, 84, 85, 86, 87, 88, 89, 90, 91, 92, 93, 94, 95, 96, 97, 98, 99] : List Nat) by decide)]; rfl
              clear hpre hfr
              by_cases hq_ : (b1 || b2 || false || b4 || b5 || b6 || b7) = false
              · refine wpOp_value_w (v := .pointer (some ⟨w.heap.size, 2, none⟩)) ho (wanted_of (n := 45) (d := 92) rfl rfl (by rw [hs]; exact (show 92 < 100 by decide)) (e92.trans (congrArg _ hq_))) ?_ ⟨_, by rw [if_pos hq_], rfl, Below.refl _ _⟩
                simp only [execOp, Act.eval, List.map_toArray, List.map_cons, List.map_nil, e92, f5]
                first | rfl | (go_simp; done) | (go_simp; rfl) | (go_simp; intro h_; exfalso; omega)
              · exact wpOp_unwanted ho (unwanted_if (n := 45) (d := 92) rfl rfl e92 hq_) ⟨_, by rw [if_neg hq_], rfl, Below.refl _ _⟩
            | 49, ho, he =>
              obtain rfl : o_ = ⟨_, _, _, _, _, _⟩ := (Option.some.inj ho).symm
              obtain rfl := Option.some.inj he; clear he
              have e95 : a.tmps.getD 95 undef = if (b1 || b2 || false || b4 || b5 || b6 || b7) = false then .pointer (some ⟨w.heap.size, 2, none⟩) else undef := hpre ⟨48, .data⟩ (by simp) rfl _ rfl
              have e92 : a.tmps.getD 92 undef = .bool (b1 || b2 || false || b4 || b5 || b6 || b7) := hpre ⟨45, .guard⟩ (by simp) rfl _ rfl
              clear hpre hfr
              have k_ys := (hbl.cell (World.block_lt_of_cell? _ _ ys)).trans ys
              by_cases hq_ : (b1 || b2 || false || b4 || b5 || b6 || b7) = false
              · rw [if_pos hq_] at e95
                refine wpOp_value_w (v := .int .i64 a1_2) ho (wanted_of (n := 45) (d := 92) rfl rfl (by rw [hs]; exact (show 92 < 100 by decide)) (e92.trans (congrArg _ hq_))) ?_ ⟨_, by rw [if_pos hq_], rfl, Below.refl _ _⟩
                simp only [execOp, Act.eval, List.map_toArray, List.map_cons, List.map_nil, e95, e92]
                first | rfl | (go_simp; done) | (go_simp; rfl) | (go_simp; intro h_; exfalso; omega)
              · exact wpOp_unwanted ho (unwanted_if (n := 45) (d := 92) rfl rfl e92 hq_) ⟨_, by rw [if_neg hq_], rfl, Below.refl _ _⟩
            | 50, ho, he =>
              obtain rfl : o_ = ⟨_, _, _, _, _, _⟩ := (Option.some.inj ho).symm
              obtain rfl := Option.some.inj he; clear he
              have e94 : a.tmps.getD 94 undef = if (b1 || b2 || false || b4 || b5 || b6 || b7) = false then .agg #[.int .i64 x.f3.f0, .slice A2 x.f3.f1.length c2] else undef := hpre ⟨47, .data⟩ (by simp) rfl _ rfl
              have e96 : a.tmps.getD 96 undef = if (b1 || b2 || false || b4 || b5 || b6 || b7) = false then .int .i64 a1_2 else undef := hpre ⟨49, .data⟩ (by simp) rfl _ rfl
              have e92 : a.tmps.getD 92 undef = .bool (b1 || b2 || false || b4 || b5 || b6 || b7) := hpre ⟨45, .guard⟩ (by simp) rfl _ rfl
              clear hpre hfr
              by_cases hq_ : (b1 || b2 || false || b4 || b5 || b6 || b7) = false
              · rw [if_pos hq_] at e94
                rw [if_pos hq_] at e96
                refine wpOp_call_w (fn := Try.f40) ho (wanted_of (n := 45) (d := 92) rfl rfl (by rw [hs]; exact (show 92 < 100 by decide)) (e92.trans (congrArg _ hq_))) rfl rfl rfl #[.agg #[.int .i64 x.f3.f0, .slice A2 x.f3.f1.length c2], .int .i64 a1_2] rfl (by simp only [List.map_toArray, List.map_cons, List.map_nil, Act.eval, e94, e96]) ?_
                refine (waybillref22_Check.calls (x.f3.f1.length + 3) x.f3.f0 A2 c2 x.f3.f1 a1_2 cw _ (Kd.C_below G2.out hbl) L2.out I4.out).mono ?_
                rintro e w3 ⟨rfl, hd⟩
                exact ⟨_, rfl, _, rfl, by rw [if_pos hq_], hd⟩
              · exact wpOp_unwanted ho (unwanted_if (n := 45) (d := 92) rfl rfl e92 hq_) ⟨_, by rw [if_neg hq_], rfl, Below.refl _ _⟩
            | 51, ho, he =>
              obtain rfl : o_ = ⟨_, _, _, _, _, _⟩ := (Option.some.inj ho).symm
              obtain rfl := Option.some.inj he; clear he
              have e97 : a.tmps.getD 97 undef = if (b1 || b2 || false || b4 || b5 || b6 || b7) = false then .int .i64 cw else undef := hpre ⟨50, .data⟩ (by simp) rfl _ rfl
              have e92 : a.tmps.getD 92 undef = .bool (b1 || b2 || false || b4 || b5 || b6 || b7) := hpre ⟨45, .guard⟩ (by simp) rfl _ rfl
              clear hpre hfr
              by_cases hq_ : (b1 || b2 || false || b4 || b5 || b6 || b7) = false
              · rw [if_pos hq_] at e97
                refine wpOp_value_w (v := .bool (cw != 0)) ho (wanted_of (n := 45) (d := 92) rfl rfl (by rw [hs]; exact (show 92 < 100 by decide)) (e92.trans (congrArg _ hq_))) ?_ ⟨_, by rw [if_pos hq_], rfl, Below.refl _ _⟩
                simp only [execOp, Act.eval, List.map_toArray, List.map_cons, List.map_nil, e97, e92]
                first | rfl | (go_simp; done) | (go_simp; rfl) | (go_simp; intro h_; exfalso; omega)
              · exact wpOp_unwanted ho (unwanted_if (n := 45) (d := 92) rfl rfl e92 hq_) ⟨_, by rw [if_neg hq_], rfl, Below.refl _ _⟩
            | 52, ho, he =>
              obtain rfl : o_ = ⟨_, _, _, _, _, _⟩ := (Option.some.inj ho).symm
              obtain rfl := Option.some.inj he; clear he
              have e92 : a.tmps.getD 92 undef = .bool (b1 || b2 || false || b4 || b5 || b6 || b7) := hpre ⟨45, .data⟩ (by simp) rfl _ rfl
              have e98 : a.tmps.getD 98 undef = if (b1 || b2 || false || b4 || b5 || b6 || b7) = false then .bool (cw != 0) else undef := hpre ⟨51, .data⟩ (by simp) rfl _ rfl
              clear hpre hfr
              by_cases hq_ : (b1 || b2 || false || b4 || b5 || b6 || b7) = false
              · rw [if_pos hq_] at e98
                refine wpOp_value (v := .bool (b1 || b2 || false || b4 || b5 || b6 || b7 || cw != 0)) ho rfl ?_ ⟨_, rfl, rfl, Below.refl _ _⟩
                simp only [execOp, Act.eval, List.map_toArray, List.map_cons, List.map_nil, hq_, e92, e98]
                first | rfl | (go_simp; done) | (go_simp; rfl) | (simp [hq_]; done)
              · rw [if_neg hq_] at e98
                replace hq_ : (b1 || b2 || false || b4 || b5 || b6 || b7) = true := Bool.of_not_eq_false hq_
                refine wpOp_value (v := .bool (b1 || b2 || false || b4 || b5 || b6 || b7 || cw != 0)) ho rfl ?_ ⟨_, rfl, rfl, Below.refl _ _⟩
                simp only [execOp, Act.eval, List.map_toArray, List.map_cons, List.map_nil, hq_, e92, e98]
                first | rfl | (go_simp; done) | (go_simp; rfl) | (simp [hq_]; done)
            | n_ + 53, ho, he => simp at he
          case fin =>
            intro xv_ w1_ hbl hx
            simp only [List.forall_mem_cons] at hx
            obtain ⟨x47, x48, x49, x50, x51, x52, x53, x54, x55, x56, x57, x58, x59, x60, x61, x62, x63, x64, x65, x66, x67, x68, x69, x70, x71, x72, x73, x74, x75, x76, x77, x78, x79, x80, x81, x82, x83, x84, x85, x86, x87, x88, x89, x90, x91, x92, x93, x94, x95, x96, x97, x98, x99, _⟩ := hx
            simp only [List.map_cons, List.map_nil, putL, Act.put, List.setIfInBounds_toArray, List.set_cons_zero, List.set_cons_succ, x47, x48, x49, x50, x55, x56, x60, x61, x62, x63, x64, x65, x66, x67, x68, x70, x71, x75, x76, x80, x81, x85, x86, x91, x92, x99]
            clear x47 x48 x49 x50 x51 x52 x53 x54 x55 x56 x57 x58 x59 x60 x61 x62 x63 x64 x65 x66 x67 x68 x69 x70 x71 x72 x73 x74 x75 x76 x77 x78 x79 x80 x81 x82 x83 x84 x85 x86 x87 x88 x89 x90 x91 x92 x93 x94 x95 x96 x97 x98 x99
            have HBL := Aside0.mk hbl
            have HB2 : Aside0 (Below w.heap.size w w1_) := ⟨below_then HBX.out HBX.out.size hbl⟩
            obtain ⟨C, hC⟩ : ∃ C, C = (b1 || b2 || false || b4 || b5 || b6 || b7 || cw != 0) := ⟨_, rfl⟩
            rw [← hC]
            have HCC := Aside0.mk hC
            clear hC hbl x0 x1 x2 x3 x4 ys
            cases C with
            | true =>
              have HE : Aside0 (checkS l0 a1_0 a1_1 a1_2 a2 a3 = 9) := ⟨by
                rw [HE0.out, if_pos]
                by_cases hod : oddS a1_2 a2 a3 x = true
                · exact .inr (.inl (List.any_eq_true.2 ⟨x, HXM.out, hod⟩))
                · refine .inr (.inr ?_)
                  have hod' := Bool.of_not_eq_true hod
                  have h1 := HCC.out
                  rw [HOD.out] at hod'
                  revert hod' h1; cases b1 <;> cases b2 <;> cases b4 <;> cases b5 <;> cases b6 <;> cases b7 <;> cases (cw != 0) <;> simp⟩
              go_wp2_with fail
              go_ret
              exact ⟨by rw [HE.out]; rfl, HB2.out⟩
            | false =>
              have HOF : Aside0 (oddS a1_2 a2 a3 x = false) := ⟨by
                have h1 := HCC.out
                rw [HOD.out]
                revert h1; cases b1 <;> cases b2 <;> cases b4 <;> cases b5 <;> cases b6 <;> cases b7 <;> cases (cw != 0) <;> simp⟩
              go_wp2_with fail
              go_roundw
              case rel => exact ⟨k + 1, by go_num, by omega, ⟨by rw [HTK.out, List.any_append, HAN.out, show ([x].any (oddS a1_2 a2 a3)) = false by simp [HOF.out]]; rfl⟩, ⟨HRI.out⟩, HB2, ⟨blk_below BSr.out HBL.out⟩⟩
              case measure => simp [intOf]; omega
        · obtain ⟨adp, Ap, cp, ep, p0, _, _, _, _, _, _⟩ := at_T38 (Kd.C_below HR.out HB.out) ((k : Int) - 1) (by omega) (by omega)
          obtain rfl := Option.some.inj ep
          have n1 : ((k : Int) - 1).toNat = k - 1 := by omega
          have hrp : rd_T38 l0 ((k : Int) - 1) = l0.getD (k - 1) z38 := by simp [rd_T38, n1]
          rw [n1, hrp] at p0
          obtain ⟨y, hy⟩ : ∃ y, y = (l0.getD (k - 1) z38).f0 := ⟨_, rfl⟩
          rw [← hy] at p0
          obtain ⟨b3, hb3⟩ : ∃ b, decide (x.f0 ≤ y) = b := ⟨_, rfl⟩
          have HRI : Aside0 (risesS (l0.take (k + 1)) = !b3) := ⟨by
            rw [risesS_step l0 k hz hlt, HRS.out, HXG.out, ← hy, Bool.true_and, ← hb3, ← decide_not]
            exact decide_eq_decide.2 (by omega)⟩
          have pz : decide ((0 : Int) < (k : Int)) = true := decide_eq_true (by omega)
          have pz' : decide (0 < k) = true := decide_eq_true hz
          have pw : IntKind.i64.wrap ((k : Int) - 1) = (k : Int) - 1 := by rw [IntKind.wrap_i64]; omega
          have p1 : (0 : Int) ≤ (k : Int) - 1 := by omega
          have p2 : (k : Int) - 1 < (l0.length : Int) := by omega
          have PY := Aside0.mk p0
          clear ep hrp hy p0
          go_upto_region 9 with fail
          obtain ⟨W0, hW0⟩ : ∃ W, W = wr.alloc (.cells #[.int .i64 x.f0, .int .i64 x.f1, .int .i64 x.f2, .int .i64 x.f3.f0, .slice A2 x.f3.f1.length c2] 38) := ⟨_, rfl⟩
          have py := (below_alloc (Below.refl wr.heap.size wr) (.cells #[.int .i64 x.f0, .int .i64 x.f1, .int .i64 x.f2, .int .i64 x.f3.f0, .slice A2 x.f3.f1.length c2] 38)).cell (World.block_lt_of_cell? _ _ PY.out) |>.trans PY.out
          rw [← hW0] at G2 HBX BX BSr py ⊢
          clear hW0 q0 q1 q2 q3 q4
          have x0 : W0.cell? ⟨wr.heap.size, 0, none⟩ = some (.int .i64 x.f0) := (blk_cell BX.out 0).trans rfl
          have x1 : W0.cell? ⟨wr.heap.size, 1, none⟩ = some (.int .i64 x.f1) := (blk_cell BX.out 1).trans rfl
          have x2 : W0.cell? ⟨wr.heap.size, 2, none⟩ = some (.int .i64 x.f2) := (blk_cell BX.out 2).trans rfl
          have x3 : W0.cell? ⟨wr.heap.size, 3, none⟩ = some (.int .i64 x.f3.f0) := (blk_cell BX.out 3).trans rfl
          have x4 : W0.cell? ⟨wr.heap.size, 4, none⟩ = some (.slice A2 x.f3.f1.length c2) := (blk_cell BX.out 4).trans rfl
          have ys : W0.cell? ⟨w.heap.size, 2, none⟩ = some (.int .i64 a1_2) := (blk_cell BSr.out 2).trans rfl
          refine region_facts (B := _) (w0 := _) [(47, (fun v _ => v = .pointer (some ⟨wr.heap.size, 0, none⟩))), (48, (fun v _ => v = .int .i64 x.f0)), (49, (fun v _ => v = .bool (b1))), (50, (fun v _ => v = .bool (b1))), (51, (fun v _ => v = if (b1) = false then .pointer (some ⟨wr.heap.size, 0, none⟩) else undef)), (52, (fun v _ => v = if (b1) = false then .int .i64 x.f0 else undef)), (53, (fun v _ => v = if (b1) = false then .int .i64 a2 else undef)), (54, (fun v _ => v = if (b1) = false then .bool (b2) else undef)), (55, (fun v _ => v = .bool (b1 || b2))), (56, (fun v _ => v = .bool (b1 || b2))), (57, (fun v _ => v = if (b1 || b2) = false then .int .i64 k else undef)), (58, (fun v _ => v = if (b1 || b2) = false then .bool true else undef)), (59, (fun v _ => v = if (b1 || b2) = false then .bool true else undef)), (60, (fun v _ => v = if (b1 || b2) = false then .pointer (some ⟨wr.heap.size, 0, none⟩) else undef)), (61, (fun v _ => v = if (b1 || b2) = false then .int .i64 x.f0 else undef)), (62, (fun v _ => v = if (b1 || b2) = false then .slice (some ad) l0.length c0 else undef)), (63, (fun v _ => v = if (b1 || b2) = false then .int .i64 k else undef)), (64, (fun v _ => v = if (b1 || b2) = false then .int .i64 ((k : Int) - 1) else undef)), (65, (fun v _ => v = if (b1 || b2) = false then .pointer (some (ad.add ((k - 1) * 5))) else undef)), (66, (fun v _ => v = if (b1 || b2) = false then .pointer (some (ad.add ((k - 1) * 5))) else undef)), (67, (fun v _ => v = if (b1 || b2) = false then .int .i64 y else undef)), (68, (fun v _ => v = if (b1 || b2) = false then .bool (b3) else undef)), (69, (fun v _ => v = if (b1 || b2) = false then .bool (b3) else undef)), (70, (fun v _ => v = .bool (b1 || b2 || b3))), (71, (fun v _ => v = .bool (b1 || b2 || b3))), (72, (fun v _ => v = if (b1 || b2 || b3) = false then .pointer (some ⟨wr.heap.size, 1, none⟩) else undef)), (73, (fun v _ => v = if (b1 || b2 || b3) = false then .int .i64 x.f1 else undef)), (74, (fun v _ => v = if (b1 || b2 || b3) = false then .bool (b4) else undef)), (75, (fun v _ => v = .bool (b1 || b2 || b3 || b4))), (76, (fun v _ => v = .bool (b1 || b2 || b3 || b4))), (77, (fun v _ => v = if (b1 || b2 || b3 || b4) = false then .pointer (some ⟨wr.heap.size, 1, none⟩) else undef)), (78, (fun v _ => v = if (b1 || b2 || b3 || b4) = false then .int .i64 x.f1 else undef)), (79, (fun v _ => v = if (b1 || b2 || b3 || b4) = false then .bool (b5) else undef)), (80, (fun v _ => v = .bool (b1 || b2 || b3 || b4 || b5))), (81, (fun v _ => v = .bool (b1 || b2 || b3 || b4 || b5))), (82, (fun v _ => v = if (b1 || b2 || b3 || b4 || b5) = false then .pointer (some ⟨wr.heap.size, 2, none⟩) else undef)), (83, (fun v _ => v = if (b1 || b2 || b3 || b4 || b5) = false then .int .i64 x.f2 else undef)), (84, (fun v _ => v = if (b1 || b2 || b3 || b4 || b5) = false then .bool (b6) else undef)), (85, (fun v _ => v = .bool (b1 || b2 || b3 || b4 || b5 || b6))), (86, (fun v _ => v = .bool (b1 || b2 || b3 || b4 || b5 || b6))), (87, (fun v _ => v = if (b1 || b2 || b3 || b4 || b5 || b6) = false then .pointer (some ⟨wr.heap.size, 2, none⟩) else undef)), (88, (fun v _ => v = if (b1 || b2 || b3 || b4 || b5 || b6) = false then .int .i64 x.f2 else undef)), (89, (fun v _ => v = if (b1 || b2 || b3 || b4 || b5 || b6) = false then .int .i64 a3 else undef)), (90, (fun v _ => v = if (b1 || b2 || b3 || b4 || b5 || b6) = false then .bool (b7) else undef)), (91, (fun v _ => v = .bool (b1 || b2 || b3 || b4 || b5 || b6 || b7))), (92, (fun v _ => v = .bool (b1 || b2 || b3 || b4 || b5 || b6 || b7))), (93, (fun v _ => v = if (b1 || b2 || b3 || b4 || b5 || b6 || b7) = false then .pointer (some ⟨wr.heap.size, 3, none⟩) else undef)), (94, (fun v _ => v = if (b1 || b2 || b3 || b4 || b5 || b6 || b7) = false then .agg #[.int .i64 x.f3.f0, .slice A2 x.f3.f1.length c2] else undef)), (95, (fun v _ => v = if (b1 || b2 || b3 || b4 || b5 || b6 || b7) = false then .pointer (some ⟨w.heap.size, 2, none⟩) else undef)), (96, (fun v _ => v = if (b1 || b2 || b3 || b4 || b5 || b6 || b7) = false then .int .i64 a1_2 else undef)), (97, (fun v _ => v = if (b1 || b2 || b3 || b4 || b5 || b6 || b7) = false then .int .i64 cw else undef)), (98, (fun v _ => v = if (b1 || b2 || b3 || b4 || b5 || b6 || b7) = false then .bool (cw != 0) else undef)), (99, (fun v _ => v = .bool (b1 || b2 || b3 || b4 || b5 || b6 || b7 || cw != 0)))] (by kernel_rfl) (by kernel_rfl) (by rfl) (show ([47, 48, 49, 50, 51, 52, 53, 54, 55, 56, 57, 58, 59, 60, 61, 62, 63, 64, 65, 66, 67, 68, 69, 70, 71, 72, 73, 74, 75, 76, 77, 78, 79, 80, 81, 82, 83, 84, 85, 86, 87, 88, 89, 90, 91, 92, 93, 94, 95, 96, 97, 98, 99] : List Nat).Nodup by decide) ?hsz ?hst (Below.refl _ _) (Nat.le_refl _) ?step ?fin
          case hsz => exact List.forall_mem_cons.2 ⟨(show 47 < 100 by decide), List.forall_mem_cons.2 ⟨(show 48 < 100 by decide), List.forall_mem_cons.2 ⟨(show 49 < 100 by decide), List.forall_mem_cons.2 ⟨(show 50 < 100 by decide), List.forall_mem_cons.2 ⟨(show 51 < 100 by decide), List.forall_mem_cons.2 ⟨(show 52 < 100 by decide), List.forall_mem_cons.2 ⟨(show 53 < 100 by decide), List.forall_mem_cons.2 ⟨(show 54 < 100 by decide), List.forall_mem_cons.2 ⟨(show 55 < 100 by decide), List.forall_mem_cons.2 ⟨(show 56 < 100 by decide), List.forall_mem_cons.2 ⟨(show 57 < 100 by decide), List.forall_mem_cons.2 ⟨(show 58 < 100 by decide), List.forall_mem_cons.2 ⟨(show 59 < 100 by decide), List.forall_mem_cons.2 ⟨(show 60 < 100 by decide), List.forall_mem_cons.2 ⟨(show 61 < 100 by decide), List.forall_mem_cons.2 ⟨(show 62 < 100 by decide), List.forall_mem_cons.2 ⟨(show 63 < 100 by decide), List.forall_mem_cons.2 ⟨(show 64 < 100 by decide), List.forall_mem_cons.2 ⟨(show 65 < 100 by decide), List.forall_mem_cons.2 ⟨(show 66 < 100 by decide), List.forall_mem_cons.2 ⟨(show 67 < 100 by decide), List.forall_mem_cons.2 ⟨(show 68 < 100 by decide), List.forall_mem_cons.2 ⟨(show 69 < 100 by decide), List.forall_mem_cons.2 ⟨(show 70 < 100 by decide), List.forall_mem_cons.2 ⟨(show 71 < 100 by decide), List.forall_mem_cons.2 ⟨(show 72 < 100 by decide), List.forall_mem_cons.2 ⟨(show 73 < 100 by decide), List.forall_mem_cons.2 ⟨(show 74 < 100 by decide), List.forall_mem_cons.2 ⟨(show 75 < 100 by decide), List.forall_mem_cons.2 ⟨(show 76 < 100 by decide), List.forall_mem_cons.2 ⟨(show 77 < 100 by decide), List.forall_mem_cons.2 ⟨(show 78 < 100 by decide), List.forall_mem_cons.2 ⟨(show 79 < 100 by decide), List.forall_mem_cons.2 ⟨(show 80 < 100 by decide), List.forall_mem_cons.2 ⟨(show 81 < 100 by decide), List.forall_mem_cons.2 ⟨(show 82 < 100 by decide), List.forall_mem_cons.2 ⟨(show 83 < 100 by decide), List.forall_mem_cons.2 ⟨(show 84 < 100 by decide), List.forall_mem_cons.2 ⟨(show 85 < 100 by decide), List.forall_mem_cons.2 ⟨(show 86 < 100 by decide), List.forall_mem_cons.2 ⟨(show 87 < 100 by decide), List.forall_mem_cons.2 ⟨(show 88 < 100 by decide), List.forall_mem_cons.2 ⟨(show 89 < 100 by decide), List.forall_mem_cons.2 ⟨(show 90 < 100 by decide), List.forall_mem_cons.2 ⟨(show 91 < 100 by decide), List.forall_mem_cons.2 ⟨(show 92 < 100 by decide), List.forall_mem_cons.2 ⟨(show 93 < 100 by decide), List.forall_mem_cons.2 ⟨(show 94 < 100 by decide), List.forall_mem_cons.2 ⟨(show 95 < 100 by decide), List.forall_mem_cons.2 ⟨(show 96 < 100 by decide), List.forall_mem_cons.2 ⟨(show 97 < 100 by decide), List.forall_mem_cons.2 ⟨(show 98 < 100 by decide), List.forall_mem_cons.2 ⟨(show 99 < 100 by decide), fun _ h => nomatch h⟩⟩⟩⟩⟩⟩⟩⟩⟩⟩⟩⟩⟩⟩⟩⟩⟩⟩⟩⟩⟩⟩⟩⟩⟩⟩⟩⟩⟩⟩⟩⟩⟩⟩⟩⟩⟩⟩⟩⟩⟩⟩⟩⟩⟩⟩⟩⟩⟩⟩⟩⟩⟩
          case hst => exact List.forall_mem_cons.2 ⟨(fun v w1 w2 hb h => h), List.forall_mem_cons.2 ⟨(fun v w1 w2 hb h => h), List.forall_mem_cons.2 ⟨(fun v w1 w2 hb h => h), List.forall_mem_cons.2 ⟨(fun v w1 w2 hb h => h), List.forall_mem_cons.2 ⟨(fun v w1 w2 hb h => h), List.forall_mem_cons.2 ⟨(fun v w1 w2 hb h => h), List.forall_mem_cons.2 ⟨(fun v w1 w2 hb h => h), List.forall_mem_cons.2 ⟨(fun v w1 w2 hb h => h), List.forall_mem_cons.2 ⟨(fun v w1 w2 hb h => h), List.forall_mem_cons.2 ⟨(fun v w1 w2 hb h => h), List.forall_mem_cons.2 ⟨(fun v w1 w2 hb h => h), List.forall_mem_cons.2 ⟨(fun v w1 w2 hb h => h), List.forall_mem_cons.2 ⟨(fun v w1 w2 hb h => h), List.forall_mem_cons.2 ⟨(fun v w1 w2 hb h => h), List.forall_mem_cons.2 ⟨(fun v w1 w2 hb h => h), List.forall_mem_cons.2 ⟨(fun v w1 w2 hb h => h), List.forall_mem_cons.2 ⟨(fun v w1 w2 hb h => h), List.forall_mem_cons.2 ⟨(fun v w1 w2 hb h => h), List.forall_mem_cons.2 ⟨(fun v w1 w2 hb h => h), List.forall_mem_cons.2 ⟨(fun v w1 w2 hb h => h), List.forall_mem_cons.2 ⟨(fun v w1 w2 hb h => h), List.forall_mem_cons.2 ⟨(fun v w1 w2 hb h => h), List.forall_mem_cons.2 ⟨(fun v w1 w2 hb h => h), List.forall_mem_cons.2 ⟨(fun v w1 w2 hb h => h), List.forall_mem_cons.2 ⟨(fun v w1 w2 hb h => h), List.forall_mem_cons.2 ⟨(fun v w1 w2 hb h => h), List.forall_mem_cons.2 ⟨(fun v w1 w2 hb h => h), List.forall_mem_cons.2 ⟨(fun v w1 w2 hb h => h), List.forall_mem_cons.2 ⟨(fun v w1 w2 hb h => h), List.forall_mem_cons.2 ⟨(fun v w1 w2 hb h => h), List.forall_mem_cons.2 ⟨(fun v w1 w2 hb h => h), List.forall_mem_cons.2 ⟨(fun v w1 w2 hb h => h), List.forall_mem_cons.2 ⟨(fun v w1 w2 hb h => h), List.forall_mem_cons.2 ⟨(fun v w1 w2 hb h => h), List.forall_mem_cons.2 ⟨(fun v w1 w2 hb h => h), List.forall_mem_cons.2 ⟨(fun v w1 w2 hb h => h), List.forall_mem_cons.2 ⟨(fun v w1 w2 hb h => h), List.forall_mem_cons.2 ⟨(fun v w1 w2 hb h => h), List.forall_mem_cons.2 ⟨(fun v w1 w2 hb h => h), List.forall_mem_cons.2 ⟨(fun v w1 w2 hb h => h), List.forall_mem_cons.2 ⟨(fun v w1 w2 hb h => h), List.forall_mem_cons.2 ⟨(fun v w1 w2 hb h => h), List.forall_mem_cons.2 ⟨(fun v w1 w2 hb h => h), List.forall_mem_cons.2 ⟨(fun v w1 w2 hb h => h), List.forall_mem_cons.2 ⟨(fun v w1 w2 hb h => h), List.forall_mem_cons.2 ⟨(fun v w1 w2 hb h => h), List.forall_mem_cons.2 ⟨(fun v w1 w2 hb h => h), List.forall_mem_cons.2 ⟨(fun v w1 w2 hb h => h), List.forall_mem_cons.2 ⟨(fun v w1 w2 hb h => h), List.forall_mem_cons.2 ⟨(fun v w1 w2 hb h => h), List.forall_mem_cons.2 ⟨(fun v w1 w2 hb h => h), List.forall_mem_cons.2 ⟨(fun v w1 w2 hb h => h), List.forall_mem_cons.2 ⟨(fun v w1 w2 hb h => h), fun _ h => nomatch h⟩⟩⟩⟩⟩⟩⟩⟩⟩⟩⟩⟩⟩⟩⟩⟩⟩⟩⟩⟩⟩⟩⟩⟩⟩⟩⟩⟩⟩⟩⟩⟩⟩⟩⟩⟩⟩⟩⟩⟩⟩⟩⟩⟩⟩⟩⟩⟩⟩⟩⟩⟩⟩
          case step =>
            intro i_ o_ e_ ho he a w1_ hs hdf hfr hbl hbs hpre
            match i_, ho, he with
            | 0, ho, he => obtain rfl : o_ = ⟨_, _, _, _, _, _⟩ := (Option.some.inj ho).symm; obtain rfl := Option.some.inj he; clear he; have f10 : a.tmps.getD 10 undef = .pointer (some ⟨wr.heap.size, 0, none⟩) := (by rw [Array.getD_eq_getD_getElem?, hfr 10 (show ¬ 10 ∈ ([47, 48, 49, 50, 51, 52, 53, 54, 55, 56, 57, 58, 59, 60, 61, 62, 63, 64, 65, 66, 67, 68, 69, 70, 71, 72, 73, 74, 75, 76, 77, 78, 79, 80, 81, 82, 83, 84, 85, 86, 87, 88, 89, 90, 91, 92, 93, 94, 95, 96, 97, 98, 99] : List Nat) by decide)]; rfl); clear hpre hfr; refine wpOp_value (v := .pointer (some ⟨wr.heap.size, 0, none⟩)) ho rfl ?_ ⟨_, rfl, rfl, Below.refl _ _⟩; simp only [execOp, Act.eval, List.map_toArray, List.map_cons, List.map_nil, f10]; first | rfl | (go_simp; done) | (go_simp; rfl) | (go_simp; intro h_; exfalso; omega)
            | 1, ho, he => obtain rfl : o_ = ⟨_, _, _, _, _, _⟩ := (Option.some.inj ho).symm; obtain rfl := Option.some.inj he; clear he; have e47 : a.tmps.getD 47 undef = .pointer (some ⟨wr.heap.size, 0, none⟩) := hpre ⟨0, .data⟩ (by simp) rfl _ rfl; clear hpre hfr; have k_x0 := (hbl.cell (World.block_lt_of_cell? _ _ x0)).trans x0; refine wpOp_value (v := .int .i64 x.f0) ho rfl ?_ ⟨_, rfl, rfl, Below.refl _ _⟩; simp only [execOp, Act.eval, List.map_toArray, List.map_cons, List.map_nil, e47]; first | rfl | (go_simp; done) | (go_simp; rfl) | (go_simp; intro h_; exfalso; omega)
            | 2, ho, he => obtain rfl : o_ = ⟨_, _, _, _, _, _⟩ := (Option.some.inj ho).symm; obtain rfl := Option.some.inj he; clear he; have e48 : a.tmps.getD 48 undef = .int .i64 x.f0 := hpre ⟨1, .data⟩ (by simp) rfl _ rfl; clear hpre hfr; refine wpOp_value (v := .bool (b1)) ho rfl ?_ ⟨_, rfl, rfl, Below.refl _ _⟩; simp only [execOp, Act.eval, List.map_toArray, List.map_cons, List.map_nil, e48]; first | rfl | (go_simp; done) | (go_simp; rfl) | (go_simp; intro h_; exfalso; omega)
            | 3, ho, he => obtain rfl : o_ = ⟨_, _, _, _, _, _⟩ := (Option.some.inj ho).symm; obtain rfl := Option.some.inj he; clear he; have e49 : a.tmps.getD 49 undef = .bool (b1) := hpre ⟨2, .data⟩ (by simp) rfl _ rfl; clear hpre hfr; refine wpOp_value (v := .bool (b1)) ho rfl ?_ ⟨_, rfl, rfl, Below.refl _ _⟩; simp only [execOp, Act.eval, List.map_toArray, List.map_cons, List.map_nil, e49]; first | rfl | (go_simp; done) | (go_simp; rfl) | (go_simp; intro h_; exfalso; omega)
            | 4, ho, he =>
              obtain rfl : o_ = ⟨_, _, _, _, _, _⟩ := (Option.some.inj ho).symm
              obtain rfl := Option.some.inj he; clear he
              have e50 : a.tmps.getD 50 undef = .bool (b1) := hpre ⟨3, .guard⟩ (by simp) rfl _ rfl
              have f10 : a.tmps.getD 10 undef = .pointer (some ⟨wr.heap.size, 0, none⟩) := by rw [Array.getD_eq_getD_getElem?, hfr 10 (show ¬ 10 ∈ ([47, 48, 49, 50, 51, 52, 53, 54, 55, 56, 57, 58, 59, 60, 61, 62, 63, 64, 65, 66, 67, 68, 69, 70, 71, 72, 73, 74, 75, 76, 77, 78, 79, 80, 81, 82, 83, 84, 85, 86, 87, 88, 89, 90, 91, 92, 93, 94, 95, 96, 97, 98, 99] : List Nat) by decide)]; rfl
              clear hpre hfr
              by_cases hq_ : (b1) = false
              · refine wpOp_value_w (v := .pointer (some ⟨wr.heap.size, 0, none⟩)) ho (wanted_of (n := 3) (d := 50) rfl rfl (by rw [hs]; exact (show 50 < 100 by decide)) (e50.trans (congrArg _ hq_))) ?_ ⟨_, by rw [if_pos hq_], rfl, Below.refl _ _⟩
                simp only [execOp, Act.eval, List.map_toArray, List.map_cons, List.map_nil, e50, f10]
                first | rfl | (go_simp; done) | (go_simp; rfl) | (go_simp; intro h_; exfalso; omega)
              · exact wpOp_unwanted ho (unwanted_if (n := 3) (d := 50) rfl rfl e50 hq_) ⟨_, by rw [if_neg hq_], rfl, Below.refl _ _⟩
            | 5, ho, he =>
              obtain rfl : o_ = ⟨_, _, _, _, _, _⟩ := (Option.some.inj ho).symm
              obtain rfl := Option.some.inj he; clear he
              have e51 : a.tmps.getD 51 undef = if (b1) = false then .pointer (some ⟨wr.heap.size, 0, none⟩) else undef := hpre ⟨4, .data⟩ (by simp) rfl _ rfl
              have e50 : a.tmps.getD 50 undef = .bool (b1) := hpre ⟨3, .guard⟩ (by simp) rfl _ rfl
              clear hpre hfr
              have k_x0 := (hbl.cell (World.block_lt_of_cell? _ _ x0)).trans x0
              by_cases hq_ : (b1) = false
              · rw [if_pos hq_] at e51
                refine wpOp_value_w (v := .int .i64 x.f0) ho (wanted_of (n := 3) (d := 50) rfl rfl (by rw [hs]; exact (show 50 < 100 by decide)) (e50.trans (congrArg _ hq_))) ?_ ⟨_, by rw [if_pos hq_], rfl, Below.refl _ _⟩
                simp only [execOp, Act.eval, List.map_toArray, List.map_cons, List.map_nil, e51, e50]
                first | rfl | (go_simp; done) | (go_simp; rfl) | (go_simp; intro h_; exfalso; omega)
              · exact wpOp_unwanted ho (unwanted_if (n := 3) (d := 50) rfl rfl e50 hq_) ⟨_, by rw [if_neg hq_], rfl, Below.refl _ _⟩
            | 6, ho, he =>
              obtain rfl : o_ = ⟨_, _, _, _, _, _⟩ := (Option.some.inj ho).symm
              obtain rfl := Option.some.inj he; clear he
              have e50 : a.tmps.getD 50 undef = .bool (b1) := hpre ⟨3, .guard⟩ (by simp) rfl _ rfl
              have f2 : a.tmps.getD 2 undef = .int .i64 a2 := by rw [Array.getD_eq_getD_getElem?, hfr 2 (show ¬ 2 ∈ ([47, 48, 49, 50, 51, 52, 53, 54, 55, 56, 57, 58, 59, 60, 61, 62, 63, 64, 65, 66, 67, 68, 69, 70, 71, 72, 73, 74, 75, 76, 77, 78, 79, 80, 81, 82, 83, 84, 85, 86, 87, 88, 89, 90, 91, 92, 93, 94, 95, 96, 97, 98, 99] : List Nat) by decide)]; rfl
              clear hpre hfr
              by_cases hq_ : (b1) = false
              · refine wpOp_value_w (v := .int .i64 a2) ho (wanted_of (n := 3) (d := 50) rfl rfl (by rw [hs]; exact (show 50 < 100 by decide)) (e50.trans (congrArg _ hq_))) ?_ ⟨_, by rw [if_pos hq_], rfl, Below.refl _ _⟩
                simp only [execOp, Act.eval, List.map_toArray, List.map_cons, List.map_nil, e50, f2]
                first | rfl | (go_simp; done) | (go_simp; rfl) | (go_simp; intro h_; exfalso; omega)
              · exact wpOp_unwanted ho (unwanted_if (n := 3) (d := 50) rfl rfl e50 hq_) ⟨_, by rw [if_neg hq_], rfl, Below.refl _ _⟩
            | 7, ho, he =>
              obtain rfl : o_ = ⟨_, _, _, _, _, _⟩ := (Option.some.inj ho).symm
              obtain rfl := Option.some.inj he; clear he
              have e52 : a.tmps.getD 52 undef = if (b1) = false then .int .i64 x.f0 else undef := hpre ⟨5, .data⟩ (by simp) rfl _ rfl
              have e53 : a.tmps.getD 53 undef = if (b1) = false then .int .i64 a2 else undef := hpre ⟨6, .data⟩ (by simp) rfl _ rfl
              have e50 : a.tmps.getD 50 undef = .bool (b1) := hpre ⟨3, .guard⟩ (by simp) rfl _ rfl
              clear hpre hfr
              by_cases hq_ : (b1) = false
              · rw [if_pos hq_] at e52
                rw [if_pos hq_] at e53
                refine wpOp_value_w (v := .bool (b2)) ho (wanted_of (n := 3) (d := 50) rfl rfl (by rw [hs]; exact (show 50 < 100 by decide)) (e50.trans (congrArg _ hq_))) ?_ ⟨_, by rw [if_pos hq_], rfl, Below.refl _ _⟩
                simp only [execOp, Act.eval, List.map_toArray, List.map_cons, List.map_nil, e52, e53, e50]
                first | rfl | (go_simp; done) | (go_simp; rfl) | (go_simp; intro h_; exfalso; omega)
              · exact wpOp_unwanted ho (unwanted_if (n := 3) (d := 50) rfl rfl e50 hq_) ⟨_, by rw [if_neg hq_], rfl, Below.refl _ _⟩
            | 8, ho, he =>
              obtain rfl : o_ = ⟨_, _, _, _, _, _⟩ := (Option.some.inj ho).symm
              obtain rfl := Option.some.inj he; clear he
              have e50 : a.tmps.getD 50 undef = .bool (b1) := hpre ⟨3, .data⟩ (by simp) rfl _ rfl
              have e54 : a.tmps.getD 54 undef = if (b1) = false then .bool (b2) else undef := hpre ⟨7, .data⟩ (by simp) rfl _ rfl
              clear hpre hfr
              by_cases hq_ : (b1) = false
              · rw [if_pos hq_] at e54
                refine wpOp_value (v := .bool (b1 || b2)) ho rfl ?_ ⟨_, rfl, rfl, Below.refl _ _⟩
                simp only [execOp, Act.eval, List.map_toArray, List.map_cons, List.map_nil, hq_, e50, e54]
                first | rfl | (go_simp; done) | (go_simp; rfl) | (simp [hq_]; done)
              · rw [if_neg hq_] at e54
                replace hq_ : (b1) = true := Bool.of_not_eq_false hq_
                refine wpOp_value (v := .bool (b1 || b2)) ho rfl ?_ ⟨_, rfl, rfl, Below.refl _ _⟩
                simp only [execOp, Act.eval, List.map_toArray, List.map_cons, List.map_nil, hq_, e50, e54]
                first | rfl | (go_simp; done) | (go_simp; rfl) | (simp [hq_]; done)
            | 9, ho, he => obtain rfl : o_ = ⟨_, _, _, _, _, _⟩ := (Option.some.inj ho).symm; obtain rfl := Option.some.inj he; clear he; have e55 : a.tmps.getD 55 undef = .bool (b1 || b2) := hpre ⟨8, .data⟩ (by simp) rfl _ rfl; clear hpre hfr; refine wpOp_value (v := .bool (b1 || b2)) ho rfl ?_ ⟨_, rfl, rfl, Below.refl _ _⟩; simp only [execOp, Act.eval, List.map_toArray, List.map_cons, List.map_nil, e55]; first | rfl | (go_simp; done) | (go_simp; rfl) | (go_simp; intro h_; exfalso; omega)
            | 10, ho, he =>
              obtain rfl : o_ = ⟨_, _, _, _, _, _⟩ := (Option.some.inj ho).symm
              obtain rfl := Option.some.inj he; clear he
              have e56 : a.tmps.getD 56 undef = .bool (b1 || b2) := hpre ⟨9, .guard⟩ (by simp) rfl _ rfl
              have f9 : a.tmps.getD 9 undef = .int .i64 k := by rw [Array.getD_eq_getD_getElem?, hfr 9 (show ¬ 9 ∈ ([47, 48, 49, 50, 51, 52, 53, 54, 55, 56, 57, 58, 59, 60, 61, 62, 63, 64, 65, 66, 67, 68, 69, 70, 71, 72, 73, 74, 75, 76, 77, 78, 79, 80, 81, 82, 83, 84, 85, 86, 87, 88, 89, 90, 91, 92, 93, 94, 95, 96, 97, 98, 99] : List Nat) by decide)]; rfl
              clear hpre hfr
              by_cases hq_ : (b1 || b2) = false
              · refine wpOp_value_w (v := .int .i64 k) ho (wanted_of (n := 9) (d := 56) rfl rfl (by rw [hs]; exact (show 56 < 100 by decide)) (e56.trans (congrArg _ hq_))) ?_ ⟨_, by rw [if_pos hq_], rfl, Below.refl _ _⟩
                simp only [execOp, Act.eval, List.map_toArray, List.map_cons, List.map_nil, e56, f9]
                first | rfl | (go_simp; done) | (go_simp; rfl) | (go_simp; intro h_; exfalso; omega)
              · exact wpOp_unwanted ho (unwanted_if (n := 9) (d := 56) rfl rfl e56 hq_) ⟨_, by rw [if_neg hq_], rfl, Below.refl _ _⟩
            | 11, ho, he =>
              obtain rfl : o_ = ⟨_, _, _, _, _, _⟩ := (Option.some.inj ho).symm
              obtain rfl := Option.some.inj he; clear he
              have e57 : a.tmps.getD 57 undef = if (b1 || b2) = false then .int .i64 k else undef := hpre ⟨10, .data⟩ (by simp) rfl _ rfl
              have e56 : a.tmps.getD 56 undef = .bool (b1 || b2) := hpre ⟨9, .guard⟩ (by simp) rfl _ rfl
              clear hpre hfr
              by_cases hq_ : (b1 || b2) = false
              · rw [if_pos hq_] at e57
                refine wpOp_value_w (v := .bool true) ho (wanted_of (n := 9) (d := 56) rfl rfl (by rw [hs]; exact (show 56 < 100 by decide)) (e56.trans (congrArg _ hq_))) ?_ ⟨_, by rw [if_pos hq_], rfl, Below.refl _ _⟩
                simp only [execOp, Act.eval, List.map_toArray, List.map_cons, List.map_nil, e57, e56]
                first | rfl | (go_simp; done) | (go_simp; rfl) | (go_simp; intro h_; exfalso; omega)
              · exact wpOp_unwanted ho (unwanted_if (n := 9) (d := 56) rfl rfl e56 hq_) ⟨_, by rw [if_neg hq_], rfl, Below.refl _ _⟩
            | 12, ho, he =>
              obtain rfl : o_ = ⟨_, _, _, _, _, _⟩ := (Option.some.inj ho).symm
              obtain rfl := Option.some.inj he; clear he
              have e58 : a.tmps.getD 58 undef = if (b1 || b2) = false then .bool true else undef := hpre ⟨11, .data⟩ (by simp) rfl _ rfl
              have e56 : a.tmps.getD 56 undef = .bool (b1 || b2) := hpre ⟨9, .guard⟩ (by simp) rfl _ rfl
              clear hpre hfr
              by_cases hq_ : (b1 || b2) = false
              · rw [if_pos hq_] at e58
                refine wpOp_value_w (v := .bool true) ho (wanted_of (n := 9) (d := 56) rfl rfl (by rw [hs]; exact (show 56 < 100 by decide)) (e56.trans (congrArg _ hq_))) ?_ ⟨_, by rw [if_pos hq_], rfl, Below.refl _ _⟩
                simp only [execOp, Act.eval, List.map_toArray, List.map_cons, List.map_nil, e58, e56]
                first | rfl | (go_simp; done) | (go_simp; rfl) | (go_simp; intro h_; exfalso; omega)
              · exact wpOp_unwanted ho (unwanted_if (n := 9) (d := 56) rfl rfl e56 hq_) ⟨_, by rw [if_neg hq_], rfl, Below.refl _ _⟩
            | 13, ho, he =>
              obtain rfl : o_ = ⟨_, _, _, _, _, _⟩ := (Option.some.inj ho).symm
              obtain rfl := Option.some.inj he; clear he
              have e59 : a.tmps.getD 59 undef = if (b1 || b2) = false then .bool true else undef := hpre ⟨12, .guard⟩ (by simp) rfl _ rfl
              have f10 : a.tmps.getD 10 undef = .pointer (some ⟨wr.heap.size, 0, none⟩) := by rw [Array.getD_eq_getD_getElem?, hfr 10 (show ¬ 10 ∈ ([47, 48, 49, 50, 51, 52, 53, 54, 55, 56, 57, 58, 59, 60, 61, 62, 63, 64, 65, 66, 67, 68, 69, 70, 71, 72, 73, 74, 75, 76, 77, 78, 79, 80, 81, 82, 83, 84, 85, 86, 87, 88, 89, 90, 91, 92, 93, 94, 95, 96, 97, 98, 99] : List Nat) by decide)]; rfl
              clear hpre hfr
              by_cases hq_ : (b1 || b2) = false
              · rw [if_pos hq_] at e59
                refine wpOp_value_w (v := .pointer (some ⟨wr.heap.size, 0, none⟩)) ho (wanted_of (n := 12) (d := 59) rfl rfl (by rw [hs]; exact (show 59 < 100 by decide)) e59) ?_ ⟨_, by rw [if_pos hq_], rfl, Below.refl _ _⟩
                simp only [execOp, Act.eval, List.map_toArray, List.map_cons, List.map_nil, e59, f10]
                first | rfl | (go_simp; done) | (go_simp; rfl) | (go_simp; intro h_; exfalso; omega)
              · rw [if_neg hq_] at e59; exact wpOp_unwanted ho (unwanted_of (n := 12) (d := 59) rfl rfl e59 (by simp [undef])) ⟨_, by rw [if_neg hq_], rfl, Below.refl _ _⟩
            | 14, ho, he =>
              obtain rfl : o_ = ⟨_, _, _, _, _, _⟩ := (Option.some.inj ho).symm
              obtain rfl := Option.some.inj he; clear he
              have e60 : a.tmps.getD 60 undef = if (b1 || b2) = false then .pointer (some ⟨wr.heap.size, 0, none⟩) else undef := hpre ⟨13, .data⟩ (by simp) rfl _ rfl
              have e59 : a.tmps.getD 59 undef = if (b1 || b2) = false then .bool true else undef := hpre ⟨12, .guard⟩ (by simp) rfl _ rfl
              clear hpre hfr
              have k_x0 := (hbl.cell (World.block_lt_of_cell? _ _ x0)).trans x0
              by_cases hq_ : (b1 || b2) = false
              · rw [if_pos hq_] at e60
                rw [if_pos hq_] at e59
                refine wpOp_value_w (v := .int .i64 x.f0) ho (wanted_of (n := 12) (d := 59) rfl rfl (by rw [hs]; exact (show 59 < 100 by decide)) e59) ?_ ⟨_, by rw [if_pos hq_], rfl, Below.refl _ _⟩
                simp only [execOp, Act.eval, List.map_toArray, List.map_cons, List.map_nil, e60, e59]
                first | rfl | (go_simp; done) | (go_simp; rfl) | (go_simp; intro h_; exfalso; omega)
              · rw [if_neg hq_] at e59; exact wpOp_unwanted ho (unwanted_of (n := 12) (d := 59) rfl rfl e59 (by simp [undef])) ⟨_, by rw [if_neg hq_], rfl, Below.refl _ _⟩
            | 15, ho, he =>
              obtain rfl : o_ = ⟨_, _, _, _, _, _⟩ := (Option.some.inj ho).symm
              obtain rfl := Option.some.inj he; clear he
              have e59 : a.tmps.getD 59 undef = if (b1 || b2) = false then .bool true else undef := hpre ⟨12, .guard⟩ (by simp) rfl _ rfl
              have f0 : a.tmps.getD 0 undef = .slice (some ad) l0.length c0 := by rw [Array.getD_eq_getD_getElem?, hfr 0 (show ¬ 0 ∈ ([47, 48, 49, 50, 51, 52, 53, 54, 55, 56, 57, 58, 59, 60, 61, 62, 63, 64, 65, 66, 67, 68, 69, 70, 71, 72, 73, 74, 75, 76, 77, 78, 79, 80, 81, 82, 83, 84, 85, 86, 87, 88, 89, 90, 91, 92, 93, 94, 95, 96, 97, 98, 99] : List Nat) by decide)]; rfl
              clear hpre hfr
              by_cases hq_ : (b1 || b2) = false
              · rw [if_pos hq_] at e59
                refine wpOp_value_w (v := .slice (some ad) l0.length c0) ho (wanted_of (n := 12) (d := 59) rfl rfl (by rw [hs]; exact (show 59 < 100 by decide)) e59) ?_ ⟨_, by rw [if_pos hq_], rfl, Below.refl _ _⟩
                simp only [execOp, Act.eval, List.map_toArray, List.map_cons, List.map_nil, e59, f0]
                first | rfl | (go_simp; done) | (go_simp; rfl) | (go_simp; intro h_; exfalso; omega)
              · rw [if_neg hq_] at e59; exact wpOp_unwanted ho (unwanted_of (n := 12) (d := 59) rfl rfl e59 (by simp [undef])) ⟨_, by rw [if_neg hq_], rfl, Below.refl _ _⟩
            | 16, ho, he =>
              obtain rfl : o_ = ⟨_, _, _, _, _, _⟩ := (Option.some.inj ho).symm
              obtain rfl := Option.some.inj he; clear he
              have e59 : a.tmps.getD 59 undef = if (b1 || b2) = false then .bool true else undef := hpre ⟨12, .guard⟩ (by simp) rfl _ rfl
              have f9 : a.tmps.getD 9 undef = .int .i64 k := by rw [Array.getD_eq_getD_getElem?, hfr 9 (show ¬ 9 ∈ ([47, 48, 49, 50, 51, 52, 53, 54, 55, 56, 57, 58, 59, 60, 61, 62, 63, 64, 65, 66, 67, 68, 69, 70, 71, 72, 73, 74, 75, 76, 77, 78, 79, 80, 81, 82, 83, 84, 85, 86, 87, 88, 89, 90, 91, 92, 93, 94, 95, 96, 97, 98, 99] : List Nat) by decide)]; rfl
              clear hpre hfr
              by_cases hq_ : (b1 || b2) = false
              · rw [if_pos hq_] at e59
                refine wpOp_value_w (v := .int .i64 k) ho (wanted_of (n := 12) (d := 59) rfl rfl (by rw [hs]; exact (show 59 < 100 by decide)) e59) ?_ ⟨_, by rw [if_pos hq_], rfl, Below.refl _ _⟩
                simp only [execOp, Act.eval, List.map_toArray, List.map_cons, List.map_nil, e59, f9]
                first | rfl | (go_simp; done) | (go_simp; rfl) | (go_simp; intro h_; exfalso; omega)
              · rw [if_neg hq_] at e59; exact wpOp_unwanted ho (unwanted_of (n := 12) (d := 59) rfl rfl e59 (by simp [undef])) ⟨_, by rw [if_neg hq_], rfl, Below.refl _ _⟩
            | 17, ho, he =>
              obtain rfl : o_ = ⟨_, _, _, _, _, _⟩ := (Option.some.inj ho).symm
              obtain rfl := Option.some.inj he; clear he
              have e63 : a.tmps.getD 63 undef = if (b1 || b2) = false then .int .i64 k else undef := hpre ⟨16, .data⟩ (by simp) rfl _ rfl
              have e59 : a.tmps.getD 59 undef = if (b1 || b2) = false then .bool true else undef := hpre ⟨12, .guard⟩ (by simp) rfl _ rfl
              clear hpre hfr
              by_cases hq_ : (b1 || b2) = false
              · rw [if_pos hq_] at e63
                rw [if_pos hq_] at e59
                refine wpOp_value_w (v := .int .i64 ((k : Int) - 1)) ho (wanted_of (n := 12) (d := 59) rfl rfl (by rw [hs]; exact (show 59 < 100 by decide)) e59) ?_ ⟨_, by rw [if_pos hq_], rfl, Below.refl _ _⟩
                simp only [execOp, Act.eval, List.map_toArray, List.map_cons, List.map_nil, e63, e59]
                first | rfl | (go_simp; done) | (go_simp; rfl) | (go_simp; intro h_; exfalso; omega)
              · rw [if_neg hq_] at e59; exact wpOp_unwanted ho (unwanted_of (n := 12) (d := 59) rfl rfl e59 (by simp [undef])) ⟨_, by rw [if_neg hq_], rfl, Below.refl _ _⟩
            | 18, ho, he =>
              obtain rfl : o_ = ⟨_, _, _, _, _, _⟩ := (Option.some.inj ho).symm
              obtain rfl := Option.some.inj he; clear he
              have e62 : a.tmps.getD 62 undef = if (b1 || b2) = false then .slice (some ad) l0.length c0 else undef := hpre ⟨15, .data⟩ (by simp) rfl _ rfl
              have e64 : a.tmps.getD 64 undef = if (b1 || b2) = false then .int .i64 ((k : Int) - 1) else undef := hpre ⟨17, .data⟩ (by simp) rfl _ rfl
              have e59 : a.tmps.getD 59 undef = if (b1 || b2) = false then .bool true else undef := hpre ⟨12, .guard⟩ (by simp) rfl _ rfl
              clear hpre hfr
              by_cases hq_ : (b1 || b2) = false
              · rw [if_pos hq_] at e62
                rw [if_pos hq_] at e64
                rw [if_pos hq_] at e59
                refine wpOp_value_w (v := .pointer (some (ad.add ((k - 1) * 5)))) ho (wanted_of (n := 12) (d := 59) rfl rfl (by rw [hs]; exact (show 59 < 100 by decide)) e59) ?_ ⟨_, by rw [if_pos hq_], rfl, Below.refl _ _⟩
                simp only [execOp, Act.eval, List.map_toArray, List.map_cons, List.map_nil, e62, e64, e59]
                first | rfl | (go_simp; done) | (go_simp; rfl) | (go_simp; intro h_; exfalso; omega)
              · rw [if_neg hq_] at e59; exact wpOp_unwanted ho (unwanted_of (n := 12) (d := 59) rfl rfl e59 (by simp [undef])) ⟨_, by rw [if_neg hq_], rfl, Below.refl _ _⟩
            | 19, ho, he =>
              obtain rfl : o_ = ⟨_, _, _, _, _, _⟩ := (Option.some.inj ho).symm
              obtain rfl := Option.some.inj he; clear he
              have e65 : a.tmps.getD 65 undef = if (b1 || b2) = false then .pointer (some (ad.add ((k - 1) * 5))) else undef := hpre ⟨18, .data⟩ (by simp) rfl _ rfl
              have e59 : a.tmps.getD 59 undef = if (b1 || b2) = false then .bool true else undef := hpre ⟨12, .guard⟩ (by simp) rfl _ rfl
              clear hpre hfr
              by_cases hq_ : (b1 || b2) = false
              · rw [if_pos hq_] at e65
                rw [if_pos hq_] at e59
                refine wpOp_value_w (v := .pointer (some (ad.add ((k - 1) * 5)))) ho (wanted_of (n := 12) (d := 59) rfl rfl (by rw [hs]; exact (show 59 < 100 by decide)) e59) ?_ ⟨_, by rw [if_pos hq_], rfl, Below.refl _ _⟩
                simp only [execOp, Act.eval, List.map_toArray, List.map_cons, List.map_nil, e65, e59]
                first | rfl | (go_simp; done) | (go_simp; rfl) | (go_simp; intro h_; exfalso; omega)
              · rw [if_neg hq_] at e59; exact wpOp_unwanted ho (unwanted_of (n := 12) (d := 59) rfl rfl e59 (by simp [undef])) ⟨_, by rw [if_neg hq_], rfl, Below.refl _ _⟩
            | 20, ho, he =>
              obtain rfl : o_ = ⟨_, _, _, _, _, _⟩ := (Option.some.inj ho).symm
              obtain rfl := Option.some.inj he; clear he
              have e66 : a.tmps.getD 66 undef = if (b1 || b2) = false then .pointer (some (ad.add ((k - 1) * 5))) else undef := hpre ⟨19, .data⟩ (by simp) rfl _ rfl
              have e59 : a.tmps.getD 59 undef = if (b1 || b2) = false then .bool true else undef := hpre ⟨12, .guard⟩ (by simp) rfl _ rfl
              clear hpre hfr
              have k_py := (hbl.cell (World.block_lt_of_cell? _ _ py)).trans py
              by_cases hq_ : (b1 || b2) = false
              · rw [if_pos hq_] at e66
                rw [if_pos hq_] at e59
                refine wpOp_value_w (v := .int .i64 y) ho (wanted_of (n := 12) (d := 59) rfl rfl (by rw [hs]; exact (show 59 < 100 by decide)) e59) ?_ ⟨_, by rw [if_pos hq_], rfl, Below.refl _ _⟩
                simp only [execOp, Act.eval, List.map_toArray, List.map_cons, List.map_nil, e66, e59]
                first | rfl | (go_simp; done) | (go_simp; rfl) | (go_simp; intro h_; exfalso; omega)
              · rw [if_neg hq_] at e59; exact wpOp_unwanted ho (unwanted_of (n := 12) (d := 59) rfl rfl e59 (by simp [undef])) ⟨_, by rw [if_neg hq_], rfl, Below.refl _ _⟩
            | 21, ho, he =>
              obtain rfl : o_ = ⟨_, _, _, _, _, _⟩ := (Option.some.inj ho).symm
              obtain rfl := Option.some.inj he; clear he
              have e61 : a.tmps.getD 61 undef = if (b1 || b2) = false then .int .i64 x.f0 else undef := hpre ⟨14, .data⟩ (by simp) rfl _ rfl
              have e67 : a.tmps.getD 67 undef = if (b1 || b2) = false then .int .i64 y else undef := hpre ⟨20, .data⟩ (by simp) rfl _ rfl
              have e59 : a.tmps.getD 59 undef = if (b1 || b2) = false then .bool true else undef := hpre ⟨12, .guard⟩ (by simp) rfl _ rfl
              clear hpre hfr
              by_cases hq_ : (b1 || b2) = false
              · rw [if_pos hq_] at e61
                rw [if_pos hq_] at e67
                rw [if_pos hq_] at e59
                refine wpOp_value_w (v := .bool (b3)) ho (wanted_of (n := 12) (d := 59) rfl rfl (by rw [hs]; exact (show 59 < 100 by decide)) e59) ?_ ⟨_, by rw [if_pos hq_], rfl, Below.refl _ _⟩
                simp only [execOp, Act.eval, List.map_toArray, List.map_cons, List.map_nil, e61, e67, e59]
                first | rfl | (go_simp; done) | (go_simp; rfl) | (go_simp; intro h_; exfalso; omega)
              · rw [if_neg hq_] at e59; exact wpOp_unwanted ho (unwanted_of (n := 12) (d := 59) rfl rfl e59 (by simp [undef])) ⟨_, by rw [if_neg hq_], rfl, Below.refl _ _⟩
            | 22, ho, he =>
              obtain rfl : o_ = ⟨_, _, _, _, _, _⟩ := (Option.some.inj ho).symm
              obtain rfl := Option.some.inj he; clear he
              have e59 : a.tmps.getD 59 undef = if (b1 || b2) = false then .bool true else undef := hpre ⟨12, .data⟩ (by simp) rfl _ rfl
              have e68 : a.tmps.getD 68 undef = if (b1 || b2) = false then .bool (b3) else undef := hpre ⟨21, .data⟩ (by simp) rfl _ rfl
              have e56 : a.tmps.getD 56 undef = .bool (b1 || b2) := hpre ⟨9, .guard⟩ (by simp) rfl _ rfl
              clear hpre hfr
              by_cases hq_ : (b1 || b2) = false
              · rw [if_pos hq_] at e59
                rw [if_pos hq_] at e68
                refine wpOp_value_w (v := .bool (b3)) ho (wanted_of (n := 9) (d := 56) rfl rfl (by rw [hs]; exact (show 56 < 100 by decide)) (e56.trans (congrArg _ hq_))) ?_ ⟨_, by rw [if_pos hq_], rfl, Below.refl _ _⟩
                simp only [execOp, Act.eval, List.map_toArray, List.map_cons, List.map_nil, e59, e68, e56]
                first | rfl | (go_simp; done) | (go_simp; rfl) | (go_simp; intro h_; exfalso; omega)
              · exact wpOp_unwanted ho (unwanted_if (n := 9) (d := 56) rfl rfl e56 hq_) ⟨_, by rw [if_neg hq_], rfl, Below.refl _ _⟩
            | 23, ho, he =>
              obtain rfl : o_ = ⟨_, _, _, _, _, _⟩ := (Option.some.inj ho).symm
              obtain rfl := Option.some.inj he; clear he
              have e56 : a.tmps.getD 56 undef = .bool (b1 || b2) := hpre ⟨9, .data⟩ (by simp) rfl _ rfl
              have e69 : a.tmps.getD 69 undef = if (b1 || b2) = false then .bool (b3) else undef := hpre ⟨22, .data⟩ (by simp) rfl _ rfl
              clear hpre hfr
              by_cases hq_ : (b1 || b2) = false
              · rw [if_pos hq_] at e69
                refine wpOp_value (v := .bool (b1 || b2 || b3)) ho rfl ?_ ⟨_, rfl, rfl, Below.refl _ _⟩
                simp only [execOp, Act.eval, List.map_toArray, List.map_cons, List.map_nil, hq_, e56, e69]
                first | rfl | (go_simp; done) | (go_simp; rfl) | (simp [hq_]; done)
              · rw [if_neg hq_] at e69
                replace hq_ : (b1 || b2) = true := Bool.of_not_eq_false hq_
                refine wpOp_value (v := .bool (b1 || b2 || b3)) ho rfl ?_ ⟨_, rfl, rfl, Below.refl _ _⟩
                simp only [execOp, Act.eval, List.map_toArray, List.map_cons, List.map_nil, hq_, e56, e69]
                first | rfl | (go_simp; done) | (go_simp; rfl) | (simp [hq_]; done)
            | 24, ho, he => obtain rfl : o_ = ⟨_, _, _, _, _, _⟩ := (Option.some.inj ho).symm; obtain rfl := Option.some.inj he; clear he; have e70 : a.tmps.getD 70 undef = .bool (b1 || b2 || b3) := hpre ⟨23, .data⟩ (by simp) rfl _ rfl; clear hpre hfr; refine wpOp_value (v := .bool (b1 || b2 || b3)) ho rfl ?_ ⟨_, rfl, rfl, Below.refl _ _⟩; simp only [execOp, Act.eval, List.map_toArray, List.map_cons, List.map_nil, e70]; first | rfl | (go_simp; done) | (go_simp; rfl) | (go_simp; intro h_; exfalso; omega)
            | 25, ho, he =>
              obtain rfl : o_ = ⟨_, _, _, _, _, _⟩ := (Option.some.inj ho).symm
              obtain rfl := Option.some.inj he; clear he
              have e71 : a.tmps.getD 71 undef = .bool (b1 || b2 || b3) := hpre ⟨24, .guard⟩ (by simp) rfl _ rfl
              have f10 : a.tmps.getD 10 undef = .pointer (some ⟨wr.heap.size, 0, none⟩) := by rw [Array.getD_eq_getD_getElem?, hfr 10 (show ¬ 10 ∈ ([47, 48, 49, 50, 51, 52, 53, 54, 55, 56, 57, 58, 59, 60, 61, 62, 63, 64, 65, 66, 67, 68, 69, 70, 71, 72, 73, 74, 75, 76, 77, 78, 79, 80, 81, 82, 83, 84, 85, 86, 87, 88, 89, 90, 91, 92, 93, 94, 95, 96, 97, 98, 99] : List Nat) by decide)]; rfl
              clear hpre hfr
              by_cases hq_ : (b1 || b2 || b3) = false
              · refine wpOp_value_w (v := .pointer (some ⟨wr.heap.size, 1, none⟩)) ho (wanted_of (n := 24) (d := 71) rfl rfl (by rw [hs]; exact (show 71 < 100 by decide)) (e71.trans (congrArg _ hq_))) ?_ ⟨_, by rw [if_pos hq_], rfl, Below.refl _ _⟩
                simp only [execOp, Act.eval, List.map_toArray, List.map_cons, List.map_nil, e71, f10]
                first | rfl | (go_simp; done) | (go_simp; rfl) | (go_simp; intro h_; exfalso; omega)
              · exact wpOp_unwanted ho (unwanted_if (n := 24) (d := 71) rfl rfl e71 hq_) ⟨_, by rw [if_neg hq_], rfl, Below.refl _ _⟩
            | 26, ho, he =>
              obtain rfl : o_ = ⟨_, _, _, _, _, _⟩ := (Option.some.inj ho).symm
              obtain rfl := Option.some.inj he; clear he
              have e72 : a.tmps.getD 72 undef = if (b1 || b2 || b3) = false then .pointer (some ⟨wr.heap.size, 1, none⟩) else undef := hpre ⟨25, .data⟩ (by simp) rfl _ rfl
              have e71 : a.tmps.getD 71 undef = .bool (b1 || b2 || b3) := hpre ⟨24, .guard⟩ (by simp) rfl _ rfl
              clear hpre hfr
              have k_x1 := (hbl.cell (World.block_lt_of_cell? _ _ x1)).trans x1
              by_cases hq_ : (b1 || b2 || b3) = false
              · rw [if_pos hq_] at e72
                refine wpOp_value_w (v := .int .i64 x.f1) ho (wanted_of (n := 24) (d := 71) rfl rfl (by rw [hs]; exact (show 71 < 100 by decide)) (e71.trans (congrArg _ hq_))) ?_ ⟨_, by rw [if_pos hq_], rfl, Below.refl _ _⟩
                simp only [execOp, Act.eval, List.map_toArray, List.map_cons, List.map_nil, e72, e71]
                first | rfl | (go_simp; done) | (go_simp; rfl) | (go_simp; intro h_; exfalso; omega)
              · exact wpOp_unwanted ho (unwanted_if (n := 24) (d := 71) rfl rfl e71 hq_) ⟨_, by rw [if_neg hq_], rfl, Below.refl _ _⟩
            | 27, ho, he =>
              obtain rfl : o_ = ⟨_, _, _, _, _, _⟩ := (Option.some.inj ho).symm
              obtain rfl := Option.some.inj he; clear he
              have e73 : a.tmps.getD 73 undef = if (b1 || b2 || b3) = false then .int .i64 x.f1 else undef := hpre ⟨26, .data⟩ (by simp) rfl _ rfl
              have e71 : a.tmps.getD 71 undef = .bool (b1 || b2 || b3) := hpre ⟨24, .guard⟩ (by simp) rfl _ rfl
              clear hpre hfr
              by_cases hq_ : (b1 || b2 || b3) = false
              · rw [if_pos hq_] at e73
                refine wpOp_value_w (v := .bool (b4)) ho (wanted_of (n := 24) (d := 71) rfl rfl (by rw [hs]; exact (show 71 < 100 by decide)) (e71.trans (congrArg _ hq_))) ?_ ⟨_, by rw [if_pos hq_], rfl, Below.refl _ _⟩
                simp only [execOp, Act.eval, List.map_toArray, List.map_cons, List.map_nil, e73, e71]
                first | rfl | (go_simp; done) | (go_simp; rfl) | (go_simp; intro h_; exfalso; omega)
              · exact wpOp_unwanted ho (unwanted_if (n := 24) (d := 71) rfl rfl e71 hq_) ⟨_, by rw [if_neg hq_], rfl, Below.refl _ _⟩
            | 28, ho, he =>
              obtain rfl : o_ = ⟨_, _, _, _, _, _⟩ := (Option.some.inj ho).symm
              obtain rfl := Option.some.inj he; clear he
              have e71 : a.tmps.getD 71 undef = .bool (b1 || b2 || b3) := hpre ⟨24, .data⟩ (by simp) rfl _ rfl
              have e74 : a.tmps.getD 74 undef = if (b1 || b2 || b3) = false then .bool (b4) else undef := hpre ⟨27, .data⟩ (by simp) rfl _ rfl
              clear hpre hfr
              by_cases hq_ : (b1 || b2 || b3) = false
              · rw [if_pos hq_] at e74
                refine wpOp_value (v := .bool (b1 || b2 || b3 || b4)) ho rfl ?_ ⟨_, rfl, rfl, Below.refl _ _⟩
                simp only [execOp, Act.eval, List.map_toArray, List.map_cons, List.map_nil, hq_, e71, e74]
                first | rfl | (go_simp; done) | (go_simp; rfl) | (simp [hq_]; done)
              · rw [if_neg hq_] at e74
                replace hq_ : (b1 || b2 || b3) = true := Bool.of_not_eq_false hq_
                refine wpOp_value (v := .bool (b1 || b2 || b3 || b4)) ho rfl ?_ ⟨_, rfl, rfl, Below.refl _ _⟩
                simp only [execOp, Act.eval, List.map_toArray, List.map_cons, List.map_nil, hq_, e71, e74]
                first | rfl | (go_simp; done) | (go_simp; rfl) | (simp [hq_]; done)
            | 29, ho, he => obtain rfl : o_ = ⟨_, _, _, _, _, _⟩ := (Option.some.inj ho).symm; obtain rfl := Option.some.inj he; clear he; have e75 : a.tmps.getD 75 undef = .bool (b1 || b2 || b3 || b4) := hpre ⟨28, .data⟩ (by simp) rfl _ rfl; clear hpre hfr; refine wpOp_value (v := .bool (b1 || b2 || b3 || b4)) ho rfl ?_ ⟨_, rfl, rfl, Below.refl _ _⟩; simp only [execOp, Act.eval, List.map_toArray, List.map_cons, List.map_nil, e75]; first | rfl | (go_simp; done) | (go_simp; rfl) | (go_simp; intro h_; exfalso; omega)
            | 30, ho, he =>
              obtain rfl : o_ = ⟨_, _, _, _, _, _⟩ := (Option.some.inj ho).symm
              obtain rfl := Option.some.inj he; clear he
              have e76 : a.tmps.getD 76 undef = .bool (b1 || b2 || b3 || b4) := hpre ⟨29, .guard⟩ (by simp) rfl _ rfl
              have f10 : a.tmps.getD 10 undef = .pointer (some ⟨wr.heap.size, 0, none⟩) := by rw [Array.getD_eq_getD_getElem?, hfr 10 (show ¬ 10 ∈ ([47, 48, 49, 50, 51, 52, 53, 54, 55, 56, 57, 58, 59, 60, 61, 62, 63, 64, 65, 66, 67, 68, 69, 70, 71, 72, 73, 74, 75, 76, 77, 78, 79, 80, 81, 82, 83, 84, 85, 86, 87, 88, 89, 90, 91, 92, 93, 94, 95, 96, 97, 98, 99] : List Nat) by decide)]; rfl
              clear hpre hfr
              by_cases hq_ : (b1 || b2 || b3 || b4) = false
              · refine wpOp_value_w (v := .pointer (some ⟨wr.heap.size, 1, none⟩)) ho (wanted_of (n := 29) (d := 76) rfl rfl (by rw [hs]; exact (show 76 < 100 by decide)) (e76.trans (congrArg _ hq_))) ?_ ⟨_, by rw [if_pos hq_], rfl, Below.refl _ _⟩
                simp only [execOp, Act.eval, List.map_toArray, List.map_cons, List.map_nil, e76, f10]
                first | rfl | (go_simp; done) | (go_simp; rfl) | (go_simp; intro h_; exfalso; omega)
              · exact wpOp_unwanted ho (unwanted_if (n := 29) (d := 76) rfl rfl e76 hq_) ⟨_, by rw [if_neg hq_], rfl, Below.refl _ _⟩
            | 31, ho, he =>
              obtain rfl : o_ = ⟨_, _, _, _, _, _⟩ := (Option.some.inj ho).symm
              obtain rfl := Option.some.inj he; clear he
              have e77 : a.tmps.getD 77 undef = if (b1 || b2 || b3 || b4) = false then .pointer (some ⟨wr.heap.size, 1, none⟩) else undef := hpre ⟨30, .data⟩ (by simp) rfl _ rfl
              have e76 : a.tmps.getD 76 undef = .bool (b1 || b2 || b3 || b4) := hpre ⟨29, .guard⟩ (by simp) rfl _ rfl
              clear hpre hfr
              have k_x1 := (hbl.cell (World.block_lt_of_cell? _ _ x1)).trans x1
              by_cases hq_ : (b1 || b2 || b3 || b4) = false
              · rw [if_pos hq_] at e77
                refine wpOp_value_w (v := .int .i64 x.f1) ho (wanted_of (n := 29) (d := 76) rfl rfl (by rw [hs]; exact (show 76 < 100 by decide)) (e76.trans (congrArg _ hq_))) ?_ ⟨_, by rw [if_pos hq_], rfl, Below.refl _ _⟩
                simp only [execOp, Act.eval, List.map_toArray, List.map_cons, List.map_nil, e77, e76]
                first | rfl | (go_simp; done) | (go_simp; rfl) | (go_simp; intro h_; exfalso; omega)
              · exact wpOp_unwanted ho (unwanted_if (n := 29) (d := 76) rfl rfl e76 hq_) ⟨_, by rw [if_neg hq_], rfl, Below.refl _ _⟩
            | 32, ho, he =>
              obtain rfl : o_ = ⟨_, _, _, _, _, _⟩ := (Option.some.inj ho).symm
              obtain rfl := Option.some.inj he; clear he
              have e78 : a.tmps.getD 78 undef = if (b1 || b2 || b3 || b4) = false then .int .i64 x.f1 else undef := hpre ⟨31, .data⟩ (by simp) rfl _ rfl
              have e76 : a.tmps.getD 76 undef = .bool (b1 || b2 || b3 || b4) := hpre ⟨29, .guard⟩ (by simp) rfl _ rfl
              clear hpre hfr
              by_cases hq_ : (b1 || b2 || b3 || b4) = false
              · rw [if_pos hq_] at e78
                refine wpOp_value_w (v := .bool (b5)) ho (wanted_of (n := 29) (d := 76) rfl rfl (by rw [hs]; exact (show 76 < 100 by decide)) (e76.trans (congrArg _ hq_))) ?_ ⟨_, by rw [if_pos hq_], rfl, Below.refl _ _⟩
                simp only [execOp, Act.eval, List.map_toArray, List.map_cons, List.map_nil, e78, e76]
                first | rfl | (go_simp; done) | (go_simp; rfl) | (go_simp; intro h_; exfalso; omega)
              · exact wpOp_unwanted ho (unwanted_if (n := 29) (d := 76) rfl rfl e76 hq_) ⟨_, by rw [if_neg hq_], rfl, Below.refl _ _⟩
            | 33, ho, he =>
              obtain rfl : o_ = ⟨_, _, _, _, _, _⟩ := (Option.some.inj ho).symm
              obtain rfl := Option.some.inj he; clear he
              have e76 : a.tmps.getD 76 undef = .bool (b1 || b2 || b3 || b4) := hpre ⟨29, .data⟩ (by simp) rfl _ rfl
              have e79 : a.tmps.getD 79 undef = if (b1 || b2 || b3 || b4) = false then .bool (b5) else undef := hpre ⟨32, .data⟩ (by simp) rfl _ rfl
              clear hpre hfr
              by_cases hq_ : (b1 || b2 || b3 || b4) = false
              · rw [if_pos hq_] at e79
                refine wpOp_value (v := .bool (b1 || b2 || b3 || b4 || b5)) ho rfl ?_ ⟨_, rfl, rfl, Below.refl _ _⟩
                simp only [execOp, Act.eval, List.map_toArray, List.map_cons, List.map_nil, hq_, e76, e79]
                first | rfl | (go_simp; done) | (go_simp; rfl) | (simp [hq_]; done)
              · rw [if_neg hq_] at e79
                replace hq_ : (b1 || b2 || b3 || b4) = true := Bool.of_not_eq_false hq_
                refine wpOp_value (v := .bool (b1 || b2 || b3 || b4 || b5)) ho rfl ?_ ⟨_, rfl, rfl, Below.refl _ _⟩
                simp only [execOp, Act.eval, List.map_toArray, List.map_cons, List.map_nil, hq_, e76, e79]
                first | rfl | (go_simp; done) | (go_simp; rfl) | (simp [hq_]; done)
            | 34, ho, he => obtain rfl : o_ = ⟨_, _, _, _, _, _⟩ := (Option.some.inj ho).symm; obtain rfl := Option.some.inj he; clear he; have e80 : a.tmps.getD 80 undef = .bool (b1 || b2 || b3 || b4 || b5) := hpre ⟨33, .data⟩ (by simp) rfl _ rfl; clear hpre hfr; refine wpOp_value (v := .bool (b1 || b2 || b3 || b4 || b5)) ho rfl ?_ ⟨_, rfl, rfl, Below.refl _ _⟩; simp only [execOp, Act.eval, List.map_toArray, List.map_cons, List.map_nil, e80]; first | rfl | (go_simp; done) | (go_simp; rfl) | (go_simp; intro h_; exfalso; omega)
            | 35, ho, he =>
              obtain rfl : o_ = ⟨_, _, _, _, _, _⟩ := (Option.some.inj ho).symm
              obtain rfl := Option.some.inj he; clear he
              have e81 : a.tmps.getD 81 undef = .bool (b1 || b2 || b3 || b4 || b5) := hpre ⟨34, .guard⟩ (by simp) rfl _ rfl
              have f10 : a.tmps.getD 10 undef = .pointer (some ⟨wr.heap.size, 0, none⟩) := by rw [Array.getD_eq_getD_getElem?, hfr 10 (show ¬ 10 ∈ ([47, 48, 49, 50, 51, 52, 53, 54, 55, 56, 57, 58, 59, 60, 61, 62, 63, 64, 65, 66, 67, 68, 69, 70, 71, 72, 73, 74, 75, 76, 77, 78, 79, 80, 81, 82, 83, 84, 85, 86, 87, 88, 89, 90, 91, 92, 93, 94, 95, 96, 97, 98, 99] : List Nat) by decide)]; rfl
              clear hpre hfr
              by_cases hq_ : (b1 || b2 || b3 || b4 || b5) = false
              · refine wpOp_value_w (v := .pointer (some ⟨wr.heap.size, 2, none⟩)) ho (wanted_of (n := 34) (d := 81) rfl rfl (by rw [hs]; exact (show 81 < 100 by decide)) (e81.trans (congrArg _ hq_))) ?_ ⟨_, by rw [if_pos hq_], rfl, Below.refl _ _⟩
                simp only [execOp, Act.eval, List.map_toArray, List.map_cons, List.map_nil, e81, f10]
                first | rfl | (go_simp; done) | (go_simp; rfl) | (go_simp; intro h_; exfalso; omega)
              · exact wpOp_unwanted ho (unwanted_if (n := 34) (d := 81) rfl rfl e81 hq_) ⟨_, by rw [if_neg hq_], rfl, Below.refl _ _⟩
            | 36, ho, he =>
              obtain rfl : o_ = ⟨_, _, _, _, _, _⟩ := (Option.some.inj ho).symm
              obtain rfl := Option.some.inj he; clear he
              have e82 : a.tmps.getD 82 undef = if (b1 || b2 || b3 || b4 || b5) = false then .pointer (some ⟨wr.heap.size, 2, none⟩) else undef := hpre ⟨35, .data⟩ (by simp) rfl _ rfl
              have e81 : a.tmps.getD 81 undef = .bool (b1 || b2 || b3 || b4 || b5) := hpre ⟨34, .guard⟩ (by simp) rfl _ rfl
              clear hpre hfr
              have k_x2 := (hbl.cell (World.block_lt_of_cell? _ _ x2)).trans x2
              by_cases hq_ : (b1 || b2 || b3 || b4 || b5) = false
              · rw [if_pos hq_] at e82
                refine wpOp_value_w (v := .int .i64 x.f2) ho (wanted_of (n := 34) (d := 81) rfl rfl (by rw [hs]; exact (show 81 < 100 by decide)) (e81.trans (congrArg _ hq_))) ?_ ⟨_, by rw [if_pos hq_], rfl, Below.refl _ _⟩
                simp only [execOp, Act.eval, List.map_toArray, List.map_cons, List.map_nil, e82, e81]
                first | rfl | (go_simp; done) | (go_simp; rfl) | (go_simp; intro h_; exfalso; omega)
              · exact wpOp_unwanted ho (unwanted_if (n := 34) (d := 81) rfl rfl e81 hq_) ⟨_, by rw [if_neg hq_], rfl, Below.refl _ _⟩
            | 37, ho, he =>
              obtain rfl : o_ = ⟨_, _, _, _, _, _⟩ := (Option.some.inj ho).symm
              obtain rfl := Option.some.inj he; clear he
              have e83 : a.tmps.getD 83 undef = if (b1 || b2 || b3 || b4 || b5) = false then .int .i64 x.f2 else undef := hpre ⟨36, .data⟩ (by simp) rfl _ rfl
              have e81 : a.tmps.getD 81 undef = .bool (b1 || b2 || b3 || b4 || b5) := hpre ⟨34, .guard⟩ (by simp) rfl _ rfl
              clear hpre hfr
              by_cases hq_ : (b1 || b2 || b3 || b4 || b5) = false
              · rw [if_pos hq_] at e83
                refine wpOp_value_w (v := .bool (b6)) ho (wanted_of (n := 34) (d := 81) rfl rfl (by rw [hs]; exact (show 81 < 100 by decide)) (e81.trans (congrArg _ hq_))) ?_ ⟨_, by rw [if_pos hq_], rfl, Below.refl _ _⟩
                simp only [execOp, Act.eval, List.map_toArray, List.map_cons, List.map_nil, e83, e81]
                first | rfl | (go_simp; done) | (go_simp; rfl) | (go_simp; intro h_; exfalso; omega)
              · exact wpOp_unwanted ho (unwanted_if (n := 34) (d := 81) rfl rfl e81 hq_) ⟨_, by rw [if_neg hq_], rfl, Below.refl _ _⟩
            | 38, ho, he =>
              obtain rfl : o_ = ⟨_, _, _, _, _, _⟩ := (Option.some.inj ho).symm
              obtain rfl := Option.some.inj he; clear he
              have e81 : a.tmps.getD 81 undef = .bool (b1 || b2 || b3 || b4 || b5) := hpre ⟨34, .data⟩ (by simp) rfl _ rfl
              have e84 : a.tmps.getD 84 undef = if (b1 || b2 || b3 || b4 || b5) = false then .bool (b6) else undef := hpre ⟨37, .data⟩ (by simp) rfl _ rfl
              clear hpre hfr
              by_cases hq_ : (b1 || b2 || b3 || b4 || b5) = false
              · rw [if_pos hq_] at e84
                refine wpOp_value (v := .bool (b1 || b2 || b3 || b4 || b5 || b6)) ho rfl ?_ ⟨_, rfl, rfl, Below.refl _ _⟩
                simp only [execOp, Act.eval, List.map_toArray, List.map_cons, List.map_nil, hq_, e81, e84]
                first | rfl | (go_simp; done) | (go_simp; rfl) | (simp [hq_]; done)
              · rw [if_neg hq_] at e84
                replace hq_ : (b1 || b2 || b3 || b4 || b5) = true := Bool.of_not_eq_false hq_
                refine wpOp_value (v := .bool (b1 || b2 || b3 || b4 || b5 || b6)) ho rfl ?_ ⟨_, rfl, rfl, Below.refl _ _⟩
                simp only [execOp, Act.eval, List.map_toArray, List.map_cons, List.map_nil, hq_, e81, e84]
                first | rfl | (go_simp; done) | (go_simp; rfl) | (simp [hq_]; done)
            | 39, ho, he => obtain rfl : o_ = ⟨_, _, _, _, _, _⟩ := (Option.some.inj ho).symm; obtain rfl := Option.some.inj he; clear he; have e85 : a.tmps.getD 85 undef = .bool (b1 || b2 || b3 || b4 || b5 || b6) := hpre ⟨38, .data⟩ (by simp) rfl _ rfl; clear hpre hfr; refine wpOp_value (v := .bool (b1 || b2 || b3 || b4 || b5 || b6)) ho rfl ?_ ⟨_, rfl, rfl, Below.refl _ _⟩; simp only [execOp, Act.eval, List.map_toArray, List.map_cons, List.map_nil, e85]; first | rfl | (go_simp; done) | (go_simp; rfl) | (go_simp; intro h_; exfalso; omega)
            | 40, ho, he =>
              obtain rfl : o_ = ⟨_, _, _, _, _, _⟩ := (Option.some.inj ho).symm
              obtain rfl := Option.some.inj he; clear he
              have e86 : a.tmps.getD 86 undef = .bool (b1 || b2 || b3 || b4 || b5 || b6) := hpre ⟨39, .guard⟩ (by simp) rfl _ rfl
              have f10 : a.tmps.getD 10 undef = .pointer (some ⟨wr.heap.size, 0, none⟩) := by rw [Array.getD_eq_getD_getElem?, hfr 10 (show ¬ 10 ∈ ([47, 48, 49, 50, 51, 52, 53, 54, 55, 56, 57, 58, 59, 60, 61, 62, 63, 64, 65, 66, 67, 68, 69, 70, 71, 72, 73, 74, 75, 76, 77, 78, 79, 80, 81, 82, 83, 84, 85, 86, 87, 88, 89, 90, 91, 92, 93, 94, 95, 96, 97, 98, 99] : List Nat) by decide)]; rfl
              clear hpre hfr
              by_cases hq_ : (b1 || b2 || b3 || b4 || b5 || b6) = false
              · refine wpOp_value_w (v := .pointer (some ⟨wr.heap.size, 2, none⟩)) ho (wanted_of (n := 39) (d := 86) rfl rfl (by rw [hs]; exact (show 86 < 100 by decide)) (e86.trans (congrArg _ hq_))) ?_ ⟨_, by rw [if_pos hq_], rfl, Below.refl _ _⟩
                simp only [execOp, Act.eval, List.map_toArray, List.map_cons, List.map_nil, e86, f10]
                first | rfl | (go_simp; done) | (go_simp; rfl) | (go_simp; intro h_; exfalso; omega)
              · exact wpOp_unwanted ho (unwanted_if (n := 39) (d := 86) rfl rfl e86 hq_) ⟨_, by rw [if_neg hq_], rfl, Below.refl _ _⟩
            | 41, ho, he =>
              obtain rfl : o_ = ⟨_, _, _, _, _, _⟩ := (Option.some.inj ho).symm
              obtain rfl := Option.some.inj he; clear he
              have e87 : a.tmps.getD 87 undef = if (b1 || b2 || b3 || b4 || b5 || b6) = false then .pointer (some ⟨wr.heap.size, 2, none⟩) else undef := hpre ⟨40, .data⟩ (by simp) rfl _ rfl
              have e86 : a.tmps.getD 86 undef = .bool (b1 || b2 || b3 || b4 || b5 || b6) := hpre ⟨39, .guard⟩ (by simp) rfl _ rfl
              clear hpre hfr
              have k_x2 := (hbl.cell (World.block_lt_of_cell? _ _ x2)).trans x2
              by_cases hq_ : (b1 || b2 || b3 || b4 || b5 || b6) = false
              · rw [if_pos hq_] at e87
                refine wpOp_value_w (v := .int .i64 x.f2) ho (wanted_of (n := 39) (d := 86) rfl rfl (by rw [hs]; exact (show 86 < 100 by decide)) (e86.trans (congrArg _ hq_))) ?_ ⟨_, by rw [if_pos hq_], rfl, Below.refl _ _⟩
                simp only [execOp, Act.eval, List.map_toArray, List.map_cons, List.map_nil, e87, e86]
                first | rfl | (go_simp; done) | (go_simp; rfl) | (go_simp; intro h_; exfalso; omega)
              · exact wpOp_unwanted ho (unwanted_if (n := 39) (d := 86) rfl rfl e86 hq_) ⟨_, by rw [if_neg hq_], rfl, Below.refl _ _⟩
            | 42, ho, he =>
              obtain rfl : o_ = ⟨_, _, _, _, _, _⟩ := (Option.some.inj ho).symm
              obtain rfl := Option.some.inj he; clear he
              have e86 : a.tmps.getD 86 undef = .bool (b1 || b2 || b3 || b4 || b5 || b6) := hpre ⟨39, .guard⟩ (by simp) rfl _ rfl
              have f3 : a.tmps.getD 3 undef = .int .i64 a3 := by rw [Array.getD_eq_getD_getElem?, hfr 3 (show ¬ 3 ∈ ([47, 48, 49, 50, 51, 52, 53, 54, 55, 56, 57, 58, 59, 60, 61, 62, 63, 64, 65, 66, 67, 68, 69, 70, 71, 72, 73, 74, 75, 76, 77, 78, 79, 80, 81, 82, 83, 84, 85, 86, 87, 88, 89, 90, 91, 92, 93, 94, 95, 96, 97, 98, 99] : List Nat) by decide)]; rfl
              clear hpre hfr
              by_cases hq_ : (b1 || b2 || b3 || b4 || b5 || b6) = false
              · refine wpOp_value_w (v := .int .i64 a3) ho (wanted_of (n := 39) (d := 86) rfl rfl (by rw [hs]; exact (show 86 < 100 by decide)) (e86.trans (congrArg _ hq_))) ?_ ⟨_, by rw [if_pos hq_], rfl, Below.refl _ _⟩
                simp only [execOp, Act.eval, List.map_toArray, List.map_cons, List.map_nil, e86, f3]
                first | rfl | (go_simp; done) | (go_simp; rfl) | (go_simp; intro h_; exfalso; omega)
              · exact wpOp_unwanted ho (unwanted_if (n := 39) (d := 86) rfl rfl e86 hq_) ⟨_, by rw [if_neg hq_], rfl, Below.refl _ _⟩
            | 43, ho, he =>
              obtain rfl : o_ = ⟨_, _, _, _, _, _⟩ := (Option.some.inj ho).symm
              obtain rfl := Option.some.inj he; clear he
              have e88 : a.tmps.getD 88 undef = if (b1 || b2 || b3 || b4 || b5 || b6) = false then .int .i64 x.f2 else undef := hpre ⟨41, .data⟩ (by simp) rfl _ rfl
              have e89 : a.tmps.getD 89 undef = if (b1 || b2 || b3 || b4 || b5 || b6) = false then .int .i64 a3 else undef := hpre ⟨42, .data⟩ (by simp) rfl _ rfl
              have e86 : a.tmps.getD 86 undef = .bool (b1 || b2 || b3 || b4 || b5 || b6) := hpre ⟨39, .guard⟩ (by simp) rfl _ rfl
              clear hpre hfr
              by_cases hq_ : (b1 || b2 || b3 || b4 || b5 || b6) = false
              · rw [if_pos hq_] at e88
                rw [if_pos hq_] at e89
                refine wpOp_value_w (v := .bool (b7)) ho (wanted_of (n := 39) (d := 86) rfl rfl (by rw [hs]; exact (show 86 < 100 by decide)) (e86.trans (congrArg _ hq_))) ?_ ⟨_, by rw [if_pos hq_], rfl, Below.refl _ _⟩
                simp only [execOp, Act.eval, List.map_toArray, List.map_cons, List.map_nil, e88, e89, e86]
                first | rfl | (go_simp; done) | (go_simp; rfl) | (go_simp; intro h_; exfalso; omega)
              · exact wpOp_unwanted ho (unwanted_if (n := 39) (d := 86) rfl rfl e86 hq_) ⟨_, by rw [if_neg hq_], rfl, Below.refl _ _⟩
            | 44, ho, he =>
              obtain rfl : o_ = ⟨_, _, _, _, _, _⟩ := (Option.some.inj ho).symm
              obtain rfl := Option.some.inj he; clear he
              have e86 : a.tmps.getD 86 undef = .bool (b1 || b2 || b3 || b4 || b5 || b6) := hpre ⟨39, .data⟩ (by simp) rfl _ rfl
              have e90 : a.tmps.getD 90 undef = if (b1 || b2 || b3 || b4 || b5 || b6) = false then .bool (b7) else undef := hpre ⟨43, .data⟩ (by simp) rfl _ rfl
              clear hpre hfr
              by_cases hq_ : (b1 || b2 || b3 || b4 || b5 || b6) = false
              · rw [if_pos hq_] at e90
                refine wpOp_value (v := .bool (b1 || b2 || b3 || b4 || b5 || b6 || b7)) ho rfl ?_ ⟨_, rfl, rfl, Below.refl _ _⟩
                simp only [execOp, Act.eval, List.map_toArray, List.map_cons, List.map_nil, hq_, e86, e90]
                first | rfl | (go_simp; done) | (go_simp; rfl) | (simp [hq_]; done)
              · rw [if_neg hq_] at e90
                replace hq_ : (b1 || b2 || b3 || b4 || b5 || b6) = true := Bool.of_not_eq_false hq_
                refine wpOp_value (v := .bool (b1 || b2 || b3 || b4 || b5 || b6 || b7)) ho rfl ?_ ⟨_, rfl, rfl, Below.refl _ _⟩
                simp only [execOp, Act.eval, List.map_toArray, List.map_cons, List.map_nil, hq_, e86, e90]
                first | rfl | (go_simp; done) | (go_simp; rfl) | (simp [hq_]; done)
            | 45, ho, he => obtain rfl : o_ = ⟨_, _, _, _, _, _⟩ := (Option.some.inj ho).symm; obtain rfl := Option.some.inj he; clear he; have e91 : a.tmps.getD 91 undef = .bool (b1 || b2 || b3 || b4 || b5 || b6 || b7) := hpre ⟨44, .data⟩ (by simp) rfl _ rfl; clear hpre hfr; refine wpOp_value (v := .bool (b1 || b2 || b3 || b4 || b5 || b6 || b7)) ho rfl ?_ ⟨_, rfl, rfl, Below.refl _ _⟩; simp only [execOp, Act.eval, List.map_toArray, List.map_cons, List.map_nil, e91]; first | rfl | (go_simp; done) | (go_simp; rfl) | (go_simp; intro h_; exfalso; omega)
            | 46, ho, he =>
              obtain rfl : o_ = ⟨_, _, _, _, _, _⟩ := (Option.some.inj ho).symm
              obtain rfl := Option.some.inj he; clear he
              have e92 : a.tmps.getD 92 undef = .bool (b1 || b2 || b3 || b4 || b5 || b6 || b7) := hpre ⟨45, .guard⟩ (by simp) rfl _ rfl
              have f10 : a.tmps.getD 10 undef = .pointer (some ⟨wr.heap.size, 0, none⟩) := by rw [Array.getD_eq_getD_getElem?, hfr 10 (show ¬ 10 ∈ ([47, 48, 49, 50, 51, 52, 53, 54, 55, 56, 57, 58, 59, 60, 61, 62, 63, 64, 65, 66, 67, 68, 69, 70, 71, 72, 73, 74, 75, 76, 77, 78, 79, 80, 81, 82, 83, 84, 85, 86, 87, 88, 89, 90, 91, 92, 93, 94, 95, 96, 97, 98, 99] : List Nat) by decide)]; rfl
              clear hpre hfr
              by_cases hq_ : (b1 || b2 || b3 || b4 || b5 || b6 || b7) = false
              · refine wpOp_value_w (v := .pointer (some ⟨wr.heap.size, 3, none⟩)) ho (wanted_of (n := 45) (d := 92) rfl rfl (by rw [hs]; exact (show 92 < 100 by decide)) (e92.trans (congrArg _ hq_))) ?_ ⟨_, by rw [if_pos hq_], rfl, Below.refl _ _⟩
                simp only [execOp, Act.eval, List.map_toArray, List.map_cons, List.map_nil, e92, f10]
                first | rfl | (go_simp; done) | (go_simp; rfl) | (go_simp; intro h_; exfalso; omega)
              · exact wpOp_unwanted ho (unwanted_if (n := 45) (d := 92) rfl rfl e92 hq_) ⟨_, by rw [if_neg hq_], rfl, Below.refl _ _⟩
            | 47, ho, he =>
              obtain rfl : o_ = ⟨_, _, _, _, _, _⟩ := (Option.some.inj ho).symm
              obtain rfl := Option.some.inj he; clear he
              have e93 : a.tmps.getD 93 undef = if (b1 || b2 || b3 || b4 || b5 || b6 || b7) = false then .pointer (some ⟨wr.heap.size, 3, none⟩) else undef := hpre ⟨46, .data⟩ (by simp) rfl _ rfl
              have e92 : a.tmps.getD 92 undef = .bool (b1 || b2 || b3 || b4 || b5 || b6 || b7) := hpre ⟨45, .guard⟩ (by simp) rfl _ rfl
              clear hpre hfr
              have k_x3 := (hbl.cell (World.block_lt_of_cell? _ _ x3)).trans x3
              have k_x4 := (hbl.cell (World.block_lt_of_cell? _ _ x4)).trans x4
              by_cases hq_ : (b1 || b2 || b3 || b4 || b5 || b6 || b7) = false
              · rw [if_pos hq_] at e93
                refine wpOp_value_w (v := .agg #[.int .i64 x.f3.f0, .slice A2 x.f3.f1.length c2]) ho (wanted_of (n := 45) (d := 92) rfl rfl (by rw [hs]; exact (show 92 < 100 by decide)) (e92.trans (congrArg _ hq_))) ?_ ⟨_, by rw [if_pos hq_], rfl, Below.refl _ _⟩
                simp only [execOp, Act.eval, List.map_toArray, List.map_cons, List.map_nil, e93, e92]
                first | rfl | (go_simp; done) | (go_simp; rfl) | (go_simp; intro h_; exfalso; omega)
              · exact wpOp_unwanted ho (unwanted_if (n := 45) (d := 92) rfl rfl e92 hq_) ⟨_, by rw [if_neg hq_], rfl, Below.refl _ _⟩
            | 48, ho, he =>
              obtain rfl : o_ = ⟨_, _, _, _, _, _⟩ := (Option.some.inj ho).symm
              obtain rfl := Option.some.inj he; clear he
              have e92 : a.tmps.getD 92 undef = .bool (b1 || b2 || b3 || b4 || b5 || b6 || b7) := hpre ⟨45, .guard⟩ (by simp) rfl _ rfl
              have f5 : a.tmps.getD 5 undef = .pointer (some ⟨w.heap.size, 0, none⟩) := by rw [Array.getD_eq_getD_getElem?, hfr 5 (show ¬ 5 ∈ ([47, 48, 49, 50, 51, 52, 53, 54, 55, 56, 57, 58, 59, 60, 61, 62, 63, 64, 65, 66, 67, 68, 69, 70, 71, 72, 73, 74, 75, 76, 77, 78, 79, 80, 81, 82, 83, 84, 85, 86, 87, 88, 89, 90, 91, 92, 93, 94, 95, 96, 97, 98, 99] : List Nat) by decide)]; rfl
              clear hpre hfr
              by_cases hq_ : (b1 || b2 || b3 || b4 || b5 || b6 || b7) = false
              · refine wpOp_value_w (v := .pointer (some ⟨w.heap.size, 2, none⟩)) ho (wanted_of (n := 45) (d := 92) rfl rfl (by rw [hs]; exact (show 92 < 100 by decide)) (e92.trans (congrArg _ hq_))) ?_ ⟨_, by rw [if_pos hq_], rfl, Below.refl _ _⟩
                simp only [execOp, Act.eval, List.map_toArray, List.map_cons, List.map_nil, e92, f5]
                first | rfl | (go_simp; done) | (go_simp; rfl) | (go_simp; intro h_; exfalso; omega)
              · exact wpOp_unwanted ho (unwanted_if (n := 45) (d := 92) rfl rfl e92 hq_) ⟨_, by rw [if_neg hq_], rfl, Below.refl _ _⟩
            | 49, ho, he =>
              obtain rfl : o_ = ⟨_, _, _, _, _, _⟩ := (Option.some.inj ho).symm
              obtain rfl := Option.some.inj he; clear he
              have e95 : a.tmps.getD 95 undef = if (b1 || b2 || b3 || b4 || b5 || b6 || b7) = false then .pointer (some ⟨w.heap.size, 2, none⟩) else undef := hpre ⟨48, .data⟩ (by simp) rfl _ rfl
              have e92 : a.tmps.getD 92 undef = .bool (b1 || b2 || b3 || b4 || b5 || b6 || b7) := hpre ⟨45, .guard⟩ (by simp) rfl _ rfl
              clear hpre hfr
              have k_ys := (hbl.cell (World.block_lt_of_cell? _ _ ys)).trans ys
              by_cases hq_ : (b1 || b2 || b3 || b4 || b5 || b6 || b7) = false
              · rw [if_pos hq_] at e95
                refine wpOp_value_w (v := .int .i64 a1_2) ho (wanted_of (n := 45) (d := 92) rfl rfl (by rw [hs]; exact (show 92 < 100 by decide)) (e92.trans (congrArg _ hq_))) ?_ ⟨_, by rw [if_pos hq_], rfl, Below.refl _ _⟩
                simp only [execOp, Act.eval, List.map_toArray, List.map_cons, List.map_nil, e95, e92]
                first | rfl | (go_simp; done) | (go_simp; rfl) | (go_simp; intro h_; exfalso; omega)
              · exact wpOp_unwanted ho (unwanted_if (n := 45) (d := 92) rfl rfl e92 hq_) ⟨_, by rw [if_neg hq_], rfl, Below.refl _ _⟩
            | 50, ho, he =>
              obtain rfl : o_ = ⟨_, _, _, _, _, _⟩ := (Option.some.inj ho).symm
              obtain rfl := Option.some.inj he; clear he
              have e94 : a.tmps.getD 94 undef = if (b1 || b2 || b3 || b4 || b5 || b6 || b7) = false then .agg #[.int .i64 x.f3.f0, .slice A2 x.f3.f1.length c2] else undef := hpre ⟨47, .data⟩ (by simp) rfl _ rfl
              have e96 : a.tmps.getD 96 undef = if (b1 || b2 || b3 || b4 || b5 || b6 || b7) = false then .int .i64 a1_2 else undef := hpre ⟨49, .data⟩ (by simp) rfl _ rfl
              have e92 : a.tmps.getD 92 undef = .bool (b1 || b2 || b3 || b4 || b5 || b6 || b7) := hpre ⟨45, .guard⟩ (by simp) rfl _ rfl
              clear hpre hfr
              by_cases hq_ : (b1 || b2 || b3 || b4 || b5 || b6 || b7) = false
              · rw [if_pos hq_] at e94
                rw [if_pos hq_] at e96
                refine wpOp_call_w (fn := Try.f40) ho (wanted_of (n := 45) (d := 92) rfl rfl (by rw [hs]; exact (show 92 < 100 by decide)) (e92.trans (congrArg _ hq_))) rfl rfl rfl #[.agg #[.int .i64 x.f3.f0, .slice A2 x.f3.f1.length c2], .int .i64 a1_2] rfl (by simp only [List.map_toArray, List.map_cons, List.map_nil, Act.eval, e94, e96]) ?_
                refine (waybillref22_Check.calls (x.f3.f1.length + 3) x.f3.f0 A2 c2 x.f3.f1 a1_2 cw _ (Kd.C_below G2.out hbl) L2.out I4.out).mono ?_
                rintro e w3 ⟨rfl, hd⟩
                exact ⟨_, rfl, _, rfl, by rw [if_pos hq_], hd⟩
              · exact wpOp_unwanted ho (unwanted_if (n := 45) (d := 92) rfl rfl e92 hq_) ⟨_, by rw [if_neg hq_], rfl, Below.refl _ _⟩
            | 51, ho, he =>
              obtain rfl : o_ = ⟨_, _, _, _, _, _⟩ := (Option.some.inj ho).symm
              obtain rfl := Option.some.inj he; clear he
              have e97 : a.tmps.getD 97 undef = if (b1 || b2 || b3 || b4 || b5 || b6 || b7) = false then .int .i64 cw else undef := hpre ⟨50, .data⟩ (by simp) rfl _ rfl
              have e92 : a.tmps.getD 92 undef = .bool (b1 || b2 || b3 || b4 || b5 || b6 || b7) := hpre ⟨45, .guard⟩ (by simp) rfl _ rfl
              clear hpre hfr
              by_cases hq_ : (b1 || b2 || b3 || b4 || b5 || b6 || b7) = false
              · rw [if_pos hq_] at e97
                refine wpOp_value_w (v := .bool (cw != 0)) ho (wanted_of (n := 45) (d := 92) rfl rfl (by rw [hs]; exact (show 92 < 100 by decide)) (e92.trans (congrArg _ hq_))) ?_ ⟨_, by rw [if_pos hq_], rfl, Below.refl _ _⟩
                simp only [execOp, Act.eval, List.map_toArray, List.map_cons, List.map_nil, e97, e92]
                first | rfl | (go_simp; done) | (go_simp; rfl) | (go_simp; intro h_; exfalso; omega)
              · exact wpOp_unwanted ho (unwanted_if (n := 45) (d := 92) rfl rfl e92 hq_) ⟨_, by rw [if_neg hq_], rfl, Below.refl _ _⟩
            | 52, ho, he =>
              obtain rfl : o_ = ⟨_, _, _, _, _, _⟩ := (Option.some.inj ho).symm
              obtain rfl := Option.some.inj he; clear he
              have e92 : a.tmps.getD 92 undef = .bool (b1 || b2 || b3 || b4 || b5 || b6 || b7) := hpre ⟨45, .data⟩ (by simp) rfl _ rfl
              have e98 : a.tmps.getD 98 undef = if (b1 || b2 || b3 || b4 || b5 || b6 || b7) = false then .bool (cw != 0) else undef := hpre ⟨51, .data⟩ (by simp) rfl _ rfl
              clear hpre hfr
              by_cases hq_ : (b1 || b2 || b3 || b4 || b5 || b6 || b7) = false
              · rw [if_pos hq_] at e98
                refine wpOp_value (v := .bool (b1 || b2 || b3 || b4 || b5 || b6 || b7 || cw != 0)) ho rfl ?_ ⟨_, rfl, rfl, Below.refl _ _⟩
                simp only [execOp, Act.eval, List.map_toArray, List.map_cons, List.map_nil, hq_, e92, e98]
                first | rfl | (go_simp; done) | (go_simp; rfl) | (simp [hq_]; done)
              · rw [if_neg hq_] at e98
                replace hq_ : (b1 || b2 || b3 || b4 || b5 || b6 || b7) = true := Bool.of_not_eq_false hq_
                refine wpOp_value (v := .bool (b1 || b2 || b3 || b4 || b5 || b6 || b7 || cw != 0)) ho rfl ?_ ⟨_, rfl, rfl, Below.refl _ _⟩
                simp only [execOp, Act.eval, List.map_toArray, List.map_cons, List.map_nil, hq_, e92, e98]
                first | rfl | (go_simp; done) | (go_simp; rfl) | (simp [hq_]; done)
            | n_ + 53, ho, he => simp at he
          case fin =>
            intro xv_ w1_ hbl hx
            simp only [List.forall_mem_cons] at hx
            obtain ⟨x47, x48, x49, x50, x51, x52, x53, x54, x55, x56, x57, x58, x59, x60, x61, x62, x63, x64, x65, x66, x67, x68, x69, x70, x71, x72, x73, x74, x75, x76, x77, x78, x79, x80, x81, x82, x83, x84, x85, x86, x87, x88, x89, x90, x91, x92, x93, x94, x95, x96, x97, x98, x99, _⟩ := hx
            simp only [List.map_cons, List.map_nil, putL, Act.put, List.setIfInBounds_toArray, List.set_cons_zero, List.set_cons_succ, x47, x48, x49, x50, x55, x56, x70, x71, x75, x76, x80, x81, x85, x86, x91, x92, x99]
            clear x47 x48 x49 x50 x51 x52 x53 x54 x55 x56 x57 x58 x59 x60 x61 x62 x63 x64 x65 x66 x67 x68 x69 x70 x71 x72 x73 x74 x75 x76 x77 x78 x79 x80 x81 x82 x83 x84 x85 x86 x87 x88 x89 x90 x91 x92 x93 x94 x95 x96 x97 x98 x99
            have HBL := Aside0.mk hbl
            have HB2 : Aside0 (Below w.heap.size w w1_) := ⟨below_then HBX.out HBX.out.size hbl⟩
            obtain ⟨C, hC⟩ : ∃ C, C = (b1 || b2 || b3 || b4 || b5 || b6 || b7 || cw != 0) := ⟨_, rfl⟩
            rw [← hC]
            have HCC := Aside0.mk hC
            clear hC hbl x0 x1 x2 x3 x4 ys py
            cases C with
            | true =>
              have HE : Aside0 (checkS l0 a1_0 a1_1 a1_2 a2 a3 = 9) := ⟨by
                rw [HE0.out, if_pos]
                by_cases hod : oddS a1_2 a2 a3 x = true
                · exact .inr (.inl (List.any_eq_true.2 ⟨x, HXM.out, hod⟩))
                · refine .inr (.inr ?_)
                  have hod' := Bool.of_not_eq_true hod
                  have h1 := HCC.out
                  rw [HOD.out] at hod'
                  have h3 : b3 = true := by revert hod' h1; cases b1 <;> cases b2 <;> cases b3 <;> cases b4 <;> cases b5 <;> cases b6 <;> cases b7 <;> cases (cw != 0) <;> simp
                  refine risesS_false l0 (k + 1) ?_
                  rw [HRI.out, h3]; rfl⟩
              go_wp2_with fail
              go_ret
              exact ⟨by rw [HE.out]; rfl, HB2.out⟩
            | false =>
              have HOF : Aside0 (oddS a1_2 a2 a3 x = false ∧ b3 = false) := ⟨by
                have h1 := HCC.out
                rw [HOD.out]
                revert h1; cases b1 <;> cases b2 <;> cases b3 <;> cases b4 <;> cases b5 <;> cases b6 <;> cases b7 <;> cases (cw != 0) <;> simp⟩
              go_wp2_with fail
              go_roundw
              case rel => exact ⟨k + 1, by go_num, by omega, ⟨by rw [HTK.out, List.any_append, HAN.out, show ([x].any (oddS a1_2 a2 a3)) = false by simp [HOF.out.1]]; rfl⟩, ⟨by rw [HRI.out, HOF.out.2]; rfl⟩, HB2, ⟨blk_below BSr.out HBL.out⟩⟩
              case measure => simp [intOf]; omega
      · have b0 : decide ((k : Int) < (l0.length : Int)) = false := decide_eq_false (by omega)
        have b0' : decide (k < l0.length) = false := decide_eq_false hlt
        have HE : Aside0 (checkS l0 a1_0 a1_1 a1_2 a2 a3 = 0) := ⟨by
          have h1 := HAN.out
          have h2 := HRS.out
          rw [List.take_of_length_le (by omega)] at h1 h2
          rw [HE0.out, if_neg (by rw [h1, h2]; simp; have := HLN.out.1; omega)]⟩
        go_wp2_with fail
        go_ret
        exact ⟨by rw [HE.out]; rfl, HB.out⟩
  · have h1' : setsS a1_0 a1_1 a1_2 = false := Bool.of_not_eq_true h1
    have HE : Aside0 (checkS l0 a1_0 a1_1 a1_2 a2 a3 = 4) := ⟨by unfold checkS; rw [if_pos (.inl h1')]⟩
    rw [h1']
    go_wp2_with fail
    go_ret
    exact ⟨by rw [HE.out]; rfl, HB1.out⟩
end Go.Proofs.Ythfjgfldmkdlnaa.G
end
