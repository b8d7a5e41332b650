-- Made by wip/tools/xprint.py (over the kit's print program) for this claim.
import Derived.Test.YtkdkjnjiianogaaGx0
import Derived.Test.YtkdkjnjiianogaaGx2
import Derived.Test.YtkdkjnjiianogaaGx3
import Derived.Test.YtkdkjnjiianogaaGx4
import Derived.Test.YtkdkjnjiianogaaGx5
namespace Go.Proofs.Ytkdkjnjiianogaa.G
open WB Go.RowKit Go.Proofs.YtkdkjnjiianogaaW.PrintWords Go.Proofs.YtkdkjnjiianogaaW.PrintLast Go.Proofs.YtkdkjnjiianogaaW.PrintMore
attribute [local go_sem] max2_int min2_int max_two min_two max_three min_three max_four min_four   -- for this text's walks alone
set_option linter.unusedVariables false
set_option linter.unusedSimpArgs false

/-! ### window_See: function 11 -/
def window_See.f (a0_0 : Int) (l0_1 : List (S32)) (a1 : Int) (a2 : Int) : Option (Int × Int × Int × List Int × Int) := some (seeW a0_0 l0_1 a1 a2)
set_option maxHeartbeats 2000000 in
set_option maxRecDepth 100000 in
theorem window_See.calls (a0_0 : Int) (A0_1 : Option Addr) (c0_1 : Nat) (l0_1 : List (S32)) (a1 : Int) (a2 : Int) (r1 : Int) (r2 : Int) (r3 : Int) (r4 : List Int) (r5 : Int) (w : World) (hr0_1 : Kd.C k32 w A0_1 l0_1.length l0_1) (hc0_1 : l0_1.length ≤ c0_1) (h : window_See.f a0_0 l0_1 a1 a2 = some (r1, r2, r3, r4, r5)) :
    Calls Try.prog 11 #[.agg #[.int .i64 a0_0, .slice A0_1 l0_1.length c0_1], .int .i64 a1, .int .i64 a2] w fun e w' => ∃ v3_ : Value, e = .returned (.tuple #[.int .i64 r1, .agg #[.int .i64 r2, .int .i64 r3, v3_], .int .i64 r5]) ∧ Kd.R (Kd.int .u8) 5 w' w.heap.size (fun _ => True) v3_ r4 ∧ Below w.heap.size w w' := by
  unfold window_See.f at h
  replace h := Option.some.inj h
  have HR := Aside0.mk hr0_1
  have HC := Aside0.mk hc0_1
  have HH := Aside0.mk h
  clear hr0_1 hc0_1 h
  by_cases hk : checkW a0_0 l0_1 a1 = 0
  · have HK := Aside0.mk (show window_Check.f a0_0 l0_1 a1 = some 0 by unfold window_Check.f; rw [hk])
    have HM := Aside0.mk (may_of _ _ _ hk)
    obtain ⟨wh, hwh⟩ : ∃ wh, wh = whatD a0_0 a1 l0_1 a2 := ⟨_, rfl⟩
    have HWH := Aside0.mk hwh
    have HS : Aside0 (seeW a0_0 l0_1 a1 a2 = if wh = 1 then (1, (l0_1.getD (placeD l0_1 a2) z32).f0, (l0_1.getD (placeD l0_1 a2) z32).f1, (l0_1.getD (placeD l0_1 a2) z32).f2, 0) else (wh, 0, 0, [], 0)) := ⟨by unfold seeW; rw [if_neg (by rw [hk]; simp), ← hwh]⟩
    rw [HS.out] at HH
    clear hk hwh HS
    go_enter Try.func11, Try.ntmps11
    go_wp2_with (go_at_call 14; (with_reducible refine (window_Check.calls a0_0 A0_1 c0_1 l0_1 a1 0 _ ?hr1 HC.out HK.out).mono ?_); (case hr1 => exact Kd.C_alloc (Kd.C_alloc HR.out _) _); rintro e w1 ⟨rfl, hb⟩; have HB1 := Aside0.mk (below_then (below_alloc (below_alloc (Below.refl _ _) _) _) (by simp; omega) hb); have BK := Aside0.mk ((hb.block (w.heap.size + 1) (by simp)).trans (heap_new2 w _ _)); have hlt1 : w.heap.size + 1 < w1.heap.size := blk_lt BK.out; have hcz0 : w1.cell? ⟨w.heap.size + 1, 0, none⟩ = some (.int .i64 0) := (blk_cell BK.out 0).trans rfl; have hcz1 : w1.cell? ⟨w.heap.size + 1, 1, none⟩ = some (.int .i64 0) := (blk_cell BK.out 1).trans rfl; have hcz2 : w1.cell? ⟨w.heap.size + 1, 2, none⟩ = some (.slice none 0 0) := (blk_cell BK.out 2).trans rfl; have hfz0 := blk_frozen BK.out 0; have hfz1 := blk_frozen BK.out 1; have hfz2 := blk_frozen BK.out 2; have hcw0 : w1.cell? ⟨w.heap.size, 0, none⟩ = some (.int .i64 a0_0) := (hb.cell (p := ⟨w.heap.size, 0, none⟩) (by simp; omega)).trans (cell_in2 _ _ _ _ 0); have hcw1 : w1.cell? ⟨w.heap.size, 1, none⟩ = some (.slice A0_1 l0_1.length c0_1) := (hb.cell (p := ⟨w.heap.size, 1, none⟩) (by simp; omega)).trans (cell_in2 _ _ _ _ 1); clear hb)
    have HR1 := Aside0.mk (Kd.C_below HR.out HB1.out)
    go_at_call 28
    with_reducible refine (window_at w1.heap.size a0_0 a1 A0_1 c0_1 l0_1 a2 _ (Kd.C_alloc HR1.out _) HC.out (heap_new1 _ _) HM.out).mono ?_
    rintro e w2 ⟨rfl, hb⟩
    rw [← HWH.out]
    have HB2 := Aside0.mk (below_then (below_alloc HB1.out _) (by simp; omega) hb)
    have BK2 := Aside0.mk ((hb.block (w.heap.size + 1) (by simp; omega)).trans (blk_alloc BK.out _))
    have hlt2 : w.heap.size + 1 < w2.heap.size := blk_lt BK2.out
    have hdz0 : w2.cell? ⟨w.heap.size + 1, 0, none⟩ = some (.int .i64 0) := (blk_cell BK2.out 0).trans rfl
    have hdz1 : w2.cell? ⟨w.heap.size + 1, 1, none⟩ = some (.int .i64 0) := (blk_cell BK2.out 1).trans rfl
    have hdz2 : w2.cell? ⟨w.heap.size + 1, 2, none⟩ = some (.slice none 0 0) := (blk_cell BK2.out 2).trans rfl
    have hdf0 := blk_frozen BK2.out 0
    have hdf1 := blk_frozen BK2.out 1
    have hdf2 := blk_frozen BK2.out 2
    have hv1 : w2.cell? ⟨w1.heap.size, 1, none⟩ = some (.slice A0_1 l0_1.length c0_1) := (hb.cell (p := ⟨w1.heap.size, 1, none⟩) (by simp)).trans (cell_in1 _ _ _ 1)
    have HR2 := Aside0.mk (Kd.C_below (Kd.C_alloc HR1.out _) hb)
    clear hb hcz0 hcz1 hcz2 hfz0 hfz1 hfz2 hcw0 hcw1
    by_cases h1 : wh = 1
    · subst h1
      obtain ⟨p1, p2, p3, p4⟩ := what_place _ _ _ _ HM.out HWH.out.symm
      have hsp : spotD a0_0 a1 l0_1 a2 = placeD l0_1 a2 := by unfold spotD; rw [if_neg (by omega)]
      rw [if_pos rfl] at HH
      rw [hsp]
      obtain ⟨h, hh⟩ : ∃ h, h = placeD l0_1 a2 := ⟨_, rfl⟩
      rw [← hh] at HH p3 ⊢
      obtain ⟨ad, A2, c2, e1, q0, q1, q2, q3, q4⟩ := at_T32 HR2.out (h : Int) (by omega) (by omega)
      have hrd : rd_T32 l0_1 (h : Int) = l0_1.getD h z32 := by simp [rd_T32]
      rw [hrd] at q0 q1 q2 q3 q4
      have hdl := (HM.out.bds h p3).2.2.2.2
      obtain ⟨d, hd⟩ : ∃ d, d = l0_1.getD h z32 := ⟨_, rfl⟩
      rw [← hd] at q0 q1 q2 q3 q4 hdl HH
      simp only [Int.toNat_natCast] at q0 q1 q2
      obtain ⟨⟨⟩⟩ := HH
      have HCL : Aside0 (window_clone.f d.f0 d.f1 d.f2 = some (d.f0, d.f1, d.f2)) := ⟨by unfold window_clone.f slices_Clone_byte_byte.f; rw [if_pos (by omega)]; rfl⟩
      have Q3 := Aside0.mk q3
      have Q4 := Aside0.mk q4
      clear hrd hd p1 p2 p4 hsp hh q3 q4
      subst e1
      go_wp2_with fail
      go_at_call 29
      with_reducible refine (window_clone.calls d.f0 d.f1 A2 c2 d.f2 d.f0 d.f1 d.f2 _ Q4.out Q3.out HCL.out).mono ?_
      rintro e w3 ⟨v3, rfl, ho, hb⟩
      have HB3 := Aside0.mk (below_then HB2.out (by omega) hb)
      have BK3 := Aside0.mk ((hb.block (w.heap.size + 1) (by omega)).trans BK2.out)
      have hez0 : w3.cell? ⟨w.heap.size + 1, 0, none⟩ = some (.int .i64 0) := (blk_cell BK3.out 0).trans rfl
      have hez1 : w3.cell? ⟨w.heap.size + 1, 1, none⟩ = some (.int .i64 0) := (blk_cell BK3.out 1).trans rfl
      have hez2 : w3.cell? ⟨w.heap.size + 1, 2, none⟩ = some (.slice none 0 0) := (blk_cell BK3.out 2).trans rfl
      have hef0 := blk_frozen BK3.out 0
      have hef1 := blk_frozen BK3.out 1
      have hef2 := blk_frozen BK3.out 2
      have HO := Aside0.mk (Kd.R_lower ho (show w.heap.size ≤ w2.heap.size by omega))
      obtain ⟨Ao, co, rfl⟩ := Kd.R_slice HO.out
      clear hb ho
      go_wp2
      refine bodyPost_ret (results_list (rs := [.tmp 6, .cell 7 32, .tmp 8]) rfl (by simp) (.tmp (.cell (w.heap.size + 1) 32 #[.int .i64 d.f0, .int .i64 d.f1, .slice Ao d.f2.length co] (0, 0) _ rfl (blk_put (cs := #[.int .i64 d.f0, .int .i64 d.f1, .slice none 0 0]) (blk_put (cs := #[.int .i64 d.f0, .int .i64 0, .slice none 0 0]) (blk_put (cs := #[.int .i64 0, .int .i64 0, .slice none 0 0]) BK3.out 0 _ rfl) 1 _ rfl) 2 _ rfl) Try.underlying32 rfl (by kernel_rfl) (.tmp .nil)))) rfl ?_
      exact ⟨_, rfl, Kd.R_mono (Kd.R_far (p := ⟨w.heap.size + 1, 2, none⟩) (Kd.R_far (p := ⟨w.heap.size + 1, 1, none⟩) (Kd.R_far (p := ⟨w.heap.size + 1, 0, none⟩) (Kd.R_types HO.out BK3.out (by decide)) (fun _ hk => hk.2) _) (fun _ hk => hk.2) _) (fun _ hk => hk.2) _) (fun _ _ => trivial), below_set (below_set (below_set HB3.out (by simp)) (by simp)) (by simp)⟩
    · rw [if_neg h1] at HH
      obtain ⟨⟨⟩⟩ := HH
      have h1' : (r1 == 1) = false := by simpa using h1
      go_wp2
      refine bodyPost_ret (results_list (rs := [.tmp 6, .cell 7 32, .tmp 8]) rfl (by simp) (.tmp (.cell (w.heap.size + 1) 32 #[.int .i64 0, .int .i64 0, .slice none 0 0] (0, 0) _ rfl (blk_put (cs := #[.int .i64 0, .int .i64 0, .slice none 0 0]) (blk_put (cs := #[.int .i64 0, .int .i64 0, .slice none 0 0]) (blk_put (cs := #[.int .i64 0, .int .i64 0, .slice none 0 0]) BK2.out 0 _ rfl) 1 _ rfl) 2 _ rfl) Try.underlying32 rfl (by kernel_rfl) (.tmp .nil)))) rfl ?_
      exact ⟨_, rfl, Kd.R_nil _ _ _ _ _, below_set (below_set (below_set HB2.out (by simp)) (by simp)) (by simp)⟩
  · obtain ⟨E, hE⟩ : ∃ E, E = checkW a0_0 l0_1 a1 := ⟨_, rfl⟩
    have HK := Aside0.mk (show window_Check.f a0_0 l0_1 a1 = some E by unfold window_Check.f; rw [hE])
    have HS : Aside0 (seeW a0_0 l0_1 a1 a2 = (0, 0, 0, [], E)) := ⟨by unfold seeW; rw [if_pos hk, hE]⟩
    have hne : (E == 0) = false := by rw [hE]; simpa using hk
    have h0 : ¬ E = 0 := by rw [hE]; exact hk
    clear hk hE
    rw [HS.out] at HH
    obtain ⟨⟨⟩⟩ := HH
    go_enter Try.func11, Try.ntmps11
    go_wp2_with (go_at_call 14; (with_reducible refine (window_Check.calls a0_0 A0_1 c0_1 l0_1 a1 r5 _ ?hr1 HC.out HK.out).mono ?_); (case hr1 => exact Kd.C_alloc (Kd.C_alloc HR.out _) _); rintro e w1 ⟨rfl, hb⟩; have HB1 := Aside0.mk (below_then (below_alloc (below_alloc (Below.refl _ _) _) _) (by simp; omega) hb); have BK := Aside0.mk ((hb.block (w.heap.size + 1) (by simp)).trans (heap_new2 w _ _)); have hlt1 : w.heap.size + 1 < w1.heap.size := blk_lt BK.out; have hcz0 : w1.cell? ⟨w.heap.size + 1, 0, none⟩ = some (.int .i64 0) := (blk_cell BK.out 0).trans rfl; have hcz1 : w1.cell? ⟨w.heap.size + 1, 1, none⟩ = some (.int .i64 0) := (blk_cell BK.out 1).trans rfl; have hcz2 : w1.cell? ⟨w.heap.size + 1, 2, none⟩ = some (.slice none 0 0) := (blk_cell BK.out 2).trans rfl; have hfz0 := blk_frozen BK.out 0; have hfz1 := blk_frozen BK.out 1; have hfz2 := blk_frozen BK.out 2; have hcw0 : w1.cell? ⟨w.heap.size, 0, none⟩ = some (.int .i64 a0_0) := (hb.cell (p := ⟨w.heap.size, 0, none⟩) (by simp; omega)).trans (cell_in2 _ _ _ _ 0); have hcw1 : w1.cell? ⟨w.heap.size, 1, none⟩ = some (.slice A0_1 l0_1.length c0_1) := (hb.cell (p := ⟨w.heap.size, 1, none⟩) (by simp; omega)).trans (cell_in2 _ _ _ _ 1); clear hb)
    refine bodyPost_ret (results_list (rs := [.tmp 6, .cell 7 32, .tmp 8]) rfl (by simp) (.tmp (.cell (w.heap.size + 1) 32 #[.int .i64 0, .int .i64 0, .slice none 0 0] (0, 0) _ rfl (blk_put (cs := #[.int .i64 0, .int .i64 0, .slice none 0 0]) (blk_put (cs := #[.int .i64 0, .int .i64 0, .slice none 0 0]) (blk_put (cs := #[.int .i64 0, .int .i64 0, .slice none 0 0]) BK.out 0 _ rfl) 1 _ rfl) 2 _ rfl) Try.underlying32 rfl (by kernel_rfl) (.tmp .nil)))) rfl ?_
    exact ⟨_, rfl, Kd.R_nil _ _ _ _ _, below_set (below_set (below_set HB1.out (by simp)) (by simp)) (by simp)⟩

end Go.Proofs.Ytkdkjnjiianogaa.G
