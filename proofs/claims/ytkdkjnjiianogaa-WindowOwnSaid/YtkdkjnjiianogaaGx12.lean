-- Made by wip/tools/xprint.py (over the kit's print program) for this claim.
import Derived.Test.YtkdkjnjiianogaaGx0
import Derived.Test.YtkdkjnjiianogaaGx2
import Derived.Test.YtkdkjnjiianogaaGx10
import Derived.Test.YtkdkjnjiianogaaGx11
namespace Go.Proofs.Ytkdkjnjiianogaa.G
open WB Go.RowKit Go.Proofs.YtkdkjnjiianogaaW.PrintWords Go.Proofs.YtkdkjnjiianogaaW.PrintLast Go.Proofs.YtkdkjnjiianogaaW.PrintMore
attribute [local go_sem] max2_int min2_int max_two min_two max_three min_three max_four min_four   -- for this text's walks alone
set_option linter.unusedVariables false
set_option linter.unusedSimpArgs false

/-! ### window_Put: function 16 -/
structure PutsInv (w : World) (mark size : Int) (l : List S32) (ds : List S32) (gv k : Nat) (A : Option Addr) (c : Nat) (L : List S32) (wr : World) : Prop where
  all : putAll mark size ds l = putAll mark size (ds.drop k) L
  may : May mark size L
  b0 : wr.heap[gv]? = some (.cells #[.int .i64 mark, .slice A L.length c, .int .i64 size] 65 (0, 0))
  b1 : wr.heap[w.heap.size + 1]? = some (.cells #[.int .i64 0, .slice none 0 0] 24 (0, 0))
  s : Kd.S k32 32 wr (w.heap.size + 2) (fun _ => True) (.slice A L.length c) L
  bel : Below w.heap.size w wr
def window_Put.f (a0_0 : Int) (l0_1 : List (S32)) (a1 : Int) (l2 : List (S32)) : Option (Int × (List (S32)) × Int) := some (putsW a0_0 l0_1 a1 l2)
set_option maxHeartbeats 4000000 in
set_option maxRecDepth 100000 in
theorem window_Put.calls (a0_0 : Int) (A0_1 : Option Addr) (c0_1 : Nat) (l0_1 : List (S32)) (a1 : Int) (A2 : Option Addr) (c2 : Nat) (l2 : List (S32)) (r1 : Int) (r2 : List (S32)) (r3 : Int) (w : World) (hr0_1 : Kd.C k32 w A0_1 l0_1.length l0_1) (hc0_1 : l0_1.length ≤ c0_1) (hr2 : Kd.C k32 w A2 l2.length l2) (hc2 : l2.length ≤ c2) (h : window_Put.f a0_0 l0_1 a1 l2 = some (r1, r2, r3)) :
    Calls Try.prog 16 #[.agg #[.int .i64 a0_0, .slice A0_1 l0_1.length c0_1], .int .i64 a1, .slice A2 l2.length c2] w fun e w' => ∃ v1_ : Value, e = .returned (.tuple #[.agg #[.int .i64 r1, v1_], .int .i64 r3]) ∧ Kd.S k32 32 w' w.heap.size (fun _ => True) v1_ r2 ∧ Below w.heap.size w w' := by
  unfold window_Put.f at h
  replace h := Option.some.inj h
  have HR := Aside0.mk hr0_1
  have HC := Aside0.mk hc0_1
  have HR2 := Aside0.mk hr2
  have HC2 := Aside0.mk hc2
  have hmax : l2.length ≤ 9223372036854775807 := hr2.2.1
  have HH := Aside0.mk h
  clear hr0_1 hc0_1 hr2 hc2 h
  by_cases hk : checkW a0_0 l0_1 a1 = 0
  · have HK := Aside0.mk (show window_Check.f a0_0 l0_1 a1 = some 0 by unfold window_Check.f; rw [hk])
    have HM := Aside0.mk (may_of _ _ _ hk)
    have HCL : Aside0 (window_Clone.f a0_0 l0_1 = some (a0_0, l0_1)) := ⟨by
      have hm := HM.out
      have := hm.len
      have := hm.s2
      unfold window_Clone.f
      rw [if_pos ⟨by omega, fun d hd => by
        obtain ⟨i, hi, rfl⟩ := List.mem_iff_getElem.1 hd
        have := (hm.bds i hi).2.2.2.2
        rw [show l0_1.getD i z32 = l0_1[i] by simp [List.getElem?_eq_getElem hi]] at this
        omega⟩]⟩
    have HPW : Aside0 (putsW a0_0 l0_1 a1 l2 = if (putAll a0_0 a1 l2 l0_1).1 = 0 then (a0_0, (putAll a0_0 a1 l2 l0_1).2, 0) else (0, [], (putAll a0_0 a1 l2 l0_1).1)) := ⟨by unfold putsW; rw [if_neg (by rw [hk]; simp)]⟩
    rw [HPW.out] at HH
    clear hk HPW
    go_enter Try.func16, Try.ntmps16
    go_wp2_with (go_at_call 14; (with_reducible refine (window_Check.calls a0_0 A0_1 c0_1 l0_1 a1 0 _ ?hr1 HC.out HK.out).mono ?_); (case hr1 => exact Kd.C_alloc (Kd.C_alloc HR.out _) _); rintro e w1 ⟨rfl, hb⟩; have HB1 := Aside0.mk (below_then (below_alloc (below_alloc (Below.refl _ _) _) _) (by simp; omega) hb); have BK := Aside0.mk ((hb.block (w.heap.size + 1) (by simp)).trans (heap_new2 w _ _)); have BK0 := Aside0.mk ((hb.block w.heap.size (by simp; omega)).trans (blk_alloc (heap_new1 w _) _)); have hlt1 : w.heap.size + 1 < w1.heap.size := blk_lt BK.out; have hcw0 : w1.cell? ⟨w.heap.size, 0, none⟩ = some (.int .i64 a0_0) := (blk_cell BK0.out 0).trans rfl; have hcw1 : w1.cell? ⟨w.heap.size, 1, none⟩ = some (.slice A0_1 l0_1.length c0_1) := (blk_cell BK0.out 1).trans rfl; clear hb)
    go_at_call 30
    with_reducible refine (window_Clone.calls a0_0 A0_1 c0_1 l0_1 a0_0 l0_1 _ (Kd.C_below HR.out HB1.out) HC.out HCL.out).mono ?_
    rintro e w2 ⟨v1, rfl, hS, hb⟩
    have HB2 := Aside0.mk (below_then HB1.out HB1.out.size hb)
    have BK2 := Aside0.mk (blk_below BK.out hb)
    have hlt2 : w.heap.size + 1 < w2.heap.size := blk_lt BK2.out
    have HS2 := Aside0.mk (Kd.S_lower hS (show w.heap.size + 2 ≤ w1.heap.size by omega))
    obtain ⟨A1, c1, rfl⟩ := Kd.R_slice (Kd.S_R HS2.out)
    clear hS hb hcw0 hcw1
    go_wp2_with fail
    go_loopw [27] (fun v27 wr => ∃ (k : Nat) (A : Option Addr) (c : Nat) (L : List S32), v27 = .int .i64 k ∧ k ≤ l2.length ∧ Aside0 (PutsInv w a0_0 a1 l0_1 l2 w2.heap.size k A c L wr)) (fun v27 _ => l2.length - (intOf v27).toNat)
    case atStart =>
      exact ⟨0, A1, c1, l0_1, rfl, by omega, ⟨by rw [List.drop_zero], HM.out, heap_new1 w2 _, blk_alloc BK2.out _, Kd.S_alloc HS2.out _, below_alloc HB2.out _⟩⟩
    case round =>
      obtain ⟨k, A, c, L, rfl, hk, HI⟩ := hrel
      by_cases hlt : k < l2.length
      · obtain ⟨ad, A2, c2, e1, q0, q1, q2, q3, q4⟩ := at_T32 (Kd.C_below HR2.out HI.out.bel) (k : Int) (by omega) (by omega)
        simp only [Int.toNat_natCast] at q0 q1 q2
        have hrd : rd_T32 l2 (k : Int) = l2.getD k z32 := by simp [rd_T32]
        rw [hrd] at q0 q1 q2 q3 q4
        obtain ⟨d, hd⟩ : ∃ d, d = l2.getD k z32 := ⟨_, rfl⟩
        rw [← hd] at q0 q1 q2 q3 q4
        have HDR : Aside0 (l2.drop k = d :: l2.drop (k + 1)) := ⟨by rw [List.drop_eq_getElem_cons hlt, hd]; simp [List.getD_eq_getElem?_getD, List.getElem?_eq_getElem hlt]⟩
        have b1 : decide ((k : Int) < (l2.length : Int)) = true := decide_eq_true (by omega)
        have b1' : decide (k < l2.length) = true := decide_eq_true hlt
        have Q3 := Aside0.mk q3
        have Q4 := Aside0.mk q4
        have hw2 : w2.heap.size < wr.heap.size := blk_lt HI.out.b0
        clear q3 q4 hrd hd
        subst e1
        go_wp2_with fail
        go_at_call 37
        with_reducible refine (window_put w2.heap.size a0_0 a1 A c L d A2 c2 (w.heap.size + 2) _ (blk_alloc HI.out.b0 _) (Kd.S_alloc HI.out.s _) HI.out.may (by omega) (by simp; omega) (Kd.C_alloc Q4.out _) Q3.out).mono ?_
        rintro e wc ⟨rfl, hx, hb⟩
        have HX := Aside0.mk hx.out
        have HB := Aside0.mk (below_weaken (below_alloc HI.out.bel _) (by omega) hb)
        have BK1 := Aside0.mk ((hb.block (w.heap.size + 1) (by omega)).trans (blk_alloc HI.out.b1 _))
        clear hx hb q0 q1 q2
        by_cases hp : (putW a0_0 a1 L d).1 = 0
        · have HPA : Aside0 (putAll a0_0 a1 (l2.drop k) L = putAll a0_0 a1 (l2.drop (k + 1)) (putW a0_0 a1 L d).2) := ⟨by rw [HDR.out, putAll, if_pos hp]⟩
          have HPM := Aside0.mk (may_put a0_0 a1 L d HI.out.may hp)
          rw [hp]
          clear hp
          go_wp2
          go_roundw
          case rel =>
            obtain ⟨A', c', hg', hS'⟩ := HX.out
            exact ⟨k + 1, A', c', _, by simp, by omega, ⟨HI.out.all.trans HPA.out, by rw [HPM.out.1]; exact HPM.out.2, hg', BK1.out, hS', HB.out⟩⟩
          case measure => simp [intOf]; omega
        · obtain ⟨E, hE⟩ : ∃ E, E = (putW a0_0 a1 L d).1 := ⟨_, rfl⟩
          have HPA : Aside0 (putAll a0_0 a1 l2 l0_1 = (E, [])) := ⟨by rw [HI.out.all, HDR.out, putAll, if_neg hp, hE]⟩
          rw [HPA.out] at HH
          have hne : (E == 0) = false := by rw [hE]; simpa using hp
          have h0 : ¬ E = 0 := by rw [hE]; exact hp
          rw [← hE]
          clear hE hp
          rw [if_neg h0] at HH
          obtain ⟨⟨⟩⟩ := HH
          have hw1 : w.heap.size + 1 < wc.heap.size := blk_lt BK1.out
          have hcz0 : wc.cell? ⟨w.heap.size + 1, 0, none⟩ = some (.int .i64 0) := (blk_cell BK1.out 0).trans rfl
          have hcz1 : wc.cell? ⟨w.heap.size + 1, 1, none⟩ = some (.slice none 0 0) := (blk_cell BK1.out 1).trans rfl
          have hfz0 := blk_frozen BK1.out 0
          have hfz1 := blk_frozen BK1.out 1
          go_wp2
          refine bodyPost_ret (results_list (rs := [.cell 6 24, .tmp 7]) rfl (by simp) (.cell (w.heap.size + 1) 24 #[.int .i64 0, .slice none 0 0] (0, 0) _ rfl (blk_put (cs := #[.int .i64 0, .slice none 0 0]) (blk_put (cs := #[.int .i64 0, .slice none 0 0]) BK1.out 0 _ rfl) 1 _ rfl) Try.underlying24 rfl (by kernel_rfl) (.tmp .nil))) rfl ?_
          exact ⟨_, rfl, Kd.S_nil _ _ _ _ _, below_set (below_set HB.out (by simp)) (by simp)⟩
      · have b1 : decide ((k : Int) < (l2.length : Int)) = false := decide_eq_false (by omega)
        have b1' : decide (k < l2.length) = false := decide_eq_false hlt
        have y0 : wr.cell? ⟨w2.heap.size, 0, none⟩ = some (.int .i64 a0_0) := (blk_cell HI.out.b0 0).trans rfl
        have y1 : wr.cell? ⟨w2.heap.size, 1, none⟩ = some (.slice A L.length c) := (blk_cell HI.out.b0 1).trans rfl
        have hw2 : w2.heap.size < wr.heap.size := blk_lt HI.out.b0
        have hw1 : w.heap.size + 1 < wr.heap.size := blk_lt HI.out.b1
        have hcz0 : wr.cell? ⟨w.heap.size + 1, 0, none⟩ = some (.int .i64 0) := (blk_cell HI.out.b1 0).trans rfl
        have hcz1 : wr.cell? ⟨w.heap.size + 1, 1, none⟩ = some (.slice none 0 0) := (blk_cell HI.out.b1 1).trans rfl
        have hfz0 := blk_frozen HI.out.b1 0
        have hfz1 := blk_frozen HI.out.b1 1
        go_wp2
        have HPA : Aside0 (putAll a0_0 a1 l2 l0_1 = (0, L)) := ⟨by rw [HI.out.all, List.drop_of_length_le (by omega)]; rfl⟩
        rw [HPA.out] at HH
        obtain ⟨⟨⟩⟩ := HH
        refine bodyPost_ret (results_list (rs := [.cell 6 24, .tmp 7]) rfl (by simp) (.cell (w.heap.size + 1) 24 #[.int .i64 a0_0, .slice A L.length c] (0, 0) _ rfl (blk_put (cs := #[.int .i64 a0_0, .slice none 0 0]) (blk_put (cs := #[.int .i64 0, .slice none 0 0]) HI.out.b1 0 _ rfl) 1 _ rfl) Try.underlying24 rfl (by kernel_rfl) (.tmp .nil))) rfl ?_
        exact ⟨_, rfl, Kd.S_lower (Kd.S_set (Kd.S_set HI.out.s HI.out.b1 (by decide) 0 _) (blk_put (cs := #[.int .i64 0, .slice none 0 0]) HI.out.b1 0 _ rfl) (by decide) 1 _) (by omega), below_set (below_set HI.out.bel (by simp)) (by simp)⟩
  · obtain ⟨E, hE⟩ : ∃ E, E = checkW a0_0 l0_1 a1 := ⟨_, rfl⟩
    have HK := Aside0.mk (show window_Check.f a0_0 l0_1 a1 = some E by unfold window_Check.f; rw [hE])
    have HS : Aside0 (putsW a0_0 l0_1 a1 l2 = (0, [], E)) := ⟨by unfold putsW; rw [if_pos hk, hE]⟩
    have hne : (E == 0) = false := by rw [hE]; simpa using hk
    have h0 : ¬ E = 0 := by rw [hE]; exact hk
    clear hk hE
    rw [HS.out] at HH
    obtain ⟨⟨⟩⟩ := HH
    go_enter Try.func16, Try.ntmps16
    go_wp2_with (go_at_call 14; (with_reducible refine (window_Check.calls a0_0 A0_1 c0_1 l0_1 a1 r3 _ ?hr1 HC.out HK.out).mono ?_); (case hr1 => exact Kd.C_alloc (Kd.C_alloc HR.out _) _); rintro e w1 ⟨rfl, hb⟩; have HB1 := Aside0.mk (below_then (below_alloc (below_alloc (Below.refl _ _) _) _) (by simp; omega) hb); have BK := Aside0.mk ((hb.block (w.heap.size + 1) (by simp)).trans (heap_new2 w _ _)); have hlt1 : w.heap.size + 1 < w1.heap.size := blk_lt BK.out; have hcz0 : w1.cell? ⟨w.heap.size + 1, 0, none⟩ = some (.int .i64 0) := (blk_cell BK.out 0).trans rfl; have hcz1 : w1.cell? ⟨w.heap.size + 1, 1, none⟩ = some (.slice none 0 0) := (blk_cell BK.out 1).trans rfl; have hfz0 := blk_frozen BK.out 0; have hfz1 := blk_frozen BK.out 1; clear hb)
    refine bodyPost_ret (results_list (rs := [.cell 6 24, .tmp 7]) rfl (by simp) (.cell (w.heap.size + 1) 24 #[.int .i64 0, .slice none 0 0] (0, 0) _ rfl (blk_put (cs := #[.int .i64 0, .slice none 0 0]) (blk_put (cs := #[.int .i64 0, .slice none 0 0]) BK.out 0 _ rfl) 1 _ rfl) Try.underlying24 rfl (by kernel_rfl) (.tmp .nil))) rfl ?_
    exact ⟨_, rfl, Kd.S_nil _ _ _ _ _, below_set (below_set HB1.out (by simp)) (by simp)⟩

end Go.Proofs.Ytkdkjnjiianogaa.G
