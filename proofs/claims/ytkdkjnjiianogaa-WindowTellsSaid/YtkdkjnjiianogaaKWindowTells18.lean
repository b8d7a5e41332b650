/- WindowTells: texts of this claim, packed: what the kit's print has written for it and own texts, without what its proof does not reach. -/
import Derived.Test.YtkdkjnjiianogaaKWindowTells12
import Derived.Test.YtkdkjnjiianogaaKWindowTells15
import Derived.Test.YtkdkjnjiianogaaKWindowTells17
set_option linter.unusedVariables false
set_option linter.unusedSimpArgs false
set_option linter.unusedSectionVars false
section
namespace Go.Proofs.Ytkdkjnjiianogaa.G
open WB Go.RowKit Go.Proofs.YtkdkjnjiianogaaW.PrintWords Go.Proofs.YtkdkjnjiianogaaW.PrintLast Go.Proofs.YtkdkjnjiianogaaW.PrintMore
attribute [local go_sem] max2_int min2_int max_two min_two max_three min_three max_four min_four   -- for this text's walks alone
set_option linter.unusedVariables false
set_option linter.unusedSimpArgs false
structure PutsInv (w : World) (mark size : Int) (l : List S32) (ds : List S32) (gv k : Nat) (A : Option Addr) (c : Nat) (L : List S32) (wr : World) : Prop where
  all : putAll mark size ds l = putAll mark size (ds.drop k) L
  may : May mark size L
  b0 : wr.heap[gv]? = some (.cells #[.int .i64 mark, .slice A L.length c, .int .i64 size] 65 (0, 0))
  b1 : wr.heap[w.heap.size + 1]? = some (.cells #[.int .i64 0, .slice none 0 0] 24 (0, 0))
  s : Kd.S k32 32 wr (w.heap.size + 2) (fun _ => True) (.slice A L.length c) L
  bel : Below w.heap.size w wr
def window_Put.f (a0_0 : Int) (l0_1 : List (S32)) (a1 : Int) (l2 : List (S32)) : Option (Int × (List (S32)) × Int) := some (putsW a0_0 l0_1 a1 l2)
set_option maxHeartbeats 4000000 in
set_option maxRecDepth 100000 in
theorem window_Put.calls (a0_0 : Int) (A0_1 : Option Addr) (c0_1 : Nat) (l0_1 : List (S32)) (a1 : Int) (A2 : Option Addr) (c2 : Nat) (l2 : List (S32)) (r1 : Int) (r2 : List (S32)) (r3 : Int) (w : World) (hr0_1 : Kd.C k32 w A0_1 l0_1.length l0_1) (hc0_1 : l0_1.length ≤ c0_1) (hr2 : Kd.C k32 w A2 l2.length l2) (hc2 : l2.length ≤ c2) (h : window_Put.f a0_0 l0_1 a1 l2 = some (r1, r2, r3)) :
    Calls Try.prog 16 #[.agg #[.int .i64 a0_0, .slice A0_1 l0_1.length c0_1], .int .i64 a1, .slice A2 l2.length c2] w fun e w' => ∃ v1_ : Value, e = .returned (.tuple #[.agg #[.int .i64 r1, v1_], .int .i64 r3]) ∧ Kd.S k32 32 w' w.heap.size (fun _ => True) v1_ r2 ∧ Below w.heap.size w w' := by
  unfold window_Put.f at h
  replace h := Option.some.inj h
  have HR := Aside0.mk hr0_1
  have HC := Aside0.mk hc0_1
  have HR2 := Aside0.mk hr2
  have HC2 := Aside0.mk hc2
  have hmax : l2.length ≤ 9223372036854775807 := hr2.2.1
  have HH := Aside0.mk h
  clear hr0_1 hc0_1 hr2 hc2 h
  by_cases hk : checkW a0_0 l0_1 a1 = 0
  · have HK := Aside0.mk (show window_Check.f a0_0 l0_1 a1 = some 0 by unfold window_Check.f; rw [hk])
    have HM := Aside0.mk (may_of _ _ _ hk)
    have HCL : Aside0 (window_Clone.f a0_0 l0_1 = some (a0_0, l0_1)) := ⟨by
      have hm := HM.out
      have := hm.len
      have := hm.s2
      unfold window_Clone.f
      rw [if_pos ⟨by omega, fun d hd => by
        obtain ⟨i, hi, rfl⟩ := List.mem_iff_getElem.1 hd
        have := (hm.bds i hi).2.2.2.2
        rw [show l0_1.getD i z32 = l0_1[i] by simp [List.getElem?_eq_getElem hi]] at this
        omega⟩]⟩
    have HPW : Aside0 (putsW a0_0 l0_1 a1 l2 = if (putAll a0_0 a1 l2 l0_1).1 = 0 then (a0_0, (putAll a0_0 a1 l2 l0_1).2, 0) else (0, [], (putAll a0_0 a1 l2 l0_1).1)) := ⟨by unfold putsW; rw [if_neg (by rw [hk]; simp)]⟩
    rw [HPW.out] at HH
    clear hk HPW
    go_enter Try.func16, Try.ntmps16
    go_wp2_with (go_at_call 14; (with_reducible refine (window_Check.calls a0_0 A0_1 c0_1 l0_1 a1 0 _ ?hr1 HC.out HK.out).mono ?_); (case hr1 => exact Kd.C_alloc (Kd.C_alloc HR.out _) _); rintro e w1 ⟨rfl, hb⟩; have HB1 := Aside0.mk (below_then (below_alloc (below_alloc (Below.refl _ _) _) _) (by simp; omega) hb); have BK := Aside0.mk ((hb.block (w.heap.size + 1) (by simp)).trans (heap_new2 w _ _)); have BK0 := Aside0.mk ((hb.block w.heap.size (by simp; omega)).trans (blk_alloc (heap_new1 w _) _)); have hlt1 : w.heap.size + 1 < w1.heap.size := blk_lt BK.out; have hcw0 : w1.cell? ⟨w.heap.size, 0, none⟩ = some (.int .i64 a0_0) := (blk_cell BK0.out 0).trans rfl; have hcw1 : w1.cell? ⟨w.heap.size, 1, none⟩ = some (.slice A0_1 l0_1.length c0_1) := (blk_cell BK0.out 1).trans rfl; clear hb)
    go_at_call 30
    with_reducible refine (window_Clone.calls a0_0 A0_1 c0_1 l0_1 a0_0 l0_1 _ (Kd.C_below HR.out HB1.out) HC.out HCL.out).mono ?_
    rintro e w2 ⟨v1, rfl, hS, hb⟩
    have HB2 := Aside0.mk (below_then HB1.out HB1.out.size hb)
    have BK2 := Aside0.mk (blk_below BK.out hb)
    have hlt2 : w.heap.size + 1 < w2.heap.size := blk_lt BK2.out
    have HS2 := Aside0.mk (Kd.S_lower hS (show w.heap.size + 2 ≤ w1.heap.size by omega))
    obtain ⟨A1, c1, rfl⟩ := Kd.R_slice (Kd.S_R HS2.out)
    clear hS hb hcw0 hcw1
    go_wp2_with fail
    go_loopw [27] (fun v27 wr => ∃ (k : Nat) (A : Option Addr) (c : Nat) (L : List S32), v27 = .int .i64 k ∧ k ≤ l2.length ∧ Aside0 (PutsInv w a0_0 a1 l0_1 l2 w2.heap.size k A c L wr)) (fun v27 _ => l2.length - (intOf v27).toNat)
    case atStart =>
      exact ⟨0, A1, c1, l0_1, rfl, by omega, ⟨by rw [List.drop_zero], HM.out, heap_new1 w2 _, blk_alloc BK2.out _, Kd.S_alloc HS2.out _, below_alloc HB2.out _⟩⟩
    case round =>
      obtain ⟨k, A, c, L, rfl, hk, HI⟩ := hrel
      by_cases hlt : k < l2.length
      · obtain ⟨ad, A2, c2, e1, q0, q1, q2, q3, q4⟩ := at_T32 (Kd.C_below HR2.out HI.out.bel) (k : Int) (by omega) (by omega)
        simp only [Int.toNat_natCast] at q0 q1 q2
        have hrd : rd_T32 l2 (k : Int) = l2.getD k z32 := by simp [rd_T32]
        rw [hrd] at q0 q1 q2 q3 q4
        obtain ⟨d, hd⟩ : ∃ d, d = l2.getD k z32 := ⟨_, rfl⟩
        rw [← hd] at q0 q1 q2 q3 q4
        have HDR : Aside0 (l2.drop k = d :: l2.drop (k + 1)) := ⟨by rw [List.drop_eq_getElem_cons hlt, hd]; simp [List.getD_eq_getElem?_getD, List.getElem?_eq_getElem hlt]⟩
        have b1 : decide ((k : Int) < (l2.length : Int)) = true := decide_eq_true (by omega)
        have b1' : decide (k < l2.length) = true := decide_eq_true hlt
        have Q3 := Aside0.mk q3
        have Q4 := Aside0.mk q4
        have hw2 : w2.heap.size < wr.heap.size := blk_lt HI.out.b0
        clear q3 q4 hrd hd
        subst e1
        go_wp2_with fail
        go_at_call 37
        with_reducible refine (window_put w2.heap.size a0_0 a1 A c L d A2 c2 (w.heap.size + 2) _ (blk_alloc HI.out.b0 _) (Kd.S_alloc HI.out.s _) HI.out.may (by omega) (by simp; omega) (Kd.C_alloc Q4.out _) Q3.out).mono ?_
        rintro e wc ⟨rfl, hx, hb⟩
        have HX := Aside0.mk hx.out
        have HB := Aside0.mk (below_weaken (below_alloc HI.out.bel _) (by omega) hb)
        have BK1 := Aside0.mk ((hb.block (w.heap.size + 1) (by omega)).trans (blk_alloc HI.out.b1 _))
        clear hx hb q0 q1 q2
        by_cases hp : (putW a0_0 a1 L d).1 = 0
        · have HPA : Aside0 (putAll a0_0 a1 (l2.drop k) L = putAll a0_0 a1 (l2.drop (k + 1)) (putW a0_0 a1 L d).2) := ⟨by rw [HDR.out, putAll, if_pos hp]⟩
          have HPM := Aside0.mk (may_put a0_0 a1 L d HI.out.may hp)
          rw [hp]
          clear hp
          go_wp2
          go_roundw
          case rel =>
            obtain ⟨A', c', hg', hS'⟩ := HX.out
            exact ⟨k + 1, A', c', _, by simp, by omega, ⟨HI.out.all.trans HPA.out, by rw [HPM.out.1]; exact HPM.out.2, hg', BK1.out, hS', HB.out⟩⟩
          case measure => simp [intOf]; omega
        · obtain ⟨E, hE⟩ : ∃ E, E = (putW a0_0 a1 L d).1 := ⟨_, rfl⟩
          have HPA : Aside0 (putAll a0_0 a1 l2 l0_1 = (E, [])) := ⟨by rw [HI.out.all, HDR.out, putAll, if_neg hp, hE]⟩
          rw [HPA.out] at HH
          have hne : (E == 0) = false := by rw [hE]; simpa using hp
          have h0 : ¬ E = 0 := by rw [hE]; exact hp
          rw [← hE]
          clear hE hp
          rw [if_neg h0] at HH
          obtain ⟨⟨⟩⟩ := HH
          have hw1 : w.heap.size + 1 < wc.heap.size := blk_lt BK1.out
          have hcz0 : wc.cell? ⟨w.heap.size + 1, 0, none⟩ = some (.int .i64 0) := (blk_cell BK1.out 0).trans rfl
          have hcz1 : wc.cell? ⟨w.heap.size + 1, 1, none⟩ = some (.slice none 0 0) := (blk_cell BK1.out 1).trans rfl
          have hfz0 := blk_frozen BK1.out 0
          have hfz1 := blk_frozen BK1.out 1
          go_wp2
          refine bodyPost_ret (results_list (rs := [.cell 6 24, .tmp 7]) rfl (by simp) (.cell (w.heap.size + 1) 24 #[.int .i64 0, .slice none 0 0] (0, 0) _ rfl (blk_put (cs := #[.int .i64 0, .slice none 0 0]) (blk_put (cs := #[.int .i64 0, .slice none 0 0]) BK1.out 0 _ rfl) 1 _ rfl) Try.underlying24 rfl (by kernel_rfl) (.tmp .nil))) rfl ?_
          exact ⟨_, rfl, Kd.S_nil _ _ _ _ _, below_set (below_set HB.out (by simp)) (by simp)⟩
      · have b1 : decide ((k : Int) < (l2.length : Int)) = false := decide_eq_false (by omega)
        have b1' : decide (k < l2.length) = false := decide_eq_false hlt
        have y0 : wr.cell? ⟨w2.heap.size, 0, none⟩ = some (.int .i64 a0_0) := (blk_cell HI.out.b0 0).trans rfl
        have y1 : wr.cell? ⟨w2.heap.size, 1, none⟩ = some (.slice A L.length c) := (blk_cell HI.out.b0 1).trans rfl
        have hw2 : w2.heap.size < wr.heap.size := blk_lt HI.out.b0
        have hw1 : w.heap.size + 1 < wr.heap.size := blk_lt HI.out.b1
        have hcz0 : wr.cell? ⟨w.heap.size + 1, 0, none⟩ = some (.int .i64 0) := (blk_cell HI.out.b1 0).trans rfl
        have hcz1 : wr.cell? ⟨w.heap.size + 1, 1, none⟩ = some (.slice none 0 0) := (blk_cell HI.out.b1 1).trans rfl
        have hfz0 := blk_frozen HI.out.b1 0
        have hfz1 := blk_frozen HI.out.b1 1
        go_wp2
        have HPA : Aside0 (putAll a0_0 a1 l2 l0_1 = (0, L)) := ⟨by rw [HI.out.all, List.drop_of_length_le (by omega)]; rfl⟩
        rw [HPA.out] at HH
        obtain ⟨⟨⟩⟩ := HH
        refine bodyPost_ret (results_list (rs := [.cell 6 24, .tmp 7]) rfl (by simp) (.cell (w.heap.size + 1) 24 #[.int .i64 a0_0, .slice A L.length c] (0, 0) _ rfl (blk_put (cs := #[.int .i64 a0_0, .slice none 0 0]) (blk_put (cs := #[.int .i64 0, .slice none 0 0]) HI.out.b1 0 _ rfl) 1 _ rfl) Try.underlying24 rfl (by kernel_rfl) (.tmp .nil))) rfl ?_
        exact ⟨_, rfl, Kd.S_lower (Kd.S_set (Kd.S_set HI.out.s HI.out.b1 (by decide) 0 _) (blk_put (cs := #[.int .i64 0, .slice none 0 0]) HI.out.b1 0 _ rfl) (by decide) 1 _) (by omega), below_set (below_set HI.out.bel (by simp)) (by simp)⟩
  · obtain ⟨E, hE⟩ : ∃ E, E = checkW a0_0 l0_1 a1 := ⟨_, rfl⟩
    have HK := Aside0.mk (show window_Check.f a0_0 l0_1 a1 = some E by unfold window_Check.f; rw [hE])
    have HS : Aside0 (putsW a0_0 l0_1 a1 l2 = (0, [], E)) := ⟨by unfold putsW; rw [if_pos hk, hE]⟩
    have hne : (E == 0) = false := by rw [hE]; simpa using hk
    have h0 : ¬ E = 0 := by rw [hE]; exact hk
    clear hk hE
    rw [HS.out] at HH
    obtain ⟨⟨⟩⟩ := HH
    go_enter Try.func16, Try.ntmps16
    go_wp2_with (go_at_call 14; (with_reducible refine (window_Check.calls a0_0 A0_1 c0_1 l0_1 a1 r3 _ ?hr1 HC.out HK.out).mono ?_); (case hr1 => exact Kd.C_alloc (Kd.C_alloc HR.out _) _); rintro e w1 ⟨rfl, hb⟩; have HB1 := Aside0.mk (below_then (below_alloc (below_alloc (Below.refl _ _) _) _) (by simp; omega) hb); have BK := Aside0.mk ((hb.block (w.heap.size + 1) (by simp)).trans (heap_new2 w _ _)); have hlt1 : w.heap.size + 1 < w1.heap.size := blk_lt BK.out; have hcz0 : w1.cell? ⟨w.heap.size + 1, 0, none⟩ = some (.int .i64 0) := (blk_cell BK.out 0).trans rfl; have hcz1 : w1.cell? ⟨w.heap.size + 1, 1, none⟩ = some (.slice none 0 0) := (blk_cell BK.out 1).trans rfl; have hfz0 := blk_frozen BK.out 0; have hfz1 := blk_frozen BK.out 1; clear hb)
    refine bodyPost_ret (results_list (rs := [.cell 6 24, .tmp 7]) rfl (by simp) (.cell (w.heap.size + 1) 24 #[.int .i64 0, .slice none 0 0] (0, 0) _ rfl (blk_put (cs := #[.int .i64 0, .slice none 0 0]) (blk_put (cs := #[.int .i64 0, .slice none 0 0]) BK.out 0 _ rfl) 1 _ rfl) Try.underlying24 rfl (by kernel_rfl) (.tmp .nil))) rfl ?_
    exact ⟨_, rfl, Kd.S_nil _ _ _ _ _, below_set (below_set HB1.out (by simp)) (by simp)⟩
def waybillref01_Copied.f (l0 : List Int) : Option (List Int) := if ([] : List Int).length + l0.length < 140737488355328 then (some (([] : List Int) ++ l0)) else (none)
set_option maxHeartbeats 8000000 in
set_option maxRecDepth 100000 in
theorem waybillref01_Copied.calls (A0 : Option Addr) (c0 : Nat) (l0 : List Int) (r : List Int) (w : World) (hr0 : Kd.C (Kd.int .u8) w A0 l0.length l0) (hc0 : l0.length ≤ c0) (h : waybillref01_Copied.f l0 = some r) :
    Calls Try.prog 38 #[.slice A0 l0.length c0] w fun e w' => ∃ v0_ : Value, e = .returned (v0_) ∧ Kd.R (Kd.int .u8) 5 w' w.heap.size (fun _ => True) v0_ r ∧ Below w.heap.size w w' := by
  have HR0 := Aside0.mk hr0
  have HC0 := Aside0.mk hc0
  clear hr0 hc0
  have HB := Aside0.mk (Below.refl w.heap.size w)
  have H : (if ([] : List Int).length + l0.length < 140737488355328 then (some (([] : List Int) ++ l0)) else (none)) = some r := h
  clear h
  by_cases c2 : ([] : List Int).length + l0.length < 140737488355328
  · rw [if_pos c2] at H
    have LMc2 := Aside0.mk c2
    clear c2
    obtain ⟨y158, hy158⟩ : ∃ y_ : List Int, y_ = (([] : List Int) ++ l0) := ⟨_, rfl⟩
    replace H : (some y158) = some r := by first | (rw [hy158]; with_reducible exact H) | (have H2_ := (Option.bind_some _ _).symm.trans H; rw [hy158]; with_reducible exact H2_) | (have H2_ := (Option.bind_some _ _).symm.trans H; with_reducible exact H2_) | with_reducible exact H | (rw [hy158]; exact H) | exact H
    have Ny158 := Aside0.mk hy158
    clear hy158
    obtain rfl := Option.some.inj H
    simp only [Option.some.injEq, Prod.mk.injEq] at H
    obtain ⟨rfl⟩ := H
    go_enter Try.func38, Try.ntmps38
    go_wp2_with (first | ((with_reducible refine gate_builtin (b := .append) (xs := #[.tmp 4, .tmp 5]) rfl ?_); at_builtin; refine Kd.R_append_rows (Kd.int .u8) (w0 := w) w.heap.size rfl (.tmp 4) (.tmp 5) 30 5 (.int .u8 0) 1 rfl Try.underlying30 info5 rfl (by decide) (by omega) (.slice none 0 0) ([] : List Int) l0 _ _ _ (fun _ => True) (fun _ => False) rfl rfl ?aO ?aR (fun _ _ h => h) (fun _ h => h.elim) ?aF ?aB ?aS ?aL ?_; (case aR => repeat (first | exact HR0.out | (with_reducible refine Kd.C_alloc ?_ _) | (with_reducible refine Kd.C_drewN ?_ _) | (with_reducible refine Kd.C_drew ?_))); (case aB => exact (by repeat (first | (with_reducible first | exact HB.out | apply below_alloc | apply pw_below_drewN | apply below_drew1) | exact HB.out))); (case aF => exact (fun _ _ => trivial)); (case aO => exact ((Kd.R_nil _ _ _ _ (fun _ => True)))); (case aS => exact (below_size (by repeat (first | (with_reducible first | exact HB.out | apply below_alloc | apply pw_below_drewN | apply below_drew1) | exact HB.out)))); (case aL => have := LMc2.out; omega); intro v159 w3 ho hb hg hat; rw [← Ny158.out] at ho; have n0_ := Aside0.mk (hb); have n1_ := Aside0.mk (ho); clear HB; have HB := n0_; have HO160 := n1_; clear n0_ n1_; clear ho hb hg hat))
    go_ret
    exact ⟨_, by first | rfl | (simp [errW_none, errW_some] <;> rfl) | (simp [*, errW_none, errW_some] <;> rfl), by (with_reducible repeat (first | apply Kd.R_alloc | apply Kd.R_drewN | apply Kd.R_drew)); exact HO160.out, by repeat (first | (with_reducible first | exact HB.out | apply below_alloc | apply pw_below_drewN | apply below_drew1) | exact HB.out)⟩
  · rw [if_neg c2] at H
    exact absurd H (by simp)
def waybillref22_Kept.f (a0_0 : Int) (a0_1 : Int) (l0_2 : List Int) : Option (Int × Int × List Int) := (waybillref01_Copied.f l0_2).bind fun t163 => (some (a0_0, a0_1, t163))
set_option maxHeartbeats 8000000 in
set_option maxRecDepth 100000 in
theorem waybillref22_Kept.calls (a0_0 : Int) (a0_1 : Int) (A0_2 : Option Addr) (c0_2 : Nat) (l0_2 : List Int) (r1 : Int) (r2 : Int) (r3 : List Int) (w : World) (hr0_2 : Kd.C (Kd.int .u8) w A0_2 l0_2.length l0_2) (hc0_2 : l0_2.length ≤ c0_2) (h : waybillref22_Kept.f a0_0 a0_1 l0_2 = some (r1, r2, r3)) :
    Calls Try.prog 18 #[.agg #[.int .i64 a0_0, .int .i64 a0_1, .slice A0_2 l0_2.length c0_2]] w fun e w' => ∃ v2_ : Value, e = .returned (.agg #[.int .i64 r1, .int .i64 r2, v2_]) ∧ Kd.R (Kd.int .u8) 5 w' w.heap.size (fun _ => True) v2_ r3 ∧ Below w.heap.size w w' := by
  have hu32 := Try.underlying32
  have HR0_2 := Aside0.mk hr0_2
  have HC0_2 := Aside0.mk hc0_2
  clear hr0_2 hc0_2
  have HB := Aside0.mk (Below.refl w.heap.size w)
  have H : ((waybillref01_Copied.f l0_2).bind fun t163 => (some (a0_0, a0_1, t163))) = some (r1, r2, r3) := h
  clear h
  replace H := Option.bind_eq_some_iff.mp H
  obtain ⟨t163, A20, H⟩ := H
  replace H : (some (a0_0, a0_1, t163)) = some (r1, r2, r3) := H
  have A2 := Aside0.mk A20
  clear A20
  simp only [Option.some.injEq, Prod.mk.injEq] at H
  obtain ⟨rfl, rfl, rfl⟩ := H
  go_enter Try.func18, Try.ntmps18
  go_wp2_with (first | ((with_reducible refine gate_dst (N := 1) rfl ?_); refine box_event ?hg (N := 1) ?hd (cs := #[.int .i64 a0_0, .int .i64 a0_1, .slice A0_2 l0_2.length c0_2]) (t := 32) ?hr ?_; (case hd => rfl); (case hg => rfl); (case hr => first | (go_simp; done) | (go_simp; rfl)); intro gb161 hg w3 hbox hb; have n0_ := Aside0.mk (below_step (by repeat (first | (with_reducible first | exact HB.out | apply below_alloc | apply pw_below_drewN | apply below_drew1) | exact HB.out)) hb); have n1_ := Aside0.mk (hbox); have n2_ := Aside0.mk ((by rw [hg]; exact (below_size (by repeat (first | (with_reducible first | exact HB.out | apply below_alloc | apply pw_below_drewN | apply below_drew1) | exact HB.out))) : w.heap.size ≤ gb161)); have n3_ := Aside0.mk ((by rw [hg]; exact (below_size (by repeat (first | (with_reducible first | exact HB.out | apply below_alloc | apply pw_below_drewN | apply below_drew1) | exact HB.out))) : w.heap.size ≤ gb161)); clear HB; have HB := n0_; have BK161 := n1_; have GW161 := n2_; have GE161 := n3_; clear n0_ n1_ n2_ n3_; clear hb hbox hg) | ((with_reducible refine gate_dst (N := 2) rfl ?_); refine box_event ?hg (N := 2) ?hd (cs := #[.int .i64 0, .int .i64 0, .slice none 0 0]) (t := 32) ?hr ?_; (case hd => rfl); (case hg => rfl); (case hr => first | (go_simp; done) | (go_simp; rfl)); intro gb162 hg w4 hbox hb; have n0_ := Aside0.mk (blk_below (g := gb161) (o := .cells #[.int .i64 a0_0, .int .i64 a0_1, .slice A0_2 l0_2.length c0_2] 32 (0, 0)) (by (with_reducible repeat (first | refine blk_drewN ?_ _ | refine blk_drew ?_ | refine blk_alloc ?_ _)); exact BK161.out) hb); have n1_ := Aside0.mk (below_step (by repeat (first | (with_reducible first | exact HB.out | apply below_alloc | apply pw_below_drewN | apply below_drew1 | refine below_set ?_ GE161.out) | exact HB.out)) hb); have n2_ := Aside0.mk (hbox); have n3_ := Aside0.mk ((by rw [hg]; exact (below_size (by repeat (first | (with_reducible first | exact HB.out | apply below_alloc | apply pw_below_drewN | apply below_drew1 | refine below_set ?_ GE161.out) | exact HB.out))) : w.heap.size ≤ gb162)); have n4_ := Aside0.mk ((by rw [hg]; exact (below_size (by repeat (first | (with_reducible first | exact HB.out | apply below_alloc | apply pw_below_drewN | apply below_drew1 | refine below_set ?_ GE161.out) | exact HB.out))) : w.heap.size ≤ gb162)); have n5_ := Aside0.mk ((by rw [hg]; exact Nat.ne_of_lt (blk_lt (g := gb161) (o := .cells #[.int .i64 a0_0, .int .i64 a0_1, .slice A0_2 l0_2.length c0_2] 32 (0, 0)) (by (with_reducible repeat (first | refine blk_drewN ?_ _ | refine blk_drew ?_ | refine blk_alloc ?_ _)); exact BK161.out)) : gb161 ≠ gb162)); have n6_ := Aside0.mk ((by rw [hg]; exact Nat.ne_of_gt (blk_lt (g := gb161) (o := .cells #[.int .i64 a0_0, .int .i64 a0_1, .slice A0_2 l0_2.length c0_2] 32 (0, 0)) (by (with_reducible repeat (first | refine blk_drewN ?_ _ | refine blk_drew ?_ | refine blk_alloc ?_ _)); exact BK161.out)) : gb162 ≠ gb161)); clear BK161; clear HB; have BK161 := n0_; have HB := n1_; have BK162 := n2_; have GW162 := n3_; have GE162 := n4_; have NB161_162 := n5_; have NB162_161 := n6_; clear n0_ n1_ n2_ n3_ n4_ n5_ n6_; clear hb hbox hg; have hnb5 := NB161_162.out; have hnc5 := NB162_161.out; have hcz6_0 : w4.cell? ⟨gb161, 0, none⟩ = some (.int .i64 a0_0) := (blk_cell BK161.out 0).trans rfl; have hcz6_1 : w4.cell? ⟨gb161, 1, none⟩ = some (.int .i64 a0_1) := (blk_cell BK161.out 1).trans rfl; have hcz6_2 : w4.cell? ⟨gb161, 2, none⟩ = some (.slice A0_2 l0_2.length c0_2) := (blk_cell BK161.out 2).trans rfl; have hfz6_0 := blk_frozen BK161.out 0; have hfz6_1 := blk_frozen BK161.out 1; have hfz6_2 := blk_frozen BK161.out 2) | ((with_reducible refine gate_callee (f := 38) rfl ?_); refine goesL_ (some 5) rfl rfl Try.func38 (by kernel_rfl) rfl #[.slice A0_2 l0_2.length c0_2] rfl (by (try simp only [List.map_toArray, List.map_cons, List.map_nil]); first | done | rfl | (simp only [List.length_drop, List.length_take]; rfl)) ?_; (with_reducible refine (waybillref01_Copied.calls _ _ l0_2 t163 _ ?side1 ?side2 A2.out).mono ?_); (case side1 => repeat (first | exact (Kd.C_below HR0_2.out HB.out) | (with_reducible refine Kd.C_alloc ?_ _) | (with_reducible refine Kd.C_drewN ?_ _) | (with_reducible refine Kd.C_drew ?_))); (case side2 => exact HC0_2.out); rintro e w7 ⟨v164, rfl, ho0, hb⟩; refine ⟨_, rfl, ?_⟩; have n0_ := Aside0.mk (Kd.R_lower ho0 (below_size (by repeat (first | (with_reducible first | exact HB.out | apply below_alloc | apply pw_below_drewN | apply below_drew1 | refine below_set ?_ GE161.out | refine below_set ?_ GE162.out) | exact HB.out)))); have n1_ := Aside0.mk (blk_below (g := gb161) (o := .cells #[.int .i64 a0_0, .int .i64 a0_1, .slice A0_2 l0_2.length c0_2] 32 (0, 0)) (by (with_reducible repeat (first | refine blk_drewN ?_ _ | refine blk_drew ?_ | refine blk_alloc ?_ _)); exact BK161.out) hb); have n2_ := Aside0.mk (blk_below (g := gb162) (o := .cells #[.int .i64 0, .int .i64 0, .slice none 0 0] 32 (0, 0)) (by (with_reducible repeat (first | refine blk_drewN ?_ _ | refine blk_drew ?_ | refine blk_alloc ?_ _)); exact BK162.out) hb); have n3_ := Aside0.mk (below_step (by repeat (first | (with_reducible first | exact HB.out | apply below_alloc | apply pw_below_drewN | apply below_drew1 | refine below_set ?_ GE161.out | refine below_set ?_ GE162.out) | exact HB.out)) hb); clear BK161; clear BK162; clear HB; have HO165 := n0_; have BK161 := n1_; have BK162 := n2_; have HB := n3_; clear n0_ n1_ n2_ n3_; (try clear hb); (try clear hb2); (try clear hk); (try clear hi); (try clear ho0); obtain ⟨Ao8, co8, eo8⟩ := Kd.R_slice HO165.out; subst eo8; have hcz9_0 : w7.cell? ⟨gb161, 0, none⟩ = some (.int .i64 a0_0) := (blk_cell BK161.out 0).trans rfl; have hcz9_1 : w7.cell? ⟨gb161, 1, none⟩ = some (.int .i64 a0_1) := (blk_cell BK161.out 1).trans rfl; have hcz9_2 : w7.cell? ⟨gb161, 2, none⟩ = some (.slice A0_2 l0_2.length c0_2) := (blk_cell BK161.out 2).trans rfl; have hfz9_0 := blk_frozen BK161.out 0; have hfz9_1 := blk_frozen BK161.out 1; have hfz9_2 := blk_frozen BK161.out 2; have hcz10_0 : w7.cell? ⟨gb162, 0, none⟩ = some (.int .i64 0) := (blk_cell BK162.out 0).trans rfl; have hcz10_1 : w7.cell? ⟨gb162, 1, none⟩ = some (.int .i64 0) := (blk_cell BK162.out 1).trans rfl; have hcz10_2 : w7.cell? ⟨gb162, 2, none⟩ = some (.slice none 0 0) := (blk_cell BK162.out 2).trans rfl; have hfz10_0 := blk_frozen BK162.out 0; have hfz10_1 := blk_frozen BK162.out 1; have hfz10_2 := blk_frozen BK162.out 2))
  refine bodyPost_ret (results_cell_row rfl _ _ gb162 32 #[.int .i64 a0_0, .int .i64 a0_1, .slice Ao8 t163.length co8] (0, 0) _ rfl (by (with_reducible repeat (first | refine blk_drewN ?_ _ | refine blk_drew ?_ | refine blk_alloc ?_ _)); refine blk_put (cs := #[.int .i64 a0_0, .int .i64 a0_1, .slice none 0 0]) ?_ 2 _ rfl; (with_reducible repeat (first | refine blk_drewN ?_ _ | refine blk_drew ?_ | refine blk_alloc ?_ _)); refine blk_put (cs := #[.int .i64 a0_0, .int .i64 0, .slice none 0 0]) ?_ 1 _ rfl; (with_reducible repeat (first | refine blk_drewN ?_ _ | refine blk_drew ?_ | refine blk_alloc ?_ _)); refine blk_put (cs := #[.int .i64 0, .int .i64 0, .slice none 0 0]) ?_ 0 _ rfl; (with_reducible repeat (first | refine blk_drewN ?_ _ | refine blk_drew ?_ | refine blk_alloc ?_ _)); refine blk_far ?_ NB162_161.out _; (with_reducible repeat (first | refine blk_drewN ?_ _ | refine blk_drew ?_ | refine blk_alloc ?_ _)); exact BK162.out) Try.underlying32 rfl (by kernel_rfl)) rfl ?_
  exact ⟨_, by first | rfl | (simp [errW_none, errW_some] <;> rfl) | (simp [*, errW_none, errW_some] <;> rfl), by (with_reducible repeat (first | apply Kd.R_alloc | apply Kd.R_drewN | apply Kd.R_drew)); exact Kd.R_mono (Kd.R_far (p := ⟨gb162, 2, none⟩) (Kd.R_far (p := ⟨gb162, 1, none⟩) (Kd.R_far (p := ⟨gb162, 0, none⟩) (Kd.R_far (p := ⟨gb161, 2, none⟩) (Kd.R_types (Kd.R_types HO165.out BK161.out (by decide)) BK162.out (by decide)) (fun _ hk => hk.1.2) (.slice Ao8 t163.length co8)) (fun _ hk => hk.2) (.int .i64 a0_0)) (fun _ hk => hk.2) (.int .i64 a0_1)) (fun _ hk => hk.2) (.slice Ao8 t163.length co8)) (fun _ hk => trivial), by repeat (first | (with_reducible first | exact HB.out | apply below_alloc | apply pw_below_drewN | apply below_drew1 | refine below_set ?_ GE161.out | refine below_set ?_ GE162.out) | exact HB.out)⟩
end Go.Proofs.Ytkdkjnjiianogaa.G
end
