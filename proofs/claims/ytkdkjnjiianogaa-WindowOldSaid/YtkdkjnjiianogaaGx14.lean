-- Made by wip/tools/xprint.py (over the kit's print program) for this claim.
import Derived.Test.YtkdkjnjiianogaaGx0
import Derived.Test.YtkdkjnjiianogaaGx6
import Derived.Test.YtkdkjnjiianogaaGx7
import Derived.Test.YtkdkjnjiianogaaGx9
import Derived.Test.YtkdkjnjiianogaaGx11
import Derived.Test.YtkdkjnjiianogaaGx13
namespace Go.Proofs.Ytkdkjnjiianogaa.G
open WB Go.RowKit Go.Proofs.YtkdkjnjiianogaaW.PrintWords Go.Proofs.YtkdkjnjiianogaaW.PrintLast Go.Proofs.YtkdkjnjiianogaaW.PrintMore
attribute [local go_sem] max2_int min2_int max_two min_two max_three min_three max_four min_four   -- for this text's walks alone
set_option linter.unusedVariables false
set_option linter.unusedSimpArgs false

/-! ### waybilllaw22_WindowOld: function 7 -/
structure OldInv (w : World) (A0 : Option Addr) (c0 : Nat) (l0 : List S32) (size seq : Int) (m : Int) (A : Option Addr) (c : Nat) (L : List S32) (was : Int) (wr : World) : Prop where
  b0 : wr.heap[w.heap.size]? = some (.cells #[.int .i64 m, .slice A L.length c] 24 (0, 0))
  may : May m size L
  cs : (A = A0 ∧ c = c0 ∧ L = l0) ∨ Kd.S k32 32 wr w.heap.size (fun _ => True) (.slice A L.length c) L
  wh : whatD m size L seq = was ∧ (was = 1 ∨ was = 2)
  bel : Below w.heap.size w wr
theorem OldInv.cc {w wr : World} {A0 : Option Addr} {c0 : Nat} {l0 : List S32} {size seq m : Int} {A : Option Addr} {c : Nat} {L : List S32} {was : Int} (h : OldInv w A0 c0 l0 size seq m A c L was wr) (hr : Kd.C k32 w A0 l0.length l0) (hc : l0.length ≤ c0) : Kd.C k32 wr A L.length L ∧ L.length ≤ c := by
  rcases h.cs with ⟨rfl, rfl, rfl⟩ | hs
  · exact ⟨Kd.C_below hr h.bel, hc⟩
  · obtain ⟨_, h2, h3⟩ := Kd.R_reads' (Kd.S_R hs)
    exact ⟨h3, h2⟩
theorem OldInv.up {w wr W : World} {A0 : Option Addr} {c0 : Nat} {l0 : List S32} {size seq m : Int} {A : Option Addr} {c : Nat} {L : List S32} {was : Int} (h : OldInv w A0 c0 l0 size seq m A c L was wr) (hb : Below wr.heap.size wr W) : OldInv w A0 c0 l0 size seq m A c L was W :=
  ⟨blk_below h.b0 hb, h.may, h.cs.imp id (fun hs => Kd.S_below hs hb), h.wh, below_then h.bel h.bel.size hb⟩
theorem OldInv.set {w wr W : World} {A0 : Option Addr} {c0 : Nat} {l0 : List S32} {size seq m : Int} {A : Option Addr} {c : Nat} {L : List S32} {was : Int} (h : OldInv w A0 c0 l0 size seq m A c L was wr) (hb : Below wr.heap.size wr W) {m' is : Int} {A' : Option Addr} {c' : Nat} {L' : List S32} (hs : Kd.S k32 32 W wr.heap.size (fun _ => True) (.slice A' L'.length c') L') (hm : May m' size L') (hw : whatD m' size L' seq = is ∧ (is = 1 ∨ is = 2)) :
    OldInv w A0 c0 l0 size seq m' A' c' L' is ((W.setCell ⟨w.heap.size, 0, none⟩ (.int .i64 m')).setCell ⟨w.heap.size, 1, none⟩ (.slice A' L'.length c')) := by
  have b := blk_below h.b0 hb
  have hs' := Kd.S_lower hs h.bel.size
  exact ⟨blk_put (blk_put b 0 _ rfl) 1 _ rfl, hm, .inr (Kd.S_set (Kd.S_set hs' b (by decide) 0 _) (blk_set b 0 _) (by decide) 1 _), hw, below_set (below_set (below_then h.bel h.bel.size hb) (Nat.le_refl _)) (Nat.le_refl _)⟩
def waybilllaw22_WindowOld.f (a0_0 : Int) (l0_1 : List (S32)) (a1 : Int) (a2 : Int) (l3 : List (S32)) (l4 : List Int) : Option (Bool) := some true
set_option maxHeartbeats 4000000 in
set_option maxRecDepth 100000 in
theorem waybilllaw22_WindowOld.calls (a0_0 : Int) (A0_1 : Option Addr) (c0_1 : Nat) (l0_1 : List (S32)) (a1 : Int) (a2 : Int) (A3 : Option Addr) (c3 : Nat) (l3 : List (S32)) (A4 : Option Addr) (c4 : Nat) (l4 : List Int) (r : Bool) (w : World) (hr0_1 : Kd.C k32 w A0_1 l0_1.length l0_1) (hc0_1 : l0_1.length ≤ c0_1) (hr3 : Kd.C k32 w A3 l3.length l3) (hc3 : l3.length ≤ c3) (hr4 : Kd.C (Kd.int .i64) w A4 l4.length l4) (hc4 : l4.length ≤ c4) (h : waybilllaw22_WindowOld.f a0_0 l0_1 a1 a2 l3 l4 = some r) :
    Calls Try.prog 7 #[.agg #[.int .i64 a0_0, .slice A0_1 l0_1.length c0_1], .int .i64 a1, .int .i64 a2, .slice A3 l3.length c3, .slice A4 l4.length c4] w fun e w' => e = .returned (.bool r) ∧ Below w.heap.size w w' := by
  obtain rfl := Option.some.inj h
  clear h
  have HR := Aside0.mk hr0_1
  have HC := Aside0.mk hc0_1
  have HR3 := Aside0.mk hr3
  have HC3 := Aside0.mk hc3
  have HR4 := Aside0.mk hr4
  have HC4 := Aside0.mk hc4
  have hmax3 : l3.length ≤ 9223372036854775807 := hr3.2.1
  have hmax4 : l4.length ≤ 9223372036854775807 := hr4.2.1
  clear hr0_1 hc0_1 hr3 hc3 hr4 hc4
  have HA : Aside0 (waybilllaw22_alive.f = some true) := ⟨by decide +kernel⟩
  obtain ⟨sv, hsv⟩ : ∃ sv, sv = seeW a0_0 l0_1 a1 a2 := ⟨_, rfl⟩
  have HSV := Aside0.mk hsv.symm
  clear hsv
  obtain ⟨s1, s2, s3, s4, s5⟩ := sv
  have HS : Aside0 (window_See.f a0_0 l0_1 a1 a2 = some (s1, s2, s3, s4, s5)) := ⟨by unfold window_See.f; rw [HSV.out]⟩
  go_enter Try.func7, Try.ntmps7
  go_wp2_with (go_at_call 9; (refine (waybilllaw22_alive.calls true _ HA.out).mono ?_); rintro e w1 ⟨rfl, hb⟩; have HB1 := Aside0.mk (below_then (below_alloc (Below.refl _ _) _) (by simp) hb); have BK := Aside0.mk ((hb.block w.heap.size (by simp)).trans (heap_new1 w _)); have hlt1 : w.heap.size < w1.heap.size := blk_lt BK.out; have hcw0 : w1.cell? ⟨w.heap.size, 0, none⟩ = some (.int .i64 a0_0) := (blk_cell BK.out 0).trans rfl; have hcw1 : w1.cell? ⟨w.heap.size, 1, none⟩ = some (.slice A0_1 l0_1.length c0_1) := (blk_cell BK.out 1).trans rfl; clear hb)
  go_at_call 11
  refine (window_See.calls a0_0 A0_1 c0_1 l0_1 a1 a2 s1 s2 s3 s4 s5 _ (Kd.C_below HR.out HB1.out) HC.out HS.out).mono ?_
  rintro e w2 ⟨v, rfl, hR2, hb⟩
  obtain ⟨Ax, cx, rfl⟩ := Kd.R_slice hR2
  have HB2 := Aside0.mk (below_then HB1.out HB1.out.size hb)
  have BK2 := Aside0.mk ((hb.block w.heap.size hlt1).trans BK.out)
  have hlt2 : w.heap.size < w2.heap.size := blk_lt BK2.out
  clear hb hcw0 hcw1 hR2
  by_cases hk : checkW a0_0 l0_1 a1 = 0
  · have HM := Aside0.mk (may_of _ _ _ hk)
    have HW : Aside0 (s1 = whatD a0_0 a1 l0_1 a2 ∧ s5 = 0) := ⟨by
      obtain ⟨x1, x2, x3, hx⟩ := see_whole HM.out a2
      have := HSV.out.symm.trans hx
      simp only [Prod.mk.injEq] at this
      exact ⟨this.1, this.2.2.2.2⟩⟩
    obtain rfl := HW.out.2
    clear hk
    by_cases h0 : s1 = 0
    · subst h0
      go_wp2_with (go_at_call 12; (with_reducible refine (waybilllaw22_num.calls 0 0 _ rfl).mono ?_); rintro e w' ⟨rfl, ⟨nd, rfl⟩⟩)
      go_ret
      exact ⟨by simp, pw_below_drewN (below_alloc HB2.out _) _⟩
    · by_cases h3 : s1 = 3
      · subst h3
        go_wp2_with (go_at_call 12; (with_reducible refine (waybilllaw22_num.calls 0 0 _ rfl).mono ?_); rintro e w' ⟨rfl, ⟨nd, rfl⟩⟩)
        go_ret
        exact ⟨by simp, pw_below_drewN (below_alloc HB2.out _) _⟩
      · have t0 : (s1 == 0) = false := beq_eq_false_iff_ne.2 h0
        have t3 : (s1 == 3) = false := beq_eq_false_iff_ne.2 h3
        have HW1 : Aside0 (s1 = 1 ∨ s1 = 2) := ⟨by
          have := HW.out.1
          unfold whatD at this
          split at this
          · exact .inr this
          · split at this
            · exact absurd this h3
            · split at this
              · exact .inl this
              · exact absurd this h0⟩
        clear h0 h3
        go_wp2_with (go_at_call 12; (with_reducible refine (waybilllaw22_num.calls 0 0 _ rfl).mono ?_); rintro e w' ⟨rfl, ⟨nd, rfl⟩⟩)
        have BK3 := Aside0.mk (blk_drewN (blk_alloc BK2.out (.cells #[.int .i64 s2, .int .i64 s3, .slice Ax s4.length cx] 32 (0, 0))) nd)
        go_loopw [11, 14] (fun v11 v14 wr => ∃ (i : Nat) (m : Int) (A : Option Addr) (c : Nat) (L : List S32) (was : Int), v14 = .int .i64 i ∧ v11 = .int .i64 was ∧ (i ≤ l3.length ∨ i ≤ l4.length) ∧ Aside0 (OldInv w A0_1 c0_1 l0_1 a1 a2 m A c L was wr)) (fun _ v14 _ => l3.length + l4.length - (intOf v14).toNat)
        case atStart =>
          exact ⟨0, a0_0, A0_1, c0_1, l0_1, s1, rfl, rfl, .inl (Nat.zero_le _), ⟨BK3.out, HM.out, .inl ⟨rfl, rfl, rfl⟩, ⟨HW.out.1.symm, HW1.out⟩, pw_below_drewN (below_alloc HB2.out _) _⟩⟩
        case round =>
          obtain ⟨i, m, A, c, L, was, rfl, rfl, hi, HI⟩ := hrel
          have y0 : wr.cell? ⟨w.heap.size, 0, none⟩ = some (.int .i64 m) := (blk_cell HI.out.b0 0).trans rfl
          have y1 : wr.cell? ⟨w.heap.size, 1, none⟩ = some (.slice A L.length c) := (blk_cell HI.out.b0 1).trans rfl
          have hw0 : w.heap.size < wr.heap.size := blk_lt HI.out.b0
          have hi0 : (i : Int) ≤ 9223372036854775807 := by omega
          by_cases hgo : i < l3.length ∨ i < l4.length
          · go_upto_region 7 with fail
            go_cut [60] (fun v60 w' => v60 = .bool true ∧ wr = w')
            case first =>
              by_cases h3 : i < l3.length
              · have b1 : decide ((i : Int) < (l3.length : Int)) = true := decide_eq_true (by omega)
                have b1' : decide (i < l3.length) = true := decide_eq_true h3
                go_wp2
                go_meet
                case rel => exact ⟨rfl, rfl⟩
              · have b1 : decide ((i : Int) < (l3.length : Int)) = false := decide_eq_false (by omega)
                have b1' : decide (i < l3.length) = false := decide_eq_false h3
                have b2 : decide ((i : Int) < (l4.length : Int)) = true := decide_eq_true (by omega)
                have b2' : decide (i < l4.length) = true := decide_eq_true (by omega)
                go_wp2
                go_meet
                case rel => exact ⟨rfl, rfl⟩
            case rest =>
            obtain ⟨rfl, rfl⟩ := hcut
            go_upto_if 66 with fail
            go_cut [] (fun w' => ∃ A c L, Aside0 (OldInv w A0_1 c0_1 l0_1 a1 a2 m A c L was w'))
            case first =>
              by_cases h3 : i < l3.length
              · obtain ⟨ad, A2, c2, e1, q0, q1, q2, q3, q4⟩ := at_T32 (Kd.C_below HR3.out HI.out.bel) (i : Int) (by omega) (by omega)
                simp only [Int.toNat_natCast] at q0 q1 q2
                have hrd : rd_T32 l3 (i : Int) = l3.getD i z32 := by simp [rd_T32]
                rw [hrd] at q0 q1 q2 q3 q4
                obtain ⟨d, hd⟩ : ∃ d, d = l3.getD i z32 := ⟨_, rfl⟩
                rw [← hd] at q0 q1 q2 q3 q4
                have b1 : decide ((i : Int) < (l3.length : Int)) = true := decide_eq_true (by omega)
                have b1' : decide (i < l3.length) = true := decide_eq_true h3
                have Q3 := Aside0.mk q3
                have Q4 := Aside0.mk q4
                obtain ⟨r1, r2, r3, hpv, hpm⟩ := puts_one HI.out.may d
                have HPF : Aside0 (window_Put.f m L a1 [d] = some (r1, r2, r3)) := ⟨by unfold window_Put.f; rw [hpv]⟩
                have HPM := Aside0.mk hpm
                clear q3 q4 hrd hd hpv hpm
                subst e1
                go_wp2_with fail
                refine region_ghost (γ := Nat) (fun i g g' w1 w2 => if i = 6 then RMake g g' w1 w2 else if i = 7 then RMake g g' w1 w2 else if i = 11 then RAlloc (.cells #[.int .i64 0, .slice none 0 0] 24 (0, 0)) g g' w1 w2 else if i = 12 then RStore (wr.heap.size) (.cells #[.int .i64 0, .slice none 0 0] 24 (0, 0)) g g' w1 w2 else RSame g g' w1 w2) (fun g f W => TrAS wr wr.heap.size 11 12 (.cells #[.int .i64 0, .slice none 0 0] 24 (0, 0)) g f W) 0 [(some 68, (fun _ v _ => v = .agg #[.int .i64 m, .slice A L.length c])), (some 69, (fun _ v _ => v = .int .i64 a1)), (some 70, (fun _ v _ => v = .slice (some ad) l3.length c3)), (some 71, (fun _ v _ => v = .int .i64 i)), (some 72, (fun _ v _ => v = .pointer (some (ad.add (i * 3))))), (some 73, (fun _ v _ => v = .agg #[.int .i64 d.f0, .int .i64 d.f1, .slice A2 d.f2.length c2])), (some 74, (fun g v W => ∃ b, v = .slice (some ⟨b, 0, none⟩) 1 1 ∧ W.heap[b]? = some (.cells #[.int .i64 d.f0, .int .i64 d.f1, .slice A2 d.f2.length c2] 32 (0, 0)))), (some 75, (fun g v W => ∃ v1, v = .tuple #[.agg #[.int .i64 r1, v1], .int .i64 r3] ∧ Kd.S k32 32 W wr.heap.size (fun _ => True) v1 r2)), (some 67, (fun g v W => ∃ v1, v = .tuple #[.agg #[.int .i64 r1, v1], .int .i64 r3] ∧ Kd.S k32 32 W wr.heap.size (fun _ => True) v1 r2)), (some 76, (fun g v W => ∃ v1, v = .agg #[.int .i64 r1, v1] ∧ Kd.S k32 32 W wr.heap.size (fun _ => True) v1 r2)), (some 77, (fun g v W => v = .int .i64 r3)), (some 15, (fun g v _ => v = .pointer (some ⟨g, 0, none⟩))), (none, (fun g v W => ∃ v1, W.heap[g]? = some (.cells #[.int .i64 r1, v1] 24 (0, 0)) ∧ Kd.S k32 32 W wr.heap.size (fun _ => True) v1 r2)), (some 16, (fun g v W => v = .int .i64 r3))] (by kernel_rfl) (by kernel_rfl) [68, 69, 70, 71, 72, 73, 74, 75, 67, 76, 77, 15, 16] (by rfl) (by rfl) (by decide) ?hsz ?hst ?hT0 ?hT ?step ?fin
                case hsz => exact show ∀ t ∈ ([68, 69, 70, 71, 72, 73, 74, 75, 67, 76, 77, 15, 16] : List Nat), t < 129 from List.forall_mem_cons.2 ⟨(show 68 < 129 by decide), List.forall_mem_cons.2 ⟨(show 69 < 129 by decide), List.forall_mem_cons.2 ⟨(show 70 < 129 by decide), List.forall_mem_cons.2 ⟨(show 71 < 129 by decide), List.forall_mem_cons.2 ⟨(show 72 < 129 by decide), List.forall_mem_cons.2 ⟨(show 73 < 129 by decide), List.forall_mem_cons.2 ⟨(show 74 < 129 by decide), List.forall_mem_cons.2 ⟨(show 75 < 129 by decide), List.forall_mem_cons.2 ⟨(show 67 < 129 by decide), List.forall_mem_cons.2 ⟨(show 76 < 129 by decide), List.forall_mem_cons.2 ⟨(show 77 < 129 by decide), List.forall_mem_cons.2 ⟨(show 15 < 129 by decide), List.forall_mem_cons.2 ⟨(show 16 < 129 by decide), fun _ h => nomatch h⟩⟩⟩⟩⟩⟩⟩⟩⟩⟩⟩⟩⟩
                case hT0 => exact TrAS.start _ _ _ _ _ _ _ 14 (by decide) (Below.refl _ _) (Nat.le_refl _)
                case hT =>
                  intro f i_ g g' w1 w2 hi hfi ht hr
                  match i_, hi with
                  | 0, _ => exact TrAS.same (i := 0) ht hr (by decide) (by decide)
                  | 1, _ => exact TrAS.same (i := 1) ht hr (by decide) (by decide)
                  | 2, _ => exact TrAS.same (i := 2) ht hr (by decide) (by decide)
                  | 3, _ => exact TrAS.same (i := 3) ht hr (by decide) (by decide)
                  | 4, _ => exact TrAS.same (i := 4) ht hr (by decide) (by decide)
                  | 5, _ => exact TrAS.same (i := 5) ht hr (by decide) (by decide)
                  | 6, _ => exact TrAS.make (i := 6) ht hr (by decide) (by decide)
                  | 7, _ => exact TrAS.make (i := 7) ht hr (by decide) (by decide)
                  | 8, _ => exact TrAS.same (i := 8) ht hr (by decide) (by decide)
                  | 9, _ => exact TrAS.same (i := 9) ht hr (by decide) (by decide)
                  | 10, _ => exact TrAS.same (i := 10) ht hr (by decide) (by decide)
                  | 11, _ => exact TrAS.alloc ht hr
                  | 12, _ => exact TrAS.store ht hr (by decide)
                  | 13, _ => exact TrAS.same (i := 13) ht hr (by decide) (by decide)
                  | n_ + 14, hi => exact absurd hi (by show ¬ n_ + 14 < 14; omega)
                case hst =>
                  intro i_ j_ q_ hq hij hin
                  match i_, hin with
                  | 0, _ => exact .inr fun f g g' v w1 w2 _ hr h => RSame.keep (q := q_.2) hr h
                  | 1, _ => exact .inr fun f g g' v w1 w2 _ hr h => RSame.keep (q := q_.2) hr h
                  | 2, _ => exact .inr fun f g g' v w1 w2 _ hr h => RSame.keep (q := q_.2) hr h
                  | 3, _ => exact .inr fun f g g' v w1 w2 _ hr h => RSame.keep (q := q_.2) hr h
                  | 4, _ => exact .inr fun f g g' v w1 w2 _ hr h => RSame.keep (q := q_.2) hr h
                  | 5, _ => exact .inr fun f g g' v w1 w2 _ hr h => RSame.keep (q := q_.2) hr h
                  | 6, _ =>
                    match j_, hq with
                    | 0, hq => exact .inr (by obtain rfl := Option.some.inj hq; exact fun f g g' v w1 w2 ht hr h => h)
                    | 1, hq => exact .inr (by obtain rfl := Option.some.inj hq; exact fun f g g' v w1 w2 ht hr h => h)
                    | 2, hq => exact .inr (by obtain rfl := Option.some.inj hq; exact fun f g g' v w1 w2 ht hr h => h)
                    | 3, hq => exact .inr (by obtain rfl := Option.some.inj hq; exact fun f g g' v w1 w2 ht hr h => h)
                    | 4, hq => exact .inr (by obtain rfl := Option.some.inj hq; exact fun f g g' v w1 w2 ht hr h => h)
                    | 5, hq => exact .inr (by obtain rfl := Option.some.inj hq; exact fun f g g' v w1 w2 ht hr h => h)
                    | 6, hq => exact absurd rfl hij
                    | 7, hq => exact .inl (by kernel_rfl)
                    | 8, hq => exact .inr (by obtain rfl := Option.some.inj hq; exact fun f g g' v w1 w2 ht hr h => h.imp fun _ h => ⟨h.1, Kd.S_below h.2 hr.b⟩)
                    | 9, hq => exact .inr (by obtain rfl := Option.some.inj hq; exact fun f g g' v w1 w2 ht hr h => h.imp fun _ h => ⟨h.1, Kd.S_below h.2 hr.b⟩)
                    | 10, hq => exact .inr (by obtain rfl := Option.some.inj hq; exact fun f g g' v w1 w2 ht hr h => h)
                    | 11, hq => exact .inr (by obtain rfl := Option.some.inj hq; exact fun f g g' v w1 w2 ht hr h => h.trans (by rw [show g' = g from hr.e]))
                    | 12, hq => exact .inl (by kernel_rfl)
                    | 13, hq => exact .inl (by kernel_rfl)
                    | n_ + 14, hq => simp at hq
                  | 7, _ =>
                    match j_, hq with
                    | 0, hq => exact .inr (by obtain rfl := Option.some.inj hq; exact fun f g g' v w1 w2 ht hr h => h)
                    | 1, hq => exact .inr (by obtain rfl := Option.some.inj hq; exact fun f g g' v w1 w2 ht hr h => h)
                    | 2, hq => exact .inr (by obtain rfl := Option.some.inj hq; exact fun f g g' v w1 w2 ht hr h => h)
                    | 3, hq => exact .inr (by obtain rfl := Option.some.inj hq; exact fun f g g' v w1 w2 ht hr h => h)
                    | 4, hq => exact .inr (by obtain rfl := Option.some.inj hq; exact fun f g g' v w1 w2 ht hr h => h)
                    | 5, hq => exact .inr (by obtain rfl := Option.some.inj hq; exact fun f g g' v w1 w2 ht hr h => h)
                    | 6, hq => exact .inr (by obtain rfl := Option.some.inj hq; exact fun f g g' v w1 w2 ht hr h => h.imp fun b h => ⟨h.1, blk_below h.2 hr.b⟩)
                    | 7, hq => exact absurd rfl hij
                    | 8, hq => exact .inl (by kernel_rfl)
                    | 9, hq => exact .inr (by obtain rfl := Option.some.inj hq; exact fun f g g' v w1 w2 ht hr h => h.imp fun _ h => ⟨h.1, Kd.S_below h.2 hr.b⟩)
                    | 10, hq => exact .inr (by obtain rfl := Option.some.inj hq; exact fun f g g' v w1 w2 ht hr h => h)
                    | 11, hq => exact .inr (by obtain rfl := Option.some.inj hq; exact fun f g g' v w1 w2 ht hr h => h.trans (by rw [show g' = g from hr.e]))
                    | 12, hq => exact .inl (by kernel_rfl)
                    | 13, hq => exact .inl (by kernel_rfl)
                    | n_ + 14, hq => simp at hq
                  | 8, _ => exact .inr fun f g g' v w1 w2 _ hr h => RSame.keep (q := q_.2) hr h
                  | 9, _ => exact .inr fun f g g' v w1 w2 _ hr h => RSame.keep (q := q_.2) hr h
                  | 10, _ => exact .inr fun f g g' v w1 w2 _ hr h => RSame.keep (q := q_.2) hr h
                  | 11, _ =>
                    match j_, hq with
                    | 0, hq => exact .inr (by obtain rfl := Option.some.inj hq; exact fun f g g' v w1 w2 ht hr h => h)
                    | 1, hq => exact .inr (by obtain rfl := Option.some.inj hq; exact fun f g g' v w1 w2 ht hr h => h)
                    | 2, hq => exact .inr (by obtain rfl := Option.some.inj hq; exact fun f g g' v w1 w2 ht hr h => h)
                    | 3, hq => exact .inr (by obtain rfl := Option.some.inj hq; exact fun f g g' v w1 w2 ht hr h => h)
                    | 4, hq => exact .inr (by obtain rfl := Option.some.inj hq; exact fun f g g' v w1 w2 ht hr h => h)
                    | 5, hq => exact .inr (by obtain rfl := Option.some.inj hq; exact fun f g g' v w1 w2 ht hr h => h)
                    | 6, hq => exact .inr (by obtain rfl := Option.some.inj hq; exact fun f g g' v w1 w2 ht hr h => h.imp fun b h => ⟨h.1, blk_below h.2 hr.b⟩)
                    | 7, hq => exact .inr (by obtain rfl := Option.some.inj hq; exact fun f g g' v w1 w2 ht hr h => h.imp fun _ h => ⟨h.1, Kd.S_below h.2 hr.b⟩)
                    | 8, hq => exact .inr (by obtain rfl := Option.some.inj hq; exact fun f g g' v w1 w2 ht hr h => h.imp fun _ h => ⟨h.1, Kd.S_below h.2 hr.b⟩)
                    | 9, hq => exact .inr (by obtain rfl := Option.some.inj hq; exact fun f g g' v w1 w2 ht hr h => h.imp fun _ h => ⟨h.1, Kd.S_below h.2 hr.b⟩)
                    | 10, hq => exact .inr (by obtain rfl := Option.some.inj hq; exact fun f g g' v w1 w2 ht hr h => h)
                    | 11, hq => exact absurd rfl hij
                    | 12, hq => exact .inl (by kernel_rfl)
                    | 13, hq => exact .inl (by kernel_rfl)
                    | n_ + 14, hq => simp at hq
                  | 12, _ =>
                    match j_, hq with
                    | 0, hq => exact .inr (by obtain rfl := Option.some.inj hq; exact fun f g g' v w1 w2 ht hr h => h)
                    | 1, hq => exact .inr (by obtain rfl := Option.some.inj hq; exact fun f g g' v w1 w2 ht hr h => h)
                    | 2, hq => exact .inr (by obtain rfl := Option.some.inj hq; exact fun f g g' v w1 w2 ht hr h => h)
                    | 3, hq => exact .inr (by obtain rfl := Option.some.inj hq; exact fun f g g' v w1 w2 ht hr h => h)
                    | 4, hq => exact .inr (by obtain rfl := Option.some.inj hq; exact fun f g g' v w1 w2 ht hr h => h)
                    | 5, hq => exact .inr (by obtain rfl := Option.some.inj hq; exact fun f g g' v w1 w2 ht hr h => h)
                    | 6, hq => exact .inr (by obtain rfl := Option.some.inj hq; exact fun f g g' v w1 w2 ht hr h => h.imp fun b h => ⟨h.1, hr.blk h.2 (by decide)⟩)
                    | 7, hq => exact .inr (by obtain rfl := Option.some.inj hq; exact fun f g g' v w1 w2 ht hr h => h.imp fun _ h => ⟨h.1, hr.S h.2 (by decide)⟩)
                    | 8, hq => exact .inr (by obtain rfl := Option.some.inj hq; exact fun f g g' v w1 w2 ht hr h => h.imp fun _ h => ⟨h.1, hr.S h.2 (by decide)⟩)
                    | 9, hq => exact .inr (by obtain rfl := Option.some.inj hq; exact fun f g g' v w1 w2 ht hr h => h.imp fun _ h => ⟨h.1, hr.S h.2 (by decide)⟩)
                    | 10, hq => exact .inr (by obtain rfl := Option.some.inj hq; exact fun f g g' v w1 w2 ht hr h => h)
                    | 11, hq => exact .inr (by obtain rfl := Option.some.inj hq; exact fun f g g' v w1 w2 ht hr h => h.trans (by rw [show g' = g from hr.e]))
                    | 12, hq => exact absurd rfl hij
                    | 13, hq => exact .inl (by kernel_rfl)
                    | n_ + 14, hq => simp at hq
                  | 13, _ => exact .inr fun f g g' v w1 w2 _ hr h => RSame.keep (q := q_.2) hr h
                  | n_ + 14, hin => exact absurd hin (by show ¬ n_ + 14 < 14; omega)
                case step =>
                  intro i_ o_ e_ ho he f g a w1_ hfi hs hdf hfr htr hpre
                  try dsimp only
                  match i_, ho, he, hfi with
                  | 0, ho, he, hfi =>
                    obtain rfl : o_ = { dst := some 68, op := Go.Op.load 24 (Go.Operand.tmp 5), type := 24, pos := "law.go:53", after := #[], guard := none } := (Option.some.inj ho).symm
                    obtain rfl := Option.some.inj he; clear he
                    have f5 : a.tmps.getD 5 undef = .pointer (some ⟨w.heap.size, 0, none⟩) := by rw [Array.getD_eq_getD_getElem?, hfr 5 (show ¬ 5 ∈ ([68, 69, 70, 71, 72, 73, 74, 75, 67, 76, 77, 15, 16] : List Nat) by decide)]; rfl
                    clear hpre hfr
                    have k_y0 := (htr.bel.cell (World.block_lt_of_cell? _ _ y0)).trans y0
                    have k_y1 := (htr.bel.cell (World.block_lt_of_cell? _ _ y1)).trans y1
                    refine wpOp_value (v := .agg #[.int .i64 m, .slice A L.length c]) ho rfl ?_ ⟨_, g, rfl, rfl, RSame.mk rfl rfl⟩
                    simp only [execOp, Act.eval, List.map_toArray, List.map_cons, List.map_nil, f5]
                    first | rfl | (go_simp; done) | (go_simp; rfl) | (go_simp; intro h_; exfalso; omega)
                  | 1, ho, he, hfi =>
                    obtain rfl : o_ = { dst := some 69, op := Go.Op.move (Go.Operand.tmp 1), type := 3, pos := "law.go:53", after := #[], guard := none } := (Option.some.inj ho).symm
                    obtain rfl := Option.some.inj he; clear he
                    have f1 : a.tmps.getD 1 undef = .int .i64 a1 := by rw [Array.getD_eq_getD_getElem?, hfr 1 (show ¬ 1 ∈ ([68, 69, 70, 71, 72, 73, 74, 75, 67, 76, 77, 15, 16] : List Nat) by decide)]; rfl
                    clear hpre hfr
                    refine wpOp_value (v := .int .i64 a1) ho rfl ?_ ⟨_, g, rfl, rfl, RSame.mk rfl rfl⟩
                    simp only [execOp, Act.eval, List.map_toArray, List.map_cons, List.map_nil, f1]
                    first | rfl | (go_simp; done) | (go_simp; rfl) | (go_simp; intro h_; exfalso; omega)
                  | 2, ho, he, hfi =>
                    obtain rfl : o_ = { dst := some 70, op := Go.Op.move (Go.Operand.tmp 3), type := 22, pos := "law.go:53", after := #[], guard := none } := (Option.some.inj ho).symm
                    obtain rfl := Option.some.inj he; clear he
                    have f3 : a.tmps.getD 3 undef = .slice (some ad) l3.length c3 := by rw [Array.getD_eq_getD_getElem?, hfr 3 (show ¬ 3 ∈ ([68, 69, 70, 71, 72, 73, 74, 75, 67, 76, 77, 15, 16] : List Nat) by decide)]; rfl
                    clear hpre hfr
                    refine wpOp_value (v := .slice (some ad) l3.length c3) ho rfl ?_ ⟨_, g, rfl, rfl, RSame.mk rfl rfl⟩
                    simp only [execOp, Act.eval, List.map_toArray, List.map_cons, List.map_nil, f3]
                    first | rfl | (go_simp; done) | (go_simp; rfl) | (go_simp; intro h_; exfalso; omega)
                  | 3, ho, he, hfi =>
                    obtain rfl : o_ = { dst := some 71, op := Go.Op.move (Go.Operand.tmp 14), type := 3, pos := "law.go:53", after := #[], guard := none } := (Option.some.inj ho).symm
                    obtain rfl := Option.some.inj he; clear he
                    have f14 : a.tmps.getD 14 undef = .int .i64 i := by rw [Array.getD_eq_getD_getElem?, hfr 14 (show ¬ 14 ∈ ([68, 69, 70, 71, 72, 73, 74, 75, 67, 76, 77, 15, 16] : List Nat) by decide)]; rfl
                    clear hpre hfr
                    refine wpOp_value (v := .int .i64 i) ho rfl ?_ ⟨_, g, rfl, rfl, RSame.mk rfl rfl⟩
                    simp only [execOp, Act.eval, List.map_toArray, List.map_cons, List.map_nil, f14]
                    first | rfl | (go_simp; done) | (go_simp; rfl) | (go_simp; intro h_; exfalso; omega)
                  | 4, ho, he, hfi =>
                    obtain rfl : o_ = { dst := some 72, op := Go.Op.indexAddr 22 (Go.Operand.tmp 70) (Go.Operand.tmp 71), type := 0, pos := "law.go:53", after := #[{ on := 2, ground := Go.Ground.data }, { on := 3, ground := Go.Ground.data }], guard := none } := (Option.some.inj ho).symm
                    obtain rfl := Option.some.inj he; clear he
                    obtain ⟨ef70, v70_, e70, ev70⟩ := hpre ⟨2, .data⟩ (by simp) rfl _ rfl
                    replace ev70 := ev70 _ rfl; subst ev70
                    have e70 : a.tmps.getD 70 undef = .slice (some ad) l3.length c3 := e70
                    obtain ⟨ef71, v71_, e71, ev71⟩ := hpre ⟨3, .data⟩ (by simp) rfl _ rfl
                    replace ev71 := ev71 _ rfl; subst ev71
                    have e71 : a.tmps.getD 71 undef = .int .i64 i := e71
                    clear hpre hfr
                    refine wpOp_value (v := .pointer (some (ad.add (i * 3)))) ho rfl ?_ ⟨_, g, rfl, rfl, RSame.mk rfl rfl⟩
                    simp only [execOp, Act.eval, List.map_toArray, List.map_cons, List.map_nil, e70, e71]
                    first | rfl | (go_simp; done) | (go_simp; rfl) | (go_simp; intro h_; exfalso; omega)
                  | 5, ho, he, hfi =>
                    obtain rfl : o_ = { dst := some 73, op := Go.Op.load 32 (Go.Operand.tmp 72), type := 32, pos := "law.go:53", after := #[{ on := 4, ground := Go.Ground.data }], guard := none } := (Option.some.inj ho).symm
                    obtain rfl := Option.some.inj he; clear he
                    obtain ⟨ef72, v72_, e72, ev72⟩ := hpre ⟨4, .data⟩ (by simp) rfl _ rfl
                    replace ev72 := ev72 _ rfl; subst ev72
                    have e72 : a.tmps.getD 72 undef = .pointer (some (ad.add (i * 3))) := e72
                    clear hpre hfr
                    have k_q0 := (htr.bel.cell (World.block_lt_of_cell? _ _ q0)).trans q0
                    have k_q1 := (htr.bel.cell (World.block_lt_of_cell? _ _ q1)).trans q1
                    have k_q2 := (htr.bel.cell (World.block_lt_of_cell? _ _ q2)).trans q2
                    refine wpOp_value (v := .agg #[.int .i64 d.f0, .int .i64 d.f1, .slice A2 d.f2.length c2]) ho rfl ?_ ⟨_, g, rfl, rfl, RSame.mk rfl rfl⟩
                    simp only [execOp, Act.eval, List.map_toArray, List.map_cons, List.map_nil, e72]
                    first | rfl | (go_simp; done) | (go_simp; rfl) | (go_simp; intro h_; exfalso; omega)
                  | 6, ho, he, hfi =>
                    obtain rfl : o_ = { dst := some 74, op := Go.Op.buildSlice 22 1 #[(0, Go.Operand.tmp 73)], type := 22, pos := "law.go:53", after := #[{ on := 5, ground := Go.Ground.data }], guard := none } := (Option.some.inj ho).symm
                    obtain rfl := Option.some.inj he; clear he
                    obtain ⟨ef73, v73_, e73, ev73⟩ := hpre ⟨5, .data⟩ (by simp) rfl _ rfl
                    replace ev73 := ev73 _ rfl; subst ev73
                    have e73 : a.tmps.getD 73 undef = .agg #[.int .i64 d.f0, .int .i64 d.f1, .slice A2 d.f2.length c2] := e73
                    clear hpre hfr
                    refine wpOp_value (w1 := w1_.alloc (.cells #[.int .i64 d.f0, .int .i64 d.f1, .slice A2 d.f2.length c2] 32)) (v := .slice (some ⟨w1_.heap.size, 0, none⟩) 1 1) ho rfl ?_ ⟨_, g, rfl, ⟨_, rfl, heap_new1 _ _⟩, RMake.mk rfl (below_alloc (Below.refl _ _) _)⟩
                    simp only [execOp, Act.eval, List.map_toArray, List.map_cons, List.map_nil, e73]
                    first | rfl | (go_simp; done) | (go_simp; rfl)
                  | 7, ho, he, hfi =>
                    obtain rfl : o_ = { dst := some 75, op := Go.Op.call { callee := Go.Callee.value (Go.Operand.func 16), args := #[Go.Operand.tmp 68, Go.Operand.tmp 69, Go.Operand.tmp 74], argTypes := #[24, 3, 22] }, type := 42, pos := "law.go:53", after := #[{ on := 0, ground := Go.Ground.data }, { on := 1, ground := Go.Ground.data }, { on := 6, ground := Go.Ground.data }], guard := none } := (Option.some.inj ho).symm
                    obtain rfl := Option.some.inj he; clear he
                    obtain ⟨ef68, v68_, e68, ev68⟩ := hpre ⟨0, .data⟩ (by simp) rfl _ rfl
                    replace ev68 := ev68 _ rfl; subst ev68
                    have e68 : a.tmps.getD 68 undef = .agg #[.int .i64 m, .slice A L.length c] := e68
                    obtain ⟨ef69, v69_, e69, ev69⟩ := hpre ⟨1, .data⟩ (by simp) rfl _ rfl
                    replace ev69 := ev69 _ rfl; subst ev69
                    have e69 : a.tmps.getD 69 undef = .int .i64 a1 := e69
                    obtain ⟨ef74, v74_, e74, ev74⟩ := hpre ⟨6, .data⟩ (by simp) rfl _ rfl
                    replace ev74 := ev74 _ rfl; subst ev74
                    try dsimp only at e74
                    clear hpre hfr
                    obtain ⟨b, e1, e3⟩ := e74
                    refine wpOp_call (fn := Try.f16) ho rfl rfl rfl rfl #[.agg #[.int .i64 m, .slice A L.length c], .int .i64 a1, .slice (some ⟨b, 0, none⟩) 1 1] rfl (by simp only [List.map_toArray, List.map_cons, List.map_nil, Act.eval, e68, e69, e1]) ?_
                    refine (window_Put.calls m A c L a1 (some ⟨b, 0, none⟩) 1 [d] r1 r2 r3 _ (Kd.C_below (HI.out.cc HR.out HC.out).1 htr.bel) (HI.out.cc HR.out HC.out).2 (C_done1 e3 Q3.out (Kd.C_below Q4.out htr.bel)) (Nat.le_refl _) HPF.out).mono ?_
                    rintro e w2 ⟨v0, rfl, hS, hb2⟩
                    exact ⟨_, rfl, _, g, rfl, ⟨v0, rfl, Kd.S_lower hS htr.siz⟩, RMake.mk rfl hb2⟩
                  | 8, ho, he, hfi =>
                    obtain rfl : o_ = { dst := some 67, op := Go.Op.move (Go.Operand.tmp 75), type := 42, pos := "law.go:53", after := #[{ on := 7, ground := Go.Ground.data }], guard := none } := (Option.some.inj ho).symm
                    obtain rfl := Option.some.inj he; clear he
                    obtain ⟨ef75, v75_, e75, ev75⟩ := hpre ⟨7, .data⟩ (by simp) rfl _ rfl
                    replace ev75 := ev75 _ rfl; subst ev75
                    try dsimp only at e75
                    clear hpre hfr
                    obtain ⟨v_, hv_⟩ : ∃ v_, v_ = a.tmps.getD 75 undef := ⟨_, rfl⟩
                    rw [← hv_] at e75
                    refine wpOp_value (v := v_) ho rfl ?_ ⟨v_, g, rfl, e75, RSame.mk rfl rfl⟩
                    simp only [execOp, Act.eval, List.map_toArray, List.map_cons, List.map_nil, ← hv_]
                    first | rfl | (go_simp; done) | (go_simp; rfl)
                  | 9, ho, he, hfi =>
                    obtain rfl : o_ = { dst := some 76, op := Go.Op.extract (Go.Operand.tmp 67) 0, type := 24, pos := "law.go:53", after := #[{ on := 8, ground := Go.Ground.data }], guard := none } := (Option.some.inj ho).symm
                    obtain rfl := Option.some.inj he; clear he
                    obtain ⟨ef67, v67_, e67, ev67⟩ := hpre ⟨8, .data⟩ (by simp) rfl _ rfl
                    replace ev67 := ev67 _ rfl; subst ev67
                    try dsimp only at e67
                    clear hpre hfr
                    obtain ⟨v1, e1, e3⟩ := e67
                    refine wpOp_value (v := .agg #[.int .i64 r1, v1]) ho rfl ?_ ⟨_, g, rfl, ⟨v1, rfl, e3⟩, RSame.mk rfl rfl⟩
                    simp only [execOp, Act.eval, List.map_toArray, List.map_cons, List.map_nil, e1]
                    first | rfl | (go_simp; done) | (go_simp; rfl)
                  | 10, ho, he, hfi =>
                    obtain rfl : o_ = { dst := some 77, op := Go.Op.extract (Go.Operand.tmp 67) 1, type := 27, pos := "law.go:53", after := #[{ on := 8, ground := Go.Ground.data }, { on := 12, ground := Go.Ground.gcOnly Go.Departure.lateStores }], guard := none } := (Option.some.inj ho).symm
                    obtain rfl := Option.some.inj he; clear he
                    obtain ⟨ef67, v67_, e67, ev67⟩ := hpre ⟨8, .data⟩ (by simp) rfl _ rfl
                    replace ev67 := ev67 _ rfl; subst ev67
                    try dsimp only at e67
                    clear hpre hfr
                    obtain ⟨v1, e1, e3⟩ := e67
                    refine wpOp_value (v := .int .i64 r3) ho rfl ?_ ⟨_, g, rfl, rfl, RSame.mk rfl rfl⟩
                    simp only [execOp, Act.eval, List.map_toArray, List.map_cons, List.map_nil, e1]
                    first | rfl | (go_simp; done) | (go_simp; rfl)
                  | 11, ho, he, hfi =>
                    obtain rfl : o_ = { dst := some 15, op := Go.Op.alloc 24, type := 0, pos := "law.go:53", after := #[], guard := none } := (Option.some.inj ho).symm
                    obtain rfl := Option.some.inj he; clear he
                    clear hpre hfr
                    refine wpOp_value (w1 := w1_.alloc (.cells #[.int .i64 0, .slice none 0 0] 24 (0, 0))) (v := .pointer (some ⟨w1_.heap.size, 0, none⟩)) ho rfl ?_ ⟨_, w1_.heap.size, rfl, rfl, RAlloc.mk rfl rfl⟩
                    simp only [execOp, Act.eval, List.map_toArray, List.map_cons, List.map_nil]
                    first | rfl | (go_simp; done) | (go_simp; rfl)
                  | 12, ho, he, hfi =>
                    obtain rfl : o_ = { dst := none, op := Go.Op.store 24 (Go.Operand.tmp 15) (Go.Operand.tmp 76), type := 0, pos := "law.go:53", after := #[{ on := 11, ground := Go.Ground.data }, { on := 9, ground := Go.Ground.data }, { on := 7, ground := Go.Ground.chain }, { on := 0, ground := Go.Ground.phase }, { on := 1, ground := Go.Ground.phase }, { on := 2, ground := Go.Ground.phase }, { on := 3, ground := Go.Ground.phase }, { on := 4, ground := Go.Ground.phase }, { on := 5, ground := Go.Ground.phase }, { on := 6, ground := Go.Ground.phase }, { on := 7, ground := Go.Ground.phase }, { on := 8, ground := Go.Ground.phase }, { on := 9, ground := Go.Ground.phase }, { on := 10, ground := Go.Ground.textOnly Go.Departure.lateStores }, { on := 11, ground := Go.Ground.phase }], guard := none } := (Option.some.inj ho).symm
                    obtain rfl := Option.some.inj he; clear he
                    obtain ⟨ef15, v15_, e15, ev15⟩ := hpre ⟨11, .data⟩ (by simp) rfl _ rfl
                    replace ev15 := ev15 _ rfl; subst ev15
                    have e15 : a.tmps.getD 15 undef = .pointer (some ⟨g, 0, none⟩) := e15
                    obtain ⟨ef76, v76_, e76, ev76⟩ := hpre ⟨9, .data⟩ (by simp) rfl _ rfl
                    replace ev76 := ev76 _ rfl; subst ev76
                    try dsimp only at e76
                    clear hpre hfr
                    obtain ⟨v1, e1, e3⟩ := e76
                    obtain ⟨Ay, cy, rfl⟩ := Kd.R_slice (Kd.S_R e3)
                    have hz := htr.zero ef15 hfi
                    have hz0 : w1_.cell? ⟨g, 0, none⟩ = some (.int .i64 0) := (blk_cell hz 0).trans rfl
                    have hz1 : w1_.cell? ⟨g, 1, none⟩ = some (.slice none 0 0) := (blk_cell hz 1).trans rfl
                    have hf0 := blk_frozen hz 0
                    have hf1 := blk_frozen hz 1
                    refine wpOp_skip (w1 := (w1_.setCell ⟨g, 0, none⟩ (.int .i64 r1)).setCell ⟨g, 1, none⟩ (.slice Ay r2.length cy)) ho rfl ?_ ⟨undef, g, rfl, ⟨_, blk_put (blk_put hz 0 _ rfl) 1 _ rfl, ?_⟩, RStore.mk rfl (htr.ge ef15).1 hz ⟨[_, _], rfl⟩⟩
                    · simp only [execOp, Act.eval, List.map_toArray, List.map_cons, List.map_nil, e1, e15]
                      first | rfl | (go_simp; done) | (go_simp; rfl)
                    · exact Kd.S_set (Kd.S_set e3 hz (by decide) 0 _) (blk_set hz 0 _) (by decide) 1 _
                  | 13, ho, he, hfi =>
                    obtain rfl : o_ = { dst := some 16, op := Go.Op.assign (Go.Operand.tmp 77), type := 27, pos := "law.go:53", after := #[{ on := 10, ground := Go.Ground.data }, { on := 12, ground := Go.Ground.chain }, { on := 0, ground := Go.Ground.phase }, { on := 1, ground := Go.Ground.phase }, { on := 2, ground := Go.Ground.phase }, { on := 3, ground := Go.Ground.phase }, { on := 4, ground := Go.Ground.phase }, { on := 5, ground := Go.Ground.phase }, { on := 6, ground := Go.Ground.phase }, { on := 7, ground := Go.Ground.phase }, { on := 8, ground := Go.Ground.phase }, { on := 9, ground := Go.Ground.phase }, { on := 10, ground := Go.Ground.phase }, { on := 11, ground := Go.Ground.phase }, { on := 12, ground := Go.Ground.phase }], guard := none } := (Option.some.inj ho).symm
                    obtain rfl := Option.some.inj he; clear he
                    obtain ⟨ef77, v77_, e77, ev77⟩ := hpre ⟨10, .data⟩ (by simp) rfl _ rfl
                    replace ev77 := ev77 _ rfl; subst ev77
                    try dsimp only at e77
                    clear hpre hfr
                    obtain ⟨v_, hv_⟩ : ∃ v_, v_ = a.tmps.getD 77 undef := ⟨_, rfl⟩
                    rw [← hv_] at e77
                    refine wpOp_value (v := v_) ho rfl ?_ ⟨v_, g, rfl, e77, RSame.mk rfl rfl⟩
                    simp only [execOp, Act.eval, List.map_toArray, List.map_cons, List.map_nil, ← hv_]
                    first | rfl | (go_simp; done) | (go_simp; rfl)
                  | n_ + 14, ho, he, hfi => simp at he
                case fin =>
                  intro xv_ gz f_ w1_ hall htr hx
                  simp only [List.forall_mem_cons] at hx
                  obtain ⟨⟨z68_, z68, y68⟩, ⟨z69_, z69, y69⟩, ⟨z70_, z70, y70⟩, ⟨z71_, z71, y71⟩, ⟨z72_, z72, y72⟩, ⟨z73_, z73, y73⟩, ⟨z74_, z74, y74⟩, ⟨z75_, z75, y75⟩, ⟨z67_, z67, y67⟩, ⟨z76_, z76, y76⟩, ⟨z77_, z77, y77⟩, ⟨z15_, z15, y15⟩, ⟨_, w12, _⟩, ⟨z16_, z16, y16⟩, _⟩ := hx
                  replace y68 := y68 _ rfl; subst y68
                  have x68 : xv_ 68 = .agg #[.int .i64 m, .slice A L.length c] := z68
                  replace y69 := y69 _ rfl; subst y69
                  have x69 : xv_ 69 = .int .i64 a1 := z69
                  replace y70 := y70 _ rfl; subst y70
                  have x70 : xv_ 70 = .slice (some ad) l3.length c3 := z70
                  replace y71 := y71 _ rfl; subst y71
                  have x71 : xv_ 71 = .int .i64 i := z71
                  replace y72 := y72 _ rfl; subst y72
                  have x72 : xv_ 72 = .pointer (some (ad.add (i * 3))) := z72
                  replace y73 := y73 _ rfl; subst y73
                  have x73 : xv_ 73 = .agg #[.int .i64 d.f0, .int .i64 d.f1, .slice A2 d.f2.length c2] := z73
                  replace y74 := y74 _ rfl; subst y74
                  obtain ⟨g74, x74, _⟩ := z74
                  replace y75 := y75 _ rfl; subst y75
                  obtain ⟨v75, x75, _⟩ := z75
                  replace y67 := y67 _ rfl; subst y67
                  obtain ⟨x_67, x67⟩ : ∃ x, xv_ 67 = x := ⟨_, rfl⟩
                  replace y76 := y76 _ rfl; subst y76
                  obtain ⟨vp, x76, _⟩ := z76
                  replace y77 := y77 _ rfl; subst y77
                  have x77 := z77; try dsimp only at x77
                  replace y15 := y15 _ rfl; subst y15
                  have x15 : xv_ 15 = .pointer (some ⟨gz, 0, none⟩) := z15
                  replace y16 := y16 _ rfl; subst y16
                  have x16 := z16; try dsimp only at x16
                  obtain ⟨vx, hbx, hSx⟩ := w12
                  simp only [List.map_cons, List.map_nil, putL, Act.put, List.setIfInBounds_toArray, List.set_cons_zero, List.set_cons_succ, x68, x69, x70, x71, x72, x73, x74, x75, x67, x76, x77, x15, x16]
                  clear x68 x69 x70 x71 x72 x73 x74 x75 x67 x76 x77 x15 x16 z68 z69 z70 z71 z72 z73 z67 z77 z15 z16
                  have HB10 := Aside0.mk htr.bel
                  have HG10 := Aside0.mk (htr.ge (hall 11))
                  have HBX := Aside0.mk hbx
                  have HSX := Aside0.mk hSx
                  clear hbx hSx hall htr
                  obtain ⟨Ax1, cx1, rfl⟩ := Kd.R_slice (Kd.S_R HSX.out)
                  have g0 := blk_cell HBX.out 0
                  have g1 := blk_cell HBX.out 1
                  simp at g0 g1
                  by_cases h0 : r3 = 0
                  · subst h0
                    have HPP := Aside0.mk (HPM.out rfl)
                    have BW := Aside0.mk ((HB10.out.block w.heap.size hw0).trans HI.out.b0)
                    have k0 : w1_.cell? ⟨w.heap.size, 0, none⟩ = some (.int .i64 m) := (blk_cell BW.out 0).trans rfl
                    have k1 : w1_.cell? ⟨w.heap.size, 1, none⟩ = some (.slice A L.length c) := (blk_cell BW.out 1).trans rfl
                    have kf0 := blk_frozen BW.out 0
                    have kf1 := blk_frozen BW.out 1
                    go_wp2_with (go_at_call 12; (with_reducible refine (waybilllaw22_num.calls 0 0 _ rfl).mono ?_); rintro e w' ⟨rfl, ⟨nd2, rfl⟩⟩)
                    go_meet
                    case rel => exact ⟨Ax1, cx1, r2, ⟨by
                      obtain ⟨rfl, h2, h3⟩ := HPP.out
                      exact HI.out.set (pw_below_drewN HB10.out _) (Kd.S_below HSX.out (pw_below_drewN (Below.refl _ _) _)) h2 ⟨h3 _ _ HI.out.wh.1 HI.out.wh.2, HI.out.wh.2⟩⟩⟩
                  · have t3 : (r3 == 0) = false := beq_eq_false_iff_ne.2 h0
                    clear h0
                    go_wp2_with (go_at_call 12; (with_reducible refine (waybilllaw22_num.calls r3 r3 _ rfl).mono ?_); rintro e w' ⟨rfl, ⟨nd2, rfl⟩⟩)
                    go_meet
                    case rel => exact ⟨A, c, L, ⟨HI.out.up (pw_below_drewN HB10.out _)⟩⟩
              · have b1 : decide ((i : Int) < (l3.length : Int)) = false := decide_eq_false (by omega)
                have b1' : decide (i < l3.length) = false := decide_eq_false h3
                go_wp2
                go_meet
                case rel => exact ⟨A, c, L, HI⟩
            case rest =>
            obtain ⟨A, c, L, HI⟩ := hcut
            clear y0 y1 hw0
            have y0 : wc.cell? ⟨w.heap.size, 0, none⟩ = some (.int .i64 m) := (blk_cell HI.out.b0 0).trans rfl
            have y1 : wc.cell? ⟨w.heap.size, 1, none⟩ = some (.slice A L.length c) := (blk_cell HI.out.b0 1).trans rfl
            have hw0 : w.heap.size < wc.heap.size := blk_lt HI.out.b0
            go_upto_if 85 with fail
            go_cut [] (fun w' => ∃ m A c L is, Aside0 (OldInv w A0_1 c0_1 l0_1 a1 a2 m A c L is w') ∧ (was = 2 → is = 2))
            case first =>
              by_cases h4 : i < l4.length
              · obtain ⟨ad, e1, q0⟩ := Kd.at_int (Kd.C_below HR4.out HI.out.bel) (i : Int) (by omega) (by omega)
                simp only [Int.toNat_natCast] at q0
                obtain ⟨mk, hmk⟩ : ∃ mk, mk = rd l4 (i : Int) := ⟨_, rfl⟩
                rw [← hmk] at q0
                have b1 : decide ((i : Int) < (l4.length : Int)) = true := decide_eq_true (by omega)
                have b1' : decide (i < l4.length) = true := decide_eq_true h4
                obtain ⟨r1, r2, r3, r4, hpv, hpm⟩ := forget_one HI.out.may mk
                have HPF : Aside0 (window_Forget.f m L a1 mk = some (r1, r2, r3, r4)) := ⟨by unfold window_Forget.f; rw [hpv]⟩
                have HPM := Aside0.mk hpm
                clear hmk hpv hpm
                subst e1
                go_wp2_with fail
                refine region_ghost (γ := Nat) (fun i g g' w1 w2 => if i = 6 then RMake g g' w1 w2 else if i = 11 then RAlloc (.cells #[.int .i64 0, .slice none 0 0] 24 (0, 0)) g g' w1 w2 else if i = 12 then RStore (wc.heap.size) (.cells #[.int .i64 0, .slice none 0 0] 24 (0, 0)) g g' w1 w2 else RSame g g' w1 w2) (fun g f W => TrAS wc wc.heap.size 11 12 (.cells #[.int .i64 0, .slice none 0 0] 24 (0, 0)) g f W) 0 [(some 87, (fun _ v _ => v = .agg #[.int .i64 m, .slice A L.length c])), (some 88, (fun _ v _ => v = .int .i64 a1)), (some 89, (fun _ v _ => v = .slice (some ad) l4.length c4)), (some 90, (fun _ v _ => v = .int .i64 i)), (some 91, (fun _ v _ => v = .pointer (some (ad.add i)))), (some 92, (fun _ v _ => v = .int .i64 mk)), (some 93, (fun g v W => ∃ v1, v = .tuple #[.agg #[.int .i64 r1, v1], .int .i64 r3, .int .i64 r4] ∧ Kd.S k32 32 W wc.heap.size (fun _ => True) v1 r2)), (some 86, (fun g v W => ∃ v1, v = .tuple #[.agg #[.int .i64 r1, v1], .int .i64 r3, .int .i64 r4] ∧ Kd.S k32 32 W wc.heap.size (fun _ => True) v1 r2)), (some 94, (fun g v W => ∃ v1, v = .agg #[.int .i64 r1, v1] ∧ Kd.S k32 32 W wc.heap.size (fun _ => True) v1 r2)), (some 95, (fun g v W => v = .int .i64 r3)), (some 96, (fun g v W => v = .int .i64 r4)), (some 17, (fun g v _ => v = .pointer (some ⟨g, 0, none⟩))), (none, (fun g v W => ∃ v1, W.heap[g]? = some (.cells #[.int .i64 r1, v1] 24 (0, 0)) ∧ Kd.S k32 32 W wc.heap.size (fun _ => True) v1 r2)), (some 18, (fun g v W => v = .int .i64 r3)), (some 19, (fun g v W => v = .int .i64 r4))] (by kernel_rfl) (by kernel_rfl) [87, 88, 89, 90, 91, 92, 93, 86, 94, 95, 96, 17, 18, 19] (by rfl) (by rfl) (by decide) ?hsz ?hst ?hT0 ?hT ?step ?fin
                case hsz => exact show ∀ t ∈ ([87, 88, 89, 90, 91, 92, 93, 86, 94, 95, 96, 17, 18, 19] : List Nat), t < 129 from List.forall_mem_cons.2 ⟨(show 87 < 129 by decide), List.forall_mem_cons.2 ⟨(show 88 < 129 by decide), List.forall_mem_cons.2 ⟨(show 89 < 129 by decide), List.forall_mem_cons.2 ⟨(show 90 < 129 by decide), List.forall_mem_cons.2 ⟨(show 91 < 129 by decide), List.forall_mem_cons.2 ⟨(show 92 < 129 by decide), List.forall_mem_cons.2 ⟨(show 93 < 129 by decide), List.forall_mem_cons.2 ⟨(show 86 < 129 by decide), List.forall_mem_cons.2 ⟨(show 94 < 129 by decide), List.forall_mem_cons.2 ⟨(show 95 < 129 by decide), List.forall_mem_cons.2 ⟨(show 96 < 129 by decide), List.forall_mem_cons.2 ⟨(show 17 < 129 by decide), List.forall_mem_cons.2 ⟨(show 18 < 129 by decide), List.forall_mem_cons.2 ⟨(show 19 < 129 by decide), fun _ h => nomatch h⟩⟩⟩⟩⟩⟩⟩⟩⟩⟩⟩⟩⟩⟩
                case hT0 => exact TrAS.start _ _ _ _ _ _ _ 15 (by decide) (Below.refl _ _) (Nat.le_refl _)
                case hT =>
                  intro f i_ g g' w1 w2 hi hfi ht hr
                  match i_, hi with
                  | 0, _ => exact TrAS.same (i := 0) ht hr (by decide) (by decide)
                  | 1, _ => exact TrAS.same (i := 1) ht hr (by decide) (by decide)
                  | 2, _ => exact TrAS.same (i := 2) ht hr (by decide) (by decide)
                  | 3, _ => exact TrAS.same (i := 3) ht hr (by decide) (by decide)
                  | 4, _ => exact TrAS.same (i := 4) ht hr (by decide) (by decide)
                  | 5, _ => exact TrAS.same (i := 5) ht hr (by decide) (by decide)
                  | 6, _ => exact TrAS.make (i := 6) ht hr (by decide) (by decide)
                  | 7, _ => exact TrAS.same (i := 7) ht hr (by decide) (by decide)
                  | 8, _ => exact TrAS.same (i := 8) ht hr (by decide) (by decide)
                  | 9, _ => exact TrAS.same (i := 9) ht hr (by decide) (by decide)
                  | 10, _ => exact TrAS.same (i := 10) ht hr (by decide) (by decide)
                  | 11, _ => exact TrAS.alloc ht hr
                  | 12, _ => exact TrAS.store ht hr (by decide)
                  | 13, _ => exact TrAS.same (i := 13) ht hr (by decide) (by decide)
                  | 14, _ => exact TrAS.same (i := 14) ht hr (by decide) (by decide)
                  | n_ + 15, hi => exact absurd hi (by show ¬ n_ + 15 < 15; omega)
                case hst =>
                  intro i_ j_ q_ hq hij hin
                  match i_, hin with
                  | 0, _ => exact .inr fun f g g' v w1 w2 _ hr h => RSame.keep (q := q_.2) hr h
                  | 1, _ => exact .inr fun f g g' v w1 w2 _ hr h => RSame.keep (q := q_.2) hr h
                  | 2, _ => exact .inr fun f g g' v w1 w2 _ hr h => RSame.keep (q := q_.2) hr h
                  | 3, _ => exact .inr fun f g g' v w1 w2 _ hr h => RSame.keep (q := q_.2) hr h
                  | 4, _ => exact .inr fun f g g' v w1 w2 _ hr h => RSame.keep (q := q_.2) hr h
                  | 5, _ => exact .inr fun f g g' v w1 w2 _ hr h => RSame.keep (q := q_.2) hr h
                  | 6, _ =>
                    match j_, hq with
                    | 0, hq => exact .inr (by obtain rfl := Option.some.inj hq; exact fun f g g' v w1 w2 ht hr h => h)
                    | 1, hq => exact .inr (by obtain rfl := Option.some.inj hq; exact fun f g g' v w1 w2 ht hr h => h)
                    | 2, hq => exact .inr (by obtain rfl := Option.some.inj hq; exact fun f g g' v w1 w2 ht hr h => h)
                    | 3, hq => exact .inr (by obtain rfl := Option.some.inj hq; exact fun f g g' v w1 w2 ht hr h => h)
                    | 4, hq => exact .inr (by obtain rfl := Option.some.inj hq; exact fun f g g' v w1 w2 ht hr h => h)
                    | 5, hq => exact .inr (by obtain rfl := Option.some.inj hq; exact fun f g g' v w1 w2 ht hr h => h)
                    | 6, hq => exact absurd rfl hij
                    | 7, hq => exact .inl (by kernel_rfl)
                    | 8, hq => exact .inr (by obtain rfl := Option.some.inj hq; exact fun f g g' v w1 w2 ht hr h => h.imp fun _ h => ⟨h.1, Kd.S_below h.2 hr.b⟩)
                    | 9, hq => exact .inr (by obtain rfl := Option.some.inj hq; exact fun f g g' v w1 w2 ht hr h => h)
                    | 10, hq => exact .inr (by obtain rfl := Option.some.inj hq; exact fun f g g' v w1 w2 ht hr h => h)
                    | 11, hq => exact .inr (by obtain rfl := Option.some.inj hq; exact fun f g g' v w1 w2 ht hr h => h.trans (by rw [show g' = g from hr.e]))
                    | 12, hq => exact .inl (by kernel_rfl)
                    | 13, hq => exact .inl (by kernel_rfl)
                    | 14, hq => exact .inl (by kernel_rfl)
                    | n_ + 15, hq => simp at hq
                  | 7, _ => exact .inr fun f g g' v w1 w2 _ hr h => RSame.keep (q := q_.2) hr h
                  | 8, _ => exact .inr fun f g g' v w1 w2 _ hr h => RSame.keep (q := q_.2) hr h
                  | 9, _ => exact .inr fun f g g' v w1 w2 _ hr h => RSame.keep (q := q_.2) hr h
                  | 10, _ => exact .inr fun f g g' v w1 w2 _ hr h => RSame.keep (q := q_.2) hr h
                  | 11, _ =>
                    match j_, hq with
                    | 0, hq => exact .inr (by obtain rfl := Option.some.inj hq; exact fun f g g' v w1 w2 ht hr h => h)
                    | 1, hq => exact .inr (by obtain rfl := Option.some.inj hq; exact fun f g g' v w1 w2 ht hr h => h)
                    | 2, hq => exact .inr (by obtain rfl := Option.some.inj hq; exact fun f g g' v w1 w2 ht hr h => h)
                    | 3, hq => exact .inr (by obtain rfl := Option.some.inj hq; exact fun f g g' v w1 w2 ht hr h => h)
                    | 4, hq => exact .inr (by obtain rfl := Option.some.inj hq; exact fun f g g' v w1 w2 ht hr h => h)
                    | 5, hq => exact .inr (by obtain rfl := Option.some.inj hq; exact fun f g g' v w1 w2 ht hr h => h)
                    | 6, hq => exact .inr (by obtain rfl := Option.some.inj hq; exact fun f g g' v w1 w2 ht hr h => h.imp fun _ h => ⟨h.1, Kd.S_below h.2 hr.b⟩)
                    | 7, hq => exact .inr (by obtain rfl := Option.some.inj hq; exact fun f g g' v w1 w2 ht hr h => h.imp fun _ h => ⟨h.1, Kd.S_below h.2 hr.b⟩)
                    | 8, hq => exact .inr (by obtain rfl := Option.some.inj hq; exact fun f g g' v w1 w2 ht hr h => h.imp fun _ h => ⟨h.1, Kd.S_below h.2 hr.b⟩)
                    | 9, hq => exact .inr (by obtain rfl := Option.some.inj hq; exact fun f g g' v w1 w2 ht hr h => h)
                    | 10, hq => exact .inr (by obtain rfl := Option.some.inj hq; exact fun f g g' v w1 w2 ht hr h => h)
                    | 11, hq => exact absurd rfl hij
                    | 12, hq => exact .inl (by kernel_rfl)
                    | 13, hq => exact .inl (by kernel_rfl)
                    | 14, hq => exact .inl (by kernel_rfl)
                    | n_ + 15, hq => simp at hq
                  | 12, _ =>
                    match j_, hq with
                    | 0, hq => exact .inr (by obtain rfl := Option.some.inj hq; exact fun f g g' v w1 w2 ht hr h => h)
                    | 1, hq => exact .inr (by obtain rfl := Option.some.inj hq; exact fun f g g' v w1 w2 ht hr h => h)
                    | 2, hq => exact .inr (by obtain rfl := Option.some.inj hq; exact fun f g g' v w1 w2 ht hr h => h)
                    | 3, hq => exact .inr (by obtain rfl := Option.some.inj hq; exact fun f g g' v w1 w2 ht hr h => h)
                    | 4, hq => exact .inr (by obtain rfl := Option.some.inj hq; exact fun f g g' v w1 w2 ht hr h => h)
                    | 5, hq => exact .inr (by obtain rfl := Option.some.inj hq; exact fun f g g' v w1 w2 ht hr h => h)
                    | 6, hq => exact .inr (by obtain rfl := Option.some.inj hq; exact fun f g g' v w1 w2 ht hr h => h.imp fun _ h => ⟨h.1, hr.S h.2 (by decide)⟩)
                    | 7, hq => exact .inr (by obtain rfl := Option.some.inj hq; exact fun f g g' v w1 w2 ht hr h => h.imp fun _ h => ⟨h.1, hr.S h.2 (by decide)⟩)
                    | 8, hq => exact .inr (by obtain rfl := Option.some.inj hq; exact fun f g g' v w1 w2 ht hr h => h.imp fun _ h => ⟨h.1, hr.S h.2 (by decide)⟩)
                    | 9, hq => exact .inr (by obtain rfl := Option.some.inj hq; exact fun f g g' v w1 w2 ht hr h => h)
                    | 10, hq => exact .inr (by obtain rfl := Option.some.inj hq; exact fun f g g' v w1 w2 ht hr h => h)
                    | 11, hq => exact .inr (by obtain rfl := Option.some.inj hq; exact fun f g g' v w1 w2 ht hr h => h.trans (by rw [show g' = g from hr.e]))
                    | 12, hq => exact absurd rfl hij
                    | 13, hq => exact .inl (by kernel_rfl)
                    | 14, hq => exact .inl (by kernel_rfl)
                    | n_ + 15, hq => simp at hq
                  | 13, _ => exact .inr fun f g g' v w1 w2 _ hr h => RSame.keep (q := q_.2) hr h
                  | 14, _ => exact .inr fun f g g' v w1 w2 _ hr h => RSame.keep (q := q_.2) hr h
                  | n_ + 15, hin => exact absurd hin (by show ¬ n_ + 15 < 15; omega)
                case step =>
                  intro i_ o_ e_ ho he f g a w1_ hfi hs hdf hfr htr hpre
                  try dsimp only
                  match i_, ho, he, hfi with
                  | 0, ho, he, hfi =>
                    obtain rfl : o_ = { dst := some 87, op := Go.Op.load 24 (Go.Operand.tmp 5), type := 24, pos := "law.go:59", after := #[], guard := none } := (Option.some.inj ho).symm
                    obtain rfl := Option.some.inj he; clear he
                    have f5 : a.tmps.getD 5 undef = .pointer (some ⟨w.heap.size, 0, none⟩) := by rw [Array.getD_eq_getD_getElem?, hfr 5 (show ¬ 5 ∈ ([87, 88, 89, 90, 91, 92, 93, 86, 94, 95, 96, 17, 18, 19] : List Nat) by decide)]; rfl
                    clear hpre hfr
                    have k_y0 := (htr.bel.cell (World.block_lt_of_cell? _ _ y0)).trans y0
                    have k_y1 := (htr.bel.cell (World.block_lt_of_cell? _ _ y1)).trans y1
                    refine wpOp_value (v := .agg #[.int .i64 m, .slice A L.length c]) ho rfl ?_ ⟨_, g, rfl, rfl, RSame.mk rfl rfl⟩
                    simp only [execOp, Act.eval, List.map_toArray, List.map_cons, List.map_nil, f5]
                    first | rfl | (go_simp; done) | (go_simp; rfl) | (go_simp; intro h_; exfalso; omega)
                  | 1, ho, he, hfi =>
                    obtain rfl : o_ = { dst := some 88, op := Go.Op.move (Go.Operand.tmp 1), type := 3, pos := "law.go:59", after := #[], guard := none } := (Option.some.inj ho).symm
                    obtain rfl := Option.some.inj he; clear he
                    have f1 : a.tmps.getD 1 undef = .int .i64 a1 := by rw [Array.getD_eq_getD_getElem?, hfr 1 (show ¬ 1 ∈ ([87, 88, 89, 90, 91, 92, 93, 86, 94, 95, 96, 17, 18, 19] : List Nat) by decide)]; rfl
                    clear hpre hfr
                    refine wpOp_value (v := .int .i64 a1) ho rfl ?_ ⟨_, g, rfl, rfl, RSame.mk rfl rfl⟩
                    simp only [execOp, Act.eval, List.map_toArray, List.map_cons, List.map_nil, f1]
                    first | rfl | (go_simp; done) | (go_simp; rfl) | (go_simp; intro h_; exfalso; omega)
                  | 2, ho, he, hfi =>
                    obtain rfl : o_ = { dst := some 89, op := Go.Op.move (Go.Operand.tmp 4), type := 26, pos := "law.go:59", after := #[], guard := none } := (Option.some.inj ho).symm
                    obtain rfl := Option.some.inj he; clear he
                    have f4 : a.tmps.getD 4 undef = .slice (some ad) l4.length c4 := by rw [Array.getD_eq_getD_getElem?, hfr 4 (show ¬ 4 ∈ ([87, 88, 89, 90, 91, 92, 93, 86, 94, 95, 96, 17, 18, 19] : List Nat) by decide)]; rfl
                    clear hpre hfr
                    refine wpOp_value (v := .slice (some ad) l4.length c4) ho rfl ?_ ⟨_, g, rfl, rfl, RSame.mk rfl rfl⟩
                    simp only [execOp, Act.eval, List.map_toArray, List.map_cons, List.map_nil, f4]
                    first | rfl | (go_simp; done) | (go_simp; rfl) | (go_simp; intro h_; exfalso; omega)
                  | 3, ho, he, hfi =>
                    obtain rfl : o_ = { dst := some 90, op := Go.Op.move (Go.Operand.tmp 14), type := 3, pos := "law.go:59", after := #[], guard := none } := (Option.some.inj ho).symm
                    obtain rfl := Option.some.inj he; clear he
                    have f14 : a.tmps.getD 14 undef = .int .i64 i := by rw [Array.getD_eq_getD_getElem?, hfr 14 (show ¬ 14 ∈ ([87, 88, 89, 90, 91, 92, 93, 86, 94, 95, 96, 17, 18, 19] : List Nat) by decide)]; rfl
                    clear hpre hfr
                    refine wpOp_value (v := .int .i64 i) ho rfl ?_ ⟨_, g, rfl, rfl, RSame.mk rfl rfl⟩
                    simp only [execOp, Act.eval, List.map_toArray, List.map_cons, List.map_nil, f14]
                    first | rfl | (go_simp; done) | (go_simp; rfl) | (go_simp; intro h_; exfalso; omega)
                  | 4, ho, he, hfi =>
                    obtain rfl : o_ = { dst := some 91, op := Go.Op.indexAddr 26 (Go.Operand.tmp 89) (Go.Operand.tmp 90), type := 0, pos := "law.go:59", after := #[{ on := 2, ground := Go.Ground.data }, { on := 3, ground := Go.Ground.data }], guard := none } := (Option.some.inj ho).symm
                    obtain rfl := Option.some.inj he; clear he
                    obtain ⟨ef89, v89_, e89, ev89⟩ := hpre ⟨2, .data⟩ (by simp) rfl _ rfl
                    replace ev89 := ev89 _ rfl; subst ev89
                    have e89 : a.tmps.getD 89 undef = .slice (some ad) l4.length c4 := e89
                    obtain ⟨ef90, v90_, e90, ev90⟩ := hpre ⟨3, .data⟩ (by simp) rfl _ rfl
                    replace ev90 := ev90 _ rfl; subst ev90
                    have e90 : a.tmps.getD 90 undef = .int .i64 i := e90
                    clear hpre hfr
                    refine wpOp_value (v := .pointer (some (ad.add i))) ho rfl ?_ ⟨_, g, rfl, rfl, RSame.mk rfl rfl⟩
                    simp only [execOp, Act.eval, List.map_toArray, List.map_cons, List.map_nil, e89, e90]
                    first | rfl | (go_simp; done) | (go_simp; rfl) | (go_simp; intro h_; exfalso; omega)
                  | 5, ho, he, hfi =>
                    obtain rfl : o_ = { dst := some 92, op := Go.Op.load 3 (Go.Operand.tmp 91), type := 3, pos := "law.go:59", after := #[{ on := 4, ground := Go.Ground.data }], guard := none } := (Option.some.inj ho).symm
                    obtain rfl := Option.some.inj he; clear he
                    obtain ⟨ef91, v91_, e91, ev91⟩ := hpre ⟨4, .data⟩ (by simp) rfl _ rfl
                    replace ev91 := ev91 _ rfl; subst ev91
                    have e91 : a.tmps.getD 91 undef = .pointer (some (ad.add i)) := e91
                    clear hpre hfr
                    have k_q0 := (htr.bel.cell (World.block_lt_of_cell? _ _ q0)).trans q0
                    refine wpOp_value (v := .int .i64 mk) ho rfl ?_ ⟨_, g, rfl, rfl, RSame.mk rfl rfl⟩
                    simp only [execOp, Act.eval, List.map_toArray, List.map_cons, List.map_nil, e91]
                    first | rfl | (go_simp; done) | (go_simp; rfl) | (go_simp; intro h_; exfalso; omega)
                  | 6, ho, he, hfi =>
                    obtain rfl : o_ = { dst := some 93, op := Go.Op.call { callee := Go.Callee.value (Go.Operand.func 13), args := #[Go.Operand.tmp 87, Go.Operand.tmp 88, Go.Operand.tmp 92], argTypes := #[24, 3, 3] }, type := 37, pos := "law.go:59", after := #[{ on := 0, ground := Go.Ground.data }, { on := 1, ground := Go.Ground.data }, { on := 5, ground := Go.Ground.data }], guard := none } := (Option.some.inj ho).symm
                    obtain rfl := Option.some.inj he; clear he
                    obtain ⟨ef87, v87_, e87, ev87⟩ := hpre ⟨0, .data⟩ (by simp) rfl _ rfl
                    replace ev87 := ev87 _ rfl; subst ev87
                    have e87 : a.tmps.getD 87 undef = .agg #[.int .i64 m, .slice A L.length c] := e87
                    obtain ⟨ef88, v88_, e88, ev88⟩ := hpre ⟨1, .data⟩ (by simp) rfl _ rfl
                    replace ev88 := ev88 _ rfl; subst ev88
                    have e88 : a.tmps.getD 88 undef = .int .i64 a1 := e88
                    obtain ⟨ef92, v92_, e92, ev92⟩ := hpre ⟨5, .data⟩ (by simp) rfl _ rfl
                    replace ev92 := ev92 _ rfl; subst ev92
                    have e92 : a.tmps.getD 92 undef = .int .i64 mk := e92
                    clear hpre hfr
                    refine wpOp_call (fn := Try.f13) ho rfl rfl rfl rfl #[.agg #[.int .i64 m, .slice A L.length c], .int .i64 a1, .int .i64 mk] rfl (by simp only [List.map_toArray, List.map_cons, List.map_nil, Act.eval, e87, e88, e92]) ?_
                    refine (window_Forget.calls m A c L a1 mk r1 r2 r3 r4 _ (Kd.C_below (HI.out.cc HR.out HC.out).1 htr.bel) (HI.out.cc HR.out HC.out).2 HPF.out).mono ?_
                    rintro e w2 ⟨v0, rfl, hS, hb2⟩
                    exact ⟨_, rfl, _, g, rfl, ⟨v0, rfl, Kd.S_lower hS htr.siz⟩, RMake.mk rfl hb2⟩
                  | 7, ho, he, hfi =>
                    obtain rfl : o_ = { dst := some 86, op := Go.Op.move (Go.Operand.tmp 93), type := 37, pos := "law.go:59", after := #[{ on := 6, ground := Go.Ground.data }], guard := none } := (Option.some.inj ho).symm
                    obtain rfl := Option.some.inj he; clear he
                    obtain ⟨ef93, v93_, e93, ev93⟩ := hpre ⟨6, .data⟩ (by simp) rfl _ rfl
                    replace ev93 := ev93 _ rfl; subst ev93
                    try dsimp only at e93
                    clear hpre hfr
                    obtain ⟨v_, hv_⟩ : ∃ v_, v_ = a.tmps.getD 93 undef := ⟨_, rfl⟩
                    rw [← hv_] at e93
                    refine wpOp_value (v := v_) ho rfl ?_ ⟨v_, g, rfl, e93, RSame.mk rfl rfl⟩
                    simp only [execOp, Act.eval, List.map_toArray, List.map_cons, List.map_nil, ← hv_]
                    first | rfl | (go_simp; done) | (go_simp; rfl)
                  | 8, ho, he, hfi =>
                    obtain rfl : o_ = { dst := some 94, op := Go.Op.extract (Go.Operand.tmp 86) 0, type := 24, pos := "law.go:59", after := #[{ on := 7, ground := Go.Ground.data }], guard := none } := (Option.some.inj ho).symm
                    obtain rfl := Option.some.inj he; clear he
                    obtain ⟨ef86, v86_, e86, ev86⟩ := hpre ⟨7, .data⟩ (by simp) rfl _ rfl
                    replace ev86 := ev86 _ rfl; subst ev86
                    try dsimp only at e86
                    clear hpre hfr
                    obtain ⟨v1, e1, e3⟩ := e86
                    refine wpOp_value (v := .agg #[.int .i64 r1, v1]) ho rfl ?_ ⟨_, g, rfl, ⟨v1, rfl, e3⟩, RSame.mk rfl rfl⟩
                    simp only [execOp, Act.eval, List.map_toArray, List.map_cons, List.map_nil, e1]
                    first | rfl | (go_simp; done) | (go_simp; rfl)
                  | 9, ho, he, hfi =>
                    obtain rfl : o_ = { dst := some 95, op := Go.Op.extract (Go.Operand.tmp 86) 1, type := 3, pos := "law.go:59", after := #[{ on := 7, ground := Go.Ground.data }, { on := 12, ground := Go.Ground.gcOnly Go.Departure.lateStores }], guard := none } := (Option.some.inj ho).symm
                    obtain rfl := Option.some.inj he; clear he
                    obtain ⟨ef86, v86_, e86, ev86⟩ := hpre ⟨7, .data⟩ (by simp) rfl _ rfl
                    replace ev86 := ev86 _ rfl; subst ev86
                    try dsimp only at e86
                    clear hpre hfr
                    obtain ⟨v1, e1, e3⟩ := e86
                    refine wpOp_value (v := .int .i64 r3) ho rfl ?_ ⟨_, g, rfl, rfl, RSame.mk rfl rfl⟩
                    simp only [execOp, Act.eval, List.map_toArray, List.map_cons, List.map_nil, e1]
                    first | rfl | (go_simp; done) | (go_simp; rfl)
                  | 10, ho, he, hfi =>
                    obtain rfl : o_ = { dst := some 96, op := Go.Op.extract (Go.Operand.tmp 86) 2, type := 27, pos := "law.go:59", after := #[{ on := 7, ground := Go.Ground.data }, { on := 13, ground := Go.Ground.gcOnly Go.Departure.lateStores }], guard := none } := (Option.some.inj ho).symm
                    obtain rfl := Option.some.inj he; clear he
                    obtain ⟨ef86, v86_, e86, ev86⟩ := hpre ⟨7, .data⟩ (by simp) rfl _ rfl
                    replace ev86 := ev86 _ rfl; subst ev86
                    try dsimp only at e86
                    clear hpre hfr
                    obtain ⟨v1, e1, e3⟩ := e86
                    refine wpOp_value (v := .int .i64 r4) ho rfl ?_ ⟨_, g, rfl, rfl, RSame.mk rfl rfl⟩
                    simp only [execOp, Act.eval, List.map_toArray, List.map_cons, List.map_nil, e1]
                    first | rfl | (go_simp; done) | (go_simp; rfl)
                  | 11, ho, he, hfi =>
                    obtain rfl : o_ = { dst := some 17, op := Go.Op.alloc 24, type := 0, pos := "law.go:59", after := #[], guard := none } := (Option.some.inj ho).symm
                    obtain rfl := Option.some.inj he; clear he
                    clear hpre hfr
                    refine wpOp_value (w1 := w1_.alloc (.cells #[.int .i64 0, .slice none 0 0] 24 (0, 0))) (v := .pointer (some ⟨w1_.heap.size, 0, none⟩)) ho rfl ?_ ⟨_, w1_.heap.size, rfl, rfl, RAlloc.mk rfl rfl⟩
                    simp only [execOp, Act.eval, List.map_toArray, List.map_cons, List.map_nil]
                    first | rfl | (go_simp; done) | (go_simp; rfl)
                  | 12, ho, he, hfi =>
                    obtain rfl : o_ = { dst := none, op := Go.Op.store 24 (Go.Operand.tmp 17) (Go.Operand.tmp 94), type := 0, pos := "law.go:59", after := #[{ on := 11, ground := Go.Ground.data }, { on := 8, ground := Go.Ground.data }, { on := 6, ground := Go.Ground.chain }, { on := 0, ground := Go.Ground.phase }, { on := 1, ground := Go.Ground.phase }, { on := 2, ground := Go.Ground.phase }, { on := 3, ground := Go.Ground.phase }, { on := 4, ground := Go.Ground.phase }, { on := 5, ground := Go.Ground.phase }, { on := 6, ground := Go.Ground.phase }, { on := 7, ground := Go.Ground.phase }, { on := 8, ground := Go.Ground.phase }, { on := 9, ground := Go.Ground.textOnly Go.Departure.lateStores }, { on := 10, ground := Go.Ground.textOnly Go.Departure.lateStores }, { on := 11, ground := Go.Ground.phase }], guard := none } := (Option.some.inj ho).symm
                    obtain rfl := Option.some.inj he; clear he
                    obtain ⟨ef17, v17_, e17, ev17⟩ := hpre ⟨11, .data⟩ (by simp) rfl _ rfl
                    replace ev17 := ev17 _ rfl; subst ev17
                    have e17 : a.tmps.getD 17 undef = .pointer (some ⟨g, 0, none⟩) := e17
                    obtain ⟨ef94, v94_, e94, ev94⟩ := hpre ⟨8, .data⟩ (by simp) rfl _ rfl
                    replace ev94 := ev94 _ rfl; subst ev94
                    try dsimp only at e94
                    clear hpre hfr
                    obtain ⟨v1, e1, e3⟩ := e94
                    obtain ⟨Ay, cy, rfl⟩ := Kd.R_slice (Kd.S_R e3)
                    have hz := htr.zero ef17 hfi
                    have hz0 : w1_.cell? ⟨g, 0, none⟩ = some (.int .i64 0) := (blk_cell hz 0).trans rfl
                    have hz1 : w1_.cell? ⟨g, 1, none⟩ = some (.slice none 0 0) := (blk_cell hz 1).trans rfl
                    have hf0 := blk_frozen hz 0
                    have hf1 := blk_frozen hz 1
                    refine wpOp_skip (w1 := (w1_.setCell ⟨g, 0, none⟩ (.int .i64 r1)).setCell ⟨g, 1, none⟩ (.slice Ay r2.length cy)) ho rfl ?_ ⟨undef, g, rfl, ⟨_, blk_put (blk_put hz 0 _ rfl) 1 _ rfl, ?_⟩, RStore.mk rfl (htr.ge ef17).1 hz ⟨[_, _], rfl⟩⟩
                    · simp only [execOp, Act.eval, List.map_toArray, List.map_cons, List.map_nil, e1, e17]
                      first | rfl | (go_simp; done) | (go_simp; rfl)
                    · exact Kd.S_set (Kd.S_set e3 hz (by decide) 0 _) (blk_set hz 0 _) (by decide) 1 _
                  | 13, ho, he, hfi =>
                    obtain rfl : o_ = { dst := some 18, op := Go.Op.assign (Go.Operand.tmp 95), type := 3, pos := "law.go:59", after := #[{ on := 9, ground := Go.Ground.data }, { on := 12, ground := Go.Ground.chain }, { on := 0, ground := Go.Ground.phase }, { on := 1, ground := Go.Ground.phase }, { on := 2, ground := Go.Ground.phase }, { on := 3, ground := Go.Ground.phase }, { on := 4, ground := Go.Ground.phase }, { on := 5, ground := Go.Ground.phase }, { on := 6, ground := Go.Ground.phase }, { on := 7, ground := Go.Ground.phase }, { on := 8, ground := Go.Ground.phase }, { on := 9, ground := Go.Ground.phase }, { on := 10, ground := Go.Ground.textOnly Go.Departure.lateStores }, { on := 11, ground := Go.Ground.phase }, { on := 12, ground := Go.Ground.phase }], guard := none } := (Option.some.inj ho).symm
                    obtain rfl := Option.some.inj he; clear he
                    obtain ⟨ef95, v95_, e95, ev95⟩ := hpre ⟨9, .data⟩ (by simp) rfl _ rfl
                    replace ev95 := ev95 _ rfl; subst ev95
                    try dsimp only at e95
                    clear hpre hfr
                    obtain ⟨v_, hv_⟩ : ∃ v_, v_ = a.tmps.getD 95 undef := ⟨_, rfl⟩
                    rw [← hv_] at e95
                    refine wpOp_value (v := v_) ho rfl ?_ ⟨v_, g, rfl, e95, RSame.mk rfl rfl⟩
                    simp only [execOp, Act.eval, List.map_toArray, List.map_cons, List.map_nil, ← hv_]
                    first | rfl | (go_simp; done) | (go_simp; rfl)
                  | 14, ho, he, hfi =>
                    obtain rfl : o_ = { dst := some 19, op := Go.Op.assign (Go.Operand.tmp 96), type := 27, pos := "law.go:59", after := #[{ on := 10, ground := Go.Ground.data }, { on := 13, ground := Go.Ground.chain }, { on := 0, ground := Go.Ground.phase }, { on := 1, ground := Go.Ground.phase }, { on := 2, ground := Go.Ground.phase }, { on := 3, ground := Go.Ground.phase }, { on := 4, ground := Go.Ground.phase }, { on := 5, ground := Go.Ground.phase }, { on := 6, ground := Go.Ground.phase }, { on := 7, ground := Go.Ground.phase }, { on := 8, ground := Go.Ground.phase }, { on := 9, ground := Go.Ground.phase }, { on := 10, ground := Go.Ground.phase }, { on := 11, ground := Go.Ground.phase }, { on := 12, ground := Go.Ground.phase }, { on := 13, ground := Go.Ground.phase }], guard := none } := (Option.some.inj ho).symm
                    obtain rfl := Option.some.inj he; clear he
                    obtain ⟨ef96, v96_, e96, ev96⟩ := hpre ⟨10, .data⟩ (by simp) rfl _ rfl
                    replace ev96 := ev96 _ rfl; subst ev96
                    try dsimp only at e96
                    clear hpre hfr
                    obtain ⟨v_, hv_⟩ : ∃ v_, v_ = a.tmps.getD 96 undef := ⟨_, rfl⟩
                    rw [← hv_] at e96
                    refine wpOp_value (v := v_) ho rfl ?_ ⟨v_, g, rfl, e96, RSame.mk rfl rfl⟩
                    simp only [execOp, Act.eval, List.map_toArray, List.map_cons, List.map_nil, ← hv_]
                    first | rfl | (go_simp; done) | (go_simp; rfl)
                  | n_ + 15, ho, he, hfi => simp at he
                case fin =>
                  intro xv_ gz f_ w1_ hall htr hx
                  simp only [List.forall_mem_cons] at hx
                  obtain ⟨⟨z87_, z87, y87⟩, ⟨z88_, z88, y88⟩, ⟨z89_, z89, y89⟩, ⟨z90_, z90, y90⟩, ⟨z91_, z91, y91⟩, ⟨z92_, z92, y92⟩, ⟨z93_, z93, y93⟩, ⟨z86_, z86, y86⟩, ⟨z94_, z94, y94⟩, ⟨z95_, z95, y95⟩, ⟨z96_, z96, y96⟩, ⟨z17_, z17, y17⟩, ⟨_, w12, _⟩, ⟨z18_, z18, y18⟩, ⟨z19_, z19, y19⟩, _⟩ := hx
                  replace y87 := y87 _ rfl; subst y87
                  have x87 : xv_ 87 = .agg #[.int .i64 m, .slice A L.length c] := z87
                  replace y88 := y88 _ rfl; subst y88
                  have x88 : xv_ 88 = .int .i64 a1 := z88
                  replace y89 := y89 _ rfl; subst y89
                  have x89 : xv_ 89 = .slice (some ad) l4.length c4 := z89
                  replace y90 := y90 _ rfl; subst y90
                  have x90 : xv_ 90 = .int .i64 i := z90
                  replace y91 := y91 _ rfl; subst y91
                  have x91 : xv_ 91 = .pointer (some (ad.add i)) := z91
                  replace y92 := y92 _ rfl; subst y92
                  have x92 : xv_ 92 = .int .i64 mk := z92
                  replace y93 := y93 _ rfl; subst y93
                  obtain ⟨v93, x93, _⟩ := z93
                  replace y86 := y86 _ rfl; subst y86
                  obtain ⟨x_86, x86⟩ : ∃ x, xv_ 86 = x := ⟨_, rfl⟩
                  replace y94 := y94 _ rfl; subst y94
                  obtain ⟨vp, x94, _⟩ := z94
                  replace y95 := y95 _ rfl; subst y95
                  have x95 := z95; try dsimp only at x95
                  replace y96 := y96 _ rfl; subst y96
                  have x96 := z96; try dsimp only at x96
                  replace y17 := y17 _ rfl; subst y17
                  have x17 : xv_ 17 = .pointer (some ⟨gz, 0, none⟩) := z17
                  replace y18 := y18 _ rfl; subst y18
                  have x18 := z18; try dsimp only at x18
                  replace y19 := y19 _ rfl; subst y19
                  have x19 := z19; try dsimp only at x19
                  obtain ⟨vx, hbx, hSx⟩ := w12
                  simp only [List.map_cons, List.map_nil, putL, Act.put, List.setIfInBounds_toArray, List.set_cons_zero, List.set_cons_succ, x87, x88, x89, x90, x91, x92, x93, x86, x94, x95, x96, x17, x18, x19]
                  clear x87 x88 x89 x90 x91 x92 x93 x86 x94 x95 x96 x17 x18 x19 z87 z88 z89 z90 z91 z92 z86 z95 z96 z17 z18 z19
                  have HB10 := Aside0.mk htr.bel
                  have HBX := Aside0.mk hbx
                  have HSX := Aside0.mk hSx
                  clear hbx hSx hall htr
                  obtain ⟨Ax1, cx1, rfl⟩ := Kd.R_slice (Kd.S_R HSX.out)
                  have g0 := blk_cell HBX.out 0
                  have g1 := blk_cell HBX.out 1
                  simp at g0 g1
                  by_cases h0 : r4 = 0
                  · subst h0
                    have HPP := Aside0.mk (HPM.out rfl)
                    have BW := Aside0.mk ((HB10.out.block w.heap.size hw0).trans HI.out.b0)
                    have k0 : w1_.cell? ⟨w.heap.size, 0, none⟩ = some (.int .i64 m) := (blk_cell BW.out 0).trans rfl
                    have k1 : w1_.cell? ⟨w.heap.size, 1, none⟩ = some (.slice A L.length c) := (blk_cell BW.out 1).trans rfl
                    have kf0 := blk_frozen BW.out 0
                    have kf1 := blk_frozen BW.out 1
                    go_wp2_with (go_at_call 12; (with_reducible refine (waybilllaw22_num.calls 0 0 _ rfl).mono ?_); rintro e w' ⟨rfl, ⟨nd2, rfl⟩⟩)
                    go_meet
                    case rel =>
                      obtain ⟨h2, h3⟩ := HPP.out
                      obtain ⟨is, h4, h5, h6⟩ := h3 _ _ HI.out.wh.1 HI.out.wh.2
                      exact ⟨r1, Ax1, cx1, r2, is, ⟨HI.out.set (pw_below_drewN HB10.out _) (Kd.S_below HSX.out (pw_below_drewN (Below.refl _ _) _)) h2 ⟨h4, h5⟩⟩, h6⟩
                  · have t3 : (r4 == 0) = false := beq_eq_false_iff_ne.2 h0
                    clear h0
                    go_wp2_with (go_at_call 12; (with_reducible refine (waybilllaw22_num.calls r4 r4 _ rfl).mono ?_); rintro e w' ⟨rfl, ⟨nd2, rfl⟩⟩)
                    go_meet
                    case rel => exact ⟨m, A, c, L, was, ⟨HI.out.up (pw_below_drewN HB10.out _)⟩, fun h => h⟩
              · have b1 : decide ((i : Int) < (l4.length : Int)) = false := decide_eq_false (by omega)
                have b1' : decide (i < l4.length) = false := decide_eq_false h4
                go_wp2
                go_meet
                case rel => exact ⟨m, A, c, L, was, HI, fun h => h⟩
            case rest =>
            obtain ⟨m2, A2, c2, L2, is, HJ, hwi⟩ := hcut
            clear y0 y1 hw0
            have y0 : wc.cell? ⟨w.heap.size, 0, none⟩ = some (.int .i64 m2) := (blk_cell HJ.out.b0 0).trans rfl
            have y1 : wc.cell? ⟨w.heap.size, 1, none⟩ = some (.slice A2 L2.length c2) := (blk_cell HJ.out.b0 1).trans rfl
            have hw0 : w.heap.size < wc.heap.size := blk_lt HJ.out.b0
            obtain ⟨z1, z2, z3, hz⟩ := see_whole HJ.out.may a2
            rw [HJ.out.wh.1] at hz
            have HZ : Aside0 (window_See.f m2 L2 a1 a2 = some (is, z1, z2, z3, 0)) := ⟨by unfold window_See.f; rw [hz]⟩
            clear hz
            go_wp2_with (go_at_call 11; (refine (window_See.calls m2 A2 c2 L2 a1 a2 is z1 z2 z3 0 _ (HJ.out.cc HR.out HC.out).1 (HJ.out.cc HR.out HC.out).2 HZ.out).mono ?_); rintro e ws ⟨vs, rfl, hRs, hb⟩; obtain ⟨As, cs, rfl⟩ := Kd.R_slice hRs; have HBS := Aside0.mk hb; clear hb hRs)
            have HNX : Aside0 (i + 1 ≤ l3.length ∨ i + 1 ≤ l4.length) := ⟨by omega⟩
            have HMS : Aside0 (l3.length + l4.length - (i + 1) < l3.length + l4.length - i) := ⟨by omega⟩
            have hwk : wrap64 ((i : Int) + 1) = ((i + 1 : Nat) : Int) := by unfold wrap64; omega
            have hc : was = 1 ∧ is = 1 ∨ was = 1 ∧ is = 2 ∨ was = 2 ∧ is = 2 := by
              rcases HI.out.wh.2 with h | h <;> rcases HJ.out.wh.2 with h' | h' <;> omega
            clear hwi hgo hi
            rcases hc with ⟨rfl, rfl⟩ | ⟨rfl, rfl⟩ | ⟨rfl, rfl⟩
            all_goals
              go_wp2_with (go_at_call 12; (with_reducible refine (waybilllaw22_num.calls 0 0 _ rfl).mono ?_); rintro e w' ⟨rfl, ⟨nd3, rfl⟩⟩)
              go_roundw
              case rel => exact ⟨i + 1, m2, A2, c2, L2, _, by rw [hwk], rfl, HNX.out, ⟨HJ.out.up (pw_below_drewN (below_alloc HBS.out _) _)⟩⟩
              case measure => rw [hwk]; simp only [intOf, Int.toNat_natCast]; exact HMS.out
          · have b1 : decide ((i : Int) < (l3.length : Int)) = false := decide_eq_false (by omega)
            have b1' : decide (i < l3.length) = false := decide_eq_false (by omega)
            have b2 : decide ((i : Int) < (l4.length : Int)) = false := decide_eq_false (by omega)
            have b2' : decide (i < l4.length) = false := decide_eq_false (by omega)
            go_wp2
            go_ret
            exact ⟨rfl, HI.out.bel⟩
  · have HW : Aside0 (s1 = 0 ∧ s5 = checkW a0_0 l0_1 a1) := ⟨by
      have := HSV.out
      unfold seeW at this
      rw [if_pos hk] at this
      simp only [Prod.mk.injEq] at this
      exact ⟨this.1.symm, this.2.2.2.2.symm⟩⟩
    obtain rfl := HW.out.1
    have t5 : (s5 == 0) = false := beq_eq_false_iff_ne.2 (by rw [HW.out.2]; exact hk)
    have t5' : (s5 != 0) = true := bne_iff_ne.2 (by rw [HW.out.2]; exact hk)
    clear hk
    go_wp2_with (go_at_call 12; (with_reducible refine (waybilllaw22_num.calls s5 s5 _ rfl).mono ?_); rintro e w' ⟨rfl, ⟨nd, rfl⟩⟩)
    go_ret
    exact ⟨by simp, pw_below_drewN (below_alloc HB2.out _) _⟩

end Go.Proofs.Ytkdkjnjiianogaa.G
