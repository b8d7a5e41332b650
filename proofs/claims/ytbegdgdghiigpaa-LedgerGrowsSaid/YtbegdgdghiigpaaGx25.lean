-- Made by wip/tools/xprint.py (over the kit's print program) for this claim.
import Derived.Test.YtbegdgdghiigpaaGx0
import Derived.Test.YtbegdgdghiigpaaGx4
import Derived.Test.YtbegdgdghiigpaaGx13
import Derived.Test.YtbegdgdghiigpaaGx14
import Derived.Test.YtbegdgdghiigpaaGx18
import Derived.Test.YtbegdgdghiigpaaGx19
import Derived.Test.YtbegdgdghiigpaaGx20
import Derived.Test.YtbegdgdghiigpaaGx23
import Derived.Test.YtbegdgdghiigpaaGx24
namespace Go.Proofs.Ytbegdgdghiigpaa.G
open WB Go.RowKit Go.Proofs.YtbegdgdghiigpaaW.PrintWords Go.Proofs.YtbegdgdghiigpaaW.PrintLast Go.Proofs.YtbegdgdghiigpaaW.PrintMore
attribute [local go_sem] max2_int min2_int max_two min_two max_three min_three max_four min_four   -- for this text's walks alone
set_option linter.unusedVariables false
set_option linter.unusedSimpArgs false

/-! ### waybilllaw24_LedgerGrows: function 4 -/
theorem g_same_l1 (B : List Int) (L : List S44) (hl : L.length ≤ 1024) : ∀ (m i : Nat), i ≤ L.length → L.length - i < m → waybillref24_Same.l1 m (i : Int) B L B L = some true
  | 0, i, h, hm => by omega
  | m + 1, i, h, hm => by
    simp only [waybillref24_Same.l1]
    by_cases hi : i < L.length
    · have w2 : wrap64 ((i : Int) + 1) = ((i + 1 : Nat) : Int) := by unfold wrap64; omega
      rw [if_pos (by omega), if_pos (by omega), if_pos (by omega), if_neg (by simp), w2]
      exact g_same_l1 B L hl m (i + 1) (by omega) (by omega)
    · rw [if_neg (by omega)]
theorem g_same_l0 (B : List Int) (L : List S44) (hb : B.length ≤ 16) (hl : L.length ≤ 1024) : ∀ (m i : Nat), i ≤ B.length → B.length - i + 2000 < m → waybillref24_Same.l0 m (i : Int) B L B L = some true
  | 0, i, h, hm => by omega
  | m + 1, i, h, hm => by
    simp only [waybillref24_Same.l0]
    by_cases hi : i < B.length
    · have w2 : wrap64 ((i : Int) + 1) = ((i + 1 : Nat) : Int) := by unfold wrap64; omega
      rw [if_pos (by omega), if_pos (by omega), if_pos (by omega), if_pos trivial, w2]
      exact g_same_l0 B L hb hl m (i + 1) (by omega) (by omega)
    · rw [if_neg (by omega)]
      exact g_same_l1 B L hl m 0 (by omega) (by omega)
theorem g_same_f (B : List Int) (L : List S44) (hb : B.length ≤ 16) (hl : L.length ≤ 1024) : waybillref24_Same.f 3000 B L B L = some true := by
  unfold waybillref24_Same.f
  rw [if_pos rfl]
  have e : ((L.length : Int) != (L.length : Int)) = false := by simp
  rw [e, show 3000 = 2999 + 1 by omega]
  simp only [waybillref24_Same.j0]
  rw [if_neg (by simp)]
  exact g_same_l0 B L hb hl _ 0 (by omega) (by omega)
theorem g_look {s : List Int × List S44} {o : S35} (h : 2 < o.f0) : (doL s o).1 = s ∧ (doL s o).2.f0 = 0 ∧ (doL s o).2.f1 = s.2.length := by
  have hc : changeL s.1 o = (s.1, 0) := by unfold changeL; rw [if_neg (by omega), if_neg (by omega)]
  unfold doL ansL
  dsimp only
  rw [hc, if_neg (by omega), if_neg (by omega)]
  exact ⟨rfl, rfl, rfl⟩
theorem g_once {s : List Int × List S44} {o : S35} (h : o.f0 ≤ 2) : (doL s o).1.2 = s.2 ++ [⟨o, (doL s o).2⟩] ∧ (doL s o).2.f1 = (s.2.length : Int) + 1 := by
  unfold doL ansL
  dsimp only
  rw [if_pos h, if_pos h]
  exact ⟨rfl, rfl⟩
theorem g_cases (bs : List Int) (L : List S44) (o : S35) :
    (∃ e, e ≠ 0 ∧ doF bs L [o] = ([], [], [], e)) ∨ (BalOk bs ∧ L.length ≤ 1024 ∧ chkL o = 0 ∧ doF bs L [o] = ((doL (bs, L) o).1.1, (doL (bs, L) o).1.2, [(doL (bs, L) o).2], 0)) := by
  by_cases h1 : wholeL bs L = 0
  · by_cases h2 : chkAll [o] = 0
    · rw [doF_ok h1 h2]
      split
      · exact .inl ⟨72, by decide, rfl⟩
      · exact .inr ⟨(wholeL_ok h1).1, (wholeL_ok h1).2, chkAll_ok [o] h2 o (by simp), rfl⟩
    · refine .inl ⟨_, h2, ?_⟩
      unfold doF
      rw [if_neg (fun hh => hh h1), if_pos h2]
  · refine .inl ⟨_, h1, ?_⟩
    unfold doF
    rw [if_pos h1]
theorem add_blk (g n : Nat) : (⟨g, 0, none⟩ : Addr).add n = ⟨g, n, none⟩ := by unfold Addr.add; split <;> simp_all
def waybilllaw24_LedgerGrows.f (k : Nat) (l0_0 : List Int) (l0_1 : List (S44)) (a1_0 : Int) (a1_1 : Int) (a1_2 : Int) (a1_3 : Int) : Option (Bool) := some true
theorem waybilllaw24_LedgerGrows.mono : ∀ a0 a1 a2 a3 a4 a5 k, LeO (waybilllaw24_LedgerGrows.f k a0 a1 a2 a3 a4 a5) (waybilllaw24_LedgerGrows.f (k + 1) a0 a1 a2 a3 a4 a5) := fun _ _ _ _ _ _ _ _ h => h
set_option maxHeartbeats 4000000 in
set_option maxRecDepth 100000 in
theorem waybilllaw24_LedgerGrows.calls (k : Nat) (A0_0 : Option Addr) (c0_0 : Nat) (l0_0 : List Int) (A0_1 : Option Addr) (c0_1 : Nat) (l0_1 : List (S44)) (a1_0 : Int) (a1_1 : Int) (a1_2 : Int) (a1_3 : Int) (r : Bool) (w : World) (hr0_0 : Kd.C (Kd.int .i64) w A0_0 l0_0.length l0_0) (hc0_0 : l0_0.length ≤ c0_0) (hr0_1 : Kd.C k44 w A0_1 l0_1.length l0_1) (hc0_1 : l0_1.length ≤ c0_1) (h : waybilllaw24_LedgerGrows.f k l0_0 l0_1 a1_0 a1_1 a1_2 a1_3 = some r) :
    Calls Try.prog 4 #[.agg #[.slice A0_0 l0_0.length c0_0, .slice A0_1 l0_1.length c0_1], .agg #[.int .i64 a1_0, .int .i64 a1_1, .int .i64 a1_2, .int .i64 a1_3]] w fun e w' => e = .returned (.bool r) ∧ Below w.heap.size w w' := by
  obtain rfl := Option.some.inj h
  obtain ⟨o, ho⟩ : ∃ o : S35, o = ⟨a1_0, a1_1, a1_2, a1_3⟩ := ⟨_, rfl⟩
  have e0 : a1_0 = o.f0 := by rw [ho]
  have e1 : a1_1 = o.f1 := by rw [ho]
  have e2 : a1_2 = o.f2 := by rw [ho]
  have e3 : a1_3 = o.f3 := by rw [ho]
  clear ho
  subst e0 e1 e2 e3
  have H0 := Aside0.mk hr0_0
  have H1 := Aside0.mk hr0_1
  have C0 := Aside0.mk hc0_0
  have C1 := Aside0.mk hc0_1
  have HA : Aside0 (waybilllaw24_alive.f = some true) := ⟨by unfold waybilllaw24_alive.f ledger_New.f ledger_Do.f; kernel_rfl⟩
  clear h hr0_0 hr0_1 hc0_0 hc0_1
  have hws : w.heap.size ≤ ((w.alloc (.cells #[.slice A0_0 l0_0.length c0_0, .slice A0_1 l0_1.length c0_1] 25)).alloc (.cells #[.int .i64 o.f0, .int .i64 o.f1, .int .i64 o.f2, .int .i64 o.f3] 35)).heap.size := by simp; omega
  have HWS := Aside0.mk hws
  clear hws
  go_enter Try.func4, Try.ntmps4
  go_wp2_with fail
  go_at_call 7
  with_reducible refine (waybilllaw24_alive.calls true _ HA.out).mono ?_
  rintro e w1 ⟨rfl, hb⟩
  have HB1 := Aside0.mk (below_then (below_alloc (below_alloc (Below.refl _ _) _) _) HWS.out hb)
  have BL1 := Aside0.mk (blk_below (blk_alloc (heap_new1 w (.cells #[.slice A0_0 l0_0.length c0_0, .slice A0_1 l0_1.length c0_1] 25)) _) hb)
  have BO1 := Aside0.mk (blk_below (heap_new2 w (.cells #[.slice A0_0 l0_0.length c0_0, .slice A0_1 l0_1.length c0_1] 25) (.cells #[.int .i64 o.f0, .int .i64 o.f1, .int .i64 o.f2, .int .i64 o.f3] 35)) hb)
  clear hb
  have hl1 : w.heap.size + 1 < w1.heap.size := blk_lt BO1.out
  have hl0 : w.heap.size < w1.heap.size := by omega
  have p0 : w1.cell? ⟨w.heap.size, 0, none⟩ = some (.slice A0_0 l0_0.length c0_0) := (blk_cell BL1.out 0).trans rfl
  have p1 : w1.cell? ⟨w.heap.size, 1, none⟩ = some (.slice A0_1 l0_1.length c0_1) := (blk_cell BL1.out 1).trans rfl
  have s0 : w1.cell? ⟨w.heap.size + 1, 0, none⟩ = some (.int .i64 o.f0) := (blk_cell BO1.out 0).trans rfl
  have s1 : w1.cell? ⟨w.heap.size + 1, 1, none⟩ = some (.int .i64 o.f1) := (blk_cell BO1.out 1).trans rfl
  have s2 : w1.cell? ⟨w.heap.size + 1, 2, none⟩ = some (.int .i64 o.f2) := (blk_cell BO1.out 2).trans rfl
  have s3 : w1.cell? ⟨w.heap.size + 1, 3, none⟩ = some (.int .i64 o.f3) := (blk_cell BO1.out 3).trans rfl
  obtain ⟨R, hR⟩ : ∃ R, R = doF l0_0 l0_1 [o] := ⟨_, rfl⟩
  have HR := Aside0.mk hR
  clear hR
  go_wp2_with fail
  go_at_call 8
  refine calls_of_args (args' := #[.agg #[.slice A0_0 l0_0.length c0_0, .slice A0_1 l0_1.length c0_1], .slice (some ⟨w1.heap.size, 0, none⟩) [o].length 1]) (by simp) ?_
  with_reducible refine (ledger_Do.calls A0_0 c0_0 l0_0 A0_1 c0_1 l0_1 (some ⟨w1.heap.size, 0, none⟩) 1 [o] R.1 R.2.1 R.2.2.1 R.2.2.2 _ (Kd.C_alloc (Kd.C_below H0.out HB1.out) _) C0.out (Kd.C_alloc (Kd.C_below H1.out HB1.out) _) C1.out (C_one (heap_new1 _ _) (k35_mk _ o)) (Nat.le_refl _) (by unfold ledger_Do.f; rw [if_pos (by simp), HR.out])).mono ?_
  rintro e w2 ⟨v0, v1, v2, rfl, hr0, hr1, hr2, hb⟩
  have HB2 := Aside0.mk (below_then (below_alloc HB1.out _) (by simp; omega) hb)
  have BL2 := Aside0.mk (blk_below (blk_alloc BL1.out _) hb)
  have BO2 := Aside0.mk (blk_below (blk_alloc BO1.out _) hb)
  clear hb p0 p1 s0 s1 s2 s3
  obtain ⟨Ab, cb, rfl⟩ := Kd.R_slice hr0
  obtain ⟨Al, cl, rfl⟩ := Kd.R_slice hr1
  obtain ⟨Ar, cr, rfl⟩ := Kd.R_slice hr2
  have H3 := Aside0.mk hr0
  have H4 := Aside0.mk hr1
  have H5 := Aside0.mk hr2
  have hl2 : w.heap.size + 1 < w2.heap.size := blk_lt BO2.out
  have hm4 : R.2.1.length ≤ 9223372036854775807 := (Kd.R_reads' hr1).2.2.2.1
  have hm5 : R.2.2.1.length ≤ 9223372036854775807 := (Kd.R_reads' hr2).2.2.2.1
  clear hr0 hr1 hr2
  go_wp2_with fail
  go_at_call 9
  with_reducible refine (waybilllaw24_num.calls R.2.2.2 R.2.2.2 _ (by unfold waybilllaw24_num.f; first | rfl | simp)).mono ?_
  rintro e w' ⟨rfl, ⟨nd, rfl⟩⟩
  have HB3 := Aside0.mk (pw_below_drewN (below_alloc HB2.out (.cells #[.slice Ab R.1.length cb, .slice Al R.2.1.length cl] 25)) nd)
  have BL3 := Aside0.mk (blk_drewN (blk_alloc BL2.out (.cells #[.slice Ab R.1.length cb, .slice Al R.2.1.length cl] 25)) nd)
  have BO3 := Aside0.mk (blk_drewN (blk_alloc BO2.out (.cells #[.slice Ab R.1.length cb, .slice Al R.2.1.length cl] 25)) nd)
  have BX3 := Aside0.mk (blk_drewN (heap_new1 w2 (.cells #[.slice Ab R.1.length cb, .slice Al R.2.1.length cl] 25)) nd)
  have R3 := Aside0.mk (Kd.R_drewN (Kd.R_alloc H3.out (.cells #[.slice Ab R.1.length cb, .slice Al R.2.1.length cl] 25)) nd)
  have R4 := Aside0.mk (Kd.R_drewN (Kd.R_alloc H4.out (.cells #[.slice Ab R.1.length cb, .slice Al R.2.1.length cl] 25)) nd)
  have R5 := Aside0.mk (Kd.R_drewN (Kd.R_alloc H5.out (.cells #[.slice Ab R.1.length cb, .slice Al R.2.1.length cl] 25)) nd)
  obtain ⟨W3, hW3⟩ : ∃ W3, W3 = (w2.alloc (.cells #[.slice Ab R.1.length cb, .slice Al R.2.1.length cl] 25)).drewN nd := ⟨_, rfl⟩
  rw [← hW3] at HB3 BL3 BO3 BX3 R3 R4 R5 ⊢
  clear hW3
  have hl3 : w.heap.size + 1 < W3.heap.size := blk_lt BO3.out
  have hl4 : w2.heap.size < W3.heap.size := blk_lt BX3.out
  have x0 : W3.cell? ⟨w2.heap.size, 0, none⟩ = some (.slice Ab R.1.length cb) := (blk_cell BX3.out 0).trans rfl
  have x1 : W3.cell? ⟨w2.heap.size, 1, none⟩ = some (.slice Al R.2.1.length cl) := (blk_cell BX3.out 1).trans rfl
  have p0 : W3.cell? ⟨w.heap.size, 0, none⟩ = some (.slice A0_0 l0_0.length c0_0) := (blk_cell BL3.out 0).trans rfl
  have p1 : W3.cell? ⟨w.heap.size, 1, none⟩ = some (.slice A0_1 l0_1.length c0_1) := (blk_cell BL3.out 1).trans rfl
  have s0 : W3.cell? ⟨w.heap.size + 1, 0, none⟩ = some (.int .i64 o.f0) := (blk_cell BO3.out 0).trans rfl
  rcases g_cases l0_0 l0_1 o with ⟨e, he, hc⟩ | ⟨hb, hl, hk, hc⟩
  · obtain rfl : R = ([], [], [], e) := HR.out.trans hc
    have t1 : (e == 0) = false := by simpa using he
    go_wp2
    go_ret
    exact ⟨rfl, HB3.out⟩
  · have HBO := Aside0.mk hb
    have HLE := Aside0.mk hl
    have hok := chkL_ok hk
    have hw1 := hok.w1
    have hw2 := hok.w2
    clear hok hk hb
    obtain ⟨d, hd⟩ : ∃ d, d = (doL (l0_0, l0_1) o).2 := ⟨_, rfl⟩
    rw [← hd] at hc
    have HON : Aside0 (waybillref24_Once.f o.f0 = some (decide (o.f0 ≤ 2), 0)) := ⟨by unfold waybillref24_Once.f; rw [if_neg (by omega), if_neg (by omega)]⟩
    by_cases h5 : o.f0 ≤ 2
    · have hdo := g_once (s := (l0_0, l0_1)) h5
      rw [← hd] at hdo
      dsimp only at hdo
      rw [hdo.1] at hc
      obtain rfl : R = ((doL (l0_0, l0_1) o).1.1, l0_1 ++ [⟨o, d⟩], [d], 0) := HR.out.trans hc
      have HD := Aside0.mk hdo.2
      clear hd hc hdo
      dsimp only at x0 x1 R3 R4 R5 hm4 hm5 ⊢
      have t2 : decide (o.f0 ≤ 2) = true := decide_eq_true h5
      rw [t2] at HON
      go_wp2_with fail
      go_at_call 12
      with_reducible refine (waybillref24_Once.calls o.f0 true 0 _ HON.out).mono ?_
      rintro e w' ⟨rfl, ⟨nd2, rfl⟩⟩
      go_wp2_with fail
      have HB4 := Aside0.mk (pw_below_drewN HB3.out nd2)
      have BL4 := Aside0.mk (blk_drewN BL3.out nd2)
      have BO4 := Aside0.mk (blk_drewN BO3.out nd2)
      have BX4 := Aside0.mk (blk_drewN BX3.out nd2)
      have R3' := Aside0.mk (Kd.R_drewN R3.out nd2)
      have R4' := Aside0.mk (Kd.R_drewN R4.out nd2)
      have R5' := Aside0.mk (Kd.R_drewN R5.out nd2)
      obtain ⟨W4, hW4⟩ : ∃ W4, W4 = W3.drewN nd2 := ⟨_, rfl⟩
      rw [← hW4] at HB4 BL4 BO4 BX4 R3' R4' R5' ⊢
      clear hW4 x0 x1 p0 p1 s0
      have x0 : W4.cell? ⟨w2.heap.size, 0, none⟩ = some (.slice Ab (doL (l0_0, l0_1) o).1.1.length cb) := (blk_cell BX4.out 0).trans rfl
      have x1 : W4.cell? ⟨w2.heap.size, 1, none⟩ = some (.slice Al (l0_1.length + 1) cl) := (blk_cell BX4.out 1).trans (by simp)
      have p0 : W4.cell? ⟨w.heap.size, 0, none⟩ = some (.slice A0_0 l0_0.length c0_0) := (blk_cell BL4.out 0).trans rfl
      have p1 : W4.cell? ⟨w.heap.size, 1, none⟩ = some (.slice A0_1 l0_1.length c0_1) := (blk_cell BL4.out 1).trans rfl
      have s0 : W4.cell? ⟨w.heap.size + 1, 0, none⟩ = some (.int .i64 o.f0) := (blk_cell BO4.out 0).trans rfl
      have s1 : W4.cell? ⟨w.heap.size + 1, 1, none⟩ = some (.int .i64 o.f1) := (blk_cell BO4.out 1).trans rfl
      have s2 : W4.cell? ⟨w.heap.size + 1, 2, none⟩ = some (.int .i64 o.f2) := (blk_cell BO4.out 2).trans rfl
      have s3 : W4.cell? ⟨w.heap.size + 1, 3, none⟩ = some (.int .i64 o.f3) := (blk_cell BO4.out 3).trans rfl
      obtain ⟨gr, rfl⟩ := R_some R5'.out (by simp)
      obtain ⟨ar, er, r0, r1, r2⟩ := at_T37 (Kd.R_reads' R5'.out).2.2 0 (by omega) (by simp)
      injection er with er
      subst er
      simp [rd_T37, add_blk] at r0 r1 r2
      have hlog := (Kd.R_reads' R4'.out).2.2
      obtain ⟨gl, rfl⟩ := R_some R4'.out (by simp)
      obtain ⟨al, el, q0, q1, q2, q3, q4, q5, q6⟩ := at_T44 hlog (l0_1.length : Int) (by omega) (by simp; omega)
      injection el with el
      subst el
      simp [rd_T44, add_blk] at q0 q1 q2 q3 q4 q5 q6
      have hlen := HD.out
      rw [hlen] at q5 r1
      have hwr : IntKind.i64.wrap ((l0_1.length : Int) + 1) = (l0_1.length : Int) + 1 := by rw [IntKind.wrap_i64]; omega
      clear hlen hlog
      refine region_tail (B := _) (w0 := _) 33 [(58, (fun v _ => v = .pointer (some ⟨w2.heap.size, 1, none⟩))), (59, (fun v _ => v = .slice (some ⟨gl, 0, none⟩) (l0_1.length + 1) cl)), (60, (fun v _ => v = .int .i64 ((l0_1.length : Int) + 1))), (61, (fun v _ => v = .pointer (some ⟨w.heap.size, 1, none⟩))), (62, (fun v _ => v = .slice A0_1 l0_1.length c0_1)), (63, (fun v _ => v = .int .i64 (l0_1.length : Int))), (64, (fun v _ => v = .int .i64 ((l0_1.length : Int) + 1))), (65, (fun v _ => v = .bool true)), (66, (fun v _ => v = .bool true)), (67, (fun v _ => v = .slice (some ⟨gr, 0, none⟩) 1 cr)), (68, (fun v _ => v = .pointer (some ⟨gr, 0, none⟩))), (69, (fun v _ => v = .pointer (some ⟨gr, 1, none⟩))), (70, (fun v _ => v = .int .i64 ((l0_1.length : Int) + 1))), (71, (fun v _ => v = .pointer (some ⟨w2.heap.size, 1, none⟩))), (72, (fun v _ => v = .slice (some ⟨gl, 0, none⟩) (l0_1.length + 1) cl)), (73, (fun v _ => v = .int .i64 ((l0_1.length : Int) + 1))), (74, (fun v _ => v = .bool true)), (75, (fun v _ => v = .bool true)), (76, (fun v _ => v = .bool true)), (77, (fun v _ => v = .pointer (some ⟨w2.heap.size, 1, none⟩))), (78, (fun v _ => v = .slice (some ⟨gl, 0, none⟩) (l0_1.length + 1) cl)), (79, (fun v _ => v = .pointer (some ⟨w.heap.size, 1, none⟩))), (80, (fun v _ => v = .slice A0_1 l0_1.length c0_1)), (81, (fun v _ => v = .int .i64 (l0_1.length : Int))), (82, (fun v _ => v = .pointer (some ⟨gl, l0_1.length * 7, none⟩))), (83, (fun v _ => v = .agg #[.int .i64 o.f0, .int .i64 o.f1, .int .i64 o.f2, .int .i64 o.f3, .int .i64 d.f0, .int .i64 ((l0_1.length : Int) + 1), .int .i64 d.f2])), (84, (fun v _ => v = .agg #[.int .i64 o.f0, .int .i64 o.f1, .int .i64 o.f2, .int .i64 o.f3])), (85, (fun v _ => v = .slice (some ⟨gr, 0, none⟩) 1 cr)), (86, (fun v _ => v = .pointer (some ⟨gr, 0, none⟩))), (87, (fun v _ => v = .agg #[.int .i64 d.f0, .int .i64 ((l0_1.length : Int) + 1), .int .i64 d.f2])), (88, (fun v _ => v = .agg #[.int .i64 o.f0, .int .i64 o.f1, .int .i64 o.f2, .int .i64 o.f3, .int .i64 d.f0, .int .i64 ((l0_1.length : Int) + 1), .int .i64 d.f2])), (89, (fun v _ => v = .bool true)), (90, (fun v _ => v = .bool true))] (by kernel_rfl) (by kernel_rfl) (by decide) (by kernel_rfl) (by kernel_rfl) (by rfl) (show ([58, 59, 60, 61, 62, 63, 64, 65, 66, 67, 68, 69, 70, 71, 72, 73, 74, 75, 76, 77, 78, 79, 80, 81, 82, 83, 84, 85, 86, 87, 88, 89, 90] : List Nat).Nodup by decide) ?hsz ?hst (Below.refl _ _) (Nat.le_refl _) ?step ?fin
      case hsz => exact List.forall_mem_cons.2 ⟨(show 58 < 91 by decide), List.forall_mem_cons.2 ⟨(show 59 < 91 by decide), List.forall_mem_cons.2 ⟨(show 60 < 91 by decide), List.forall_mem_cons.2 ⟨(show 61 < 91 by decide), List.forall_mem_cons.2 ⟨(show 62 < 91 by decide), List.forall_mem_cons.2 ⟨(show 63 < 91 by decide), List.forall_mem_cons.2 ⟨(show 64 < 91 by decide), List.forall_mem_cons.2 ⟨(show 65 < 91 by decide), List.forall_mem_cons.2 ⟨(show 66 < 91 by decide), List.forall_mem_cons.2 ⟨(show 67 < 91 by decide), List.forall_mem_cons.2 ⟨(show 68 < 91 by decide), List.forall_mem_cons.2 ⟨(show 69 < 91 by decide), List.forall_mem_cons.2 ⟨(show 70 < 91 by decide), List.forall_mem_cons.2 ⟨(show 71 < 91 by decide), List.forall_mem_cons.2 ⟨(show 72 < 91 by decide), List.forall_mem_cons.2 ⟨(show 73 < 91 by decide), List.forall_mem_cons.2 ⟨(show 74 < 91 by decide), List.forall_mem_cons.2 ⟨(show 75 < 91 by decide), List.forall_mem_cons.2 ⟨(show 76 < 91 by decide), List.forall_mem_cons.2 ⟨(show 77 < 91 by decide), List.forall_mem_cons.2 ⟨(show 78 < 91 by decide), List.forall_mem_cons.2 ⟨(show 79 < 91 by decide), List.forall_mem_cons.2 ⟨(show 80 < 91 by decide), List.forall_mem_cons.2 ⟨(show 81 < 91 by decide), List.forall_mem_cons.2 ⟨(show 82 < 91 by decide), List.forall_mem_cons.2 ⟨(show 83 < 91 by decide), List.forall_mem_cons.2 ⟨(show 84 < 91 by decide), List.forall_mem_cons.2 ⟨(show 85 < 91 by decide), List.forall_mem_cons.2 ⟨(show 86 < 91 by decide), List.forall_mem_cons.2 ⟨(show 87 < 91 by decide), List.forall_mem_cons.2 ⟨(show 88 < 91 by decide), List.forall_mem_cons.2 ⟨(show 89 < 91 by decide), List.forall_mem_cons.2 ⟨(show 90 < 91 by decide), fun _ h => nomatch h⟩⟩⟩⟩⟩⟩⟩⟩⟩⟩⟩⟩⟩⟩⟩⟩⟩⟩⟩⟩⟩⟩⟩⟩⟩⟩⟩⟩⟩⟩⟩⟩⟩
      case hst => exact List.forall_mem_cons.2 ⟨(fun v w1 w2 hb h => h), List.forall_mem_cons.2 ⟨(fun v w1 w2 hb h => h), List.forall_mem_cons.2 ⟨(fun v w1 w2 hb h => h), List.forall_mem_cons.2 ⟨(fun v w1 w2 hb h => h), List.forall_mem_cons.2 ⟨(fun v w1 w2 hb h => h), List.forall_mem_cons.2 ⟨(fun v w1 w2 hb h => h), List.forall_mem_cons.2 ⟨(fun v w1 w2 hb h => h), List.forall_mem_cons.2 ⟨(fun v w1 w2 hb h => h), List.forall_mem_cons.2 ⟨(fun v w1 w2 hb h => h), List.forall_mem_cons.2 ⟨(fun v w1 w2 hb h => h), List.forall_mem_cons.2 ⟨(fun v w1 w2 hb h => h), List.forall_mem_cons.2 ⟨(fun v w1 w2 hb h => h), List.forall_mem_cons.2 ⟨(fun v w1 w2 hb h => h), List.forall_mem_cons.2 ⟨(fun v w1 w2 hb h => h), List.forall_mem_cons.2 ⟨(fun v w1 w2 hb h => h), List.forall_mem_cons.2 ⟨(fun v w1 w2 hb h => h), List.forall_mem_cons.2 ⟨(fun v w1 w2 hb h => h), List.forall_mem_cons.2 ⟨(fun v w1 w2 hb h => h), List.forall_mem_cons.2 ⟨(fun v w1 w2 hb h => h), List.forall_mem_cons.2 ⟨(fun v w1 w2 hb h => h), List.forall_mem_cons.2 ⟨(fun v w1 w2 hb h => h), List.forall_mem_cons.2 ⟨(fun v w1 w2 hb h => h), List.forall_mem_cons.2 ⟨(fun v w1 w2 hb h => h), List.forall_mem_cons.2 ⟨(fun v w1 w2 hb h => h), List.forall_mem_cons.2 ⟨(fun v w1 w2 hb h => h), List.forall_mem_cons.2 ⟨(fun v w1 w2 hb h => h), List.forall_mem_cons.2 ⟨(fun v w1 w2 hb h => h), List.forall_mem_cons.2 ⟨(fun v w1 w2 hb h => h), List.forall_mem_cons.2 ⟨(fun v w1 w2 hb h => h), List.forall_mem_cons.2 ⟨(fun v w1 w2 hb h => h), List.forall_mem_cons.2 ⟨(fun v w1 w2 hb h => h), List.forall_mem_cons.2 ⟨(fun v w1 w2 hb h => h), List.forall_mem_cons.2 ⟨(fun v w1 w2 hb h => h), fun _ h => nomatch h⟩⟩⟩⟩⟩⟩⟩⟩⟩⟩⟩⟩⟩⟩⟩⟩⟩⟩⟩⟩⟩⟩⟩⟩⟩⟩⟩⟩⟩⟩⟩⟩⟩
      case step =>
        intro i_ o_ e_ ho he a w1_ hs hdf hfr hbl hbs hpre
        match i_, ho, he with
        | 0, ho, he =>
          obtain rfl : o_ = { dst := some 58, op := Go.Op.fieldAddr 25 (Go.Operand.tmp 5) 1, type := 0, pos := "law.go:85", after := #[], guard := none } := (Option.some.inj ho).symm
          obtain rfl := Option.some.inj he; clear he
          have f5 : a.tmps.getD 5 undef = .pointer (some ⟨w2.heap.size, 0, none⟩) := by rw [Array.getD_eq_getD_getElem?, hfr 5 (show ¬ 5 ∈ ([58, 59, 60, 61, 62, 63, 64, 65, 66, 67, 68, 69, 70, 71, 72, 73, 74, 75, 76, 77, 78, 79, 80, 81, 82, 83, 84, 85, 86, 87, 88, 89, 90] : List Nat) by decide)]; rfl
          clear hpre hfr
          refine wpOp_value (v := .pointer (some ⟨w2.heap.size, 1, none⟩)) ho rfl ?_ ⟨_, rfl, rfl, Below.refl _ _⟩
          simp only [execOp, Act.eval, List.map_toArray, List.map_cons, List.map_nil, f5]
          first | rfl | (go_simp; done) | (go_simp; rfl) | (go_simp; intro h_; exfalso; omega)
        | 1, ho, he =>
          obtain rfl : o_ = { dst := some 59, op := Go.Op.load 23 (Go.Operand.tmp 58), type := 23, pos := "law.go:85", after := #[{ on := 0, ground := Go.Ground.data }], guard := none } := (Option.some.inj ho).symm
          obtain rfl := Option.some.inj he; clear he
          have e58 : a.tmps.getD 58 undef = .pointer (some ⟨w2.heap.size, 1, none⟩) := hpre ⟨0, .data⟩ (by simp) rfl _ rfl
          clear hpre hfr
          have k_x1 := (hbl.cell (World.block_lt_of_cell? _ _ x1)).trans x1
          refine wpOp_value (v := .slice (some ⟨gl, 0, none⟩) (l0_1.length + 1) cl) ho rfl ?_ ⟨_, rfl, rfl, Below.refl _ _⟩
          simp only [execOp, Act.eval, List.map_toArray, List.map_cons, List.map_nil, e58]
          first | rfl | (go_simp; done) | (go_simp; rfl) | (go_simp; intro h_; exfalso; omega)
        | 2, ho, he =>
          obtain rfl : o_ = { dst := some 60, op := Go.Op.call { callee := Go.Callee.builtin Go.Builtin.len, args := #[Go.Operand.tmp 59], argTypes := #[23] }, type := 3, pos := "law.go:85", after := #[{ on := 1, ground := Go.Ground.data }], guard := none } := (Option.some.inj ho).symm
          obtain rfl := Option.some.inj he; clear he
          have e59 : a.tmps.getD 59 undef = .slice (some ⟨gl, 0, none⟩) (l0_1.length + 1) cl := hpre ⟨1, .data⟩ (by simp) rfl _ rfl
          clear hpre hfr
          refine wpOp_value (v := .int .i64 ((l0_1.length : Int) + 1)) ho rfl ?_ ⟨_, rfl, rfl, Below.refl _ _⟩
          simp only [execOp, Act.eval, List.map_toArray, List.map_cons, List.map_nil, e59]
          first | rfl | (go_simp; done) | (go_simp; rfl) | (go_simp; intro h_; exfalso; omega)
        | 3, ho, he =>
          obtain rfl : o_ = { dst := some 61, op := Go.Op.fieldAddr 25 (Go.Operand.tmp 2) 1, type := 0, pos := "law.go:85", after := #[], guard := none } := (Option.some.inj ho).symm
          obtain rfl := Option.some.inj he; clear he
          have f2 : a.tmps.getD 2 undef = .pointer (some ⟨w.heap.size, 0, none⟩) := by rw [Array.getD_eq_getD_getElem?, hfr 2 (show ¬ 2 ∈ ([58, 59, 60, 61, 62, 63, 64, 65, 66, 67, 68, 69, 70, 71, 72, 73, 74, 75, 76, 77, 78, 79, 80, 81, 82, 83, 84, 85, 86, 87, 88, 89, 90] : List Nat) by decide)]; rfl
          clear hpre hfr
          refine wpOp_value (v := .pointer (some ⟨w.heap.size, 1, none⟩)) ho rfl ?_ ⟨_, rfl, rfl, Below.refl _ _⟩
          simp only [execOp, Act.eval, List.map_toArray, List.map_cons, List.map_nil, f2]
          first | rfl | (go_simp; done) | (go_simp; rfl) | (go_simp; intro h_; exfalso; omega)
        | 4, ho, he =>
          obtain rfl : o_ = { dst := some 62, op := Go.Op.load 23 (Go.Operand.tmp 61), type := 23, pos := "law.go:85", after := #[{ on := 3, ground := Go.Ground.data }], guard := none } := (Option.some.inj ho).symm
          obtain rfl := Option.some.inj he; clear he
          have e61 : a.tmps.getD 61 undef = .pointer (some ⟨w.heap.size, 1, none⟩) := hpre ⟨3, .data⟩ (by simp) rfl _ rfl
          clear hpre hfr
          have k_p1 := (hbl.cell (World.block_lt_of_cell? _ _ p1)).trans p1
          refine wpOp_value (v := .slice A0_1 l0_1.length c0_1) ho rfl ?_ ⟨_, rfl, rfl, Below.refl _ _⟩
          simp only [execOp, Act.eval, List.map_toArray, List.map_cons, List.map_nil, e61]
          first | rfl | (go_simp; done) | (go_simp; rfl) | (go_simp; intro h_; exfalso; omega)
        | 5, ho, he =>
          obtain rfl : o_ = { dst := some 63, op := Go.Op.call { callee := Go.Callee.builtin Go.Builtin.len, args := #[Go.Operand.tmp 62], argTypes := #[23] }, type := 3, pos := "law.go:85", after := #[{ on := 4, ground := Go.Ground.data }], guard := none } := (Option.some.inj ho).symm
          obtain rfl := Option.some.inj he; clear he
          have e62 : a.tmps.getD 62 undef = .slice A0_1 l0_1.length c0_1 := hpre ⟨4, .data⟩ (by simp) rfl _ rfl
          clear hpre hfr
          refine wpOp_value (v := .int .i64 (l0_1.length : Int)) ho rfl ?_ ⟨_, rfl, rfl, Below.refl _ _⟩
          simp only [execOp, Act.eval, List.map_toArray, List.map_cons, List.map_nil, e62]
          first | rfl | (go_simp; done) | (go_simp; rfl) | (go_simp; intro h_; exfalso; omega)
        | 6, ho, he =>
          obtain rfl : o_ = { dst := some 64, op := Go.Op.binOp Go.BinOp.add 3 (Go.Operand.tmp 63) (Go.Operand.const (Go.Value.int Go.IntKind.i64 1)) 3, type := 3, pos := "law.go:85", after := #[{ on := 5, ground := Go.Ground.data }], guard := none } := (Option.some.inj ho).symm
          obtain rfl := Option.some.inj he; clear he
          have e63 : a.tmps.getD 63 undef = .int .i64 (l0_1.length : Int) := hpre ⟨5, .data⟩ (by simp) rfl _ rfl
          clear hpre hfr
          refine wpOp_value (v := .int .i64 ((l0_1.length : Int) + 1)) ho rfl ?_ ⟨_, rfl, rfl, Below.refl _ _⟩
          simp only [execOp, Act.eval, List.map_toArray, List.map_cons, List.map_nil, e63]
          first | rfl | (go_simp; done) | (go_simp; rfl) | (go_simp; intro h_; exfalso; omega)
        | 7, ho, he =>
          obtain rfl : o_ = { dst := some 65, op := Go.Op.binOp Go.BinOp.eql 3 (Go.Operand.tmp 60) (Go.Operand.tmp 64) 3, type := 4, pos := "law.go:85", after := #[{ on := 2, ground := Go.Ground.data }, { on := 6, ground := Go.Ground.data }], guard := none } := (Option.some.inj ho).symm
          obtain rfl := Option.some.inj he; clear he
          have e60 : a.tmps.getD 60 undef = .int .i64 ((l0_1.length : Int) + 1) := hpre ⟨2, .data⟩ (by simp) rfl _ rfl
          have e64 : a.tmps.getD 64 undef = .int .i64 ((l0_1.length : Int) + 1) := hpre ⟨6, .data⟩ (by simp) rfl _ rfl
          clear hpre hfr
          refine wpOp_value (v := .bool true) ho rfl ?_ ⟨_, rfl, rfl, Below.refl _ _⟩
          simp only [execOp, Act.eval, List.map_toArray, List.map_cons, List.map_nil, e60, e64]
          first | rfl | (go_simp; done) | (go_simp; rfl) | (go_simp; intro h_; exfalso; omega)
        | 8, ho, he =>
          obtain rfl : o_ = { dst := some 66, op := Go.Op.move (Go.Operand.tmp 65), type := 4, pos := "law.go:85", after := #[{ on := 7, ground := Go.Ground.data }], guard := none } := (Option.some.inj ho).symm
          obtain rfl := Option.some.inj he; clear he
          have e65 : a.tmps.getD 65 undef = .bool true := hpre ⟨7, .data⟩ (by simp) rfl _ rfl
          clear hpre hfr
          refine wpOp_value (v := .bool true) ho rfl ?_ ⟨_, rfl, rfl, Below.refl _ _⟩
          simp only [execOp, Act.eval, List.map_toArray, List.map_cons, List.map_nil, e65]
          first | rfl | (go_simp; done) | (go_simp; rfl) | (go_simp; intro h_; exfalso; omega)
        | 9, ho, he =>
          obtain rfl : o_ = { dst := some 67, op := Go.Op.move (Go.Operand.tmp 6), type := 28, pos := "law.go:85", after := #[{ on := 8, ground := Go.Ground.guard }], guard := some (8, true) } := (Option.some.inj ho).symm
          obtain rfl := Option.some.inj he; clear he
          have e66 : a.tmps.getD 66 undef = .bool true := hpre ⟨8, .guard⟩ (by simp) rfl _ rfl
          have f6 : a.tmps.getD 6 undef = .slice (some ⟨gr, 0, none⟩) 1 cr := by rw [Array.getD_eq_getD_getElem?, hfr 6 (show ¬ 6 ∈ ([58, 59, 60, 61, 62, 63, 64, 65, 66, 67, 68, 69, 70, 71, 72, 73, 74, 75, 76, 77, 78, 79, 80, 81, 82, 83, 84, 85, 86, 87, 88, 89, 90] : List Nat) by decide)]; rfl
          clear hpre hfr
          refine wpOp_value_w (v := .slice (some ⟨gr, 0, none⟩) 1 cr) ho (wanted_of (n := 8) (d := 66) rfl rfl (by rw [hs]; exact (show 66 < 91 by decide)) e66) ?_ ⟨_, rfl, rfl, Below.refl _ _⟩
          simp only [execOp, Act.eval, List.map_toArray, List.map_cons, List.map_nil, e66, f6]
          first | rfl | (go_simp; done) | (go_simp; rfl) | (go_simp; intro h_; exfalso; omega)
        | 10, ho, he =>
          obtain rfl : o_ = { dst := some 68, op := Go.Op.indexAddr 28 (Go.Operand.tmp 67) (Go.Operand.const (Go.Value.int Go.IntKind.i64 0)), type := 0, pos := "law.go:85", after := #[{ on := 9, ground := Go.Ground.data }, { on := 8, ground := Go.Ground.guard }], guard := some (8, true) } := (Option.some.inj ho).symm
          obtain rfl := Option.some.inj he; clear he
          have e67 : a.tmps.getD 67 undef = .slice (some ⟨gr, 0, none⟩) 1 cr := hpre ⟨9, .data⟩ (by simp) rfl _ rfl
          have e66 : a.tmps.getD 66 undef = .bool true := hpre ⟨8, .guard⟩ (by simp) rfl _ rfl
          clear hpre hfr
          refine wpOp_value_w (v := .pointer (some ⟨gr, 0, none⟩)) ho (wanted_of (n := 8) (d := 66) rfl rfl (by rw [hs]; exact (show 66 < 91 by decide)) e66) ?_ ⟨_, rfl, rfl, Below.refl _ _⟩
          simp only [execOp, Act.eval, List.map_toArray, List.map_cons, List.map_nil, e67, e66]
          first | rfl | (go_simp; done) | (go_simp; rfl) | (go_simp; intro h_; exfalso; omega)
        | 11, ho, he =>
          obtain rfl : o_ = { dst := some 69, op := Go.Op.fieldAddr 37 (Go.Operand.tmp 68) 1, type := 0, pos := "law.go:85", after := #[{ on := 10, ground := Go.Ground.data }, { on := 8, ground := Go.Ground.guard }], guard := some (8, true) } := (Option.some.inj ho).symm
          obtain rfl := Option.some.inj he; clear he
          have e68 : a.tmps.getD 68 undef = .pointer (some ⟨gr, 0, none⟩) := hpre ⟨10, .data⟩ (by simp) rfl _ rfl
          have e66 : a.tmps.getD 66 undef = .bool true := hpre ⟨8, .guard⟩ (by simp) rfl _ rfl
          clear hpre hfr
          refine wpOp_value_w (v := .pointer (some ⟨gr, 1, none⟩)) ho (wanted_of (n := 8) (d := 66) rfl rfl (by rw [hs]; exact (show 66 < 91 by decide)) e66) ?_ ⟨_, rfl, rfl, Below.refl _ _⟩
          simp only [execOp, Act.eval, List.map_toArray, List.map_cons, List.map_nil, e68, e66]
          first | rfl | (go_simp; done) | (go_simp; rfl) | (go_simp; intro h_; exfalso; omega)
        | 12, ho, he =>
          obtain rfl : o_ = { dst := some 70, op := Go.Op.load 3 (Go.Operand.tmp 69), type := 3, pos := "law.go:85", after := #[{ on := 11, ground := Go.Ground.data }, { on := 8, ground := Go.Ground.guard }], guard := some (8, true) } := (Option.some.inj ho).symm
          obtain rfl := Option.some.inj he; clear he
          have e69 : a.tmps.getD 69 undef = .pointer (some ⟨gr, 1, none⟩) := hpre ⟨11, .data⟩ (by simp) rfl _ rfl
          have e66 : a.tmps.getD 66 undef = .bool true := hpre ⟨8, .guard⟩ (by simp) rfl _ rfl
          clear hpre hfr
          have k_r1 := (hbl.cell (World.block_lt_of_cell? _ _ r1)).trans r1
          refine wpOp_value_w (v := .int .i64 ((l0_1.length : Int) + 1)) ho (wanted_of (n := 8) (d := 66) rfl rfl (by rw [hs]; exact (show 66 < 91 by decide)) e66) ?_ ⟨_, rfl, rfl, Below.refl _ _⟩
          simp only [execOp, Act.eval, List.map_toArray, List.map_cons, List.map_nil, e69, e66]
          first | rfl | (go_simp; done) | (go_simp; rfl) | (go_simp; intro h_; exfalso; omega)
        | 13, ho, he =>
          obtain rfl : o_ = { dst := some 71, op := Go.Op.fieldAddr 25 (Go.Operand.tmp 5) 1, type := 0, pos := "law.go:85", after := #[{ on := 8, ground := Go.Ground.guard }], guard := some (8, true) } := (Option.some.inj ho).symm
          obtain rfl := Option.some.inj he; clear he
          have e66 : a.tmps.getD 66 undef = .bool true := hpre ⟨8, .guard⟩ (by simp) rfl _ rfl
          have f5 : a.tmps.getD 5 undef = .pointer (some ⟨w2.heap.size, 0, none⟩) := by rw [Array.getD_eq_getD_getElem?, hfr 5 (show ¬ 5 ∈ ([58, 59, 60, 61, 62, 63, 64, 65, 66, 67, 68, 69, 70, 71, 72, 73, 74, 75, 76, 77, 78, 79, 80, 81, 82, 83, 84, 85, 86, 87, 88, 89, 90] : List Nat) by decide)]; rfl
          clear hpre hfr
          refine wpOp_value_w (v := .pointer (some ⟨w2.heap.size, 1, none⟩)) ho (wanted_of (n := 8) (d := 66) rfl rfl (by rw [hs]; exact (show 66 < 91 by decide)) e66) ?_ ⟨_, rfl, rfl, Below.refl _ _⟩
          simp only [execOp, Act.eval, List.map_toArray, List.map_cons, List.map_nil, e66, f5]
          first | rfl | (go_simp; done) | (go_simp; rfl) | (go_simp; intro h_; exfalso; omega)
        | 14, ho, he =>
          obtain rfl : o_ = { dst := some 72, op := Go.Op.load 23 (Go.Operand.tmp 71), type := 23, pos := "law.go:85", after := #[{ on := 13, ground := Go.Ground.data }, { on := 8, ground := Go.Ground.guard }], guard := some (8, true) } := (Option.some.inj ho).symm
          obtain rfl := Option.some.inj he; clear he
          have e71 : a.tmps.getD 71 undef = .pointer (some ⟨w2.heap.size, 1, none⟩) := hpre ⟨13, .data⟩ (by simp) rfl _ rfl
          have e66 : a.tmps.getD 66 undef = .bool true := hpre ⟨8, .guard⟩ (by simp) rfl _ rfl
          clear hpre hfr
          have k_x1 := (hbl.cell (World.block_lt_of_cell? _ _ x1)).trans x1
          refine wpOp_value_w (v := .slice (some ⟨gl, 0, none⟩) (l0_1.length + 1) cl) ho (wanted_of (n := 8) (d := 66) rfl rfl (by rw [hs]; exact (show 66 < 91 by decide)) e66) ?_ ⟨_, rfl, rfl, Below.refl _ _⟩
          simp only [execOp, Act.eval, List.map_toArray, List.map_cons, List.map_nil, e71, e66]
          first | rfl | (go_simp; done) | (go_simp; rfl) | (go_simp; intro h_; exfalso; omega)
        | 15, ho, he =>
          obtain rfl : o_ = { dst := some 73, op := Go.Op.call { callee := Go.Callee.builtin Go.Builtin.len, args := #[Go.Operand.tmp 72], argTypes := #[23] }, type := 3, pos := "law.go:85", after := #[{ on := 14, ground := Go.Ground.data }, { on := 8, ground := Go.Ground.guard }], guard := some (8, true) } := (Option.some.inj ho).symm
          obtain rfl := Option.some.inj he; clear he
          have e72 : a.tmps.getD 72 undef = .slice (some ⟨gl, 0, none⟩) (l0_1.length + 1) cl := hpre ⟨14, .data⟩ (by simp) rfl _ rfl
          have e66 : a.tmps.getD 66 undef = .bool true := hpre ⟨8, .guard⟩ (by simp) rfl _ rfl
          clear hpre hfr
          refine wpOp_value_w (v := .int .i64 ((l0_1.length : Int) + 1)) ho (wanted_of (n := 8) (d := 66) rfl rfl (by rw [hs]; exact (show 66 < 91 by decide)) e66) ?_ ⟨_, rfl, rfl, Below.refl _ _⟩
          simp only [execOp, Act.eval, List.map_toArray, List.map_cons, List.map_nil, e72, e66]
          first | rfl | (go_simp; done) | (go_simp; rfl) | (go_simp; intro h_; exfalso; omega)
        | 16, ho, he =>
          obtain rfl : o_ = { dst := some 74, op := Go.Op.binOp Go.BinOp.eql 3 (Go.Operand.tmp 70) (Go.Operand.tmp 73) 3, type := 4, pos := "law.go:85", after := #[{ on := 12, ground := Go.Ground.data }, { on := 15, ground := Go.Ground.data }, { on := 8, ground := Go.Ground.guard }], guard := some (8, true) } := (Option.some.inj ho).symm
          obtain rfl := Option.some.inj he; clear he
          have e70 : a.tmps.getD 70 undef = .int .i64 ((l0_1.length : Int) + 1) := hpre ⟨12, .data⟩ (by simp) rfl _ rfl
          have e73 : a.tmps.getD 73 undef = .int .i64 ((l0_1.length : Int) + 1) := hpre ⟨15, .data⟩ (by simp) rfl _ rfl
          have e66 : a.tmps.getD 66 undef = .bool true := hpre ⟨8, .guard⟩ (by simp) rfl _ rfl
          clear hpre hfr
          refine wpOp_value_w (v := .bool true) ho (wanted_of (n := 8) (d := 66) rfl rfl (by rw [hs]; exact (show 66 < 91 by decide)) e66) ?_ ⟨_, rfl, rfl, Below.refl _ _⟩
          simp only [execOp, Act.eval, List.map_toArray, List.map_cons, List.map_nil, e70, e73, e66]
          first | rfl | (go_simp; done) | (go_simp; rfl) | (go_simp; intro h_; exfalso; omega)
        | 17, ho, he =>
          obtain rfl : o_ = { dst := some 75, op := Go.Op.pick (Go.Operand.tmp 66) (Go.Operand.tmp 74) (Go.Operand.const (Go.Value.bool false)), type := 4, pos := "law.go:85", after := #[{ on := 8, ground := Go.Ground.data }, { on := 16, ground := Go.Ground.data }], guard := none } := (Option.some.inj ho).symm
          obtain rfl := Option.some.inj he; clear he
          have e66 : a.tmps.getD 66 undef = .bool true := hpre ⟨8, .data⟩ (by simp) rfl _ rfl
          have e74 : a.tmps.getD 74 undef = .bool true := hpre ⟨16, .data⟩ (by simp) rfl _ rfl
          clear hpre hfr
          refine wpOp_value (v := .bool true) ho rfl ?_ ⟨_, rfl, rfl, Below.refl _ _⟩
          simp only [execOp, Act.eval, List.map_toArray, List.map_cons, List.map_nil, e66, e74]
          first | rfl | (go_simp; done) | (go_simp; rfl) | (go_simp; intro h_; exfalso; omega)
        | 18, ho, he =>
          obtain rfl : o_ = { dst := some 76, op := Go.Op.move (Go.Operand.tmp 75), type := 4, pos := "law.go:85", after := #[{ on := 17, ground := Go.Ground.data }, { on := 8, ground := Go.Ground.chain }], guard := none } := (Option.some.inj ho).symm
          obtain rfl := Option.some.inj he; clear he
          have e75 : a.tmps.getD 75 undef = .bool true := hpre ⟨17, .data⟩ (by simp) rfl _ rfl
          clear hpre hfr
          refine wpOp_value (v := .bool true) ho rfl ?_ ⟨_, rfl, rfl, Below.refl _ _⟩
          simp only [execOp, Act.eval, List.map_toArray, List.map_cons, List.map_nil, e75]
          first | rfl | (go_simp; done) | (go_simp; rfl) | (go_simp; intro h_; exfalso; omega)
        | 19, ho, he =>
          obtain rfl : o_ = { dst := some 77, op := Go.Op.fieldAddr 25 (Go.Operand.tmp 5) 1, type := 0, pos := "law.go:85", after := #[{ on := 18, ground := Go.Ground.guard }], guard := some (18, true) } := (Option.some.inj ho).symm
          obtain rfl := Option.some.inj he; clear he
          have e76 : a.tmps.getD 76 undef = .bool true := hpre ⟨18, .guard⟩ (by simp) rfl _ rfl
          have f5 : a.tmps.getD 5 undef = .pointer (some ⟨w2.heap.size, 0, none⟩) := by rw [Array.getD_eq_getD_getElem?, hfr 5 (show ¬ 5 ∈ ([58, 59, 60, 61, 62, 63, 64, 65, 66, 67, 68, 69, 70, 71, 72, 73, 74, 75, 76, 77, 78, 79, 80, 81, 82, 83, 84, 85, 86, 87, 88, 89, 90] : List Nat) by decide)]; rfl
          clear hpre hfr
          refine wpOp_value_w (v := .pointer (some ⟨w2.heap.size, 1, none⟩)) ho (wanted_of (n := 18) (d := 76) rfl rfl (by rw [hs]; exact (show 76 < 91 by decide)) e76) ?_ ⟨_, rfl, rfl, Below.refl _ _⟩
          simp only [execOp, Act.eval, List.map_toArray, List.map_cons, List.map_nil, e76, f5]
          first | rfl | (go_simp; done) | (go_simp; rfl) | (go_simp; intro h_; exfalso; omega)
        | 20, ho, he =>
          obtain rfl : o_ = { dst := some 78, op := Go.Op.load 23 (Go.Operand.tmp 77), type := 23, pos := "law.go:85", after := #[{ on := 19, ground := Go.Ground.data }, { on := 18, ground := Go.Ground.guard }], guard := some (18, true) } := (Option.some.inj ho).symm
          obtain rfl := Option.some.inj he; clear he
          have e77 : a.tmps.getD 77 undef = .pointer (some ⟨w2.heap.size, 1, none⟩) := hpre ⟨19, .data⟩ (by simp) rfl _ rfl
          have e76 : a.tmps.getD 76 undef = .bool true := hpre ⟨18, .guard⟩ (by simp) rfl _ rfl
          clear hpre hfr
          have k_x1 := (hbl.cell (World.block_lt_of_cell? _ _ x1)).trans x1
          refine wpOp_value_w (v := .slice (some ⟨gl, 0, none⟩) (l0_1.length + 1) cl) ho (wanted_of (n := 18) (d := 76) rfl rfl (by rw [hs]; exact (show 76 < 91 by decide)) e76) ?_ ⟨_, rfl, rfl, Below.refl _ _⟩
          simp only [execOp, Act.eval, List.map_toArray, List.map_cons, List.map_nil, e77, e76]
          first | rfl | (go_simp; done) | (go_simp; rfl) | (go_simp; intro h_; exfalso; omega)
        | 21, ho, he =>
          obtain rfl : o_ = { dst := some 79, op := Go.Op.fieldAddr 25 (Go.Operand.tmp 2) 1, type := 0, pos := "law.go:85", after := #[{ on := 18, ground := Go.Ground.guard }], guard := some (18, true) } := (Option.some.inj ho).symm
          obtain rfl := Option.some.inj he; clear he
          have e76 : a.tmps.getD 76 undef = .bool true := hpre ⟨18, .guard⟩ (by simp) rfl _ rfl
          have f2 : a.tmps.getD 2 undef = .pointer (some ⟨w.heap.size, 0, none⟩) := by rw [Array.getD_eq_getD_getElem?, hfr 2 (show ¬ 2 ∈ ([58, 59, 60, 61, 62, 63, 64, 65, 66, 67, 68, 69, 70, 71, 72, 73, 74, 75, 76, 77, 78, 79, 80, 81, 82, 83, 84, 85, 86, 87, 88, 89, 90] : List Nat) by decide)]; rfl
          clear hpre hfr
          refine wpOp_value_w (v := .pointer (some ⟨w.heap.size, 1, none⟩)) ho (wanted_of (n := 18) (d := 76) rfl rfl (by rw [hs]; exact (show 76 < 91 by decide)) e76) ?_ ⟨_, rfl, rfl, Below.refl _ _⟩
          simp only [execOp, Act.eval, List.map_toArray, List.map_cons, List.map_nil, e76, f2]
          first | rfl | (go_simp; done) | (go_simp; rfl) | (go_simp; intro h_; exfalso; omega)
        | 22, ho, he =>
          obtain rfl : o_ = { dst := some 80, op := Go.Op.load 23 (Go.Operand.tmp 79), type := 23, pos := "law.go:85", after := #[{ on := 21, ground := Go.Ground.data }, { on := 18, ground := Go.Ground.guard }], guard := some (18, true) } := (Option.some.inj ho).symm
          obtain rfl := Option.some.inj he; clear he
          have e79 : a.tmps.getD 79 undef = .pointer (some ⟨w.heap.size, 1, none⟩) := hpre ⟨21, .data⟩ (by simp) rfl _ rfl
          have e76 : a.tmps.getD 76 undef = .bool true := hpre ⟨18, .guard⟩ (by simp) rfl _ rfl
          clear hpre hfr
          have k_p1 := (hbl.cell (World.block_lt_of_cell? _ _ p1)).trans p1
          refine wpOp_value_w (v := .slice A0_1 l0_1.length c0_1) ho (wanted_of (n := 18) (d := 76) rfl rfl (by rw [hs]; exact (show 76 < 91 by decide)) e76) ?_ ⟨_, rfl, rfl, Below.refl _ _⟩
          simp only [execOp, Act.eval, List.map_toArray, List.map_cons, List.map_nil, e79, e76]
          first | rfl | (go_simp; done) | (go_simp; rfl) | (go_simp; intro h_; exfalso; omega)
        | 23, ho, he =>
          obtain rfl : o_ = { dst := some 81, op := Go.Op.call { callee := Go.Callee.builtin Go.Builtin.len, args := #[Go.Operand.tmp 80], argTypes := #[23] }, type := 3, pos := "law.go:85", after := #[{ on := 22, ground := Go.Ground.data }, { on := 18, ground := Go.Ground.guard }], guard := some (18, true) } := (Option.some.inj ho).symm
          obtain rfl := Option.some.inj he; clear he
          have e80 : a.tmps.getD 80 undef = .slice A0_1 l0_1.length c0_1 := hpre ⟨22, .data⟩ (by simp) rfl _ rfl
          have e76 : a.tmps.getD 76 undef = .bool true := hpre ⟨18, .guard⟩ (by simp) rfl _ rfl
          clear hpre hfr
          refine wpOp_value_w (v := .int .i64 (l0_1.length : Int)) ho (wanted_of (n := 18) (d := 76) rfl rfl (by rw [hs]; exact (show 76 < 91 by decide)) e76) ?_ ⟨_, rfl, rfl, Below.refl _ _⟩
          simp only [execOp, Act.eval, List.map_toArray, List.map_cons, List.map_nil, e80, e76]
          first | rfl | (go_simp; done) | (go_simp; rfl) | (go_simp; intro h_; exfalso; omega)
        | 24, ho, he =>
          obtain rfl : o_ = { dst := some 82, op := Go.Op.indexAddr 23 (Go.Operand.tmp 78) (Go.Operand.tmp 81), type := 0, pos := "law.go:85", after := #[{ on := 20, ground := Go.Ground.data }, { on := 23, ground := Go.Ground.data }, { on := 18, ground := Go.Ground.guard }], guard := some (18, true) } := (Option.some.inj ho).symm
          obtain rfl := Option.some.inj he; clear he
          have e78 : a.tmps.getD 78 undef = .slice (some ⟨gl, 0, none⟩) (l0_1.length + 1) cl := hpre ⟨20, .data⟩ (by simp) rfl _ rfl
          have e81 : a.tmps.getD 81 undef = .int .i64 (l0_1.length : Int) := hpre ⟨23, .data⟩ (by simp) rfl _ rfl
          have e76 : a.tmps.getD 76 undef = .bool true := hpre ⟨18, .guard⟩ (by simp) rfl _ rfl
          clear hpre hfr
          refine wpOp_value_w (v := .pointer (some ⟨gl, l0_1.length * 7, none⟩)) ho (wanted_of (n := 18) (d := 76) rfl rfl (by rw [hs]; exact (show 76 < 91 by decide)) e76) ?_ ⟨_, rfl, rfl, Below.refl _ _⟩
          simp only [execOp, Act.eval, List.map_toArray, List.map_cons, List.map_nil, e78, e81, e76]
          first | rfl | (go_simp; done) | (go_simp; rfl) | (go_simp; intro h_; exfalso; omega)
        | 25, ho, he =>
          obtain rfl : o_ = { dst := some 83, op := Go.Op.load 44 (Go.Operand.tmp 82), type := 44, pos := "law.go:85", after := #[{ on := 24, ground := Go.Ground.data }, { on := 18, ground := Go.Ground.guard }], guard := some (18, true) } := (Option.some.inj ho).symm
          obtain rfl := Option.some.inj he; clear he
          have e82 : a.tmps.getD 82 undef = .pointer (some ⟨gl, l0_1.length * 7, none⟩) := hpre ⟨24, .data⟩ (by simp) rfl _ rfl
          have e76 : a.tmps.getD 76 undef = .bool true := hpre ⟨18, .guard⟩ (by simp) rfl _ rfl
          clear hpre hfr
          have k_q0 := (hbl.cell (World.block_lt_of_cell? _ _ q0)).trans q0
          have k_q1 := (hbl.cell (World.block_lt_of_cell? _ _ q1)).trans q1
          have k_q2 := (hbl.cell (World.block_lt_of_cell? _ _ q2)).trans q2
          have k_q3 := (hbl.cell (World.block_lt_of_cell? _ _ q3)).trans q3
          have k_q4 := (hbl.cell (World.block_lt_of_cell? _ _ q4)).trans q4
          have k_q5 := (hbl.cell (World.block_lt_of_cell? _ _ q5)).trans q5
          have k_q6 := (hbl.cell (World.block_lt_of_cell? _ _ q6)).trans q6
          refine wpOp_value_w (v := .agg #[.int .i64 o.f0, .int .i64 o.f1, .int .i64 o.f2, .int .i64 o.f3, .int .i64 d.f0, .int .i64 ((l0_1.length : Int) + 1), .int .i64 d.f2]) ho (wanted_of (n := 18) (d := 76) rfl rfl (by rw [hs]; exact (show 76 < 91 by decide)) e76) ?_ ⟨_, rfl, rfl, Below.refl _ _⟩
          simp only [execOp, Act.eval, List.map_toArray, List.map_cons, List.map_nil, e82, e76]
          first | rfl | (go_simp; done) | (go_simp; rfl) | (go_simp; intro h_; exfalso; omega)
        | 26, ho, he =>
          obtain rfl : o_ = { dst := some 84, op := Go.Op.load 35 (Go.Operand.tmp 3), type := 35, pos := "law.go:85", after := #[{ on := 18, ground := Go.Ground.guard }], guard := some (18, true) } := (Option.some.inj ho).symm
          obtain rfl := Option.some.inj he; clear he
          have e76 : a.tmps.getD 76 undef = .bool true := hpre ⟨18, .guard⟩ (by simp) rfl _ rfl
          have f3 : a.tmps.getD 3 undef = .pointer (some ⟨w.heap.size + 1, 0, none⟩) := by rw [Array.getD_eq_getD_getElem?, hfr 3 (show ¬ 3 ∈ ([58, 59, 60, 61, 62, 63, 64, 65, 66, 67, 68, 69, 70, 71, 72, 73, 74, 75, 76, 77, 78, 79, 80, 81, 82, 83, 84, 85, 86, 87, 88, 89, 90] : List Nat) by decide)]; rfl
          clear hpre hfr
          have k_s0 := (hbl.cell (World.block_lt_of_cell? _ _ s0)).trans s0
          have k_s1 := (hbl.cell (World.block_lt_of_cell? _ _ s1)).trans s1
          have k_s2 := (hbl.cell (World.block_lt_of_cell? _ _ s2)).trans s2
          have k_s3 := (hbl.cell (World.block_lt_of_cell? _ _ s3)).trans s3
          refine wpOp_value_w (v := .agg #[.int .i64 o.f0, .int .i64 o.f1, .int .i64 o.f2, .int .i64 o.f3]) ho (wanted_of (n := 18) (d := 76) rfl rfl (by rw [hs]; exact (show 76 < 91 by decide)) e76) ?_ ⟨_, rfl, rfl, Below.refl _ _⟩
          simp only [execOp, Act.eval, List.map_toArray, List.map_cons, List.map_nil, e76, f3]
          first | rfl | (go_simp; done) | (go_simp; rfl) | (go_simp; intro h_; exfalso; omega)
        | 27, ho, he =>
          obtain rfl : o_ = { dst := some 85, op := Go.Op.move (Go.Operand.tmp 6), type := 28, pos := "law.go:85", after := #[{ on := 18, ground := Go.Ground.guard }], guard := some (18, true) } := (Option.some.inj ho).symm
          obtain rfl := Option.some.inj he; clear he
          have e76 : a.tmps.getD 76 undef = .bool true := hpre ⟨18, .guard⟩ (by simp) rfl _ rfl
          have f6 : a.tmps.getD 6 undef = .slice (some ⟨gr, 0, none⟩) 1 cr := by rw [Array.getD_eq_getD_getElem?, hfr 6 (show ¬ 6 ∈ ([58, 59, 60, 61, 62, 63, 64, 65, 66, 67, 68, 69, 70, 71, 72, 73, 74, 75, 76, 77, 78, 79, 80, 81, 82, 83, 84, 85, 86, 87, 88, 89, 90] : List Nat) by decide)]; rfl
          clear hpre hfr
          refine wpOp_value_w (v := .slice (some ⟨gr, 0, none⟩) 1 cr) ho (wanted_of (n := 18) (d := 76) rfl rfl (by rw [hs]; exact (show 76 < 91 by decide)) e76) ?_ ⟨_, rfl, rfl, Below.refl _ _⟩
          simp only [execOp, Act.eval, List.map_toArray, List.map_cons, List.map_nil, e76, f6]
          first | rfl | (go_simp; done) | (go_simp; rfl) | (go_simp; intro h_; exfalso; omega)
        | 28, ho, he =>
          obtain rfl : o_ = { dst := some 86, op := Go.Op.indexAddr 28 (Go.Operand.tmp 85) (Go.Operand.const (Go.Value.int Go.IntKind.i64 0)), type := 0, pos := "law.go:85", after := #[{ on := 27, ground := Go.Ground.data }, { on := 18, ground := Go.Ground.guard }], guard := some (18, true) } := (Option.some.inj ho).symm
          obtain rfl := Option.some.inj he; clear he
          have e85 : a.tmps.getD 85 undef = .slice (some ⟨gr, 0, none⟩) 1 cr := hpre ⟨27, .data⟩ (by simp) rfl _ rfl
          have e76 : a.tmps.getD 76 undef = .bool true := hpre ⟨18, .guard⟩ (by simp) rfl _ rfl
          clear hpre hfr
          refine wpOp_value_w (v := .pointer (some ⟨gr, 0, none⟩)) ho (wanted_of (n := 18) (d := 76) rfl rfl (by rw [hs]; exact (show 76 < 91 by decide)) e76) ?_ ⟨_, rfl, rfl, Below.refl _ _⟩
          simp only [execOp, Act.eval, List.map_toArray, List.map_cons, List.map_nil, e85, e76]
          first | rfl | (go_simp; done) | (go_simp; rfl) | (go_simp; intro h_; exfalso; omega)
        | 29, ho, he =>
          obtain rfl : o_ = { dst := some 87, op := Go.Op.load 37 (Go.Operand.tmp 86), type := 37, pos := "law.go:85", after := #[{ on := 28, ground := Go.Ground.data }, { on := 18, ground := Go.Ground.guard }], guard := some (18, true) } := (Option.some.inj ho).symm
          obtain rfl := Option.some.inj he; clear he
          have e86 : a.tmps.getD 86 undef = .pointer (some ⟨gr, 0, none⟩) := hpre ⟨28, .data⟩ (by simp) rfl _ rfl
          have e76 : a.tmps.getD 76 undef = .bool true := hpre ⟨18, .guard⟩ (by simp) rfl _ rfl
          clear hpre hfr
          have k_r0 := (hbl.cell (World.block_lt_of_cell? _ _ r0)).trans r0
          have k_r1 := (hbl.cell (World.block_lt_of_cell? _ _ r1)).trans r1
          have k_r2 := (hbl.cell (World.block_lt_of_cell? _ _ r2)).trans r2
          refine wpOp_value_w (v := .agg #[.int .i64 d.f0, .int .i64 ((l0_1.length : Int) + 1), .int .i64 d.f2]) ho (wanted_of (n := 18) (d := 76) rfl rfl (by rw [hs]; exact (show 76 < 91 by decide)) e76) ?_ ⟨_, rfl, rfl, Below.refl _ _⟩
          simp only [execOp, Act.eval, List.map_toArray, List.map_cons, List.map_nil, e86, e76]
          first | rfl | (go_simp; done) | (go_simp; rfl) | (go_simp; intro h_; exfalso; omega)
        | 30, ho, he =>
          obtain rfl : o_ = { dst := some 88, op := Go.Op.build 44 #[(0, Go.Operand.tmp 84), (1, Go.Operand.tmp 87)], type := 44, pos := "law.go:85", after := #[{ on := 26, ground := Go.Ground.data }, { on := 29, ground := Go.Ground.data }, { on := 18, ground := Go.Ground.guard }], guard := some (18, true) } := (Option.some.inj ho).symm
          obtain rfl := Option.some.inj he; clear he
          have e84 : a.tmps.getD 84 undef = .agg #[.int .i64 o.f0, .int .i64 o.f1, .int .i64 o.f2, .int .i64 o.f3] := hpre ⟨26, .data⟩ (by simp) rfl _ rfl
          have e87 : a.tmps.getD 87 undef = .agg #[.int .i64 d.f0, .int .i64 ((l0_1.length : Int) + 1), .int .i64 d.f2] := hpre ⟨29, .data⟩ (by simp) rfl _ rfl
          have e76 : a.tmps.getD 76 undef = .bool true := hpre ⟨18, .guard⟩ (by simp) rfl _ rfl
          clear hpre hfr
          refine wpOp_value_w (v := .agg #[.int .i64 o.f0, .int .i64 o.f1, .int .i64 o.f2, .int .i64 o.f3, .int .i64 d.f0, .int .i64 ((l0_1.length : Int) + 1), .int .i64 d.f2]) ho (wanted_of (n := 18) (d := 76) rfl rfl (by rw [hs]; exact (show 76 < 91 by decide)) e76) ?_ ⟨_, rfl, rfl, Below.refl _ _⟩
          simp only [execOp, Act.eval, List.map_toArray, List.map_cons, List.map_nil, e84, e87, e76]
          first | rfl | (go_simp; done) | (go_simp; rfl) | (go_simp; intro h_; exfalso; omega)
        | 31, ho, he =>
          obtain rfl : o_ = { dst := some 89, op := Go.Op.binOp Go.BinOp.eql 44 (Go.Operand.tmp 83) (Go.Operand.tmp 88) 44, type := 4, pos := "law.go:85", after := #[{ on := 25, ground := Go.Ground.data }, { on := 30, ground := Go.Ground.data }, { on := 18, ground := Go.Ground.guard }], guard := some (18, true) } := (Option.some.inj ho).symm
          obtain rfl := Option.some.inj he; clear he
          have e83 : a.tmps.getD 83 undef = .agg #[.int .i64 o.f0, .int .i64 o.f1, .int .i64 o.f2, .int .i64 o.f3, .int .i64 d.f0, .int .i64 ((l0_1.length : Int) + 1), .int .i64 d.f2] := hpre ⟨25, .data⟩ (by simp) rfl _ rfl
          have e88 : a.tmps.getD 88 undef = .agg #[.int .i64 o.f0, .int .i64 o.f1, .int .i64 o.f2, .int .i64 o.f3, .int .i64 d.f0, .int .i64 ((l0_1.length : Int) + 1), .int .i64 d.f2] := hpre ⟨30, .data⟩ (by simp) rfl _ rfl
          have e76 : a.tmps.getD 76 undef = .bool true := hpre ⟨18, .guard⟩ (by simp) rfl _ rfl
          clear hpre hfr
          refine wpOp_value_w (v := .bool true) ho (wanted_of (n := 18) (d := 76) rfl rfl (by rw [hs]; exact (show 76 < 91 by decide)) e76) ?_ ⟨_, rfl, rfl, Below.refl _ _⟩
          simp only [execOp, Act.eval, List.map_toArray, List.map_cons, List.map_nil, e83, e88, e76]
          first | rfl | (go_simp; done) | (go_simp; rfl) | (go_simp; intro h_; exfalso; omega)
        | 32, ho, he =>
          obtain rfl : o_ = { dst := some 90, op := Go.Op.pick (Go.Operand.tmp 76) (Go.Operand.tmp 89) (Go.Operand.const (Go.Value.bool false)), type := 4, pos := "law.go:85", after := #[{ on := 18, ground := Go.Ground.data }, { on := 31, ground := Go.Ground.data }], guard := none } := (Option.some.inj ho).symm
          obtain rfl := Option.some.inj he; clear he
          have e76 : a.tmps.getD 76 undef = .bool true := hpre ⟨18, .data⟩ (by simp) rfl _ rfl
          have e89 : a.tmps.getD 89 undef = .bool true := hpre ⟨31, .data⟩ (by simp) rfl _ rfl
          clear hpre hfr
          refine wpOp_value (v := .bool true) ho rfl ?_ ⟨_, rfl, rfl, Below.refl _ _⟩
          simp only [execOp, Act.eval, List.map_toArray, List.map_cons, List.map_nil, e76, e89]
          first | rfl | (go_simp; done) | (go_simp; rfl) | (go_simp; intro h_; exfalso; omega)
        | n_ + 33, ho, he => simp at he
      case fin =>
        intro xv_ w1_ hbl hbs hx
        simp only [List.forall_mem_cons] at hx
        obtain ⟨x58, x59, x60, x61, x62, x63, x64, x65, x66, x67, x68, x69, x70, x71, x72, x73, x74, x75, x76, x77, x78, x79, x80, x81, x82, x83, x84, x85, x86, x87, x88, x89, x90, _⟩ := hx
        simp only [List.map_cons, List.map_nil, putL, Act.put, List.setIfInBounds_toArray, List.set_cons_zero, List.set_cons_succ, x58, x59, x60, x61, x62, x63, x64, x65, x66, x67, x68, x69, x70, x71, x72, x73, x74, x75, x76, x77, x78, x79, x80, x81, x82, x83, x84, x85, x86, x87, x88, x89, x90]
        simp only [List.drop_succ_cons, List.drop_zero]
        clear x58 x59 x60 x61 x62 x63 x64 x65 x66 x67 x68 x69 x70 x71 x72 x73 x74 x75 x76 x77 x78 x79 x80 x81 x82 x83 x84 x85 x86 x87 x88 x89 x90
        go_wp2
        go_ret
        exact ⟨rfl, below_then HB4.out HB4.out.size hbl⟩
    · have hdo := g_look (s := (l0_0, l0_1)) (o := o) (by omega)
      rw [← hd] at hdo
      rw [hdo.1] at hc
      obtain rfl : R = (l0_0, l0_1, [d], 0) := HR.out.trans hc
      have HD := Aside0.mk hdo.2
      clear hd hc hdo
      dsimp only at x0 x1 R3 R4 R5 hm4 hm5 ⊢
      have t2 : decide (o.f0 ≤ 2) = false := decide_eq_false h5
      rw [t2] at HON
      go_wp2_with fail
      go_at_call 12
      with_reducible refine (waybillref24_Once.calls o.f0 false 0 _ HON.out).mono ?_
      rintro e w' ⟨rfl, ⟨nd2, rfl⟩⟩
      go_wp2_with fail
      have HB4 := Aside0.mk (pw_below_drewN HB3.out nd2)
      have BL4 := Aside0.mk (blk_drewN BL3.out nd2)
      have BO4 := Aside0.mk (blk_drewN BO3.out nd2)
      have BX4 := Aside0.mk (blk_drewN BX3.out nd2)
      have R3' := Aside0.mk (Kd.R_drewN R3.out nd2)
      have R4' := Aside0.mk (Kd.R_drewN R4.out nd2)
      have R5' := Aside0.mk (Kd.R_drewN R5.out nd2)
      obtain ⟨W4, hW4⟩ : ∃ W4, W4 = W3.drewN nd2 := ⟨_, rfl⟩
      rw [← hW4] at HB4 BL4 BO4 BX4 R3' R4' R5' ⊢
      clear hW4 x0 x1 p0 p1 s0
      have x0 : W4.cell? ⟨w2.heap.size, 0, none⟩ = some (.slice Ab l0_0.length cb) := (blk_cell BX4.out 0).trans rfl
      have x1 : W4.cell? ⟨w2.heap.size, 1, none⟩ = some (.slice Al l0_1.length cl) := (blk_cell BX4.out 1).trans rfl
      have p0 : W4.cell? ⟨w.heap.size, 0, none⟩ = some (.slice A0_0 l0_0.length c0_0) := (blk_cell BL4.out 0).trans rfl
      have p1 : W4.cell? ⟨w.heap.size, 1, none⟩ = some (.slice A0_1 l0_1.length c0_1) := (blk_cell BL4.out 1).trans rfl
      have s0 : W4.cell? ⟨w.heap.size + 1, 0, none⟩ = some (.int .i64 o.f0) := (blk_cell BO4.out 0).trans rfl
      have s1 : W4.cell? ⟨w.heap.size + 1, 1, none⟩ = some (.int .i64 o.f1) := (blk_cell BO4.out 1).trans rfl
      have s2 : W4.cell? ⟨w.heap.size + 1, 2, none⟩ = some (.int .i64 o.f2) := (blk_cell BO4.out 2).trans rfl
      have s3 : W4.cell? ⟨w.heap.size + 1, 3, none⟩ = some (.int .i64 o.f3) := (blk_cell BO4.out 3).trans rfl
      obtain ⟨gr, rfl⟩ := R_some R5'.out (by simp)
      obtain ⟨ar, er, r0, r1, r2⟩ := at_T37 (Kd.R_reads' R5'.out).2.2 0 (by omega) (by simp)
      injection er with er
      subst er
      simp [rd_T37, add_blk] at r0 r1 r2
      rw [HD.out.1] at r0
      rw [HD.out.2] at r1
      refine region_tail (B := _) (w0 := _) 20 [(38, (fun v _ => v = .agg #[.slice Ab l0_0.length cb, .slice Al l0_1.length cl])), (39, (fun v _ => v = .agg #[.slice A0_0 l0_0.length c0_0, .slice A0_1 l0_1.length c0_1])), (40, (fun v W => v = .bool true)), (41, (fun v _ => v = .bool true)), (42, (fun v _ => v = .slice (some ⟨gr, 0, none⟩) 1 cr)), (43, (fun v _ => v = .pointer (some ⟨gr, 0, none⟩))), (44, (fun v _ => v = .pointer (some ⟨gr, 1, none⟩))), (45, (fun v _ => v = .int .i64 (l0_1.length : Int))), (46, (fun v _ => v = .pointer (some ⟨w.heap.size, 1, none⟩))), (47, (fun v _ => v = .slice A0_1 l0_1.length c0_1)), (48, (fun v _ => v = .int .i64 (l0_1.length : Int))), (49, (fun v _ => v = .bool true)), (50, (fun v _ => v = .bool true)), (51, (fun v _ => v = .bool true)), (52, (fun v _ => v = .slice (some ⟨gr, 0, none⟩) 1 cr)), (53, (fun v _ => v = .pointer (some ⟨gr, 0, none⟩))), (54, (fun v _ => v = .pointer (some ⟨gr, 0, none⟩))), (55, (fun v _ => v = .int .i64 0)), (56, (fun v _ => v = .bool true)), (57, (fun v _ => v = .bool true))] (by kernel_rfl) (by kernel_rfl) (by decide) (by kernel_rfl) (by kernel_rfl) (by rfl) (show ([38, 39, 40, 41, 42, 43, 44, 45, 46, 47, 48, 49, 50, 51, 52, 53, 54, 55, 56, 57] : List Nat).Nodup by decide) ?hsz ?hst (Below.refl _ _) (Nat.le_refl _) ?step ?fin
      case hsz => exact List.forall_mem_cons.2 ⟨(show 38 < 91 by decide), List.forall_mem_cons.2 ⟨(show 39 < 91 by decide), List.forall_mem_cons.2 ⟨(show 40 < 91 by decide), List.forall_mem_cons.2 ⟨(show 41 < 91 by decide), List.forall_mem_cons.2 ⟨(show 42 < 91 by decide), List.forall_mem_cons.2 ⟨(show 43 < 91 by decide), List.forall_mem_cons.2 ⟨(show 44 < 91 by decide), List.forall_mem_cons.2 ⟨(show 45 < 91 by decide), List.forall_mem_cons.2 ⟨(show 46 < 91 by decide), List.forall_mem_cons.2 ⟨(show 47 < 91 by decide), List.forall_mem_cons.2 ⟨(show 48 < 91 by decide), List.forall_mem_cons.2 ⟨(show 49 < 91 by decide), List.forall_mem_cons.2 ⟨(show 50 < 91 by decide), List.forall_mem_cons.2 ⟨(show 51 < 91 by decide), List.forall_mem_cons.2 ⟨(show 52 < 91 by decide), List.forall_mem_cons.2 ⟨(show 53 < 91 by decide), List.forall_mem_cons.2 ⟨(show 54 < 91 by decide), List.forall_mem_cons.2 ⟨(show 55 < 91 by decide), List.forall_mem_cons.2 ⟨(show 56 < 91 by decide), List.forall_mem_cons.2 ⟨(show 57 < 91 by decide), fun _ h => nomatch h⟩⟩⟩⟩⟩⟩⟩⟩⟩⟩⟩⟩⟩⟩⟩⟩⟩⟩⟩⟩
      case hst => exact List.forall_mem_cons.2 ⟨(fun v w1 w2 hb h => h), List.forall_mem_cons.2 ⟨(fun v w1 w2 hb h => h), List.forall_mem_cons.2 ⟨(fun v w1 w2 hb h => h), List.forall_mem_cons.2 ⟨(fun v w1 w2 hb h => h), List.forall_mem_cons.2 ⟨(fun v w1 w2 hb h => h), List.forall_mem_cons.2 ⟨(fun v w1 w2 hb h => h), List.forall_mem_cons.2 ⟨(fun v w1 w2 hb h => h), List.forall_mem_cons.2 ⟨(fun v w1 w2 hb h => h), List.forall_mem_cons.2 ⟨(fun v w1 w2 hb h => h), List.forall_mem_cons.2 ⟨(fun v w1 w2 hb h => h), List.forall_mem_cons.2 ⟨(fun v w1 w2 hb h => h), List.forall_mem_cons.2 ⟨(fun v w1 w2 hb h => h), List.forall_mem_cons.2 ⟨(fun v w1 w2 hb h => h), List.forall_mem_cons.2 ⟨(fun v w1 w2 hb h => h), List.forall_mem_cons.2 ⟨(fun v w1 w2 hb h => h), List.forall_mem_cons.2 ⟨(fun v w1 w2 hb h => h), List.forall_mem_cons.2 ⟨(fun v w1 w2 hb h => h), List.forall_mem_cons.2 ⟨(fun v w1 w2 hb h => h), List.forall_mem_cons.2 ⟨(fun v w1 w2 hb h => h), List.forall_mem_cons.2 ⟨(fun v w1 w2 hb h => h), fun _ h => nomatch h⟩⟩⟩⟩⟩⟩⟩⟩⟩⟩⟩⟩⟩⟩⟩⟩⟩⟩⟩⟩
      case step =>
        intro i_ o_ e_ ho he a w1_ hs hdf hfr hbl hbs hpre
        match i_, ho, he with
        | 0, ho, he =>
          obtain rfl : o_ = { dst := some 38, op := Go.Op.load 25 (Go.Operand.tmp 5), type := 25, pos := "law.go:83", after := #[], guard := none } := (Option.some.inj ho).symm
          obtain rfl := Option.some.inj he; clear he
          have f5 : a.tmps.getD 5 undef = .pointer (some ⟨w2.heap.size, 0, none⟩) := by rw [Array.getD_eq_getD_getElem?, hfr 5 (show ¬ 5 ∈ ([38, 39, 40, 41, 42, 43, 44, 45, 46, 47, 48, 49, 50, 51, 52, 53, 54, 55, 56, 57] : List Nat) by decide)]; rfl
          clear hpre hfr
          have k_x0 := (hbl.cell (World.block_lt_of_cell? _ _ x0)).trans x0
          have k_x1 := (hbl.cell (World.block_lt_of_cell? _ _ x1)).trans x1
          refine wpOp_value (v := .agg #[.slice Ab l0_0.length cb, .slice Al l0_1.length cl]) ho rfl ?_ ⟨_, rfl, rfl, Below.refl _ _⟩
          simp only [execOp, Act.eval, List.map_toArray, List.map_cons, List.map_nil, f5]
          first | rfl | (go_simp; done) | (go_simp; rfl) | (go_simp; intro h_; exfalso; omega)
        | 1, ho, he =>
          obtain rfl : o_ = { dst := some 39, op := Go.Op.load 25 (Go.Operand.tmp 2), type := 25, pos := "law.go:83", after := #[], guard := none } := (Option.some.inj ho).symm
          obtain rfl := Option.some.inj he; clear he
          have f2 : a.tmps.getD 2 undef = .pointer (some ⟨w.heap.size, 0, none⟩) := by rw [Array.getD_eq_getD_getElem?, hfr 2 (show ¬ 2 ∈ ([38, 39, 40, 41, 42, 43, 44, 45, 46, 47, 48, 49, 50, 51, 52, 53, 54, 55, 56, 57] : List Nat) by decide)]; rfl
          clear hpre hfr
          have k_p0 := (hbl.cell (World.block_lt_of_cell? _ _ p0)).trans p0
          have k_p1 := (hbl.cell (World.block_lt_of_cell? _ _ p1)).trans p1
          refine wpOp_value (v := .agg #[.slice A0_0 l0_0.length c0_0, .slice A0_1 l0_1.length c0_1]) ho rfl ?_ ⟨_, rfl, rfl, Below.refl _ _⟩
          simp only [execOp, Act.eval, List.map_toArray, List.map_cons, List.map_nil, f2]
          first | rfl | (go_simp; done) | (go_simp; rfl) | (go_simp; intro h_; exfalso; omega)
        | 2, ho, he =>
          obtain rfl : o_ = { dst := some 40, op := Go.Op.call { callee := Go.Callee.value (Go.Operand.func 13), args := #[Go.Operand.tmp 38, Go.Operand.tmp 39], argTypes := #[25, 25] }, type := 4, pos := "law.go:83", after := #[{ on := 0, ground := Go.Ground.data }, { on := 1, ground := Go.Ground.data }], guard := none } := (Option.some.inj ho).symm
          obtain rfl := Option.some.inj he; clear he
          have e38 : a.tmps.getD 38 undef = .agg #[.slice Ab l0_0.length cb, .slice Al l0_1.length cl] := hpre ⟨0, .data⟩ (by simp) rfl _ rfl
          have e39 : a.tmps.getD 39 undef = .agg #[.slice A0_0 l0_0.length c0_0, .slice A0_1 l0_1.length c0_1] := hpre ⟨1, .data⟩ (by simp) rfl _ rfl
          clear hpre hfr
          refine wpOp_call (fn := Try.f13) ho rfl rfl rfl rfl #[.agg #[.slice Ab l0_0.length cb, .slice Al l0_1.length cl], .agg #[.slice A0_0 l0_0.length c0_0, .slice A0_1 l0_1.length c0_1]] rfl (by simp only [List.map_toArray, List.map_cons, List.map_nil, Act.eval, e38, e39]) ?_
          refine (waybillref24_Same.calls 3000 Ab cb l0_0 Al cl l0_1 A0_0 c0_0 l0_0 A0_1 c0_1 l0_1 true _ (Kd.C_below (Kd.R_reads' R3'.out).2.2 hbl) (Kd.R_reads' R3'.out).2.1 (Kd.C_below (Kd.R_reads' R4'.out).2.2 hbl) (Kd.R_reads' R4'.out).2.1 (Kd.C_below (Kd.C_below H0.out HB4.out) hbl) C0.out (Kd.C_below (Kd.C_below H1.out HB4.out) hbl) C1.out (g_same_f l0_0 l0_1 (by have := HBO.out.len; omega) HLE.out)).mono ?_
          rintro e w3 ⟨rfl, hb3⟩
          exact ⟨_, rfl, _, rfl, rfl, hb3⟩
        | 3, ho, he =>
          obtain rfl : o_ = { dst := some 41, op := Go.Op.move (Go.Operand.tmp 40), type := 4, pos := "law.go:83", after := #[{ on := 2, ground := Go.Ground.data }, { on := 2, ground := Go.Ground.chain }], guard := none } := (Option.some.inj ho).symm
          obtain rfl := Option.some.inj he; clear he
          have e40 := hpre ⟨2, .data⟩ (by simp) rfl _ rfl; dsimp only at e40
          clear hpre hfr
          refine wpOp_value (v := .bool true) ho rfl ?_ ⟨_, rfl, rfl, Below.refl _ _⟩
          simp only [execOp, Act.eval, List.map_toArray, List.map_cons, List.map_nil]
          first | rfl | (go_simp; done) | (go_simp; rfl) | (go_simp; intro h_; exfalso; omega)
        | 4, ho, he =>
          obtain rfl : o_ = { dst := some 42, op := Go.Op.move (Go.Operand.tmp 6), type := 28, pos := "law.go:83", after := #[{ on := 3, ground := Go.Ground.guard }], guard := some (3, true) } := (Option.some.inj ho).symm
          obtain rfl := Option.some.inj he; clear he
          have e41 : a.tmps.getD 41 undef = .bool true := hpre ⟨3, .guard⟩ (by simp) rfl _ rfl
          have f6 : a.tmps.getD 6 undef = .slice (some ⟨gr, 0, none⟩) 1 cr := by rw [Array.getD_eq_getD_getElem?, hfr 6 (show ¬ 6 ∈ ([38, 39, 40, 41, 42, 43, 44, 45, 46, 47, 48, 49, 50, 51, 52, 53, 54, 55, 56, 57] : List Nat) by decide)]; rfl
          clear hpre hfr
          refine wpOp_value_w (v := .slice (some ⟨gr, 0, none⟩) 1 cr) ho (wanted_of (n := 3) (d := 41) rfl rfl (by rw [hs]; exact (show 41 < 91 by decide)) e41) ?_ ⟨_, rfl, rfl, Below.refl _ _⟩
          simp only [execOp, Act.eval, List.map_toArray, List.map_cons, List.map_nil, e41, f6]
          first | rfl | (go_simp; done) | (go_simp; rfl) | (go_simp; intro h_; exfalso; omega)
        | 5, ho, he =>
          obtain rfl : o_ = { dst := some 43, op := Go.Op.indexAddr 28 (Go.Operand.tmp 42) (Go.Operand.const (Go.Value.int Go.IntKind.i64 0)), type := 0, pos := "law.go:83", after := #[{ on := 4, ground := Go.Ground.data }, { on := 3, ground := Go.Ground.guard }], guard := some (3, true) } := (Option.some.inj ho).symm
          obtain rfl := Option.some.inj he; clear he
          have e42 : a.tmps.getD 42 undef = .slice (some ⟨gr, 0, none⟩) 1 cr := hpre ⟨4, .data⟩ (by simp) rfl _ rfl
          have e41 : a.tmps.getD 41 undef = .bool true := hpre ⟨3, .guard⟩ (by simp) rfl _ rfl
          clear hpre hfr
          refine wpOp_value_w (v := .pointer (some ⟨gr, 0, none⟩)) ho (wanted_of (n := 3) (d := 41) rfl rfl (by rw [hs]; exact (show 41 < 91 by decide)) e41) ?_ ⟨_, rfl, rfl, Below.refl _ _⟩
          simp only [execOp, Act.eval, List.map_toArray, List.map_cons, List.map_nil, e42, e41]
          first | rfl | (go_simp; done) | (go_simp; rfl) | (go_simp; intro h_; exfalso; omega)
        | 6, ho, he =>
          obtain rfl : o_ = { dst := some 44, op := Go.Op.fieldAddr 37 (Go.Operand.tmp 43) 1, type := 0, pos := "law.go:83", after := #[{ on := 5, ground := Go.Ground.data }, { on := 3, ground := Go.Ground.guard }], guard := some (3, true) } := (Option.some.inj ho).symm
          obtain rfl := Option.some.inj he; clear he
          have e43 : a.tmps.getD 43 undef = .pointer (some ⟨gr, 0, none⟩) := hpre ⟨5, .data⟩ (by simp) rfl _ rfl
          have e41 : a.tmps.getD 41 undef = .bool true := hpre ⟨3, .guard⟩ (by simp) rfl _ rfl
          clear hpre hfr
          refine wpOp_value_w (v := .pointer (some ⟨gr, 1, none⟩)) ho (wanted_of (n := 3) (d := 41) rfl rfl (by rw [hs]; exact (show 41 < 91 by decide)) e41) ?_ ⟨_, rfl, rfl, Below.refl _ _⟩
          simp only [execOp, Act.eval, List.map_toArray, List.map_cons, List.map_nil, e43, e41]
          first | rfl | (go_simp; done) | (go_simp; rfl) | (go_simp; intro h_; exfalso; omega)
        | 7, ho, he =>
          obtain rfl : o_ = { dst := some 45, op := Go.Op.load 3 (Go.Operand.tmp 44), type := 3, pos := "law.go:83", after := #[{ on := 6, ground := Go.Ground.data }, { on := 3, ground := Go.Ground.guard }], guard := some (3, true) } := (Option.some.inj ho).symm
          obtain rfl := Option.some.inj he; clear he
          have e44 : a.tmps.getD 44 undef = .pointer (some ⟨gr, 1, none⟩) := hpre ⟨6, .data⟩ (by simp) rfl _ rfl
          have e41 : a.tmps.getD 41 undef = .bool true := hpre ⟨3, .guard⟩ (by simp) rfl _ rfl
          clear hpre hfr
          have k_r1 := (hbl.cell (World.block_lt_of_cell? _ _ r1)).trans r1
          refine wpOp_value_w (v := .int .i64 (l0_1.length : Int)) ho (wanted_of (n := 3) (d := 41) rfl rfl (by rw [hs]; exact (show 41 < 91 by decide)) e41) ?_ ⟨_, rfl, rfl, Below.refl _ _⟩
          simp only [execOp, Act.eval, List.map_toArray, List.map_cons, List.map_nil, e44, e41]
          first | rfl | (go_simp; done) | (go_simp; rfl) | (go_simp; intro h_; exfalso; omega)
        | 8, ho, he =>
          obtain rfl : o_ = { dst := some 46, op := Go.Op.fieldAddr 25 (Go.Operand.tmp 2) 1, type := 0, pos := "law.go:83", after := #[{ on := 3, ground := Go.Ground.guard }], guard := some (3, true) } := (Option.some.inj ho).symm
          obtain rfl := Option.some.inj he; clear he
          have e41 : a.tmps.getD 41 undef = .bool true := hpre ⟨3, .guard⟩ (by simp) rfl _ rfl
          have f2 : a.tmps.getD 2 undef = .pointer (some ⟨w.heap.size, 0, none⟩) := by rw [Array.getD_eq_getD_getElem?, hfr 2 (show ¬ 2 ∈ ([38, 39, 40, 41, 42, 43, 44, 45, 46, 47, 48, 49, 50, 51, 52, 53, 54, 55, 56, 57] : List Nat) by decide)]; rfl
          clear hpre hfr
          refine wpOp_value_w (v := .pointer (some ⟨w.heap.size, 1, none⟩)) ho (wanted_of (n := 3) (d := 41) rfl rfl (by rw [hs]; exact (show 41 < 91 by decide)) e41) ?_ ⟨_, rfl, rfl, Below.refl _ _⟩
          simp only [execOp, Act.eval, List.map_toArray, List.map_cons, List.map_nil, e41, f2]
          first | rfl | (go_simp; done) | (go_simp; rfl) | (go_simp; intro h_; exfalso; omega)
        | 9, ho, he =>
          obtain rfl : o_ = { dst := some 47, op := Go.Op.load 23 (Go.Operand.tmp 46), type := 23, pos := "law.go:83", after := #[{ on := 8, ground := Go.Ground.data }, { on := 3, ground := Go.Ground.guard }], guard := some (3, true) } := (Option.some.inj ho).symm
          obtain rfl := Option.some.inj he; clear he
          have e46 : a.tmps.getD 46 undef = .pointer (some ⟨w.heap.size, 1, none⟩) := hpre ⟨8, .data⟩ (by simp) rfl _ rfl
          have e41 : a.tmps.getD 41 undef = .bool true := hpre ⟨3, .guard⟩ (by simp) rfl _ rfl
          clear hpre hfr
          have k_p1 := (hbl.cell (World.block_lt_of_cell? _ _ p1)).trans p1
          refine wpOp_value_w (v := .slice A0_1 l0_1.length c0_1) ho (wanted_of (n := 3) (d := 41) rfl rfl (by rw [hs]; exact (show 41 < 91 by decide)) e41) ?_ ⟨_, rfl, rfl, Below.refl _ _⟩
          simp only [execOp, Act.eval, List.map_toArray, List.map_cons, List.map_nil, e46, e41]
          first | rfl | (go_simp; done) | (go_simp; rfl) | (go_simp; intro h_; exfalso; omega)
        | 10, ho, he =>
          obtain rfl : o_ = { dst := some 48, op := Go.Op.call { callee := Go.Callee.builtin Go.Builtin.len, args := #[Go.Operand.tmp 47], argTypes := #[23] }, type := 3, pos := "law.go:83", after := #[{ on := 9, ground := Go.Ground.data }, { on := 3, ground := Go.Ground.guard }], guard := some (3, true) } := (Option.some.inj ho).symm
          obtain rfl := Option.some.inj he; clear he
          have e47 : a.tmps.getD 47 undef = .slice A0_1 l0_1.length c0_1 := hpre ⟨9, .data⟩ (by simp) rfl _ rfl
          have e41 : a.tmps.getD 41 undef = .bool true := hpre ⟨3, .guard⟩ (by simp) rfl _ rfl
          clear hpre hfr
          refine wpOp_value_w (v := .int .i64 (l0_1.length : Int)) ho (wanted_of (n := 3) (d := 41) rfl rfl (by rw [hs]; exact (show 41 < 91 by decide)) e41) ?_ ⟨_, rfl, rfl, Below.refl _ _⟩
          simp only [execOp, Act.eval, List.map_toArray, List.map_cons, List.map_nil, e47, e41]
          first | rfl | (go_simp; done) | (go_simp; rfl) | (go_simp; intro h_; exfalso; omega)
        | 11, ho, he =>
          obtain rfl : o_ = { dst := some 49, op := Go.Op.binOp Go.BinOp.eql 3 (Go.Operand.tmp 45) (Go.Operand.tmp 48) 3, type := 4, pos := "law.go:83", after := #[{ on := 7, ground := Go.Ground.data }, { on := 10, ground := Go.Ground.data }, { on := 3, ground := Go.Ground.guard }], guard := some (3, true) } := (Option.some.inj ho).symm
          obtain rfl := Option.some.inj he; clear he
          have e45 : a.tmps.getD 45 undef = .int .i64 (l0_1.length : Int) := hpre ⟨7, .data⟩ (by simp) rfl _ rfl
          have e48 : a.tmps.getD 48 undef = .int .i64 (l0_1.length : Int) := hpre ⟨10, .data⟩ (by simp) rfl _ rfl
          have e41 : a.tmps.getD 41 undef = .bool true := hpre ⟨3, .guard⟩ (by simp) rfl _ rfl
          clear hpre hfr
          refine wpOp_value_w (v := .bool true) ho (wanted_of (n := 3) (d := 41) rfl rfl (by rw [hs]; exact (show 41 < 91 by decide)) e41) ?_ ⟨_, rfl, rfl, Below.refl _ _⟩
          simp only [execOp, Act.eval, List.map_toArray, List.map_cons, List.map_nil, e45, e48, e41]
          first | rfl | (go_simp; done) | (go_simp; rfl) | (go_simp; intro h_; exfalso; omega)
        | 12, ho, he =>
          obtain rfl : o_ = { dst := some 50, op := Go.Op.pick (Go.Operand.tmp 41) (Go.Operand.tmp 49) (Go.Operand.const (Go.Value.bool false)), type := 4, pos := "law.go:83", after := #[{ on := 3, ground := Go.Ground.data }, { on := 11, ground := Go.Ground.data }], guard := none } := (Option.some.inj ho).symm
          obtain rfl := Option.some.inj he; clear he
          have e41 : a.tmps.getD 41 undef = .bool true := hpre ⟨3, .data⟩ (by simp) rfl _ rfl
          have e49 : a.tmps.getD 49 undef = .bool true := hpre ⟨11, .data⟩ (by simp) rfl _ rfl
          clear hpre hfr
          refine wpOp_value (v := .bool true) ho rfl ?_ ⟨_, rfl, rfl, Below.refl _ _⟩
          simp only [execOp, Act.eval, List.map_toArray, List.map_cons, List.map_nil, e41, e49]
          first | rfl | (go_simp; done) | (go_simp; rfl) | (go_simp; intro h_; exfalso; omega)
        | 13, ho, he =>
          obtain rfl : o_ = { dst := some 51, op := Go.Op.move (Go.Operand.tmp 50), type := 4, pos := "law.go:83", after := #[{ on := 12, ground := Go.Ground.data }, { on := 3, ground := Go.Ground.chain }], guard := none } := (Option.some.inj ho).symm
          obtain rfl := Option.some.inj he; clear he
          have e50 : a.tmps.getD 50 undef = .bool true := hpre ⟨12, .data⟩ (by simp) rfl _ rfl
          clear hpre hfr
          refine wpOp_value (v := .bool true) ho rfl ?_ ⟨_, rfl, rfl, Below.refl _ _⟩
          simp only [execOp, Act.eval, List.map_toArray, List.map_cons, List.map_nil, e50]
          first | rfl | (go_simp; done) | (go_simp; rfl) | (go_simp; intro h_; exfalso; omega)
        | 14, ho, he =>
          obtain rfl : o_ = { dst := some 52, op := Go.Op.move (Go.Operand.tmp 6), type := 28, pos := "law.go:83", after := #[{ on := 13, ground := Go.Ground.guard }], guard := some (13, true) } := (Option.some.inj ho).symm
          obtain rfl := Option.some.inj he; clear he
          have e51 : a.tmps.getD 51 undef = .bool true := hpre ⟨13, .guard⟩ (by simp) rfl _ rfl
          have f6 : a.tmps.getD 6 undef = .slice (some ⟨gr, 0, none⟩) 1 cr := by rw [Array.getD_eq_getD_getElem?, hfr 6 (show ¬ 6 ∈ ([38, 39, 40, 41, 42, 43, 44, 45, 46, 47, 48, 49, 50, 51, 52, 53, 54, 55, 56, 57] : List Nat) by decide)]; rfl
          clear hpre hfr
          refine wpOp_value_w (v := .slice (some ⟨gr, 0, none⟩) 1 cr) ho (wanted_of (n := 13) (d := 51) rfl rfl (by rw [hs]; exact (show 51 < 91 by decide)) e51) ?_ ⟨_, rfl, rfl, Below.refl _ _⟩
          simp only [execOp, Act.eval, List.map_toArray, List.map_cons, List.map_nil, e51, f6]
          first | rfl | (go_simp; done) | (go_simp; rfl) | (go_simp; intro h_; exfalso; omega)
        | 15, ho, he =>
          obtain rfl : o_ = { dst := some 53, op := Go.Op.indexAddr 28 (Go.Operand.tmp 52) (Go.Operand.const (Go.Value.int Go.IntKind.i64 0)), type := 0, pos := "law.go:83", after := #[{ on := 14, ground := Go.Ground.data }, { on := 13, ground := Go.Ground.guard }], guard := some (13, true) } := (Option.some.inj ho).symm
          obtain rfl := Option.some.inj he; clear he
          have e52 : a.tmps.getD 52 undef = .slice (some ⟨gr, 0, none⟩) 1 cr := hpre ⟨14, .data⟩ (by simp) rfl _ rfl
          have e51 : a.tmps.getD 51 undef = .bool true := hpre ⟨13, .guard⟩ (by simp) rfl _ rfl
          clear hpre hfr
          refine wpOp_value_w (v := .pointer (some ⟨gr, 0, none⟩)) ho (wanted_of (n := 13) (d := 51) rfl rfl (by rw [hs]; exact (show 51 < 91 by decide)) e51) ?_ ⟨_, rfl, rfl, Below.refl _ _⟩
          simp only [execOp, Act.eval, List.map_toArray, List.map_cons, List.map_nil, e52, e51]
          first | rfl | (go_simp; done) | (go_simp; rfl) | (go_simp; intro h_; exfalso; omega)
        | 16, ho, he =>
          obtain rfl : o_ = { dst := some 54, op := Go.Op.fieldAddr 37 (Go.Operand.tmp 53) 0, type := 0, pos := "law.go:83", after := #[{ on := 15, ground := Go.Ground.data }, { on := 13, ground := Go.Ground.guard }], guard := some (13, true) } := (Option.some.inj ho).symm
          obtain rfl := Option.some.inj he; clear he
          have e53 : a.tmps.getD 53 undef = .pointer (some ⟨gr, 0, none⟩) := hpre ⟨15, .data⟩ (by simp) rfl _ rfl
          have e51 : a.tmps.getD 51 undef = .bool true := hpre ⟨13, .guard⟩ (by simp) rfl _ rfl
          clear hpre hfr
          refine wpOp_value_w (v := .pointer (some ⟨gr, 0, none⟩)) ho (wanted_of (n := 13) (d := 51) rfl rfl (by rw [hs]; exact (show 51 < 91 by decide)) e51) ?_ ⟨_, rfl, rfl, Below.refl _ _⟩
          simp only [execOp, Act.eval, List.map_toArray, List.map_cons, List.map_nil, e53, e51]
          first | rfl | (go_simp; done) | (go_simp; rfl) | (go_simp; intro h_; exfalso; omega)
        | 17, ho, he =>
          obtain rfl : o_ = { dst := some 55, op := Go.Op.load 3 (Go.Operand.tmp 54), type := 3, pos := "law.go:83", after := #[{ on := 16, ground := Go.Ground.data }, { on := 13, ground := Go.Ground.guard }], guard := some (13, true) } := (Option.some.inj ho).symm
          obtain rfl := Option.some.inj he; clear he
          have e54 : a.tmps.getD 54 undef = .pointer (some ⟨gr, 0, none⟩) := hpre ⟨16, .data⟩ (by simp) rfl _ rfl
          have e51 : a.tmps.getD 51 undef = .bool true := hpre ⟨13, .guard⟩ (by simp) rfl _ rfl
          clear hpre hfr
          have k_r0 := (hbl.cell (World.block_lt_of_cell? _ _ r0)).trans r0
          refine wpOp_value_w (v := .int .i64 0) ho (wanted_of (n := 13) (d := 51) rfl rfl (by rw [hs]; exact (show 51 < 91 by decide)) e51) ?_ ⟨_, rfl, rfl, Below.refl _ _⟩
          simp only [execOp, Act.eval, List.map_toArray, List.map_cons, List.map_nil, e54, e51]
          first | rfl | (go_simp; done) | (go_simp; rfl) | (go_simp; intro h_; exfalso; omega)
        | 18, ho, he =>
          obtain rfl : o_ = { dst := some 56, op := Go.Op.binOp Go.BinOp.eql 3 (Go.Operand.tmp 55) (Go.Operand.const (Go.Value.int Go.IntKind.i64 0)) 3, type := 4, pos := "law.go:83", after := #[{ on := 17, ground := Go.Ground.data }, { on := 13, ground := Go.Ground.guard }], guard := some (13, true) } := (Option.some.inj ho).symm
          obtain rfl := Option.some.inj he; clear he
          have e55 : a.tmps.getD 55 undef = .int .i64 0 := hpre ⟨17, .data⟩ (by simp) rfl _ rfl
          have e51 : a.tmps.getD 51 undef = .bool true := hpre ⟨13, .guard⟩ (by simp) rfl _ rfl
          clear hpre hfr
          refine wpOp_value_w (v := .bool true) ho (wanted_of (n := 13) (d := 51) rfl rfl (by rw [hs]; exact (show 51 < 91 by decide)) e51) ?_ ⟨_, rfl, rfl, Below.refl _ _⟩
          simp only [execOp, Act.eval, List.map_toArray, List.map_cons, List.map_nil, e55, e51]
          first | rfl | (go_simp; done) | (go_simp; rfl) | (go_simp; intro h_; exfalso; omega)
        | 19, ho, he =>
          obtain rfl : o_ = { dst := some 57, op := Go.Op.pick (Go.Operand.tmp 51) (Go.Operand.tmp 56) (Go.Operand.const (Go.Value.bool false)), type := 4, pos := "law.go:83", after := #[{ on := 13, ground := Go.Ground.data }, { on := 18, ground := Go.Ground.data }], guard := none } := (Option.some.inj ho).symm
          obtain rfl := Option.some.inj he; clear he
          have e51 : a.tmps.getD 51 undef = .bool true := hpre ⟨13, .data⟩ (by simp) rfl _ rfl
          have e56 : a.tmps.getD 56 undef = .bool true := hpre ⟨18, .data⟩ (by simp) rfl _ rfl
          clear hpre hfr
          refine wpOp_value (v := .bool true) ho rfl ?_ ⟨_, rfl, rfl, Below.refl _ _⟩
          simp only [execOp, Act.eval, List.map_toArray, List.map_cons, List.map_nil, e51, e56]
          first | rfl | (go_simp; done) | (go_simp; rfl) | (go_simp; intro h_; exfalso; omega)
        | n_ + 20, ho, he => simp at he
      case fin =>
        intro xv_ w1_ hbl hbs hx
        simp only [List.forall_mem_cons] at hx
        obtain ⟨x38, x39, x40, x41, x42, x43, x44, x45, x46, x47, x48, x49, x50, x51, x52, x53, x54, x55, x56, x57, _⟩ := hx
        simp only [List.map_cons, List.map_nil, putL, Act.put, List.setIfInBounds_toArray, List.set_cons_zero, List.set_cons_succ, x38, x39, x40, x41, x42, x43, x44, x45, x46, x47, x48, x49, x50, x51, x52, x53, x54, x55, x56, x57]
        simp only [List.drop_succ_cons, List.drop_zero]
        clear x38 x39 x40 x41 x42 x43 x44 x45 x46 x47 x48 x49 x50 x51 x52 x53 x54 x55 x56 x57
        go_wp2
        go_ret
        exact ⟨rfl, below_then HB4.out HB4.out.size hbl⟩

end Go.Proofs.Ytbegdgdghiigpaa.G
