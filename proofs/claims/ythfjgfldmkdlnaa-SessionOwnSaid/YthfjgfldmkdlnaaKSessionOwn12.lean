/- SessionOwn: texts of this claim, packed: what the kit's print has written for it and own texts, without what its proof does not reach. -/
import Derived.Test.YthfjgfldmkdlnaaKSessionOwn11
set_option linter.unusedVariables false
set_option linter.unusedSimpArgs false
set_option linter.unusedSectionVars false
section
namespace Go.Proofs.Ythfjgfldmkdlnaa.G
open WB Go.RowKit Go.Proofs.YthfjgfldmkdlnaaW.PrintWords Go.Proofs.YthfjgfldmkdlnaaW.PrintLast Go.Proofs.YthfjgfldmkdlnaaW.PrintMore
attribute [local go_sem] max2_int min2_int max_two min_two max_three min_three max_four min_four   -- for this text's walks alone
set_option linter.unusedVariables false
set_option linter.unusedSimpArgs false
theorem in_f (n a b : Int) : session_in.f n a b = some (!outB n a b) := by
  unfold session_in.f outB
  by_cases h : a ≤ n
  · rw [if_pos h, decide_eq_true h]; simp
  · rw [if_neg h, decide_eq_false h]; simp
theorem sets_f (a b c : Int) : session_Sets.f a b c = some (setsS a b c) := by
  unfold session_Sets.f setsS
  rw [in_f, in_f, in_f]
  simp only [Option.bind_some, outB, Bool.not_not]
  by_cases h1 : (decide (1 ≤ a) && decide (a ≤ 64)) = true
  · rw [if_pos h1, h1]
    by_cases h2 : (decide (1 ≤ b) && decide (b ≤ 1048576)) = true
    · rw [if_pos h2, h2]; rfl
    · rw [if_neg h2, Bool.eq_false_iff.2 h2]; rfl
  · rw [if_neg h1, Bool.eq_false_iff.2 h1]; rfl
set_option maxHeartbeats 4000000 in
set_option maxRecDepth 100000 in
theorem table_odd (g : Nat) (s0 s1 s2 next tick : Int) (L : Value) (x : S38) (A2 : Option Addr) (c2 : Nat) (w : World) (hg : w.heap[g]? = some (.cells #[.int .i64 s0, .int .i64 s1, .int .i64 s2, L, .int .i64 next, .int .i64 tick] 76 (0, 0)))
    (hr : Kd.C k51 w A2 x.f3.f1.length x.f3.f1) (hc : x.f3.f1.length ≤ c2) (hn : 1 ≤ next ∧ next ≤ 1073741824) :
    Calls Try.prog 44 #[.pointer (some ⟨g, 0, none⟩), .agg #[.int .i64 x.f0, .int .i64 x.f1, .int .i64 x.f2, .int .i64 x.f3.f0, .slice A2 x.f3.f1.length c2]] w fun e w' => e = .returned (.bool (oddS s2 next tick x)) ∧ Below w.heap.size w w' := by
  have HR := Aside0.mk (Kd.C_alloc hr (.cells #[.int .i64 x.f0, .int .i64 x.f1, .int .i64 x.f2, .int .i64 x.f3.f0, .slice A2 x.f3.f1.length c2] 38))
  have HC := Aside0.mk hc
  obtain ⟨b1, hb1⟩ : ∃ b, b = outB x.f0 1 (next - 1) := ⟨_, rfl⟩
  obtain ⟨b2, hb2⟩ : ∃ b, b = outB x.f1 0 2147483647 := ⟨_, rfl⟩
  obtain ⟨b3, hb3⟩ : ∃ b, b = outB x.f2 0 tick := ⟨_, rfl⟩
  obtain ⟨cw, hcw⟩ : ∃ b, b = checkW x.f3.f0 x.f3.f1 s2 := ⟨_, rfl⟩
  have I1 : Aside0 (session_in.f x.f0 1 (next - 1) = some (!b1)) := ⟨by rw [hb1]; exact in_f _ _ _⟩
  have I2 : Aside0 (session_in.f x.f1 0 2147483647 = some (!b2)) := ⟨by rw [hb2]; exact in_f _ _ _⟩
  have I3 : Aside0 (session_in.f x.f2 0 tick = some (!b3)) := ⟨by rw [hb3]; exact in_f _ _ _⟩
  have I4 : Aside0 (window_Check.f x.f3.f0 x.f3.f1 s2 = some cw) := ⟨by rw [hcw]; rfl⟩
  have HE : Aside0 (oddS s2 next tick x = (b1 || b2 || b3 || (cw != 0))) := ⟨by rw [hb1, hb2, hb3, hcw]; simp [oddS, Bool.or_assoc]⟩
  have hwn : IntKind.i64.wrap (next - 1) = next - 1 := by rw [IntKind.wrap_i64]; omega
  have HBW := Aside0.mk (below_alloc (Below.refl w.heap.size w) (.cells #[.int .i64 x.f0, .int .i64 x.f1, .int .i64 x.f2, .int .i64 x.f3.f0, .slice A2 x.f3.f1.length c2] 38))
  have HG := Aside0.mk hg
  clear hr hc hn hg hb1 hb2 hb3 hcw
  go_enter Try.func44, Try.ntmps44
  go_wp2_with fail
  obtain ⟨W0, hW0⟩ : ∃ W, W = w.alloc (.cells #[.int .i64 x.f0, .int .i64 x.f1, .int .i64 x.f2, .int .i64 x.f3.f0, .slice A2 x.f3.f1.length c2] 38) := ⟨_, rfl⟩
  have BX := Aside0.mk (heap_new1 w (.cells #[.int .i64 x.f0, .int .i64 x.f1, .int .i64 x.f2, .int .i64 x.f3.f0, .slice A2 x.f3.f1.length c2] 38))
  have BG := Aside0.mk (blk_alloc HG.out (.cells #[.int .i64 x.f0, .int .i64 x.f1, .int .i64 x.f2, .int .i64 x.f3.f0, .slice A2 x.f3.f1.length c2] 38))
  rw [← hW0] at HR HBW BX BG ⊢
  clear hW0
  have x0 : W0.cell? ⟨w.heap.size, 0, none⟩ = some (.int .i64 x.f0) := (blk_cell BX.out 0).trans rfl
  have x1 : W0.cell? ⟨w.heap.size, 1, none⟩ = some (.int .i64 x.f1) := (blk_cell BX.out 1).trans rfl
  have x2 : W0.cell? ⟨w.heap.size, 2, none⟩ = some (.int .i64 x.f2) := (blk_cell BX.out 2).trans rfl
  have x3 : W0.cell? ⟨w.heap.size, 3, none⟩ = some (.int .i64 x.f3.f0) := (blk_cell BX.out 3).trans rfl
  have x4 : W0.cell? ⟨w.heap.size, 4, none⟩ = some (.slice A2 x.f3.f1.length c2) := (blk_cell BX.out 4).trans rfl
  have y2 : W0.cell? ⟨g, 2, none⟩ = some (.int .i64 s2) := (blk_cell BG.out 2).trans rfl
  have y4 : W0.cell? ⟨g, 4, none⟩ = some (.int .i64 next) := (blk_cell BG.out 4).trans rfl
  have y5 : W0.cell? ⟨g, 5, none⟩ = some (.int .i64 tick) := (blk_cell BG.out 5).trans rfl
  refine region_facts (B := _) (w0 := _) [(5, (fun v _ => v = .pointer (some ⟨w.heap.size, 0, none⟩))), (6, (fun v _ => v = .int .i64 x.f0)), (7, (fun v _ => v = .pointer (some ⟨g, 0, none⟩))), (8, (fun v _ => v = .pointer (some ⟨g, 0, none⟩))), (9, (fun v _ => v = .pointer (some ⟨g, 4, none⟩))), (10, (fun v _ => v = .int .i64 next)), (11, (fun v _ => v = .int .i64 (next - 1))), (12, (fun v W => v = .bool (!b1))), (13, (fun v _ => v = .bool (b1))), (14, (fun v _ => v = .bool (b1))), (15, (fun v _ => v = if (b1) = false then .pointer (some ⟨w.heap.size, 1, none⟩) else undef)), (16, (fun v _ => v = if (b1) = false then .int .i64 x.f1 else undef)), (17, (fun v _ => v = if (b1) = false then .bool (!b2) else undef)), (18, (fun v _ => v = if (b1) = false then .bool (b2) else undef)), (19, (fun v _ => v = .bool (b1 || b2))), (20, (fun v _ => v = .bool (b1 || b2))), (21, (fun v _ => v = if (b1 || b2) = false then .pointer (some ⟨w.heap.size, 2, none⟩) else undef)), (22, (fun v _ => v = if (b1 || b2) = false then .int .i64 x.f2 else undef)), (23, (fun v _ => v = if (b1 || b2) = false then .pointer (some ⟨g, 0, none⟩) else undef)), (24, (fun v _ => v = if (b1 || b2) = false then .pointer (some ⟨g, 0, none⟩) else undef)), (25, (fun v _ => v = if (b1 || b2) = false then .pointer (some ⟨g, 5, none⟩) else undef)), (26, (fun v _ => v = if (b1 || b2) = false then .int .i64 tick else undef)), (27, (fun v _ => v = if (b1 || b2) = false then .bool (!b3) else undef)), (28, (fun v _ => v = if (b1 || b2) = false then .bool (b3) else undef)), (29, (fun v _ => v = .bool (b1 || b2 || b3))), (30, (fun v _ => v = .bool (b1 || b2 || b3))), (31, (fun v _ => v = if (b1 || b2 || b3) = false then .pointer (some ⟨w.heap.size, 3, none⟩) else undef)), (32, (fun v _ => v = if (b1 || b2 || b3) = false then .agg #[.int .i64 x.f3.f0, .slice A2 x.f3.f1.length c2] else undef)), (33, (fun v _ => v = if (b1 || b2 || b3) = false then .pointer (some ⟨g, 0, none⟩) else undef)), (34, (fun v _ => v = if (b1 || b2 || b3) = false then .pointer (some ⟨g, 0, none⟩) else undef)), (35, (fun v _ => v = if (b1 || b2 || b3) = false then .pointer (some ⟨g, 0, none⟩) else undef)), (36, (fun v _ => v = if (b1 || b2 || b3) = false then .pointer (some ⟨g, 2, none⟩) else undef)), (37, (fun v _ => v = if (b1 || b2 || b3) = false then .int .i64 s2 else undef)), (38, (fun v _ => v = if (b1 || b2 || b3) = false then .int .i64 cw else undef)), (39, (fun v _ => v = if (b1 || b2 || b3) = false then .bool (cw != 0) else undef)), (40, (fun v _ => v = .bool (b1 || b2 || b3 || cw != 0))), (4, (fun v _ => v = .bool (b1 || b2 || b3 || cw != 0)))] (by kernel_rfl) (by kernel_rfl) (by rfl) (show ([5, 6, 7, 8, 9, 10, 11, 12, 13, 14, 15, 16, 17, 18, 19, 20, 21, 22, 23, 24, 25, 26, 27, 28, 29, 30, 31, 32, 33, 34, 35, 36, 37, 38, 39, 40, 4] : List Nat).Nodup by decide) ?hsz ?hst (Below.refl _ _) (Nat.le_refl _) ?step ?fin
  case hsz => exact List.forall_mem_cons.2 ⟨(show 5 < 41 by decide), List.forall_mem_cons.2 ⟨(show 6 < 41 by decide), List.forall_mem_cons.2 ⟨(show 7 < 41 by decide), List.forall_mem_cons.2 ⟨(show 8 < 41 by decide), List.forall_mem_cons.2 ⟨(show 9 < 41 by decide), List.forall_mem_cons.2 ⟨(show 10 < 41 by decide), List.forall_mem_cons.2 ⟨(show 11 < 41 by decide), List.forall_mem_cons.2 ⟨(show 12 < 41 by decide), List.forall_mem_cons.2 ⟨(show 13 < 41 by decide), List.forall_mem_cons.2 ⟨(show 14 < 41 by decide), List.forall_mem_cons.2 ⟨(show 15 < 41 by decide), List.forall_mem_cons.2 ⟨(show 16 < 41 by decide), List.forall_mem_cons.2 ⟨(show 17 < 41 by decide), List.forall_mem_cons.2 ⟨(show 18 < 41 by decide), List.forall_mem_cons.2 ⟨(show 19 < 41 by decide), List.forall_mem_cons.2 ⟨(show 20 < 41 by decide), List.forall_mem_cons.2 ⟨(show 21 < 41 by decide), List.forall_mem_cons.2 ⟨(show 22 < 41 by decide), List.forall_mem_cons.2 ⟨(show 23 < 41 by decide), List.forall_mem_cons.2 ⟨(show 24 < 41 by decide), List.forall_mem_cons.2 ⟨(show 25 < 41 by decide), List.forall_mem_cons.2 ⟨(show 26 < 41 by decide), List.forall_mem_cons.2 ⟨(show 27 < 41 by decide), List.forall_mem_cons.2 ⟨(show 28 < 41 by decide), List.forall_mem_cons.2 ⟨(show 29 < 41 by decide), List.forall_mem_cons.2 ⟨(show 30 < 41 by decide), List.forall_mem_cons.2 ⟨(show 31 < 41 by decide), List.forall_mem_cons.2 ⟨(show 32 < 41 by decide), List.forall_mem_cons.2 ⟨(show 33 < 41 by decide), List.forall_mem_cons.2 ⟨(show 34 < 41 by decide), List.forall_mem_cons.2 ⟨(show 35 < 41 by decide), List.forall_mem_cons.2 ⟨(show 36 < 41 by decide), List.forall_mem_cons.2 ⟨(show 37 < 41 by decide), List.forall_mem_cons.2 ⟨(show 38 < 41 by decide), List.forall_mem_cons.2 ⟨(show 39 < 41 by decide), List.forall_mem_cons.2 ⟨(show 40 < 41 by decide), List.forall_mem_cons.2 ⟨(show 4 < 41 by decide), fun _ h => nomatch h⟩⟩⟩⟩⟩⟩⟩⟩⟩⟩⟩⟩⟩⟩⟩⟩⟩⟩⟩⟩⟩⟩⟩⟩⟩⟩⟩⟩⟩⟩⟩⟩⟩⟩⟩⟩⟩
  case hst => exact List.forall_mem_cons.2 ⟨(fun v w1 w2 hb h => h), List.forall_mem_cons.2 ⟨(fun v w1 w2 hb h => h), List.forall_mem_cons.2 ⟨(fun v w1 w2 hb h => h), List.forall_mem_cons.2 ⟨(fun v w1 w2 hb h => h), List.forall_mem_cons.2 ⟨(fun v w1 w2 hb h => h), List.forall_mem_cons.2 ⟨(fun v w1 w2 hb h => h), List.forall_mem_cons.2 ⟨(fun v w1 w2 hb h => h), List.forall_mem_cons.2 ⟨(fun v w1 w2 hb h => h), List.forall_mem_cons.2 ⟨(fun v w1 w2 hb h => h), List.forall_mem_cons.2 ⟨(fun v w1 w2 hb h => h), List.forall_mem_cons.2 ⟨(fun v w1 w2 hb h => h), List.forall_mem_cons.2 ⟨(fun v w1 w2 hb h => h), List.forall_mem_cons.2 ⟨(fun v w1 w2 hb h => h), List.forall_mem_cons.2 ⟨(fun v w1 w2 hb h => h), List.forall_mem_cons.2 ⟨(fun v w1 w2 hb h => h), List.forall_mem_cons.2 ⟨(fun v w1 w2 hb h => h), List.forall_mem_cons.2 ⟨(fun v w1 w2 hb h => h), List.forall_mem_cons.2 ⟨(fun v w1 w2 hb h => h), List.forall_mem_cons.2 ⟨(fun v w1 w2 hb h => h), List.forall_mem_cons.2 ⟨(fun v w1 w2 hb h => h), List.forall_mem_cons.2 ⟨(fun v w1 w2 hb h => h), List.forall_mem_cons.2 ⟨(fun v w1 w2 hb h => h), List.forall_mem_cons.2 ⟨(fun v w1 w2 hb h => h), List.forall_mem_cons.2 ⟨(fun v w1 w2 hb h => h), List.forall_mem_cons.2 ⟨(fun v w1 w2 hb h => h), List.forall_mem_cons.2 ⟨(fun v w1 w2 hb h => h), List.forall_mem_cons.2 ⟨(fun v w1 w2 hb h => h), List.forall_mem_cons.2 ⟨(fun v w1 w2 hb h => h), List.forall_mem_cons.2 ⟨(fun v w1 w2 hb h => h), List.forall_mem_cons.2 ⟨(fun v w1 w2 hb h => h), List.forall_mem_cons.2 ⟨(fun v w1 w2 hb h => h), List.forall_mem_cons.2 ⟨(fun v w1 w2 hb h => h), List.forall_mem_cons.2 ⟨(fun v w1 w2 hb h => h), List.forall_mem_cons.2 ⟨(fun v w1 w2 hb h => h), List.forall_mem_cons.2 ⟨(fun v w1 w2 hb h => h), List.forall_mem_cons.2 ⟨(fun v w1 w2 hb h => h), List.forall_mem_cons.2 ⟨(fun v w1 w2 hb h => h), fun _ h => nomatch h⟩⟩⟩⟩⟩⟩⟩⟩⟩⟩⟩⟩⟩⟩⟩⟩⟩⟩⟩⟩⟩⟩⟩⟩⟩⟩⟩⟩⟩⟩⟩⟩⟩⟩⟩⟩⟩
  case step =>
    intro i_ o_ e_ ho he a w1_ hs hdf hfr hbl hbs hpre
    match i_, ho, he with
    | 0, ho, he => obtain rfl : o_ = ⟨_, _, _, _, _, _⟩ := (Option.some.inj ho).symm; obtain rfl := Option.some.inj he; clear he; have f3 : a.tmps.getD 3 undef = .pointer (some ⟨w.heap.size, 0, none⟩) := (by rw [Array.getD_eq_getD_getElem?, hfr 3 (show ¬ 3 ∈ ([5, 6, 7, 8, 9, 10, 11, 12, 13, 14, 15, 16, 17, 18, 19, 20, 21, 22, 23, 24, 25, 26, 27, 28, 29, 30, 31, 32, 33, 34, 35, 36, 37, 38, 39, 40, 4] : List Nat) by decide)]; rfl); clear hpre hfr; refine wpOp_value (v := .pointer (some ⟨w.heap.size, 0, none⟩)) ho rfl ?_ ⟨_, rfl, rfl, Below.refl _ _⟩; simp only [execOp, Act.eval, List.map_toArray, List.map_cons, List.map_nil, f3]; first | rfl | (go_simp; done) | (go_simp; rfl) | (go_simp; intro h_; exfalso; omega)
    | 1, ho, he => obtain rfl : o_ = ⟨_, _, _, _, _, _⟩ := (Option.some.inj ho).symm; obtain rfl := Option.some.inj he; clear he; have e5 : a.tmps.getD 5 undef = .pointer (some ⟨w.heap.size, 0, none⟩) := hpre ⟨0, .data⟩ (by simp) rfl _ rfl; clear hpre hfr; have k_x0 := (hbl.cell (World.block_lt_of_cell? _ _ x0)).trans x0; refine wpOp_value (v := .int .i64 x.f0) ho rfl ?_ ⟨_, rfl, rfl, Below.refl _ _⟩; simp only [execOp, Act.eval, List.map_toArray, List.map_cons, List.map_nil, e5]; first | rfl | (go_simp; done) | (go_simp; rfl) | (go_simp; intro h_; exfalso; omega)
    | 2, ho, he => obtain rfl : o_ = ⟨_, _, _, _, _, _⟩ := (Option.some.inj ho).symm; obtain rfl := Option.some.inj he; clear he; have f0 : a.tmps.getD 0 undef = .pointer (some ⟨g, 0, none⟩) := (by rw [Array.getD_eq_getD_getElem?, hfr 0 (show ¬ 0 ∈ ([5, 6, 7, 8, 9, 10, 11, 12, 13, 14, 15, 16, 17, 18, 19, 20, 21, 22, 23, 24, 25, 26, 27, 28, 29, 30, 31, 32, 33, 34, 35, 36, 37, 38, 39, 40, 4] : List Nat) by decide)]; rfl); clear hpre hfr; refine wpOp_value (v := .pointer (some ⟨g, 0, none⟩)) ho rfl ?_ ⟨_, rfl, rfl, Below.refl _ _⟩; simp only [execOp, Act.eval, List.map_toArray, List.map_cons, List.map_nil, f0]; first | rfl | (go_simp; done) | (go_simp; rfl) | (go_simp; intro h_; exfalso; omega)
    | 3, ho, he => obtain rfl : o_ = ⟨_, _, _, _, _, _⟩ := (Option.some.inj ho).symm; obtain rfl := Option.some.inj he; clear he; have e7 : a.tmps.getD 7 undef = .pointer (some ⟨g, 0, none⟩) := hpre ⟨2, .data⟩ (by simp) rfl _ rfl; clear hpre hfr; refine wpOp_value (v := .pointer (some ⟨g, 0, none⟩)) ho rfl ?_ ⟨_, rfl, rfl, Below.refl _ _⟩; simp only [execOp, Act.eval, List.map_toArray, List.map_cons, List.map_nil, e7]; first | rfl | (go_simp; done) | (go_simp; rfl) | (go_simp; intro h_; exfalso; omega)
    | 4, ho, he => obtain rfl : o_ = ⟨_, _, _, _, _, _⟩ := (Option.some.inj ho).symm; obtain rfl := Option.some.inj he; clear he; have e8 : a.tmps.getD 8 undef = .pointer (some ⟨g, 0, none⟩) := hpre ⟨3, .data⟩ (by simp) rfl _ rfl; clear hpre hfr; refine wpOp_value (v := .pointer (some ⟨g, 4, none⟩)) ho rfl ?_ ⟨_, rfl, rfl, Below.refl _ _⟩; simp only [execOp, Act.eval, List.map_toArray, List.map_cons, List.map_nil, e8]; first | rfl | (go_simp; done) | (go_simp; rfl) | (go_simp; intro h_; exfalso; omega)
    | 5, ho, he => obtain rfl : o_ = ⟨_, _, _, _, _, _⟩ := (Option.some.inj ho).symm; obtain rfl := Option.some.inj he; clear he; have e9 : a.tmps.getD 9 undef = .pointer (some ⟨g, 4, none⟩) := hpre ⟨4, .data⟩ (by simp) rfl _ rfl; clear hpre hfr; have k_y4 := (hbl.cell (World.block_lt_of_cell? _ _ y4)).trans y4; refine wpOp_value (v := .int .i64 next) ho rfl ?_ ⟨_, rfl, rfl, Below.refl _ _⟩; simp only [execOp, Act.eval, List.map_toArray, List.map_cons, List.map_nil, e9]; first | rfl | (go_simp; done) | (go_simp; rfl) | (go_simp; intro h_; exfalso; omega)
    | 6, ho, he => obtain rfl : o_ = ⟨_, _, _, _, _, _⟩ := (Option.some.inj ho).symm; obtain rfl := Option.some.inj he; clear he; have e10 : a.tmps.getD 10 undef = .int .i64 next := hpre ⟨5, .data⟩ (by simp) rfl _ rfl; clear hpre hfr; refine wpOp_value (v := .int .i64 (next - 1)) ho rfl ?_ ⟨_, rfl, rfl, Below.refl _ _⟩; simp only [execOp, Act.eval, List.map_toArray, List.map_cons, List.map_nil, e10]; first | rfl | (go_simp; done) | (go_simp; rfl) | (go_simp; intro h_; exfalso; omega)
    | 7, ho, he => obtain rfl : o_ = ⟨_, _, _, _, _, _⟩ := (Option.some.inj ho).symm; obtain rfl := Option.some.inj he; clear he; have e6 : a.tmps.getD 6 undef = .int .i64 x.f0 := hpre ⟨1, .data⟩ (by simp) rfl _ rfl; have e11 : a.tmps.getD 11 undef = .int .i64 (next - 1) := hpre ⟨6, .data⟩ (by simp) rfl _ rfl; clear hpre hfr; refine wpOp_call (fn := Try.f30) ho rfl rfl rfl rfl #[.int .i64 x.f0, .int .i64 1, .int .i64 (next - 1)] rfl (by simp only [List.map_toArray, List.map_cons, List.map_nil, Act.eval, e6, e11]) ?_; refine (session_in.calls x.f0 1 (next - 1) (!b1) _ I1.out).mono ?_; rintro e w3 ⟨rfl, hd⟩; exact ⟨_, rfl, _, rfl, rfl, hd.below⟩
    | 8, ho, he => obtain rfl : o_ = ⟨_, _, _, _, _, _⟩ := (Option.some.inj ho).symm; obtain rfl := Option.some.inj he; clear he; have e12 := hpre ⟨7, .data⟩ (by simp) rfl _ rfl; dsimp only at e12; clear hpre hfr; refine wpOp_value (v := .bool (b1)) ho rfl ?_ ⟨_, rfl, rfl, Below.refl _ _⟩; simp only [execOp, Act.eval, List.map_toArray, List.map_cons, List.map_nil]; first | rfl | (go_simp; done) | (go_simp; rfl) | (go_simp; intro h_; exfalso; omega)
    | 9, ho, he => obtain rfl : o_ = ⟨_, _, _, _, _, _⟩ := (Option.some.inj ho).symm; obtain rfl := Option.some.inj he; clear he; have e13 : a.tmps.getD 13 undef = .bool (b1) := hpre ⟨8, .data⟩ (by simp) rfl _ rfl; clear hpre hfr; refine wpOp_value (v := .bool (b1)) ho rfl ?_ ⟨_, rfl, rfl, Below.refl _ _⟩; simp only [execOp, Act.eval, List.map_toArray, List.map_cons, List.map_nil, e13]; first | rfl | (go_simp; done) | (go_simp; rfl) | (go_simp; intro h_; exfalso; omega)
    | 10, ho, he =>
      obtain rfl : o_ = ⟨_, _, _, _, _, _⟩ := (Option.some.inj ho).symm
      obtain rfl := Option.some.inj he; clear he
      have e14 : a.tmps.getD 14 undef = .bool (b1) := hpre ⟨9, .guard⟩ (by simp) rfl _ rfl
      have f3 : a.tmps.getD 3 undef = .pointer (some ⟨w.heap.size, 0, none⟩) := by rw [Array.getD_eq_getD_getElem?, hfr 3 (show ¬ 3 ∈ ([5, 6, 7, 8, 9, 10, 11, 12, 13, 14, 15, 16, 17, 18, 19, 20, 21, 22, 23, 24, 25, 26, 27, 28, 29, 30, 31, 32, 33, 34, 35, 36, 37, 38, 39, 40, 4] : List Nat) by decide)]; rfl
      clear hpre hfr
      by_cases hq_ : (b1) = false
      · refine wpOp_value_w (v := .pointer (some ⟨w.heap.size, 1, none⟩)) ho (wanted_of (n := 9) (d := 14) rfl rfl (by rw [hs]; exact (show 14 < 41 by decide)) (e14.trans (congrArg _ hq_))) ?_ ⟨_, by rw [if_pos hq_], rfl, Below.refl _ _⟩
        simp only [execOp, Act.eval, List.map_toArray, List.map_cons, List.map_nil, e14, f3]
        first | rfl | (go_simp; done) | (go_simp; rfl) | (go_simp; intro h_; exfalso; omega)
      · exact wpOp_unwanted ho (unwanted_if (n := 9) (d := 14) rfl rfl e14 hq_) ⟨_, by rw [if_neg hq_], rfl, Below.refl _ _⟩
    | 11, ho, he =>
      obtain rfl : o_ = ⟨_, _, _, _, _, _⟩ := (Option.some.inj ho).symm
      obtain rfl := Option.some.inj he; clear he
      have e15 : a.tmps.getD 15 undef = if (b1) = false then .pointer (some ⟨w.heap.size, 1, none⟩) else undef := hpre ⟨10, .data⟩ (by simp) rfl _ rfl
      have e14 : a.tmps.getD 14 undef = .bool (b1) := hpre ⟨9, .guard⟩ (by simp) rfl _ rfl
      clear hpre hfr
      have k_x1 := (hbl.cell (World.block_lt_of_cell? _ _ x1)).trans x1
      by_cases hq_ : (b1) = false
      · rw [if_pos hq_] at e15
        refine wpOp_value_w (v := .int .i64 x.f1) ho (wanted_of (n := 9) (d := 14) rfl rfl (by rw [hs]; exact (show 14 < 41 by decide)) (e14.trans (congrArg _ hq_))) ?_ ⟨_, by rw [if_pos hq_], rfl, Below.refl _ _⟩
        simp only [execOp, Act.eval, List.map_toArray, List.map_cons, List.map_nil, e15, e14]
        first | rfl | (go_simp; done) | (go_simp; rfl) | (go_simp; intro h_; exfalso; omega)
      · exact wpOp_unwanted ho (unwanted_if (n := 9) (d := 14) rfl rfl e14 hq_) ⟨_, by rw [if_neg hq_], rfl, Below.refl _ _⟩
    | 12, ho, he =>
      obtain rfl : o_ = ⟨_, _, _, _, _, _⟩ := (Option.some.inj ho).symm
      obtain rfl := Option.some.inj he; clear he
      have e16 : a.tmps.getD 16 undef = if (b1) = false then .int .i64 x.f1 else undef := hpre ⟨11, .data⟩ (by simp) rfl _ rfl
      have e14 : a.tmps.getD 14 undef = .bool (b1) := hpre ⟨9, .guard⟩ (by simp) rfl _ rfl
      clear hpre hfr
      by_cases hq_ : (b1) = false
      · rw [if_pos hq_] at e16
        refine wpOp_call_w (fn := Try.f30) ho (wanted_of (n := 9) (d := 14) rfl rfl (by rw [hs]; exact (show 14 < 41 by decide)) (e14.trans (congrArg _ hq_))) rfl rfl rfl #[.int .i64 x.f1, .int .i64 0, .int .i64 2147483647] rfl (by simp only [List.map_toArray, List.map_cons, List.map_nil, Act.eval, e16]) ?_
        refine (session_in.calls x.f1 0 2147483647 (!b2) _ I2.out).mono ?_
        rintro e w3 ⟨rfl, hd⟩
        exact ⟨_, rfl, _, rfl, by rw [if_pos hq_], hd.below⟩
      · exact wpOp_unwanted ho (unwanted_if (n := 9) (d := 14) rfl rfl e14 hq_) ⟨_, by rw [if_neg hq_], rfl, Below.refl _ _⟩
    | 13, ho, he =>
      obtain rfl : o_ = ⟨_, _, _, _, _, _⟩ := (Option.some.inj ho).symm
      obtain rfl := Option.some.inj he; clear he
      have e17 : a.tmps.getD 17 undef = if (b1) = false then .bool (!b2) else undef := hpre ⟨12, .data⟩ (by simp) rfl _ rfl
      have e14 : a.tmps.getD 14 undef = .bool (b1) := hpre ⟨9, .guard⟩ (by simp) rfl _ rfl
      clear hpre hfr
      by_cases hq_ : (b1) = false
      · rw [if_pos hq_] at e17
        refine wpOp_value_w (v := .bool (b2)) ho (wanted_of (n := 9) (d := 14) rfl rfl (by rw [hs]; exact (show 14 < 41 by decide)) (e14.trans (congrArg _ hq_))) ?_ ⟨_, by rw [if_pos hq_], rfl, Below.refl _ _⟩
        simp only [execOp, Act.eval, List.map_toArray, List.map_cons, List.map_nil, e17, e14]
        first | rfl | (go_simp; done) | (go_simp; rfl) | (go_simp; intro h_; exfalso; omega)
      · exact wpOp_unwanted ho (unwanted_if (n := 9) (d := 14) rfl rfl e14 hq_) ⟨_, by rw [if_neg hq_], rfl, Below.refl _ _⟩
    | 14, ho, he =>
      obtain rfl : o_ = ⟨_, _, _, _, _, _⟩ := (Option.some.inj ho).symm
      obtain rfl := Option.some.inj he; clear he
      have e14 : a.tmps.getD 14 undef = .bool (b1) := hpre ⟨9, .data⟩ (by simp) rfl _ rfl
      have e18 : a.tmps.getD 18 undef = if (b1) = false then .bool (b2) else undef := hpre ⟨13, .data⟩ (by simp) rfl _ rfl
      clear hpre hfr
      by_cases hq_ : (b1) = false
      · rw [if_pos hq_] at e18
        refine wpOp_value (v := .bool (b1 || b2)) ho rfl ?_ ⟨_, rfl, rfl, Below.refl _ _⟩
        simp only [execOp, Act.eval, List.map_toArray, List.map_cons, List.map_nil, hq_, e14, e18]
        first | rfl | (go_simp; done) | (go_simp; rfl) | (simp [hq_]; done)
      · rw [if_neg hq_] at e18
        replace hq_ : (b1) = true := Bool.of_not_eq_false hq_
        refine wpOp_value (v := .bool (b1 || b2)) ho rfl ?_ ⟨_, rfl, rfl, Below.refl _ _⟩
        simp only [execOp, Act.eval, List.map_toArray, List.map_cons, List.map_nil, hq_, e14, e18]
        first | rfl | (go_simp; done) | (go_simp; rfl) | (simp [hq_]; done)
    | 15, ho, he => obtain rfl : o_ = ⟨_, _, _, _, _, _⟩ := (Option.some.inj ho).symm; obtain rfl := Option.some.inj he; clear he; have e19 : a.tmps.getD 19 undef = .bool (b1 || b2) := hpre ⟨14, .data⟩ (by simp) rfl _ rfl; clear hpre hfr; refine wpOp_value (v := .bool (b1 || b2)) ho rfl ?_ ⟨_, rfl, rfl, Below.refl _ _⟩; simp only [execOp, Act.eval, List.map_toArray, List.map_cons, List.map_nil, e19]; first | rfl | (go_simp; done) | (go_simp; rfl) | (go_simp; intro h_; exfalso; omega)
    | 16, ho, he =>
      obtain rfl : o_ = ⟨_, _, _, _, _, _⟩ := (Option.some.inj ho).symm
      obtain rfl := Option.some.inj he; clear he
      have e20 : a.tmps.getD 20 undef = .bool (b1 || b2) := hpre ⟨15, .guard⟩ (by simp) rfl _ rfl
      have f3 : a.tmps.getD 3 undef = .pointer (some ⟨w.heap.size, 0, none⟩) := by rw [Array.getD_eq_getD_getElem?, hfr 3 (show ¬ 3 ∈ ([5, 6, 7, 8, 9, 10, 11, 12, 13, 14, 15, 16, 17, 18, 19, 20, 21, 22, 23, 24, 25, 26, 27, 28, 29, 30, 31, 32, 33, 34, 35, 36, 37, 38, 39, 40, 4] : List Nat) by decide)]; rfl
      clear hpre hfr
      by_cases hq_ : (b1 || b2) = false
      · refine wpOp_value_w (v := .pointer (some ⟨w.heap.size, 2, none⟩)) ho (wanted_of (n := 15) (d := 20) rfl rfl (by rw [hs]; exact (show 20 < 41 by decide)) (e20.trans (congrArg _ hq_))) ?_ ⟨_, by rw [if_pos hq_], rfl, Below.refl _ _⟩
        simp only [execOp, Act.eval, List.map_toArray, List.map_cons, List.map_nil, e20, f3]
        first | rfl | (go_simp; done) | (go_simp; rfl) | (go_simp; intro h_; exfalso; omega)
      · exact wpOp_unwanted ho (unwanted_if (n := 15) (d := 20) rfl rfl e20 hq_) ⟨_, by rw [if_neg hq_], rfl, Below.refl _ _⟩
    | 17, ho, he =>
      obtain rfl : o_ = ⟨_, _, _, _, _, _⟩ := (Option.some.inj ho).symm
      obtain rfl := Option.some.inj he; clear he
      have e21 : a.tmps.getD 21 undef = if (b1 || b2) = false then .pointer (some ⟨w.heap.size, 2, none⟩) else undef := hpre ⟨16, .data⟩ (by simp) rfl _ rfl
      have e20 : a.tmps.getD 20 undef = .bool (b1 || b2) := hpre ⟨15, .guard⟩ (by simp) rfl _ rfl
      clear hpre hfr
      have k_x2 := (hbl.cell (World.block_lt_of_cell? _ _ x2)).trans x2
      by_cases hq_ : (b1 || b2) = false
      · rw [if_pos hq_] at e21
        refine wpOp_value_w (v := .int .i64 x.f2) ho (wanted_of (n := 15) (d := 20) rfl rfl (by rw [hs]; exact (show 20 < 41 by decide)) (e20.trans (congrArg _ hq_))) ?_ ⟨_, by rw [if_pos hq_], rfl, Below.refl _ _⟩
        simp only [execOp, Act.eval, List.map_toArray, List.map_cons, List.map_nil, e21, e20]
        first | rfl | (go_simp; done) | (go_simp; rfl) | (go_simp; intro h_; exfalso; omega)
      · exact wpOp_unwanted ho (unwanted_if (n := 15) (d := 20) rfl rfl e20 hq_) ⟨_, by rw [if_neg hq_], rfl, Below.refl _ _⟩
    | 18, ho, he =>
      obtain rfl : o_ = ⟨_, _, _, _, _, _⟩ := (Option.some.inj ho).symm
      obtain rfl := Option.some.inj he; clear he
      have e20 : a.tmps.getD 20 undef = .bool (b1 || b2) := hpre ⟨15, .guard⟩ (by simp) rfl _ rfl
      have f0 : a.tmps.getD 0 undef = .pointer (some ⟨g, 0, none⟩) := by rw [Array.getD_eq_getD_getElem?, hfr 0 (show ¬ 0 ∈ ([5, 6, 7, 8, 9, 10, 11, 12, 13, 14, 15, 16, 17, 18, 19, 20, 21, 22, 23, 24, 25, 26, 27, 28, 29, 30, 31, 32, 33, 34, 35, 36, 37, 38, 39, 40, 4] : List Nat) by decide)]; rfl
      clear hpre hfr
      by_cases hq_ : (b1 || b2) = false
      · refine wpOp_value_w (v := .pointer (some ⟨g, 0, none⟩)) ho (wanted_of (n := 15) (d := 20) rfl rfl (by rw [hs]; exact (show 20 < 41 by decide)) (e20.trans (congrArg _ hq_))) ?_ ⟨_, by rw [if_pos hq_], rfl, Below.refl _ _⟩
        simp only [execOp, Act.eval, List.map_toArray, List.map_cons, List.map_nil, e20, f0]
        first | rfl | (go_simp; done) | (go_simp; rfl) | (go_simp; intro h_; exfalso; omega)
      · exact wpOp_unwanted ho (unwanted_if (n := 15) (d := 20) rfl rfl e20 hq_) ⟨_, by rw [if_neg hq_], rfl, Below.refl _ _⟩
    | 19, ho, he =>
      obtain rfl : o_ = ⟨_, _, _, _, _, _⟩ := (Option.some.inj ho).symm
      obtain rfl := Option.some.inj he; clear he
      have e23 : a.tmps.getD 23 undef = if (b1 || b2) = false then .pointer (some ⟨g, 0, none⟩) else undef := hpre ⟨18, .data⟩ (by simp) rfl _ rfl
      have e20 : a.tmps.getD 20 undef = .bool (b1 || b2) := hpre ⟨15, .guard⟩ (by simp) rfl _ rfl
      clear hpre hfr
      by_cases hq_ : (b1 || b2) = false
      · rw [if_pos hq_] at e23
        refine wpOp_value_w (v := .pointer (some ⟨g, 0, none⟩)) ho (wanted_of (n := 15) (d := 20) rfl rfl (by rw [hs]; exact (show 20 < 41 by decide)) (e20.trans (congrArg _ hq_))) ?_ ⟨_, by rw [if_pos hq_], rfl, Below.refl _ _⟩
        simp only [execOp, Act.eval, List.map_toArray, List.map_cons, List.map_nil, e23, e20]
        first | rfl | (go_simp; done) | (go_simp; rfl) | (go_simp; intro h_; exfalso; omega)
      · exact wpOp_unwanted ho (unwanted_if (n := 15) (d := 20) rfl rfl e20 hq_) ⟨_, by rw [if_neg hq_], rfl, Below.refl _ _⟩
    | 20, ho, he =>
      obtain rfl : o_ = ⟨_, _, _, _, _, _⟩ := (Option.some.inj ho).symm
      obtain rfl := Option.some.inj he; clear he
      have e24 : a.tmps.getD 24 undef = if (b1 || b2) = false then .pointer (some ⟨g, 0, none⟩) else undef := hpre ⟨19, .data⟩ (by simp) rfl _ rfl
      have e20 : a.tmps.getD 20 undef = .bool (b1 || b2) := hpre ⟨15, .guard⟩ (by simp) rfl _ rfl
      clear hpre hfr
      by_cases hq_ : (b1 || b2) = false
      · rw [if_pos hq_] at e24
        refine wpOp_value_w (v := .pointer (some ⟨g, 5, none⟩)) ho (wanted_of (n := 15) (d := 20) rfl rfl (by rw [hs]; exact (show 20 < 41 by decide)) (e20.trans (congrArg _ hq_))) ?_ ⟨_, by rw [if_pos hq_], rfl, Below.refl _ _⟩
        simp only [execOp, Act.eval, List.map_toArray, List.map_cons, List.map_nil, e24, e20]
        first | rfl | (go_simp; done) | (go_simp; rfl) | (go_simp; intro h_; exfalso; omega)
      · exact wpOp_unwanted ho (unwanted_if (n := 15) (d := 20) rfl rfl e20 hq_) ⟨_, by rw [if_neg hq_], rfl, Below.refl _ _⟩
    | 21, ho, he =>
      obtain rfl : o_ = ⟨_, _, _, _, _, _⟩ := (Option.some.inj ho).symm
      obtain rfl := Option.some.inj he; clear he
      have e25 : a.tmps.getD 25 undef = if (b1 || b2) = false then .pointer (some ⟨g, 5, none⟩) else undef := hpre ⟨20, .data⟩ (by simp) rfl _ rfl
      have e20 : a.tmps.getD 20 undef = .bool (b1 || b2) := hpre ⟨15, .guard⟩ (by simp) rfl _ rfl
      clear hpre hfr
      have k_y5 := (hbl.cell (World.block_lt_of_cell? _ _ y5)).trans y5
      by_cases hq_ : (b1 || b2) = false
      · rw [if_pos hq_] at e25
        refine wpOp_value_w (v := .int .i64 tick) ho (wanted_of (n := 15) (d := 20) rfl rfl (by rw [hs]; exact (show 20 < 41 by decide)) (e20.trans (congrArg _ hq_))) ?_ ⟨_, by rw [if_pos hq_], rfl, Below.refl _ _⟩
        simp only [execOp, Act.eval, List.map_toArray, List.map_cons, List.map_nil, e25, e20]
        first | rfl | (go_simp; done) | (go_simp; rfl) | (go_simp; intro h_; exfalso; omega)
      · exact wpOp_unwanted ho (unwanted_if (n := 15) (d := 20) rfl rfl e20 hq_) ⟨_, by rw [if_neg hq_], rfl, Below.refl _ _⟩
    | 22, ho, he =>
      obtain rfl : o_ = ⟨_, _, _, _, _, _⟩ := (Option.some.inj ho).symm
      obtain rfl := Option.some.inj he; clear he
      have e22 : a.tmps.getD 22 undef = if (b1 || b2) = false then .int .i64 x.f2 else undef := hpre ⟨17, .data⟩ (by simp) rfl _ rfl
      have e26 : a.tmps.getD 26 undef = if (b1 || b2) = false then .int .i64 tick else undef := hpre ⟨21, .data⟩ (by simp) rfl _ rfl
      have e20 : a.tmps.getD 20 undef = .bool (b1 || b2) := hpre ⟨15, .guard⟩ (by simp) rfl _ rfl
      clear hpre hfr
      by_cases hq_ : (b1 || b2) = false
      · rw [if_pos hq_] at e22
        rw [if_pos hq_] at e26
        refine wpOp_call_w (fn := Try.f30) ho (wanted_of (n := 15) (d := 20) rfl rfl (by rw [hs]; exact (show 20 < 41 by decide)) (e20.trans (congrArg _ hq_))) rfl rfl rfl #[.int .i64 x.f2, .int .i64 0, .int .i64 tick] rfl (by simp only [List.map_toArray, List.map_cons, List.map_nil, Act.eval, e22, e26]) ?_
        refine (session_in.calls x.f2 0 tick (!b3) _ I3.out).mono ?_
        rintro e w3 ⟨rfl, hd⟩
        exact ⟨_, rfl, _, rfl, by rw [if_pos hq_], hd.below⟩
      · exact wpOp_unwanted ho (unwanted_if (n := 15) (d := 20) rfl rfl e20 hq_) ⟨_, by rw [if_neg hq_], rfl, Below.refl _ _⟩
    | 23, ho, he =>
      obtain rfl : o_ = ⟨_, _, _, _, _, _⟩ := (Option.some.inj ho).symm
      obtain rfl := Option.some.inj he; clear he
      have e27 : a.tmps.getD 27 undef = if (b1 || b2) = false then .bool (!b3) else undef := hpre ⟨22, .data⟩ (by simp) rfl _ rfl
      have e20 : a.tmps.getD 20 undef = .bool (b1 || b2) := hpre ⟨15, .guard⟩ (by simp) rfl _ rfl
      clear hpre hfr
      by_cases hq_ : (b1 || b2) = false
      · rw [if_pos hq_] at e27
        refine wpOp_value_w (v := .bool (b3)) ho (wanted_of (n := 15) (d := 20) rfl rfl (by rw [hs]; exact (show 20 < 41 by decide)) (e20.trans (congrArg _ hq_))) ?_ ⟨_, by rw [if_pos hq_], rfl, Below.refl _ _⟩
        simp only [execOp, Act.eval, List.map_toArray, List.map_cons, List.map_nil, e27, e20]
        first | rfl | (go_simp; done) | (go_simp; rfl) | (go_simp; intro h_; exfalso; omega)
      · exact wpOp_unwanted ho (unwanted_if (n := 15) (d := 20) rfl rfl e20 hq_) ⟨_, by rw [if_neg hq_], rfl, Below.refl _ _⟩
    | 24, ho, he =>
      obtain rfl : o_ = ⟨_, _, _, _, _, _⟩ := (Option.some.inj ho).symm
      obtain rfl := Option.some.inj he; clear he
      have e20 : a.tmps.getD 20 undef = .bool (b1 || b2) := hpre ⟨15, .data⟩ (by simp) rfl _ rfl
      have e28 : a.tmps.getD 28 undef = if (b1 || b2) = false then .bool (b3) else undef := hpre ⟨23, .data⟩ (by simp) rfl _ rfl
      clear hpre hfr
      by_cases hq_ : (b1 || b2) = false
      · rw [if_pos hq_] at e28
        refine wpOp_value (v := .bool (b1 || b2 || b3)) ho rfl ?_ ⟨_, rfl, rfl, Below.refl _ _⟩
        simp only [execOp, Act.eval, List.map_toArray, List.map_cons, List.map_nil, hq_, e20, e28]
        first | rfl | (go_simp; done) | (go_simp; rfl) | (simp [hq_]; done)
      · rw [if_neg hq_] at e28
        replace hq_ : (b1 || b2) = true := Bool.of_not_eq_false hq_
        refine wpOp_value (v := .bool (b1 || b2 || b3)) ho rfl ?_ ⟨_, rfl, rfl, Below.refl _ _⟩
        simp only [execOp, Act.eval, List.map_toArray, List.map_cons, List.map_nil, hq_, e20, e28]
        first | rfl | (go_simp; done) | (go_simp; rfl) | (simp [hq_]; done)
    | 25, ho, he => obtain rfl : o_ = ⟨_, _, _, _, _, _⟩ := (Option.some.inj ho).symm; obtain rfl := Option.some.inj he; clear he; have e29 : a.tmps.getD 29 undef = .bool (b1 || b2 || b3) := hpre ⟨24, .data⟩ (by simp) rfl _ rfl; clear hpre hfr; refine wpOp_value (v := .bool (b1 || b2 || b3)) ho rfl ?_ ⟨_, rfl, rfl, Below.refl _ _⟩; simp only [execOp, Act.eval, List.map_toArray, List.map_cons, List.map_nil, e29]; first | rfl | (go_simp; done) | (go_simp; rfl) | (go_simp; intro h_; exfalso; omega)
    | 26, ho, he =>
      obtain rfl : o_ = ⟨_, _, _, _, _, _⟩ := (Option.some.inj ho).symm
      obtain rfl := Option.some.inj he; clear he
      have e30 : a.tmps.getD 30 undef = .bool (b1 || b2 || b3) := hpre ⟨25, .guard⟩ (by simp) rfl _ rfl
      have f3 : a.tmps.getD 3 undef = .pointer (some ⟨w.heap.size, 0, none⟩) := by rw [Array.getD_eq_getD_getElem?, hfr 3 (show ¬ 3 ∈ ([5, 6, 7, 8, 9, 10, 11, 12, 13, 14, 15, 16, 17, 18, 19, 20, 21, 22, 23, 24, 25, 26, 27, 28, 29, 30, 31, 32, 33, 34, 35, 36, 37, 38, 39, 40, 4] : List Nat) by decide)]; rfl
      clear hpre hfr
      by_cases hq_ : (b1 || b2 || b3) = false
      · refine wpOp_value_w (v := .pointer (some ⟨w.heap.size, 3, none⟩)) ho (wanted_of (n := 25) (d := 30) rfl rfl (by rw [hs]; exact (show 30 < 41 by decide)) (e30.trans (congrArg _ hq_))) ?_ ⟨_, by rw [if_pos hq_], rfl, Below.refl _ _⟩
        simp only [execOp, Act.eval, List.map_toArray, List.map_cons, List.map_nil, e30, f3]
        first | rfl | (go_simp; done) | (go_simp; rfl) | (go_simp; intro h_; exfalso; omega)
      · exact wpOp_unwanted ho (unwanted_if (n := 25) (d := 30) rfl rfl e30 hq_) ⟨_, by rw [if_neg hq_], rfl, Below.refl _ _⟩
    | 27, ho, he =>
      obtain rfl : o_ = ⟨_, _, _, _, _, _⟩ := (Option.some.inj ho).symm
      obtain rfl := Option.some.inj he; clear he
      have e31 : a.tmps.getD 31 undef = if (b1 || b2 || b3) = false then .pointer (some ⟨w.heap.size, 3, none⟩) else undef := hpre ⟨26, .data⟩ (by simp) rfl _ rfl
      have e30 : a.tmps.getD 30 undef = .bool (b1 || b2 || b3) := hpre ⟨25, .guard⟩ (by simp) rfl _ rfl
      clear hpre hfr
      have k_x3 := (hbl.cell (World.block_lt_of_cell? _ _ x3)).trans x3
      have k_x4 := (hbl.cell (World.block_lt_of_cell? _ _ x4)).trans x4
      by_cases hq_ : (b1 || b2 || b3) = false
      · rw [if_pos hq_] at e31
        refine wpOp_value_w (v := .agg #[.int .i64 x.f3.f0, .slice A2 x.f3.f1.length c2]) ho (wanted_of (n := 25) (d := 30) rfl rfl (by rw [hs]; exact (show 30 < 41 by decide)) (e30.trans (congrArg _ hq_))) ?_ ⟨_, by rw [if_pos hq_], rfl, Below.refl _ _⟩
        simp only [execOp, Act.eval, List.map_toArray, List.map_cons, List.map_nil, e31, e30]
        first | rfl | (go_simp; done) | (go_simp; rfl) | (go_simp; intro h_; exfalso; omega)
      · exact wpOp_unwanted ho (unwanted_if (n := 25) (d := 30) rfl rfl e30 hq_) ⟨_, by rw [if_neg hq_], rfl, Below.refl _ _⟩
    | 28, ho, he =>
      obtain rfl : o_ = ⟨_, _, _, _, _, _⟩ := (Option.some.inj ho).symm
      obtain rfl := Option.some.inj he; clear he
      have e30 : a.tmps.getD 30 undef = .bool (b1 || b2 || b3) := hpre ⟨25, .guard⟩ (by simp) rfl _ rfl
      have f0 : a.tmps.getD 0 undef = .pointer (some ⟨g, 0, none⟩) := by rw [Array.getD_eq_getD_getElem?, hfr 0 (show ¬ 0 ∈ ([5, 6, 7, 8, 9, 10, 11, 12, 13, 14, 15, 16, 17, 18, 19, 20, 21, 22, 23, 24, 25, 26, 27, 28, 29, 30, 31, 32, 33, 34, 35, 36, 37, 38, 39, 40, 4] : List Nat) by decide)]; rfl
      clear hpre hfr
      by_cases hq_ : (b1 || b2 || b3) = false
      · refine wpOp_value_w (v := .pointer (some ⟨g, 0, none⟩)) ho (wanted_of (n := 25) (d := 30) rfl rfl (by rw [hs]; exact (show 30 < 41 by decide)) (e30.trans (congrArg _ hq_))) ?_ ⟨_, by rw [if_pos hq_], rfl, Below.refl _ _⟩
        simp only [execOp, Act.eval, List.map_toArray, List.map_cons, List.map_nil, e30, f0]
        first | rfl | (go_simp; done) | (go_simp; rfl) | (go_simp; intro h_; exfalso; omega)
      · exact wpOp_unwanted ho (unwanted_if (n := 25) (d := 30) rfl rfl e30 hq_) ⟨_, by rw [if_neg hq_], rfl, Below.refl _ _⟩
    | 29, ho, he =>
      obtain rfl : o_ = ⟨_, _, _, _, _, _⟩ := (Option.some.inj ho).symm
      obtain rfl := Option.some.inj he; clear he
      have e33 : a.tmps.getD 33 undef = if (b1 || b2 || b3) = false then .pointer (some ⟨g, 0, none⟩) else undef := hpre ⟨28, .data⟩ (by simp) rfl _ rfl
      have e30 : a.tmps.getD 30 undef = .bool (b1 || b2 || b3) := hpre ⟨25, .guard⟩ (by simp) rfl _ rfl
      clear hpre hfr
      by_cases hq_ : (b1 || b2 || b3) = false
      · rw [if_pos hq_] at e33
        refine wpOp_value_w (v := .pointer (some ⟨g, 0, none⟩)) ho (wanted_of (n := 25) (d := 30) rfl rfl (by rw [hs]; exact (show 30 < 41 by decide)) (e30.trans (congrArg _ hq_))) ?_ ⟨_, by rw [if_pos hq_], rfl, Below.refl _ _⟩
        simp only [execOp, Act.eval, List.map_toArray, List.map_cons, List.map_nil, e33, e30]
        first | rfl | (go_simp; done) | (go_simp; rfl) | (go_simp; intro h_; exfalso; omega)
      · exact wpOp_unwanted ho (unwanted_if (n := 25) (d := 30) rfl rfl e30 hq_) ⟨_, by rw [if_neg hq_], rfl, Below.refl _ _⟩
    | 30, ho, he =>
      obtain rfl : o_ = ⟨_, _, _, _, _, _⟩ := (Option.some.inj ho).symm
      obtain rfl := Option.some.inj he; clear he
      have e34 : a.tmps.getD 34 undef = if (b1 || b2 || b3) = false then .pointer (some ⟨g, 0, none⟩) else undef := hpre ⟨29, .data⟩ (by simp) rfl _ rfl
      have e30 : a.tmps.getD 30 undef = .bool (b1 || b2 || b3) := hpre ⟨25, .guard⟩ (by simp) rfl _ rfl
      clear hpre hfr
      by_cases hq_ : (b1 || b2 || b3) = false
      · rw [if_pos hq_] at e34
        refine wpOp_value_w (v := .pointer (some ⟨g, 0, none⟩)) ho (wanted_of (n := 25) (d := 30) rfl rfl (by rw [hs]; exact (show 30 < 41 by decide)) (e30.trans (congrArg _ hq_))) ?_ ⟨_, by rw [if_pos hq_], rfl, Below.refl _ _⟩
        simp only [execOp, Act.eval, List.map_toArray, List.map_cons, List.map_nil, e34, e30]
        first | rfl | (go_simp; done) | (go_simp; rfl) | (go_simp; intro h_; exfalso; omega)
      · exact wpOp_unwanted ho (unwanted_if (n := 25) (d := 30) rfl rfl e30 hq_) ⟨_, by rw [if_neg hq_], rfl, Below.refl _ _⟩
    | 31, ho, he =>
      obtain rfl : o_ = ⟨_, _, _, _, _, _⟩ := (Option.some.inj ho).symm
      obtain rfl := Option.some.inj he; clear he
      have e35 : a.tmps.getD 35 undef = if (b1 || b2 || b3) = false then .pointer (some ⟨g, 0, none⟩) else undef := hpre ⟨30, .data⟩ (by simp) rfl _ rfl
      have e30 : a.tmps.getD 30 undef = .bool (b1 || b2 || b3) := hpre ⟨25, .guard⟩ (by simp) rfl _ rfl
      clear hpre hfr
      by_cases hq_ : (b1 || b2 || b3) = false
      · rw [if_pos hq_] at e35
        refine wpOp_value_w (v := .pointer (some ⟨g, 2, none⟩)) ho (wanted_of (n := 25) (d := 30) rfl rfl (by rw [hs]; exact (show 30 < 41 by decide)) (e30.trans (congrArg _ hq_))) ?_ ⟨_, by rw [if_pos hq_], rfl, Below.refl _ _⟩
        simp only [execOp, Act.eval, List.map_toArray, List.map_cons, List.map_nil, e35, e30]
        first | rfl | (go_simp; done) | (go_simp; rfl) | (go_simp; intro h_; exfalso; omega)
      · exact wpOp_unwanted ho (unwanted_if (n := 25) (d := 30) rfl rfl e30 hq_) ⟨_, by rw [if_neg hq_], rfl, Below.refl _ _⟩
    | 32, ho, he =>
      obtain rfl : o_ = ⟨_, _, _, _, _, _⟩ := (Option.some.inj ho).symm
      obtain rfl := Option.some.inj he; clear he
      have e36 : a.tmps.getD 36 undef = if (b1 || b2 || b3) = false then .pointer (some ⟨g, 2, none⟩) else undef := hpre ⟨31, .data⟩ (by simp) rfl _ rfl
      have e30 : a.tmps.getD 30 undef = .bool (b1 || b2 || b3) := hpre ⟨25, .guard⟩ (by simp) rfl _ rfl
      clear hpre hfr
      have k_y2 := (hbl.cell (World.block_lt_of_cell? _ _ y2)).trans y2
      by_cases hq_ : (b1 || b2 || b3) = false
      · rw [if_pos hq_] at e36
        refine wpOp_value_w (v := .int .i64 s2) ho (wanted_of (n := 25) (d := 30) rfl rfl (by rw [hs]; exact (show 30 < 41 by decide)) (e30.trans (congrArg _ hq_))) ?_ ⟨_, by rw [if_pos hq_], rfl, Below.refl _ _⟩
        simp only [execOp, Act.eval, List.map_toArray, List.map_cons, List.map_nil, e36, e30]
        first | rfl | (go_simp; done) | (go_simp; rfl) | (go_simp; intro h_; exfalso; omega)
      · exact wpOp_unwanted ho (unwanted_if (n := 25) (d := 30) rfl rfl e30 hq_) ⟨_, by rw [if_neg hq_], rfl, Below.refl _ _⟩
    | 33, ho, he =>
      obtain rfl : o_ = ⟨_, _, _, _, _, _⟩ := (Option.some.inj ho).symm
      obtain rfl := Option.some.inj he; clear he
      have e32 : a.tmps.getD 32 undef = if (b1 || b2 || b3) = false then .agg #[.int .i64 x.f3.f0, .slice A2 x.f3.f1.length c2] else undef := hpre ⟨27, .data⟩ (by simp) rfl _ rfl
      have e37 : a.tmps.getD 37 undef = if (b1 || b2 || b3) = false then .int .i64 s2 else undef := hpre ⟨32, .data⟩ (by simp) rfl _ rfl
      have e30 : a.tmps.getD 30 undef = .bool (b1 || b2 || b3) := hpre ⟨25, .guard⟩ (by simp) rfl _ rfl
      clear hpre hfr
      by_cases hq_ : (b1 || b2 || b3) = false
      · rw [if_pos hq_] at e32
        rw [if_pos hq_] at e37
        refine wpOp_call_w (fn := Try.f35) ho (wanted_of (n := 25) (d := 30) rfl rfl (by rw [hs]; exact (show 30 < 41 by decide)) (e30.trans (congrArg _ hq_))) rfl rfl rfl #[.agg #[.int .i64 x.f3.f0, .slice A2 x.f3.f1.length c2], .int .i64 s2] rfl (by simp only [List.map_toArray, List.map_cons, List.map_nil, Act.eval, e32, e37]) ?_
        refine (window_Check.calls x.f3.f0 A2 c2 x.f3.f1 s2 cw _ (Kd.C_below HR.out hbl) HC.out I4.out).mono ?_
        rintro e w3 ⟨rfl, hd⟩
        exact ⟨_, rfl, _, rfl, by rw [if_pos hq_], hd⟩
      · exact wpOp_unwanted ho (unwanted_if (n := 25) (d := 30) rfl rfl e30 hq_) ⟨_, by rw [if_neg hq_], rfl, Below.refl _ _⟩
    | 34, ho, he =>
      obtain rfl : o_ = ⟨_, _, _, _, _, _⟩ := (Option.some.inj ho).symm
      obtain rfl := Option.some.inj he; clear he
      have e38 : a.tmps.getD 38 undef = if (b1 || b2 || b3) = false then .int .i64 cw else undef := hpre ⟨33, .data⟩ (by simp) rfl _ rfl
      have e30 : a.tmps.getD 30 undef = .bool (b1 || b2 || b3) := hpre ⟨25, .guard⟩ (by simp) rfl _ rfl
      clear hpre hfr
      by_cases hq_ : (b1 || b2 || b3) = false
      · rw [if_pos hq_] at e38
        refine wpOp_value_w (v := .bool (cw != 0)) ho (wanted_of (n := 25) (d := 30) rfl rfl (by rw [hs]; exact (show 30 < 41 by decide)) (e30.trans (congrArg _ hq_))) ?_ ⟨_, by rw [if_pos hq_], rfl, Below.refl _ _⟩
        simp only [execOp, Act.eval, List.map_toArray, List.map_cons, List.map_nil, e38, e30]
        first | rfl | (go_simp; done) | (go_simp; rfl) | (go_simp; intro h_; exfalso; omega)
      · exact wpOp_unwanted ho (unwanted_if (n := 25) (d := 30) rfl rfl e30 hq_) ⟨_, by rw [if_neg hq_], rfl, Below.refl _ _⟩
    | 35, ho, he =>
      obtain rfl : o_ = ⟨_, _, _, _, _, _⟩ := (Option.some.inj ho).symm
      obtain rfl := Option.some.inj he; clear he
      have e30 : a.tmps.getD 30 undef = .bool (b1 || b2 || b3) := hpre ⟨25, .data⟩ (by simp) rfl _ rfl
      have e39 : a.tmps.getD 39 undef = if (b1 || b2 || b3) = false then .bool (cw != 0) else undef := hpre ⟨34, .data⟩ (by simp) rfl _ rfl
      clear hpre hfr
      by_cases hq_ : (b1 || b2 || b3) = false
      · rw [if_pos hq_] at e39
        refine wpOp_value (v := .bool (b1 || b2 || b3 || cw != 0)) ho rfl ?_ ⟨_, rfl, rfl, Below.refl _ _⟩
        simp only [execOp, Act.eval, List.map_toArray, List.map_cons, List.map_nil, hq_, e30, e39]
        first | rfl | (go_simp; done) | (go_simp; rfl) | (simp [hq_]; done)
      · rw [if_neg hq_] at e39
        replace hq_ : (b1 || b2 || b3) = true := Bool.of_not_eq_false hq_
        refine wpOp_value (v := .bool (b1 || b2 || b3 || cw != 0)) ho rfl ?_ ⟨_, rfl, rfl, Below.refl _ _⟩
        simp only [execOp, Act.eval, List.map_toArray, List.map_cons, List.map_nil, hq_, e30, e39]
        first | rfl | (go_simp; done) | (go_simp; rfl) | (simp [hq_]; done)
    | 36, ho, he => obtain rfl : o_ = ⟨_, _, _, _, _, _⟩ := (Option.some.inj ho).symm; obtain rfl := Option.some.inj he; clear he; have e40 : a.tmps.getD 40 undef = .bool (b1 || b2 || b3 || cw != 0) := hpre ⟨35, .data⟩ (by simp) rfl _ rfl; clear hpre hfr; refine wpOp_value (v := .bool (b1 || b2 || b3 || cw != 0)) ho rfl ?_ ⟨_, rfl, rfl, Below.refl _ _⟩; simp only [execOp, Act.eval, List.map_toArray, List.map_cons, List.map_nil, e40]; first | rfl | (go_simp; done) | (go_simp; rfl) | (go_simp; intro h_; exfalso; omega)
    | n_ + 37, ho, he => simp at he
  case fin =>
    intro xv_ w1_ hbl hx
    simp only [List.forall_mem_cons] at hx
    obtain ⟨x5, x6, x7, x8, x9, x10, x11, x12, x13, x14, x15, x16, x17, x18, x19, x20, x21, x22, x23, x24, x25, x26, x27, x28, x29, x30, x31, x32, x33, x34, x35, x36, x37, x38, x39, x40, x4, _⟩ := hx
    simp only [List.map_cons, List.map_nil, putL, Act.put, List.setIfInBounds_toArray, List.set_cons_zero, List.set_cons_succ, x5, x6, x7, x8, x9, x10, x11, x12, x13, x14, x19, x20, x29, x30, x40, x4]
    clear x5 x6 x7 x8 x9 x10 x11 x12 x13 x14 x15 x16 x17 x18 x19 x20 x21 x22 x23 x24 x25 x26 x27 x28 x29 x30 x31 x32 x33 x34 x35 x36 x37 x38 x39 x40 x4
    go_wp2
    go_ret
    exact ⟨by rw [HE.out]; rfl, below_then HBW.out HBW.out.size hbl⟩
end Go.Proofs.Ythfjgfldmkdlnaa.G
end

section
namespace Go.Proofs.Ythfjgfldmkdlnaa.G
open WB Go.RowKit Go.Proofs.YthfjgfldmkdlnaaW.PrintWords Go.Proofs.YthfjgfldmkdlnaaW.PrintLast Go.Proofs.YthfjgfldmkdlnaaW.PrintMore
attribute [local go_sem] max2_int min2_int max_two min_two max_three min_three max_four min_four   -- for this text's walks alone
set_option linter.unusedVariables false
set_option linter.unusedSimpArgs false
/-- What a test of sessions does: it answers, and keeps what it rests on. -/
structure Tests (l : List S38) (f : FuncId) (fn : Func) (first cap : Array Value) (p : S38 → Bool) (Inv : World → Prop) : Prop where
  hf : Try.prog.funcs[f]? = some fn
  hname : (fn.name == "runtime.NumGoroutine") = false
  hb : fn.body.isSome = true
  keep : ∀ W W', Below W.heap.size W W' → Inv W → Inv W'
  does : ∀ x ∈ l, ∀ (A2 : Option Addr) (c2 : Nat) W, Inv W → x.f3.f1.length ≤ c2 → Kd.C k51 W A2 x.f3.f1.length x.f3.f1 → Calls Try.prog f (first ++ #[.agg #[.int .i64 x.f0, .int .i64 x.f1, .int .i64 x.f2, .int .i64 x.f3.f0, .slice A2 x.f3.f1.length c2]] ++ cap) W fun e w' => e = .returned (.bool (p x)) ∧ Below W.heap.size W w'
set_option maxHeartbeats 2000000 in
set_option maxRecDepth 100000 in
theorem index_sess (B : Option Addr) (c : Nat) (l : List S38) (f : FuncId) (fn : Func) (first cap : Array Value) (p : S38 → Bool) (Inv : World → Prop) (w : World) (ht : Tests l f fn first cap p Inv) (hi : Inv w) (hr : Kd.C k38 w B l.length l) (hc : l.length ≤ c) :
    Calls Try.prog 33 #[.slice B l.length c, .func (.func f) first cap] w fun e w' => e = .returned (.int .i64 (firstP p l)) ∧ Below w.heap.size w w' := by
  have HR := Aside0.mk hr
  have HC := Aside0.mk hc
  have HT := Aside0.mk ht
  have HI := Aside0.mk hi
  have hlen : l.length ≤ 9223372036854775807 := hr.2.1
  clear hr hc ht hi
  go_enter Try.func33, Try.ntmps33
  go_wp2_with fail
  go_loopw [8] (fun v8 wr => ∃ k : Nat, v8 = .int .i64 k ∧ k ≤ l.length ∧ Aside0 (∀ x ∈ l.take k, p x = false) ∧ Aside0 (Below w.heap.size w wr)) (fun v8 _ => l.length - (intOf v8).toNat)
  case atStart => exact ⟨0, rfl, by omega, ⟨by simp⟩, ⟨Below.refl _ _⟩⟩
  case round =>
    obtain ⟨k, rfl, hk, HF, HB⟩ := hrel
    by_cases hlt : k < l.length
    · have b1 : decide ((k : Int) < (l.length : Int)) = true := decide_eq_true (by omega)
      have b1' : decide (k < l.length) = true := decide_eq_true hlt
      obtain ⟨ad, A2, c2, e1, q0, q1, q2, q3, q4, q5, q6⟩ := at_T38 (Kd.C_below HR.out HB.out) (k : Int) (by omega) (by omega)
      simp only [Int.toNat_natCast] at q0 q1 q2 q3 q4
      have hrd : rd_T38 l (k : Int) = l[k] := by simp [rd_T38, List.getElem?_eq_getElem hlt]
      rw [hrd] at q0 q1 q2 q3 q4 q5 q6
      obtain ⟨x, hx⟩ : ∃ x, x = l[k] := ⟨_, rfl⟩
      rw [← hx] at q0 q1 q2 q3 q4 q5 q6
      have Q5 := Aside0.mk q5
      have Q6 := Aside0.mk q6
      have HX : Aside0 (l[k]? = some x) := ⟨by rw [hx]; exact List.getElem?_eq_getElem hlt⟩
      have HM : Aside0 (x ∈ l) := ⟨List.mem_of_getElem? HX.out⟩
      have HIr := Aside0.mk (HT.out.keep _ _ HB.out HI.out)
      subst e1
      clear hrd hx q5 q6
      have he := fun args W => enters_ HT.out.hf HT.out.hname HT.out.hb args W
      by_cases ho : p x = true
      · have HA : Aside0 (firstP p l = (k : Int)) := ⟨firstP_at p l k x HX.out ho HF.out⟩
        go_wp2_with (refine (HT.out.does x HM.out A2 c2 _ HIr.out Q5.out Q6.out).mono ?_; rintro e w1 ⟨rfl, hb⟩; rw [ho]; have HB1 := Aside0.mk hb; clear hb)
        go_ret
        exact ⟨by rw [HA.out]; rfl, below_then HB.out HB.out.size HB1.out⟩
      · have ho' : p x = false := by simpa using ho
        have HF' : Aside0 (∀ y ∈ l.take (k + 1), p y = false) := ⟨fun y hy => by
          rw [List.take_add_one, List.mem_append] at hy
          rcases hy with hy | hy
          · exact HF.out y hy
          · rw [HX.out] at hy
            simp at hy
            rw [hy]; exact ho'⟩
        clear ho
        go_wp2_with (refine (HT.out.does x HM.out A2 c2 _ HIr.out Q5.out Q6.out).mono ?_; rintro e w1 ⟨rfl, hb⟩; rw [ho']; have HB1 := Aside0.mk hb; clear hb)
        go_roundw
        case rel => exact ⟨k + 1, by go_num, by omega, HF', ⟨below_then HB.out HB.out.size HB1.out⟩⟩
        case measure => simp [intOf]; omega
    · have b1 : decide ((k : Int) < (l.length : Int)) = false := decide_eq_false (by omega)
      have b1' : decide (k < l.length) = false := decide_eq_false hlt
      have HE : Aside0 (firstP p l = -1) := ⟨firstP_none p l (by have := HF.out; rwa [List.take_of_length_le (by omega)] at this)⟩
      go_wp2
      go_ret
      exact ⟨by rw [HE.out]; rfl, HB.out⟩
end Go.Proofs.Ythfjgfldmkdlnaa.G
end

section
namespace Go.Proofs.Ythfjgfldmkdlnaa.G
open WB Go.RowKit Go.Proofs.YthfjgfldmkdlnaaW.PrintWords Go.Proofs.YthfjgfldmkdlnaaW.PrintLast Go.Proofs.YthfjgfldmkdlnaaW.PrintMore
attribute [local go_sem] max2_int min2_int max_two min_two max_three min_three max_four min_four   -- for this text's walks alone
set_option linter.unusedVariables false
set_option linter.unusedSimpArgs false
theorem firstP_pos {α : Type} (p : α → Bool) (l : List α) : decide (firstP p l ≥ 0) = l.any p := by
  unfold firstP
  by_cases h : l.any p = true
  · rw [if_pos h, h]; exact decide_eq_true (by omega)
  · rw [if_neg h, Bool.eq_false_iff.2 h]; exact decide_eq_false (by omega)
set_option maxHeartbeats 2000000 in
set_option maxRecDepth 100000 in
theorem contains_sess (B : Option Addr) (c : Nat) (l : List S38) (f : FuncId) (fn : Func) (first cap : Array Value) (p : S38 → Bool) (Inv : World → Prop) (w : World) (ht : Tests l f fn first cap p Inv) (hi : Inv w) (hr : Kd.C k38 w B l.length l) (hc : l.length ≤ c) :
    Calls Try.prog 43 #[.slice B l.length c, .func (.func f) first cap] w fun e w' => e = .returned (.bool (l.any p)) ∧ Below w.heap.size w w' := by
  have HT := Aside0.mk (index_sess B c l f fn first cap p Inv w ht hi hr hc)
  clear ht hi hr hc
  go_enter Try.func43, Try.ntmps43
  go_wp2_with fail
  go_at_call 33
  with_reducible refine HT.out.mono ?_
  rintro e w1 ⟨rfl, hb⟩
  have HB := Aside0.mk hb
  have HE := Aside0.mk (firstP_pos p l)
  clear hb
  go_wp2_with fail
  go_ret
  exact ⟨by rw [← HE.out]; rfl, HB.out⟩
end Go.Proofs.Ythfjgfldmkdlnaa.G
end
