/- SessionOwn: texts of this claim, packed: what the kit's print has written for it and own texts, without what its proof does not reach. -/
import Derived.Test.YthfjgfldmkdlnaaKSessionOwn11
import Derived.Test.YthfjgfldmkdlnaaKSessionOwn12
import Derived.Test.YthfjgfldmkdlnaaKSessionOwn13
import Derived.Test.YthfjgfldmkdlnaaKSessionOwn14
set_option linter.unusedVariables false
set_option linter.unusedSimpArgs false
set_option linter.unusedSectionVars false
section
namespace Go.Proofs.Ythfjgfldmkdlnaa.G
open WB Go.RowKit Go.Proofs.YthfjgfldmkdlnaaW.PrintWords Go.Proofs.YthfjgfldmkdlnaaW.PrintLast Go.Proofs.YthfjgfldmkdlnaaW.PrintMore
attribute [local go_sem] max2_int min2_int max_two min_two max_three min_three max_four min_four   -- for this text's walks alone
set_option linter.unusedVariables false
set_option linter.unusedSimpArgs false
/-- Is a session's lease? -/
def overS (lease tick : Int) (x : S38) : Bool := decide (x.f2 + lease ≤ tick)
set_option maxHeartbeats 4000000 in
set_option maxRecDepth 100000 in
theorem table_over (g : Nat) (s0 s1 s2 next tick : Int) (L : Value) (x : S38) (A2 : Option Addr) (n2 c2 : Nat) (w : World) (hg : w.heap[g]? = some (.cells #[.int .i64 s0, .int .i64 s1, .int .i64 s2, L, .int .i64 next, .int .i64 tick] 76 (0, 0)))
    (h1 : 0 ≤ x.f2 ∧ x.f2 ≤ 1073741824) (h2 : 0 ≤ s1 ∧ s1 ≤ 1048576) :
    Calls Try.prog 37 #[.pointer (some ⟨g, 0, none⟩), .agg #[.int .i64 x.f0, .int .i64 x.f1, .int .i64 x.f2, .int .i64 x.f3.f0, .slice A2 n2 c2]] w fun e w' => e = .returned (.bool (overS s1 tick x)) ∧ Below w.heap.size w w' := by
  have hwn : IntKind.i64.wrap (x.f2 + s1) = x.f2 + s1 := by rw [IntKind.wrap_i64]; omega
  have HBW := Aside0.mk (below_alloc (Below.refl w.heap.size w) (.cells #[.int .i64 x.f0, .int .i64 x.f1, .int .i64 x.f2, .int .i64 x.f3.f0, .slice A2 n2 c2] 38))
  have BX := Aside0.mk (heap_new1 w (.cells #[.int .i64 x.f0, .int .i64 x.f1, .int .i64 x.f2, .int .i64 x.f3.f0, .slice A2 n2 c2] 38))
  have BG := Aside0.mk (blk_alloc hg (.cells #[.int .i64 x.f0, .int .i64 x.f1, .int .i64 x.f2, .int .i64 x.f3.f0, .slice A2 n2 c2] 38))
  clear hg h1 h2
  go_enter Try.func37, Try.ntmps37
  go_wp2_with fail
  obtain ⟨W0, hW0⟩ : ∃ W, W = w.alloc (.cells #[.int .i64 x.f0, .int .i64 x.f1, .int .i64 x.f2, .int .i64 x.f3.f0, .slice A2 n2 c2] 38) := ⟨_, rfl⟩
  rw [← hW0] at HBW BX BG ⊢
  clear hW0
  have x2 : W0.cell? ⟨w.heap.size, 2, none⟩ = some (.int .i64 x.f2) := (blk_cell BX.out 2).trans rfl
  have y1 : W0.cell? ⟨g, 1, none⟩ = some (.int .i64 s1) := (blk_cell BG.out 1).trans rfl
  have y5 : W0.cell? ⟨g, 5, none⟩ = some (.int .i64 tick) := (blk_cell BG.out 5).trans rfl
  refine region_facts (B := _) (w0 := _) [(5, (fun v _ => v = .pointer (some ⟨w.heap.size, 2, none⟩))), (6, (fun v _ => v = .int .i64 x.f2)), (7, (fun v _ => v = .pointer (some ⟨g, 0, none⟩))), (8, (fun v _ => v = .pointer (some ⟨g, 0, none⟩))), (9, (fun v _ => v = .pointer (some ⟨g, 0, none⟩))), (10, (fun v _ => v = .pointer (some ⟨g, 1, none⟩))), (11, (fun v _ => v = .int .i64 s1)), (12, (fun v _ => v = .int .i64 (x.f2 + s1))), (13, (fun v _ => v = .pointer (some ⟨g, 0, none⟩))), (14, (fun v _ => v = .pointer (some ⟨g, 0, none⟩))), (15, (fun v _ => v = .pointer (some ⟨g, 5, none⟩))), (16, (fun v _ => v = .int .i64 tick)), (17, (fun v _ => v = .bool (decide (x.f2 + s1 ≤ tick)))), (4, (fun v _ => v = .bool (decide (x.f2 + s1 ≤ tick))))] (by kernel_rfl) (by kernel_rfl) (by rfl) (show ([5, 6, 7, 8, 9, 10, 11, 12, 13, 14, 15, 16, 17, 4] : List Nat).Nodup by decide) ?hsz ?hst (Below.refl _ _) (Nat.le_refl _) ?step ?fin
  case hsz => exact List.forall_mem_cons.2 ⟨(show 5 < 18 by decide), List.forall_mem_cons.2 ⟨(show 6 < 18 by decide), List.forall_mem_cons.2 ⟨(show 7 < 18 by decide), List.forall_mem_cons.2 ⟨(show 8 < 18 by decide), List.forall_mem_cons.2 ⟨(show 9 < 18 by decide), List.forall_mem_cons.2 ⟨(show 10 < 18 by decide), List.forall_mem_cons.2 ⟨(show 11 < 18 by decide), List.forall_mem_cons.2 ⟨(show 12 < 18 by decide), List.forall_mem_cons.2 ⟨(show 13 < 18 by decide), List.forall_mem_cons.2 ⟨(show 14 < 18 by decide), List.forall_mem_cons.2 ⟨(show 15 < 18 by decide), List.forall_mem_cons.2 ⟨(show 16 < 18 by decide), List.forall_mem_cons.2 ⟨(show 17 < 18 by decide), List.forall_mem_cons.2 ⟨(show 4 < 18 by decide), fun _ h => nomatch h⟩⟩⟩⟩⟩⟩⟩⟩⟩⟩⟩⟩⟩⟩
  case hst => exact List.forall_mem_cons.2 ⟨(fun v w1 w2 hb h => h), List.forall_mem_cons.2 ⟨(fun v w1 w2 hb h => h), List.forall_mem_cons.2 ⟨(fun v w1 w2 hb h => h), List.forall_mem_cons.2 ⟨(fun v w1 w2 hb h => h), List.forall_mem_cons.2 ⟨(fun v w1 w2 hb h => h), List.forall_mem_cons.2 ⟨(fun v w1 w2 hb h => h), List.forall_mem_cons.2 ⟨(fun v w1 w2 hb h => h), List.forall_mem_cons.2 ⟨(fun v w1 w2 hb h => h), List.forall_mem_cons.2 ⟨(fun v w1 w2 hb h => h), List.forall_mem_cons.2 ⟨(fun v w1 w2 hb h => h), List.forall_mem_cons.2 ⟨(fun v w1 w2 hb h => h), List.forall_mem_cons.2 ⟨(fun v w1 w2 hb h => h), List.forall_mem_cons.2 ⟨(fun v w1 w2 hb h => h), List.forall_mem_cons.2 ⟨(fun v w1 w2 hb h => h), fun _ h => nomatch h⟩⟩⟩⟩⟩⟩⟩⟩⟩⟩⟩⟩⟩⟩
  case step =>
    intro i_ o_ e_ ho he a w1_ hs hdf hfr hbl hbs hpre
    match i_, ho, he with
    | 0, ho, he => obtain rfl : o_ = ⟨_, _, _, _, _, _⟩ := (Option.some.inj ho).symm; obtain rfl := Option.some.inj he; clear he; have f3 : a.tmps.getD 3 undef = .pointer (some ⟨w.heap.size, 0, none⟩) := (by rw [Array.getD_eq_getD_getElem?, hfr 3 (show ¬ 3 ∈ ([5, 6, 7, 8, 9, 10, 11, 12, 13, 14, 15, 16, 17, 4] : List Nat) by decide)]; rfl); clear hpre hfr; refine wpOp_value (v := .pointer (some ⟨w.heap.size, 2, none⟩)) ho rfl ?_ ⟨_, rfl, rfl, Below.refl _ _⟩; simp only [execOp, Act.eval, List.map_toArray, List.map_cons, List.map_nil, f3]; first | rfl | (go_simp; done) | (go_simp; rfl) | (go_simp; intro h_; exfalso; omega)
    | 1, ho, he => obtain rfl : o_ = ⟨_, _, _, _, _, _⟩ := (Option.some.inj ho).symm; obtain rfl := Option.some.inj he; clear he; have e5 : a.tmps.getD 5 undef = .pointer (some ⟨w.heap.size, 2, none⟩) := hpre ⟨0, .data⟩ (by simp) rfl _ rfl; clear hpre hfr; have k_x2 := (hbl.cell (World.block_lt_of_cell? _ _ x2)).trans x2; refine wpOp_value (v := .int .i64 x.f2) ho rfl ?_ ⟨_, rfl, rfl, Below.refl _ _⟩; simp only [execOp, Act.eval, List.map_toArray, List.map_cons, List.map_nil, e5]; first | rfl | (go_simp; done) | (go_simp; rfl) | (go_simp; intro h_; exfalso; omega)
    | 2, ho, he => obtain rfl : o_ = ⟨_, _, _, _, _, _⟩ := (Option.some.inj ho).symm; obtain rfl := Option.some.inj he; clear he; have f0 : a.tmps.getD 0 undef = .pointer (some ⟨g, 0, none⟩) := (by rw [Array.getD_eq_getD_getElem?, hfr 0 (show ¬ 0 ∈ ([5, 6, 7, 8, 9, 10, 11, 12, 13, 14, 15, 16, 17, 4] : List Nat) by decide)]; rfl); clear hpre hfr; refine wpOp_value (v := .pointer (some ⟨g, 0, none⟩)) ho rfl ?_ ⟨_, rfl, rfl, Below.refl _ _⟩; simp only [execOp, Act.eval, List.map_toArray, List.map_cons, List.map_nil, f0]; first | rfl | (go_simp; done) | (go_simp; rfl) | (go_simp; intro h_; exfalso; omega)
    | 3, ho, he => obtain rfl : o_ = ⟨_, _, _, _, _, _⟩ := (Option.some.inj ho).symm; obtain rfl := Option.some.inj he; clear he; have e7 : a.tmps.getD 7 undef = .pointer (some ⟨g, 0, none⟩) := hpre ⟨2, .data⟩ (by simp) rfl _ rfl; clear hpre hfr; refine wpOp_value (v := .pointer (some ⟨g, 0, none⟩)) ho rfl ?_ ⟨_, rfl, rfl, Below.refl _ _⟩; simp only [execOp, Act.eval, List.map_toArray, List.map_cons, List.map_nil, e7]; first | rfl | (go_simp; done) | (go_simp; rfl) | (go_simp; intro h_; exfalso; omega)
    | 4, ho, he => obtain rfl : o_ = ⟨_, _, _, _, _, _⟩ := (Option.some.inj ho).symm; obtain rfl := Option.some.inj he; clear he; have e8 : a.tmps.getD 8 undef = .pointer (some ⟨g, 0, none⟩) := hpre ⟨3, .data⟩ (by simp) rfl _ rfl; clear hpre hfr; refine wpOp_value (v := .pointer (some ⟨g, 0, none⟩)) ho rfl ?_ ⟨_, rfl, rfl, Below.refl _ _⟩; simp only [execOp, Act.eval, List.map_toArray, List.map_cons, List.map_nil, e8]; first | rfl | (go_simp; done) | (go_simp; rfl) | (go_simp; intro h_; exfalso; omega)
    | 5, ho, he => obtain rfl : o_ = ⟨_, _, _, _, _, _⟩ := (Option.some.inj ho).symm; obtain rfl := Option.some.inj he; clear he; have e9 : a.tmps.getD 9 undef = .pointer (some ⟨g, 0, none⟩) := hpre ⟨4, .data⟩ (by simp) rfl _ rfl; clear hpre hfr; refine wpOp_value (v := .pointer (some ⟨g, 1, none⟩)) ho rfl ?_ ⟨_, rfl, rfl, Below.refl _ _⟩; simp only [execOp, Act.eval, List.map_toArray, List.map_cons, List.map_nil, e9]; first | rfl | (go_simp; done) | (go_simp; rfl) | (go_simp; intro h_; exfalso; omega)
    | 6, ho, he => obtain rfl : o_ = ⟨_, _, _, _, _, _⟩ := (Option.some.inj ho).symm; obtain rfl := Option.some.inj he; clear he; have e10 : a.tmps.getD 10 undef = .pointer (some ⟨g, 1, none⟩) := hpre ⟨5, .data⟩ (by simp) rfl _ rfl; clear hpre hfr; have k_y1 := (hbl.cell (World.block_lt_of_cell? _ _ y1)).trans y1; refine wpOp_value (v := .int .i64 s1) ho rfl ?_ ⟨_, rfl, rfl, Below.refl _ _⟩; simp only [execOp, Act.eval, List.map_toArray, List.map_cons, List.map_nil, e10]; first | rfl | (go_simp; done) | (go_simp; rfl) | (go_simp; intro h_; exfalso; omega)
    | 7, ho, he => obtain rfl : o_ = ⟨_, _, _, _, _, _⟩ := (Option.some.inj ho).symm; obtain rfl := Option.some.inj he; clear he; have e6 : a.tmps.getD 6 undef = .int .i64 x.f2 := hpre ⟨1, .data⟩ (by simp) rfl _ rfl; have e11 : a.tmps.getD 11 undef = .int .i64 s1 := hpre ⟨6, .data⟩ (by simp) rfl _ rfl; clear hpre hfr; refine wpOp_value (v := .int .i64 (x.f2 + s1)) ho rfl ?_ ⟨_, rfl, rfl, Below.refl _ _⟩; simp only [execOp, Act.eval, List.map_toArray, List.map_cons, List.map_nil, e6, e11]; first | rfl | (go_simp; done) | (go_simp; rfl) | (go_simp; intro h_; exfalso; omega)
    | 8, ho, he => obtain rfl : o_ = ⟨_, _, _, _, _, _⟩ := (Option.some.inj ho).symm; obtain rfl := Option.some.inj he; clear he; have f0 : a.tmps.getD 0 undef = .pointer (some ⟨g, 0, none⟩) := (by rw [Array.getD_eq_getD_getElem?, hfr 0 (show ¬ 0 ∈ ([5, 6, 7, 8, 9, 10, 11, 12, 13, 14, 15, 16, 17, 4] : List Nat) by decide)]; rfl); clear hpre hfr; refine wpOp_value (v := .pointer (some ⟨g, 0, none⟩)) ho rfl ?_ ⟨_, rfl, rfl, Below.refl _ _⟩; simp only [execOp, Act.eval, List.map_toArray, List.map_cons, List.map_nil, f0]; first | rfl | (go_simp; done) | (go_simp; rfl) | (go_simp; intro h_; exfalso; omega)
    | 9, ho, he => obtain rfl : o_ = ⟨_, _, _, _, _, _⟩ := (Option.some.inj ho).symm; obtain rfl := Option.some.inj he; clear he; have e13 : a.tmps.getD 13 undef = .pointer (some ⟨g, 0, none⟩) := hpre ⟨8, .data⟩ (by simp) rfl _ rfl; clear hpre hfr; refine wpOp_value (v := .pointer (some ⟨g, 0, none⟩)) ho rfl ?_ ⟨_, rfl, rfl, Below.refl _ _⟩; simp only [execOp, Act.eval, List.map_toArray, List.map_cons, List.map_nil, e13]; first | rfl | (go_simp; done) | (go_simp; rfl) | (go_simp; intro h_; exfalso; omega)
    | 10, ho, he => obtain rfl : o_ = ⟨_, _, _, _, _, _⟩ := (Option.some.inj ho).symm; obtain rfl := Option.some.inj he; clear he; have e14 : a.tmps.getD 14 undef = .pointer (some ⟨g, 0, none⟩) := hpre ⟨9, .data⟩ (by simp) rfl _ rfl; clear hpre hfr; refine wpOp_value (v := .pointer (some ⟨g, 5, none⟩)) ho rfl ?_ ⟨_, rfl, rfl, Below.refl _ _⟩; simp only [execOp, Act.eval, List.map_toArray, List.map_cons, List.map_nil, e14]; first | rfl | (go_simp; done) | (go_simp; rfl) | (go_simp; intro h_; exfalso; omega)
    | 11, ho, he => obtain rfl : o_ = ⟨_, _, _, _, _, _⟩ := (Option.some.inj ho).symm; obtain rfl := Option.some.inj he; clear he; have e15 : a.tmps.getD 15 undef = .pointer (some ⟨g, 5, none⟩) := hpre ⟨10, .data⟩ (by simp) rfl _ rfl; clear hpre hfr; have k_y5 := (hbl.cell (World.block_lt_of_cell? _ _ y5)).trans y5; refine wpOp_value (v := .int .i64 tick) ho rfl ?_ ⟨_, rfl, rfl, Below.refl _ _⟩; simp only [execOp, Act.eval, List.map_toArray, List.map_cons, List.map_nil, e15]; first | rfl | (go_simp; done) | (go_simp; rfl) | (go_simp; intro h_; exfalso; omega)
    | 12, ho, he => obtain rfl : o_ = ⟨_, _, _, _, _, _⟩ := (Option.some.inj ho).symm; obtain rfl := Option.some.inj he; clear he; have e12 : a.tmps.getD 12 undef = .int .i64 (x.f2 + s1) := hpre ⟨7, .data⟩ (by simp) rfl _ rfl; have e16 : a.tmps.getD 16 undef = .int .i64 tick := hpre ⟨11, .data⟩ (by simp) rfl _ rfl; clear hpre hfr; refine wpOp_value (v := .bool (decide (x.f2 + s1 ≤ tick))) ho rfl ?_ ⟨_, rfl, rfl, Below.refl _ _⟩; simp only [execOp, Act.eval, List.map_toArray, List.map_cons, List.map_nil, e12, e16]; first | rfl | (go_simp; done) | (go_simp; rfl) | (go_simp; intro h_; exfalso; omega)
    | 13, ho, he => obtain rfl : o_ = ⟨_, _, _, _, _, _⟩ := (Option.some.inj ho).symm; obtain rfl := Option.some.inj he; clear he; have e17 : a.tmps.getD 17 undef = .bool (decide (x.f2 + s1 ≤ tick)) := hpre ⟨12, .data⟩ (by simp) rfl _ rfl; clear hpre hfr; refine wpOp_value (v := .bool (decide (x.f2 + s1 ≤ tick))) ho rfl ?_ ⟨_, rfl, rfl, Below.refl _ _⟩; simp only [execOp, Act.eval, List.map_toArray, List.map_cons, List.map_nil, e17]; first | rfl | (go_simp; done) | (go_simp; rfl) | (go_simp; intro h_; exfalso; omega)
    | n_ + 14, ho, he => simp at he
  case fin =>
    intro xv_ w1_ hbl hx
    simp only [List.forall_mem_cons] at hx
    obtain ⟨x5, x6, x7, x8, x9, x10, x11, x12, x13, x14, x15, x16, x17, x4, _⟩ := hx
    simp only [List.map_cons, List.map_nil, putL, Act.put, List.setIfInBounds_toArray, List.set_cons_zero, List.set_cons_succ, x5, x6, x7, x8, x9, x10, x11, x12, x13, x14, x15, x16, x17, x4]
    clear x5 x6 x7 x8 x9 x10 x11 x12 x13 x14 x15 x16 x17 x4
    go_wp2
    go_ret
    exact ⟨rfl, below_then HBW.out HBW.out.size hbl⟩
end Go.Proofs.Ythfjgfldmkdlnaa.G
end

section
namespace Go.Proofs.Ythfjgfldmkdlnaa.G
open WB Go.RowKit Go.Proofs.YthfjgfldmkdlnaaW.PrintWords Go.Proofs.YthfjgfldmkdlnaaW.PrintLast Go.Proofs.YthfjgfldmkdlnaaW.PrintMore
attribute [local go_sem] max2_int min2_int max_two min_two max_three min_three max_four min_four   -- for this text's walks alone
set_option linter.unusedVariables false
set_option linter.unusedSimpArgs false
structure DelS (w : World) (base g n c : Nat) (p : S38 → Bool) (l : List S38) (rows : List (List Value)) (i j : Nat) (rt : List (List Value)) (wr : World) : Prop where
  len : rt.length = n
  raw : (Kd.raw 5).R 38 wr base (fun _ => True) (.slice (some ⟨g, 0, none⟩) n c) rt
  rest : ∀ q, j ≤ q → rt[q]? = rows[q]?
  kept : rt.take i = keepP p (l.take j) (rows.take j)
  at_ : i = (keepP p (l.take j) (rows.take j)).length
  grown : w.grownBy wr (some g)
set_option maxHeartbeats 4000000 in
set_option maxRecDepth 100000 in
theorem delete_sess (A : Option Addr) (c : Nat) (l : List S38) (f : FuncId) (fn : Func) (first cap : Array Value) (p : S38 → Bool) (Inv : World → Prop) (base : Nat) (w : World) (ht : Tests l f fn first cap p Inv) (hi : Inv w) (hR : Kd.R k38 38 w base (fun _ => True) (.slice A l.length c) l) (hsm : l.length < 1000000) (hst : ∀ W W', W.grownBy W' (Value.slice A l.length c).ownBlock → Inv W → Inv W') :
    Calls Try.prog 38 #[.slice A l.length c, .func (.func f) first cap] w
      fun e w' => e = .returned (.slice A (l.filter fun x => !p x).length c) ∧ Kd.R k38 38 w' base (fun _ => True) (.slice A (l.filter fun x => !p x).length c) (l.filter fun x => !p x) ∧ w.grownBy w' (Value.slice A l.length c).ownBlock := by
  have HRD := Aside0.mk hR
  obtain ⟨rows, hl, hraw, hM⟩ := raw_of_R hR
  have hC := (Kd.R_reads' hR).2
  have HIX := Aside0.mk (index_sess A c l f fn first cap p Inv w ht hi hC.2 hC.1)
  have HCN := Aside0.mk hC.1
  have HR : Aside0 ((Kd.raw 5).R 38 w base (fun _ => True) (.slice A l.length c) rows) := ⟨hraw⟩
  have HL := Aside0.mk hl
  have HD := Aside0.mk hM
  have HT := Aside0.mk ht
  have HI0 := Aside0.mk hi
  have HSM := Aside0.mk hsm
  have HST := Aside0.mk hst
  clear hR hl hraw hM hC ht hi hst
  go_enter Try.func38, Try.ntmps38
  go_wp2_with fail
  go_at_call 33
  with_reducible refine HIX.out.mono ?_
  rintro e w1 ⟨rfl, hb⟩
  have HB1 := Aside0.mk hb
  clear hb
  by_cases hany : l.any p = true
  · obtain ⟨k0, hk0, hp0, hn0, hf0⟩ : ∃ (k0 : Nat) (hk : k0 < l.length), p l[k0] = true ∧ (∀ x ∈ l.take k0, p x = false) ∧ firstP p l = (k0 : Int) := by
      refine ⟨l.findIdx p, List.findIdx_lt_length_of_exists (by simpa [List.any_eq_true] using hany), ?_, ?_, ?_⟩
      · exact List.findIdx_getElem
      · intro x hx
        obtain ⟨j, hj, rfl⟩ := List.mem_take_iff_getElem.1 hx
        have := List.not_of_lt_findIdx (p := p) (xs := l) (i := j) (by omega)
        simpa using this
      · unfold firstP; rw [if_pos hany]
    rw [hf0]
    obtain ⟨g, rfl⟩ : ∃ g, A = some ⟨g, 0, none⟩ := by
      rcases A with _ | ad
      · obtain ⟨A, c, he, _, hC⟩ := Kd.R_reads HR.out
        rw [HL.out] at he hC
        obtain ⟨ad, h1, _⟩ := hC.2.2 (by omega)
        injection he with he
        rw [h1] at he
        cases he
      · obtain ⟨g, rfl⟩ := Kd.R_head HR.out
        exact ⟨g, rfl⟩
    have HI1 : Aside0 (DelS w base g l.length c p l rows k0 (k0 + 1) rows w1) := ⟨by
      have e1 := keepP_none p l rows HL.out k0 (by omega) (fun q d hq hd => hn0 d (List.mem_take_iff_getElem.2 ⟨q, by have := (List.getElem?_eq_some_iff.1 hd).1; omega, (List.getElem?_eq_some_iff.1 hd).2⟩))
      have e2 := keepP_step p l rows k0 _ _ (List.getElem?_eq_getElem hk0) (List.getElem?_eq_getElem (show k0 < rows.length by rw [HL.out]; exact hk0))
      rw [if_pos hp0, List.append_nil, e1] at e2
      exact ⟨HL.out, Kd.R_below HR.out HB1.out, fun q _ => rfl, e2.symm, by rw [e2, List.length_take, HL.out]; omega, grown_of_below HB1.out _⟩⟩
    have hneg : ((k0 : Int) == -1) = false := beq_eq_false_iff_ne.2 (by omega)
    clear hn0 hp0 hf0 hany
    go_wp2_with fail
    go_loopw [5, 6] (fun v5 v6 wr => ∃ (i j : Nat) (rt : List (List Value)), v5 = .int .i64 i ∧ v6 = .int .i64 j ∧ i < j ∧ j ≤ l.length ∧ Aside0 (DelS w base g l.length c p l rows i j rt wr)) (fun _ v6 _ => l.length - (intOf v6).toNat)
    case atStart => exact ⟨k0, k0 + 1, rows, rfl, by go_num, by omega, by omega, HI1⟩
    case round =>
      obtain ⟨i, j, rt, rfl, rfl, hij, hj, HI⟩ := hrel
      by_cases hlt : j < l.length
      · have b1 : decide ((j : Int) < (l.length : Int)) = true := decide_eq_true (by omega)
        have b1' : decide (j < l.length) = true := decide_eq_true hlt
        obtain ⟨cs, hc1, hc2, hc3, hc4⟩ := Kd.R_elem HI.out.raw [] (j : Int) (by omega) (by omega)
        have hrk : rows[j]? = some cs := by
          have h5 : cs = rt.getD j [] := hc2.1
          rw [← HI.out.rest j (Nat.le_refl _), h5, List.getD_eq_getElem?_getD, List.getElem?_eq_getElem (by rw [HI.out.len]; exact hlt)]
          rfl
        obtain ⟨x, hx⟩ : ∃ x, l[j]? = some x := ⟨_, List.getElem?_eq_getElem hlt⟩
        have hMx := Kd.M_grown (HD.out j x cs hx hrk) HI.out.grown (fun q hq => hq.2)
        obtain ⟨A2, c2, rfl, l2, g2⟩ := k38_open (k38.K_of_M hMx)
        have q0 : wr.cell? ⟨g, j * 5, none⟩ = some (.int .i64 x.f0) := hc3 0 _ rfl
        have q1 : wr.cell? ⟨g, j * 5 + 1, none⟩ = some (.int .i64 x.f1) := hc3 1 _ rfl
        have q2 : wr.cell? ⟨g, j * 5 + 2, none⟩ = some (.int .i64 x.f2) := hc3 2 _ rfl
        have q3 : wr.cell? ⟨g, j * 5 + 3, none⟩ = some (.int .i64 x.f3.f0) := hc3 3 _ rfl
        have q4 : wr.cell? ⟨g, j * 5 + 4, none⟩ = some (.slice A2 x.f3.f1.length c2) := hc3 4 _ rfl
        have HIr := Aside0.mk (HT.out.keep _ _ (below_alloc (Below.refl wr.heap.size wr) (.cells #[.int .i64 x.f0, .int .i64 x.f1, .int .i64 x.f2, .int .i64 x.f3.f0, .slice A2 x.f3.f1.length c2] 38)) (HST.out _ _ HI.out.grown HI0.out))
        have HSTP := Aside0.mk (keepP_step p l rows j x _ hx hrk)
        have HX : Aside0 (x ∈ l) := ⟨List.mem_of_getElem? hx⟩
        have L2 := Aside0.mk l2
        have G2 := Aside0.mk (Kd.C_alloc g2 (.cells #[.int .i64 x.f0, .int .i64 x.f1, .int .i64 x.f2, .int .i64 x.f3.f0, .slice A2 x.f3.f1.length c2] 38))
        have he := fun args W => enters_ HT.out.hf HT.out.hname HT.out.hb args W
        have hgl : g < wr.heap.size := Kd.R_lt HI.out.raw g (by simp [Value.ownBlock])
        have hgn : g ≠ wr.heap.size := by omega
        have hgn' : wr.heap.size ≠ g := by omega
        clear hc1 hc2 hc3 hc4 hx hrk hMx l2 g2
        by_cases ho : p x = true
        · go_wp2_with (refine (HT.out.does x HX.out A2 c2 _ HIr.out L2.out G2.out).mono ?_; rintro e w2 ⟨rfl, hb⟩; rw [ho]; have HB2 := Aside0.mk (below_then (below_alloc (Below.refl wr.heap.size wr) _) (by simp) hb); clear hb)
          go_roundw
          case rel =>
            refine ⟨i, j + 1, rt, rfl, by go_num, by omega, by omega, ⟨?_⟩⟩
            have h6 := HSTP.out
            rw [if_pos ho, List.append_nil] at h6
            exact ⟨HI.out.len, Kd.R_below HI.out.raw HB2.out, fun q hq => HI.out.rest q (by omega), by rw [h6]; exact HI.out.kept, by rw [h6]; exact HI.out.at_, grown_trans HI.out.grown (grown_of_below HB2.out _)⟩
          case measure => simp [intOf]; omega
        · have ho' : p x = false := Bool.of_not_eq_true ho
          obtain ⟨ds, hd1, hd2, hd3, hd4⟩ := Kd.R_elem HI.out.raw [] (i : Int) (by omega) (by omega)
          obtain ⟨u0, u1, u2, u3, u4, rfl⟩ : ∃ u0 u1 u2 u3 u4, ds = [u0, u1, u2, u3, u4] := by
            match ds, hd1 with
            | [u0, u1, u2, u3, u4], _ => exact ⟨u0, u1, u2, u3, u4, rfl⟩
          have p0 : wr.cell? ⟨g, i * 5, none⟩ = some u0 := hd3 0 _ rfl
          have p1 : wr.cell? ⟨g, i * 5 + 1, none⟩ = some u1 := hd3 1 _ rfl
          have p2 : wr.cell? ⟨g, i * 5 + 2, none⟩ = some u2 := hd3 2 _ rfl
          have p3 : wr.cell? ⟨g, i * 5 + 3, none⟩ = some u3 := hd3 3 _ rfl
          have p4 : wr.cell? ⟨g, i * 5 + 4, none⟩ = some u4 := hd3 4 _ rfl
          clear hd1 hd2 hd3 hd4
          go_wp2_with (refine (HT.out.does x HX.out A2 c2 _ HIr.out L2.out G2.out).mono ?_; rintro e w2 ⟨rfl, hb⟩; rw [ho']; have HB2 := Aside0.mk (below_then (below_alloc (Below.refl wr.heap.size wr) _) (by simp) hb); have x0 : w2.cell? ⟨wr.heap.size, 0, none⟩ = some (.int .i64 x.f0) := (hb.cell (p := ⟨wr.heap.size, 0, none⟩) (by simp)).trans (cell_in1 _ _ _ 0); have x1 : w2.cell? ⟨wr.heap.size, 1, none⟩ = some (.int .i64 x.f1) := (hb.cell (p := ⟨wr.heap.size, 1, none⟩) (by simp)).trans (cell_in1 _ _ _ 1); have x2 : w2.cell? ⟨wr.heap.size, 2, none⟩ = some (.int .i64 x.f2) := (hb.cell (p := ⟨wr.heap.size, 2, none⟩) (by simp)).trans (cell_in1 _ _ _ 2); have x3 : w2.cell? ⟨wr.heap.size, 3, none⟩ = some (.int .i64 x.f3.f0) := (hb.cell (p := ⟨wr.heap.size, 3, none⟩) (by simp)).trans (cell_in1 _ _ _ 3); have x4 : w2.cell? ⟨wr.heap.size, 4, none⟩ = some (.slice A2 x.f3.f1.length c2) := (hb.cell (p := ⟨wr.heap.size, 4, none⟩) (by simp)).trans (cell_in1 _ _ _ 4); have y0 := (HB2.out.cell (p := ⟨g, i * 5, none⟩) hgl).trans p0; have y1 := (HB2.out.cell (p := ⟨g, i * 5 + 1, none⟩) hgl).trans p1; have y2 := (HB2.out.cell (p := ⟨g, i * 5 + 2, none⟩) hgl).trans p2; have y3 := (HB2.out.cell (p := ⟨g, i * 5 + 3, none⟩) hgl).trans p3; have y4 := (HB2.out.cell (p := ⟨g, i * 5 + 4, none⟩) hgl).trans p4; obtain ⟨cz, hz1, hz2, hz3, hz4⟩ := Kd.R_elem (Kd.R_below HI.out.raw HB2.out) [] (i : Int) (by omega) (by omega); have z0 : w2.frozen? ⟨g, i * 5, none⟩ = false := hz4 0; have z1 : w2.frozen? ⟨g, i * 5 + 1, none⟩ = false := hz4 1; have z2 : w2.frozen? ⟨g, i * 5 + 2, none⟩ = false := hz4 2; have z3 : w2.frozen? ⟨g, i * 5 + 3, none⟩ = false := hz4 3; have z4 : w2.frozen? ⟨g, i * 5 + 4, none⟩ = false := hz4 4; clear hb hz1 hz2 hz3 hz4)
          go_roundw
          case rel =>
            refine ⟨i + 1, j + 1, rt.set i [.int .i64 x.f0, .int .i64 x.f1, .int .i64 x.f2, .int .i64 x.f3.f0, .slice A2 x.f3.f1.length c2], by go_num, by go_num, by omega, by omega, ⟨?_⟩⟩
            have h6 := HSTP.out
            rw [if_neg ho] at h6
            have RW2 := Kd.R_below HI.out.raw HB2.out
            obtain ⟨csz, hz1, _, hz3, _⟩ := Kd.R_elem RW2 [] (i : Int) (by omega) (by omega)
            obtain ⟨hraw, hgr⟩ := Kd.R_seg RW2 (i : Int) (by omega) (by omega) (c := csz) (seg := [.int .i64 x.f0, .int .i64 x.f1, .int .i64 x.f2, .int .i64 x.f3.f0, .slice A2 x.f3.f1.length c2]) (j := 0) (x' := [.int .i64 x.f0, .int .i64 x.f1, .int .i64 x.f2, .int .i64 x.f3.f0, .slice A2 x.f3.f1.length c2]) (okp := fun _ => False) hz1 hz3 (by show 0 + 5 ≤ 5; omega) (by
              have h6 : csz.drop (0 + [Value.int .i64 x.f0, .int .i64 x.f1, .int .i64 x.f2, .int .i64 x.f3.f0, .slice A2 x.f3.f1.length c2].length) = [] := List.drop_of_length_le (by rw [hz1]; exact Nat.le_refl _)
              rw [h6, List.take_zero]
              refine ⟨rfl, rfl, ?_⟩
              intro u hu
              simp at hu
              rcases hu with rfl | rfl | rfl | rfl | rfl <;> rfl) (fun _ hk => hk.elim)
            have hil : i < rt.length := by rw [HI.out.len]; omega
            refine ⟨by rw [List.length_set]; exact HI.out.len, hraw, fun q hq => ?_, ?_, by rw [h6, List.length_append, ← HI.out.at_]; rfl, grown_trans (grown_trans HI.out.grown (grown_of_below HB2.out _)) hgr⟩
            · show (rt.set (i : Int).toNat _)[q]? = _
              rw [List.getElem?_set_ne (by omega)]
              exact HI.out.rest q (by omega)
            · rw [h6, List.take_succ_eq_append_getElem (by rw [List.length_set]; exact hil), List.take_set_of_le (Nat.le_refl _), HI.out.kept, List.getElem_set_self]
          case measure => simp [intOf]; omega
      · have b1 : decide ((j : Int) < (l.length : Int)) = false := decide_eq_false (by omega)
        have b1' : decide (j < l.length) = false := decide_eq_false hlt
        have hKR : keepP p l rows = keepP p (l.take j) (rows.take j) := by
          rw [List.take_of_length_le (by omega), List.take_of_length_le (by rw [HL.out]; omega)]
        have hcn := HCN.out
        have hcell : ∀ q, q < (l.length - i) * 5 → (wr.cell? ⟨g, i * 5 + q, none⟩).isSome = true ∧ wr.frozen? ⟨g, i * 5 + q, none⟩ = false := fun q hq => by
          obtain ⟨cs, hc1, _, hc3, hc4⟩ := Kd.R_elem HI.out.raw [] ((i + q / 5 : Nat) : Int) (by omega) (by omega)
          have hc1' : cs.length = 5 := hc1
          have h7 := hc3 (q % 5) _ (List.getElem?_eq_getElem (by omega))
          have h8 := hc4 (q % 5)
          have e7 : ((i + q / 5 : Nat) : Int).toNat * (Kd.raw 5).sz + q % 5 = i * 5 + q := by
            show (((i + q / 5 : Nat) : Int).toNat) * 5 + q % 5 = i * 5 + q
            rw [Int.toNat_natCast]
            omega
          rw [e7] at h7 h8
          exact ⟨by rw [h7]; rfl, h8⟩
        have hzero : ∀ W, (zeroValue 38).run Try.prog W = .ok (.agg #[.int .i64 0, .int .i64 0, .int .i64 0, .int .i64 0, .slice none 0 0]) W := fun W => by kernel_rfl
        have hone : ∀ u ∈ (Value.agg #[.int .i64 0, .int .i64 0, .int .i64 0, .int .i64 0, .slice none 0 0]).cells.toList, u.oneCell' = true := by
          intro u hu
          have hu' : u ∈ [Value.int .i64 0, .int .i64 0, .int .i64 0, .int .i64 0, .slice none 0 0] := hu
          simp at hu'
          rcases hu' with rfl | rfl <;> rfl
        have hcl : ∀ ty, (Builtin.clear_ #[22] ty #[.slice (some ⟨g, i * 5, none⟩) (l.length - i) (c - i)]).run Try.prog wr = .ok (.tuple #[]) (wr.setCells g (i * 5) (Builtin.zeroCells (Value.agg #[.int .i64 0, .int .i64 0, .int .i64 0, .int .i64 0, .slice none 0 0]).cells (l.length - i)).toList) :=
          fun ty => run_clear_row wr _ _ ty _ Try.underlying22 hzero hone g (i * 5) (l.length - i) (c - i) (by omega) (fun q hq => (hcell q hq).1) (fun q hq => (hcell q hq).2)
        have hic : decide (i ≤ l.length) = true := decide_eq_true (by omega)
        clear hcell hzero
        go_wp2_with (simp only [hcl])
        go_ret
        obtain ⟨rows', hl', ht', hR', hG'⟩ := raw_wipe (Value.agg #[.int .i64 0, .int .i64 0, .int .i64 0, .int .i64 0, .slice none 0 0]).cells (by decide) hone (l.length - i) i wr rt (by omega) HI.out.len HI.out.raw
        have hT := Kd.R_take hR' (m := i) (by omega)
        rw [ht', HI.out.kept, ← hKR] at hT
        have hi := HI.out.at_
        rw [← hKR, keepP_len p l rows HL.out] at hi
        rw [← hi]
        refine ⟨rfl, R_of_raw hT (keepP_len p l rows HL.out) (fun q x cs hx hc => ?_), grown_trans HI.out.grown hG'⟩
        obtain ⟨q', h1, h2⟩ := keepP_at p l rows HL.out q x cs hx hc
        exact Kd.M_grown (HD.out q' x cs h1 h2) (grown_trans HI.out.grown hG') (fun q hq => hq.2)
  · have hf : ∀ x ∈ l, p x = false := fun x hx => Bool.of_not_eq_true (fun h => hany (List.any_eq_true.2 ⟨x, hx, h⟩))
    have HFL : Aside0 (l.filter (fun x => !p x) = l) := ⟨List.filter_eq_self.2 (fun x hx => by rw [hf x hx]; rfl)⟩
    rw [firstP_none p l hf]
    clear hf hany
    go_wp2_with fail
    go_ret
    rw [HFL.out]
    exact ⟨rfl, Kd.R_below HRD.out HB1.out, grown_of_below HB1.out _⟩
end Go.Proofs.Ythfjgfldmkdlnaa.G
end

section
namespace Go.Proofs.Ythfjgfldmkdlnaa.G
open WB Go.RowKit Go.Proofs.YthfjgfldmkdlnaaW.PrintWords Go.Proofs.YthfjgfldmkdlnaaW.PrintLast Go.Proofs.YthfjgfldmkdlnaaW.PrintMore
attribute [local go_sem] max2_int min2_int max_two min_two max_three min_three max_four min_four   -- for this text's walks alone
set_option linter.unusedVariables false
set_option linter.unusedSimpArgs false
/-- The numbers of those whose lease is over. -/
def goneS (lease tick : Int) (l : List S38) : List Int := (l.filter (overS lease tick)).map (·.f0)
/-- Those that stay. -/
def stayS (lease tick : Int) (l : List S38) : List S38 := l.filter fun x => !overS lease tick x
def expireS (l : List S38) (s0 s1 s2 next tick : Int) : List S38 × List Int × Int := if checkS l s0 s1 s2 next tick = 0 then (stayS s1 tick l, goneS s1 tick l, 0) else ([], [], checkS l s0 s1 s2 next tick)
theorem goneS_snoc (a b : Int) (l : List S38) (x : S38) : goneS a b (l ++ [x]) = goneS a b l ++ (if overS a b x = true then [x.f0] else []) := by
  unfold goneS
  rw [List.filter_append, List.map_append]
  congr 1
  by_cases h : overS a b x = true <;> simp [h]
theorem over_tests (l : List S38) (g : Nat) (s0 s1 s2 next tick : Int) (L : Value) (h : MayS l s0 s1 s2 next tick) : Tests l 37 Try.f37 #[.pointer (some ⟨g, 0, none⟩)] #[] (overS s1 tick) (fun W => W.heap[g]? = some (.cells #[.int .i64 s0, .int .i64 s1, .int .i64 s2, L, .int .i64 next, .int .i64 tick] 76 (0, 0))) :=
  ⟨rfl, rfl, rfl, fun _ _ hb h => blk_below h hb, fun x hx A2 c2 W hg _ _ => table_over g s0 s1 s2 next tick L x A2 _ c2 W hg (by have := h.od x hx; have := h.n; omega) (by have := h.s; omega)⟩
/-- How far the sessions are looked at. -/
structure ExpInv (w : World) (g : Nat) (L : Value) (l : List S38) (s0 s1 s2 next tick : Int) (k : Nat) (v13 : Value) (wr : World) : Prop where
  b : wr.heap[g]? = some (.cells #[.int .i64 s0, .int .i64 s1, .int .i64 s2, L, .int .i64 next, .int .i64 tick] 76 (0, 0))
  bel : Below w.heap.size w wr
  ro : Kd.R (Kd.int .i64) 3 wr w.heap.size (fun _ => True) v13 (goneS s1 tick (l.take k))
def session_Expire.f (l0 : List (S38)) (a1_0 : Int) (a1_1 : Int) (a1_2 : Int) (a2 : Int) (a3 : Int) : Option ((List (S38)) × List Int × Int) := some (expireS l0 a1_0 a1_1 a1_2 a2 a3)
set_option maxHeartbeats 4000000 in
set_option maxRecDepth 100000 in
theorem session_Expire.calls (A0 : Option Addr) (c0 : Nat) (l0 : List (S38)) (a1_0 : Int) (a1_1 : Int) (a1_2 : Int) (a2 : Int) (a3 : Int) (r1 : List (S38)) (r2 : List Int) (r3 : Int) (w : World) (hr0 : Kd.C k38 w A0 l0.length l0) (hc0 : l0.length ≤ c0) (h : session_Expire.f l0 a1_0 a1_1 a1_2 a2 a3 = some (r1, r2, r3)) :
    Calls Try.prog 14 #[.slice A0 l0.length c0, .agg #[.int .i64 a1_0, .int .i64 a1_1, .int .i64 a1_2], .int .i64 a2, .int .i64 a3] w fun e w' => ∃ v0_ v1_ : Value, e = .returned (.tuple #[v0_, v1_, .int .i64 r3]) ∧ Kd.R k38 38 w' w.heap.size (fun _ => True) v0_ r1 ∧ Kd.R (Kd.int .i64) 3 w' w.heap.size (fun _ => True) v1_ r2 ∧ Below w.heap.size w w' := by
  replace h := Option.some.inj h
  have HH := Aside0.mk h
  have HR := Aside0.mk hr0
  have HC := Aside0.mk hc0
  have HBW := Aside0.mk (below_alloc (Below.refl w.heap.size w) (.cells #[.int .i64 a1_0, .int .i64 a1_1, .int .i64 a1_2] 24))
  have hm0 : l0.length ≤ 9223372036854775807 := hr0.2.1
  clear h hr0 hc0
  go_enter Try.func14, Try.ntmps14
  go_wp2_with fail
  go_at_call 29
  with_reducible refine (session_ask A0 c0 l0 a1_0 a1_1 a1_2 a2 a3 _ (Kd.C_alloc HR.out _) HC.out).mono ?_
  rintro e w1 ⟨g, rfl, ht⟩
  have HB1 := Aside0.mk (below_then HBW.out (by simp) ht.bel)
  have HT := Aside0.mk ht.b
  have HGE : Aside0 (w.heap.size ≤ g) := ⟨by have := ht.ge; simp at this; omega⟩
  clear ht
  by_cases hc0 : checkS l0 a1_0 a1_1 a1_2 a2 a3 = 0
  · rw [hc0]
    have HM := Aside0.mk (mayS_of hc0)
    have HLN : Aside0 (l0.length ≤ 64) := ⟨by have := HM.out.len; have := HM.out.s; omega⟩
    obtain ⟨⟨⟩⟩ : Aside0 ((stayS a1_1 a3 l0, goneS a1_1 a3 l0, (0 : Int)) = (r1, r2, r3)) := ⟨by rw [← HH.out]; unfold expireS; rw [if_pos hc0]⟩
    clear hc0
    go_wp2_with fail
    go_loopw [13, 29] (fun v13 v29 wr => ∃ k : Nat, v29 = .int .i64 k ∧ k ≤ l0.length ∧ Aside0 (ExpInv w g (.slice A0 l0.length c0) l0 a1_0 a1_1 a1_2 a2 a3 k v13 wr)) (fun _ v29 _ => l0.length - (intOf v29).toNat)
    case atStart => exact ⟨0, rfl, by omega, ⟨HT.out, HB1.out, Kd.R_nil _ _ _ _ _⟩⟩
    case round =>
      obtain ⟨k, rfl, hk, HI⟩ := hrel
      obtain ⟨Ag, cg, hvg⟩ := Kd.R_slice HI.out.ro
      subst hvg
      by_cases hlt : k < l0.length
      · have b1 : decide ((k : Int) < (l0.length : Int)) = true := decide_eq_true (by omega)
        have b1' : decide (k < l0.length) = true := decide_eq_true hlt
        obtain ⟨ad, A2, c2, e1, q0, q1, q2, q3, q4, q5, q6⟩ := at_T38 (Kd.C_below HR.out HI.out.bel) (k : Int) (by omega) (by omega)
        simp only [Int.toNat_natCast] at q0 q1 q2 q3 q4
        have hrd : rd_T38 l0 (k : Int) = l0[k] := by simp [rd_T38, List.getElem?_eq_getElem hlt]
        rw [hrd] at q0 q1 q2 q3 q4 q5 q6
        obtain ⟨x, hx⟩ : ∃ x, x = l0[k] := ⟨_, rfl⟩
        rw [← hx] at q0 q1 q2 q3 q4 q5 q6
        have HX := Aside0.mk (HM.out.od x (by rw [hx]; exact List.getElem_mem hlt))
        have HTK : Aside0 (l0.take (k + 1) = l0.take k ++ [x]) := ⟨by rw [List.take_succ_eq_append_getElem hlt, hx]⟩
        have HGL : Aside0 ((goneS a1_1 a3 (l0.take k)).length ≤ 64) := ⟨by
          unfold goneS
          rw [List.length_map]
          exact Nat.le_trans (List.length_filter_le _ _) (by have := HLN.out; simp; omega)⟩
        subst e1
        clear hrd hx q5 q6
        by_cases ho : overS a1_1 a3 x = true
        · have HG2 : Aside0 (goneS a1_1 a3 (l0.take (k + 1)) = goneS a1_1 a3 (l0.take k) ++ [x.f0]) := ⟨by rw [HTK.out, goneS_snoc, if_pos ho]⟩
          go_wp2_with fail
          go_at_call 37
          with_reducible refine (table_over g a1_0 a1_1 a1_2 a2 a3 _ x A2 _ c2 _ (blk_alloc HI.out.b _) (by have := HX.out; have := HM.out.n; omega) (by have := HM.out.s; omega)).mono ?_
          rintro e w2 ⟨rfl, hb⟩
          rw [ho]
          have HB2 := Aside0.mk (below_then (below_alloc (Below.refl wr.heap.size wr) _) (by simp) hb)
          have x0 : w2.cell? ⟨wr.heap.size, 0, none⟩ = some (.int .i64 x.f0) := (hb.cell (p := ⟨wr.heap.size, 0, none⟩) (by simp)).trans (cell_in1 _ _ _ 0)
          have HS2 : Aside0 (w.heap.size ≤ w2.heap.size) := ⟨by have := HB2.out.size; have := HI.out.bel.size; omega⟩
          have RO2 := Aside0.mk (Kd.R_below HI.out.ro HB2.out)
          clear hb q0 q1 q2 q3 q4
          go_wp2_with (first | ((with_reducible refine gate_builtin (b := .append) (xs := #[.tmp 36, .tmp 39]) rfl ?_); at_builtin; refine Kd.R_append_rows (Kd.int .i64) (w0 := w2) w.heap.size rfl (.tmp 36) (.tmp 39) 40 3 (.int .i64 0) 8 rfl Try.underlying40 info3 rfl (by decide) (by omega) _ (goneS a1_1 a3 (l0.take k)) [x.f0] _ _ _ (fun _ => True) (fun _ => False) rfl rfl (Kd.R_alloc RO2.out _) (C_ints (k := .i64) (heap_new1 _ _) (by simp) rfl) (fun _ _ h => h) (fun _ h => h.elim) (fun _ _ => trivial) (below_alloc0 (Below.refl _ _) HS2.out _) (by have := HS2.out; simp; omega) (by have := HGL.out; simp; omega) ?_; intro v4 w4 ho4 hb4 hg4 hat4; have HO4 := Aside0.mk ho4; have HB4 := Aside0.mk hb4; have HG4 := Aside0.mk hg4; clear ho4 hb4 hg4 hat4) | fail)
          go_roundw
          case rel =>
            have hb2 := blk_alloc (blk_below HI.out.b HB2.out) (.cells #[.int .i64 x.f0] 3)
            exact ⟨k + 1, by go_num, by omega, ⟨⟨blk_grown hb2 HG4.out (Kd.R_ne (Kd.R_alloc RO2.out _) hb2 (by decide)), (below_then HI.out.bel HI.out.bel.size HB2.out).trans HB4.out, by rw [HG2.out]; exact HO4.out⟩⟩⟩
          case measure => simp [intOf]; omega
        · have ho' : overS a1_1 a3 x = false := Bool.of_not_eq_true ho
          have HG2 : Aside0 (goneS a1_1 a3 (l0.take (k + 1)) = goneS a1_1 a3 (l0.take k)) := ⟨by rw [HTK.out, goneS_snoc, if_neg ho, List.append_nil]⟩
          go_wp2_with fail
          go_at_call 37
          with_reducible refine (table_over g a1_0 a1_1 a1_2 a2 a3 _ x A2 _ c2 _ (blk_alloc HI.out.b _) (by have := HX.out; have := HM.out.n; omega) (by have := HM.out.s; omega)).mono ?_
          rintro e w2 ⟨rfl, hb⟩
          rw [ho']
          have HB2 := Aside0.mk (below_then (below_alloc (Below.refl wr.heap.size wr) _) (by simp) hb)
          clear hb q0 q1 q2 q3 q4
          go_wp2_with fail
          go_roundw
          case rel => exact ⟨k + 1, by go_num, by omega, ⟨⟨blk_below HI.out.b HB2.out, below_then HI.out.bel HI.out.bel.size HB2.out, by rw [HG2.out]; exact Kd.R_below HI.out.ro HB2.out⟩⟩⟩
          case measure => simp [intOf]; omega
      · have b1 : decide ((k : Int) < (l0.length : Int)) = false := decide_eq_false (by omega)
        have b1' : decide (k < l0.length) = false := decide_eq_false hlt
        have HRO : Aside0 (Kd.R (Kd.int .i64) 3 wr w.heap.size (fun _ => True) (.slice Ag (goneS a1_1 a3 (l0.take k)).length cg) (goneS a1_1 a3 l0)) := ⟨by have := HI.out.ro; rwa [show goneS a1_1 a3 (l0.take k) = goneS a1_1 a3 l0 by rw [List.take_of_length_le (by omega)]] at this ⊢⟩
        go_wp2_with fail
        go_at_call 31
        with_reducible refine (session_Clone.calls A0 c0 l0 l0 _ (Kd.C_below HR.out HI.out.bel) HC.out (session_Clone.ok HM.out.small)).mono ?_
        rintro e w3 ⟨v3, rfl, hr3, hb3⟩
        obtain ⟨A3, c3, rfl⟩ := Kd.R_slice hr3
        have HR3 := Aside0.mk hr3
        have HB3 := Aside0.mk hb3
        have HT3 := Aside0.mk (blk_below HI.out.b hb3)
        have HN3 := Aside0.mk (Kd.R_ne hr3 HT3.out (by decide))
        clear hr3 hb3
        go_wp2_with fail
        go_at_call 38
        with_reducible refine (delete_sess A3 c3 l0 37 Try.f37 #[.pointer (some ⟨g, 0, none⟩)] #[] (overS a1_1 a3) _ wr.heap.size _ (over_tests l0 g a1_0 a1_1 a1_2 a2 a3 (.slice A0 l0.length c0) HM.out) HT3.out HR3.out (by have := HLN.out; omega) (fun W W' hg h => blk_grown h hg HN3.out)).mono ?_
        rintro e w4 ⟨rfl, hr4, hg4⟩
        have HR4 := Aside0.mk hr4
        have HG4 := Aside0.mk hg4
        clear hr4 hg4
        go_wp2_with fail
        go_ret3
        exact ⟨_, _, rfl, Kd.R_lower HR4.out HI.out.bel.size, Kd.R_over (Kd.R_below HRO.out HB3.out) HR3.out (by decide) HG4.out, pw_below_grown (below_then HI.out.bel HI.out.bel.size HB3.out) _ (by have := HB3.out.size; have := HI.out.bel.size; omega) HG4.out (fun k hk => Nat.le_trans HI.out.bel.size (Kd.R_base HR3.out k hk))⟩
  · have t1 : (checkS l0 a1_0 a1_1 a1_2 a2 a3 == 0) = false := by simpa using hc0
    obtain ⟨⟨⟩⟩ : Aside0 ((([], [], checkS l0 a1_0 a1_1 a1_2 a2 a3) : List S38 × List Int × Int) = (r1, r2, r3)) := ⟨by rw [← HH.out]; unfold expireS; rw [if_neg hc0]⟩
    go_wp2_with fail
    go_ret3
    exact ⟨_, _, rfl, Kd.R_nil _ _ _ _ _, Kd.R_nil _ _ _ _ _, HB1.out⟩
end Go.Proofs.Ythfjgfldmkdlnaa.G
end

section
namespace Go.Proofs.Ythfjgfldmkdlnaa.G
open WB Go.RowKit Go.Proofs.YthfjgfldmkdlnaaW.PrintWords Go.Proofs.YthfjgfldmkdlnaaW.PrintLast Go.Proofs.YthfjgfldmkdlnaaW.PrintMore
attribute [local go_sem] max2_int min2_int max_two min_two max_three min_three max_four min_four   -- for this text's walks alone
set_option linter.unusedVariables false
set_option linter.unusedSimpArgs false
def waybillref01_Copied.f (l0 : List Int) : Option (List Int) := if ([] : List Int).length + l0.length < 140737488355328 then (some (([] : List Int) ++ l0)) else (none)
set_option maxHeartbeats 8000000 in
set_option maxRecDepth 100000 in
theorem waybillref01_Copied.calls (A0 : Option Addr) (c0 : Nat) (l0 : List Int) (r : List Int) (w : World) (hr0 : Kd.C (Kd.int .u8) w A0 l0.length l0) (hc0 : l0.length ≤ c0) (h : waybillref01_Copied.f l0 = some r) :
    Calls Try.prog 56 #[.slice A0 l0.length c0] w fun e w' => ∃ v0_ : Value, e = .returned (v0_) ∧ Kd.R (Kd.int .u8) 5 w' w.heap.size (fun _ => True) v0_ r ∧ Below w.heap.size w w' := by
  have HR0 := Aside0.mk hr0
  have HC0 := Aside0.mk hc0
  clear hr0 hc0
  have HB := Aside0.mk (Below.refl w.heap.size w)
  have H : (if ([] : List Int).length + l0.length < 140737488355328 then (some (([] : List Int) ++ l0)) else (none)) = some r := h
  clear h
  by_cases c2 : ([] : List Int).length + l0.length < 140737488355328
  · rw [if_pos c2] at H
    have LMc2 := Aside0.mk c2
    clear c2
    obtain ⟨y195, hy195⟩ : ∃ y_ : List Int, y_ = (([] : List Int) ++ l0) := ⟨_, rfl⟩
    replace H : (some y195) = some r := by first | (rw [hy195]; with_reducible exact H) | (have H2_ := (Option.bind_some _ _).symm.trans H; rw [hy195]; with_reducible exact H2_) | (have H2_ := (Option.bind_some _ _).symm.trans H; with_reducible exact H2_) | with_reducible exact H | (rw [hy195]; exact H) | exact H
    have Ny195 := Aside0.mk hy195
    clear hy195
    obtain rfl := Option.some.inj H
    simp only [Option.some.injEq, Prod.mk.injEq] at H
    obtain ⟨rfl⟩ := H
    go_enter Try.func56, Try.ntmps56
    go_wp2_with (first | ((with_reducible refine gate_builtin (b := .append) (xs := #[.tmp 4, .tmp 5]) rfl ?_); at_builtin; refine Kd.R_append_rows (Kd.int .u8) (w0 := w) w.heap.size rfl (.tmp 4) (.tmp 5) 49 5 (.int .u8 0) 1 rfl Try.underlying49 info5 rfl (by decide) (by omega) (.slice none 0 0) ([] : List Int) l0 _ _ _ (fun _ => True) (fun _ => False) rfl rfl ?aO ?aR (fun _ _ h => h) (fun _ h => h.elim) ?aF ?aB ?aS ?aL ?_; (case aR => repeat (first | exact HR0.out | (with_reducible refine Kd.C_alloc ?_ _) | (with_reducible refine Kd.C_drewN ?_ _) | (with_reducible refine Kd.C_drew ?_))); (case aB => exact (by repeat (first | (with_reducible first | exact HB.out | apply below_alloc | apply pw_below_drewN | apply below_drew1) | exact HB.out))); (case aF => exact (fun _ _ => trivial)); (case aO => exact ((Kd.R_nil _ _ _ _ (fun _ => True)))); (case aS => exact (below_size (by repeat (first | (with_reducible first | exact HB.out | apply below_alloc | apply pw_below_drewN | apply below_drew1) | exact HB.out)))); (case aL => have := LMc2.out; omega); intro v196 w3 ho hb hg hat; rw [← Ny195.out] at ho; have n0_ := Aside0.mk (hb); have n1_ := Aside0.mk (ho); clear HB; have HB := n0_; have HO197 := n1_; clear n0_ n1_; clear ho hb hg hat))
    go_ret
    exact ⟨_, by first | rfl | (simp [errW_none, errW_some] <;> rfl) | (simp [*, errW_none, errW_some] <;> rfl), by (with_reducible repeat (first | apply Kd.R_alloc | apply Kd.R_drewN | apply Kd.R_drew)); exact HO197.out, by repeat (first | (with_reducible first | exact HB.out | apply below_alloc | apply pw_below_drewN | apply below_drew1) | exact HB.out)⟩
  · rw [if_neg c2] at H
    exact absurd H (by simp)
end Go.Proofs.Ythfjgfldmkdlnaa.G
end

section
namespace Go.Proofs.Ythfjgfldmkdlnaa.G
open WB Go.RowKit Go.Proofs.YthfjgfldmkdlnaaW.PrintWords Go.Proofs.YthfjgfldmkdlnaaW.PrintLast Go.Proofs.YthfjgfldmkdlnaaW.PrintMore
attribute [local go_sem] max2_int min2_int max_two min_two max_three min_three max_four min_four   -- for this text's walks alone
set_option linter.unusedVariables false
set_option linter.unusedSimpArgs false
def waybillref22_Kept.f (a0_0 : Int) (a0_1 : Int) (l0_2 : List Int) : Option (Int × Int × List Int) := (waybillref01_Copied.f l0_2).bind fun t200 => (some (a0_0, a0_1, t200))
set_option maxHeartbeats 8000000 in
set_option maxRecDepth 100000 in
theorem waybillref22_Kept.calls (a0_0 : Int) (a0_1 : Int) (A0_2 : Option Addr) (c0_2 : Nat) (l0_2 : List Int) (r1 : Int) (r2 : Int) (r3 : List Int) (w : World) (hr0_2 : Kd.C (Kd.int .u8) w A0_2 l0_2.length l0_2) (hc0_2 : l0_2.length ≤ c0_2) (h : waybillref22_Kept.f a0_0 a0_1 l0_2 = some (r1, r2, r3)) :
    Calls Try.prog 52 #[.agg #[.int .i64 a0_0, .int .i64 a0_1, .slice A0_2 l0_2.length c0_2]] w fun e w' => ∃ v2_ : Value, e = .returned (.agg #[.int .i64 r1, .int .i64 r2, v2_]) ∧ Kd.R (Kd.int .u8) 5 w' w.heap.size (fun _ => True) v2_ r3 ∧ Below w.heap.size w w' := by
  have hu51 := Try.underlying51
  have HR0_2 := Aside0.mk hr0_2
  have HC0_2 := Aside0.mk hc0_2
  clear hr0_2 hc0_2
  have HB := Aside0.mk (Below.refl w.heap.size w)
  have H : ((waybillref01_Copied.f l0_2).bind fun t200 => (some (a0_0, a0_1, t200))) = some (r1, r2, r3) := h
  clear h
  replace H := Option.bind_eq_some_iff.mp H
  obtain ⟨t200, A20, H⟩ := H
  replace H : (some (a0_0, a0_1, t200)) = some (r1, r2, r3) := H
  have A2 := Aside0.mk A20
  clear A20
  simp only [Option.some.injEq, Prod.mk.injEq] at H
  obtain ⟨rfl, rfl, rfl⟩ := H
  go_enter Try.func52, Try.ntmps52
  go_wp2_with (first | ((with_reducible refine gate_dst (N := 1) rfl ?_); refine box_event ?hg (N := 1) ?hd (cs := #[.int .i64 a0_0, .int .i64 a0_1, .slice A0_2 l0_2.length c0_2]) (t := 51) ?hr ?_; (case hd => rfl); (case hg => rfl); (case hr => first | (go_simp; done) | (go_simp; rfl)); intro gb198 hg w3 hbox hb; have n0_ := Aside0.mk (below_step (by repeat (first | (with_reducible first | exact HB.out | apply below_alloc | apply pw_below_drewN | apply below_drew1) | exact HB.out)) hb); have n1_ := Aside0.mk (hbox); have n2_ := Aside0.mk ((by rw [hg]; exact (below_size (by repeat (first | (with_reducible first | exact HB.out | apply below_alloc | apply pw_below_drewN | apply below_drew1) | exact HB.out))) : w.heap.size ≤ gb198)); have n3_ := Aside0.mk ((by rw [hg]; exact (below_size (by repeat (first | (with_reducible first | exact HB.out | apply below_alloc | apply pw_below_drewN | apply below_drew1) | exact HB.out))) : w.heap.size ≤ gb198)); clear HB; have HB := n0_; have BK198 := n1_; have GW198 := n2_; have GE198 := n3_; clear n0_ n1_ n2_ n3_; clear hb hbox hg) | ((with_reducible refine gate_dst (N := 2) rfl ?_); refine box_event ?hg (N := 2) ?hd (cs := #[.int .i64 0, .int .i64 0, .slice none 0 0]) (t := 51) ?hr ?_; (case hd => rfl); (case hg => rfl); (case hr => first | (go_simp; done) | (go_simp; rfl)); intro gb199 hg w4 hbox hb; have n0_ := Aside0.mk (blk_below (g := gb198) (o := .cells #[.int .i64 a0_0, .int .i64 a0_1, .slice A0_2 l0_2.length c0_2] 51 (0, 0)) (by (with_reducible repeat (first | refine blk_drewN ?_ _ | refine blk_drew ?_ | refine blk_alloc ?_ _)); exact BK198.out) hb); have n1_ := Aside0.mk (below_step (by repeat (first | (with_reducible first | exact HB.out | apply below_alloc | apply pw_below_drewN | apply below_drew1 | refine below_set ?_ GE198.out) | exact HB.out)) hb); have n2_ := Aside0.mk (hbox); have n3_ := Aside0.mk ((by rw [hg]; exact (below_size (by repeat (first | (with_reducible first | exact HB.out | apply below_alloc | apply pw_below_drewN | apply below_drew1 | refine below_set ?_ GE198.out) | exact HB.out))) : w.heap.size ≤ gb199)); have n4_ := Aside0.mk ((by rw [hg]; exact (below_size (by repeat (first | (with_reducible first | exact HB.out | apply below_alloc | apply pw_below_drewN | apply below_drew1 | refine below_set ?_ GE198.out) | exact HB.out))) : w.heap.size ≤ gb199)); have n5_ := Aside0.mk ((by rw [hg]; exact Nat.ne_of_lt (blk_lt (g := gb198) (o := .cells #[.int .i64 a0_0, .int .i64 a0_1, .slice A0_2 l0_2.length c0_2] 51 (0, 0)) (by (with_reducible repeat (first | refine blk_drewN ?_ _ | refine blk_drew ?_ | refine blk_alloc ?_ _)); exact BK198.out)) : gb198 ≠ gb199)); have n6_ := Aside0.mk ((by rw [hg]; exact Nat.ne_of_gt (blk_lt (g := gb198) (o := .cells #[.int .i64 a0_0, .int .i64 a0_1, .slice A0_2 l0_2.length c0_2] 51 (0, 0)) (by (with_reducible repeat (first | refine blk_drewN ?_ _ | refine blk_drew ?_ | refine blk_alloc ?_ _)); exact BK198.out)) : gb199 ≠ gb198)); clear BK198; clear HB; have BK198 := n0_; have HB := n1_; have BK199 := n2_; have GW199 := n3_; have GE199 := n4_; have NB198_199 := n5_; have NB199_198 := n6_; clear n0_ n1_ n2_ n3_ n4_ n5_ n6_; clear hb hbox hg; have hnb5 := NB198_199.out; have hnc5 := NB199_198.out; have hcz6_0 : w4.cell? ⟨gb198, 0, none⟩ = some (.int .i64 a0_0) := (blk_cell BK198.out 0).trans rfl; have hcz6_1 : w4.cell? ⟨gb198, 1, none⟩ = some (.int .i64 a0_1) := (blk_cell BK198.out 1).trans rfl; have hcz6_2 : w4.cell? ⟨gb198, 2, none⟩ = some (.slice A0_2 l0_2.length c0_2) := (blk_cell BK198.out 2).trans rfl; have hfz6_0 := blk_frozen BK198.out 0; have hfz6_1 := blk_frozen BK198.out 1; have hfz6_2 := blk_frozen BK198.out 2) | ((with_reducible refine gate_callee (f := 56) rfl ?_); refine goesL_ (some 5) rfl rfl Try.func56 (by kernel_rfl) rfl #[.slice A0_2 l0_2.length c0_2] rfl (by (try simp only [List.map_toArray, List.map_cons, List.map_nil]); first | done | rfl | (simp only [List.length_drop, List.length_take]; rfl)) ?_; (with_reducible refine (waybillref01_Copied.calls _ _ l0_2 t200 _ ?side1 ?side2 A2.out).mono ?_); (case side1 => repeat (first | exact (Kd.C_below HR0_2.out HB.out) | (with_reducible refine Kd.C_alloc ?_ _) | (with_reducible refine Kd.C_drewN ?_ _) | (with_reducible refine Kd.C_drew ?_))); (case side2 => exact HC0_2.out); rintro e w7 ⟨v201, rfl, ho0, hb⟩; refine ⟨_, rfl, ?_⟩; have n0_ := Aside0.mk (Kd.R_lower ho0 (below_size (by repeat (first | (with_reducible first | exact HB.out | apply below_alloc | apply pw_below_drewN | apply below_drew1 | refine below_set ?_ GE198.out | refine below_set ?_ GE199.out) | exact HB.out)))); have n1_ := Aside0.mk (blk_below (g := gb198) (o := .cells #[.int .i64 a0_0, .int .i64 a0_1, .slice A0_2 l0_2.length c0_2] 51 (0, 0)) (by (with_reducible repeat (first | refine blk_drewN ?_ _ | refine blk_drew ?_ | refine blk_alloc ?_ _)); exact BK198.out) hb); have n2_ := Aside0.mk (blk_below (g := gb199) (o := .cells #[.int .i64 0, .int .i64 0, .slice none 0 0] 51 (0, 0)) (by (with_reducible repeat (first | refine blk_drewN ?_ _ | refine blk_drew ?_ | refine blk_alloc ?_ _)); exact BK199.out) hb); have n3_ := Aside0.mk (below_step (by repeat (first | (with_reducible first | exact HB.out | apply below_alloc | apply pw_below_drewN | apply below_drew1 | refine below_set ?_ GE198.out | refine below_set ?_ GE199.out) | exact HB.out)) hb); clear BK198; clear BK199; clear HB; have HO202 := n0_; have BK198 := n1_; have BK199 := n2_; have HB := n3_; clear n0_ n1_ n2_ n3_; (try clear hb); (try clear hb2); (try clear hk); (try clear hi); (try clear ho0); obtain ⟨Ao8, co8, eo8⟩ := Kd.R_slice HO202.out; subst eo8; have hcz9_0 : w7.cell? ⟨gb198, 0, none⟩ = some (.int .i64 a0_0) := (blk_cell BK198.out 0).trans rfl; have hcz9_1 : w7.cell? ⟨gb198, 1, none⟩ = some (.int .i64 a0_1) := (blk_cell BK198.out 1).trans rfl; have hcz9_2 : w7.cell? ⟨gb198, 2, none⟩ = some (.slice A0_2 l0_2.length c0_2) := (blk_cell BK198.out 2).trans rfl; have hfz9_0 := blk_frozen BK198.out 0; have hfz9_1 := blk_frozen BK198.out 1; have hfz9_2 := blk_frozen BK198.out 2; have hcz10_0 : w7.cell? ⟨gb199, 0, none⟩ = some (.int .i64 0) := (blk_cell BK199.out 0).trans rfl; have hcz10_1 : w7.cell? ⟨gb199, 1, none⟩ = some (.int .i64 0) := (blk_cell BK199.out 1).trans rfl; have hcz10_2 : w7.cell? ⟨gb199, 2, none⟩ = some (.slice none 0 0) := (blk_cell BK199.out 2).trans rfl; have hfz10_0 := blk_frozen BK199.out 0; have hfz10_1 := blk_frozen BK199.out 1; have hfz10_2 := blk_frozen BK199.out 2))
  refine bodyPost_ret (results_cell_row rfl _ _ gb199 51 #[.int .i64 a0_0, .int .i64 a0_1, .slice Ao8 t200.length co8] (0, 0) _ rfl (by (with_reducible repeat (first | refine blk_drewN ?_ _ | refine blk_drew ?_ | refine blk_alloc ?_ _)); refine blk_put (cs := #[.int .i64 a0_0, .int .i64 a0_1, .slice none 0 0]) ?_ 2 _ rfl; (with_reducible repeat (first | refine blk_drewN ?_ _ | refine blk_drew ?_ | refine blk_alloc ?_ _)); refine blk_put (cs := #[.int .i64 a0_0, .int .i64 0, .slice none 0 0]) ?_ 1 _ rfl; (with_reducible repeat (first | refine blk_drewN ?_ _ | refine blk_drew ?_ | refine blk_alloc ?_ _)); refine blk_put (cs := #[.int .i64 0, .int .i64 0, .slice none 0 0]) ?_ 0 _ rfl; (with_reducible repeat (first | refine blk_drewN ?_ _ | refine blk_drew ?_ | refine blk_alloc ?_ _)); refine blk_far ?_ NB199_198.out _; (with_reducible repeat (first | refine blk_drewN ?_ _ | refine blk_drew ?_ | refine blk_alloc ?_ _)); exact BK199.out) Try.underlying51 rfl (by kernel_rfl)) rfl ?_
  exact ⟨_, by first | rfl | (simp [errW_none, errW_some] <;> rfl) | (simp [*, errW_none, errW_some] <;> rfl), by (with_reducible repeat (first | apply Kd.R_alloc | apply Kd.R_drewN | apply Kd.R_drew)); exact Kd.R_mono (Kd.R_far (p := ⟨gb199, 2, none⟩) (Kd.R_far (p := ⟨gb199, 1, none⟩) (Kd.R_far (p := ⟨gb199, 0, none⟩) (Kd.R_far (p := ⟨gb198, 2, none⟩) (Kd.R_types (Kd.R_types HO202.out BK198.out (by decide)) BK199.out (by decide)) (fun _ hk => hk.1.2) (.slice Ao8 t200.length co8)) (fun _ hk => hk.2) (.int .i64 a0_0)) (fun _ hk => hk.2) (.int .i64 a0_1)) (fun _ hk => hk.2) (.slice Ao8 t200.length co8)) (fun _ hk => trivial), by repeat (first | (with_reducible first | exact HB.out | apply below_alloc | apply pw_below_drewN | apply below_drew1 | refine below_set ?_ GE198.out | refine below_set ?_ GE199.out) | exact HB.out)⟩
end Go.Proofs.Ythfjgfldmkdlnaa.G
end
