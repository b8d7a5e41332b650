/- MessageTellsUpto: texts of this claim, packed: what the kit's print has written for it and own texts, without what its proof does not reach. -/
import Derived.Test.YtkddlhcpplkpbaaKMessageTellsUpto15
import Derived.Test.YtkddlhcpplkpbaaKMessageTellsUpto16
set_option linter.unusedVariables false
set_option linter.unusedSimpArgs false
set_option linter.unusedSectionVars false
section
namespace Go.Proofs.Ytkddlhcpplkpbaa.G
open WB Go.RowKit Go.Proofs.YtkddlhcpplkpbaaW.PrintWords Go.Proofs.YtkddlhcpplkpbaaW.PrintLast Go.Proofs.YtkddlhcpplkpbaaW.PrintMore
attribute [local go_sem] max2_int min2_int max_two min_two max_three min_three max_four min_four   -- for this text's walks alone
/-- What number does: a number, and the reader moved on; or a fault. -/
def NumAt (w : World) (g : Nat) (x p e : Int) (r : Ending) (w' : World) : Prop :=
 if e = 0 then (if x ≤ 2147483647 then r = .returned (.int .i64 (wrap64 x)) ∧ ∃ w1, Below w.heap.size w w1 ∧ w' = w1.setCell ⟨g, 1, none⟩ (.int .i64 p) else r = .panicked (faultP 4) ∧ Below w.heap.size w w') else r = .panicked (faultP e) ∧ Below w.heap.size w w'
set_option maxHeartbeats 4000000 in
set_option maxRecDepth 100000 in
theorem reader_number (g : Nat) (A : Option Addr) (c : Nat) (l : List Int) (p0 x p e : Int) (w : World) (hg : w.heap[g]? = some (.cells #[.slice A l.length c, .int .i64 p0] 59 (0, 0))) (hr : Kd.C (Kd.int .u8) w A l.length l) (hc : l.length ≤ c) (hget : varint_Get.f l p0 = some (x, p, e)) :
  Calls Try.prog 55 #[.pointer (some ⟨g, 0, none⟩)] w (NumAt w g x p e) := by
 have HG := Aside0.mk hg
 have HR := Aside0.mk hr
 have HC := Aside0.mk hc
 have HT := Aside0.mk hget
 have q0 : w.cell? ⟨g, 0, none⟩ = some (.slice A l.length c) := (blk_cell hg 0).trans rfl
 have q1 : w.cell? ⟨g, 1, none⟩ = some (.int .i64 p0) := (blk_cell hg 1).trans rfl
 clear hg hr hc hget
 go_enter Try.func55, Try.ntmps55
 go_wp2_with fail
 refine region_facts (B := _) (w0 := _) [(7, (fun v _ => v = .pointer (some ⟨g, 0, none⟩))), (8, (fun v _ => v = .pointer (some ⟨g, 0, none⟩))), (9, (fun v _ => v = .pointer (some ⟨g, 0, none⟩))), (10, (fun v _ => v = .slice A l.length c)), (11, (fun v _ => v = .pointer (some ⟨g, 0, none⟩))), (12, (fun v _ => v = .pointer (some ⟨g, 0, none⟩))), (13, (fun v _ => v = .pointer (some ⟨g, 1, none⟩))), (14, (fun v _ => v = .int .i64 p0)), (15, (fun v W => v = .tuple #[.int .u64 x, .int .i64 p, .int .i64 e])), (6, (fun v _ => v = .tuple #[.int .u64 x, .int .i64 p, .int .i64 e])), (16, (fun v _ => v = .int .u64 x)), (17, (fun v _ => v = .int .i64 p)), (18, (fun v _ => v = .int .i64 e)), (3, (fun v _ => v = .int .u64 x)), (4, (fun v _ => v = .int .i64 p)), (5, (fun v _ => v = .int .i64 e))] (by kernel_rfl) (by kernel_rfl) (by rfl) (show ([7, 8, 9, 10, 11, 12, 13, 14, 15, 6, 16, 17, 18, 3, 4, 5] : List Nat).Nodup by decide) ?hsz ?hst (Below.refl _ _) (Nat.le_refl _) ?step ?fin
 case hsz => exact List.forall_mem_cons.2 ⟨(show 7 < 32 by decide), List.forall_mem_cons.2 ⟨(show 8 < 32 by decide), List.forall_mem_cons.2 ⟨(show 9 < 32 by decide), List.forall_mem_cons.2 ⟨(show 10 < 32 by decide), List.forall_mem_cons.2 ⟨(show 11 < 32 by decide), List.forall_mem_cons.2 ⟨(show 12 < 32 by decide), List.forall_mem_cons.2 ⟨(show 13 < 32 by decide), List.forall_mem_cons.2 ⟨(show 14 < 32 by decide), List.forall_mem_cons.2 ⟨(show 15 < 32 by decide), List.forall_mem_cons.2 ⟨(show 6 < 32 by decide), List.forall_mem_cons.2 ⟨(show 16 < 32 by decide), List.forall_mem_cons.2 ⟨(show 17 < 32 by decide), List.forall_mem_cons.2 ⟨(show 18 < 32 by decide), List.forall_mem_cons.2 ⟨(show 3 < 32 by decide), List.forall_mem_cons.2 ⟨(show 4 < 32 by decide), List.forall_mem_cons.2 ⟨(show 5 < 32 by decide), fun _ h => nomatch h⟩⟩⟩⟩⟩⟩⟩⟩⟩⟩⟩⟩⟩⟩⟩⟩
 case hst => exact List.forall_mem_cons.2 ⟨(fun v w1 w2 hb h => h), List.forall_mem_cons.2 ⟨(fun v w1 w2 hb h => h), List.forall_mem_cons.2 ⟨(fun v w1 w2 hb h => h), List.forall_mem_cons.2 ⟨(fun v w1 w2 hb h => h), List.forall_mem_cons.2 ⟨(fun v w1 w2 hb h => h), List.forall_mem_cons.2 ⟨(fun v w1 w2 hb h => h), List.forall_mem_cons.2 ⟨(fun v w1 w2 hb h => h), List.forall_mem_cons.2 ⟨(fun v w1 w2 hb h => h), List.forall_mem_cons.2 ⟨(fun v w1 w2 hb h => h), List.forall_mem_cons.2 ⟨(fun v w1 w2 hb h => h), List.forall_mem_cons.2 ⟨(fun v w1 w2 hb h => h), List.forall_mem_cons.2 ⟨(fun v w1 w2 hb h => h), List.forall_mem_cons.2 ⟨(fun v w1 w2 hb h => h), List.forall_mem_cons.2 ⟨(fun v w1 w2 hb h => h), List.forall_mem_cons.2 ⟨(fun v w1 w2 hb h => h), List.forall_mem_cons.2 ⟨(fun v w1 w2 hb h => h), fun _ h => nomatch h⟩⟩⟩⟩⟩⟩⟩⟩⟩⟩⟩⟩⟩⟩⟩⟩
 case step =>
  intro i_ o_ e_ ho he a w1_ hs hdf hfr hbl hbs hpre
  match i_, ho, he with
  | 0, ho, he => obtain rfl : o_ = ⟨_, _, _, _, _, _⟩ := (Option.some.inj ho).symm; obtain rfl := Option.some.inj he; clear he; have f0 : a.tmps.getD 0 undef = .pointer (some ⟨g, 0, none⟩) := (by rw [Array.getD_eq_getD_getElem?, hfr 0 (show ¬ 0 ∈ ([7, 8, 9, 10, 11, 12, 13, 14, 15, 6, 16, 17, 18, 3, 4, 5] : List Nat) by decide)]; rfl); clear hpre hfr; refine wpOp_value (v := .pointer (some ⟨g, 0, none⟩)) ho rfl ?_ ⟨_, rfl, rfl, Below.refl _ _⟩; simp only [execOp, Act.eval, List.map_toArray, List.map_cons, List.map_nil, f0]; first | rfl | (go_simp; done) | (go_simp; rfl) | (go_simp; intro h_; exfalso; omega)
  | 1, ho, he => obtain rfl : o_ = ⟨_, _, _, _, _, _⟩ := (Option.some.inj ho).symm; obtain rfl := Option.some.inj he; clear he; have e7 : a.tmps.getD 7 undef = .pointer (some ⟨g, 0, none⟩) := hpre ⟨0, .data⟩ (by simp) rfl _ rfl; clear hpre hfr; refine wpOp_value (v := .pointer (some ⟨g, 0, none⟩)) ho rfl ?_ ⟨_, rfl, rfl, Below.refl _ _⟩; simp only [execOp, Act.eval, List.map_toArray, List.map_cons, List.map_nil, e7]; first | rfl | (go_simp; done) | (go_simp; rfl) | (go_simp; intro h_; exfalso; omega)
  | 2, ho, he => obtain rfl : o_ = ⟨_, _, _, _, _, _⟩ := (Option.some.inj ho).symm; obtain rfl := Option.some.inj he; clear he; have e8 : a.tmps.getD 8 undef = .pointer (some ⟨g, 0, none⟩) := hpre ⟨1, .data⟩ (by simp) rfl _ rfl; clear hpre hfr; refine wpOp_value (v := .pointer (some ⟨g, 0, none⟩)) ho rfl ?_ ⟨_, rfl, rfl, Below.refl _ _⟩; simp only [execOp, Act.eval, List.map_toArray, List.map_cons, List.map_nil, e8]; first | rfl | (go_simp; done) | (go_simp; rfl) | (go_simp; intro h_; exfalso; omega)
  | 3, ho, he => obtain rfl : o_ = ⟨_, _, _, _, _, _⟩ := (Option.some.inj ho).symm; obtain rfl := Option.some.inj he; clear he; have e9 : a.tmps.getD 9 undef = .pointer (some ⟨g, 0, none⟩) := hpre ⟨2, .data⟩ (by simp) rfl _ rfl; clear hpre hfr; have k_q0 := (hbl.cell (World.block_lt_of_cell? _ _ q0)).trans q0; refine wpOp_value (v := .slice A l.length c) ho rfl ?_ ⟨_, rfl, rfl, Below.refl _ _⟩; simp only [execOp, Act.eval, List.map_toArray, List.map_cons, List.map_nil, e9]; first | rfl | (go_simp; done) | (go_simp; rfl) | (go_simp; intro h_; exfalso; omega)
  | 4, ho, he => obtain rfl : o_ = ⟨_, _, _, _, _, _⟩ := (Option.some.inj ho).symm; obtain rfl := Option.some.inj he; clear he; have f0 : a.tmps.getD 0 undef = .pointer (some ⟨g, 0, none⟩) := (by rw [Array.getD_eq_getD_getElem?, hfr 0 (show ¬ 0 ∈ ([7, 8, 9, 10, 11, 12, 13, 14, 15, 6, 16, 17, 18, 3, 4, 5] : List Nat) by decide)]; rfl); clear hpre hfr; refine wpOp_value (v := .pointer (some ⟨g, 0, none⟩)) ho rfl ?_ ⟨_, rfl, rfl, Below.refl _ _⟩; simp only [execOp, Act.eval, List.map_toArray, List.map_cons, List.map_nil, f0]; first | rfl | (go_simp; done) | (go_simp; rfl) | (go_simp; intro h_; exfalso; omega)
  | 5, ho, he => obtain rfl : o_ = ⟨_, _, _, _, _, _⟩ := (Option.some.inj ho).symm; obtain rfl := Option.some.inj he; clear he; have e11 : a.tmps.getD 11 undef = .pointer (some ⟨g, 0, none⟩) := hpre ⟨4, .data⟩ (by simp) rfl _ rfl; clear hpre hfr; refine wpOp_value (v := .pointer (some ⟨g, 0, none⟩)) ho rfl ?_ ⟨_, rfl, rfl, Below.refl _ _⟩; simp only [execOp, Act.eval, List.map_toArray, List.map_cons, List.map_nil, e11]; first | rfl | (go_simp; done) | (go_simp; rfl) | (go_simp; intro h_; exfalso; omega)
  | 6, ho, he => obtain rfl : o_ = ⟨_, _, _, _, _, _⟩ := (Option.some.inj ho).symm; obtain rfl := Option.some.inj he; clear he; have e12 : a.tmps.getD 12 undef = .pointer (some ⟨g, 0, none⟩) := hpre ⟨5, .data⟩ (by simp) rfl _ rfl; clear hpre hfr; refine wpOp_value (v := .pointer (some ⟨g, 1, none⟩)) ho rfl ?_ ⟨_, rfl, rfl, Below.refl _ _⟩; simp only [execOp, Act.eval, List.map_toArray, List.map_cons, List.map_nil, e12]; first | rfl | (go_simp; done) | (go_simp; rfl) | (go_simp; intro h_; exfalso; omega)
  | 7, ho, he => obtain rfl : o_ = ⟨_, _, _, _, _, _⟩ := (Option.some.inj ho).symm; obtain rfl := Option.some.inj he; clear he; have e13 : a.tmps.getD 13 undef = .pointer (some ⟨g, 1, none⟩) := hpre ⟨6, .data⟩ (by simp) rfl _ rfl; clear hpre hfr; have k_q1 := (hbl.cell (World.block_lt_of_cell? _ _ q1)).trans q1; refine wpOp_value (v := .int .i64 p0) ho rfl ?_ ⟨_, rfl, rfl, Below.refl _ _⟩; simp only [execOp, Act.eval, List.map_toArray, List.map_cons, List.map_nil, e13]; first | rfl | (go_simp; done) | (go_simp; rfl) | (go_simp; intro h_; exfalso; omega)
  | 8, ho, he => obtain rfl : o_ = ⟨_, _, _, _, _, _⟩ := (Option.some.inj ho).symm; obtain rfl := Option.some.inj he; clear he; have e10 : a.tmps.getD 10 undef = .slice A l.length c := hpre ⟨3, .data⟩ (by simp) rfl _ rfl; have e14 : a.tmps.getD 14 undef = .int .i64 p0 := hpre ⟨7, .data⟩ (by simp) rfl _ rfl; clear hpre hfr; refine wpOp_call (fn := Try.f52) ho rfl rfl rfl rfl #[.slice A l.length c, .int .i64 p0] rfl (by simp only [List.map_toArray, List.map_cons, List.map_nil, Act.eval, e10, e14]) ?_; refine (varint_Get.calls A c l p0 x p e w1_ (Kd.C_below HR.out hbl) HC.out HT.out).mono ?_; rintro e w2 ⟨rfl, hb⟩; exact ⟨_, rfl, ⟨_, rfl, rfl, hb.below⟩⟩
  | 9, ho, he => obtain rfl : o_ = ⟨_, _, _, _, _, _⟩ := (Option.some.inj ho).symm; obtain rfl := Option.some.inj he; clear he; have e15 := hpre ⟨8, .data⟩ (by simp) rfl _ rfl; dsimp only at e15; clear hpre hfr; refine wpOp_value (v := .tuple #[.int .u64 x, .int .i64 p, .int .i64 e]) ho rfl ?_ ⟨_, rfl, rfl, Below.refl _ _⟩; simp only [execOp, Act.eval, List.map_toArray, List.map_cons, List.map_nil]; first | rfl | (go_simp; done) | (go_simp; rfl) | (go_simp; intro h_; exfalso; omega)
  | 10, ho, he => obtain rfl : o_ = ⟨_, _, _, _, _, _⟩ := (Option.some.inj ho).symm; obtain rfl := Option.some.inj he; clear he; have e6 : a.tmps.getD 6 undef = .tuple #[.int .u64 x, .int .i64 p, .int .i64 e] := hpre ⟨9, .data⟩ (by simp) rfl _ rfl; clear hpre hfr; refine wpOp_value (v := .int .u64 x) ho rfl ?_ ⟨_, rfl, rfl, Below.refl _ _⟩; simp only [execOp, Act.eval, List.map_toArray, List.map_cons, List.map_nil, e6]; first | rfl | (go_simp; done) | (go_simp; rfl) | (go_simp; intro h_; exfalso; omega)
  | 11, ho, he => obtain rfl : o_ = ⟨_, _, _, _, _, _⟩ := (Option.some.inj ho).symm; obtain rfl := Option.some.inj he; clear he; have e6 : a.tmps.getD 6 undef = .tuple #[.int .u64 x, .int .i64 p, .int .i64 e] := hpre ⟨9, .data⟩ (by simp) rfl _ rfl; clear hpre hfr; refine wpOp_value (v := .int .i64 p) ho rfl ?_ ⟨_, rfl, rfl, Below.refl _ _⟩; simp only [execOp, Act.eval, List.map_toArray, List.map_cons, List.map_nil, e6]; first | rfl | (go_simp; done) | (go_simp; rfl) | (go_simp; intro h_; exfalso; omega)
  | 12, ho, he => obtain rfl : o_ = ⟨_, _, _, _, _, _⟩ := (Option.some.inj ho).symm; obtain rfl := Option.some.inj he; clear he; have e6 : a.tmps.getD 6 undef = .tuple #[.int .u64 x, .int .i64 p, .int .i64 e] := hpre ⟨9, .data⟩ (by simp) rfl _ rfl; clear hpre hfr; refine wpOp_value (v := .int .i64 e) ho rfl ?_ ⟨_, rfl, rfl, Below.refl _ _⟩; simp only [execOp, Act.eval, List.map_toArray, List.map_cons, List.map_nil, e6]; first | rfl | (go_simp; done) | (go_simp; rfl) | (go_simp; intro h_; exfalso; omega)
  | 13, ho, he => obtain rfl : o_ = ⟨_, _, _, _, _, _⟩ := (Option.some.inj ho).symm; obtain rfl := Option.some.inj he; clear he; have e16 : a.tmps.getD 16 undef = .int .u64 x := hpre ⟨10, .data⟩ (by simp) rfl _ rfl; clear hpre hfr; refine wpOp_value (v := .int .u64 x) ho rfl ?_ ⟨_, rfl, rfl, Below.refl _ _⟩; simp only [execOp, Act.eval, List.map_toArray, List.map_cons, List.map_nil, e16]; first | rfl | (go_simp; done) | (go_simp; rfl) | (go_simp; intro h_; exfalso; omega)
  | 14, ho, he => obtain rfl : o_ = ⟨_, _, _, _, _, _⟩ := (Option.some.inj ho).symm; obtain rfl := Option.some.inj he; clear he; have e17 : a.tmps.getD 17 undef = .int .i64 p := hpre ⟨11, .data⟩ (by simp) rfl _ rfl; clear hpre hfr; refine wpOp_value (v := .int .i64 p) ho rfl ?_ ⟨_, rfl, rfl, Below.refl _ _⟩; simp only [execOp, Act.eval, List.map_toArray, List.map_cons, List.map_nil, e17]; first | rfl | (go_simp; done) | (go_simp; rfl) | (go_simp; intro h_; exfalso; omega)
  | 15, ho, he => obtain rfl : o_ = ⟨_, _, _, _, _, _⟩ := (Option.some.inj ho).symm; obtain rfl := Option.some.inj he; clear he; have e18 : a.tmps.getD 18 undef = .int .i64 e := hpre ⟨12, .data⟩ (by simp) rfl _ rfl; clear hpre hfr; refine wpOp_value (v := .int .i64 e) ho rfl ?_ ⟨_, rfl, rfl, Below.refl _ _⟩; simp only [execOp, Act.eval, List.map_toArray, List.map_cons, List.map_nil, e18]; first | rfl | (go_simp; done) | (go_simp; rfl) | (go_simp; intro h_; exfalso; omega)
  | n_ + 16, ho, he => simp at he
 case fin =>
  intro xv_ w1_ hbl hx
  simp only [List.forall_mem_cons] at hx
  obtain ⟨x7, x8, x9, x10, x11, x12, x13, x14, x15, x6, x16, x17, x18, x3, x4, x5, _⟩ := hx
  simp only [List.map_cons, List.map_nil, putL, Act.put, List.setIfInBounds_toArray, List.set_cons_zero, List.set_cons_succ, x7, x8, x9, x10, x11, x12, x13, x14, x15, x6, x16, x17, x18, x3, x4, x5]
  clear x7 x8 x9 x10 x11 x12 x13 x14 x15 x6 x16 x17 x18 x3 x4 x5
  have HB := Aside0.mk hbl
  have HG1 := Aside0.mk (blk_below HG.out hbl)
  clear hbl
  go_wp2_with fail
  go_at_call 53
  with_reducible refine (message_need (e == 0) e _).mono ?_
  rintro r w2 ⟨rfl, rfl⟩
  by_cases he : e = 0
  case neg =>
   rw [if_neg (by simpa using he)]
   exact ⟨rfl, show NumAt w g x p e _ _ by unfold NumAt; rw [if_neg he]; exact ⟨rfl, HB.out⟩⟩
  rw [if_pos (by simpa using he)]
  subst he
  go_wp2_with fail
  go_at_call 53
  with_reducible refine (message_need (decide (x ≤ 2147483647)) 4 _).mono ?_
  rintro r w3 ⟨rfl, rfl⟩
  by_cases hx : x ≤ 2147483647
  case neg =>
   rw [if_neg (by simpa using hx)]
   exact ⟨rfl, show NumAt w g x p 0 _ _ by unfold NumAt; rw [if_pos rfl, if_neg hx]; exact ⟨rfl, HB.out⟩⟩
  rw [if_pos (by simpa using hx)]
  have y1 : w3.cell? ⟨g, 1, none⟩ = some (.int .i64 p0) := (blk_cell HG1.out 1).trans rfl
  have z1 : w3.frozen? ⟨g, 1, none⟩ = false := blk_frozen HG1.out 1
  go_wp2_with fail
  go_ret
  unfold NumAt
  rw [if_pos rfl, if_pos hx]
  exact ⟨rfl, _, HB.out, rfl⟩
end Go.Proofs.Ytkddlhcpplkpbaa.G
end
section
namespace Go.Proofs.Ytkddlhcpplkpbaa.G
open WB Go.RowKit Go.Proofs.YtkddlhcpplkpbaaW.PrintWords Go.Proofs.YtkddlhcpplkpbaaW.PrintLast Go.Proofs.YtkddlhcpplkpbaaW.PrintMore
attribute [local go_sem] max2_int min2_int max_two min_two max_three min_three max_four min_four   -- for this text's walks alone
def slices_Clone_byte_byte.f (l0 : List Int) : Option (List Int) := if l0.length < 140737488355328 then some l0 else none
set_option maxHeartbeats 1000000 in
set_option maxRecDepth 100000 in
theorem slices_Clone_byte_byte.calls (A0 : Option Addr) (c0 : Nat) (l0 : List Int) (r : List Int) (w : World) (hr0 : Kd.C (Kd.int .u8) w A0 l0.length l0) (hc0 : l0.length ≤ c0) (h : slices_Clone_byte_byte.f l0 = some r) :
   Calls Try.prog 57 #[.slice A0 l0.length c0] w fun e w' => ∃ v0_ : Value, e = .returned (v0_) ∧ Kd.R (Kd.int .u8) 5 w' w.heap.size (fun _ => True) v0_ r ∧ Below w.heap.size w w' := by
 unfold slices_Clone_byte_byte.f at h
 split at h
 case isFalse => cases h
 case isTrue hl =>
 obtain rfl := Option.some.inj h
 clear h
 have HR0 := Aside0.mk hr0
 have HC0 := Aside0.mk hc0
 have HL := Aside0.mk hl
 clear hr0 hc0 hl
 rcases A0 with _ | ad
 · have hn : l0 = [] := by
    rcases Nat.eq_zero_or_pos l0.length with h0 | h0
    · exact List.eq_nil_of_length_eq_zero h0
    · obtain ⟨ad, h1, _⟩ := HR0.out.2.2 h0
      cases h1
   subst hn
   have heq : ∀ (W : World) (n c : Nat), (binOp .eql 22 (.slice none n c) (.slice none 0 0)).run Try.prog W = .ok (.bool true) W := fun W n c => Lib.run_eql_slice_nil W _ 5 none n c 0 0 Try.underlying22
   go_enter Try.func57, Try.ntmps57
   go_wp2
   go_ret
   exact ⟨_, rfl, Kd.R_nil _ _ _ _ _, Below.refl _ _⟩
 · have heq : ∀ (W : World) (a : Addr) (n c : Nat), (binOp .eql 22 (.slice (some a) n c) (.slice none 0 0)).run Try.prog W = .ok (.bool false) W := fun W a n c => Lib.run_eql_slice_nil W _ 5 (some a) n c 0 0 Try.underlying22
   go_enter Try.func57, Try.ntmps57
   go_wp2_with (first | ((with_reducible refine gate_dst (N := 5) rfl ?_); refine Kd.R_lit (Kd.int .u8) (w0 := w) w.heap.size 5 ?hg (N := 5) ?hd (xs := ([] : List Int)) (inner := []) (ok := fun _ => True) (okp := fun _ => True) ?hr (Reps.none _ _) (fun _ hk => hk) trivial (Below.refl _ _) (Nat.le_refl _) (by simp) ?_; (case hd => rfl); (case hg => rfl); (case hr => first | (go_simp; done) | (go_simp; rfl)); intro v1 w1 ho hb hg_ hnew_; clear hg_ hnew_; have HO := Aside0.mk ho; have HB1 := Aside0.mk hb; clear ho hb; obtain ⟨Ao, co, eo⟩ := Kd.R_slice HO.out; subst eo) | ((with_reducible refine gate_builtin (b := .append) (xs := #[.tmp 5, .tmp 6]) rfl ?_); at_builtin; refine Kd.R_append_rows (Kd.int .u8) (w0 := w) w.heap.size rfl (.tmp 5) (.tmp 6) 22 5 (.int .u8 0) 1 rfl Try.underlying22 info5 rfl (by decide) (by omega) _ ([] : List Int) l0 _ _ _ (fun _ => True) (fun _ => False) rfl rfl HO.out (Kd.C_below HR0.out HB1.out) (fun _ _ h => h) (fun _ h => h.elim) (fun _ _ => trivial) HB1.out HB1.out.size (by have := HL.out; simp; omega) ?_; intro v2 w2 ho2 hb2 hg2 hat2; rw [List.nil_append] at ho2; have HO2 := Aside0.mk ho2; have HB2 := Aside0.mk hb2; clear ho2 hb2 hg2 hat2))
   go_ret
   exact ⟨_, rfl, HO2.out, HB2.out⟩
end Go.Proofs.Ytkddlhcpplkpbaa.G
end
section
namespace Go.Proofs.Ytkddlhcpplkpbaa.G
open WB Go.RowKit Go.Proofs.YtkddlhcpplkpbaaW.PrintWords Go.Proofs.YtkddlhcpplkpbaaW.PrintLast Go.Proofs.YtkddlhcpplkpbaaW.PrintMore
attribute [local go_sem] max2_int min2_int max_two min_two max_three min_three max_four min_four   -- for this text's walks alone
def varint_Text.j0 : Nat → List Int → Int → Int → Bool → Option (List Int × Int × Int)
 | 0, _, _, _, _ => none
 | k + 1, x0, x1, x9, x23 => if x23 = true then (some (([] : List Int), 0, 5)) else (if x9 > (IntKind.u64.wrap (wrap64 ((x0.length : Int) - x1))) then (some (([] : List Int), 0, 8)) else (if 0 ≤ x1 then (if x1 ≤ (wrap64 (x1 + (wrap64 (x9)))) then (if (wrap64 (x1 + (wrap64 (x9)))) ≤ (x0.length : Int) then ((slices_Clone_byte_byte.f ((x0.take ((wrap64 (x1 + (wrap64 (x9)))) : Int).toNat).drop (x1 : Int).toNat)).bind fun t106 => (some (t106, wrap64 (x1 + (wrap64 (x9))), 0))) else (none)) else (none)) else (none)))
def varint_Text.f (k : Nat) (l0 : List Int) (a1 : Int) (a2 : Int) : Option (List Int × Int × Int) := (varint_Get.f l0 a1).bind fun bt102 => (if bt102.2.2 = 0 then (if a2 < 0 then (varint_Text.j0 k l0 bt102.2.1 bt102.1 true) else (varint_Text.j0 k l0 bt102.2.1 bt102.1 (decide (bt102.1 > (IntKind.u64.wrap (a2)))))) else (some (([] : List Int), 0, bt102.2.2)))
set_option maxHeartbeats 8000000 in
set_option maxRecDepth 100000 in
theorem varint_Text.calls (k : Nat) (A0 : Option Addr) (c0 : Nat) (l0 : List Int) (a1 : Int) (a2 : Int) (r1 : List Int) (r2 : Int) (r3 : Int) (w : World) (hr0 : Kd.C (Kd.int .u8) w A0 l0.length l0) (hc0 : l0.length ≤ c0) (h : varint_Text.f k l0 a1 a2 = some (r1, r2, r3)) :
   Calls Try.prog 56 #[.slice A0 l0.length c0, .int .i64 a1, .int .i64 a2] w fun e w' => ∃ v0_ : Value, e = .returned (.tuple #[v0_, .int .i64 r2, .int .i64 r3]) ∧ Kd.R (Kd.int .u8) 5 w' w.heap.size (fun _ => True) v0_ r1 ∧ Below w.heap.size w w' := by
 have HR0 := Aside0.mk hr0
 have HC0 := Aside0.mk hc0
 clear hr0 hc0
 have HB := Aside0.mk (Below.refl w.heap.size w)
 have H : ((varint_Get.f l0 a1).bind fun bt102 => (if bt102.2.2 = 0 then (if a2 < 0 then (varint_Text.j0 k l0 bt102.2.1 bt102.1 true) else (varint_Text.j0 k l0 bt102.2.1 bt102.1 (decide (bt102.1 > (IntKind.u64.wrap (a2)))))) else (some (([] : List Int), 0, bt102.2.2)))) = some (r1, r2, r3) := h
 clear h
 replace H := Option.bind_eq_some_iff.mp H
 obtain ⟨⟨t102, t103, t104⟩, A40, H⟩ := H
 replace H : (if t104 = 0 then (if a2 < 0 then (varint_Text.j0 k l0 t103 t102 true) else (varint_Text.j0 k l0 t103 t102 (decide (t102 > (IntKind.u64.wrap (a2)))))) else (some (([] : List Int), 0, t104))) = some (r1, r2, r3) := H
 have A4 := Aside0.mk A40
 clear A40
 by_cases c5 : t104 = 0
 · rw [if_pos c5] at H
   have c5b0 : (t104 == 0) = true := beq_iff_eq.mpr c5
   have c5b1 : (t104 != 0) = false := bne_eq_false_iff_eq.mpr c5
   clear c5
   have HC6 := Aside0.mk H
   clear H
   go_enter Try.func56, Try.ntmps56
   go_upto_region 4 with (first | ((with_reducible refine gate_callee (f := 52) rfl ?_); refine goesL_ (some 15) rfl rfl Try.func52 (by kernel_rfl) rfl #[.slice A0 l0.length c0, .int .i64 a1] rfl (by (try simp only [List.map_toArray, List.map_cons, List.map_nil]); first | done | rfl | (simp only [List.length_drop, List.length_take]; rfl)) ?_; (with_reducible refine (varint_Get.calls _ _ l0 a1 t102 t103 t104 _ ?side1 ?side2 A4.out).mono ?_); (case side1 => repeat (first | exact HR0.out | (with_reducible refine Kd.C_alloc ?_ _) | (with_reducible refine Kd.C_drewN ?_ _) | (with_reducible refine Kd.C_drew ?_))); (case side2 => exact HC0.out); rintro e w' ⟨rfl, ⟨nd, rfl⟩⟩; refine ⟨_, rfl, ?_⟩))
   (try simp only [Act.put, List.setIfInBounds_toArray, List.set_cons_zero, List.set_cons_succ])
   go_cut [23] (fun v23 wc => ∃ (kq : Nat) (x23_5 : Bool), v23 = .bool x23_5 ∧ Aside0 (varint_Text.j0 kq l0 t103 t102 x23_5 = some (r1, r2, r3)) ∧ Aside0 (kq ≤ k) ∧ Aside0 (Below w.heap.size w wc))
   case first =>
    have H := HC6.out
    clear HC6
    by_cases c7 : a2 < 0
    · rw [if_pos c7] at H
      have c7b0 : decide (a2 < 0) = true := decide_eq_true c7
      clear c7
      (first | rw [c7b0] | (simp only [i64_w, i32_w]; rw [c7b0]) | skip)
      have H' := Aside0.mk H
      clear H
      go_wp2
      go_meet
      case rel => exact ⟨_, (true), (by first | rfl | (simp; done) | (simp [*]; done)), H', ⟨by first | omega | exact Nat.le_refl _⟩, ⟨by repeat (first | (with_reducible first | exact HB.out | apply below_alloc | apply pw_below_drewN | apply below_drew1) | exact HB.out)⟩⟩
    · rw [if_neg c7] at H
      have c7b0 : decide (a2 < 0) = false := decide_eq_false c7
      clear c7
      (first | rw [c7b0] | (simp only [i64_w, i32_w]; rw [c7b0]) | skip)
      have H' := Aside0.mk H
      clear H
      go_wp2
      go_meet
      case rel => exact ⟨_, (decide (t102 > (IntKind.u64.wrap (a2)))), (by first | rfl | (simp; done) | (simp [*]; done)), H', ⟨by first | omega | exact Nat.le_refl _⟩, ⟨by repeat (first | (with_reducible first | exact HB.out | apply below_alloc | apply pw_below_drewN | apply below_drew1) | exact HB.out)⟩⟩
   case rest =>
    clear HC6
    try clear p2
    try clear c5
    try clear c5b0
    try clear c5b1
    try clear c7
    try clear c7b0
    obtain ⟨kq, x23_5, rfl, HA, HJ5, HB⟩ := hcut
    cases kq with
    | zero => exact absurd HA.out (by simp [varint_Text.j0])
    | succ kj5 =>
      have H := HA.out
      clear HA
      simp only [varint_Text.j0] at H
      by_cases c8 : x23_5 = true
      · subst c8
        have H1 : (some (([] : List Int), 0, 5)) = some (r1, r2, r3) := by rw [if_pos rfl] at H; exact H
        clear H
        have H := H1
        clear H1
        simp only [Option.some.injEq, Prod.mk.injEq] at H
        obtain ⟨rfl, rfl, rfl⟩ := H
        go_wp2
        go_ret3
        exact ⟨_, by first | rfl | (simp [errW_none, errW_some] <;> rfl) | (simp [*, errW_none, errW_some] <;> rfl), by first | exact Kd.R_nil _ _ _ _ _ | exact Kd.N_nil _ _ _ _ _ | exact Kd.V_nil _ _ _ _ _ | exact Kd.Q_nil _ _ _ _ _ | exact Kd.S_nil _ _ _ _ _, by repeat (first | (with_reducible first | exact HB.out | apply below_alloc | apply pw_below_drewN | apply below_drew1) | exact HB.out)⟩
      · replace c8 := Bool.eq_false_iff.mpr c8
        subst c8
        have H1 : (if t102 > (IntKind.u64.wrap (wrap64 ((l0.length : Int) - t103))) then (some (([] : List Int), 0, 8)) else (if 0 ≤ t103 then (if t103 ≤ (wrap64 (t103 + (wrap64 (t102)))) then (if (wrap64 (t103 + (wrap64 (t102)))) ≤ (l0.length : Int) then ((slices_Clone_byte_byte.f ((l0.take ((wrap64 (t103 + (wrap64 (t102)))) : Int).toNat).drop (t103 : Int).toNat)).bind fun t106 => (some (t106, wrap64 (t103 + (wrap64 (t102))), 0))) else (none)) else (none)) else (none))) = some (r1, r2, r3) := by rw [if_neg (show ¬ (false = true) by decide)] at H; exact H
        clear H
        have H := H1
        clear H1
        by_cases c9 : t102 > (IntKind.u64.wrap (wrap64 ((l0.length : Int) - t103)))
        · rw [if_pos c9] at H
          have c9b0 : decide ((IntKind.u64.wrap (wrap64 ((l0.length : Int) - t103))) < t102) = true := decide_eq_true c9
          clear c9
          simp only [Option.some.injEq, Prod.mk.injEq] at H
          obtain ⟨rfl, rfl, rfl⟩ := H
          go_wp2
          go_ret3
          exact ⟨_, by first | rfl | (simp [errW_none, errW_some] <;> rfl) | (simp [*, errW_none, errW_some] <;> rfl), by first | exact Kd.R_nil _ _ _ _ _ | exact Kd.N_nil _ _ _ _ _ | exact Kd.V_nil _ _ _ _ _ | exact Kd.Q_nil _ _ _ _ _ | exact Kd.S_nil _ _ _ _ _, by repeat (first | (with_reducible first | exact HB.out | apply below_alloc | apply pw_below_drewN | apply below_drew1) | exact HB.out)⟩
        · rw [if_neg c9] at H
          have c9b0 : decide ((IntKind.u64.wrap (wrap64 ((l0.length : Int) - t103))) < t102) = false := decide_eq_false c9
          clear c9
          by_cases c10 : 0 ≤ t103
          · rw [if_pos c10] at H
            have c10b0 := eq_true c10
            have c10b1 : decide (0 ≤ t103) = true := decide_eq_true c10
            clear c10
            by_cases c11 : t103 ≤ (wrap64 (t103 + (wrap64 (t102))))
            · rw [if_pos c11] at H
              have c11b0 := eq_true c11
              have c11b1 : decide (t103 ≤ (wrap64 (t103 + (wrap64 (t102))))) = true := decide_eq_true c11
              by_cases c12 : (wrap64 (t103 + (wrap64 (t102)))) ≤ (l0.length : Int)
              · rw [if_pos c12] at H
                have c12b0 := eq_true c12
                have c12b1 : decide ((wrap64 (t103 + (wrap64 (t102)))) ≤ (l0.length : Int)) = true := decide_eq_true c12
                replace H := Option.bind_eq_some_iff.mp H
                obtain ⟨t106, A130, H⟩ := H
                replace H : (some (t106, wrap64 (t103 + (wrap64 (t102))), 0)) = some (r1, r2, r3) := H
                have A13 := Aside0.mk A130
                clear A130
                simp only [Option.some.injEq, Prod.mk.injEq] at H
                obtain ⟨rfl, rfl, rfl⟩ := H
                obtain ⟨i014, hi014, _, hsz14, _⟩ := info_parts info5
                obtain ⟨A14, hcut14, hA14, hC14⟩ := print_mid_of (P := Try.prog) (Value.int .u8) 0 22 5 .i64 .i64 Try.underlying22 hi014 hsz14 A0 c0 l0 t103 (wrap64 (t103 + (wrap64 (t102)))) (of_decide_eq_true (by assumption)) (by first | omega | exact of_decide_eq_true (by assumption)) (of_decide_eq_true (by assumption)) HC0.out
                have HR105 := Aside0.mk (Kd.C_of_reads (h1 := fun _ => rfl) (hA14 _ (Kd.reads_of_C HR0.out)))
                have HC105 := Aside0.mk hC14
                clear hA14 hC14 hi014 hsz14
                go_wp2_with (first | ((with_reducible refine gate_callee (f := 57) rfl ?_); refine goesL_ (some 48) rfl rfl Try.func57 (by kernel_rfl) rfl #[.slice A14 ((l0.take ((wrap64 (t103 + (wrap64 (t102)))) : Int).toNat).drop (t103 : Int).toNat).length (c0 - t103.toNat)] rfl (by (try simp only [List.map_toArray, List.map_cons, List.map_nil]); first | done | (rw [show ((l0.take ((wrap64 (t103 + (wrap64 (t102)))) : Int).toNat).drop (t103 : Int).toNat).length = ((wrap64 (t103 + (wrap64 (t102)))).toNat - t103.toNat) from (by rw [List.length_drop, List.length_take]; have h_ : ((wrap64 (t103 + (wrap64 (t102)))) : Int) ≤ (l0.length : Int) := of_decide_eq_true (by assumption); omega)] <;> rfl) | rfl | (simp only [List.length_drop, List.length_take]; rfl)) ?_; (with_reducible refine (slices_Clone_byte_byte.calls _ _ ((l0.take ((wrap64 (t103 + (wrap64 (t102)))) : Int).toNat).drop (t103 : Int).toNat) t106 _ ?side1 ?side2 A13.out).mono ?_); (case side1 => repeat (first | exact (Kd.C_below HR105.out HB.out) | (with_reducible refine Kd.C_alloc ?_ _) | (with_reducible refine Kd.C_drewN ?_ _) | (with_reducible refine Kd.C_drew ?_))); (case side2 => exact HC105.out); rintro e w15 ⟨v107, rfl, ho0, hb⟩; refine ⟨_, rfl, ?_⟩; have n0_ := Aside0.mk (Kd.R_lower ho0 (below_size (by repeat (first | (with_reducible first | exact HB.out | apply below_alloc | apply pw_below_drewN | apply below_drew1) | exact HB.out)))); have n1_ := Aside0.mk (below_step (by repeat (first | (with_reducible first | exact HB.out | apply below_alloc | apply pw_below_drewN | apply below_drew1) | exact HB.out)) hb); clear HB; have HO108 := n0_; have HB := n1_; clear n0_ n1_; (try clear hb); (try clear hb2); (try clear hk); (try clear hi); (try clear ho0)))
                go_ret3
                exact ⟨_, by first | rfl | (simp [errW_none, errW_some] <;> rfl) | (simp [*, errW_none, errW_some] <;> rfl), by (with_reducible repeat (first | apply Kd.R_alloc | apply Kd.R_drewN | apply Kd.R_drew)); exact HO108.out, by repeat (first | (with_reducible first | exact HB.out | apply below_alloc | apply pw_below_drewN | apply below_drew1) | exact HB.out)⟩
              · rw [if_neg c12] at H
                exact absurd H (by simp)
            · rw [if_neg c11] at H
              exact absurd H (by simp)
          · rw [if_neg c10] at H
            exact absurd H (by simp)
 · rw [if_neg c5] at H
   have c5b0 : (t104 == 0) = false := beq_eq_false_iff_ne.mpr c5
   have c5b1 : (t104 != 0) = true := bne_iff_ne.mpr c5
   simp only [Option.some.injEq, Prod.mk.injEq] at H
   obtain ⟨rfl, rfl, rfl⟩ := H
   go_enter Try.func56, Try.ntmps56
   go_wp2_with (first | ((with_reducible refine gate_callee (f := 52) rfl ?_); refine goesL_ (some 15) rfl rfl Try.func52 (by kernel_rfl) rfl #[.slice A0 l0.length c0, .int .i64 a1] rfl (by (try simp only [List.map_toArray, List.map_cons, List.map_nil]); first | done | rfl | (simp only [List.length_drop, List.length_take]; rfl)) ?_; (with_reducible refine (varint_Get.calls _ _ l0 a1 t102 t103 t104 _ ?side1 ?side2 A4.out).mono ?_); (case side1 => repeat (first | exact HR0.out | (with_reducible refine Kd.C_alloc ?_ _) | (with_reducible refine Kd.C_drewN ?_ _) | (with_reducible refine Kd.C_drew ?_))); (case side2 => exact HC0.out); rintro e w' ⟨rfl, ⟨nd, rfl⟩⟩; refine ⟨_, rfl, ?_⟩))
   go_ret3
   exact ⟨_, by first | rfl | (simp [errW_none, errW_some] <;> rfl) | (simp [*, errW_none, errW_some] <;> rfl), by first | exact Kd.R_nil _ _ _ _ _ | exact Kd.N_nil _ _ _ _ _ | exact Kd.V_nil _ _ _ _ _ | exact Kd.Q_nil _ _ _ _ _ | exact Kd.S_nil _ _ _ _ _, by repeat (first | (with_reducible first | exact HB.out | apply below_alloc | apply pw_below_drewN | apply below_drew1) | exact HB.out)⟩
end Go.Proofs.Ytkddlhcpplkpbaa.G
end
