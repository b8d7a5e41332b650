/- MessageOwn: texts of this claim, packed: what the kit's print has written for it and own texts, without what its proof does not reach. -/
import Derived.Test.YtkddlhcpplkpbaaKMessageOwn13
import Derived.Test.YtkddlhcpplkpbaaKMessageOwn14
import Derived.Test.YtkddlhcpplkpbaaKMessageOwn15
import Derived.Test.YtkddlhcpplkpbaaKMessageOwn25
import Derived.Test.YtkddlhcpplkpbaaKMessageOwn27
import Derived.Test.YtkddlhcpplkpbaaKMessageOwn28
import Derived.Test.YtkddlhcpplkpbaaKMessageOwn29
set_option linter.unusedVariables false
set_option linter.unusedSimpArgs false
set_option linter.unusedSectionVars false
section
namespace Go.Proofs.Ytkddlhcpplkpbaa.G
open WB Go.RowKit Go.Proofs.YtkddlhcpplkpbaaW.PrintWords Go.Proofs.YtkddlhcpplkpbaaW.PrintLast Go.Proofs.YtkddlhcpplkpbaaW.PrintMore
attribute [local go_sem] max2_int min2_int max_two min_two max_three min_three max_four min_four   -- for this text's walks alone
set_option linter.unusedVariables false
set_option linter.unusedSimpArgs false
def waybillref01_Texts.f (k : Nat) (l0 : List Int) (l1 : List Int) : Option (List Int) := (waybillref01_Put.f k l0 (IntKind.u64.wrap ((l1.length : Int)))).bind fun t198 => (if t198.length + l1.length < 140737488355328 then (some (t198 ++ l1)) else (none))
set_option maxHeartbeats 8000000 in
set_option maxRecDepth 100000 in
theorem waybillref01_Texts.calls (k : Nat) (A0 : Option Addr) (c0 : Nat) (l0 : List Int) (A1 : Option Addr) (c1 : Nat) (l1 : List Int) (r : List Int) (w : World) (hr0 : Kd.C (Kd.int .u8) w A0 l0.length l0) (hc0 : l0.length ≤ c0) (hr1 : Kd.C (Kd.int .u8) w A1 l1.length l1) (hc1 : l1.length ≤ c1) (h : waybillref01_Texts.f k l0 l1 = some r) :
    Calls Try.prog 44 #[.slice A0 l0.length c0, .slice A1 l1.length c1] w fun e w' => ∃ v0_ : Value, e = .returned (v0_) ∧ Kd.R (Kd.int .u8) 5 w' w.heap.size (fun _ => True) v0_ r ∧ Below w.heap.size w w' := by
  have HR0 := Aside0.mk hr0
  have HC0 := Aside0.mk hc0
  clear hr0 hc0
  have HR1 := Aside0.mk hr1
  have HC1 := Aside0.mk hc1
  clear hr1 hc1
  have HB := Aside0.mk (Below.refl w.heap.size w)
  have H : ((waybillref01_Put.f k l0 (IntKind.u64.wrap ((l1.length : Int)))).bind fun t198 => (if t198.length + l1.length < 140737488355328 then (some (t198 ++ l1)) else (none))) = some r := h
  clear h
  replace H := Option.bind_eq_some_iff.mp H
  obtain ⟨t198, A30, H⟩ := H
  replace H : (if t198.length + l1.length < 140737488355328 then (some (t198 ++ l1)) else (none)) = some r := H
  have A3 := Aside0.mk A30
  clear A30
  by_cases c4 : t198.length + l1.length < 140737488355328
  · rw [if_pos c4] at H
    have LMc4 := Aside0.mk c4
    clear c4
    obtain ⟨y201, hy201⟩ : ∃ y_ : List Int, y_ = (t198 ++ l1) := ⟨_, rfl⟩
    replace H : (some y201) = some r := by first | (rw [hy201]; with_reducible exact H) | (have H2_ := (Option.bind_some _ _).symm.trans H; rw [hy201]; with_reducible exact H2_) | (have H2_ := (Option.bind_some _ _).symm.trans H; with_reducible exact H2_) | with_reducible exact H | (rw [hy201]; exact H) | exact H
    have Ny201 := Aside0.mk hy201
    clear hy201
    obtain rfl := Option.some.inj H
    simp only [Option.some.injEq, Prod.mk.injEq] at H
    obtain ⟨rfl⟩ := H
    go_enter Try.func44, Try.ntmps44
    go_wp2_with (first | ((with_reducible refine gate_callee (f := 43) rfl ?_); refine goesL_ (some 9) rfl rfl Try.func43 (by kernel_rfl) rfl #[.slice A0 l0.length c0, .int .u64 (IntKind.u64.wrap ((l1.length : Int)))] rfl (by (try simp only [List.map_toArray, List.map_cons, List.map_nil]); first | done | rfl | (simp only [List.length_drop, List.length_take]; rfl)) ?_; (with_reducible refine (waybillref01_Put.calls k _ _ l0 (IntKind.u64.wrap ((l1.length : Int))) t198 _ ?side1 ?side2 A3.out).mono ?_); (case side1 => repeat (first | exact HR0.out | (with_reducible refine Kd.C_alloc ?_ _) | (with_reducible refine Kd.C_drewN ?_ _) | (with_reducible refine Kd.C_drew ?_))); (case side2 => exact HC0.out); rintro e w5 ⟨v199, rfl, ho0, hb⟩; refine ⟨_, rfl, ?_⟩; have n0_ := Aside0.mk (Kd.R_lower ho0 (below_size (by repeat (first | (with_reducible first | exact HB.out | apply below_alloc | apply pw_below_drewN | apply below_drew1) | exact HB.out)))); have n1_ := Aside0.mk (below_step (by repeat (first | (with_reducible first | exact HB.out | apply below_alloc | apply pw_below_drewN | apply below_drew1) | exact HB.out)) hb); clear HB; have HO200 := n0_; have HB := n1_; clear n0_ n1_; (try clear hb); (try clear hb2); (try clear hk); (try clear hi); (try clear ho0)) | ((with_reducible refine gate_builtin (b := .append) (xs := #[.tmp 9, .tmp 10]) rfl ?_); at_builtin; refine Kd.R_append_rows (Kd.int .u8) (w0 := w) w.heap.size rfl (.tmp 9) (.tmp 10) 22 5 (.int .u8 0) 1 rfl Try.underlying22 info5 rfl (by decide) (by omega) v199 t198 l1 _ _ _ (fun _ => True) (fun _ => False) rfl rfl ?aO ?aR (fun _ _ h => h) (fun _ h => h.elim) ?aF ?aB ?aS ?aL ?_; (case aR => repeat (first | exact (Kd.C_below HR1.out HB.out) | (with_reducible refine Kd.C_alloc ?_ _) | (with_reducible refine Kd.C_drewN ?_ _) | (with_reducible refine Kd.C_drew ?_))); (case aB => exact (by repeat (first | (with_reducible first | exact HB.out | apply below_alloc | apply pw_below_drewN | apply below_drew1) | exact HB.out))); (case aF => exact (fun _ _ => trivial)); (case aO => exact (by (with_reducible repeat (first | apply Kd.R_alloc | apply Kd.R_drewN | apply Kd.R_drew)); exact HO200.out)); (case aS => exact (below_size (by repeat (first | (with_reducible first | exact HB.out | apply below_alloc | apply pw_below_drewN | apply below_drew1) | exact HB.out)))); (case aL => have := LMc4.out; omega); intro v202 w6 ho hb hg hat; rw [← Ny201.out] at ho; have n0_ := Aside0.mk (hb); have n1_ := Aside0.mk (ho); clear HB; clear HO200; have HB := n0_; have HO203 := n1_; clear n0_ n1_; clear ho hb hg hat))
    go_ret
    exact ⟨_, by first | rfl | (simp [errW_none, errW_some] <;> rfl) | (simp [*, errW_none, errW_some] <;> rfl), by (with_reducible repeat (first | apply Kd.R_alloc | apply Kd.R_drewN | apply Kd.R_drew)); exact HO203.out, by repeat (first | (with_reducible first | exact HB.out | apply below_alloc | apply pw_below_drewN | apply below_drew1) | exact HB.out)⟩
  · rw [if_neg c4] at H
    exact absurd H (by simp)
end Go.Proofs.Ytkddlhcpplkpbaa.G
end

section
namespace Go.Proofs.Ytkddlhcpplkpbaa.G
open WB Go.RowKit Go.Proofs.YtkddlhcpplkpbaaW.PrintWords Go.Proofs.YtkddlhcpplkpbaaW.PrintLast Go.Proofs.YtkddlhcpplkpbaaW.PrintMore
attribute [local go_sem] max2_int min2_int max_two min_two max_three min_three max_four min_four   -- for this text's walks alone
set_option linter.unusedVariables false
set_option linter.unusedSimpArgs false
/-- Numbers put behind octets, one after the other. -/
def waybillref09_Encode.l0 (k : Nat) : List Int → List Int → Option (List Int)
  | b, [] => some b
  | b, x :: xs => (waybillref01_Put.f k b (IntKind.u64.wrap x)).bind fun b' => waybillref09_Encode.l0 k b' xs
def waybillref09_Encode.f (k : Nat) (a0_0 : Int) (a0_1 : Int) (a0_2 : Int) (a0_3 : Int) (a0_4 : Int) (a0_5 : Int) (a0_6 : Int) (a0_7 : Int) (a0_8 : Int) (a0_9 : Int) (a0_10 : Int) (l0_11 : List Int) : Option (List Int × Int) := (waybillref09_Check.f a0_0 a0_1 a0_2 a0_3 a0_4 a0_5 a0_6 a0_7 a0_8 a0_9 a0_10 l0_11).bind fun e => if e = 0 then (waybillref01_Put.f k [] (IntKind.u64.wrap a0_0)).bind fun b1 => (waybillref01_Put.f k b1 (IntKind.u64.wrap a0_2)).bind fun b2 => (waybillref09_Encode.l0 k b2 ((ixOf a0_0).map fun j => ([a0_0, a0_1, a0_2, a0_3, a0_4, a0_5, a0_6, a0_7, a0_8, a0_9, a0_10] : List Int).getD j 0)).bind fun b => (if dat a0_0 = true then (waybillref01_Texts.f k b l0_11).bind fun b => some (b, 0) else some (b, 0)) else some ([], e)
set_option maxHeartbeats 4000000 in
set_option maxRecDepth 100000 in
theorem waybillref09_Encode.calls (k : Nat) (a0_0 : Int) (a0_1 : Int) (a0_2 : Int) (a0_3 : Int) (a0_4 : Int) (a0_5 : Int) (a0_6 : Int) (a0_7 : Int) (a0_8 : Int) (a0_9 : Int) (a0_10 : Int) (A0_11 : Option Addr) (c0_11 : Nat) (l0_11 : List Int) (r1 : List Int) (r2 : Int) (w : World) (hr0_11 : Kd.C (Kd.int .u8) w A0_11 l0_11.length l0_11) (hc0_11 : l0_11.length ≤ c0_11) (h : waybillref09_Encode.f k a0_0 a0_1 a0_2 a0_3 a0_4 a0_5 a0_6 a0_7 a0_8 a0_9 a0_10 l0_11 = some (r1, r2)) :
    Calls Try.prog 19 #[.agg #[.int .i64 a0_0, .int .i64 a0_1, .int .i64 a0_2, .int .i64 a0_3, .int .i64 a0_4, .int .i64 a0_5, .int .i64 a0_6, .int .i64 a0_7, .int .i64 a0_8, .int .i64 a0_9, .int .i64 a0_10, .slice A0_11 l0_11.length c0_11]] w fun e w' => ∃ v0_ : Value, e = .returned (.tuple #[v0_, .int .i64 r2]) ∧ Kd.R (Kd.int .u8) 5 w' w.heap.size (fun _ => True) v0_ r1 ∧ Below w.heap.size w w' := by
  unfold waybillref09_Encode.f at h
  have HR := Aside0.mk hr0_11
  have HC := Aside0.mk hc0_11
  obtain ⟨ec, hce, h⟩ := Option.bind_eq_some_iff.1 h
  have HCE := Aside0.mk hce
  have HH := Aside0.mk h
  clear hr0_11 hc0_11 h hce
  go_enter Try.func19, Try.ntmps19
  go_wp2_with fail
  go_at_call 25
  obtain ⟨W0, hW0⟩ : ∃ W, W = w.alloc (.cells #[.int .i64 a0_0, .int .i64 a0_1, .int .i64 a0_2, .int .i64 a0_3, .int .i64 a0_4, .int .i64 a0_5, .int .i64 a0_6, .int .i64 a0_7, .int .i64 a0_8, .int .i64 a0_9, .int .i64 a0_10, .slice A0_11 l0_11.length c0_11] 25) := ⟨_, rfl⟩
  rw [← hW0]
  have BM := Aside0.mk (show W0.heap[w.heap.size]? = some (.cells #[.int .i64 a0_0, .int .i64 a0_1, .int .i64 a0_2, .int .i64 a0_3, .int .i64 a0_4, .int .i64 a0_5, .int .i64 a0_6, .int .i64 a0_7, .int .i64 a0_8, .int .i64 a0_9, .int .i64 a0_10, .slice A0_11 l0_11.length c0_11] 25 (0, 0)) by rw [hW0]; exact heap_new1 _ _)
  have HB := Aside0.mk (show Below w.heap.size w W0 by rw [hW0]; exact below_alloc (Below.refl _ _) _)
  clear hW0
  with_reducible refine (waybillref09_Check.calls a0_0 a0_1 a0_2 a0_3 a0_4 a0_5 a0_6 a0_7 a0_8 a0_9 a0_10 A0_11 c0_11 l0_11 ec _ (Kd.C_below HR.out HB.out) HC.out HCE.out).mono ?_
  rintro e w1 ⟨rfl, hb⟩
  have BM1 := Aside0.mk (blk_below BM.out hb)
  have HB1 := Aside0.mk (below_then HB.out HB.out.size hb)
  clear hb BM HB
  by_cases he : ec = 0
  case neg =>
    have b1 : (ec != 0) = true := by simpa using he
    have hh := (if_neg he).symm.trans HH.out
    simp only [Option.some.injEq, Prod.mk.injEq] at hh
    obtain ⟨rfl, rfl⟩ := hh
    clear he HH
    go_wp2_with fail
    go_ret2
    exact ⟨_, rfl, Kd.R_nil _ _ _ _ _, HB1.out⟩
  subst he
  have hh := (if_pos rfl).symm.trans HH.out
  obtain ⟨b1, hb1, hh⟩ := Option.bind_eq_some_iff.1 hh
  obtain ⟨b2, hb2, hh⟩ := Option.bind_eq_some_iff.1 hh
  obtain ⟨b9, hb9, hh⟩ := Option.bind_eq_some_iff.1 hh
  obtain ⟨ns, hns⟩ : ∃ ns : List Int, ns = [a0_0, a0_1, a0_2, a0_3, a0_4, a0_5, a0_6, a0_7, a0_8, a0_9, a0_10] := ⟨_, rfl⟩
  obtain ⟨ix, hix⟩ : ∃ ix, ix = ixOf a0_0 := ⟨_, rfl⟩
  rw [← hns, ← hix] at hb9
  have P1 := Aside0.mk hb1
  have P2 := Aside0.mk hb2
  have P9 := Aside0.mk hb9
  have HZ := Aside0.mk hh
  have NS := Aside0.mk hns
  have IX := Aside0.mk hix
  clear HH hh hb1 hb2 hb9 hns hix HCE
  have q0 : w1.cell? ⟨w.heap.size, 0, none⟩ = some (.int .i64 a0_0) := (blk_cell BM1.out 0).trans rfl
  have q2 : w1.cell? ⟨w.heap.size, 2, none⟩ = some (.int .i64 a0_2) := (blk_cell BM1.out 2).trans rfl
  go_wp2_with fail
  refine region_facts (B := _) (w0 := _) [(13, (fun v _ => v = .pointer (some ⟨w.heap.size, 0, none⟩))), (14, (fun v _ => v = .int .i64 a0_0)), (15, (fun v _ => v = .int .u64 (IntKind.u64.wrap a0_0))), (16, (fun v W => ∃ A1 c1, v = .slice A1 b1.length c1 ∧ b1.length ≤ c1 ∧ Kd.C (Kd.int .u8) W A1 b1.length b1)), (17, (fun v _ => v = .pointer (some ⟨w.heap.size, 2, none⟩))), (18, (fun v _ => v = .int .i64 a0_2)), (19, (fun v _ => v = .int .u64 (IntKind.u64.wrap a0_2))), (20, (fun v W => ∃ A1 c1, v = .slice A1 b2.length c1 ∧ Kd.R (Kd.int .u8) 5 W w.heap.size (fun _ => True) (.slice A1 b2.length c1) b2)), (5, (fun v W => ∃ A1 c1, v = .slice A1 b2.length c1 ∧ Kd.R (Kd.int .u8) 5 W w.heap.size (fun _ => True) (.slice A1 b2.length c1) b2))] (by kernel_rfl) (by kernel_rfl) (by rfl) (show ([13, 14, 15, 16, 17, 18, 19, 20, 5] : List Nat).Nodup by decide) ?hsz ?hst (Below.refl _ _) (Nat.le_refl _) ?step ?fin
  case hsz => exact List.forall_mem_cons.2 ⟨(show 13 < 48 by decide), List.forall_mem_cons.2 ⟨(show 14 < 48 by decide), List.forall_mem_cons.2 ⟨(show 15 < 48 by decide), List.forall_mem_cons.2 ⟨(show 16 < 48 by decide), List.forall_mem_cons.2 ⟨(show 17 < 48 by decide), List.forall_mem_cons.2 ⟨(show 18 < 48 by decide), List.forall_mem_cons.2 ⟨(show 19 < 48 by decide), List.forall_mem_cons.2 ⟨(show 20 < 48 by decide), List.forall_mem_cons.2 ⟨(show 5 < 48 by decide), fun _ h => nomatch h⟩⟩⟩⟩⟩⟩⟩⟩⟩
  case hst => exact List.forall_mem_cons.2 ⟨(fun v w1 w2 hb h => h), List.forall_mem_cons.2 ⟨(fun v w1 w2 hb h => h), List.forall_mem_cons.2 ⟨(fun v w1 w2 hb h => h), List.forall_mem_cons.2 ⟨(fun v w1 w2 hb h => (by obtain ⟨A1, c1, h1, h2, h3⟩ := h; exact ⟨A1, c1, h1, h2, Kd.C_below h3 hb⟩)), List.forall_mem_cons.2 ⟨(fun v w1 w2 hb h => h), List.forall_mem_cons.2 ⟨(fun v w1 w2 hb h => h), List.forall_mem_cons.2 ⟨(fun v w1 w2 hb h => h), List.forall_mem_cons.2 ⟨(fun v w1 w2 hb h => (by obtain ⟨A1, c1, h1, h2⟩ := h; exact ⟨A1, c1, h1, Kd.R_below h2 hb⟩)), List.forall_mem_cons.2 ⟨(fun v w1 w2 hb h => (by obtain ⟨A1, c1, h1, h2⟩ := h; exact ⟨A1, c1, h1, Kd.R_below h2 hb⟩)), fun _ h => nomatch h⟩⟩⟩⟩⟩⟩⟩⟩⟩
  case step =>
    intro i_ o_ e_ ho he a w1_ hs hdf hfr hbl hbs hpre
    match i_, ho, he with
    | 0, ho, he => obtain rfl : o_ = ⟨_, _, _, _, _, _⟩ := (Option.some.inj ho).symm; obtain rfl := Option.some.inj he; clear he; have f1 : a.tmps.getD 1 undef = .pointer (some ⟨w.heap.size, 0, none⟩) := (by rw [Array.getD_eq_getD_getElem?, hfr 1 (show ¬ 1 ∈ ([13, 14, 15, 16, 17, 18, 19, 20, 5] : List Nat) by decide)]; rfl); clear hpre hfr; refine wpOp_value (v := .pointer (some ⟨w.heap.size, 0, none⟩)) ho rfl ?_ ⟨_, rfl, rfl, Below.refl _ _⟩; simp only [execOp, Act.eval, List.map_toArray, List.map_cons, List.map_nil, f1]; first | rfl | (go_simp; done) | (go_simp; rfl) | (go_simp; intro h_; exfalso; omega)
    | 1, ho, he => obtain rfl : o_ = ⟨_, _, _, _, _, _⟩ := (Option.some.inj ho).symm; obtain rfl := Option.some.inj he; clear he; have e13 : a.tmps.getD 13 undef = .pointer (some ⟨w.heap.size, 0, none⟩) := hpre ⟨0, .data⟩ (by simp) rfl _ rfl; clear hpre hfr; have k_q0 := (hbl.cell (World.block_lt_of_cell? _ _ q0)).trans q0; refine wpOp_value (v := .int .i64 a0_0) ho rfl ?_ ⟨_, rfl, rfl, Below.refl _ _⟩; simp only [execOp, Act.eval, List.map_toArray, List.map_cons, List.map_nil, e13]; first | rfl | (go_simp; done) | (go_simp; rfl) | (go_simp; intro h_; exfalso; omega)
    | 2, ho, he => obtain rfl : o_ = ⟨_, _, _, _, _, _⟩ := (Option.some.inj ho).symm; obtain rfl := Option.some.inj he; clear he; have e14 : a.tmps.getD 14 undef = .int .i64 a0_0 := hpre ⟨1, .data⟩ (by simp) rfl _ rfl; clear hpre hfr; refine wpOp_value (v := .int .u64 (IntKind.u64.wrap a0_0)) ho rfl ?_ ⟨_, rfl, rfl, Below.refl _ _⟩; simp only [execOp, Act.eval, List.map_toArray, List.map_cons, List.map_nil, e14]; first | rfl | (go_simp; done) | (go_simp; rfl) | (go_simp; intro h_; exfalso; omega)
    | 3, ho, he => obtain rfl : o_ = ⟨_, _, _, _, _, _⟩ := (Option.some.inj ho).symm; obtain rfl := Option.some.inj he; clear he; have e15 : a.tmps.getD 15 undef = .int .u64 (IntKind.u64.wrap a0_0) := hpre ⟨2, .data⟩ (by simp) rfl _ rfl; clear hpre hfr; refine wpOp_call (fn := Try.f43) ho rfl rfl rfl rfl #[.slice none ([] : List Int).length 0, .int .u64 (IntKind.u64.wrap a0_0)] rfl (by simp only [List.map_toArray, List.map_cons, List.map_nil, Act.eval, e15]; rfl) ?_; refine (waybillref01_Put.calls k none 0 [] (IntKind.u64.wrap a0_0) b1 w1_ (Kd.C_nil _ _) (Nat.le_refl _) P1.out).mono ?_; rintro e w2 ⟨v2, rfl, hr2, hb⟩; obtain ⟨A2, c2, rfl⟩ := Kd.R_slice hr2; exact ⟨_, rfl, ⟨_, rfl, ⟨A2, c2, rfl, (Kd.R_reads' hr2).2.1, (Kd.R_reads' hr2).2.2⟩, hb⟩⟩
    | 4, ho, he => obtain rfl : o_ = ⟨_, _, _, _, _, _⟩ := (Option.some.inj ho).symm; obtain rfl := Option.some.inj he; clear he; have f1 : a.tmps.getD 1 undef = .pointer (some ⟨w.heap.size, 0, none⟩) := (by rw [Array.getD_eq_getD_getElem?, hfr 1 (show ¬ 1 ∈ ([13, 14, 15, 16, 17, 18, 19, 20, 5] : List Nat) by decide)]; rfl); clear hpre hfr; refine wpOp_value (v := .pointer (some ⟨w.heap.size, 2, none⟩)) ho rfl ?_ ⟨_, rfl, rfl, Below.refl _ _⟩; simp only [execOp, Act.eval, List.map_toArray, List.map_cons, List.map_nil, f1]; first | rfl | (go_simp; done) | (go_simp; rfl) | (go_simp; intro h_; exfalso; omega)
    | 5, ho, he => obtain rfl : o_ = ⟨_, _, _, _, _, _⟩ := (Option.some.inj ho).symm; obtain rfl := Option.some.inj he; clear he; have e17 : a.tmps.getD 17 undef = .pointer (some ⟨w.heap.size, 2, none⟩) := hpre ⟨4, .data⟩ (by simp) rfl _ rfl; clear hpre hfr; have k_q2 := (hbl.cell (World.block_lt_of_cell? _ _ q2)).trans q2; refine wpOp_value (v := .int .i64 a0_2) ho rfl ?_ ⟨_, rfl, rfl, Below.refl _ _⟩; simp only [execOp, Act.eval, List.map_toArray, List.map_cons, List.map_nil, e17]; first | rfl | (go_simp; done) | (go_simp; rfl) | (go_simp; intro h_; exfalso; omega)
    | 6, ho, he => obtain rfl : o_ = ⟨_, _, _, _, _, _⟩ := (Option.some.inj ho).symm; obtain rfl := Option.some.inj he; clear he; have e18 : a.tmps.getD 18 undef = .int .i64 a0_2 := hpre ⟨5, .data⟩ (by simp) rfl _ rfl; clear hpre hfr; refine wpOp_value (v := .int .u64 (IntKind.u64.wrap a0_2)) ho rfl ?_ ⟨_, rfl, rfl, Below.refl _ _⟩; simp only [execOp, Act.eval, List.map_toArray, List.map_cons, List.map_nil, e18]; first | rfl | (go_simp; done) | (go_simp; rfl) | (go_simp; intro h_; exfalso; omega)
    | 7, ho, he => obtain rfl : o_ = ⟨_, _, _, _, _, _⟩ := (Option.some.inj ho).symm; obtain rfl := Option.some.inj he; clear he; have e16 := hpre ⟨3, .data⟩ (by simp) rfl _ rfl; dsimp only at e16; have e19 : a.tmps.getD 19 undef = .int .u64 (IntKind.u64.wrap a0_2) := hpre ⟨6, .data⟩ (by simp) rfl _ rfl; clear hpre hfr; obtain ⟨A1, c1, e16, hc16, hr16⟩ := e16; refine wpOp_call (fn := Try.f43) ho rfl rfl rfl rfl #[.slice A1 b1.length c1, .int .u64 (IntKind.u64.wrap a0_2)] rfl (by simp only [List.map_toArray, List.map_cons, List.map_nil, Act.eval, e16, e19]) ?_; refine (waybillref01_Put.calls k A1 c1 b1 (IntKind.u64.wrap a0_2) b2 w1_ hr16 hc16 P2.out).mono ?_; rintro e w2 ⟨v2, rfl, hr2, hb⟩; obtain ⟨A2, c2, rfl⟩ := Kd.R_slice hr2; exact ⟨_, rfl, ⟨_, rfl, ⟨A2, c2, rfl, Kd.R_lower hr2 (show w.heap.size ≤ _ by have := HB1.out.size; have := hbl.size; omega)⟩, hb⟩⟩
    | 8, ho, he => obtain rfl : o_ = ⟨_, _, _, _, _, _⟩ := (Option.some.inj ho).symm; obtain rfl := Option.some.inj he; clear he; have e20 := hpre ⟨7, .data⟩ (by simp) rfl _ rfl; dsimp only at e20; clear hpre hfr; refine wpOp_value (v := a.tmps.getD 20 undef) ho rfl ?_ ⟨_, rfl, e20, Below.refl _ _⟩; simp only [execOp, Act.eval]; rfl
    | n_ + 9, ho, he => simp at he
  case fin =>
    intro xv_ w1_ hbl hx
    simp only [List.forall_mem_cons] at hx
    obtain ⟨x13, x14, x15, ⟨A16, c16, x16, hc16, hr16⟩, x17, x18, x19, ⟨A20, c20, x20, hr20⟩, ⟨A5, c5, x5, hr5⟩, _⟩ := hx
    simp only [List.map_cons, List.map_nil, putL, Act.put, List.setIfInBounds_toArray, List.set_cons_zero, List.set_cons_succ, x13, x14, x15, x16, x17, x18, x19, x20, x5]
    clear x13 x14 x15 x16 x17 x18 x19 x20 x5
    have HB2 := Aside0.mk (below_then HB1.out HB1.out.size hbl)
    have BM2 := Aside0.mk (blk_below BM1.out hbl)
    have HO2 := Aside0.mk hr5
    clear hbl hr5 hr20 q0 q2 HB1 BM1
    have q0 : w1_.cell? ⟨w.heap.size, 0, none⟩ = some (.int .i64 a0_0) := (blk_cell BM2.out 0).trans rfl
    go_wp2_with fail
    go_at_call 40
    with_reducible refine (ref_form a0_0 _).mono ?_
    rintro e w3 ⟨rfl, hd⟩
    have BM3 := Aside0.mk (blk_below BM2.out hd.below)
    have HB3 := Aside0.mk (below_then HB2.out HB2.out.size hd.below)
    have HO3 := Aside0.mk (Kd.R_below HO2.out hd.below)
    obtain ⟨S, hS⟩ : ∃ S, S = letB a0_0 := ⟨_, rfl⟩
    rw [← hS]
    have HLEN : Aside0 (ix.length ≤ 6) := ⟨by rw [IX.out]; exact ixOf_len _⟩
    have HXL : Aside0 (∀ i, i < ix.length → ix.getD i 0 ≤ 10) := ⟨fun i hi => by
      have hm : ix.getD i 0 ∈ ixOf a0_0 := by
        rw [← IX.out]
        have he : ix.getD i 0 = ix[i] := by simp [List.getD_eq_getElem?_getD, hi]
        rw [he]; exact List.getElem_mem hi
      exact (ixOf_lt _ hm).2.1⟩
    have HSZ : Aside0 (S.size = ix.length + (if dat a0_0 = true then 1 else 0)) := ⟨by rw [hS, IX.out]; exact let_size _⟩
    have HLG : Aside0 (∀ i, i < ix.length → ∃ h : i < S.size, (((S[i]'h).toNat : Int) ≠ 100) ∧ fldOf ((S[i]'h).toNat : Int) = ix.getD i 0) := ⟨by rw [hS, IX.out]; exact let_get _⟩
    have HLL : Aside0 (dat a0_0 = true → ∃ h : ix.length < S.size, ((S[ix.length]'h).toNat : Int) = 100) := ⟨by rw [hS, IX.out]; exact let_last _⟩
    have LN : Aside0 (ns.length = 11) := ⟨by rw [NS.out]; rfl⟩
    have hs8 : S.size ≤ 7 := by rw [HSZ.out]; have := HLEN.out; split <;> omega
    clear hd hS BM2 HB2 HO2 q0
    go_wp2_with fail
    go_loopw [5, 7] (fun v5 v7 wr => ∃ (i : Nat) (b : List Int), v7 = .int .i64 i ∧ i ≤ S.size ∧ Aside0 ((i ≤ ix.length → waybillref09_Encode.l0 k b ((ix.drop i).map fun j => ns.getD j 0) = some b9) ∧ (ix.length < i → (b, (0 : Int)) = (r1, r2))) ∧ Aside0 (Kd.R (Kd.int .u8) 5 wr w.heap.size (fun _ => True) v5 b) ∧ Aside0 (wr.heap[w.heap.size]? = some (.cells #[.int .i64 a0_0, .int .i64 a0_1, .int .i64 a0_2, .int .i64 a0_3, .int .i64 a0_4, .int .i64 a0_5, .int .i64 a0_6, .int .i64 a0_7, .int .i64 a0_8, .int .i64 a0_9, .int .i64 a0_10, .slice A0_11 l0_11.length c0_11] 25 (0, 0))) ∧ Aside0 (Below w.heap.size w wr)) (fun _ v7 _ => S.size - (intOf v7).toNat)
    case atStart => exact ⟨0, b2, rfl, Nat.zero_le _, ⟨fun _ => P9.out, fun h => absurd h (by omega)⟩, HO3, BM3, HB3⟩
    case round =>
      obtain ⟨i, b, rfl, hi, HK, HO, BMr, HBr⟩ := hrel
      obtain ⟨Ab, cb, hvb⟩ := Kd.R_slice HO.out
      subst hvb
      have HO' := Aside0.mk (Kd.R_reads' HO.out).2
      by_cases hlt : i < S.size
      · have b1 : decide ((i : Int) < (S.size : Int)) = true := decide_eq_true (by omega)
        have b1' : decide (i < S.size) = true := decide_eq_true hlt
        by_cases hlx : i < ix.length
        · obtain ⟨_, hc1, hc2⟩ := HLG.out i hlx
          have c0 : (((S[i]'hlt).toNat : Int) == 100) = false := beq_eq_false_iff_ne.mpr hc1
          have hK := HK.out.1 (by omega)
          have hdr : ix.drop i = ix.getD i 0 :: ix.drop (i + 1) := by
            rw [List.drop_eq_getElem_cons hlx]
            simp [List.getD_eq_getElem?_getD, hlx]
          rw [hdr, List.map_cons, waybillref09_Encode.l0] at hK
          obtain ⟨j, hj⟩ : ∃ j, j = ix.getD i 0 := ⟨_, rfl⟩
          rw [← hj] at hc2 hK
          have HC2 := Aside0.mk hc2
          obtain ⟨y, hy⟩ : ∃ y, y = ns.getD j 0 := ⟨_, rfl⟩
          rw [← hy] at hK
          obtain ⟨b3, hp3, hK⟩ := Option.bind_eq_some_iff.1 hK
          have HP3 := Aside0.mk hp3
          have HK2 := Aside0.mk hK
          have hj2 := HXL.out i hlx
          rw [← hj] at hj2
          have q3 : wr.cell? ⟨w.heap.size, j, none⟩ = some (.int .i64 y) := by
            have hm := BMr.out
            rw [← msg_lit, ← NS.out] at hm
            rw [blk_cell hm, msg_get (by rw [LN.out]; omega), hy]
          clear hj hj2 hy hp3 hK HK hdr hc1 hc2
          go_wp2_with fail
          go_at_call 42
          with_reducible refine (ref_field _ _ _).mono ?_
          rintro e w4 ⟨rfl, rfl⟩
          rw [HC2.out]
          go_wp2_with fail
          go_at_call 43
          with_reducible refine (waybillref01_Put.calls k Ab cb b (IntKind.u64.wrap y) b3 _ HO'.out.2 HO'.out.1 HP3.out).mono ?_
          rintro e w5 ⟨v5, rfl, hr5, hb⟩
          have HR5 := Aside0.mk (Kd.R_lower hr5 (show w.heap.size ≤ _ by have := HBr.out.size; omega))
          have BM5 := Aside0.mk (blk_below BMr.out hb)
          have HB5 := Aside0.mk (below_then HBr.out HBr.out.size hb)
          clear hr5 hb
          go_wp2_with fail
          go_roundw
          case rel => exact ⟨i + 1, b3, by go_num, by omega, ⟨fun _ => HK2.out, fun h => absurd h (by omega)⟩, HR5, BM5, HB5⟩
          case measure => simp [intOf]; omega
        · have hdt : dat a0_0 = true := by
            apply Classical.byContradiction
            intro hn
            have := HSZ.out
            rw [if_neg hn] at this
            omega
          have hei : i = ix.length := by have := HSZ.out; rw [if_pos hdt] at this; omega
          subst hei
          obtain ⟨_, hc1⟩ := HLL.out hdt
          have c0 : (((S[ix.length]'hlt).toNat : Int) == 100) = true := beq_iff_eq.mpr hc1
          have hK := HK.out.1 (by omega)
          rw [List.drop_of_length_le (by omega), List.map_nil, waybillref09_Encode.l0] at hK
          obtain rfl := Option.some.inj hK
          obtain ⟨b3, hp3, hz⟩ := Option.bind_eq_some_iff.1 ((if_pos hdt).symm.trans HZ.out)
          have HP3 := Aside0.mk hp3
          have HZ3 := Aside0.mk (Option.some.inj hz)
          have q11 : wr.cell? ⟨w.heap.size, 11, none⟩ = some (.slice A0_11 l0_11.length c0_11) := (blk_cell BMr.out 11).trans rfl
          have HRR := Aside0.mk (Kd.C_below HR.out HBr.out)
          clear hp3 hK HK hc1 hz hdt
          go_wp2_with fail
          go_at_call 44
          with_reducible refine (waybillref01_Texts.calls k Ab cb b A0_11 c0_11 l0_11 b3 _ HO'.out.2 HO'.out.1 HRR.out HC.out HP3.out).mono ?_
          rintro e w5 ⟨v5, rfl, hr5, hb⟩
          have HR5 := Aside0.mk (Kd.R_lower hr5 (show w.heap.size ≤ _ by have := HBr.out.size; omega))
          have BM5 := Aside0.mk (blk_below BMr.out hb)
          have HB5 := Aside0.mk (below_then HBr.out HBr.out.size hb)
          clear hr5 hb
          go_wp2_with fail
          go_roundw
          case rel => exact ⟨ix.length + 1, b3, by go_num, by omega, ⟨fun h => absurd h (by omega), fun _ => HZ3.out⟩, HR5, BM5, HB5⟩
          case measure => simp [intOf]; omega
      · have b1 : decide ((i : Int) < (S.size : Int)) = false := decide_eq_false (by omega)
        have b1' : decide (i < S.size) = false := decide_eq_false hlt
        have hfin : (b, (0 : Int)) = (r1, r2) := by
          have h2 := HSZ.out
          by_cases hd : dat a0_0 = true
          · rw [if_pos hd] at h2
            exact HK.out.2 (by omega)
          · rw [if_neg hd] at h2
            have hK := HK.out.1 (by omega)
            rw [List.drop_of_length_le (by omega), List.map_nil, waybillref09_Encode.l0] at hK
            obtain rfl := Option.some.inj hK
            exact Option.some.inj ((if_neg hd).symm.trans HZ.out)
        simp only [Prod.mk.injEq] at hfin
        obtain ⟨rfl, rfl⟩ := hfin
        clear HK
        go_wp2_with fail
        go_ret2
        exact ⟨_, rfl, HO.out, HBr.out⟩
end Go.Proofs.Ytkddlhcpplkpbaa.G
end
