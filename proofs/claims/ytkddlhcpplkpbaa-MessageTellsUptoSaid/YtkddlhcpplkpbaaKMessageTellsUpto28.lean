/- MessageTellsUpto: texts of this claim, packed: what the kit's print has written for it and own texts, without what its proof does not reach. -/
import Derived.Test.YtkddlhcpplkpbaaKMessageTellsUpto15
import Derived.Test.YtkddlhcpplkpbaaKMessageTellsUpto16
import Derived.Test.YtkddlhcpplkpbaaKMessageTellsUpto24
import Derived.Test.YtkddlhcpplkpbaaKMessageTellsUpto25
import Derived.Test.YtkddlhcpplkpbaaKMessageTellsUpto27
set_option linter.unusedVariables false
set_option linter.unusedSimpArgs false
set_option linter.unusedSectionVars false
section
namespace Go.Proofs.Ytkddlhcpplkpbaa.G
open WB Go.RowKit Go.Proofs.YtkddlhcpplkpbaaW.PrintWords Go.Proofs.YtkddlhcpplkpbaaW.PrintLast Go.Proofs.YtkddlhcpplkpbaaW.PrintMore
attribute [local go_sem] max2_int min2_int max_two min_two max_three min_three max_four min_four   -- for this text's walks alone
def waybillref01_Texts.f (k : Nat) (l0 : List Int) (l1 : List Int) : Option (List Int) := (waybillref01_Put.f k l0 (IntKind.u64.wrap ((l1.length : Int)))).bind fun t198 => (if t198.length + l1.length < 140737488355328 then (some (t198 ++ l1)) else (none))
set_option maxHeartbeats 8000000 in
set_option maxRecDepth 100000 in
theorem waybillref01_Texts.calls (k : Nat) (A0 : Option Addr) (c0 : Nat) (l0 : List Int) (A1 : Option Addr) (c1 : Nat) (l1 : List Int) (r : List Int) (w : World) (hr0 : Kd.C (Kd.int .u8) w A0 l0.length l0) (hc0 : l0.length ≤ c0) (hr1 : Kd.C (Kd.int .u8) w A1 l1.length l1) (hc1 : l1.length ≤ c1) (h : waybillref01_Texts.f k l0 l1 = some r) :
   Calls Try.prog 44 #[.slice A0 l0.length c0, .slice A1 l1.length c1] w fun e w' => ∃ v0_ : Value, e = .returned (v0_) ∧ Kd.R (Kd.int .u8) 5 w' w.heap.size (fun _ => True) v0_ r ∧ Below w.heap.size w w' := by
 have HR0 := Aside0.mk hr0
 have HC0 := Aside0.mk hc0
 clear hr0 hc0
 have HR1 := Aside0.mk hr1
 have HC1 := Aside0.mk hc1
 clear hr1 hc1
 have HB := Aside0.mk (Below.refl w.heap.size w)
 have H : ((waybillref01_Put.f k l0 (IntKind.u64.wrap ((l1.length : Int)))).bind fun t198 => (if t198.length + l1.length < 140737488355328 then (some (t198 ++ l1)) else (none))) = some r := h
 clear h
 replace H := Option.bind_eq_some_iff.mp H
 obtain ⟨t198, A30, H⟩ := H
 replace H : (if t198.length + l1.length < 140737488355328 then (some (t198 ++ l1)) else (none)) = some r := H
 have A3 := Aside0.mk A30
 clear A30
 by_cases c4 : t198.length + l1.length < 140737488355328
 · rw [if_pos c4] at H
   have LMc4 := Aside0.mk c4
   clear c4
   obtain ⟨y201, hy201⟩ : ∃ y_ : List Int, y_ = (t198 ++ l1) := ⟨_, rfl⟩
   replace H : (some y201) = some r := by first | (rw [hy201]; with_reducible exact H) | (have H2_ := (Option.bind_some _ _).symm.trans H; rw [hy201]; with_reducible exact H2_) | (have H2_ := (Option.bind_some _ _).symm.trans H; with_reducible exact H2_) | with_reducible exact H | (rw [hy201]; exact H) | exact H
   have Ny201 := Aside0.mk hy201
   clear hy201
   obtain rfl := Option.some.inj H
   simp only [Option.some.injEq, Prod.mk.injEq] at H
   obtain ⟨rfl⟩ := H
   go_enter Try.func44, Try.ntmps44
   go_wp2_with (first | ((with_reducible refine gate_callee (f := 43) rfl ?_); refine goesL_ (some 9) rfl rfl Try.func43 (by kernel_rfl) rfl #[.slice A0 l0.length c0, .int .u64 (IntKind.u64.wrap ((l1.length : Int)))] rfl (by (try simp only [List.map_toArray, List.map_cons, List.map_nil]); first | done | rfl | (simp only [List.length_drop, List.length_take]; rfl)) ?_; (with_reducible refine (waybillref01_Put.calls k _ _ l0 (IntKind.u64.wrap ((l1.length : Int))) t198 _ ?side1 ?side2 A3.out).mono ?_); (case side1 => repeat (first | exact HR0.out | (with_reducible refine Kd.C_alloc ?_ _) | (with_reducible refine Kd.C_drewN ?_ _) | (with_reducible refine Kd.C_drew ?_))); (case side2 => exact HC0.out); rintro e w5 ⟨v199, rfl, ho0, hb⟩; refine ⟨_, rfl, ?_⟩; have n0_ := Aside0.mk (Kd.R_lower ho0 (below_size (by repeat (first | (with_reducible first | exact HB.out | apply below_alloc | apply pw_below_drewN | apply below_drew1) | exact HB.out)))); have n1_ := Aside0.mk (below_step (by repeat (first | (with_reducible first | exact HB.out | apply below_alloc | apply pw_below_drewN | apply below_drew1) | exact HB.out)) hb); clear HB; have HO200 := n0_; have HB := n1_; clear n0_ n1_; (try clear hb); (try clear hb2); (try clear hk); (try clear hi); (try clear ho0)) | ((with_reducible refine gate_builtin (b := .append) (xs := #[.tmp 9, .tmp 10]) rfl ?_); at_builtin; refine Kd.R_append_rows (Kd.int .u8) (w0 := w) w.heap.size rfl (.tmp 9) (.tmp 10) 22 5 (.int .u8 0) 1 rfl Try.underlying22 info5 rfl (by decide) (by omega) v199 t198 l1 _ _ _ (fun _ => True) (fun _ => False) rfl rfl ?aO ?aR (fun _ _ h => h) (fun _ h => h.elim) ?aF ?aB ?aS ?aL ?_; (case aR => repeat (first | exact (Kd.C_below HR1.out HB.out) | (with_reducible refine Kd.C_alloc ?_ _) | (with_reducible refine Kd.C_drewN ?_ _) | (with_reducible refine Kd.C_drew ?_))); (case aB => exact (by repeat (first | (with_reducible first | exact HB.out | apply below_alloc | apply pw_below_drewN | apply below_drew1) | exact HB.out))); (case aF => exact (fun _ _ => trivial)); (case aO => exact (by (with_reducible repeat (first | apply Kd.R_alloc | apply Kd.R_drewN | apply Kd.R_drew)); exact HO200.out)); (case aS => exact (below_size (by repeat (first | (with_reducible first | exact HB.out | apply below_alloc | apply pw_below_drewN | apply below_drew1) | exact HB.out)))); (case aL => have := LMc4.out; omega); intro v202 w6 ho hb hg hat; rw [← Ny201.out] at ho; have n0_ := Aside0.mk (hb); have n1_ := Aside0.mk (ho); clear HB; clear HO200; have HB := n0_; have HO203 := n1_; clear n0_ n1_; clear ho hb hg hat))
   go_ret
   exact ⟨_, by first | rfl | (simp [errW_none, errW_some] <;> rfl) | (simp [*, errW_none, errW_some] <;> rfl), by (with_reducible repeat (first | apply Kd.R_alloc | apply Kd.R_drewN | apply Kd.R_drew)); exact HO203.out, by repeat (first | (with_reducible first | exact HB.out | apply below_alloc | apply pw_below_drewN | apply below_drew1) | exact HB.out)⟩
 · rw [if_neg c4] at H
   exact absurd H (by simp)
end Go.Proofs.Ytkddlhcpplkpbaa.G
end
section
namespace Go.Proofs.Ytkddlhcpplkpbaa.G
open WB Go.RowKit Go.Proofs.YtkddlhcpplkpbaaW.PrintWords Go.Proofs.YtkddlhcpplkpbaaW.PrintLast Go.Proofs.YtkddlhcpplkpbaaW.PrintMore
attribute [local go_sem] max2_int min2_int max_two min_two max_three min_three max_four min_four   -- for this text's walks alone
/-- Numbers put behind octets, one after the other. -/
def waybillref09_Encode.l0 (k : Nat) : List Int → List Int → Option (List Int)
 | b, [] => some b
 | b, x :: xs => (waybillref01_Put.f k b (IntKind.u64.wrap x)).bind fun b' => waybillref09_Encode.l0 k b' xs
def waybillref09_Encode.f (k : Nat) (a0_0 : Int) (a0_1 : Int) (a0_2 : Int) (a0_3 : Int) (a0_4 : Int) (a0_5 : Int) (a0_6 : Int) (a0_7 : Int) (a0_8 : Int) (a0_9 : Int) (a0_10 : Int) (l0_11 : List Int) : Option (List Int × Int) := (waybillref09_Check.f a0_0 a0_1 a0_2 a0_3 a0_4 a0_5 a0_6 a0_7 a0_8 a0_9 a0_10 l0_11).bind fun e => if e = 0 then (waybillref01_Put.f k [] (IntKind.u64.wrap a0_0)).bind fun b1 => (waybillref01_Put.f k b1 (IntKind.u64.wrap a0_2)).bind fun b2 => (waybillref09_Encode.l0 k b2 ((ixOf a0_0).map fun j => ([a0_0, a0_1, a0_2, a0_3, a0_4, a0_5, a0_6, a0_7, a0_8, a0_9, a0_10] : List Int).getD j 0)).bind fun b => (if dat a0_0 = true then (waybillref01_Texts.f k b l0_11).bind fun b => some (b, 0) else some (b, 0)) else some ([], e)
set_option maxHeartbeats 4000000 in
set_option maxRecDepth 100000 in
theorem waybillref09_Encode.calls (k : Nat) (a0_0 : Int) (a0_1 : Int) (a0_2 : Int) (a0_3 : Int) (a0_4 : Int) (a0_5 : Int) (a0_6 : Int) (a0_7 : Int) (a0_8 : Int) (a0_9 : Int) (a0_10 : Int) (A0_11 : Option Addr) (c0_11 : Nat) (l0_11 : List Int) (r1 : List Int) (r2 : Int) (w : World) (hr0_11 : Kd.C (Kd.int .u8) w A0_11 l0_11.length l0_11) (hc0_11 : l0_11.length ≤ c0_11) (h : waybillref09_Encode.f k a0_0 a0_1 a0_2 a0_3 a0_4 a0_5 a0_6 a0_7 a0_8 a0_9 a0_10 l0_11 = some (r1, r2)) :
  Calls Try.prog 19 #[.agg #[.int .i64 a0_0, .int .i64 a0_1, .int .i64 a0_2, .int .i64 a0_3, .int .i64 a0_4, .int .i64 a0_5, .int .i64 a0_6, .int .i64 a0_7, .int .i64 a0_8, .int .i64 a0_9, .int .i64 a0_10, .slice A0_11 l0_11.length c0_11]] w fun e w' => ∃ v0_ : Value, e = .returned (.tuple #[v0_, .int .i64 r2]) ∧ Kd.R (Kd.int .u8) 5 w' w.heap.size (fun _ => True) v0_ r1 ∧ Below w.heap.size w w' := by
 unfold waybillref09_Encode.f at h
 have HR := Aside0.mk hr0_11
 have HC := Aside0.mk hc0_11
 obtain ⟨ec, hce, h⟩ := Option.bind_eq_some_iff.1 h
 have HCE := Aside0.mk hce
 have HH := Aside0.mk h
 clear hr0_11 hc0_11 h hce
 go_enter Try.func19, Try.ntmps19
 go_wp2_with fail
 go_at_call 25
 obtain ⟨W0, hW0⟩ : ∃ W, W = w.alloc (.cells #[.int .i64 a0_0, .int .i64 a0_1, .int .i64 a0_2, .int .i64 a0_3, .int .i64 a0_4, .int .i64 a0_5, .int .i64 a0_6, .int .i64 a0_7, .int .i64 a0_8, .int .i64 a0_9, .int .i64 a0_10, .slice A0_11 l0_11.length c0_11] 25) := ⟨_, rfl⟩
 rw [← hW0]
 have BM := Aside0.mk (show W0.heap[w.heap.size]? = some (.cells #[.int .i64 a0_0, .int .i64 a0_1, .int .i64 a0_2, .int .i64 a0_3, .int .i64 a0_4, .int .i64 a0_5, .int .i64 a0_6, .int .i64 a0_7, .int .i64 a0_8, .int .i64 a0_9, .int .i64 a0_10, .slice A0_11 l0_11.length c0_11] 25 (0, 0)) by rw [hW0]; exact heap_new1 _ _)
 have HB := Aside0.mk (show Below w.heap.size w W0 by rw [hW0]; exact below_alloc (Below.refl _ _) _)
 clear hW0
 with_reducible refine (waybillref09_Check.calls a0_0 a0_1 a0_2 a0_3 a0_4 a0_5 a0_6 a0_7 a0_8 a0_9 a0_10 A0_11 c0_11 l0_11 ec _ (Kd.C_below HR.out HB.out) HC.out HCE.out).mono ?_
 rintro e w1 ⟨rfl, hb⟩
 have BM1 := Aside0.mk (blk_below BM.out hb)
 have HB1 := Aside0.mk (below_then HB.out HB.out.size hb)
 clear hb BM HB
 by_cases he : ec = 0
 case neg =>
  have b1 : (ec != 0) = true := by simpa using he
  have hh := (if_neg he).symm.trans HH.out
  simp only [Option.some.injEq, Prod.mk.injEq] at hh
  obtain ⟨rfl, rfl⟩ := hh
  clear he HH
  go_wp2_with fail
  go_ret2
  exact ⟨_, rfl, Kd.R_nil _ _ _ _ _, HB1.out⟩
 subst he
 have hh := (if_pos rfl).symm.trans HH.out
 obtain ⟨b1, hb1, hh⟩ := Option.bind_eq_some_iff.1 hh
 obtain ⟨b2, hb2, hh⟩ := Option.bind_eq_some_iff.1 hh
 obtain ⟨b9, hb9, hh⟩ := Option.bind_eq_some_iff.1 hh
 obtain ⟨ns, hns⟩ : ∃ ns : List Int, ns = [a0_0, a0_1, a0_2, a0_3, a0_4, a0_5, a0_6, a0_7, a0_8, a0_9, a0_10] := ⟨_, rfl⟩
 obtain ⟨ix, hix⟩ : ∃ ix, ix = ixOf a0_0 := ⟨_, rfl⟩
 rw [← hns, ← hix] at hb9
 have P1 := Aside0.mk hb1
 have P2 := Aside0.mk hb2
 have P9 := Aside0.mk hb9
 have HZ := Aside0.mk hh
 have NS := Aside0.mk hns
 have IX := Aside0.mk hix
 clear HH hh hb1 hb2 hb9 hns hix HCE
 have q0 : w1.cell? ⟨w.heap.size, 0, none⟩ = some (.int .i64 a0_0) := (blk_cell BM1.out 0).trans rfl
 have q2 : w1.cell? ⟨w.heap.size, 2, none⟩ = some (.int .i64 a0_2) := (blk_cell BM1.out 2).trans rfl
 go_wp2_with fail
 refine region_facts (B := _) (w0 := _) [(13, (fun v _ => v = .pointer (some ⟨w.heap.size, 0, none⟩))), (14, (fun v _ => v = .int .i64 a0_0)), (15, (fun v _ => v = .int .u64 (IntKind.u64.wrap a0_0))), (16, (fun v W => ∃ A1 c1, v = .slice A1 b1.length c1 ∧ b1.length ≤ c1 ∧ Kd.C (Kd.int .u8) W A1 b1.length b1)), (17, (fun v _ => v = .pointer (some ⟨w.heap.size, 2, none⟩))), (18, (fun v _ => v = .int .i64 a0_2)), (19, (fun v _ => v = .int .u64 (IntKind.u64.wrap a0_2))), (20, (fun v W => ∃ A1 c1, v = .slice A1 b2.length c1 ∧ Kd.R (Kd.int .u8) 5 W w.heap.size (fun _ => True) (.slice A1 b2.length c1) b2)), (5, (fun v W => ∃ A1 c1, v = .slice A1 b2.length c1 ∧ Kd.R (Kd.int .u8) 5 W w.heap.size (fun _ => True) (.slice A1 b2.length c1) b2))] (by kernel_rfl) (by kernel_rfl) (by rfl) (show ([13, 14, 15, 16, 17, 18, 19, 20, 5] : List Nat).Nodup by decide) ?hsz ?hst (Below.refl _ _) (Nat.le_refl _) ?step ?fin
 case hsz => exact List.forall_mem_cons.2 ⟨(show 13 < 48 by decide), List.forall_mem_cons.2 ⟨(show 14 < 48 by decide), List.forall_mem_cons.2 ⟨(show 15 < 48 by decide), List.forall_mem_cons.2 ⟨(show 16 < 48 by decide), List.forall_mem_cons.2 ⟨(show 17 < 48 by decide), List.forall_mem_cons.2 ⟨(show 18 < 48 by decide), List.forall_mem_cons.2 ⟨(show 19 < 48 by decide), List.forall_mem_cons.2 ⟨(show 20 < 48 by decide), List.forall_mem_cons.2 ⟨(show 5 < 48 by decide), fun _ h => nomatch h⟩⟩⟩⟩⟩⟩⟩⟩⟩
 case hst => exact List.forall_mem_cons.2 ⟨(fun v w1 w2 hb h => h), List.forall_mem_cons.2 ⟨(fun v w1 w2 hb h => h), List.forall_mem_cons.2 ⟨(fun v w1 w2 hb h => h), List.forall_mem_cons.2 ⟨(fun v w1 w2 hb h => (by obtain ⟨A1, c1, h1, h2, h3⟩ := h; exact ⟨A1, c1, h1, h2, Kd.C_below h3 hb⟩)), List.forall_mem_cons.2 ⟨(fun v w1 w2 hb h => h), List.forall_mem_cons.2 ⟨(fun v w1 w2 hb h => h), List.forall_mem_cons.2 ⟨(fun v w1 w2 hb h => h), List.forall_mem_cons.2 ⟨(fun v w1 w2 hb h => (by obtain ⟨A1, c1, h1, h2⟩ := h; exact ⟨A1, c1, h1, Kd.R_below h2 hb⟩)), List.forall_mem_cons.2 ⟨(fun v w1 w2 hb h => (by obtain ⟨A1, c1, h1, h2⟩ := h; exact ⟨A1, c1, h1, Kd.R_below h2 hb⟩)), fun _ h => nomatch h⟩⟩⟩⟩⟩⟩⟩⟩⟩
 case step =>
  intro i_ o_ e_ ho he a w1_ hs hdf hfr hbl hbs hpre
  match i_, ho, he with
  | 0, ho, he => obtain rfl : o_ = ⟨_, _, _, _, _, _⟩ := (Option.some.inj ho).symm; obtain rfl := Option.some.inj he; clear he; have f1 : a.tmps.getD 1 undef = .pointer (some ⟨w.heap.size, 0, none⟩) := (by rw [Array.getD_eq_getD_getElem?, hfr 1 (show ¬ 1 ∈ ([13, 14, 15, 16, 17, 18, 19, 20, 5] : List Nat) by decide)]; rfl); clear hpre hfr; refine wpOp_value (v := .pointer (some ⟨w.heap.size, 0, none⟩)) ho rfl ?_ ⟨_, rfl, rfl, Below.refl _ _⟩; simp only [execOp, Act.eval, List.map_toArray, List.map_cons, List.map_nil, f1]; first | rfl | (go_simp; done) | (go_simp; rfl) | (go_simp; intro h_; exfalso; omega)
  | 1, ho, he => obtain rfl : o_ = ⟨_, _, _, _, _, _⟩ := (Option.some.inj ho).symm; obtain rfl := Option.some.inj he; clear he; have e13 : a.tmps.getD 13 undef = .pointer (some ⟨w.heap.size, 0, none⟩) := hpre ⟨0, .data⟩ (by simp) rfl _ rfl; clear hpre hfr; have k_q0 := (hbl.cell (World.block_lt_of_cell? _ _ q0)).trans q0; refine wpOp_value (v := .int .i64 a0_0) ho rfl ?_ ⟨_, rfl, rfl, Below.refl _ _⟩; simp only [execOp, Act.eval, List.map_toArray, List.map_cons, List.map_nil, e13]; first | rfl | (go_simp; done) | (go_simp; rfl) | (go_simp; intro h_; exfalso; omega)
  | 2, ho, he => obtain rfl : o_ = ⟨_, _, _, _, _, _⟩ := (Option.some.inj ho).symm; obtain rfl := Option.some.inj he; clear he; have e14 : a.tmps.getD 14 undef = .int .i64 a0_0 := hpre ⟨1, .data⟩ (by simp) rfl _ rfl; clear hpre hfr; refine wpOp_value (v := .int .u64 (IntKind.u64.wrap a0_0)) ho rfl ?_ ⟨_, rfl, rfl, Below.refl _ _⟩; simp only [execOp, Act.eval, List.map_toArray, List.map_cons, List.map_nil, e14]; first | rfl | (go_simp; done) | (go_simp; rfl) | (go_simp; intro h_; exfalso; omega)
  | 3, ho, he => obtain rfl : o_ = ⟨_, _, _, _, _, _⟩ := (Option.some.inj ho).symm; obtain rfl := Option.some.inj he; clear he; have e15 : a.tmps.getD 15 undef = .int .u64 (IntKind.u64.wrap a0_0) := hpre ⟨2, .data⟩ (by simp) rfl _ rfl; clear hpre hfr; refine wpOp_call (fn := Try.f43) ho rfl rfl rfl rfl #[.slice none ([] : List Int).length 0, .int .u64 (IntKind.u64.wrap a0_0)] rfl (by simp only [List.map_toArray, List.map_cons, List.map_nil, Act.eval, e15]; rfl) ?_; refine (waybillref01_Put.calls k none 0 [] (IntKind.u64.wrap a0_0) b1 w1_ (Kd.C_nil _ _) (Nat.le_refl _) P1.out).mono ?_; rintro e w2 ⟨v2, rfl, hr2, hb⟩; obtain ⟨A2, c2, rfl⟩ := Kd.R_slice hr2; exact ⟨_, rfl, ⟨_, rfl, ⟨A2, c2, rfl, (Kd.R_reads' hr2).2.1, (Kd.R_reads' hr2).2.2⟩, hb⟩⟩
  | 4, ho, he => obtain rfl : o_ = ⟨_, _, _, _, _, _⟩ := (Option.some.inj ho).symm; obtain rfl := Option.some.inj he; clear he; have f1 : a.tmps.getD 1 undef = .pointer (some ⟨w.heap.size, 0, none⟩) := (by rw [Array.getD_eq_getD_getElem?, hfr 1 (show ¬ 1 ∈ ([13, 14, 15, 16, 17, 18, 19, 20, 5] : List Nat) by decide)]; rfl); clear hpre hfr; refine wpOp_value (v := .pointer (some ⟨w.heap.size, 2, none⟩)) ho rfl ?_ ⟨_, rfl, rfl, Below.refl _ _⟩; simp only [execOp, Act.eval, List.map_toArray, List.map_cons, List.map_nil, f1]; first | rfl | (go_simp; done) | (go_simp; rfl) | (go_simp; intro h_; exfalso; omega)
  | 5, ho, he => obtain rfl : o_ = ⟨_, _, _, _, _, _⟩ := (Option.some.inj ho).symm; obtain rfl := Option.some.inj he; clear he; have e17 : a.tmps.getD 17 undef = .pointer (some ⟨w.heap.size, 2, none⟩) := hpre ⟨4, .data⟩ (by simp) rfl _ rfl; clear hpre hfr; have k_q2 := (hbl.cell (World.block_lt_of_cell? _ _ q2)).trans q2; refine wpOp_value (v := .int .i64 a0_2) ho rfl ?_ ⟨_, rfl, rfl, Below.refl _ _⟩; simp only [execOp, Act.eval, List.map_toArray, List.map_cons, List.map_nil, e17]; first | rfl | (go_simp; done) | (go_simp; rfl) | (go_simp; intro h_; exfalso; omega)
  | 6, ho, he => obtain rfl : o_ = ⟨_, _, _, _, _, _⟩ := (Option.some.inj ho).symm; obtain rfl := Option.some.inj he; clear he; have e18 : a.tmps.getD 18 undef = .int .i64 a0_2 := hpre ⟨5, .data⟩ (by simp) rfl _ rfl; clear hpre hfr; refine wpOp_value (v := .int .u64 (IntKind.u64.wrap a0_2)) ho rfl ?_ ⟨_, rfl, rfl, Below.refl _ _⟩; simp only [execOp, Act.eval, List.map_toArray, List.map_cons, List.map_nil, e18]; first | rfl | (go_simp; done) | (go_simp; rfl) | (go_simp; intro h_; exfalso; omega)
  | 7, ho, he => obtain rfl : o_ = ⟨_, _, _, _, _, _⟩ := (Option.some.inj ho).symm; obtain rfl := Option.some.inj he; clear he; have e16 := hpre ⟨3, .data⟩ (by simp) rfl _ rfl; dsimp only at e16; have e19 : a.tmps.getD 19 undef = .int .u64 (IntKind.u64.wrap a0_2) := hpre ⟨6, .data⟩ (by simp) rfl _ rfl; clear hpre hfr; obtain ⟨A1, c1, e16, hc16, hr16⟩ := e16; refine wpOp_call (fn := Try.f43) ho rfl rfl rfl rfl #[.slice A1 b1.length c1, .int .u64 (IntKind.u64.wrap a0_2)] rfl (by simp only [List.map_toArray, List.map_cons, List.map_nil, Act.eval, e16, e19]) ?_; refine (waybillref01_Put.calls k A1 c1 b1 (IntKind.u64.wrap a0_2) b2 w1_ hr16 hc16 P2.out).mono ?_; rintro e w2 ⟨v2, rfl, hr2, hb⟩; obtain ⟨A2, c2, rfl⟩ := Kd.R_slice hr2; exact ⟨_, rfl, ⟨_, rfl, ⟨A2, c2, rfl, Kd.R_lower hr2 (show w.heap.size ≤ _ by have := HB1.out.size; have := hbl.size; omega)⟩, hb⟩⟩
  | 8, ho, he => obtain rfl : o_ = ⟨_, _, _, _, _, _⟩ := (Option.some.inj ho).symm; obtain rfl := Option.some.inj he; clear he; have e20 := hpre ⟨7, .data⟩ (by simp) rfl _ rfl; dsimp only at e20; clear hpre hfr; refine wpOp_value (v := a.tmps.getD 20 undef) ho rfl ?_ ⟨_, rfl, e20, Below.refl _ _⟩; simp only [execOp, Act.eval]; rfl
  | n_ + 9, ho, he => simp at he
 case fin =>
  intro xv_ w1_ hbl hx
  simp only [List.forall_mem_cons] at hx
  obtain ⟨x13, x14, x15, ⟨A16, c16, x16, hc16, hr16⟩, x17, x18, x19, ⟨A20, c20, x20, hr20⟩, ⟨A5, c5, x5, hr5⟩, _⟩ := hx
  simp only [List.map_cons, List.map_nil, putL, Act.put, List.setIfInBounds_toArray, List.set_cons_zero, List.set_cons_succ, x13, x14, x15, x16, x17, x18, x19, x20, x5]
  clear x13 x14 x15 x16 x17 x18 x19 x20 x5
  have HB2 := Aside0.mk (below_then HB1.out HB1.out.size hbl)
  have BM2 := Aside0.mk (blk_below BM1.out hbl)
  have HO2 := Aside0.mk hr5
  clear hbl hr5 hr20 q0 q2 HB1 BM1
  have q0 : w1_.cell? ⟨w.heap.size, 0, none⟩ = some (.int .i64 a0_0) := (blk_cell BM2.out 0).trans rfl
  go_wp2_with fail
  go_at_call 40
  with_reducible refine (ref_form a0_0 _).mono ?_
  rintro e w3 ⟨rfl, hd⟩
  have BM3 := Aside0.mk (blk_below BM2.out hd.below)
  have HB3 := Aside0.mk (below_then HB2.out HB2.out.size hd.below)
  have HO3 := Aside0.mk (Kd.R_below HO2.out hd.below)
  obtain ⟨S, hS⟩ : ∃ S, S = letB a0_0 := ⟨_, rfl⟩
  rw [← hS]
  have HLEN : Aside0 (ix.length ≤ 6) := ⟨by rw [IX.out]; exact ixOf_len _⟩
  have HXL : Aside0 (∀ i, i < ix.length → ix.getD i 0 ≤ 10) := ⟨fun i hi => by
   have hm : ix.getD i 0 ∈ ixOf a0_0 := by
     rw [← IX.out]
     have he : ix.getD i 0 = ix[i] := by simp [List.getD_eq_getElem?_getD, hi]
     rw [he]; exact List.getElem_mem hi
   exact (ixOf_lt _ hm).2.1⟩
  have HSZ : Aside0 (S.size = ix.length + (if dat a0_0 = true then 1 else 0)) := ⟨by rw [hS, IX.out]; exact let_size _⟩
  have HLG : Aside0 (∀ i, i < ix.length → ∃ h : i < S.size, (((S[i]'h).toNat : Int) ≠ 100) ∧ fldOf ((S[i]'h).toNat : Int) = ix.getD i 0) := ⟨by rw [hS, IX.out]; exact let_get _⟩
  have HLL : Aside0 (dat a0_0 = true → ∃ h : ix.length < S.size, ((S[ix.length]'h).toNat : Int) = 100) := ⟨by rw [hS, IX.out]; exact let_last _⟩
  have LN : Aside0 (ns.length = 11) := ⟨by rw [NS.out]; rfl⟩
  have hs8 : S.size ≤ 7 := by rw [HSZ.out]; have := HLEN.out; split <;> omega
  clear hd hS BM2 HB2 HO2 q0
  go_wp2_with fail
  go_loopw [5, 7] (fun v5 v7 wr => ∃ (i : Nat) (b : List Int), v7 = .int .i64 i ∧ i ≤ S.size ∧ Aside0 ((i ≤ ix.length → waybillref09_Encode.l0 k b ((ix.drop i).map fun j => ns.getD j 0) = some b9) ∧ (ix.length < i → (b, (0 : Int)) = (r1, r2))) ∧ Aside0 (Kd.R (Kd.int .u8) 5 wr w.heap.size (fun _ => True) v5 b) ∧ Aside0 (wr.heap[w.heap.size]? = some (.cells #[.int .i64 a0_0, .int .i64 a0_1, .int .i64 a0_2, .int .i64 a0_3, .int .i64 a0_4, .int .i64 a0_5, .int .i64 a0_6, .int .i64 a0_7, .int .i64 a0_8, .int .i64 a0_9, .int .i64 a0_10, .slice A0_11 l0_11.length c0_11] 25 (0, 0))) ∧ Aside0 (Below w.heap.size w wr)) (fun _ v7 _ => S.size - (intOf v7).toNat)
  case atStart => exact ⟨0, b2, rfl, Nat.zero_le _, ⟨fun _ => P9.out, fun h => absurd h (by omega)⟩, HO3, BM3, HB3⟩
  case round =>
   obtain ⟨i, b, rfl, hi, HK, HO, BMr, HBr⟩ := hrel
   obtain ⟨Ab, cb, hvb⟩ := Kd.R_slice HO.out
   subst hvb
   have HO' := Aside0.mk (Kd.R_reads' HO.out).2
   by_cases hlt : i < S.size
   · have b1 : decide ((i : Int) < (S.size : Int)) = true := decide_eq_true (by omega)
     have b1' : decide (i < S.size) = true := decide_eq_true hlt
     by_cases hlx : i < ix.length
     · obtain ⟨_, hc1, hc2⟩ := HLG.out i hlx
       have c0 : (((S[i]'hlt).toNat : Int) == 100) = false := beq_eq_false_iff_ne.mpr hc1
       have hK := HK.out.1 (by omega)
       have hdr : ix.drop i = ix.getD i 0 :: ix.drop (i + 1) := by
         rw [List.drop_eq_getElem_cons hlx]
         simp [List.getD_eq_getElem?_getD, hlx]
       rw [hdr, List.map_cons, waybillref09_Encode.l0] at hK
       obtain ⟨j, hj⟩ : ∃ j, j = ix.getD i 0 := ⟨_, rfl⟩
       rw [← hj] at hc2 hK
       have HC2 := Aside0.mk hc2
       obtain ⟨y, hy⟩ : ∃ y, y = ns.getD j 0 := ⟨_, rfl⟩
       rw [← hy] at hK
       obtain ⟨b3, hp3, hK⟩ := Option.bind_eq_some_iff.1 hK
       have HP3 := Aside0.mk hp3
       have HK2 := Aside0.mk hK
       have hj2 := HXL.out i hlx
       rw [← hj] at hj2
       have q3 : wr.cell? ⟨w.heap.size, j, none⟩ = some (.int .i64 y) := by
         have hm := BMr.out
         rw [← msg_lit, ← NS.out] at hm
         rw [blk_cell hm, msg_get (by rw [LN.out]; omega), hy]
       clear hj hj2 hy hp3 hK HK hdr hc1 hc2
       go_wp2_with fail
       go_at_call 42
       with_reducible refine (ref_field _ _ _).mono ?_
       rintro e w4 ⟨rfl, rfl⟩
       rw [HC2.out]
       go_wp2_with fail
       go_at_call 43
       with_reducible refine (waybillref01_Put.calls k Ab cb b (IntKind.u64.wrap y) b3 _ HO'.out.2 HO'.out.1 HP3.out).mono ?_
       rintro e w5 ⟨v5, rfl, hr5, hb⟩
       have HR5 := Aside0.mk (Kd.R_lower hr5 (show w.heap.size ≤ _ by have := HBr.out.size; omega))
       have BM5 := Aside0.mk (blk_below BMr.out hb)
       have HB5 := Aside0.mk (below_then HBr.out HBr.out.size hb)
       clear hr5 hb
       go_wp2_with fail
       go_roundw
       case rel => exact ⟨i + 1, b3, by go_num, by omega, ⟨fun _ => HK2.out, fun h => absurd h (by omega)⟩, HR5, BM5, HB5⟩
       case measure => simp [intOf]; omega
     · have hdt : dat a0_0 = true := by
         apply Classical.byContradiction
         intro hn
         have := HSZ.out
         rw [if_neg hn] at this
         omega
       have hei : i = ix.length := by have := HSZ.out; rw [if_pos hdt] at this; omega
       subst hei
       obtain ⟨_, hc1⟩ := HLL.out hdt
       have c0 : (((S[ix.length]'hlt).toNat : Int) == 100) = true := beq_iff_eq.mpr hc1
       have hK := HK.out.1 (by omega)
       rw [List.drop_of_length_le (by omega), List.map_nil, waybillref09_Encode.l0] at hK
       obtain rfl := Option.some.inj hK
       obtain ⟨b3, hp3, hz⟩ := Option.bind_eq_some_iff.1 ((if_pos hdt).symm.trans HZ.out)
       have HP3 := Aside0.mk hp3
       have HZ3 := Aside0.mk (Option.some.inj hz)
       have q11 : wr.cell? ⟨w.heap.size, 11, none⟩ = some (.slice A0_11 l0_11.length c0_11) := (blk_cell BMr.out 11).trans rfl
       have HRR := Aside0.mk (Kd.C_below HR.out HBr.out)
       clear hp3 hK HK hc1 hz hdt
       go_wp2_with fail
       go_at_call 44
       with_reducible refine (waybillref01_Texts.calls k Ab cb b A0_11 c0_11 l0_11 b3 _ HO'.out.2 HO'.out.1 HRR.out HC.out HP3.out).mono ?_
       rintro e w5 ⟨v5, rfl, hr5, hb⟩
       have HR5 := Aside0.mk (Kd.R_lower hr5 (show w.heap.size ≤ _ by have := HBr.out.size; omega))
       have BM5 := Aside0.mk (blk_below BMr.out hb)
       have HB5 := Aside0.mk (below_then HBr.out HBr.out.size hb)
       clear hr5 hb
       go_wp2_with fail
       go_roundw
       case rel => exact ⟨ix.length + 1, b3, by go_num, by omega, ⟨fun h => absurd h (by omega), fun _ => HZ3.out⟩, HR5, BM5, HB5⟩
       case measure => simp [intOf]; omega
   · have b1 : decide ((i : Int) < (S.size : Int)) = false := decide_eq_false (by omega)
     have b1' : decide (i < S.size) = false := decide_eq_false hlt
     have hfin : (b, (0 : Int)) = (r1, r2) := by
       have h2 := HSZ.out
       by_cases hd : dat a0_0 = true
       · rw [if_pos hd] at h2
         exact HK.out.2 (by omega)
       · rw [if_neg hd] at h2
         have hK := HK.out.1 (by omega)
         rw [List.drop_of_length_le (by omega), List.map_nil, waybillref09_Encode.l0] at hK
         obtain rfl := Option.some.inj hK
         exact Option.some.inj ((if_neg hd).symm.trans HZ.out)
     simp only [Prod.mk.injEq] at hfin
     obtain ⟨rfl, rfl⟩ := hfin
     clear HK
     go_wp2_with fail
     go_ret2
     exact ⟨_, rfl, HO.out, HBr.out⟩
end Go.Proofs.Ytkddlhcpplkpbaa.G
end
section
namespace Go.Proofs.Ytkddlhcpplkpbaa.G
open WB Go.RowKit Go.Proofs.YtkddlhcpplkpbaaW.PrintWords Go.Proofs.YtkddlhcpplkpbaaW.PrintLast Go.Proofs.YtkddlhcpplkpbaaW.PrintMore
attribute [local go_sem] max2_int min2_int max_two min_two max_three min_three max_four min_four   -- for this text's walks alone
def frame_check.f (l0 : List Int) : Option (Int) := if (l0.length : Int) = 0 then (some 8) else (if (l0.length : Int) > 4096 then (some 5) else (some 0))
set_option maxHeartbeats 8000000 in
set_option maxRecDepth 100000 in
theorem frame_check.calls (A0 : Option Addr) (c0 : Nat) (l0 : List Int) (r : Int) (w : World) (hr0 : Kd.C (Kd.int .u8) w A0 l0.length l0) (hc0 : l0.length ≤ c0) (h : frame_check.f l0 = some r) :
   Calls Try.prog 62 #[.slice A0 l0.length c0] w fun e w' => e = .returned (.int .i64 r) ∧ Drawn0 w w' := by
 have HR0 := Aside0.mk hr0
 have HC0 := Aside0.mk hc0
 clear hr0 hc0
 have H : (if (l0.length : Int) = 0 then (some 8) else (if (l0.length : Int) > 4096 then (some 5) else (some 0))) = some r := h
 clear h
 by_cases c2 : (l0.length : Int) = 0
 · rw [if_pos c2] at H
   have c2b0 : ((l0.length : Int) == 0) = true := beq_iff_eq.mpr c2
   have c2b1 : ((l0.length : Int) != 0) = false := bne_eq_false_iff_eq.mpr c2
   clear c2
   obtain rfl := Option.some.inj H
   simp only [Option.some.injEq, Prod.mk.injEq] at H
   obtain ⟨rfl⟩ := H
   go_enter Try.func62, Try.ntmps62
   go_wp2
   go_ret
   exact ⟨by first | rfl | (simp; done) | (simp [*]; done), by repeat (first | exact Drawn0.refl _ | apply Drawn0.step)⟩
 · rw [if_neg c2] at H
   have c2b0 : ((l0.length : Int) == 0) = false := beq_eq_false_iff_ne.mpr c2
   have c2b1 : ((l0.length : Int) != 0) = true := bne_iff_ne.mpr c2
   have c2b2 : ¬ (l0 = []) := fun h_ => c2 (by rw [h_]; rfl)
   by_cases c3 : (l0.length : Int) > 4096
   · rw [if_pos c3] at H
     have c3b0 : decide (4096 < (l0.length : Int)) = true := decide_eq_true c3
     have c3b1 : decide (4096 < l0.length) = true := decide_eq_true (by omega)
     clear c3
     obtain rfl := Option.some.inj H
     simp only [Option.some.injEq, Prod.mk.injEq] at H
     obtain ⟨rfl⟩ := H
     go_enter Try.func62, Try.ntmps62
     go_wp2
     go_ret
     exact ⟨by first | rfl | (simp; done) | (simp [*]; done), by repeat (first | exact Drawn0.refl _ | apply Drawn0.step)⟩
   · rw [if_neg c3] at H
     have c3b0 : decide (4096 < (l0.length : Int)) = false := decide_eq_false c3
     have c3b1 : decide (4096 < l0.length) = false := decide_eq_false (by omega)
     clear c3
     obtain rfl := Option.some.inj H
     simp only [Option.some.injEq, Prod.mk.injEq] at H
     obtain ⟨rfl⟩ := H
     go_enter Try.func62, Try.ntmps62
     go_wp2
     go_ret
     exact ⟨by first | rfl | (simp; done) | (simp [*]; done), by repeat (first | exact Drawn0.refl _ | apply Drawn0.step)⟩
end Go.Proofs.Ytkddlhcpplkpbaa.G
end
section
namespace Go.Proofs.Ytkddlhcpplkpbaa.G
open WB Go.RowKit Go.Proofs.YtkddlhcpplkpbaaW.PrintWords Go.Proofs.YtkddlhcpplkpbaaW.PrintLast Go.Proofs.YtkddlhcpplkpbaaW.PrintMore
attribute [local go_sem] max2_int min2_int max_two min_two max_three min_three max_four min_four   -- for this text's walks alone
def crc_eight.l0 : Nat → Int → Int → Option (Int)
 | 0, _, _ => none
 | k + 1, x0, x3 => if x3 < 8 then (crc_eight.l0 k (Go.bits .xor .u32 (x0 / 2) (((Go.bits .and .u32 x0 1) * 3988292384) % 4294967296)) (wrap64 (x3 + 1))) else (some x0)
def crc_eight.f (k : Nat) (a0 : Int) : Option (Int) := crc_eight.l0 k a0 0
set_option maxHeartbeats 8000000 in
set_option maxRecDepth 100000 in
theorem crc_eight.calls (k : Nat) (a0 : Int) (r : Int) (w : World) (h : crc_eight.f k a0 = some r) :
  Calls Try.prog 76 #[.int .u32 a0] w fun e w' => e = .returned (.int .u32 r) ∧ Drawn0 w w' := by
 have H : (crc_eight.l0 k a0 0) = some r := h
 clear h
 have H' := Aside0.mk H
 clear H
 have hsg_u32 : Go.IntKind.u32.signed = false := rfl
 have hmx_u32 : Go.IntKind.u32.max = 4294967295 := rfl
 go_enter Try.func76, Try.ntmps76
 go_wp2
 go_loopg [0, 3] k (fun kq v0 v3 w' => ∃ (x0_1 : Int) (x3_1 : Int), v0 = .int .u32 x0_1 ∧ v3 = .int .i64 x3_1 ∧ Aside0 (crc_eight.l0 kq x0_1 x3_1 = some r) ∧ Aside0 (kq ≤ k) ∧ Drawn0 w w')
 case atStart => exact ⟨(a0), (0), (by first | rfl | (simp; done) | (simp [*]; done)), (by first | rfl | (simp; done) | (simp [*]; done)), H', ⟨Nat.le_refl _⟩, by repeat (first | exact Drawn0.refl _ | apply Drawn0.step)⟩
 case round =>
  clear H'
  obtain ⟨x0_1, x3_1, rfl, rfl, HA, HK1, ⟨m1, rfl⟩⟩ := hrel
  cases gk with
  | zero => exact absurd HA.out (by simp [crc_eight.l0])
  | succ k1 =>
   have H := HA.out
   clear HA
   simp only [crc_eight.l0] at H
   by_cases c2 : x3_1 < 8
   · rw [if_pos c2] at H
     have c2b0 : decide (x3_1 < 8) = true := decide_eq_true c2
     clear c2
     have H' := Aside0.mk H
     clear H
     go_wp2
     go_roundg k1
     case measure => have := HK1.out; omega
     case rel => exact ⟨(Go.bits .xor .u32 (x0_1 / 2) (((Go.bits .and .u32 x0_1 1) * 3988292384) % 4294967296)), (wrap64 (x3_1 + 1)), (by first | rfl | (simp; done) | (simp [*]; done)), (by first | rfl | (simp; done) | (simp [*]; done)), H', ⟨by have := HK1.out; omega⟩, by repeat (first | exact Drawn0.refl _ | apply Drawn0.step)⟩
   · rw [if_neg c2] at H
     have c2b0 : decide (x3_1 < 8) = false := decide_eq_false c2
     clear c2
     obtain rfl := Option.some.inj H
     simp only [Option.some.injEq, Prod.mk.injEq] at H
     obtain ⟨rfl⟩ := H
     go_wp2
     go_ret
     exact ⟨by first | rfl | (simp; done) | (simp [*]; done), by repeat (first | exact Drawn0.refl _ | apply Drawn0.step)⟩
end Go.Proofs.Ytkddlhcpplkpbaa.G
end
section
namespace Go.Proofs.Ytkddlhcpplkpbaa.G
open WB Go.RowKit Go.Proofs.YtkddlhcpplkpbaaW.PrintWords Go.Proofs.YtkddlhcpplkpbaaW.PrintLast Go.Proofs.YtkddlhcpplkpbaaW.PrintMore
attribute [local go_sem] max2_int min2_int max_two min_two max_three min_three max_four min_four   -- for this text's walks alone
theorem eight_l (c : BitVec 32) (d : Nat) : ∀ (c : BitVec 32) (i : Nat), i + d = 8 → crc_eight.l0 (d + 1) (ofB c) (i : Int) = some (ofB (stps d c)) := by
 induction d with
 | zero =>
  intro c i hi
  rw [crc_eight.l0, if_neg (by omega)]
  rfl
 | succ d ih =>
  intro c i hi
  rw [crc_eight.l0, if_pos (by omega), ← stp_B', show wrap64 ((i : Int) + 1) = ((i + 1 : Nat) : Int) by unfold wrap64; omega, ih _ _ (by omega)]
  rfl
theorem eight_f (c : BitVec 32) : crc_eight.f 9 (ofB c) = some (ofB (stps 8 c)) := eight_l c 8 c 0 rfl
def tabV : Array Value := (Array.range 256).map fun i => .int .u32 (tabI i)
def tabK (k : Nat) : Array Value := (Array.range 256).map fun i => .int .u32 (if i < k then tabI i else 0)
theorem tabV_size : tabV.size = 256 := by simp [tabV]
theorem tabK_size (k : Nat) : (tabK k).size = 256 := by simp [tabK]
theorem tabK_get (k i : Nat) (h : i < 256) : (tabK k)[i]? = some (.int .u32 (if i < k then tabI i else 0)) := by
 unfold tabK
 rw [Array.getElem?_map]
 simp [h]
theorem tabV_get (i : Nat) (h : i < 256) : tabV[i]? = some (.int .u32 (tabI i)) := by
 unfold tabV
 rw [Array.getElem?_map]
 simp [h]
theorem tabK_step (k : Nat) (h : k < 256) : (tabK k).setIfInBounds k (.int .u32 (tabI k)) = tabK (k + 1) := by
 apply Array.ext_getElem?
 intro i
 rcases Nat.lt_or_ge i 256 with hi | hi
 · rw [tabK_get _ _ hi]
   by_cases he : k = i
   · subst he
     rw [Array.getElem?_setIfInBounds_self_of_lt (by rw [tabK_size]; exact h), if_pos (by omega)]
   · rw [Array.getElem?_setIfInBounds_ne he, tabK_get _ _ hi]
     by_cases h2 : i < k
     · rw [if_pos h2, if_pos (by omega)]
     · rw [if_neg h2, if_neg (by omega)]
 · rw [Array.getElem?_eq_none (by simp [tabK_size]; omega), Array.getElem?_eq_none (by rw [tabK_size]; omega)]
theorem tabK_done : tabK 256 = tabV := by
 apply Array.ext_getElem?
 intro i
 rcases Nat.lt_or_ge i 256 with hi | hi
 · rw [tabK_get _ _ hi, tabV_get _ hi, if_pos hi]
 · rw [Array.getElem?_eq_none (by rw [tabK_size]; omega), Array.getElem?_eq_none (by rw [tabV_size]; omega)]
theorem tabV_one : ∀ q ∈ tabV, q.oneCell' = true := by
 intro q hq
 unfold tabV at hq
 rw [Array.mem_map] at hq
 obtain ⟨i, _, rfl⟩ := hq
 rfl
set_option maxHeartbeats 2000000 in
set_option maxRecDepth 100000 in
theorem table_any (w : World) : Calls Try.prog 75 #[] w fun e w' => e = .returned (.agg tabV) ∧ Below w.heap.size w w' := by
 have hz : ∀ W, (zeroValue 114).run Try.prog W = .ok (.agg (tabK 0)) W := fun W => by kernel_rfl
 go_enter Try.func75, Try.ntmps75
 go_wp2
 go_loopw [2] (fun v2 wr => ∃ k : Nat, v2 = .int .i64 k ∧ k ≤ 256 ∧ Aside0 (wr.heap[w.heap.size]? = some (.cells (tabK k) 114 (0, 0))) ∧ Aside0 (Below w.heap.size w wr)) (fun v2 _ => 256 - (intOf v2).toNat)
 case atStart => exact ⟨0, rfl, by omega, ⟨heap_new1 _ _⟩, ⟨below_alloc (Below.refl _ _) _⟩⟩
 case round =>
  obtain ⟨k, rfl, hk, HG, HB⟩ := hrel
  have hlt0 : w.heap.size < wr.heap.size := blk_lt HG.out
  by_cases hlt : k < 256
  · have b1 : decide ((k : Int) < 256) = true := decide_eq_true (by omega)
    have c0 : wr.cell? ⟨w.heap.size, k, none⟩ = some (.int .u32 0) := by rw [blk_cell HG.out, tabK_get k k hlt, if_neg (by omega)]
    have f0 := blk_frozen HG.out k
    have hw : (k : Int) = ofB (BitVec.ofNat 32 k) := by unfold ofB; rw [BitVec.toNat_ofNat]; omega
    have HE : Aside0 (crc_eight.f 9 (k : Int) = some (tabI k)) := ⟨by rw [hw]; exact eight_f _⟩
    clear hw
    go_wp2_with (go_at_call 76; (with_reducible refine (crc_eight.calls 9 _ _ _ HE.out).mono ?_); rintro e w1 ⟨rfl, ⟨nd, rfl⟩⟩)
    go_roundw
    case rel =>
     exact ⟨k + 1, by go_num, by omega, ⟨blk_put (cs := tabK k) (w := wr.drewN nd) HG.out k _ (tabK_step k hlt)⟩, ⟨below_set (pw_below_drewN HB.out _) (Nat.le_refl _)⟩⟩
    case measure => simp [intOf]; omega
  · have b1 : decide ((k : Int) < 256) = false := decide_eq_false (by omega)
    obtain rfl : k = 256 := by omega
    rw [tabK_done] at HG
    go_wp2_with (first | ((with_reducible refine gate_dst (N := 11) rfl ?_); refine wp_load_whole rfl _ _ rfl rfl HG.out Try.underlying114 rfl (by rw [tabV_size]; kernel_rfl) ?_) | (refine wp_store_whole rfl rfl _ _ _ rfl rfl rfl HG.out (by rw [tabV_size]; kernel_rfl) rfl tabV_one ?_; intro w1 hg1 hr1 hs1))
    refine bodyPost_ret (results_cell_row rfl _ _ w.heap.size 114 tabV (0, 0) _ rfl hg1 Try.underlying114 rfl (by rw [tabV_size]; kernel_rfl)) rfl ?_
    exact ⟨rfl, below_grown_own HB.out hr1 (fun q hq => by injection hq with hq; omega)⟩
theorem regV_build (x : Int) (W : World) : (Instr.build 117 #[(0, .int .u32 x), (1, .agg tabV)]).run Try.prog W = .ok (.agg (#[.int .u32 x] ++ tabV)) W := by
 have hz : ∀ W, (zeroValue 117).run Try.prog W = .ok (.agg (#[.int .u32 0] ++ tabK 0)) W := fun W => by kernel_rfl
 have hu := fun W => run_underlying (w := W) Try.underlying117
 have h1 : ∀ W, (sizeOf 102).run Try.prog W = .ok 1 W := fun W => by kernel_rfl
 have h2 : ∀ W, (sizeOf 114).run Try.prog W = .ok 256 W := fun W => by kernel_rfl
 unfold Instr.build
 have c1 : (Value.int .u32 x).cells = #[.int .u32 x] := rfl
 have c2 : (Value.agg tabV).cells = tabV := rfl
 have c3 : (Value.agg (#[Value.int .u32 0] ++ tabK 0)).cells = #[Value.int .u32 0] ++ tabK 0 := rfl
 have e1 : Array.foldl (fun (cs : Array Value) (x : Value × Nat) => cs.setIfInBounds x.snd x.fst) (#[Value.int .u32 0] ++ tabK 0) (#[Value.int .u32 x] : Array Value).zipIdx = #[Value.int .u32 x] ++ tabK 0 := by
  apply Array.ext'
  simp
 have e2 : Array.foldl (fun (cs : Array Value) (x : Value × Nat) => cs.setIfInBounds (1 + x.snd) x.fst) (#[Value.int .u32 x] ++ tabK 0) tabV.zipIdx = #[Value.int .u32 x] ++ tabV := by
  have := fold_set_arr tabV 1 (#[Value.int .u32 x] ++ tabK 0) (by simp [tabV_size, tabK_size])
  apply Array.ext'
  rw [this]
  have hl : (tabK 0).size = 256 := tabK_size 0
  simp [tabV_size]
  omega
 simp [hz, hu, h1, h2, Instr.fill, c1, c2, c3]
 simp at e2
 rw [if_neg (by rw [tabV_size, tabK_size]; omega), e2]
 rfl
set_option maxHeartbeats 2000000 in
set_option maxRecDepth 100000 in
theorem crc_at (c : BitVec 32) (w : World) : Calls Try.prog 72 #[.int .u32 (ofB c)] w fun e w' => ∃ g, e = .returned (.pointer (some ⟨g, 0, none⟩)) ∧ w.heap.size ≤ g ∧ w'.heap[g]? = some (.cells (#[.int .u32 (ofB (~~~c))] ++ tabV) 117 (0, 0)) ∧ Below w.heap.size w w' := by
 have hb := fun W => Aside0.mk (regV_build (ofB (~~~c)) W)
 have HB := Aside0.mk hb
 clear hb
 have hn := not_B' c
 have hsg : IntKind.u32.signed = false := rfl
 have hmx : IntKind.u32.max = 4294967295 := rfl
 go_enter Try.func72, Try.ntmps72
 go_wp2_with (first | (go_at_call 75; (with_reducible refine (table_any _).mono ?_); rintro e w1 ⟨rfl, hb1⟩; have HB1 := Aside0.mk hb1; clear hb1) | ((with_reducible refine gate_dst (N := 6) rfl ?_); refine wp_build_by rfl _ _ rfl #[(0, .int .u32 (ofB (~~~c))), (1, .agg tabV)] (by simp [Act.eval]) ((HB.out _).out) ?_))
 go_ret
 exact ⟨_, rfl, HB1.out.size, heap_new1 _ _, below_alloc HB1.out _⟩
set_option maxHeartbeats 2000000 in
set_option maxRecDepth 100000 in
theorem crc_on (g : Nat) (c : BitVec 32) (A : Option Addr) (n0 : Nat) (l : List Int) (w : World) (hg : w.heap[g]? = some (.cells (#[.int .u32 (ofB c)] ++ tabV) 117 (0, 0))) (hr : Kd.C (Kd.int .u8) w A l.length l) (hc : l.length ≤ n0) (hf : ∀ ad, A = some ad → 0 < l.length → ad.block ≠ g) (ho : octetsOk l = true) :
  Calls Try.prog 73 #[.pointer (some ⟨g, 0, none⟩), .slice A l.length n0] w fun e w' => e = .returned (.tuple #[]) ∧ w'.heap[g]? = some (.cells (#[.int .u32 (ofB (runO c l))] ++ tabV) 117 (0, 0)) ∧ KeepBut w w' g none ∧ w.grownBy w' (some g) := by
 have hc0 : ∀ l', ofB (runO c l') = ofB (runO c l') := fun _ => rfl
 clear hc0
 have HR := Aside0.mk hr
 have HF := Aside0.mk hf
 have HO := Aside0.mk ho
 have HN := Aside0.mk hc
 have hgl := blk_lt hg
 have HG0 := Aside0.mk hg
 clear hg hr hf ho hc
 go_enter Try.func73, Try.ntmps73
 go_wp2
 go_loopw [8] (fun v8 wr => ∃ k : Nat, v8 = .int .i64 k ∧ k ≤ l.length ∧ Aside0 (wr.heap[g]? = some (.cells (#[.int .u32 (ofB (runO c (l.take k)))] ++ tabV) 117 (0, 0))) ∧ Aside0 (KeepBut w wr g none ∧ w.grownBy wr (some g))) (fun v8 _ => l.length - (intOf v8).toNat)
 case atStart => exact ⟨0, rfl, by omega, HG0, ⟨KeepBut.refl _ _ _, grown_of_below (Below.refl _ _) _⟩⟩
 case round =>
  obtain ⟨k, rfl, hk, HG, HK⟩ := hrel
  by_cases hlt : k < l.length
  · have b1 : decide ((k : Int) < (l.length : Int)) = true := decide_eq_true (by omega)
    have b1' : decide (k < l.length) = true := decide_eq_true hlt
    obtain ⟨ad, e1, q0⟩ := Kd.at_int (Kd.C_keep 0 HR.out HK.out.1 HF.out) (k : Int) (by omega) (by omega)
    have hrd : rd l (k : Int) = l.getD k 0 := by simp [rd]
    rw [hrd] at q0
    simp only [Int.toNat_natCast] at q0
    have HX := Aside0.mk (octetsOk_get HO.out k)
    have hmax : l.length ≤ 9223372036854775807 := HR.out.2.1
    have hwk : wrap64 ((k : Int) + 1) = ((k + 1 : Nat) : Int) := by unfold wrap64; omega
    obtain ⟨x, hx⟩ : ∃ x, x = l.getD k 0 := ⟨_, rfl⟩
    rw [← hx] at q0 HX
    obtain ⟨C, hC⟩ : ∃ C, C = runO c (l.take k) := ⟨_, rfl⟩
    rw [← hC] at HG
    have HS : Aside0 (runO c (l.take (k + 1)) = onO C x) := ⟨by rw [List.take_succ_eq_append_getElem hlt, runO_append, hC, hx]; simp [runO, List.getElem?_eq_getElem hlt]⟩
    obtain ⟨i, hi, hi1, hi2⟩ := idx_B C x HX.out.1 HX.out.2
    have c0 : wr.cell? ⟨g, 0, none⟩ = some (.int .u32 (ofB C)) := by rw [blk_cell HG.out, Array.getElem?_append_left (by simp)]; rfl
    have c1 : wr.cell? ⟨g, 1 + i, none⟩ = some (.int .u32 (tabI i)) := by rw [blk_cell HG.out, Array.getElem?_append_right (by simp)]; simpa using tabV_get i hi
    have f0 := blk_frozen HG.out 0
    have hi2' : bits .xor .u32 (ofB C / 256) (tabI i) = ofB (onO C x) := hi2
    have hi1w : bits .xor .u8 (IntKind.u8.wrap (ofB C)) x = (i : Int) := by rw [IntKind.wrap_u8]; exact hi1
    have hi0 : (0 : Int) ≤ (i : Int) := by omega
    have hi3 : (i : Int) < 256 := by omega
    clear hrd hx hC hi2
    subst e1
    go_wp2_with fail
    go_still_tail 21, (by kernel_rfl)
    go_wp2
    go_roundw
    case rel =>
     refine ⟨k + 1, by first | rw [hwk] | go_num, by omega, ⟨?_⟩, ⟨(HK.out.1.set_ 0 _), grown_drew (grown_set HK.out.2)⟩⟩
     rw [HS.out]
     exact blk_put (cs := #[.int .u32 (ofB C)] ++ tabV) HG.out 0 _ (by simp [Array.setIfInBounds_append])
    case measure => first | (rw [hwk]; simp [intOf]; omega) | (simp [intOf]; omega)
  · have b1 : decide ((k : Int) < (l.length : Int)) = false := decide_eq_false (by omega)
    have b1' : decide (k < l.length) = false := decide_eq_false hlt
    rw [List.take_of_length_le (by omega)] at HG
    go_wp2
    go_end0
    exact ⟨rfl, HG.out, HK.out.1, HK.out.2⟩
set_option maxHeartbeats 2000000 in
theorem crc_sum (g : Nat) (c : BitVec 32) (w : World) (hg : w.heap[g]? = some (.cells (#[.int .u32 (ofB c)] ++ tabV) 117 (0, 0))) :
  Calls Try.prog 74 #[.pointer (some ⟨g, 0, none⟩)] w fun e w' => e = .returned (.int .u32 (ofB (~~~c))) ∧ w = w' := by
 have c0 : w.cell? ⟨g, 0, none⟩ = some (.int .u32 (ofB c)) := by rw [blk_cell hg, Array.getElem?_append_left (by simp)]; rfl
 have hn := not_B' c
 have hsg : IntKind.u32.signed = false := rfl
 have hmx : IntKind.u32.max = 4294967295 := rfl
 clear hg
 go_enter Try.func74, Try.ntmps74
 go_wp2
 go_ret
 exact ⟨rfl, rfl⟩
end Go.Proofs.Ytkddlhcpplkpbaa.G
end
section
namespace Go.Proofs.Ytkddlhcpplkpbaa.G
open WB Go.RowKit Go.Proofs.YtkddlhcpplkpbaaW.PrintWords Go.Proofs.YtkddlhcpplkpbaaW.PrintLast Go.Proofs.YtkddlhcpplkpbaaW.PrintMore
attribute [local go_sem] max2_int min2_int max_two min_two max_three min_three max_four min_four   -- for this text's walks alone
def crc_Sum.f (l0 : List (List Int)) : Option (Int) := if l0.all octetsOk then some (ofB (~~~ (runO (BitVec.allOnes 32) l0.flatten))) else none
set_option maxHeartbeats 2000000 in
set_option maxRecDepth 100000 in
theorem crc_Sum.calls (A0 : Option Addr) (c0 : Nat) (l0 : List (List Int)) (r : Int) (w : World) (hr0 : Kd.C (Kd.slice 5 (Kd.int .u8)) w A0 l0.length l0) (hc0 : l0.length ≤ c0) (h : crc_Sum.f l0 = some r) :
  Calls Try.prog 70 #[.slice A0 l0.length c0] w fun e w' => e = .returned (.int .u32 r) ∧ Below w.heap.size w w' := by
 unfold crc_Sum.f at h
 split at h
 case isFalse => cases h
 case isTrue ho =>
 obtain rfl := Option.some.inj h
 clear h
 have HR := Aside0.mk hr0
 have HC := Aside0.mk hc0
 have HO := Aside0.mk ho
 have hmax : l0.length ≤ 9223372036854775807 := hr0.2.1
 have hat := crc_at 0#32
 rw [show ofB 0#32 = 0 from rfl, show (~~~ 0#32 : BitVec 32) = BitVec.allOnes 32 from rfl] at hat
 have HAT := fun W => Aside0.mk (hat W)
 have HAT' := Aside0.mk HAT
 clear hr0 hc0 ho hat HAT
 go_enter Try.func70, Try.ntmps70
 go_wp2_with (go_at_call 72; (with_reducible refine ((HAT'.out _).out).mono ?_); rintro e w1 ⟨g, rfl, hg1, hg2, hb⟩; have HG1 := Aside0.mk hg1; have HG2 := Aside0.mk hg2; have HB1 := Aside0.mk hb; clear hg1 hg2 hb)
 go_loopw [9] (fun v9 wr => ∃ k : Nat, v9 = .int .i64 k ∧ k ≤ l0.length ∧ Aside0 (wr.heap[g]? = some (.cells (#[.int .u32 (ofB (runO (BitVec.allOnes 32) (l0.take k).flatten))] ++ tabV) 117 (0, 0))) ∧ Aside0 (Below w.heap.size w wr)) (fun v9 _ => l0.length - (intOf v9).toNat)
 case atStart => exact ⟨0, rfl, by omega, HG2, HB1⟩
 case round =>
  obtain ⟨k, rfl, hk, HG, HB⟩ := hrel
  by_cases hlt : k < l0.length
  · have b1 : decide ((k : Int) < (l0.length : Int)) = true := decide_eq_true (by omega)
    have b1' : decide (k < l0.length) = true := decide_eq_true hlt
    obtain ⟨ad, A1, c1, e1, q0, q1, q2⟩ := at_rows (Kd.C_below HR.out HB.out) k hlt
    obtain ⟨ad', A1', c1', e1', q0', q1', q2'⟩ := at_rows HR.out k hlt
    have hx : l0.getD k [] ∈ l0 := by rw [List.getD_eq_getElem?_getD, List.getElem?_eq_getElem hlt]; exact List.getElem_mem hlt
    have HT : Aside0 ((l0.take (k + 1)).flatten = (l0.take k).flatten ++ l0.getD k []) := ⟨by rw [List.take_succ_eq_append_getElem hlt, List.flatten_append, List.getD_eq_getElem?_getD, List.getElem?_eq_getElem hlt]; simp⟩
    have HOX : Aside0 (octetsOk (l0.getD k []) = true) := ⟨List.all_eq_true.1 HO.out _ hx⟩
    obtain ⟨x, hxx⟩ : ∃ x, x = l0.getD k [] := ⟨_, rfl⟩
    rw [← hxx] at q0 q1 q2 HT HOX q0' q2'
    have hcel := (HB.out.cell (p := ad'.add k) (World.block_lt_of_cell? w _ q0')).trans q0'
    obtain rfl : ad = ad' := Option.some.inj (e1.symm.trans e1')
    have hAA := q0.symm.trans hcel
    obtain rfl : A1 = A1' := by injection hAA with h; injection h
    have HF := Aside0.mk (Kd.far_C 0 q2' HG1.out)
    have Q1 := Aside0.mk q1
    have Q2 := Aside0.mk q2
    have hwk : wrap64 ((k : Int) + 1) = ((k + 1 : Nat) : Int) := by unfold wrap64; omega
    clear hx hxx e1' q0' q1' q2' hcel hAA q1 q2
    subst e1
    go_wp2_with (go_at_call 73; (with_reducible refine (crc_on g _ A1 c1 x _ HG.out Q2.out Q1.out HF.out HOX.out).mono ?_); rintro e w2 ⟨rfl, hg3, hk3, hw3⟩; have HG3 := Aside0.mk hg3; have HW3 := Aside0.mk hw3; clear hg3 hk3 hw3)
    go_roundw
    case rel =>
     refine ⟨k + 1, by first | rw [hwk] | go_num, by omega, ⟨?_⟩, ⟨below_grown_own HB.out HW3.out (fun q hq => by injection hq with hq; have := HG1.out; omega) HB.out.size⟩⟩
     rw [HT.out, runO_append]
     exact HG3.out
    case measure => first | (rw [hwk]; simp [intOf]; omega) | (simp [intOf]; omega)
  · have b1 : decide ((k : Int) < (l0.length : Int)) = false := decide_eq_false (by omega)
    have b1' : decide (k < l0.length) = false := decide_eq_false hlt
    rw [List.take_of_length_le (by omega)] at HG
    go_wp2_with (go_at_call 74; (with_reducible refine (crc_sum g _ _ HG.out).mono ?_); rintro e w2 ⟨rfl, rfl⟩)
    go_ret
    exact ⟨rfl, HB.out⟩
end Go.Proofs.Ytkddlhcpplkpbaa.G
end
