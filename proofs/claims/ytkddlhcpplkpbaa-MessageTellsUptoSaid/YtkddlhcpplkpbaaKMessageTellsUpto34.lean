/- MessageTellsUpto: texts of this claim, packed: what the kit's print has written for it and own texts, without what its proof does not reach. -/
import Derived.Test.YtkddlhcpplkpbaaKMessageTellsUpto15
import Derived.Test.YtkddlhcpplkpbaaKMessageTellsUpto24
import Derived.Test.YtkddlhcpplkpbaaKMessageTellsUpto28
import Derived.Test.YtkddlhcpplkpbaaKMessageTellsUpto33
set_option linter.unusedVariables false
set_option linter.unusedSimpArgs false
set_option linter.unusedSectionVars false
section
namespace Go.Proofs.Ytkddlhcpplkpbaa.G
open WB Go.RowKit Go.Proofs.YtkddlhcpplkpbaaW.PrintWords Go.Proofs.YtkddlhcpplkpbaaW.PrintLast Go.Proofs.YtkddlhcpplkpbaaW.PrintMore
attribute [local go_sem] max2_int min2_int max_two min_two max_three min_three max_four min_four   -- for this text's walks alone
def waybillref02_Sum.f (k : Nat) (l0 : List Int) : Option (Int) := (waybillref02_run.f k 4294967295 l0).bind fun t388 => (some (Go.bits .xor .u32 4294967295 t388))
set_option maxHeartbeats 8000000 in
set_option maxRecDepth 100000 in
theorem waybillref02_Sum.calls (k : Nat) (A0 : Option Addr) (c0 : Nat) (l0 : List Int) (r : Int) (w : World) (hr0 : Kd.C (Kd.int .u8) w A0 l0.length l0) (hc0 : l0.length ≤ c0) (h : waybillref02_Sum.f k l0 = some r) :
  Calls Try.prog 65 #[.slice A0 l0.length c0] w fun e w' => e = .returned (.int .u32 r) ∧ Drawn0 w w' := by
 have HR0 := Aside0.mk hr0
 have HC0 := Aside0.mk hc0
 clear hr0 hc0
 have H : ((waybillref02_run.f k 4294967295 l0).bind fun t388 => (some (Go.bits .xor .u32 4294967295 t388))) = some r := h
 clear h
 replace H := Option.bind_eq_some_iff.mp H
 obtain ⟨t388, A20, H⟩ := H
 replace H : (some (Go.bits .xor .u32 4294967295 t388)) = some r := H
 have A2 := Aside0.mk A20
 clear A20
 obtain rfl := Option.some.inj H
 simp only [Option.some.injEq, Prod.mk.injEq] at H
 obtain ⟨rfl⟩ := H
 have hsg_u32 : Go.IntKind.u32.signed = false := rfl
 have hmx_u32 : Go.IntKind.u32.max = 4294967295 := rfl
 go_enter Try.func65, Try.ntmps65
 go_wp2_with (first | ((with_reducible refine gate_callee (f := 71) rfl ?_); refine goesL_ (some 4) rfl rfl Try.func71 (by kernel_rfl) rfl #[.int .u32 4294967295, .slice A0 l0.length c0] rfl (by (try simp only [List.map_toArray, List.map_cons, List.map_nil]); first | done | rfl | (simp only [List.length_drop, List.length_take]; rfl)) ?_; (with_reducible refine (waybillref02_run.calls k 4294967295 _ _ l0 t388 _ ?side1 ?side2 A2.out).mono ?_); (case side1 => repeat (first | exact HR0.out | (with_reducible refine Kd.C_alloc ?_ _) | (with_reducible refine Kd.C_drewN ?_ _) | (with_reducible refine Kd.C_drew ?_))); (case side2 => exact HC0.out); rintro e w' ⟨rfl, ⟨nd, rfl⟩⟩; refine ⟨_, rfl, ?_⟩))
 go_ret
 exact ⟨by first | rfl | (simp; done) | (simp [*]; done), by repeat (first | exact Drawn0.refl _ | apply Drawn0.step)⟩
end Go.Proofs.Ytkddlhcpplkpbaa.G
end
section
namespace Go.Proofs.Ytkddlhcpplkpbaa.G
open WB Go.RowKit Go.Proofs.YtkddlhcpplkpbaaW.PrintWords Go.Proofs.YtkddlhcpplkpbaaW.PrintLast Go.Proofs.YtkddlhcpplkpbaaW.PrintMore
attribute [local go_sem] max2_int min2_int max_two min_two max_three min_three max_four min_four   -- for this text's walks alone
def waybillref03_Put.f (k : Nat) (l0 : List Int) (l1 : List Int) : Option (List Int × Int) := if (l1.length : Int) = 0 then (some (([] : List Int), 8)) else (if (l1.length : Int) > 4096 then (some (([] : List Int), 5)) else ((waybillref01_Texts.f k ([] : List Int) l1).bind fun t389 => ((waybillref02_Sum.f k t389).bind fun t392 => ((waybillref01_Copied.f l0).bind fun t393 => ((some (([(t392) % 256, (t392 / 256) % 256, (t392 / 65536) % 256, (t392 / 16777216) % 256] : List Int) : List Int)).bind fun y396 => (if t389.length + y396.length < 140737488355328 then ((some (t389 ++ y396 : List Int)).bind fun y399 => (if t393.length + y399.length < 140737488355328 then (some ((t393 ++ y399), 0)) else (none))) else (none)))))))
set_option maxHeartbeats 8000000 in
set_option maxRecDepth 100000 in
theorem waybillref03_Put.calls (k : Nat) (A0 : Option Addr) (c0 : Nat) (l0 : List Int) (A1 : Option Addr) (c1 : Nat) (l1 : List Int) (r1 : List Int) (r2 : Int) (w : World) (hr0 : Kd.C (Kd.int .u8) w A0 l0.length l0) (hc0 : l0.length ≤ c0) (hr1 : Kd.C (Kd.int .u8) w A1 l1.length l1) (hc1 : l1.length ≤ c1) (h : waybillref03_Put.f k l0 l1 = some (r1, r2)) :
   Calls Try.prog 47 #[.slice A0 l0.length c0, .slice A1 l1.length c1] w fun e w' => ∃ v0_ : Value, e = .returned (.tuple #[v0_, .int .i64 r2]) ∧ Kd.R (Kd.int .u8) 5 w' w.heap.size (fun _ => True) v0_ r1 ∧ Below w.heap.size w w' := by
 have HR0 := Aside0.mk hr0
 have HC0 := Aside0.mk hc0
 clear hr0 hc0
 have HR1 := Aside0.mk hr1
 have HC1 := Aside0.mk hc1
 clear hr1 hc1
 have HB := Aside0.mk (Below.refl w.heap.size w)
 have H : (if (l1.length : Int) = 0 then (some (([] : List Int), 8)) else (if (l1.length : Int) > 4096 then (some (([] : List Int), 5)) else ((waybillref01_Texts.f k ([] : List Int) l1).bind fun t389 => ((waybillref02_Sum.f k t389).bind fun t392 => ((waybillref01_Copied.f l0).bind fun t393 => ((some (([(t392) % 256, (t392 / 256) % 256, (t392 / 65536) % 256, (t392 / 16777216) % 256] : List Int) : List Int)).bind fun y396 => (if t389.length + y396.length < 140737488355328 then ((some (t389 ++ y396 : List Int)).bind fun y399 => (if t393.length + y399.length < 140737488355328 then (some ((t393 ++ y399), 0)) else (none))) else (none)))))))) = some (r1, r2) := h
 clear h
 by_cases c3 : (l1.length : Int) = 0
 · rw [if_pos c3] at H
   have c3b0 : ((l1.length : Int) == 0) = true := beq_iff_eq.mpr c3
   have c3b1 : ((l1.length : Int) != 0) = false := bne_eq_false_iff_eq.mpr c3
   clear c3
   simp only [Option.some.injEq, Prod.mk.injEq] at H
   obtain ⟨rfl, rfl⟩ := H
   go_enter Try.func47, Try.ntmps47
   go_wp2
   go_ret2
   exact ⟨_, by first | rfl | (simp [errW_none, errW_some] <;> rfl) | (simp [*, errW_none, errW_some] <;> rfl), by first | exact Kd.R_nil _ _ _ _ _ | exact Kd.N_nil _ _ _ _ _ | exact Kd.V_nil _ _ _ _ _ | exact Kd.Q_nil _ _ _ _ _ | exact Kd.S_nil _ _ _ _ _, by repeat (first | (with_reducible first | exact HB.out | apply below_alloc | apply pw_below_drewN | apply below_drew1) | exact HB.out)⟩
 · rw [if_neg c3] at H
   have c3b0 : ((l1.length : Int) == 0) = false := beq_eq_false_iff_ne.mpr c3
   have c3b1 : ((l1.length : Int) != 0) = true := bne_iff_ne.mpr c3
   have c3b2 : ¬ (l1 = []) := fun h_ => c3 (by rw [h_]; rfl)
   by_cases c4 : (l1.length : Int) > 4096
   · rw [if_pos c4] at H
     have c4b0 : decide (4096 < (l1.length : Int)) = true := decide_eq_true c4
     have c4b1 : decide (4096 < l1.length) = true := decide_eq_true (by omega)
     clear c4
     simp only [Option.some.injEq, Prod.mk.injEq] at H
     obtain ⟨rfl, rfl⟩ := H
     go_enter Try.func47, Try.ntmps47
     go_wp2
     go_ret2
     exact ⟨_, by first | rfl | (simp [errW_none, errW_some] <;> rfl) | (simp [*, errW_none, errW_some] <;> rfl), by first | exact Kd.R_nil _ _ _ _ _ | exact Kd.N_nil _ _ _ _ _ | exact Kd.V_nil _ _ _ _ _ | exact Kd.Q_nil _ _ _ _ _ | exact Kd.S_nil _ _ _ _ _, by repeat (first | (with_reducible first | exact HB.out | apply below_alloc | apply pw_below_drewN | apply below_drew1) | exact HB.out)⟩
   · rw [if_neg c4] at H
     have c4b0 : decide (4096 < (l1.length : Int)) = false := decide_eq_false c4
     have c4b1 : decide (4096 < l1.length) = false := decide_eq_false (by omega)
     clear c4
     replace H := Option.bind_eq_some_iff.mp H
     obtain ⟨t389, A50, H⟩ := H
     replace H : ((waybillref02_Sum.f k t389).bind fun t392 => ((waybillref01_Copied.f l0).bind fun t393 => ((some (([(t392) % 256, (t392 / 256) % 256, (t392 / 65536) % 256, (t392 / 16777216) % 256] : List Int) : List Int)).bind fun y396 => (if t389.length + y396.length < 140737488355328 then ((some (t389 ++ y396 : List Int)).bind fun y399 => (if t393.length + y399.length < 140737488355328 then (some ((t393 ++ y399), 0)) else (none))) else (none))))) = some (r1, r2) := H
     have A5 := Aside0.mk A50
     clear A50
     replace H := Option.bind_eq_some_iff.mp H
     obtain ⟨t392, A60, H⟩ := H
     replace H : ((waybillref01_Copied.f l0).bind fun t393 => ((some (([(t392) % 256, (t392 / 256) % 256, (t392 / 65536) % 256, (t392 / 16777216) % 256] : List Int) : List Int)).bind fun y396 => (if t389.length + y396.length < 140737488355328 then ((some (t389 ++ y396 : List Int)).bind fun y399 => (if t393.length + y399.length < 140737488355328 then (some ((t393 ++ y399), 0)) else (none))) else (none)))) = some (r1, r2) := H
     have A6 := Aside0.mk A60
     clear A60
     replace H := Option.bind_eq_some_iff.mp H
     obtain ⟨t393, A70, H⟩ := H
     replace H : ((some (([(t392) % 256, (t392 / 256) % 256, (t392 / 65536) % 256, (t392 / 16777216) % 256] : List Int) : List Int)).bind fun y396 => (if t389.length + y396.length < 140737488355328 then ((some (t389 ++ y396 : List Int)).bind fun y399 => (if t393.length + y399.length < 140737488355328 then (some ((t393 ++ y399), 0)) else (none))) else (none))) = some (r1, r2) := H
     have A7 := Aside0.mk A70
     clear A70
     obtain ⟨y396, hy396⟩ : ∃ y_ : List Int, y_ = (([(t392) % 256, (t392 / 256) % 256, (t392 / 65536) % 256, (t392 / 16777216) % 256] : List Int)) := ⟨_, rfl⟩
     replace H : (if t389.length + y396.length < 140737488355328 then ((some (t389 ++ y396 : List Int)).bind fun y399 => (if t393.length + y399.length < 140737488355328 then (some ((t393 ++ y399), 0)) else (none))) else (none)) = some (r1, r2) := by first | (rw [hy396]; with_reducible exact H) | (have H2_ := (Option.bind_some _ _).symm.trans H; rw [hy396]; with_reducible exact H2_) | (have H2_ := (Option.bind_some _ _).symm.trans H; with_reducible exact H2_) | with_reducible exact H | (rw [hy396]; exact H) | exact H
     have Ny396 := Aside0.mk hy396
     clear hy396
     by_cases c8 : t389.length + y396.length < 140737488355328
     · rw [if_pos c8] at H
       have LMc8 := Aside0.mk c8
       clear c8
       obtain ⟨y399, hy399⟩ : ∃ y_ : List Int, y_ = (t389 ++ y396) := ⟨_, rfl⟩
       replace H : (if t393.length + y399.length < 140737488355328 then (some ((t393 ++ y399), 0)) else (none)) = some (r1, r2) := by first | (rw [hy399]; with_reducible exact H) | (have H2_ := (Option.bind_some _ _).symm.trans H; rw [hy399]; with_reducible exact H2_) | (have H2_ := (Option.bind_some _ _).symm.trans H; with_reducible exact H2_) | with_reducible exact H | (rw [hy399]; exact H) | exact H
       have Ny399 := Aside0.mk hy399
       clear hy399
       by_cases c9 : t393.length + y399.length < 140737488355328
       · rw [if_pos c9] at H
         have LMc9 := Aside0.mk c9
         clear c9
         obtain ⟨y402, hy402⟩ : ∃ y_ : List Int, y_ = (t393 ++ y399) := ⟨_, rfl⟩
         replace H : (some (y402, 0)) = some (r1, r2) := by first | (rw [hy402]; with_reducible exact H) | (have H2_ := (Option.bind_some _ _).symm.trans H; rw [hy402]; with_reducible exact H2_) | (have H2_ := (Option.bind_some _ _).symm.trans H; with_reducible exact H2_) | with_reducible exact H | (rw [hy402]; exact H) | exact H
         have Ny402 := Aside0.mk hy402
         clear hy402
         simp only [Option.some.injEq, Prod.mk.injEq] at H
         obtain ⟨rfl, rfl⟩ := H
         go_enter Try.func47, Try.ntmps47
         go_wp2_with (first | ((with_reducible refine gate_callee (f := 44) rfl ?_); refine goesL_ (some 17) rfl rfl Try.func44 (by kernel_rfl) rfl #[.slice none 0 0, .slice A1 l1.length c1] rfl (by (try simp only [List.map_toArray, List.map_cons, List.map_nil]); first | done | rfl | (simp only [List.length_drop, List.length_take]; rfl)) ?_; (refine (waybillref01_Texts.calls k _ _ ([] : List Int) _ _ l1 t389 _ ?side1 ?side2 ?side3 ?side4 A5.out).mono ?_); (case side1 => exact Kd.C_nil _ _); (case side2 => exact Nat.le_refl _); (case side3 => repeat (first | exact HR1.out | (with_reducible refine Kd.C_alloc ?_ _) | (with_reducible refine Kd.C_drewN ?_ _) | (with_reducible refine Kd.C_drew ?_))); (case side4 => exact HC1.out); rintro e w10 ⟨v390, rfl, ho0, hb⟩; refine ⟨_, rfl, ?_⟩; have n0_ := Aside0.mk (Kd.R_lower ho0 (below_size (by repeat (first | (with_reducible first | exact HB.out | apply below_alloc | apply pw_below_drewN | apply below_drew1) | exact HB.out)))); have n1_ := Aside0.mk (below_step (by repeat (first | (with_reducible first | exact HB.out | apply below_alloc | apply pw_below_drewN | apply below_drew1) | exact HB.out)) hb); clear HB; have HO391 := n0_; have HB := n1_; clear n0_ n1_; (try clear hb); (try clear hb2); (try clear hk); (try clear hi); (try clear ho0); obtain ⟨Ao11, co11, eo11⟩ := Kd.R_slice HO391.out; subst eo11) | ((with_reducible refine gate_callee (f := 65) rfl ?_); refine goesL_ (some 19) rfl rfl Try.func65 (by kernel_rfl) rfl #[.slice Ao11 t389.length co11] rfl (by (try simp only [List.map_toArray, List.map_cons, List.map_nil]); first | done | rfl | (simp only [List.length_drop, List.length_take]; rfl)) ?_; (with_reducible refine (waybillref02_Sum.calls k _ _ t389 t392 _ ?side1 ?side2 A6.out).mono ?_); (case side1 => repeat (first | exact (Kd.R_reads' HO391.out).2.2 | (with_reducible refine Kd.C_alloc ?_ _) | (with_reducible refine Kd.C_drewN ?_ _) | (with_reducible refine Kd.C_drew ?_))); (case side2 => exact (Kd.R_reads' HO391.out).2.1); rintro e w' ⟨rfl, ⟨nd, rfl⟩⟩; refine ⟨_, rfl, ?_⟩) | ((with_reducible refine gate_callee (f := 61) rfl ?_); refine goesL_ (some 21) rfl rfl Try.func61 (by kernel_rfl) rfl #[.slice A0 l0.length c0] rfl (by (try simp only [List.map_toArray, List.map_cons, List.map_nil]); first | done | rfl | (simp only [List.length_drop, List.length_take]; rfl)) ?_; (with_reducible refine (waybillref01_Copied.calls _ _ l0 t393 _ ?side1 ?side2 A7.out).mono ?_); (case side1 => repeat (first | exact (Kd.C_below HR0.out (by repeat (first | (with_reducible first | exact HB.out | apply below_alloc | apply pw_below_drewN | apply below_drew1) | exact HB.out))) | (with_reducible refine Kd.C_alloc ?_ _) | (with_reducible refine Kd.C_drewN ?_ _) | (with_reducible refine Kd.C_drew ?_))); (case side2 => exact HC0.out); rintro e w12 ⟨v394, rfl, ho0, hb⟩; refine ⟨_, rfl, ?_⟩; have n0_ := Aside0.mk (Kd.R_elder' (by (with_reducible repeat (first | apply Kd.R_alloc | apply Kd.R_drewN | apply Kd.R_drew)); exact HO391.out) (Kd.R_base ho0) hb); have n1_ := Aside0.mk (Kd.R_lower (Kd.R_new' ho0 (Kd.R_lt (by (with_reducible repeat (first | apply Kd.R_alloc | apply Kd.R_drewN | apply Kd.R_drew)); exact HO391.out))) (below_size (by repeat (first | (with_reducible first | exact HB.out | apply below_alloc | apply pw_below_drewN | apply below_drew1) | exact HB.out)))); have n2_ := Aside0.mk (below_step (by repeat (first | (with_reducible first | exact HB.out | apply below_alloc | apply pw_below_drewN | apply below_drew1) | exact HB.out)) hb); clear HO391; clear HB; have HO391 := n0_; have HO395 := n1_; have HB := n2_; clear n0_ n1_ n2_; (try clear hb); (try clear hb2); (try clear hk); (try clear hi); (try clear ho0)) | ((with_reducible refine gate_dst (N := 34) rfl ?_); refine Kd.R_lit (Kd.int .u8) _ 5 ?hg (N := 34) ?hd (xs := ([(t392) % 256, (t392 / 256) % 256, (t392 / 65536) % 256, (t392 / 16777216) % 256] : List Int)) (inner := [.int .u8 ((t392) % 256), .int .u8 ((t392 / 256) % 256), .int .u8 ((t392 / 65536) % 256), .int .u8 ((t392 / 16777216) % 256)]) (ok := fun _ => True) (okp := fun _ => True) ?hr ?hp (fun _ hk => hk) trivial (Below.refl _ _) (Nat.le_refl _) (by simp) ?_; (case hd => rfl); (case hg => rfl); (case hr => first | (go_simp; done) | (go_simp; rfl)); (case hp => exact (Reps.one (show Kd.M (Kd.int .u8) _ _ _ ((t392) % 256) [.int .u8 ((t392) % 256)] from rfl) (Reps.one (show Kd.M (Kd.int .u8) _ _ _ ((t392 / 256) % 256) [.int .u8 ((t392 / 256) % 256)] from rfl) (Reps.one (show Kd.M (Kd.int .u8) _ _ _ ((t392 / 65536) % 256) [.int .u8 ((t392 / 65536) % 256)] from rfl) (Reps.one (show Kd.M (Kd.int .u8) _ _ _ ((t392 / 16777216) % 256) [.int .u8 ((t392 / 16777216) % 256)] from rfl) (Reps.none _ _)))))); intro v397 w13 ho14 hb hg_ hnew_; clear hg_ hnew_; (first | rw [← Ny396.out] at ho14 | (simp only [Int.reduceToNat] at ho14; rw [← Ny396.out] at ho14)); have n0_ := Aside0.mk (Kd.R_elder' (by (with_reducible repeat (first | apply Kd.R_alloc | apply Kd.R_drewN | apply Kd.R_drew)); exact HO391.out) (Kd.R_base ho14) hb); have n1_ := Aside0.mk (Kd.R_elder' (by (with_reducible repeat (first | apply Kd.R_alloc | apply Kd.R_drewN | apply Kd.R_drew)); exact HO395.out) (Kd.R_base ho14) hb); have n2_ := Aside0.mk (Kd.R_lower (Kd.R_new' (Kd.R_new' ho14 (Kd.R_lt (by (with_reducible repeat (first | apply Kd.R_alloc | apply Kd.R_drewN | apply Kd.R_drew)); exact HO391.out))) (Kd.R_lt (by (with_reducible repeat (first | apply Kd.R_alloc | apply Kd.R_drewN | apply Kd.R_drew)); exact HO395.out))) (below_size (by repeat (first | (with_reducible first | exact HB.out | apply below_alloc | apply pw_below_drewN | apply below_drew1) | exact HB.out)))); have n3_ := Aside0.mk (below_step (by repeat (first | (with_reducible first | exact HB.out | apply below_alloc | apply pw_below_drewN | apply below_drew1) | exact HB.out)) hb); clear HO391; clear HO395; clear HB; have HO391 := n0_; have HO395 := n1_; have HO398 := n2_; have HB := n3_; clear n0_ n1_ n2_ n3_; clear hb ho14; obtain ⟨Ao16, co16, eo16⟩ := Kd.R_slice HO398.out; subst eo16) | ((with_reducible refine gate_builtin (b := .append) (xs := #[.tmp 22, .tmp 34]) rfl ?_); at_builtin; refine Kd.R_append_rows (Kd.int .u8) (w0 := w) w.heap.size rfl (.tmp 22) (.tmp 34) 22 5 (.int .u8 0) 1 rfl Try.underlying22 info5 rfl (by decide) (by omega) (.slice Ao11 t389.length co11) t389 y396 _ _ _ (fun k_ => some k_ ≠ (v394 : Value).ownBlock ∧ some k_ ≠ (.slice Ao16 y396.length co16 : Value).ownBlock) (fun _ => False) rfl rfl ?aO ?aR (fun _ _ h => h) (fun _ h => h.elim) ?aF ?aB ?aS ?aL ?_; (case aR => repeat (first | exact (Kd.R_reads' HO398.out).2.2 | (with_reducible refine Kd.C_alloc ?_ _) | (with_reducible refine Kd.C_drewN ?_ _) | (with_reducible refine Kd.C_drew ?_))); (case aB => exact (by repeat (first | (with_reducible first | exact HB.out | apply below_alloc | apply pw_below_drewN | apply below_drew1) | exact HB.out))); (case aF => exact (fun k_ hk => ⟨Kd.fresh' (Kd.R_lt (by (with_reducible repeat (first | apply Kd.R_alloc | apply Kd.R_drewN | apply Kd.R_drew)); exact HO395.out)) k_ hk, Kd.fresh' (Kd.R_lt (by (with_reducible repeat (first | apply Kd.R_alloc | apply Kd.R_drewN | apply Kd.R_drew)); exact HO398.out)) k_ hk⟩)); (case aO => exact (by (with_reducible repeat (first | apply Kd.R_alloc | apply Kd.R_drewN | apply Kd.R_drew)); exact Kd.R_mono HO391.out (fun _ hk => ⟨hk.1.2, hk.2⟩))); (case aS => exact (below_size (by repeat (first | (with_reducible first | exact HB.out | apply below_alloc | apply pw_below_drewN | apply below_drew1) | exact HB.out)))); (case aL => have := LMc8.out; omega); intro v400 w15 ho hb hg hat; rw [← Ny399.out] at ho; have n0_ := Aside0.mk (Kd.R_after (ok := (fun k_ => some k_ ≠ (.slice Ao16 y396.length co16 : Value).ownBlock)) (by (with_reducible repeat (first | apply Kd.R_alloc | apply Kd.R_drewN | apply Kd.R_drew)); exact Kd.R_mono HO395.out (fun _ hk => ⟨hk.2, hk.1.2⟩)) hg hat); have n1_ := Aside0.mk (Kd.R_after (ok := (fun k_ => some k_ ≠ (v394 : Value).ownBlock)) (by (with_reducible repeat (first | apply Kd.R_alloc | apply Kd.R_drewN | apply Kd.R_drew)); exact Kd.R_mono HO398.out (fun _ hk => ⟨hk.2, hk.1.2⟩)) hg hat); have n2_ := Aside0.mk (hb); have n3_ := Aside0.mk (ho); clear HO395; clear HO398; clear HB; clear HO391; have HO395 := n0_; have HO398 := n1_; have HB := n2_; have HO401 := n3_; clear n0_ n1_ n2_ n3_; clear ho hb hg hat; obtain ⟨Ao18, co18, eo18⟩ := Kd.R_slice HO401.out; subst eo18) | ((with_reducible refine gate_builtin (b := .append) (xs := #[.tmp 21, .tmp 35]) rfl ?_); at_builtin; refine Kd.R_append_rows (Kd.int .u8) (w0 := w) w.heap.size rfl (.tmp 21) (.tmp 35) 22 5 (.int .u8 0) 1 rfl Try.underlying22 info5 rfl (by decide) (by omega) v394 t393 y399 _ _ _ (fun k_ => some k_ ≠ (.slice Ao16 y396.length co16 : Value).ownBlock ∧ some k_ ≠ (.slice Ao18 y399.length co18 : Value).ownBlock) (fun _ => False) rfl rfl ?aO ?aR (fun _ _ h => h) (fun _ h => h.elim) ?aF ?aB ?aS ?aL ?_; (case aR => repeat (first | exact (Kd.R_reads' HO401.out).2.2 | (with_reducible refine Kd.C_alloc ?_ _) | (with_reducible refine Kd.C_drewN ?_ _) | (with_reducible refine Kd.C_drew ?_))); (case aB => exact (by repeat (first | (with_reducible first | exact HB.out | apply below_alloc | apply pw_below_drewN | apply below_drew1) | exact HB.out))); (case aF => exact (fun k_ hk => ⟨Kd.fresh' (Kd.R_lt (by (with_reducible repeat (first | apply Kd.R_alloc | apply Kd.R_drewN | apply Kd.R_drew)); exact HO398.out)) k_ hk, Kd.fresh' (Kd.R_lt (by (with_reducible repeat (first | apply Kd.R_alloc | apply Kd.R_drewN | apply Kd.R_drew)); exact HO401.out)) k_ hk⟩)); (case aO => exact (by (with_reducible repeat (first | apply Kd.R_alloc | apply Kd.R_drewN | apply Kd.R_drew)); exact HO395.out)); (case aS => exact (below_size (by repeat (first | (with_reducible first | exact HB.out | apply below_alloc | apply pw_below_drewN | apply below_drew1) | exact HB.out)))); (case aL => have := LMc9.out; omega); intro v403 w17 ho hb hg hat; rw [← Ny402.out] at ho; have n0_ := Aside0.mk (Kd.R_after (ok := (fun k_ => some k_ ≠ (.slice Ao18 y399.length co18 : Value).ownBlock)) (by (with_reducible repeat (first | apply Kd.R_alloc | apply Kd.R_drewN | apply Kd.R_drew)); exact Kd.R_mono HO398.out (fun _ hk => ⟨hk.2, hk.1⟩)) hg hat); have n1_ := Aside0.mk (Kd.R_after (ok := (fun k_ => some k_ ≠ (.slice Ao16 y396.length co16 : Value).ownBlock)) (by (with_reducible repeat (first | apply Kd.R_alloc | apply Kd.R_drewN | apply Kd.R_drew)); exact Kd.R_mono HO401.out (fun _ hk => ⟨hk.2, hk.1⟩)) hg hat); have n2_ := Aside0.mk (hb); have n3_ := Aside0.mk (ho); clear HO398; clear HO401; clear HB; clear HO395; have HO398 := n0_; have HO401 := n1_; have HB := n2_; have HO404 := n3_; clear n0_ n1_ n2_ n3_; clear ho hb hg hat))
         go_ret2
         exact ⟨_, by first | rfl | (simp [errW_none, errW_some] <;> rfl) | (simp [*, errW_none, errW_some] <;> rfl), by (with_reducible repeat (first | apply Kd.R_alloc | apply Kd.R_drewN | apply Kd.R_drew)); exact Kd.R_mono HO404.out (fun _ hk => trivial), by repeat (first | (with_reducible first | exact HB.out | apply below_alloc | apply pw_below_drewN | apply below_drew1) | exact HB.out)⟩
       · rw [if_neg c9] at H
         exact absurd H (by simp)
     · rw [if_neg c8] at H
       exact absurd H (by simp)
end Go.Proofs.Ytkddlhcpplkpbaa.G
end
section
namespace Go.Proofs.Ytkddlhcpplkpbaa.G
open WB Go.RowKit Go.Proofs.YtkddlhcpplkpbaaW.PrintWords Go.Proofs.YtkddlhcpplkpbaaW.PrintLast Go.Proofs.YtkddlhcpplkpbaaW.PrintMore
attribute [local go_sem] max2_int min2_int max_two min_two max_three min_three max_four min_four   -- for this text's walks alone
def waybillref09_Frames.l0 : Nat → List (S25) → List Int → Int → Option (List Int × Int)
 | 0, _, _, _ => none
 | k + 1, x0, x4, x5 => if x5 < (x0.length : Int) then (if 0 ≤ x5 then ((waybillref09_Encode.f k ((rd_T25 x0 x5).f0) ((rd_T25 x0 x5).f1) ((rd_T25 x0 x5).f2) ((rd_T25 x0 x5).f3) ((rd_T25 x0 x5).f4) ((rd_T25 x0 x5).f5) ((rd_T25 x0 x5).f6) ((rd_T25 x0 x5).f7) ((rd_T25 x0 x5).f8) ((rd_T25 x0 x5).f9) ((rd_T25 x0 x5).f10) ((rd_T25 x0 x5).f11)).bind fun bt406 => (if bt406.2 = 0 then ((waybillref03_Put.f k x4 bt406.1).bind fun bt410 => (waybillref09_Frames.l0 k x0 bt410.1 (wrap64 (x5 + 1)))) else (some (([] : List Int), bt406.2)))) else (none)) else (some (x4, 0))
def waybillref09_Frames.f (k : Nat) (l0 : List (S25)) : Option (List Int × Int) := waybillref09_Frames.l0 k l0 ([] : List Int) 0
set_option maxHeartbeats 8000000 in
set_option maxRecDepth 100000 in
theorem waybillref09_Frames.calls (k : Nat) (A0 : Option Addr) (c0 : Nat) (l0 : List (S25)) (r1 : List Int) (r2 : Int) (w : World) (hr0 : Kd.C k25 w A0 l0.length l0) (hc0 : l0.length ≤ c0) (h : waybillref09_Frames.f k l0 = some (r1, r2)) :
  Calls Try.prog 23 #[.slice A0 l0.length c0] w fun e w' => ∃ v0_ : Value, e = .returned (.tuple #[v0_, .int .i64 r2]) ∧ Kd.R (Kd.int .u8) 5 w' w.heap.size (fun _ => True) v0_ r1 ∧ Below w.heap.size w w' := by
 have hu25 := Try.underlying25
 have HR0 := Aside0.mk hr0
 have HC0 := Aside0.mk hc0
 clear hr0 hc0
 have HB := Aside0.mk (Below.refl w.heap.size w)
 have H : (waybillref09_Frames.l0 k l0 ([] : List Int) 0) = some (r1, r2) := h
 clear h
 have H' := Aside0.mk H
 clear H
 go_enter Try.func23, Try.ntmps23
 go_wp2
 go_loopg [4, 5] k (fun kq v4 v5 w' => ∃ (x4_1 : List Int) (x5_1 : Int), v5 = .int .i64 x5_1 ∧ Aside0 (waybillref09_Frames.l0 kq l0 x4_1 x5_1 = some (r1, r2)) ∧ Aside0 (kq ≤ k) ∧ Aside0 (Kd.R (Kd.int .u8) 5 w' w.heap.size (fun _ => True) v4 x4_1) ∧ Aside0 (Below w.heap.size w w'))
 case atStart => exact ⟨(([] : List Int)), (0), (by first | rfl | (simp; done) | (simp [*]; done)), H', ⟨Nat.le_refl _⟩, ⟨by first | exact Kd.R_nil _ _ _ _ _ | exact Kd.N_nil _ _ _ _ _ | exact Kd.V_nil _ _ _ _ _ | exact Kd.Q_nil _ _ _ _ _ | exact Kd.S_nil _ _ _ _ _⟩, ⟨by repeat (first | (with_reducible first | exact HB.out | apply below_alloc | apply pw_below_drewN | apply below_drew1) | exact HB.out)⟩⟩
 case round =>
  clear H'
  obtain ⟨x4_1, x5_1, rfl, HA, HK1, HO_4, HB⟩ := hrel
  cases gk with
  | zero => exact absurd HA.out (by simp [waybillref09_Frames.l0])
  | succ k1 =>
   have H := HA.out
   clear HA
   simp only [waybillref09_Frames.l0] at H
   by_cases c2 : x5_1 < (l0.length : Int)
   · rw [if_pos c2] at H
     have c2b0 : decide (x5_1 < (l0.length : Int)) = true := decide_eq_true c2
     clear c2
     by_cases c3 : 0 ≤ x5_1
     · rw [if_pos c3] at H
       have c3b0 : decide (0 ≤ x5_1) = true := decide_eq_true c3
       clear c3
       replace H := Option.bind_eq_some_iff.mp H
       obtain ⟨⟨t406, t409⟩, A40, H⟩ := H
       replace H : (if t409 = 0 then ((waybillref03_Put.f k1 x4_1 t406).bind fun bt410 => (waybillref09_Frames.l0 k1 l0 bt410.1 (wrap64 (x5_1 + 1)))) else (some (([] : List Int), t409))) = some (r1, r2) := H
       have A4 := Aside0.mk A40
       clear A40
       by_cases c5 : t409 = 0
       · rw [if_pos c5] at H
         have c5b0 : (t409 == 0) = true := beq_iff_eq.mpr c5
         have c5b1 : (t409 != 0) = false := bne_eq_false_iff_eq.mpr c5
         clear c5
         replace H := Option.bind_eq_some_iff.mp H
         obtain ⟨⟨t410, t411⟩, A60, H⟩ := H
         replace H : (waybillref09_Frames.l0 k1 l0 t410 (wrap64 (x5_1 + 1))) = some (r1, r2) := H
         have A6 := Aside0.mk A60
         clear A60
         have H' := Aside0.mk H
         clear H
         have p405 : 0 ≤ (x5_1 : Int) := of_decide_eq_true (by assumption)
         have q405 : x5_1 < (l0.length : Int) := of_decide_eq_true (by assumption)
         obtain ⟨ad405, A405_11, c405_11, e405, hx405_0, hx405_1, hx405_2, hx405_3, hx405_4, hx405_5, hx405_6, hx405_7, hx405_8, hx405_9, hx405_10, hx405_11, hl405_11, hi405_11⟩ := at_T25 HR0.out x5_1 p405 q405
         cases e405
         replace hx405_0 := (HB.out.cell (World.block_lt_of_cell? w _ hx405_0)).trans hx405_0
         replace hx405_1 := (HB.out.cell (World.block_lt_of_cell? w _ hx405_1)).trans hx405_1
         replace hx405_2 := (HB.out.cell (World.block_lt_of_cell? w _ hx405_2)).trans hx405_2
         replace hx405_3 := (HB.out.cell (World.block_lt_of_cell? w _ hx405_3)).trans hx405_3
         replace hx405_4 := (HB.out.cell (World.block_lt_of_cell? w _ hx405_4)).trans hx405_4
         replace hx405_5 := (HB.out.cell (World.block_lt_of_cell? w _ hx405_5)).trans hx405_5
         replace hx405_6 := (HB.out.cell (World.block_lt_of_cell? w _ hx405_6)).trans hx405_6
         replace hx405_7 := (HB.out.cell (World.block_lt_of_cell? w _ hx405_7)).trans hx405_7
         replace hx405_8 := (HB.out.cell (World.block_lt_of_cell? w _ hx405_8)).trans hx405_8
         replace hx405_9 := (HB.out.cell (World.block_lt_of_cell? w _ hx405_9)).trans hx405_9
         replace hx405_10 := (HB.out.cell (World.block_lt_of_cell? w _ hx405_10)).trans hx405_10
         replace hx405_11 := (HB.out.cell (World.block_lt_of_cell? w _ hx405_11)).trans hx405_11
         have HR405_11 := Aside0.mk hi405_11
         have HC405_11 := Aside0.mk hl405_11
         clear hi405_11 hl405_11
         replace p405 := eq_true p405
         replace q405 := eq_true q405
         go_wp2_with (first | ((with_reducible refine gate_callee (f := 19) rfl ?_); refine goesL_ (some 19) rfl rfl Try.func19 (by kernel_rfl) rfl #[.agg #[.int .i64 ((rd_T25 l0 x5_1).f0), .int .i64 ((rd_T25 l0 x5_1).f1), .int .i64 ((rd_T25 l0 x5_1).f2), .int .i64 ((rd_T25 l0 x5_1).f3), .int .i64 ((rd_T25 l0 x5_1).f4), .int .i64 ((rd_T25 l0 x5_1).f5), .int .i64 ((rd_T25 l0 x5_1).f6), .int .i64 ((rd_T25 l0 x5_1).f7), .int .i64 ((rd_T25 l0 x5_1).f8), .int .i64 ((rd_T25 l0 x5_1).f9), .int .i64 ((rd_T25 l0 x5_1).f10), .slice A405_11 ((rd_T25 l0 x5_1).f11).length c405_11]] rfl (by (try simp only [List.map_toArray, List.map_cons, List.map_nil]); first | done | rfl | (simp only [List.length_drop, List.length_take]; rfl)) ?_; (with_reducible refine (waybillref09_Encode.calls k1 ((rd_T25 l0 x5_1).f0) ((rd_T25 l0 x5_1).f1) ((rd_T25 l0 x5_1).f2) ((rd_T25 l0 x5_1).f3) ((rd_T25 l0 x5_1).f4) ((rd_T25 l0 x5_1).f5) ((rd_T25 l0 x5_1).f6) ((rd_T25 l0 x5_1).f7) ((rd_T25 l0 x5_1).f8) ((rd_T25 l0 x5_1).f9) ((rd_T25 l0 x5_1).f10) _ _ ((rd_T25 l0 x5_1).f11) t406 t409 _ ?side1 ?side2 A4.out).mono ?_); (case side1 => repeat (first | exact (Kd.C_below HR405_11.out HB.out) | (with_reducible refine Kd.C_alloc ?_ _) | (with_reducible refine Kd.C_drewN ?_ _) | (with_reducible refine Kd.C_drew ?_))); (case side2 => exact HC405_11.out); rintro e w7 ⟨v407, rfl, ho0, hb⟩; refine ⟨_, rfl, ?_⟩; have n0_ := Aside0.mk (Kd.R_elder' (by (with_reducible repeat (first | apply Kd.R_alloc | apply Kd.R_drewN | apply Kd.R_drew)); exact HO_4.out) (Kd.R_base ho0) hb); have n1_ := Aside0.mk (Kd.R_lower (Kd.R_new' ho0 (Kd.R_lt (by (with_reducible repeat (first | apply Kd.R_alloc | apply Kd.R_drewN | apply Kd.R_drew)); exact HO_4.out))) (below_size (by repeat (first | (with_reducible first | exact HB.out | apply below_alloc | apply pw_below_drewN | apply below_drew1) | exact HB.out)))); have n2_ := Aside0.mk (below_step (by repeat (first | (with_reducible first | exact HB.out | apply below_alloc | apply pw_below_drewN | apply below_drew1) | exact HB.out)) hb); clear HO_4; clear HB; have HO_4 := n0_; have HO408 := n1_; have HB := n2_; clear n0_ n1_ n2_; (try clear hb); (try clear hb2); (try clear hk); (try clear hi); (try clear ho0); obtain ⟨Ao8, co8, eo8⟩ := Kd.R_slice HO_4.out; subst eo8; obtain ⟨Ao9, co9, eo9⟩ := Kd.R_slice HO408.out; subst eo9) | ((with_reducible refine gate_callee (f := 47) rfl ?_); refine goesL_ (some 28) rfl rfl Try.func47 (by kernel_rfl) rfl #[.slice Ao8 x4_1.length co8, .slice Ao9 t406.length co9] rfl (by (try simp only [List.map_toArray, List.map_cons, List.map_nil]); first | done | rfl | (simp only [List.length_drop, List.length_take]; rfl)) ?_; (with_reducible refine (waybillref03_Put.calls k1 _ _ x4_1 _ _ t406 t410 t411 _ ?side1 ?side2 ?side3 ?side4 A6.out).mono ?_); (case side1 => repeat (first | exact (Kd.R_reads' HO_4.out).2.2 | (with_reducible refine Kd.C_alloc ?_ _) | (with_reducible refine Kd.C_drewN ?_ _) | (with_reducible refine Kd.C_drew ?_))); (case side2 => exact (Kd.R_reads' HO_4.out).2.1); (case side3 => repeat (first | exact (Kd.R_reads' HO408.out).2.2 | (with_reducible refine Kd.C_alloc ?_ _) | (with_reducible refine Kd.C_drewN ?_ _) | (with_reducible refine Kd.C_drew ?_))); (case side4 => exact (Kd.R_reads' HO408.out).2.1); rintro e w10 ⟨v412, rfl, ho0, hb⟩; refine ⟨_, rfl, ?_⟩; have n0_ := Aside0.mk (Kd.R_elder' (by (with_reducible repeat (first | apply Kd.R_alloc | apply Kd.R_drewN | apply Kd.R_drew)); exact HO_4.out) (Kd.R_base ho0) hb); have n1_ := Aside0.mk (Kd.R_elder' (by (with_reducible repeat (first | apply Kd.R_alloc | apply Kd.R_drewN | apply Kd.R_drew)); exact HO408.out) (Kd.R_base ho0) hb); have n2_ := Aside0.mk (Kd.R_lower (Kd.R_new' (Kd.R_new' ho0 (Kd.R_lt (by (with_reducible repeat (first | apply Kd.R_alloc | apply Kd.R_drewN | apply Kd.R_drew)); exact HO_4.out))) (Kd.R_lt (by (with_reducible repeat (first | apply Kd.R_alloc | apply Kd.R_drewN | apply Kd.R_drew)); exact HO408.out))) (below_size (by repeat (first | (with_reducible first | exact HB.out | apply below_alloc | apply pw_below_drewN | apply below_drew1) | exact HB.out)))); have n3_ := Aside0.mk (below_step (by repeat (first | (with_reducible first | exact HB.out | apply below_alloc | apply pw_below_drewN | apply below_drew1) | exact HB.out)) hb); clear HO_4; clear HO408; clear HB; have HO_4 := n0_; have HO408 := n1_; have HO413 := n2_; have HB := n3_; clear n0_ n1_ n2_ n3_; (try clear hb); (try clear hb2); (try clear hk); (try clear hi); (try clear ho0)))
         go_roundg k1
         case measure => have := HK1.out; omega
         case rel => exact ⟨(t410), (wrap64 (x5_1 + 1)), (by first | rfl | (simp; done) | (simp [*]; done)), H', ⟨by have := HK1.out; omega⟩, ⟨by (with_reducible repeat (first | apply Kd.R_alloc | apply Kd.R_drewN | apply Kd.R_drew)); exact Kd.R_mono HO413.out (fun _ hk => trivial)⟩, ⟨by repeat (first | (with_reducible first | exact HB.out | apply below_alloc | apply pw_below_drewN | apply below_drew1) | exact HB.out)⟩⟩
       · rw [if_neg c5] at H
         have c5b0 : (t409 == 0) = false := beq_eq_false_iff_ne.mpr c5
         have c5b1 : (t409 != 0) = true := bne_iff_ne.mpr c5
         simp only [Option.some.injEq, Prod.mk.injEq] at H
         obtain ⟨rfl, rfl⟩ := H
         have p405 : 0 ≤ (x5_1 : Int) := of_decide_eq_true (by assumption)
         have q405 : x5_1 < (l0.length : Int) := of_decide_eq_true (by assumption)
         obtain ⟨ad405, A405_11, c405_11, e405, hx405_0, hx405_1, hx405_2, hx405_3, hx405_4, hx405_5, hx405_6, hx405_7, hx405_8, hx405_9, hx405_10, hx405_11, hl405_11, hi405_11⟩ := at_T25 HR0.out x5_1 p405 q405
         cases e405
         replace hx405_0 := (HB.out.cell (World.block_lt_of_cell? w _ hx405_0)).trans hx405_0
         replace hx405_1 := (HB.out.cell (World.block_lt_of_cell? w _ hx405_1)).trans hx405_1
         replace hx405_2 := (HB.out.cell (World.block_lt_of_cell? w _ hx405_2)).trans hx405_2
         replace hx405_3 := (HB.out.cell (World.block_lt_of_cell? w _ hx405_3)).trans hx405_3
         replace hx405_4 := (HB.out.cell (World.block_lt_of_cell? w _ hx405_4)).trans hx405_4
         replace hx405_5 := (HB.out.cell (World.block_lt_of_cell? w _ hx405_5)).trans hx405_5
         replace hx405_6 := (HB.out.cell (World.block_lt_of_cell? w _ hx405_6)).trans hx405_6
         replace hx405_7 := (HB.out.cell (World.block_lt_of_cell? w _ hx405_7)).trans hx405_7
         replace hx405_8 := (HB.out.cell (World.block_lt_of_cell? w _ hx405_8)).trans hx405_8
         replace hx405_9 := (HB.out.cell (World.block_lt_of_cell? w _ hx405_9)).trans hx405_9
         replace hx405_10 := (HB.out.cell (World.block_lt_of_cell? w _ hx405_10)).trans hx405_10
         replace hx405_11 := (HB.out.cell (World.block_lt_of_cell? w _ hx405_11)).trans hx405_11
         have HR405_11 := Aside0.mk hi405_11
         have HC405_11 := Aside0.mk hl405_11
         clear hi405_11 hl405_11
         replace p405 := eq_true p405
         replace q405 := eq_true q405
         go_wp2_with (first | ((with_reducible refine gate_callee (f := 19) rfl ?_); refine goesL_ (some 19) rfl rfl Try.func19 (by kernel_rfl) rfl #[.agg #[.int .i64 ((rd_T25 l0 x5_1).f0), .int .i64 ((rd_T25 l0 x5_1).f1), .int .i64 ((rd_T25 l0 x5_1).f2), .int .i64 ((rd_T25 l0 x5_1).f3), .int .i64 ((rd_T25 l0 x5_1).f4), .int .i64 ((rd_T25 l0 x5_1).f5), .int .i64 ((rd_T25 l0 x5_1).f6), .int .i64 ((rd_T25 l0 x5_1).f7), .int .i64 ((rd_T25 l0 x5_1).f8), .int .i64 ((rd_T25 l0 x5_1).f9), .int .i64 ((rd_T25 l0 x5_1).f10), .slice A405_11 ((rd_T25 l0 x5_1).f11).length c405_11]] rfl (by (try simp only [List.map_toArray, List.map_cons, List.map_nil]); first | done | rfl | (simp only [List.length_drop, List.length_take]; rfl)) ?_; (with_reducible refine (waybillref09_Encode.calls k1 ((rd_T25 l0 x5_1).f0) ((rd_T25 l0 x5_1).f1) ((rd_T25 l0 x5_1).f2) ((rd_T25 l0 x5_1).f3) ((rd_T25 l0 x5_1).f4) ((rd_T25 l0 x5_1).f5) ((rd_T25 l0 x5_1).f6) ((rd_T25 l0 x5_1).f7) ((rd_T25 l0 x5_1).f8) ((rd_T25 l0 x5_1).f9) ((rd_T25 l0 x5_1).f10) _ _ ((rd_T25 l0 x5_1).f11) t406 t409 _ ?side1 ?side2 A4.out).mono ?_); (case side1 => repeat (first | exact (Kd.C_below HR405_11.out HB.out) | (with_reducible refine Kd.C_alloc ?_ _) | (with_reducible refine Kd.C_drewN ?_ _) | (with_reducible refine Kd.C_drew ?_))); (case side2 => exact HC405_11.out); rintro e w11 ⟨v407, rfl, ho0, hb⟩; refine ⟨_, rfl, ?_⟩; have n0_ := Aside0.mk (Kd.R_elder' (by (with_reducible repeat (first | apply Kd.R_alloc | apply Kd.R_drewN | apply Kd.R_drew)); exact HO_4.out) (Kd.R_base ho0) hb); have n1_ := Aside0.mk (Kd.R_lower (Kd.R_new' ho0 (Kd.R_lt (by (with_reducible repeat (first | apply Kd.R_alloc | apply Kd.R_drewN | apply Kd.R_drew)); exact HO_4.out))) (below_size (by repeat (first | (with_reducible first | exact HB.out | apply below_alloc | apply pw_below_drewN | apply below_drew1) | exact HB.out)))); have n2_ := Aside0.mk (below_step (by repeat (first | (with_reducible first | exact HB.out | apply below_alloc | apply pw_below_drewN | apply below_drew1) | exact HB.out)) hb); clear HO_4; clear HB; have HO_4 := n0_; have HO408 := n1_; have HB := n2_; clear n0_ n1_ n2_; (try clear hb); (try clear hb2); (try clear hk); (try clear hi); (try clear ho0)))
         go_ret2
         exact ⟨_, by first | rfl | (simp [errW_none, errW_some] <;> rfl) | (simp [*, errW_none, errW_some] <;> rfl), by first | exact Kd.R_nil _ _ _ _ _ | exact Kd.N_nil _ _ _ _ _ | exact Kd.V_nil _ _ _ _ _ | exact Kd.Q_nil _ _ _ _ _ | exact Kd.S_nil _ _ _ _ _, by repeat (first | (with_reducible first | exact HB.out | apply below_alloc | apply pw_below_drewN | apply below_drew1) | exact HB.out)⟩
     · rw [if_neg c3] at H
       exact absurd H (by simp)
   · rw [if_neg c2] at H
     have c2b0 : decide (x5_1 < (l0.length : Int)) = false := decide_eq_false c2
     clear c2
     simp only [Option.some.injEq, Prod.mk.injEq] at H
     obtain ⟨rfl, rfl⟩ := H
     go_wp2
     go_ret2
     exact ⟨_, by first | rfl | (simp [errW_none, errW_some] <;> rfl) | (simp [*, errW_none, errW_some] <;> rfl), by (with_reducible repeat (first | apply Kd.R_alloc | apply Kd.R_drewN | apply Kd.R_drew)); exact HO_4.out, by repeat (first | (with_reducible first | exact HB.out | apply below_alloc | apply pw_below_drewN | apply below_drew1) | exact HB.out)⟩
end Go.Proofs.Ytkddlhcpplkpbaa.G
end
