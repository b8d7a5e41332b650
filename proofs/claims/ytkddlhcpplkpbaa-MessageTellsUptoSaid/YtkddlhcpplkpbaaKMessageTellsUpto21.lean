/- MessageTellsUpto: texts of this claim, packed: what the kit's print has written for it and own texts, without what its proof does not reach. -/
import Derived.Test.YtkddlhcpplkpbaaKMessageTellsUpto15
import Derived.Test.YtkddlhcpplkpbaaKMessageTellsUpto16
import Derived.Test.YtkddlhcpplkpbaaKMessageTellsUpto17
import Derived.Test.YtkddlhcpplkpbaaKMessageTellsUpto19
import Derived.Test.YtkddlhcpplkpbaaKMessageTellsUpto20
set_option linter.unusedVariables false
set_option linter.unusedSimpArgs false
set_option linter.unusedSectionVars false
section
namespace Go.Proofs.Ytkddlhcpplkpbaa.G
open WB Go.RowKit Go.Proofs.YtkddlhcpplkpbaaW.PrintWords Go.Proofs.YtkddlhcpplkpbaaW.PrintLast Go.Proofs.YtkddlhcpplkpbaaW.PrintMore
attribute [local go_sem] max2_int min2_int max_two min_two max_three min_three max_four min_four   -- for this text's walks alone
/-- Is a number none that a message may hold? -/
def outI (n : Int) : Bool := decide (n < 0) || decide (n > 2147483647)
set_option maxHeartbeats 2000000 in
set_option maxRecDepth 100000 in
theorem check_out (n : Int) (w : World) : Calls Try.prog 36 #[.int .i64 n] w fun e w' => e = .returned (.bool (outI n)) ∧ Below w.heap.size w w' := by
 go_enter Try.func36, Try.ntmps36
 by_cases h : n < 0
 · have b1 : decide (n < 0) = true := decide_eq_true h
   have he : outI n = true := by unfold outI; rw [b1]; rfl
   clear h
   go_wp2_with fail
   go_ret
   exact ⟨by rw [he]; rfl, Below.refl _ _⟩
 · have b1 : decide (n < 0) = false := decide_eq_false h
   have he : outI n = decide (n > 2147483647) := by unfold outI; rw [b1]; rfl
   clear h
   go_wp2_with fail
   go_ret
   exact ⟨by rw [he]; rfl, Below.refl _ _⟩
theorem out_tests : TestsI 36 Try.f36 #[] #[] outI (fun _ => True) :=
 ⟨by kernel_rfl, by decide, rfl, fun _ _ _ _ => trivial, fun x W _ => check_out x W⟩
/-- The octets that only keeps. -/
def onlyL (k : Int) (l : List Int) : List Int := if k = 3 ∨ k = 4 then l else []
theorem onlyD_is (k : Int) (A : Option Addr) (c : Nat) (l : List Int) : ∃ A1 c1, onlyD k A l.length c = .slice A1 (onlyL k l).length c1 ∧ (l.length ≤ c → (onlyL k l).length ≤ c1) ∧ ∀ w, Kd.C (Kd.int .u8) w A l.length l → Kd.C (Kd.int .u8) w A1 (onlyL k l).length (onlyL k l) := by
 unfold onlyD onlyL
 by_cases h : k = 3 ∨ k = 4
 · simp only [if_pos h]
   exact ⟨A, c, rfl, fun h => h, fun _ h => h⟩
 · simp only [if_neg h]
   exact ⟨none, 0, rfl, fun _ => Nat.le_refl _, fun _ _ => Kd.C_nil _ _⟩
def message_Check.f (k : Nat) (a0_0 : Int) (a0_1 : Int) (a0_2 : Int) (a0_3 : Int) (a0_4 : Int) (a0_5 : Int) (a0_6 : Int) (a0_7 : Int) (a0_8 : Int) (a0_9 : Int) (a0_10 : Int) (l0_11 : List Int) : Option (Int) := if ixOf a0_0 = [] then some 23 else if ([a0_1, a0_2, a0_3, a0_4, a0_5, a0_6, a0_7, a0_8, a0_9, a0_10] : List Int).any outI = true then some 4 else if l0_11.length > 1024 then some 5 else (message_same.f k a0_0 a0_1 a0_2 a0_3 a0_4 a0_5 a0_6 a0_7 a0_8 a0_9 a0_10 l0_11 a0_0 (onlyF a0_0 1 a0_1) a0_2 (onlyF a0_0 3 a0_3) (onlyF a0_0 4 a0_4) (onlyF a0_0 5 a0_5) (onlyF a0_0 6 a0_6) (onlyF a0_0 7 a0_7) (onlyF a0_0 8 a0_8) (onlyF a0_0 9 a0_9) (onlyF a0_0 10 a0_10) (onlyL a0_0 l0_11)).bind fun b => some (if b = true then 0 else 9)
set_option maxHeartbeats 4000000 in
set_option maxRecDepth 100000 in
theorem message_Check.calls (k : Nat) (a0_0 : Int) (a0_1 : Int) (a0_2 : Int) (a0_3 : Int) (a0_4 : Int) (a0_5 : Int) (a0_6 : Int) (a0_7 : Int) (a0_8 : Int) (a0_9 : Int) (a0_10 : Int) (A0_11 : Option Addr) (c0_11 : Nat) (l0_11 : List Int) (r : Int) (w : World) (hr0_11 : Kd.C (Kd.int .u8) w A0_11 l0_11.length l0_11) (hc0_11 : l0_11.length ≤ c0_11) (h : message_Check.f k a0_0 a0_1 a0_2 a0_3 a0_4 a0_5 a0_6 a0_7 a0_8 a0_9 a0_10 l0_11 = some r) :
   Calls Try.prog 15 #[.agg #[.int .i64 a0_0, .int .i64 a0_1, .int .i64 a0_2, .int .i64 a0_3, .int .i64 a0_4, .int .i64 a0_5, .int .i64 a0_6, .int .i64 a0_7, .int .i64 a0_8, .int .i64 a0_9, .int .i64 a0_10, .slice A0_11 l0_11.length c0_11]] w fun e w' => e = .returned (.int .i64 r) ∧ Below w.heap.size w w' := by
 unfold message_Check.f at h
 have HR := Aside0.mk hr0_11
 have HC := Aside0.mk hc0_11
 have HH := Aside0.mk h
 clear hr0_11 hc0_11 h
 go_enter Try.func15, Try.ntmps15
 go_wp2_with fail
 go_at_call 31
 obtain ⟨W0, hW0⟩ : ∃ W, W = w.alloc (.cells #[.int .i64 a0_0, .int .i64 a0_1, .int .i64 a0_2, .int .i64 a0_3, .int .i64 a0_4, .int .i64 a0_5, .int .i64 a0_6, .int .i64 a0_7, .int .i64 a0_8, .int .i64 a0_9, .int .i64 a0_10, .slice A0_11 l0_11.length c0_11] 25) := ⟨_, rfl⟩
 rw [← hW0]
 have BM := Aside0.mk (show W0.heap[w.heap.size]? = some (.cells #[.int .i64 a0_0, .int .i64 a0_1, .int .i64 a0_2, .int .i64 a0_3, .int .i64 a0_4, .int .i64 a0_5, .int .i64 a0_6, .int .i64 a0_7, .int .i64 a0_8, .int .i64 a0_9, .int .i64 a0_10, .slice A0_11 l0_11.length c0_11] 25 (0, 0)) by rw [hW0]; exact heap_new1 _ _)
 have HB := Aside0.mk (show Below w.heap.size w W0 by rw [hW0]; exact below_alloc (Below.refl _ _) _)
 clear hW0
 with_reducible refine (message_fields w.heap.size a0_0 _ ?hk).mono ?_
 case hk => exact (blk_cell BM.out 0).trans rfl
 rintro e w1 ⟨hf, hb⟩
 have BM1 := Aside0.mk (blk_below BM.out hb)
 have HB1 := Aside0.mk (below_then HB.out HB.out.size hb)
 clear hb BM HB
 rcases hf with ⟨hz, rfl⟩ | ⟨hz, h1, rfl, hs1, hr1⟩
 · obtain rfl := Option.some.inj ((if_pos hz).symm.trans HH.out)
   clear HH hz
   have heq : ∀ (W : World), (binOp .eql 63 (.slice none 0 0) (.slice none 0 0)).run Try.prog W = .ok (.bool true) W := fun W => Lib.run_eql_slice_nil W _ 66 none 0 0 0 0 Try.underlying63
   go_wp2_with fail
   go_ret
   exact ⟨rfl, HB1.out⟩
 have HX := Aside0.mk hz
 have hh1 := (if_neg hz).symm.trans HH.out
 obtain ⟨ns, hns⟩ : ∃ ns : List Int, ns = [a0_1, a0_2, a0_3, a0_4, a0_5, a0_6, a0_7, a0_8, a0_9, a0_10] := ⟨_, rfl⟩
 rw [← hns] at hh1
 have HNS := Aside0.mk hns
 have HH1 := Aside0.mk hh1
 clear hh1 hns
 clear HH hz hs1 hr1
 have q0 : w1.cell? ⟨w.heap.size, 0, none⟩ = some (.int .i64 a0_0) := (blk_cell BM1.out 0).trans rfl
 have q1 : w1.cell? ⟨w.heap.size, 1, none⟩ = some (.int .i64 a0_1) := (blk_cell BM1.out 1).trans rfl
 have q2 : w1.cell? ⟨w.heap.size, 2, none⟩ = some (.int .i64 a0_2) := (blk_cell BM1.out 2).trans rfl
 have q3 : w1.cell? ⟨w.heap.size, 3, none⟩ = some (.int .i64 a0_3) := (blk_cell BM1.out 3).trans rfl
 have q4 : w1.cell? ⟨w.heap.size, 4, none⟩ = some (.int .i64 a0_4) := (blk_cell BM1.out 4).trans rfl
 have q5 : w1.cell? ⟨w.heap.size, 5, none⟩ = some (.int .i64 a0_5) := (blk_cell BM1.out 5).trans rfl
 have q6 : w1.cell? ⟨w.heap.size, 6, none⟩ = some (.int .i64 a0_6) := (blk_cell BM1.out 6).trans rfl
 have q7 : w1.cell? ⟨w.heap.size, 7, none⟩ = some (.int .i64 a0_7) := (blk_cell BM1.out 7).trans rfl
 have q8 : w1.cell? ⟨w.heap.size, 8, none⟩ = some (.int .i64 a0_8) := (blk_cell BM1.out 8).trans rfl
 have q9 : w1.cell? ⟨w.heap.size, 9, none⟩ = some (.int .i64 a0_9) := (blk_cell BM1.out 9).trans rfl
 have q10 : w1.cell? ⟨w.heap.size, 10, none⟩ = some (.int .i64 a0_10) := (blk_cell BM1.out 10).trans rfl
 have q11 : w1.cell? ⟨w.heap.size, 11, none⟩ = some (.slice A0_11 l0_11.length c0_11) := (blk_cell BM1.out 11).trans rfl
 have heq : ∀ (W : World) (n c : Nat), (binOp .eql 63 (.slice (some ⟨h1, 0, none⟩) n c) (.slice none 0 0)).run Try.prog W = .ok (.bool false) W := fun W n c => Lib.run_eql_slice_nil W _ 66 (some ⟨h1, 0, none⟩) n c 0 0 Try.underlying63
 go_wp2_with fail
 go_at_call 35
 with_reducible refine (message_numbers.calls a0_0 a0_1 a0_2 a0_3 a0_4 a0_5 a0_6 a0_7 a0_8 a0_9 a0_10 A0_11 c0_11 l0_11 ns _ (Kd.C_below HR.out HB1.out) HC.out (by unfold message_numbers.f; rw [HNS.out])).mono ?_
 rintro e w2 ⟨v2, rfl, hr2, hb⟩
 obtain ⟨A2, c2, rfl⟩ := Kd.R_slice hr2
 have HR2 := Aside0.mk (Kd.R_reads' hr2).2
 have BM2 := Aside0.mk (blk_below BM1.out hb)
 have HB2 := Aside0.mk (below_then HB1.out HB1.out.size hb)
 clear hb hr2 BM1 HB1 q0 q1 q2 q3 q4 q5 q6 q7 q8 q9 q10 q11
 go_wp2_with fail
 go_at_call 34
 with_reducible refine (contains_ints A2 c2 ns _ _ _ _ outI (fun _ => True) _ out_tests trivial HR2.out.2 HR2.out.1).mono ?_
 rintro e w3 ⟨rfl, hb⟩
 have BM3 := Aside0.mk (blk_below BM2.out hb)
 have HB3 := Aside0.mk (below_then HB2.out HB2.out.size hb)
 clear hb BM2 HB2 HR2
 by_cases hany : ns.any outI = true
 · rw [hany]
   obtain rfl := Option.some.inj ((if_pos hany).symm.trans HH1.out)
   clear HH1 hany
   go_wp2_with fail
   go_ret
   exact ⟨rfl, HB3.out⟩
 rw [Bool.eq_false_iff.2 hany]
 have HH2 := Aside0.mk ((if_neg hany).symm.trans HH1.out)
 clear HH1 hany
 have q0 : w3.cell? ⟨w.heap.size, 0, none⟩ = some (.int .i64 a0_0) := (blk_cell BM3.out 0).trans rfl
 have q1 : w3.cell? ⟨w.heap.size, 1, none⟩ = some (.int .i64 a0_1) := (blk_cell BM3.out 1).trans rfl
 have q2 : w3.cell? ⟨w.heap.size, 2, none⟩ = some (.int .i64 a0_2) := (blk_cell BM3.out 2).trans rfl
 have q3 : w3.cell? ⟨w.heap.size, 3, none⟩ = some (.int .i64 a0_3) := (blk_cell BM3.out 3).trans rfl
 have q4 : w3.cell? ⟨w.heap.size, 4, none⟩ = some (.int .i64 a0_4) := (blk_cell BM3.out 4).trans rfl
 have q5 : w3.cell? ⟨w.heap.size, 5, none⟩ = some (.int .i64 a0_5) := (blk_cell BM3.out 5).trans rfl
 have q6 : w3.cell? ⟨w.heap.size, 6, none⟩ = some (.int .i64 a0_6) := (blk_cell BM3.out 6).trans rfl
 have q7 : w3.cell? ⟨w.heap.size, 7, none⟩ = some (.int .i64 a0_7) := (blk_cell BM3.out 7).trans rfl
 have q8 : w3.cell? ⟨w.heap.size, 8, none⟩ = some (.int .i64 a0_8) := (blk_cell BM3.out 8).trans rfl
 have q9 : w3.cell? ⟨w.heap.size, 9, none⟩ = some (.int .i64 a0_9) := (blk_cell BM3.out 9).trans rfl
 have q10 : w3.cell? ⟨w.heap.size, 10, none⟩ = some (.int .i64 a0_10) := (blk_cell BM3.out 10).trans rfl
 have q11 : w3.cell? ⟨w.heap.size, 11, none⟩ = some (.slice A0_11 l0_11.length c0_11) := (blk_cell BM3.out 11).trans rfl
 by_cases hl : l0_11.length > 1024
 · obtain rfl := Option.some.inj ((if_pos hl).symm.trans HH2.out)
   have b1 : decide ((l0_11.length : Int) > 1024) = true := decide_eq_true (by omega)
   have b1' : decide (l0_11.length > 1024) = true := decide_eq_true hl
   clear HH2
   go_wp2_with fail
   go_ret
   exact ⟨rfl, HB3.out⟩
 have b1 : decide ((l0_11.length : Int) > 1024) = false := decide_eq_false (by omega)
 have b1' : decide (l0_11.length > 1024) = false := decide_eq_false hl
 obtain ⟨b, hs, hb⟩ := Option.bind_eq_some_iff.1 ((if_neg hl).symm.trans HH2.out)
 obtain rfl := Option.some.inj hb
 obtain ⟨A1, c1, hD, hDc, hDr⟩ := onlyD_is a0_0 A0_11 c0_11 l0_11
 obtain ⟨l1, hl1⟩ : ∃ l1, l1 = onlyL a0_0 l0_11 := ⟨_, rfl⟩
 rw [← hl1] at hD hDc hDr hs
 have HS := Aside0.mk hs
 have HR3 := Aside0.mk (Kd.C_below HR.out HB3.out)
 have HD := Aside0.mk hD
 have HDC := Aside0.mk (hDc HC.out)
 have HDR := Aside0.mk (hDr _ HR3.out)
 clear HH2 hs hb hD hDc hDr hl1
 go_wp2_with fail
 refine region_facts (B := _) (w0 := _) [(16, (fun v _ => v = .agg #[.int .i64 a0_0, .int .i64 a0_1, .int .i64 a0_2, .int .i64 a0_3, .int .i64 a0_4, .int .i64 a0_5, .int .i64 a0_6, .int .i64 a0_7, .int .i64 a0_8, .int .i64 a0_9, .int .i64 a0_10, .slice A0_11 l0_11.length c0_11])), (17, (fun v _ => v = .agg #[.int .i64 a0_0, .int .i64 a0_1, .int .i64 a0_2, .int .i64 a0_3, .int .i64 a0_4, .int .i64 a0_5, .int .i64 a0_6, .int .i64 a0_7, .int .i64 a0_8, .int .i64 a0_9, .int .i64 a0_10, .slice A0_11 l0_11.length c0_11])), (18, (fun v W => v = .agg #[.int .i64 a0_0, .int .i64 (onlyF a0_0 1 a0_1), .int .i64 a0_2, .int .i64 (onlyF a0_0 3 a0_3), .int .i64 (onlyF a0_0 4 a0_4), .int .i64 (onlyF a0_0 5 a0_5), .int .i64 (onlyF a0_0 6 a0_6), .int .i64 (onlyF a0_0 7 a0_7), .int .i64 (onlyF a0_0 8 a0_8), .int .i64 (onlyF a0_0 9 a0_9), .int .i64 (onlyF a0_0 10 a0_10), .slice A1 l1.length c1])), (19, (fun v W => v = .bool b)), (20, (fun v _ => v = .bool (!b))), (15, (fun v _ => v = .bool (!b)))] (by kernel_rfl) (by kernel_rfl) (by rfl) (show ([16, 17, 18, 19, 20, 15] : List Nat).Nodup by decide) ?hsz ?hst (Below.refl _ _) (Nat.le_refl _) ?step ?fin
 case hsz => exact List.forall_mem_cons.2 ⟨(show 16 < 21 by decide), List.forall_mem_cons.2 ⟨(show 17 < 21 by decide), List.forall_mem_cons.2 ⟨(show 18 < 21 by decide), List.forall_mem_cons.2 ⟨(show 19 < 21 by decide), List.forall_mem_cons.2 ⟨(show 20 < 21 by decide), List.forall_mem_cons.2 ⟨(show 15 < 21 by decide), fun _ h => nomatch h⟩⟩⟩⟩⟩⟩
 case hst => exact List.forall_mem_cons.2 ⟨(fun v w1 w2 hb h => h), List.forall_mem_cons.2 ⟨(fun v w1 w2 hb h => h), List.forall_mem_cons.2 ⟨(fun v w1 w2 hb h => h), List.forall_mem_cons.2 ⟨(fun v w1 w2 hb h => h), List.forall_mem_cons.2 ⟨(fun v w1 w2 hb h => h), List.forall_mem_cons.2 ⟨(fun v w1 w2 hb h => h), fun _ h => nomatch h⟩⟩⟩⟩⟩⟩
 case step =>
   intro i_ o_ e_ ho he a w1_ hs hdf hfr hbl hbs hpre
   match i_, ho, he with
   | 0, ho, he => obtain rfl : o_ = ⟨_, _, _, _, _, _⟩ := (Option.some.inj ho).symm; obtain rfl := Option.some.inj he; clear he; have f1 : a.tmps.getD 1 undef = .pointer (some ⟨w.heap.size, 0, none⟩) := (by rw [Array.getD_eq_getD_getElem?, hfr 1 (show ¬ 1 ∈ ([16, 17, 18, 19, 20, 15] : List Nat) by decide)]; rfl); clear hpre hfr; have k_q0 := (hbl.cell (World.block_lt_of_cell? _ _ q0)).trans q0; have k_q1 := (hbl.cell (World.block_lt_of_cell? _ _ q1)).trans q1; have k_q2 := (hbl.cell (World.block_lt_of_cell? _ _ q2)).trans q2; have k_q3 := (hbl.cell (World.block_lt_of_cell? _ _ q3)).trans q3; have k_q4 := (hbl.cell (World.block_lt_of_cell? _ _ q4)).trans q4; have k_q5 := (hbl.cell (World.block_lt_of_cell? _ _ q5)).trans q5; have k_q6 := (hbl.cell (World.block_lt_of_cell? _ _ q6)).trans q6; have k_q7 := (hbl.cell (World.block_lt_of_cell? _ _ q7)).trans q7; have k_q8 := (hbl.cell (World.block_lt_of_cell? _ _ q8)).trans q8; have k_q9 := (hbl.cell (World.block_lt_of_cell? _ _ q9)).trans q9; have k_q10 := (hbl.cell (World.block_lt_of_cell? _ _ q10)).trans q10; have k_q11 := (hbl.cell (World.block_lt_of_cell? _ _ q11)).trans q11; refine wpOp_value (v := .agg #[.int .i64 a0_0, .int .i64 a0_1, .int .i64 a0_2, .int .i64 a0_3, .int .i64 a0_4, .int .i64 a0_5, .int .i64 a0_6, .int .i64 a0_7, .int .i64 a0_8, .int .i64 a0_9, .int .i64 a0_10, .slice A0_11 l0_11.length c0_11]) ho rfl ?_ ⟨_, rfl, rfl, Below.refl _ _⟩; simp only [execOp, Act.eval, List.map_toArray, List.map_cons, List.map_nil, f1]; first | rfl | (go_simp; done) | (go_simp; rfl) | (go_simp; intro h_; exfalso; omega)
   | 1, ho, he => obtain rfl : o_ = ⟨_, _, _, _, _, _⟩ := (Option.some.inj ho).symm; obtain rfl := Option.some.inj he; clear he; have f1 : a.tmps.getD 1 undef = .pointer (some ⟨w.heap.size, 0, none⟩) := (by rw [Array.getD_eq_getD_getElem?, hfr 1 (show ¬ 1 ∈ ([16, 17, 18, 19, 20, 15] : List Nat) by decide)]; rfl); clear hpre hfr; have k_q0 := (hbl.cell (World.block_lt_of_cell? _ _ q0)).trans q0; have k_q1 := (hbl.cell (World.block_lt_of_cell? _ _ q1)).trans q1; have k_q2 := (hbl.cell (World.block_lt_of_cell? _ _ q2)).trans q2; have k_q3 := (hbl.cell (World.block_lt_of_cell? _ _ q3)).trans q3; have k_q4 := (hbl.cell (World.block_lt_of_cell? _ _ q4)).trans q4; have k_q5 := (hbl.cell (World.block_lt_of_cell? _ _ q5)).trans q5; have k_q6 := (hbl.cell (World.block_lt_of_cell? _ _ q6)).trans q6; have k_q7 := (hbl.cell (World.block_lt_of_cell? _ _ q7)).trans q7; have k_q8 := (hbl.cell (World.block_lt_of_cell? _ _ q8)).trans q8; have k_q9 := (hbl.cell (World.block_lt_of_cell? _ _ q9)).trans q9; have k_q10 := (hbl.cell (World.block_lt_of_cell? _ _ q10)).trans q10; have k_q11 := (hbl.cell (World.block_lt_of_cell? _ _ q11)).trans q11; refine wpOp_value (v := .agg #[.int .i64 a0_0, .int .i64 a0_1, .int .i64 a0_2, .int .i64 a0_3, .int .i64 a0_4, .int .i64 a0_5, .int .i64 a0_6, .int .i64 a0_7, .int .i64 a0_8, .int .i64 a0_9, .int .i64 a0_10, .slice A0_11 l0_11.length c0_11]) ho rfl ?_ ⟨_, rfl, rfl, Below.refl _ _⟩; simp only [execOp, Act.eval, List.map_toArray, List.map_cons, List.map_nil, f1]; first | rfl | (go_simp; done) | (go_simp; rfl) | (go_simp; intro h_; exfalso; omega)
   | 2, ho, he => obtain rfl : o_ = ⟨_, _, _, _, _, _⟩ := (Option.some.inj ho).symm; obtain rfl := Option.some.inj he; clear he; have e17 : a.tmps.getD 17 undef = .agg #[.int .i64 a0_0, .int .i64 a0_1, .int .i64 a0_2, .int .i64 a0_3, .int .i64 a0_4, .int .i64 a0_5, .int .i64 a0_6, .int .i64 a0_7, .int .i64 a0_8, .int .i64 a0_9, .int .i64 a0_10, .slice A0_11 l0_11.length c0_11] := hpre ⟨1, .data⟩ (by simp) rfl _ rfl; clear hpre hfr; refine wpOp_call (fn := Try.f38) ho rfl rfl rfl rfl #[.agg #[.int .i64 a0_0, .int .i64 a0_1, .int .i64 a0_2, .int .i64 a0_3, .int .i64 a0_4, .int .i64 a0_5, .int .i64 a0_6, .int .i64 a0_7, .int .i64 a0_8, .int .i64 a0_9, .int .i64 a0_10, .slice A0_11 l0_11.length c0_11]] rfl (by simp only [List.map_toArray, List.map_cons, List.map_nil, Act.eval, e17]) ?_; refine (message_only a0_0 a0_1 a0_2 a0_3 a0_4 a0_5 a0_6 a0_7 a0_8 a0_9 a0_10 A0_11 c0_11 l0_11 w1_ (Kd.C_below HR3.out hbl) HC.out HX.out).mono ?_; rintro e w2 ⟨rfl, hb⟩; exact ⟨_, rfl, ⟨_, rfl, by rw [HD.out], hb⟩⟩
   | 3, ho, he => obtain rfl : o_ = ⟨_, _, _, _, _, _⟩ := (Option.some.inj ho).symm; obtain rfl := Option.some.inj he; clear he; have e16 : a.tmps.getD 16 undef = .agg #[.int .i64 a0_0, .int .i64 a0_1, .int .i64 a0_2, .int .i64 a0_3, .int .i64 a0_4, .int .i64 a0_5, .int .i64 a0_6, .int .i64 a0_7, .int .i64 a0_8, .int .i64 a0_9, .int .i64 a0_10, .slice A0_11 l0_11.length c0_11] := hpre ⟨0, .data⟩ (by simp) rfl _ rfl; have e18 := hpre ⟨2, .data⟩ (by simp) rfl _ rfl; dsimp only at e18; clear hpre hfr; refine wpOp_call (fn := Try.f37) ho rfl rfl rfl rfl #[.agg #[.int .i64 a0_0, .int .i64 a0_1, .int .i64 a0_2, .int .i64 a0_3, .int .i64 a0_4, .int .i64 a0_5, .int .i64 a0_6, .int .i64 a0_7, .int .i64 a0_8, .int .i64 a0_9, .int .i64 a0_10, .slice A0_11 l0_11.length c0_11], .agg #[.int .i64 a0_0, .int .i64 (onlyF a0_0 1 a0_1), .int .i64 a0_2, .int .i64 (onlyF a0_0 3 a0_3), .int .i64 (onlyF a0_0 4 a0_4), .int .i64 (onlyF a0_0 5 a0_5), .int .i64 (onlyF a0_0 6 a0_6), .int .i64 (onlyF a0_0 7 a0_7), .int .i64 (onlyF a0_0 8 a0_8), .int .i64 (onlyF a0_0 9 a0_9), .int .i64 (onlyF a0_0 10 a0_10), .slice A1 l1.length c1]] rfl (by simp only [List.map_toArray, List.map_cons, List.map_nil, Act.eval, e16, e18]) ?_; refine (message_same.calls k a0_0 a0_1 a0_2 a0_3 a0_4 a0_5 a0_6 a0_7 a0_8 a0_9 a0_10 A0_11 c0_11 l0_11 a0_0 (onlyF a0_0 1 a0_1) a0_2 (onlyF a0_0 3 a0_3) (onlyF a0_0 4 a0_4) (onlyF a0_0 5 a0_5) (onlyF a0_0 6 a0_6) (onlyF a0_0 7 a0_7) (onlyF a0_0 8 a0_8) (onlyF a0_0 9 a0_9) (onlyF a0_0 10 a0_10) A1 c1 l1 b w1_ (Kd.C_below HR3.out hbl) HC.out (Kd.C_below HDR.out hbl) HDC.out HS.out).mono ?_; rintro e w2 ⟨rfl, hb⟩; exact ⟨_, rfl, ⟨_, rfl, rfl, hb⟩⟩
   | 4, ho, he => obtain rfl : o_ = ⟨_, _, _, _, _, _⟩ := (Option.some.inj ho).symm; obtain rfl := Option.some.inj he; clear he; have e19 := hpre ⟨3, .data⟩ (by simp) rfl _ rfl; dsimp only at e19; clear hpre hfr; refine wpOp_value (v := .bool (!b)) ho rfl ?_ ⟨_, rfl, rfl, Below.refl _ _⟩; simp only [execOp, Act.eval, List.map_toArray, List.map_cons, List.map_nil]; first | rfl | (go_simp; done) | (go_simp; rfl) | (go_simp; intro h_; exfalso; omega)
   | 5, ho, he => obtain rfl : o_ = ⟨_, _, _, _, _, _⟩ := (Option.some.inj ho).symm; obtain rfl := Option.some.inj he; clear he; have e20 : a.tmps.getD 20 undef = .bool (!b) := hpre ⟨4, .data⟩ (by simp) rfl _ rfl; clear hpre hfr; refine wpOp_value (v := .bool (!b)) ho rfl ?_ ⟨_, rfl, rfl, Below.refl _ _⟩; simp only [execOp, Act.eval, List.map_toArray, List.map_cons, List.map_nil, e20]; first | rfl | (go_simp; done) | (go_simp; rfl) | (go_simp; intro h_; exfalso; omega)
   | n_ + 6, ho, he => simp at he
 case fin =>
   intro xv_ w1_ hbl hx
   simp only [List.forall_mem_cons] at hx
   obtain ⟨x16, x17, x18, x19, x20, x15, _⟩ := hx
   simp only [List.map_cons, List.map_nil, putL, Act.put, List.setIfInBounds_toArray, List.set_cons_zero, List.set_cons_succ, x16, x17, x18, x19, x20, x15]
   clear x16 x17 x18 x19 x20 x15
   have HB4 := Aside0.mk (below_then HB3.out HB3.out.size hbl)
   clear hbl
   cases b with
   | true =>
    go_wp2_with fail
    go_ret
    exact ⟨rfl, HB4.out⟩
   | false =>
    go_wp2_with fail
    go_ret
    exact ⟨rfl, HB4.out⟩
end Go.Proofs.Ytkddlhcpplkpbaa.G
end
section
namespace Go.Proofs.Ytkddlhcpplkpbaa.G
open WB Go.RowKit Go.Proofs.YtkddlhcpplkpbaaW.PrintWords Go.Proofs.YtkddlhcpplkpbaaW.PrintLast Go.Proofs.YtkddlhcpplkpbaaW.PrintMore
attribute [local go_sem] max2_int min2_int max_two min_two max_three min_three max_four min_four   -- for this text's walks alone
mutual
def varint_Put.l0 : Nat → List Int → List Int → Int → Int → Option (List Int)
 | 0, _, _, _, _ => none
 | k + 1, x5, x10, x11, x12 => if x12 < x11 then (if 0 ≤ x12 then (if x12 < (x10.length : Int) then (varint_Put.l1 k x5 (rd x10 x12) x10 x11 x12) else (none)) else (none)) else (some x5)
def varint_Put.l1 : Nat → List Int → Int → List Int → Int → Int → Option (List Int)
 | 0, _, _, _, _, _ => none
 | k + 1, x5, x7, x10, x11, x12 => if x7 > 127 then (if x5.length < 140737488355328 then (varint_Put.l1 k (x5 ++ [Go.bits .or .u8 ((x7) % 256) 128]) (x7 / 128) x10 x11 x12) else (none)) else (if x5.length < 140737488355328 then (varint_Put.l0 k (x5 ++ [(x7) % 256]) x10 x11 (wrap64 (x12 + 1))) else (none))
end
def varint_Put.f (k : Nat) (l0 : List Int) (l1 : List Int) : Option (List Int) := (slices_Clone_byte_byte.f l0).bind fun t127 => (varint_Put.l0 k t127 l1 (l1.length : Int) 0)
set_option maxHeartbeats 8000000 in
set_option maxRecDepth 100000 in
theorem varint_Put.calls (k : Nat) (A0 : Option Addr) (c0 : Nat) (l0 : List Int) (A1 : Option Addr) (c1 : Nat) (l1 : List Int) (r : List Int) (w : World) (hr0 : Kd.C (Kd.int .u8) w A0 l0.length l0) (hc0 : l0.length ≤ c0) (hr1 : Kd.C (Kd.int .u64) w A1 l1.length l1) (hc1 : l1.length ≤ c1) (h : varint_Put.f k l0 l1 = some r) :
  Calls Try.prog 30 #[.slice A0 l0.length c0, .slice A1 l1.length c1] w fun e w' => ∃ v0_ : Value, e = .returned (v0_) ∧ Kd.R (Kd.int .u8) 5 w' w.heap.size (fun _ => True) v0_ r ∧ Below w.heap.size w w' := by
 have HR0 := Aside0.mk hr0
 have HC0 := Aside0.mk hc0
 clear hr0 hc0
 have HR1 := Aside0.mk hr1
 have HC1 := Aside0.mk hc1
 clear hr1 hc1
 have HB := Aside0.mk (Below.refl w.heap.size w)
 have H : ((slices_Clone_byte_byte.f l0).bind fun t127 => (varint_Put.l0 k t127 l1 (l1.length : Int) 0)) = some r := h
 clear h
 replace H := Option.bind_eq_some_iff.mp H
 obtain ⟨t127, A30, H⟩ := H
 replace H : (varint_Put.l0 k t127 l1 (l1.length : Int) 0) = some r := H
 have A3 := Aside0.mk A30
 clear A30
 have H' := Aside0.mk H
 clear H
 go_enter Try.func30, Try.ntmps30
 go_wp2_with (first | ((with_reducible refine gate_callee (f := 57) rfl ?_); refine goesL_ (some 9) rfl rfl Try.func57 (by kernel_rfl) rfl #[.slice A0 l0.length c0] rfl (by (try simp only [List.map_toArray, List.map_cons, List.map_nil]); first | done | rfl | (simp only [List.length_drop, List.length_take]; rfl)) ?_; (with_reducible refine (slices_Clone_byte_byte.calls _ _ l0 t127 _ ?side1 ?side2 A3.out).mono ?_); (case side1 => repeat (first | exact HR0.out | (with_reducible refine Kd.C_alloc ?_ _) | (with_reducible refine Kd.C_drewN ?_ _) | (with_reducible refine Kd.C_drew ?_))); (case side2 => exact HC0.out); rintro e w4 ⟨v128, rfl, ho0, hb⟩; refine ⟨_, rfl, ?_⟩; have n0_ := Aside0.mk (Kd.R_lower ho0 (below_size (by repeat (first | (with_reducible first | exact HB.out | apply below_alloc | apply pw_below_drewN | apply below_drew1) | exact HB.out)))); have n1_ := Aside0.mk (below_step (by repeat (first | (with_reducible first | exact HB.out | apply below_alloc | apply pw_below_drewN | apply below_drew1) | exact HB.out)) hb); clear HB; have HO129 := n0_; have HB := n1_; clear n0_ n1_; (try clear hb); (try clear hb2); (try clear hk); (try clear hi); (try clear ho0)))
 go_loopg [5, 12] k (fun kq v5 v12 w' => ∃ (x5_1 : List Int) (x12_1 : Int), v12 = .int .i64 x12_1 ∧ Aside0 (varint_Put.l0 kq x5_1 l1 (l1.length : Int) x12_1 = some r) ∧ Aside0 (kq ≤ k) ∧ Aside0 (Kd.R (Kd.int .u8) 5 w' w.heap.size (fun _ => True) v5 x5_1) ∧ Aside0 (Below w.heap.size w w'))
 case atStart => exact ⟨(t127), (0), (by first | rfl | (simp; done) | (simp [*]; done)), H', ⟨Nat.le_refl _⟩, ⟨by (with_reducible repeat (first | apply Kd.R_alloc | apply Kd.R_drewN | apply Kd.R_drew)); exact HO129.out⟩, ⟨by repeat (first | (with_reducible first | exact HB.out | apply below_alloc | apply pw_below_drewN | apply below_drew1) | exact HB.out)⟩⟩
 case round =>
  clear H'
  try clear c1
  try clear p2
  try clear c3
  obtain ⟨x5_1, x12_1, rfl, HA, HK1, HO_5, HB⟩ := hrel
  cases gk with
  | zero => exact absurd HA.out (by simp [varint_Put.l0])
  | succ k1 =>
   have H := HA.out
   clear HA
   simp only [varint_Put.l0] at H
   by_cases c5 : x12_1 < (l1.length : Int)
   · rw [if_pos c5] at H
     have c5b0 : decide (x12_1 < (l1.length : Int)) = true := decide_eq_true c5
     clear c5
     by_cases c6 : 0 ≤ x12_1
     · rw [if_pos c6] at H
       have c6b0 : decide (0 ≤ x12_1) = true := decide_eq_true c6
       clear c6
       by_cases c7 : x12_1 < (l1.length : Int)
       · rw [if_pos c7] at H
         have c7b0 : decide (x12_1 < (l1.length : Int)) = true := decide_eq_true c7
         clear c7
         have H' := Aside0.mk H
         clear H
         have p130 : 0 ≤ (x12_1 : Int) := of_decide_eq_true (by assumption)
         have q130 : x12_1 < (l1.length : Int) := of_decide_eq_true (by assumption)
         obtain ⟨ad130, e130, hx130_0⟩ := Kd.at_int HR1.out x12_1 p130 q130
         cases e130
         replace hx130_0 := (HB.out.cell (World.block_lt_of_cell? w _ hx130_0)).trans hx130_0
         replace p130 := eq_true p130
         replace q130 := eq_true q130
         go_wp2
         go_loopg [5, 7] k1 (fun kq v5 v7 w' => ∃ (x5_2 : List Int) (x7_2 : Int), v7 = .int .u64 x7_2 ∧ Aside0 (varint_Put.l1 kq x5_2 x7_2 l1 (l1.length : Int) x12_1 = some r) ∧ Aside0 (kq ≤ k1) ∧ Aside0 (Kd.R (Kd.int .u8) 5 w' w.heap.size (fun _ => True) v5 x5_2) ∧ Aside0 (Below w.heap.size w w'))
         case atStart => exact ⟨(x5_1), (rd l1 x12_1), (by first | rfl | (simp; done) | (simp [*]; done)), H', ⟨Nat.le_refl _⟩, ⟨by (with_reducible repeat (first | apply Kd.R_alloc | apply Kd.R_drewN | apply Kd.R_drew)); exact HO_5.out⟩, ⟨by repeat (first | (with_reducible first | exact HB.out | apply below_alloc | apply pw_below_drewN | apply below_drew1) | exact HB.out)⟩⟩
         case round =>
          clear H'
          try clear c1
          try clear p1
          try clear q1
          try clear hx1
          try clear p2
          try clear c3
          try clear c5
          try clear c5b0
          try clear c6
          try clear c6b0
          try clear c7
          try clear c7b0
          try clear hx130_0
          try clear p130
          try clear p2
          try clear q130
          obtain ⟨x5_2, x7_2, rfl, HA, HK2, HO_5, HB⟩ := hrel
          cases gk with
          | zero => exact absurd HA.out (by simp [varint_Put.l1])
          | succ k2 =>
           have H := HA.out
           clear HA
           simp only [varint_Put.l1] at H
           by_cases c8 : x7_2 > 127
           · rw [if_pos c8] at H
             have c8b0 : decide (127 < x7_2) = true := decide_eq_true c8
             clear c8
             by_cases c9 : x5_2.length < 140737488355328
             · rw [if_pos c9] at H
               have LMc9 := Aside0.mk c9
               clear c9
               obtain ⟨y131, hy131⟩ : ∃ y_ : List Int, y_ = (x5_2 ++ [Go.bits .or .u8 ((x7_2) % 256) 128]) := ⟨_, rfl⟩
               replace H : (varint_Put.l1 k2 y131 (x7_2 / 128) l1 (l1.length : Int) x12_1) = some r := by first | (rw [hy131]; with_reducible exact H) | (have H2_ := (Option.bind_some _ _).symm.trans H; rw [hy131]; with_reducible exact H2_) | (have H2_ := (Option.bind_some _ _).symm.trans H; with_reducible exact H2_) | with_reducible exact H | (rw [hy131]; exact H) | exact H
               have Ny131 := Aside0.mk hy131
               clear hy131
               have H' := Aside0.mk H
               clear H
               go_wp2_with (first | ((with_reducible refine gate_builtin (b := .append) (xs := #[.tmp 20, .tmp 24]) rfl ?_); at_builtin; refine Kd.R_append (Kd.int .u8) (w0 := w) w.heap.size rfl (.tmp 20) (.tmp 24) 22 5 (.int .u8 0) 1 rfl Try.underlying22 info5 rfl (by decide) (by omega) u5 x5_2 (Go.bits .or .u8 ((x7_2) % 256) 128) [.int .u8 (Go.bits .or .u8 ((x7_2) % 256) 128)] (fun _ => True) (fun _ => False) rfl rfl ?aP (fun _ hk => hk.elim) ?aF ?aO ?aB ?aS ?aL ?_; (case aP => exact rfl); (case aB => exact (by repeat (first | (with_reducible first | exact HB.out | apply below_alloc | apply pw_below_drewN | apply below_drew1) | exact HB.out))); (case aF => exact (fun _ _ => trivial)); (case aO => exact (by (with_reducible repeat (first | apply Kd.R_alloc | apply Kd.R_drewN | apply Kd.R_drew)); exact HO_5.out)); (case aS => exact (below_size (by repeat (first | (with_reducible first | exact HB.out | apply below_alloc | apply pw_below_drewN | apply below_drew1) | exact HB.out)))); (case aL => have := LMc9.out; omega); intro v132 w10 ho hb hg hat; rw [← Ny131.out] at ho; have n0_ := Aside0.mk (hb); have n1_ := Aside0.mk (ho); clear HB; clear HO_5; have HB := n0_; have HO133 := n1_; clear n0_ n1_; clear ho hb hg hat))
               go_roundg k2
               case measure => have := HK1.out; have := HK2.out; omega
               case rel => exact ⟨(y131), (x7_2 / 128), (by first | rfl | (simp; done) | (simp [*]; done)), H', ⟨by have := HK1.out; have := HK2.out; omega⟩, ⟨by (with_reducible repeat (first | apply Kd.R_alloc | apply Kd.R_drewN | apply Kd.R_drew)); exact HO133.out⟩, ⟨by repeat (first | (with_reducible first | exact HB.out | apply below_alloc | apply pw_below_drewN | apply below_drew1) | exact HB.out)⟩⟩
             · rw [if_neg c9] at H
               exact absurd H (by simp)
           · rw [if_neg c8] at H
             have c8b0 : decide (127 < x7_2) = false := decide_eq_false c8
             clear c8
             by_cases c11 : x5_2.length < 140737488355328
             · rw [if_pos c11] at H
               have LMc11 := Aside0.mk c11
               clear c11
               obtain ⟨y134, hy134⟩ : ∃ y_ : List Int, y_ = (x5_2 ++ [(x7_2) % 256]) := ⟨_, rfl⟩
               replace H : (varint_Put.l0 k2 y134 l1 (l1.length : Int) (wrap64 (x12_1 + 1))) = some r := by first | (rw [hy134]; with_reducible exact H) | (have H2_ := (Option.bind_some _ _).symm.trans H; rw [hy134]; with_reducible exact H2_) | (have H2_ := (Option.bind_some _ _).symm.trans H; with_reducible exact H2_) | with_reducible exact H | (rw [hy134]; exact H) | exact H
               have Ny134 := Aside0.mk hy134
               clear hy134
               have H' := Aside0.mk H
               clear H
               go_wp2_with (first | ((with_reducible refine gate_builtin (b := .append) (xs := #[.tmp 26, .tmp 29]) rfl ?_); at_builtin; refine Kd.R_append (Kd.int .u8) (w0 := w) w.heap.size rfl (.tmp 26) (.tmp 29) 22 5 (.int .u8 0) 1 rfl Try.underlying22 info5 rfl (by decide) (by omega) u5 x5_2 ((x7_2) % 256) [.int .u8 ((x7_2) % 256)] (fun _ => True) (fun _ => False) rfl rfl ?aP (fun _ hk => hk.elim) ?aF ?aO ?aB ?aS ?aL ?_; (case aP => exact rfl); (case aB => exact (by repeat (first | (with_reducible first | exact HB.out | apply below_alloc | apply pw_below_drewN | apply below_drew1) | exact HB.out))); (case aF => exact (fun _ _ => trivial)); (case aO => exact (by (with_reducible repeat (first | apply Kd.R_alloc | apply Kd.R_drewN | apply Kd.R_drew)); exact HO_5.out)); (case aS => exact (below_size (by repeat (first | (with_reducible first | exact HB.out | apply below_alloc | apply pw_below_drewN | apply below_drew1) | exact HB.out)))); (case aL => have := LMc11.out; omega); intro v135 w12 ho hb hg hat; rw [← Ny134.out] at ho; have n0_ := Aside0.mk (hb); have n1_ := Aside0.mk (ho); clear HB; clear HO_5; have HB := n0_; have HO136 := n1_; clear n0_ n1_; clear ho hb hg hat))
               go_roundg k2
               case measure => have := HK1.out; have := HK2.out; omega
               case rel => exact ⟨(y134), (wrap64 (x12_1 + 1)), (by first | rfl | (simp; done) | (simp [*]; done)), H', ⟨by have := HK1.out; have := HK2.out; omega⟩, ⟨by (with_reducible repeat (first | apply Kd.R_alloc | apply Kd.R_drewN | apply Kd.R_drew)); exact HO136.out⟩, ⟨by repeat (first | (with_reducible first | exact HB.out | apply below_alloc | apply pw_below_drewN | apply below_drew1) | exact HB.out)⟩⟩
             · rw [if_neg c11] at H
               exact absurd H (by simp)
       · rw [if_neg c7] at H
         exact absurd H (by simp)
     · rw [if_neg c6] at H
       exact absurd H (by simp)
   · rw [if_neg c5] at H
     have c5b0 : decide (x12_1 < (l1.length : Int)) = false := decide_eq_false c5
     clear c5
     obtain rfl := Option.some.inj H
     simp only [Option.some.injEq, Prod.mk.injEq] at H
     obtain ⟨rfl⟩ := H
     go_wp2
     go_ret
     exact ⟨_, by first | rfl | (simp [errW_none, errW_some] <;> rfl) | (simp [*, errW_none, errW_some] <;> rfl), by (with_reducible repeat (first | apply Kd.R_alloc | apply Kd.R_drewN | apply Kd.R_drew)); exact HO_5.out, by repeat (first | (with_reducible first | exact HB.out | apply below_alloc | apply pw_below_drewN | apply below_drew1) | exact HB.out)⟩
end Go.Proofs.Ytkddlhcpplkpbaa.G
end
section
namespace Go.Proofs.Ytkddlhcpplkpbaa.G
open WB Go.RowKit Go.Proofs.YtkddlhcpplkpbaaW.PrintWords Go.Proofs.YtkddlhcpplkpbaaW.PrintLast Go.Proofs.YtkddlhcpplkpbaaW.PrintMore
attribute [local go_sem] max2_int min2_int max_two min_two max_three min_three max_four min_four   -- for this text's walks alone
def varint_Texts.l0 : Nat → List Int → List (List Int) → Int → Int → Option (List Int)
 | 0, _, _, _, _ => none
 | k + 1, x5, x10, x11, x12 => if x12 < x11 then (if 0 ≤ x12 then (if x12 < (x10.length : Int) then ((varint_Put.f k x5 (([IntKind.u64.wrap (((rd_L1 x10 x12).length : Int))] : List Int))).bind fun t144 => (if t144.length + (rd_L1 x10 x12).length < 140737488355328 then (varint_Texts.l0 k (t144 ++ (rd_L1 x10 x12)) x10 x11 (wrap64 (x12 + 1))) else (none))) else (none)) else (none)) else (some x5)
def varint_Texts.f (k : Nat) (l0 : List Int) (l1 : List (List Int)) : Option (List Int) := (slices_Clone_byte_byte.f l0).bind fun t137 => (varint_Texts.l0 k t137 l1 (l1.length : Int) 0)
set_option maxHeartbeats 8000000 in
set_option maxRecDepth 100000 in
theorem varint_Texts.calls (k : Nat) (A0 : Option Addr) (c0 : Nat) (l0 : List Int) (A1 : Option Addr) (c1 : Nat) (l1 : List (List Int)) (r : List Int) (w : World) (hr0 : Kd.C (Kd.int .u8) w A0 l0.length l0) (hc0 : l0.length ≤ c0) (hr1 : Kd.C (Kd.slice 5 (Kd.int .u8)) w A1 l1.length l1) (hc1 : l1.length ≤ c1) (h : varint_Texts.f k l0 l1 = some r) :
  Calls Try.prog 33 #[.slice A0 l0.length c0, .slice A1 l1.length c1] w fun e w' => ∃ v0_ : Value, e = .returned (v0_) ∧ Kd.R (Kd.int .u8) 5 w' w.heap.size (fun _ => True) v0_ r ∧ Below w.heap.size w w' := by
 have HR0 := Aside0.mk hr0
 have HC0 := Aside0.mk hc0
 clear hr0 hc0
 have HR1 := Aside0.mk hr1
 have HC1 := Aside0.mk hc1
 clear hr1 hc1
 have HB := Aside0.mk (Below.refl w.heap.size w)
 have H : ((slices_Clone_byte_byte.f l0).bind fun t137 => (varint_Texts.l0 k t137 l1 (l1.length : Int) 0)) = some r := h
 clear h
 replace H := Option.bind_eq_some_iff.mp H
 obtain ⟨t137, A30, H⟩ := H
 replace H : (varint_Texts.l0 k t137 l1 (l1.length : Int) 0) = some r := H
 have A3 := Aside0.mk A30
 clear A30
 have H' := Aside0.mk H
 clear H
 go_enter Try.func33, Try.ntmps33
 go_wp2_with (first | ((with_reducible refine gate_callee (f := 57) rfl ?_); refine goesL_ (some 9) rfl rfl Try.func57 (by kernel_rfl) rfl #[.slice A0 l0.length c0] rfl (by (try simp only [List.map_toArray, List.map_cons, List.map_nil]); first | done | rfl | (simp only [List.length_drop, List.length_take]; rfl)) ?_; (with_reducible refine (slices_Clone_byte_byte.calls _ _ l0 t137 _ ?side1 ?side2 A3.out).mono ?_); (case side1 => repeat (first | exact HR0.out | (with_reducible refine Kd.C_alloc ?_ _) | (with_reducible refine Kd.C_drewN ?_ _) | (with_reducible refine Kd.C_drew ?_))); (case side2 => exact HC0.out); rintro e w4 ⟨v138, rfl, ho0, hb⟩; refine ⟨_, rfl, ?_⟩; have n0_ := Aside0.mk (Kd.R_lower ho0 (below_size (by repeat (first | (with_reducible first | exact HB.out | apply below_alloc | apply pw_below_drewN | apply below_drew1) | exact HB.out)))); have n1_ := Aside0.mk (below_step (by repeat (first | (with_reducible first | exact HB.out | apply below_alloc | apply pw_below_drewN | apply below_drew1) | exact HB.out)) hb); clear HB; have HO139 := n0_; have HB := n1_; clear n0_ n1_; (try clear hb); (try clear hb2); (try clear hk); (try clear hi); (try clear ho0)))
 go_loopg [5, 12] k (fun kq v5 v12 w' => ∃ (x5_1 : List Int) (x12_1 : Int), v12 = .int .i64 x12_1 ∧ Aside0 (varint_Texts.l0 kq x5_1 l1 (l1.length : Int) x12_1 = some r) ∧ Aside0 (kq ≤ k) ∧ Aside0 (Kd.R (Kd.int .u8) 5 w' w.heap.size (fun _ => True) v5 x5_1) ∧ Aside0 (Below w.heap.size w w'))
 case atStart => exact ⟨(t137), (0), (by first | rfl | (simp; done) | (simp [*]; done)), H', ⟨Nat.le_refl _⟩, ⟨by (with_reducible repeat (first | apply Kd.R_alloc | apply Kd.R_drewN | apply Kd.R_drew)); exact HO139.out⟩, ⟨by repeat (first | (with_reducible first | exact HB.out | apply below_alloc | apply pw_below_drewN | apply below_drew1) | exact HB.out)⟩⟩
 case round =>
  clear H'
  try clear c1
  try clear p2
  try clear c3
  obtain ⟨x5_1, x12_1, rfl, HA, HK1, HO_5, HB⟩ := hrel
  cases gk with
  | zero => exact absurd HA.out (by simp [varint_Texts.l0])
  | succ k1 =>
   have H := HA.out
   clear HA
   simp only [varint_Texts.l0] at H
   by_cases c5 : x12_1 < (l1.length : Int)
   · rw [if_pos c5] at H
     have c5b0 : decide (x12_1 < (l1.length : Int)) = true := decide_eq_true c5
     clear c5
     by_cases c6 : 0 ≤ x12_1
     · rw [if_pos c6] at H
       have c6b0 : decide (0 ≤ x12_1) = true := decide_eq_true c6
       clear c6
       by_cases c7 : x12_1 < (l1.length : Int)
       · rw [if_pos c7] at H
         have c7b0 : decide (x12_1 < (l1.length : Int)) = true := decide_eq_true c7
         clear c7
         obtain ⟨y141, hy141⟩ : ∃ y_ : List Int, y_ = (([IntKind.u64.wrap (((rd_L1 l1 x12_1).length : Int))] : List Int)) := ⟨_, rfl⟩
         replace H : ((varint_Put.f k1 x5_1 y141).bind fun t144 => (if t144.length + (rd_L1 l1 x12_1).length < 140737488355328 then (varint_Texts.l0 k1 (t144 ++ (rd_L1 l1 x12_1)) l1 (l1.length : Int) (wrap64 (x12_1 + 1))) else (none))) = some r := by first | (rw [hy141]; with_reducible exact H) | (have H2_ := (Option.bind_some _ _).symm.trans H; rw [hy141]; with_reducible exact H2_) | (have H2_ := (Option.bind_some _ _).symm.trans H; with_reducible exact H2_) | with_reducible exact H | (rw [hy141]; exact H) | exact H
         have Ny141 := Aside0.mk hy141
         clear hy141
         replace H := Option.bind_eq_some_iff.mp H
         obtain ⟨t144, A80, H⟩ := H
         replace H : (if t144.length + (rd_L1 l1 x12_1).length < 140737488355328 then (varint_Texts.l0 k1 (t144 ++ (rd_L1 l1 x12_1)) l1 (l1.length : Int) (wrap64 (x12_1 + 1))) else (none)) = some r := H
         have A8 := Aside0.mk A80
         clear A80
         by_cases c9 : t144.length + (rd_L1 l1 x12_1).length < 140737488355328
         · rw [if_pos c9] at H
           have LMc9 := Aside0.mk c9
           clear c9
           obtain ⟨y147, hy147⟩ : ∃ y_ : List Int, y_ = (t144 ++ (rd_L1 l1 x12_1)) := ⟨_, rfl⟩
           replace H : (varint_Texts.l0 k1 y147 l1 (l1.length : Int) (wrap64 (x12_1 + 1))) = some r := by first | (rw [hy147]; with_reducible exact H) | (have H2_ := (Option.bind_some _ _).symm.trans H; rw [hy147]; with_reducible exact H2_) | (have H2_ := (Option.bind_some _ _).symm.trans H; with_reducible exact H2_) | with_reducible exact H | (rw [hy147]; exact H) | exact H
           have Ny147 := Aside0.mk hy147
           clear hy147
           have H' := Aside0.mk H
           clear H
           have p140 : 0 ≤ (x12_1 : Int) := of_decide_eq_true (by assumption)
           have q140 : x12_1 < (l1.length : Int) := of_decide_eq_true (by assumption)
           obtain ⟨ad140, A140_0, c140_0, e140, hx140_0, hl140_0, hi140_0⟩ := at_L1 HR1.out x12_1 p140 q140
           cases e140
           replace hx140_0 := (HB.out.cell (World.block_lt_of_cell? w _ hx140_0)).trans hx140_0
           have HR140_0 := Aside0.mk hi140_0
           have HC140_0 := Aside0.mk hl140_0
           clear hi140_0 hl140_0
           replace p140 := eq_true p140
           replace q140 := eq_true q140
           go_wp2_with (first | ((with_reducible refine gate_dst (N := 20) rfl ?_); refine Kd.R_lit (Kd.int .u64) _ 62 ?hg (N := 20) ?hd (xs := ([IntKind.u64.wrap (((rd_L1 l1 x12_1).length : Int))] : List Int)) (inner := [.int .u64 (IntKind.u64.wrap (((rd_L1 l1 x12_1).length : Int)))]) (ok := fun _ => True) (okp := fun _ => True) ?hr ?hp (fun _ hk => hk) trivial (Below.refl _ _) (Nat.le_refl _) (by simp) ?_; (case hd => rfl); (case hg => rfl); (case hr => first | (go_simp; done) | (go_simp; rfl)); (case hp => exact (Reps.one (show Kd.M (Kd.int .u64) _ _ _ (IntKind.u64.wrap (((rd_L1 l1 x12_1).length : Int))) [.int .u64 (IntKind.u64.wrap (((rd_L1 l1 x12_1).length : Int)))] from rfl) (Reps.none _ _))); intro v142 w10 ho11 hb hg_ hnew_; clear hg_ hnew_; (first | rw [← Ny141.out] at ho11 | (simp only [Int.reduceToNat] at ho11; rw [← Ny141.out] at ho11)); have n0_ := Aside0.mk (Kd.R_below (by (with_reducible repeat (first | apply Kd.R_alloc | apply Kd.R_drewN | apply Kd.R_drew)); exact HO_5.out) hb); have n1_ := Aside0.mk (Kd.R_lower ho11 (below_size (by repeat (first | (with_reducible first | exact HB.out | apply below_alloc | apply pw_below_drewN | apply below_drew1) | exact HB.out)))); have n2_ := Aside0.mk (below_step (by repeat (first | (with_reducible first | exact HB.out | apply below_alloc | apply pw_below_drewN | apply below_drew1) | exact HB.out)) hb); clear HO_5; clear HB; have HO_5 := n0_; have HO143 := n1_; have HB := n2_; clear n0_ n1_ n2_; clear hb ho11; obtain ⟨Ao12, co12, eo12⟩ := Kd.R_slice HO_5.out; subst eo12; obtain ⟨Ao13, co13, eo13⟩ := Kd.R_slice HO143.out; subst eo13) | ((with_reducible refine gate_callee (f := 30) rfl ?_); refine goesL_ (some 21) rfl rfl Try.func30 (by kernel_rfl) rfl #[.slice Ao12 x5_1.length co12, .slice Ao13 y141.length co13] rfl (by (try simp only [List.map_toArray, List.map_cons, List.map_nil]); first | done | rfl | (simp only [List.length_drop, List.length_take]; rfl)) ?_; (with_reducible refine (varint_Put.calls k1 _ _ x5_1 _ _ y141 t144 _ ?side1 ?side2 ?side3 ?side4 A8.out).mono ?_); (case side1 => repeat (first | exact (Kd.R_reads' HO_5.out).2.2 | (with_reducible refine Kd.C_alloc ?_ _) | (with_reducible refine Kd.C_drewN ?_ _) | (with_reducible refine Kd.C_drew ?_))); (case side2 => exact (Kd.R_reads' HO_5.out).2.1); (case side3 => repeat (first | exact (Kd.R_reads' HO143.out).2.2 | (with_reducible refine Kd.C_alloc ?_ _) | (with_reducible refine Kd.C_drewN ?_ _) | (with_reducible refine Kd.C_drew ?_))); (case side4 => exact (Kd.R_reads' HO143.out).2.1); rintro e w14 ⟨v145, rfl, ho0, hb⟩; refine ⟨_, rfl, ?_⟩; have n0_ := Aside0.mk (Kd.R_elder' (by (with_reducible repeat (first | apply Kd.R_alloc | apply Kd.R_drewN | apply Kd.R_drew)); exact HO_5.out) (Kd.R_base ho0) hb); have n1_ := Aside0.mk (Kd.R_below (by (with_reducible repeat (first | apply Kd.R_alloc | apply Kd.R_drewN | apply Kd.R_drew)); exact HO143.out) hb); have n2_ := Aside0.mk (Kd.R_lower (Kd.R_new' ho0 (Kd.R_lt (by (with_reducible repeat (first | apply Kd.R_alloc | apply Kd.R_drewN | apply Kd.R_drew)); exact HO_5.out))) (below_size (by repeat (first | (with_reducible first | exact HB.out | apply below_alloc | apply pw_below_drewN | apply below_drew1) | exact HB.out)))); have n3_ := Aside0.mk (below_step (by repeat (first | (with_reducible first | exact HB.out | apply below_alloc | apply pw_below_drewN | apply below_drew1) | exact HB.out)) hb); clear HO_5; clear HO143; clear HB; have HO_5 := n0_; have HO143 := n1_; have HO146 := n2_; have HB := n3_; clear n0_ n1_ n2_ n3_; (try clear hb); (try clear hb2); (try clear hk); (try clear hi); (try clear ho0)) | ((with_reducible refine gate_builtin (b := .append) (xs := #[.tmp 21, .tmp 22]) rfl ?_); at_builtin; refine Kd.R_append_rows (Kd.int .u8) (w0 := w) w.heap.size rfl (.tmp 21) (.tmp 22) 22 5 (.int .u8 0) 1 rfl Try.underlying22 info5 rfl (by decide) (by omega) v145 t144 (rd_L1 l1 x12_1) _ _ _ (fun k_ => some k_ ≠ (.slice Ao12 x5_1.length co12 : Value).ownBlock) (fun _ => False) rfl rfl ?aO ?aR (fun _ _ h => h) (fun _ h => h.elim) ?aF ?aB ?aS ?aL ?_; (case aR => repeat (first | exact (Kd.C_below HR140_0.out HB.out) | (with_reducible refine Kd.C_alloc ?_ _) | (with_reducible refine Kd.C_drewN ?_ _) | (with_reducible refine Kd.C_drew ?_))); (case aB => exact (by repeat (first | (with_reducible first | exact HB.out | apply below_alloc | apply pw_below_drewN | apply below_drew1) | exact HB.out))); (case aF => exact (fun k_ hk => Kd.fresh' (Kd.R_lt (by (with_reducible repeat (first | apply Kd.R_alloc | apply Kd.R_drewN | apply Kd.R_drew)); exact HO_5.out)) k_ hk)); (case aO => exact (by (with_reducible repeat (first | apply Kd.R_alloc | apply Kd.R_drewN | apply Kd.R_drew)); exact Kd.R_mono HO146.out (fun _ hk => hk.2))); (case aS => exact (below_size (by repeat (first | (with_reducible first | exact HB.out | apply below_alloc | apply pw_below_drewN | apply below_drew1) | exact HB.out)))); (case aL => have := LMc9.out; omega); intro v148 w15 ho hb hg hat; rw [← Ny147.out] at ho; have n0_ := Aside0.mk (Kd.R_after (ok := (fun _ => True)) (by (with_reducible repeat (first | apply Kd.R_alloc | apply Kd.R_drewN | apply Kd.R_drew)); exact HO_5.out) hg hat); have n1_ := Aside0.mk (Kd.R_over' (by (with_reducible repeat (first | apply Kd.R_alloc | apply Kd.R_drewN | apply Kd.R_drew)); exact HO143.out) (Kd.R_typed (by (with_reducible repeat (first | apply Kd.R_alloc | apply Kd.R_drewN | apply Kd.R_drew)); exact HO146.out)) (by decide) hg); have n2_ := Aside0.mk (hb); have n3_ := Aside0.mk (ho); clear HO_5; clear HO143; clear HB; clear HO146; have HO_5 := n0_; have HO143 := n1_; have HB := n2_; have HO149 := n3_; clear n0_ n1_ n2_ n3_; clear ho hb hg hat))
           go_roundg k1
           case measure => have := HK1.out; omega
           case rel => exact ⟨(y147), (wrap64 (x12_1 + 1)), (by first | rfl | (simp; done) | (simp [*]; done)), H', ⟨by have := HK1.out; omega⟩, ⟨by (with_reducible repeat (first | apply Kd.R_alloc | apply Kd.R_drewN | apply Kd.R_drew)); exact Kd.R_mono HO149.out (fun _ hk => trivial)⟩, ⟨by repeat (first | (with_reducible first | exact HB.out | apply below_alloc | apply pw_below_drewN | apply below_drew1) | exact HB.out)⟩⟩
         · rw [if_neg c9] at H
           exact absurd H (by simp)
       · rw [if_neg c7] at H
         exact absurd H (by simp)
     · rw [if_neg c6] at H
       exact absurd H (by simp)
   · rw [if_neg c5] at H
     have c5b0 : decide (x12_1 < (l1.length : Int)) = false := decide_eq_false c5
     clear c5
     obtain rfl := Option.some.inj H
     simp only [Option.some.injEq, Prod.mk.injEq] at H
     obtain ⟨rfl⟩ := H
     go_wp2
     go_ret
     exact ⟨_, by first | rfl | (simp [errW_none, errW_some] <;> rfl) | (simp [*, errW_none, errW_some] <;> rfl), by (with_reducible repeat (first | apply Kd.R_alloc | apply Kd.R_drewN | apply Kd.R_drew)); exact HO_5.out, by repeat (first | (with_reducible first | exact HB.out | apply below_alloc | apply pw_below_drewN | apply below_drew1) | exact HB.out)⟩
end Go.Proofs.Ytkddlhcpplkpbaa.G
end
