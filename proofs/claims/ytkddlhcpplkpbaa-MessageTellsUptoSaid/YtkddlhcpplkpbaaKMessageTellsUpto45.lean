/- The law MessageTells: for every input whose arguments together are of bulk at most 1048576 it returns true; each argument reads behind the call as it read before. -/
import Derived.Test.YtkddlhcpplkpbaaKMessageTellsUpto2
import Derived.Test.YtkddlhcpplkpbaaKMessageTellsUpto39
import Derived.Test.YtkddlhcpplkpbaaKMessageTellsUpto44
import Derived.Test.YtkddlhcpplkpbaaRows
import Derived.WalkKit
import Derived.ProofKit
import Derived.OpenShut
import Derived.ShutString
import Derived.ChangeOld
import Derived.Below
import Derived.SizedLaws
import Derived.JoinedCond
import Derived.Deep.CondSized
set_option linter.unusedVariables false
set_option linter.unusedSimpArgs false
set_option linter.unusedSectionVars false
set_option linter.defProp false
section
namespace Go.Proofs.Ytkddlhcpplkpbaa.messageTellsUpto
open Go.ChangeShapes Go.WideShapes Go.ChangeAt Go.RowKit Go.Proofs.Ytkddlhcpplkpbaa.G Go.Proofs.YtkddlhcpplkpbaaW.PrintWords
theorem own : ownKnob Try.prog.godebug = none := by kernel_rfl
theorem laidOut : laidOutB Try.prog = true := by kernel_rfl
def op25 := WB.Op.struct (P := Try.prog) (fun x : S25 => (x.f0, x.f1, x.f2, x.f3, x.f4, x.f5, x.f6, x.f7, x.f8, x.f9, x.f10, x.f11)) (fun b => (⟨b.1, b.2.1, b.2.2.1, b.2.2.2.1, b.2.2.2.2.1, b.2.2.2.2.2.1, b.2.2.2.2.2.2.1, b.2.2.2.2.2.2.2.1, b.2.2.2.2.2.2.2.2.1, b.2.2.2.2.2.2.2.2.2.1, b.2.2.2.2.2.2.2.2.2.2.1, b.2.2.2.2.2.2.2.2.2.2.2⟩ : S25)) (fun _ => rfl) Try.underlying25 (by kernel_rfl) (WB.OpF.cons (WB.Op.int Try.underlying3) rfl (by kernel_rfl) (WB.OpF.cons (WB.Op.int Try.underlying3) rfl (by kernel_rfl) (WB.OpF.cons (WB.Op.int Try.underlying3) rfl (by kernel_rfl) (WB.OpF.cons (WB.Op.int Try.underlying3) rfl (by kernel_rfl) (WB.OpF.cons (WB.Op.int Try.underlying3) rfl (by kernel_rfl) (WB.OpF.cons (WB.Op.int Try.underlying3) rfl (by kernel_rfl) (WB.OpF.cons (WB.Op.int Try.underlying3) rfl (by kernel_rfl) (WB.OpF.cons (WB.Op.int Try.underlying3) rfl (by kernel_rfl) (WB.OpF.cons (WB.Op.int Try.underlying3) rfl (by kernel_rfl) (WB.OpF.cons (WB.Op.int Try.underlying3) rfl (by kernel_rfl) (WB.OpF.cons (WB.Op.int Try.underlying3) rfl (by kernel_rfl) (WB.OpF.one (off := _) (WB.Op.slice (WB.Op.int Try.underlying5) Try.underlying22 (by kernel_rfl) (B := 1) (by kernel_rfl)) rfl (by kernel_rfl)))))))))))))
set_option maxRecDepth 100000 in
set_option maxHeartbeats 1000000 in
theorem lifted (os : Os) (started : os.Started) (H : Type) (enc : TypeId × Value → H) (F : Stop.Interp) :
  ReturnsInHanded {} Try.checked os 8 .any ((Rows.OpenSpec.upto Rows.messageTellsSpec).pre6 enc Try.prog Try.f8 Rows.messageTellsUptoRow.domain false) (((Rows.OpenSpec.upto Rows.messageTellsSpec).at F).post enc Try.prog Try.f8 false true false false) := by
 refine returnsInHanded_of_cond_sized (C := Try.checked) (s := Rows.OpenSpec.upto Rows.messageTellsSpec) (k := Rows.uptoSmall) rfl own started (by kernel_rfl) Try.func8
  (OpenSpec.witness (enc := enc) (C := Try.checked) (s := Rows.OpenSpec.upto Rows.messageTellsSpec) (k := Rows.uptoSmall) rfl false ⟨#[], #[.agg #[.int .i64 0, .int .i64 0, .int .i64 0, .int .i64 0, .int .i64 0, .int .i64 0, .int .i64 0, .int .i64 0, .int .i64 0, .int .i64 0, .int .i64 0, .slice none 0 0], .agg #[.int .i64 0, .int .i64 0, .int .i64 0, .int .i64 0, .int .i64 0, .int .i64 0, .int .i64 0, .int .i64 0, .int .i64 0, .int .i64 0, .int .i64 0, .slice none 0 0], .slice none 0 0], []⟩ 12 (by kernel_rfl) (by kernel_rfl) (by kernel_rfl)
   (x := ([.agg [.lit (.int .i64 0), .lit (.int .i64 0), .lit (.int .i64 0), .lit (.int .i64 0), .lit (.int .i64 0), .lit (.int .i64 0), .lit (.int .i64 0), .lit (.int .i64 0), .lit (.int .i64 0), .lit (.int .i64 0), .lit (.int .i64 0), .nil], .agg [.lit (.int .i64 0), .lit (.int .i64 0), .lit (.int .i64 0), .lit (.int .i64 0), .lit (.int .i64 0), .lit (.int .i64 0), .lit (.int .i64 0), .lit (.int .i64 0), .lit (.int .i64 0), .lit (.int .i64 0), .lit (.int .i64 0), .nil], .nil], [], [])) (by kernel_rfl) rfl (by kernel_rfl)) ?_
 intro W base args ds gs before hval0 hW hcnd hk hsz0 _
 have hsz : (DataW.weightsEach Try.prog (Try.f8.params.toList ++ (Rows.OpenSpec.upto Rows.messageTellsSpec).bare.plain.varTypes Try.prog) (ds ++ gs)).all (· ≤ reachBytes) = true := hsz0
 have hval : ∀ (j : Nat) t v, Try.f8.params[j]? = some t → args[j]? = some v → Value.okWide Try.prog W .any base t v := hval0
 have hW' := hW
 obtain ⟨p, q, hA0, hV, rfl, hfz, hnd⟩ := hW
 have hA : DataW.TrodAll enc Try.prog W 0 (fun _ => true) true Try.f8.params.toList args.toList ds p := hA0
 rw [Try.params8] at hA hval hsz
 obtain ⟨v0, vs0, d0, ds0, p0, q0, hargs, rfl, rfl, h0, r0⟩ := trodAll_cons hA
 obtain ⟨v1, vs1, d1, ds1, p1, q1, rfl, rfl, rfl, h1, r1⟩ := trodAll_cons r0
 obtain ⟨v2, vs2, d2, ds2, p2, q2, rfl, rfl, rfl, h2, r2⟩ := trodAll_cons r1
 obtain ⟨rfl, rfl, rfl⟩ := trodAll_nil r2
 obtain rfl : args = #[v0, v1, v2] := by cases args; simp_all
 obtain ⟨rfl, rfl⟩ := trodVars_none hV
 have hbulk : Rows.uptoBulkAll ([d0, d1, d2] ++ []) ≤ 1048576 := of_decide_eq_true hk
 simp only [List.append_nil, Rows.uptoBulkAll] at hbulk
 have k0 := h0
 have lt0 : ∀ x ∈ p0, x.block < W.heap.size := by obtain ⟨m, hm⟩ := k0; exact DataW.trod_lt m _ _ _ hm
 obtain ⟨fuel0, hf0⟩ := h0
 obtain ⟨x0, hK0, hw0, hb0, hs0⟩ := op25 H enc W fuel0 _ _ hf0
 have hs0 := hs0 (by rw [List.all_eq_true] at hsz ⊢; exact fun m hm => hsz m (DataW.weights_mem_each (j := 0) (t := 25) (d := d0) rfl rfl m hm))
 obtain ⟨A0_11, c0_11, hcs0, hc0_11, hr0_11⟩ := k25_open hK0
 obtain rfl : v0 = .agg #[.int .i64 x0.f0, .int .i64 x0.f1, .int .i64 x0.f2, .int .i64 x0.f3, .int .i64 x0.f4, .int .i64 x0.f5, .int .i64 x0.f6, .int .i64 x0.f7, .int .i64 x0.f8, .int .i64 x0.f9, .int .i64 x0.f10, .slice A0_11 x0.f11.length c0_11] := by
  obtain ⟨ys, rfl, _⟩ := okWide_struct Try.underlying25 (hval 0 25 v0 rfl rfl)
  have hcs' : ys.toList = _ := hcs0
  rw [show ys = ys.toList.toArray by simp, hcs']
 have k1 := h1
 have lt1 : ∀ x ∈ p1, x.block < W.heap.size := by obtain ⟨m, hm⟩ := k1; exact DataW.trod_lt m _ _ _ hm
 obtain ⟨fuel1, hf1⟩ := h1
 obtain ⟨x1, hK1, hw1, hb1, hs1⟩ := op25 H enc W fuel1 _ _ hf1
 have hs1 := hs1 (by rw [List.all_eq_true] at hsz ⊢; exact fun m hm => hsz m (DataW.weights_mem_each (j := 1) (t := 25) (d := d1) rfl rfl m hm))
 obtain ⟨A1_11, c1_11, hcs1, hc1_11, hr1_11⟩ := k25_open hK1
 obtain rfl : v1 = .agg #[.int .i64 x1.f0, .int .i64 x1.f1, .int .i64 x1.f2, .int .i64 x1.f3, .int .i64 x1.f4, .int .i64 x1.f5, .int .i64 x1.f6, .int .i64 x1.f7, .int .i64 x1.f8, .int .i64 x1.f9, .int .i64 x1.f10, .slice A1_11 x1.f11.length c1_11] := by
  obtain ⟨ys, rfl, _⟩ := okWide_struct Try.underlying25 (hval 1 25 v1 rfl rfl)
  have hcs' : ys.toList = _ := hcs1
  rw [show ys = ys.toList.toArray by simp, hcs']
 have k2 := h2
 have lt2 : ∀ x ∈ p2, x.block < W.heap.size := by obtain ⟨m, hm⟩ := k2; exact DataW.trod_lt m _ _ _ hm
 obtain ⟨fuel2, hf2⟩ := h2
 obtain ⟨x2, hK2, hw2, hb2, hs2⟩ := (WB.Op.slice (WB.Op.int Try.underlying5) Try.underlying22 (by kernel_rfl) (B := 1) (by kernel_rfl)) H enc W fuel2 _ _ hf2
 have hs2 := hs2 (by rw [List.all_eq_true] at hsz ⊢; exact fun m hm => hsz m (DataW.weights_mem_each (j := 2) (t := 22) (d := d2) rfl rfl m hm))
 obtain ⟨A2, c2, hcs2, hc2, hr2⟩ := hK2
 obtain rfl : v2 = .slice A2 x2.length c2 := by
  obtain ⟨ya, yl, yc, rfl⟩ := okWide_slice Try.underlying22 (hval 2 22 v2 rfl rfl)
  have hcs' : [_] = [_] := hcs2
  injection hcs' with hcs'
 have hbk := Nat.le_trans (Nat.add_le_add hb0 (Nat.add_le_add hb1 (Nat.add_le_add hb2 (Nat.le_refl 0)))) hbulk
 have hP := Pure.MessageTells x0 x1 x2 hw0 hw1 hw2 hs0 hs1 hs2 hbk
 obtain ⟨k, hP⟩ := hP
 clear hA0 hval0 hsz0 hsz
 refine (waybilllaw09_MessageTells.calls k x0.f0 x0.f1 x0.f2 x0.f3 x0.f4 x0.f5 x0.f6 x0.f7 x0.f8 x0.f9 x0.f10 A0_11 c0_11 x0.f11 x1.f0 x1.f1 x1.f2 x1.f3 x1.f4 x1.f5 x1.f6 x1.f7 x1.f8 x1.f9 x1.f10 A1_11 c1_11 x1.f11 A2 c2 x2 true W hr0_11 hc0_11 hr1_11 hc1_11 hr2 hc2 hP rfl).mono ?_
 rintro e W' ⟨rfl, hd⟩
 have bel : Below W.heap.size W W' := hd
 exact ⟨_, rfl, _, _, _, [], _, [], hW', trodAll_mk1 (shut_bool Try.underlying4 _), (trodAll_cons_mk (Below.trod laidOut (by kernel_rfl) (of_decide_eq_true (by kernel_rfl)) k0 bel lt0) (trodAll_cons_mk (Below.trod laidOut (by kernel_rfl) (of_decide_eq_true (by kernel_rfl)) k1 bel lt1) (trodAll_cons_mk (Below.trod laidOut (by kernel_rfl) (of_decide_eq_true (by kernel_rfl)) k2 bel lt2) trodAll_mk0))), rfl, bel.frame _, fun h => by cases h⟩
theorem over : Rows.messageTellsUptoRow.holds Try.pinned (Rows.OpenSpec.upto Rows.messageTellsSpec) :=
 OpenClaim.holds_of_cond 8 Try.f8 rfl rfl rfl rfl rfl rfl rfl ⟨rfl, rfl, rfl, rfl, rfl⟩ rfl rfl rfl rfl rfl (by kernel_rfl) Try.func8 (by kernel_rfl)
  (of_decide_eq_true (by kernel_rfl)) (by unfold Func.isWrapper; first | (rw [if_pos (by decide +kernel)]; kernel_rfl) | (rw [if_neg (by decide +kernel)]; exact ⟨rfl, rfl⟩))
  (fun os started H enc _ F => lifted os started H enc F)
end Go.Proofs.Ytkddlhcpplkpbaa.messageTellsUpto
namespace Go.Proofs.Ytkddlhcpplkpbaa
/-- The row. -/
theorem messageTellsUpto_holds : Rows.MessageTellsUptoSaid := messageTellsUpto.over
#print axioms messageTellsUpto_holds
end Go.Proofs.Ytkddlhcpplkpbaa
end
