/- The law MessageOwn: for every input it returns true; each argument reads behind the call as it read before. -/
import Derived.Test.YtkddlhcpplkpbaaKMessageOwn2
import Derived.Test.YtkddlhcpplkpbaaKMessageOwn31
import Derived.Test.YtkddlhcpplkpbaaKMessageOwn35
import Derived.Test.YtkddlhcpplkpbaaRows
import Derived.WalkKit
import Derived.ProofKit
import Derived.OpenShut
import Derived.ShutString
import Derived.ChangeOld
import Derived.Below
import Derived.SizedLaws
set_option linter.unusedVariables false
set_option linter.unusedSimpArgs false
set_option linter.unusedSectionVars false
section
namespace Go.Proofs.Ytkddlhcpplkpbaa.messageOwn
open Go.ChangeShapes Go.WideShapes Go.ChangeAt Go.RowKit Go.Proofs.Ytkddlhcpplkpbaa.G Go.Proofs.YtkddlhcpplkpbaaW.PrintWords
set_option linter.unusedVariables false
set_option linter.defProp false
theorem own : ownKnob Try.prog.godebug = none := by kernel_rfl
theorem laidOut : laidOutB Try.prog = true := by kernel_rfl
def op25 := WB.Op.struct (P := Try.prog) (fun x : S25 => (x.f0, x.f1, x.f2, x.f3, x.f4, x.f5, x.f6, x.f7, x.f8, x.f9, x.f10, x.f11)) (fun b => (⟨b.1, b.2.1, b.2.2.1, b.2.2.2.1, b.2.2.2.2.1, b.2.2.2.2.2.1, b.2.2.2.2.2.2.1, b.2.2.2.2.2.2.2.1, b.2.2.2.2.2.2.2.2.1, b.2.2.2.2.2.2.2.2.2.1, b.2.2.2.2.2.2.2.2.2.2.1, b.2.2.2.2.2.2.2.2.2.2.2⟩ : S25)) (fun _ => rfl) Try.underlying25 (by kernel_rfl) (WB.OpF.cons (WB.Op.int Try.underlying3) rfl (by kernel_rfl) (WB.OpF.cons (WB.Op.int Try.underlying3) rfl (by kernel_rfl) (WB.OpF.cons (WB.Op.int Try.underlying3) rfl (by kernel_rfl) (WB.OpF.cons (WB.Op.int Try.underlying3) rfl (by kernel_rfl) (WB.OpF.cons (WB.Op.int Try.underlying3) rfl (by kernel_rfl) (WB.OpF.cons (WB.Op.int Try.underlying3) rfl (by kernel_rfl) (WB.OpF.cons (WB.Op.int Try.underlying3) rfl (by kernel_rfl) (WB.OpF.cons (WB.Op.int Try.underlying3) rfl (by kernel_rfl) (WB.OpF.cons (WB.Op.int Try.underlying3) rfl (by kernel_rfl) (WB.OpF.cons (WB.Op.int Try.underlying3) rfl (by kernel_rfl) (WB.OpF.cons (WB.Op.int Try.underlying3) rfl (by kernel_rfl) (WB.OpF.one (off := _) (WB.Op.slice (WB.Op.int Try.underlying5) Try.underlying22 (by kernel_rfl) (B := 1) (by kernel_rfl)) rfl (by kernel_rfl)))))))))))))
set_option maxRecDepth 100000 in
set_option maxHeartbeats 1000000 in
theorem lifted (os : Os) (started : os.Started) (H : Type) (enc : TypeId × Value → H) :
    ReturnsInHanded {} Try.checked os 5 .any (Rows.messageOwnSpec.pre6 enc Try.prog Try.f5 Rows.messageOwnRow.domain false) (Rows.messageOwnSpec.post enc Try.prog Try.f5 false true false false) := by
  refine returnsInHanded_of_change_sized (C := Try.checked) own started (by kernel_rfl) Try.func5
    (ChangeSpec.witness6 (enc := enc) (C := Try.checked) false ⟨#[], #[.slice none 0 0, .agg #[.int .i64 0, .int .i64 0, .int .i64 0, .int .i64 0, .int .i64 0, .int .i64 0, .int .i64 0, .int .i64 0, .int .i64 0, .int .i64 0, .int .i64 0, .slice none 0 0]], []⟩ 12 (by kernel_rfl) (by kernel_rfl) (by kernel_rfl) (by kernel_rfl)) ?_
  intro W base args ds gs before hval0 hW hcnd hsz0 _
  have hsz : (DataW.weightsEach Try.prog (Try.f5.params.toList ++ Rows.messageOwnSpec.plain.varTypes Try.prog) (ds ++ gs)).all (· ≤ reachBytes) = true := hsz0
  have hval : ∀ (j : Nat) t v, Try.f5.params[j]? = some t → args[j]? = some v → Value.okWide Try.prog W .any base t v := hval0
  have hW' := hW
  obtain ⟨p, q, hA0, hV, rfl, hfz, hnd⟩ := hW
  have hA : DataW.TrodAll enc Try.prog W 0 (fun _ => true) true Try.f5.params.toList args.toList ds p := hA0
  rw [Try.params5] at hA hval hsz
  obtain ⟨v0, vs0, d0, ds0, p0, q0, hargs, rfl, rfl, h0, r0⟩ := trodAll_cons hA
  obtain ⟨v1, vs1, d1, ds1, p1, q1, rfl, rfl, rfl, h1, r1⟩ := trodAll_cons r0
  obtain ⟨rfl, rfl, rfl⟩ := trodAll_nil r1
  obtain rfl : args = #[v0, v1] := by cases args; simp_all
  obtain ⟨rfl, rfl⟩ := trodVars_none hV
  have k0 := h0
  have lt0 : ∀ x ∈ p0, x.block < W.heap.size := by obtain ⟨m, hm⟩ := k0; exact DataW.trod_lt m _ _ _ hm
  obtain ⟨fuel0, hf0⟩ := h0
  obtain ⟨x0, hK0, hw0, hb0, hs0⟩ := (WB.Op.slice (WB.Op.int Try.underlying5) Try.underlying22 (by kernel_rfl) (B := 1) (by kernel_rfl)) H enc W fuel0 _ _ hf0
  have hs0 := hs0 (by rw [List.all_eq_true] at hsz ⊢; exact fun m hm => hsz m (DataW.weights_mem_each (j := 0) (t := 22) (d := d0) rfl rfl m hm))
  obtain ⟨A0, c0, hcs0, hc0, hr0⟩ := hK0
  obtain rfl : v0 = .slice A0 x0.length c0 := by
    obtain ⟨ya, yl, yc, rfl⟩ := okWide_slice Try.underlying22 (hval 0 22 v0 rfl rfl)
    have hcs' : [_] = [_] := hcs0
    injection hcs' with hcs'
  have k1 := h1
  have lt1 : ∀ x ∈ p1, x.block < W.heap.size := by obtain ⟨m, hm⟩ := k1; exact DataW.trod_lt m _ _ _ hm
  obtain ⟨fuel1, hf1⟩ := h1
  obtain ⟨x1, hK1, hw1, hb1, hs1⟩ := op25 H enc W fuel1 _ _ hf1
  have hs1 := hs1 (by rw [List.all_eq_true] at hsz ⊢; exact fun m hm => hsz m (DataW.weights_mem_each (j := 1) (t := 25) (d := d1) rfl rfl m hm))
  obtain ⟨A1_11, c1_11, hcs1, hc1_11, hr1_11⟩ := k25_open hK1
  obtain rfl : v1 = .agg #[.int .i64 x1.f0, .int .i64 x1.f1, .int .i64 x1.f2, .int .i64 x1.f3, .int .i64 x1.f4, .int .i64 x1.f5, .int .i64 x1.f6, .int .i64 x1.f7, .int .i64 x1.f8, .int .i64 x1.f9, .int .i64 x1.f10, .slice A1_11 x1.f11.length c1_11] := by
    obtain ⟨ys, rfl, _⟩ := okWide_struct Try.underlying25 (hval 1 25 v1 rfl rfl)
    have hcs' : ys.toList = _ := hcs1
    rw [show ys = ys.toList.toArray by simp, hcs']
  have hP := Pure.MessageOwn x0 x1 hw0 hw1 hs0 hs1
  obtain ⟨k, hP⟩ := hP
  clear hA0 hval0 hsz0 hsz
  refine (waybilllaw09_MessageOwn.calls k A0 c0 x0 x1.f0 x1.f1 x1.f2 x1.f3 x1.f4 x1.f5 x1.f6 x1.f7 x1.f8 x1.f9 x1.f10 A1_11 c1_11 x1.f11 true W hr0 hc0 hr1_11 hc1_11 hP rfl).mono ?_
  rintro e W' ⟨rfl, hd⟩
  have bel : Below W.heap.size W W' := hd
  exact ⟨_, rfl, _, _, _, [], _, [], hW', trodAll_mk1 (shut_bool Try.underlying4 _), (trodAll_cons_mk (Below.trod laidOut (by kernel_rfl) (of_decide_eq_true (by kernel_rfl)) k0 bel lt0) (trodAll_cons_mk (Below.trod laidOut (by kernel_rfl) (of_decide_eq_true (by kernel_rfl)) k1 bel lt1) trodAll_mk0)), rfl, bel.frame _, fun h => by cases h⟩
theorem over : Rows.messageOwnRow.holds Try.pinned (OpenSpec.ofChange Rows.messageOwnSpec) :=
  OpenClaim.holds_of_wide 5 Try.f5 rfl rfl rfl rfl rfl rfl rfl ⟨rfl, rfl, rfl, rfl, rfl⟩ rfl rfl rfl rfl rfl (by kernel_rfl) Try.func5 (by kernel_rfl)
    (of_decide_eq_true (by kernel_rfl)) (by unfold Func.isWrapper; first | (rw [if_pos (by decide +kernel)]; kernel_rfl) | (rw [if_neg (by decide +kernel)]; exact ⟨rfl, rfl⟩))
    (fun os started H enc _ => lifted os started H enc)
end Go.Proofs.Ytkddlhcpplkpbaa.messageOwn
namespace Go.Proofs.Ytkddlhcpplkpbaa
/-- The row. -/
theorem messageOwn_holds : Rows.MessageOwnSaid := messageOwn.over
#print axioms messageOwn_holds
end Go.Proofs.Ytkddlhcpplkpbaa
end
