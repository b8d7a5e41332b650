/- The law FrameBack: for every input whose arguments together are of bulk at most 1048576 it returns true; each argument reads behind the call as it read before. -/
import Derived.Test.YtmbaooocjoaehaaKFrameBack2
import Derived.Test.YtmbaooocjoaehaaKFrameBack14
import Derived.Test.YtmbaooocjoaehaaKFrameBack18
import Derived.Test.YtmbaooocjoaehaaRows
import Derived.WalkKit
import Derived.ProofKit
import Derived.OpenShut
import Derived.ShutString
import Derived.ChangeOld
import Derived.Below
import Derived.SizedLaws
import Derived.JoinedCond
import Derived.Deep.CondSized
set_option linter.unusedVariables false
set_option linter.unusedSimpArgs false
set_option linter.unusedSectionVars false
section
namespace Go.Proofs.Ytmbaooocjoaehaa.frameBackUpto
open Go.ChangeShapes Go.WideShapes Go.ChangeAt Go.RowKit Go.Proofs.Ytmbaooocjoaehaa.G Go.Proofs.YtmbaooocjoaehaaW.PrintWords
set_option linter.unusedVariables false
set_option linter.defProp false
theorem own : ownKnob Try.prog.godebug = none := by kernel_rfl
theorem laidOut : laidOutB Try.prog = true := by kernel_rfl
set_option maxRecDepth 100000 in
set_option maxHeartbeats 1000000 in
theorem lifted (os : Os) (started : os.Started) (H : Type) (enc : TypeId × Value → H) (F : Stop.Interp) :
    ReturnsInHanded {} Try.checked os 5 .any ((Rows.OpenSpec.upto Rows.frameBackSpec).pre6 enc Try.prog Try.f5 Rows.frameBackUptoRow.domain false) (((Rows.OpenSpec.upto Rows.frameBackSpec).at F).post enc Try.prog Try.f5 false true false false) := by
  refine returnsInHanded_of_cond_sized (C := Try.checked) (s := Rows.OpenSpec.upto Rows.frameBackSpec) (k := Rows.uptoSmall) rfl own started (by kernel_rfl) Try.func5
    (OpenSpec.witness (enc := enc) (C := Try.checked) (s := Rows.OpenSpec.upto Rows.frameBackSpec) (k := Rows.uptoSmall) rfl false ⟨#[], #[.slice none 0 0, .slice none 0 0], []⟩ 12 (by kernel_rfl) (by kernel_rfl) (by kernel_rfl)
      (x := ([.nil, .nil], [], [])) (by kernel_rfl) rfl (by kernel_rfl)) ?_
  intro W base args ds gs before hval0 hW hcnd hk hsz0 _
  have hsz : (DataW.weightsEach Try.prog (Try.f5.params.toList ++ (Rows.OpenSpec.upto Rows.frameBackSpec).bare.plain.varTypes Try.prog) (ds ++ gs)).all (· ≤ reachBytes) = true := hsz0
  have hval : ∀ (j : Nat) t v, Try.f5.params[j]? = some t → args[j]? = some v → Value.okWide Try.prog W .any base t v := hval0
  have hW' := hW
  obtain ⟨p, q, hA0, hV, rfl, hfz, hnd⟩ := hW
  have hA : DataW.TrodAll enc Try.prog W 0 (fun _ => true) true Try.f5.params.toList args.toList ds p := hA0
  rw [Try.params5] at hA hval hsz
  obtain ⟨v0, vs0, d0, ds0, p0, q0, hargs, rfl, rfl, h0, r0⟩ := trodAll_cons hA
  obtain ⟨v1, vs1, d1, ds1, p1, q1, rfl, rfl, rfl, h1, r1⟩ := trodAll_cons r0
  obtain ⟨rfl, rfl, rfl⟩ := trodAll_nil r1
  obtain rfl : args = #[v0, v1] := by cases args; simp_all
  obtain ⟨rfl, rfl⟩ := trodVars_none hV
  have hbulk : Rows.uptoBulkAll ([d0, d1] ++ []) ≤ 1048576 := of_decide_eq_true hk
  simp only [List.append_nil, Rows.uptoBulkAll] at hbulk
  have k0 := h0
  have lt0 : ∀ x ∈ p0, x.block < W.heap.size := by obtain ⟨m, hm⟩ := k0; exact DataW.trod_lt m _ _ _ hm
  obtain ⟨fuel0, hf0⟩ := h0
  obtain ⟨x0, hK0, hw0, hb0, hs0⟩ := (WB.Op.slice (WB.Op.slice (WB.Op.int Try.underlying5) Try.underlying22 (by kernel_rfl) (B := 1) (by kernel_rfl)) Try.underlying36 (by kernel_rfl) (B := 24) (by kernel_rfl)) H enc W fuel0 _ _ hf0
  have hs0 := hs0 (by rw [List.all_eq_true] at hsz ⊢; exact fun m hm => hsz m (DataW.weights_mem_each (j := 0) (t := 36) (d := d0) rfl rfl m hm))
  obtain ⟨A0, c0, hcs0, hc0, hr0⟩ := hK0
  obtain rfl : v0 = .slice A0 x0.length c0 := by
    obtain ⟨ya, yl, yc, rfl⟩ := okWide_slice Try.underlying36 (hval 0 36 v0 rfl rfl)
    have hcs' : [_] = [_] := hcs0
    injection hcs' with hcs'
  have k1 := h1
  have lt1 : ∀ x ∈ p1, x.block < W.heap.size := by obtain ⟨m, hm⟩ := k1; exact DataW.trod_lt m _ _ _ hm
  obtain ⟨fuel1, hf1⟩ := h1
  obtain ⟨x1, hK1, hw1, hb1, hs1⟩ := (WB.Op.slice (WB.Op.int Try.underlying5) Try.underlying22 (by kernel_rfl) (B := 1) (by kernel_rfl)) H enc W fuel1 _ _ hf1
  have hs1 := hs1 (by rw [List.all_eq_true] at hsz ⊢; exact fun m hm => hsz m (DataW.weights_mem_each (j := 1) (t := 22) (d := d1) rfl rfl m hm))
  obtain ⟨A1, c1, hcs1, hc1, hr1⟩ := hK1
  obtain rfl : v1 = .slice A1 x1.length c1 := by
    obtain ⟨ya, yl, yc, rfl⟩ := okWide_slice Try.underlying22 (hval 1 22 v1 rfl rfl)
    have hcs' : [_] = [_] := hcs1
    injection hcs' with hcs'
  have hbk := Nat.le_trans (Nat.add_le_add hb0 (Nat.add_le_add hb1 (Nat.le_refl 0))) hbulk
  have hP := Pure.FrameBack x0 x1 hw0 hw1 hs0 hs1 hbk
  obtain ⟨k, hP⟩ := hP
  clear hA0 hval0 hsz0 hsz
  refine (waybilllaw03_FrameBack.calls k A0 c0 x0 A1 c1 x1 true W hr0 hc0 hr1 hc1 hP).mono ?_
  rintro e W' ⟨rfl, hd⟩
  have bel : Below W.heap.size W W' := hd
  exact ⟨_, rfl, _, _, _, [], _, [], hW', trodAll_mk1 (shut_bool Try.underlying4 _), (trodAll_cons_mk (Below.trod laidOut (by kernel_rfl) (of_decide_eq_true (by kernel_rfl)) k0 bel lt0) (trodAll_cons_mk (Below.trod laidOut (by kernel_rfl) (of_decide_eq_true (by kernel_rfl)) k1 bel lt1) trodAll_mk0)), rfl, bel.frame _, fun h => by cases h⟩
theorem over : Rows.frameBackUptoRow.holds Try.pinned (Rows.OpenSpec.upto Rows.frameBackSpec) :=
  OpenClaim.holds_of_cond 5 Try.f5 rfl rfl rfl rfl rfl rfl rfl ⟨rfl, rfl, rfl, rfl, rfl⟩ rfl rfl rfl rfl rfl (by kernel_rfl) Try.func5 (by kernel_rfl)
    (of_decide_eq_true (by kernel_rfl)) (by unfold Func.isWrapper; first | (rw [if_pos (by decide +kernel)]; kernel_rfl) | (rw [if_neg (by decide +kernel)]; exact ⟨rfl, rfl⟩))
    (fun os started H enc _ F => lifted os started H enc F)
end Go.Proofs.Ytmbaooocjoaehaa.frameBackUpto
namespace Go.Proofs.Ytmbaooocjoaehaa
/-- The row. -/
theorem frameBackUpto_holds : Rows.FrameBackUptoSaid := frameBackUpto.over
#print axioms frameBackUpto_holds
end Go.Proofs.Ytmbaooocjoaehaa
end
