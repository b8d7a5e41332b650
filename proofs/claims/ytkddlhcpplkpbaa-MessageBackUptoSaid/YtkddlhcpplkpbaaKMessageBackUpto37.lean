/- The law MessageBack: for every input whose arguments together are of bulk at most 1048576 it returns true; each argument reads behind the call as it read before. -/
import Derived.Test.YtkddlhcpplkpbaaKMessageBackUpto2
import Derived.Test.YtkddlhcpplkpbaaKMessageBackUpto33
import Derived.Test.YtkddlhcpplkpbaaKMessageBackUpto36
import Derived.Test.YtkddlhcpplkpbaaRows
import Derived.WalkKit
import Derived.ProofKit
import Derived.OpenShut
import Derived.ShutString
import Derived.ChangeOld
import Derived.Below
import Derived.SizedLaws
import Derived.JoinedCond
import Derived.Deep.CondSized
set_option linter.unusedVariables false
set_option linter.unusedSimpArgs false
set_option linter.unusedSectionVars false
section
namespace Go.Proofs.Ytkddlhcpplkpbaa.messageBackUpto
open Go.ChangeShapes Go.WideShapes Go.ChangeAt Go.RowKit Go.Proofs.Ytkddlhcpplkpbaa.G Go.Proofs.YtkddlhcpplkpbaaW.PrintWords
set_option linter.unusedVariables false
set_option linter.defProp false
theorem own : ownKnob Try.prog.godebug = none := by kernel_rfl
theorem laidOut : laidOutB Try.prog = true := by kernel_rfl
def op25 := WB.Op.struct (P := Try.prog) (fun x : S25 => (x.f0, x.f1, x.f2, x.f3, x.f4, x.f5, x.f6, x.f7, x.f8, x.f9, x.f10, x.f11)) (fun b => (⟨b.1, b.2.1, b.2.2.1, b.2.2.2.1, b.2.2.2.2.1, b.2.2.2.2.2.1, b.2.2.2.2.2.2.1, b.2.2.2.2.2.2.2.1, b.2.2.2.2.2.2.2.2.1, b.2.2.2.2.2.2.2.2.2.1, b.2.2.2.2.2.2.2.2.2.2.1, b.2.2.2.2.2.2.2.2.2.2.2⟩ : S25)) (fun _ => rfl) Try.underlying25 (by kernel_rfl) (WB.OpF.cons (WB.Op.int Try.underlying3) rfl (by kernel_rfl) (WB.OpF.cons (WB.Op.int Try.underlying3) rfl (by kernel_rfl) (WB.OpF.cons (WB.Op.int Try.underlying3) rfl (by kernel_rfl) (WB.OpF.cons (WB.Op.int Try.underlying3) rfl (by kernel_rfl) (WB.OpF.cons (WB.Op.int Try.underlying3) rfl (by kernel_rfl) (WB.OpF.cons (WB.Op.int Try.underlying3) rfl (by kernel_rfl) (WB.OpF.cons (WB.Op.int Try.underlying3) rfl (by kernel_rfl) (WB.OpF.cons (WB.Op.int Try.underlying3) rfl (by kernel_rfl) (WB.OpF.cons (WB.Op.int Try.underlying3) rfl (by kernel_rfl) (WB.OpF.cons (WB.Op.int Try.underlying3) rfl (by kernel_rfl) (WB.OpF.cons (WB.Op.int Try.underlying3) rfl (by kernel_rfl) (WB.OpF.one (off := _) (WB.Op.slice (WB.Op.int Try.underlying5) Try.underlying22 (by kernel_rfl) (B := 1) (by kernel_rfl)) rfl (by kernel_rfl)))))))))))))
set_option maxRecDepth 100000 in
set_option maxHeartbeats 1000000 in
theorem lifted (os : Os) (started : os.Started) (H : Type) (enc : TypeId × Value → H) (F : Stop.Interp) :
    ReturnsInHanded {} Try.checked os 6 .any ((Rows.OpenSpec.upto Rows.messageBackSpec).pre6 enc Try.prog Try.f6 Rows.messageBackUptoRow.domain false) (((Rows.OpenSpec.upto Rows.messageBackSpec).at F).post enc Try.prog Try.f6 false true false false) := by
  refine returnsInHanded_of_cond_sized (C := Try.checked) (s := Rows.OpenSpec.upto Rows.messageBackSpec) (k := Rows.uptoSmall) rfl own started (by kernel_rfl) Try.func6
    (OpenSpec.witness (enc := enc) (C := Try.checked) (s := Rows.OpenSpec.upto Rows.messageBackSpec) (k := Rows.uptoSmall) rfl false ⟨#[], #[.slice none 0 0], []⟩ 12 (by kernel_rfl) (by kernel_rfl) (by kernel_rfl)
      (x := ([.nil], [], [])) (by kernel_rfl) rfl (by kernel_rfl)) ?_
  intro W base args ds gs before hval0 hW hcnd hk hsz0 _
  have hsz : (DataW.weightsEach Try.prog (Try.f6.params.toList ++ (Rows.OpenSpec.upto Rows.messageBackSpec).bare.plain.varTypes Try.prog) (ds ++ gs)).all (· ≤ reachBytes) = true := hsz0
  have hval : ∀ (j : Nat) t v, Try.f6.params[j]? = some t → args[j]? = some v → Value.okWide Try.prog W .any base t v := hval0
  have hW' := hW
  obtain ⟨p, q, hA0, hV, rfl, hfz, hnd⟩ := hW
  have hA : DataW.TrodAll enc Try.prog W 0 (fun _ => true) true Try.f6.params.toList args.toList ds p := hA0
  rw [Try.params6] at hA hval hsz
  obtain ⟨v0, vs0, d0, ds0, p0, q0, hargs, rfl, rfl, h0, r0⟩ := trodAll_cons hA
  obtain ⟨rfl, rfl, rfl⟩ := trodAll_nil r0
  obtain rfl : args = #[v0] := by cases args; simp_all
  obtain ⟨rfl, rfl⟩ := trodVars_none hV
  have hbulk : Rows.uptoBulkAll ([d0] ++ []) ≤ 1048576 := of_decide_eq_true hk
  simp only [List.append_nil, Rows.uptoBulkAll] at hbulk
  have k0 := h0
  have lt0 : ∀ x ∈ p0, x.block < W.heap.size := by obtain ⟨m, hm⟩ := k0; exact DataW.trod_lt m _ _ _ hm
  obtain ⟨fuel0, hf0⟩ := h0
  obtain ⟨x0, hK0, hw0, hb0, hs0⟩ := (WB.Op.slice op25 Try.underlying44 (by kernel_rfl) (B := 112) (by kernel_rfl)) H enc W fuel0 _ _ hf0
  have hs0 := hs0 (by rw [List.all_eq_true] at hsz ⊢; exact fun m hm => hsz m (DataW.weights_mem_each (j := 0) (t := 44) (d := d0) rfl rfl m hm))
  obtain ⟨A0, c0, hcs0, hc0, hr0⟩ := hK0
  obtain rfl : v0 = .slice A0 x0.length c0 := by
    obtain ⟨ya, yl, yc, rfl⟩ := okWide_slice Try.underlying44 (hval 0 44 v0 rfl rfl)
    have hcs' : [_] = [_] := hcs0
    injection hcs' with hcs'
  have hbk := Nat.le_trans (Nat.add_le_add hb0 (Nat.le_refl 0)) hbulk
  have hP := Pure.MessageBack x0 hw0 hs0 hbk
  obtain ⟨k, hP⟩ := hP
  clear hA0 hval0 hsz0 hsz
  refine (waybilllaw09_MessageBack.calls k A0 c0 x0 true W hr0 hc0 hP rfl).mono ?_
  rintro e W' ⟨rfl, hd⟩
  have bel : Below W.heap.size W W' := hd
  exact ⟨_, rfl, _, _, _, [], _, [], hW', trodAll_mk1 (shut_bool Try.underlying4 _), (trodAll_cons_mk (Below.trod laidOut (by kernel_rfl) (of_decide_eq_true (by kernel_rfl)) k0 bel lt0) trodAll_mk0), rfl, bel.frame _, fun h => by cases h⟩
theorem over : Rows.messageBackUptoRow.holds Try.pinned (Rows.OpenSpec.upto Rows.messageBackSpec) :=
  OpenClaim.holds_of_cond 6 Try.f6 rfl rfl rfl rfl rfl rfl rfl ⟨rfl, rfl, rfl, rfl, rfl⟩ rfl rfl rfl rfl rfl (by kernel_rfl) Try.func6 (by kernel_rfl)
    (of_decide_eq_true (by kernel_rfl)) (by unfold Func.isWrapper; first | (rw [if_pos (by decide +kernel)]; kernel_rfl) | (rw [if_neg (by decide +kernel)]; exact ⟨rfl, rfl⟩))
    (fun os started H enc _ F => lifted os started H enc F)
end Go.Proofs.Ytkddlhcpplkpbaa.messageBackUpto
namespace Go.Proofs.Ytkddlhcpplkpbaa
/-- The row. -/
theorem messageBackUpto_holds : Rows.MessageBackUptoSaid := messageBackUpto.over
#print axioms messageBackUpto_holds
end Go.Proofs.Ytkddlhcpplkpbaa
end
