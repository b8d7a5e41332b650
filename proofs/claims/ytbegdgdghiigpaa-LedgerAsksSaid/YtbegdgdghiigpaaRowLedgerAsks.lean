/- The law LedgerAsks: for every input it returns true; each argument reads behind the call as it read before. -/
import Derived.Test.YtbegdgdghiigpaaRows
import Derived.Test.YtbegdgdghiigpaaGx35
import Derived.Test.YtbegdgdghiigpaaQOpen
import Derived.Test.YtbegdgdghiigpaaPureLedgerAsks
import Derived.WalkKit
import Derived.ProofKit
import Derived.OpenShut
import Derived.ShutString
import Derived.ChangeOld
import Derived.Below
import Derived.SizedLaws
namespace Go.Proofs.Ytbegdgdghiigpaa.ledgerAsks
open Go.ChangeShapes Go.WideShapes Go.ChangeAt Go.RowKit Go.Proofs.Ytbegdgdghiigpaa.G Go.Proofs.YtbegdgdghiigpaaW.PrintWords
set_option linter.unusedVariables false
set_option linter.defProp false
theorem own : ownKnob Try.prog.godebug = none := by kernel_rfl
theorem laidOut : laidOutB Try.prog = true := by kernel_rfl
def op35 := WB.Op.struct (P := Try.prog) (fun x : S35 => (x.f0, x.f1, x.f2, x.f3)) (fun b => (⟨b.1, b.2.1, b.2.2.1, b.2.2.2⟩ : S35)) (fun _ => rfl) Try.underlying35 (by kernel_rfl) (WB.OpF.cons (WB.Op.int Try.underlying3) rfl (by kernel_rfl) (WB.OpF.cons (WB.Op.int Try.underlying3) rfl (by kernel_rfl) (WB.OpF.cons (WB.Op.int Try.underlying3) rfl (by kernel_rfl) (WB.OpF.one (off := _) (WB.Op.int Try.underlying3) rfl (by kernel_rfl)))))
set_option maxRecDepth 100000 in
set_option maxHeartbeats 1000000 in
theorem lifted (os : Os) (started : os.Started) (H : Type) (enc : TypeId × Value → H) :
    ReturnsInHanded {} Try.checked os 6 .any (Rows.ledgerAsksSpec.pre6 enc Try.prog Try.f6 Rows.ledgerAsksRow.domain false) (Rows.ledgerAsksSpec.post enc Try.prog Try.f6 false true false false) := by
  refine returnsInHanded_of_change_sized (C := Try.checked) own started (by kernel_rfl) Try.func6
    (ChangeSpec.witness6 (enc := enc) (C := Try.checked) false ⟨#[], #[.slice none 0 0], []⟩ 12 (by kernel_rfl) (by kernel_rfl) (by kernel_rfl) (by kernel_rfl)) ?_
  intro W base args ds gs before hval0 hW hcnd hsz0 _
  have hsz : (DataW.weightsEach Try.prog (Try.f6.params.toList ++ Rows.ledgerAsksSpec.plain.varTypes Try.prog) (ds ++ gs)).all (· ≤ reachBytes) = true := hsz0
  have hval : ∀ (j : Nat) t v, Try.f6.params[j]? = some t → args[j]? = some v → Value.okWide Try.prog W .any base t v := hval0
  have hW' := hW
  obtain ⟨p, q, hA0, hV, rfl, hfz, hnd⟩ := hW
  have hA : DataW.TrodAll enc Try.prog W 0 (fun _ => true) true Try.f6.params.toList args.toList ds p := hA0
  rw [Try.params6] at hA hval hsz
  obtain ⟨v0, vs0, d0, ds0, p0, q0, hargs, rfl, rfl, h0, r0⟩ := trodAll_cons hA
  obtain ⟨rfl, rfl, rfl⟩ := trodAll_nil r0
  obtain rfl : args = #[v0] := by cases args; simp_all
  obtain ⟨rfl, rfl⟩ := trodVars_none hV
  have k0 := h0
  have lt0 : ∀ x ∈ p0, x.block < W.heap.size := by obtain ⟨m, hm⟩ := k0; exact DataW.trod_lt m _ _ _ hm
  obtain ⟨fuel0, hf0⟩ := h0
  obtain ⟨x0, hK0, hw0, hb0, hs0⟩ := (WB.Op.slice op35 Try.underlying26 (by kernel_rfl) (B := 32) (by kernel_rfl)) H enc W fuel0 _ _ hf0
  have hs0 := hs0 (by rw [List.all_eq_true] at hsz ⊢; exact fun m hm => hsz m (DataW.weights_mem_each (j := 0) (t := 26) (d := d0) rfl rfl m hm))
  obtain ⟨A0, c0, hcs0, hc0, hr0⟩ := hK0
  obtain rfl : v0 = .slice A0 x0.length c0 := by
    obtain ⟨ya, yl, yc, rfl⟩ := okWide_slice Try.underlying26 (hval 0 26 v0 rfl rfl)
    have hcs' : [_] = [_] := hcs0
    injection hcs' with hcs'
  have hP := Pure.LedgerAsks x0 hw0 hs0
  obtain ⟨k, hP⟩ := hP
  clear hA0 hval0 hsz0 hsz
  refine (waybilllaw24_LedgerAsks.calls k A0 c0 x0 true W hr0 hc0 hP rfl).mono ?_
  rintro e W' ⟨rfl, hd⟩
  have bel : Below W.heap.size W W' := hd
  exact ⟨_, rfl, _, _, _, [], _, [], hW', trodAll_mk1 (shut_bool Try.underlying4 _), (trodAll_cons_mk (Below.trod laidOut (by kernel_rfl) (of_decide_eq_true (by kernel_rfl)) k0 bel lt0) trodAll_mk0), rfl, bel.frame _, fun h => by cases h⟩
theorem over : Rows.ledgerAsksRow.holds Try.pinned (OpenSpec.ofChange Rows.ledgerAsksSpec) :=
  OpenClaim.holds_of_wide 6 Try.f6 rfl rfl rfl rfl rfl rfl rfl ⟨rfl, rfl, rfl, rfl, rfl⟩ rfl rfl rfl rfl rfl (by kernel_rfl) Try.func6 (by kernel_rfl)
    (of_decide_eq_true (by kernel_rfl)) (by unfold Func.isWrapper; first | (rw [if_pos (by decide +kernel)]; kernel_rfl) | (rw [if_neg (by decide +kernel)]; exact ⟨rfl, rfl⟩))
    (fun os started H enc _ => lifted os started H enc)
end Go.Proofs.Ytbegdgdghiigpaa.ledgerAsks
namespace Go.Proofs.Ytbegdgdghiigpaa
/-- The row. -/
theorem ledgerAsks_holds : Rows.LedgerAsksSaid := ledgerAsks.over
#print axioms ledgerAsks_holds
end Go.Proofs.Ytbegdgdghiigpaa
