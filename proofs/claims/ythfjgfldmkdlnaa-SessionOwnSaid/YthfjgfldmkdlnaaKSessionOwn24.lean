/- The law SessionOwn: for every input it returns true; each argument reads behind the call as it read before. -/
import Derived.Test.YthfjgfldmkdlnaaKSessionOwn1
import Derived.Test.YthfjgfldmkdlnaaKSessionOwn23
import Derived.Test.YthfjgfldmkdlnaaRows
import Derived.WalkKit
import Derived.ProofKit
import Derived.OpenShut
import Derived.ShutString
import Derived.ChangeOld
import Derived.Below
import Derived.SizedLaws
set_option linter.unusedVariables false
set_option linter.unusedSimpArgs false
set_option linter.unusedSectionVars false
section
namespace Go.Proofs.Ythfjgfldmkdlnaa.sessionOwn
open Go.ChangeShapes Go.WideShapes Go.ChangeAt Go.RowKit Go.Proofs.Ythfjgfldmkdlnaa.G Go.Proofs.YthfjgfldmkdlnaaW.PrintWords
set_option linter.unusedVariables false
set_option linter.defProp false
theorem own : ownKnob Try.prog.godebug = none := by kernel_rfl
theorem laidOut : laidOutB Try.prog = true := by kernel_rfl
def op51 := WB.Op.struct (P := Try.prog) (fun x : S51 => (x.f0, x.f1, x.f2)) (fun b => (⟨b.1, b.2.1, b.2.2⟩ : S51)) (fun _ => rfl) Try.underlying51 (by kernel_rfl) (WB.OpF.cons (WB.Op.int Try.underlying3) rfl (by kernel_rfl) (WB.OpF.cons (WB.Op.int Try.underlying3) rfl (by kernel_rfl) (WB.OpF.one (off := _) (WB.Op.slice (WB.Op.int Try.underlying5) Try.underlying49 (by kernel_rfl) (B := 1) (by kernel_rfl)) rfl (by kernel_rfl))))
def op36 := WB.Op.struct (P := Try.prog) (fun x : S36 => (x.f0, x.f1)) (fun b => (⟨b.1, b.2⟩ : S36)) (fun _ => rfl) Try.underlying36 (by kernel_rfl) (WB.OpF.cons (WB.Op.int Try.underlying3) rfl (by kernel_rfl) (WB.OpF.one (off := _) (WB.Op.slice op51 Try.underlying34 (by kernel_rfl) (B := 40) (by kernel_rfl)) rfl (by kernel_rfl)))
def op38 := WB.Op.struct (P := Try.prog) (fun x : S38 => (x.f0, x.f1, x.f2, x.f3)) (fun b => (⟨b.1, b.2.1, b.2.2.1, b.2.2.2⟩ : S38)) (fun _ => rfl) Try.underlying38 (by kernel_rfl) (WB.OpF.cons (WB.Op.int Try.underlying3) rfl (by kernel_rfl) (WB.OpF.cons (WB.Op.int Try.underlying3) rfl (by kernel_rfl) (WB.OpF.cons (WB.Op.int Try.underlying3) rfl (by kernel_rfl) (WB.OpF.one (off := _) op36 rfl (by kernel_rfl)))))
def op24 := WB.Op.struct (P := Try.prog) (fun x : S24 => (x.f0, x.f1, x.f2)) (fun b => (⟨b.1, b.2.1, b.2.2⟩ : S24)) (fun _ => rfl) Try.underlying24 (by kernel_rfl) (WB.OpF.cons (WB.Op.int Try.underlying3) rfl (by kernel_rfl) (WB.OpF.cons (WB.Op.int Try.underlying3) rfl (by kernel_rfl) (WB.OpF.one (off := _) (WB.Op.int Try.underlying3) rfl (by kernel_rfl))))
set_option maxRecDepth 100000 in
set_option maxHeartbeats 1000000 in
theorem lifted (os : Os) (started : os.Started) (H : Type) (enc : TypeId × Value → H) :
    ReturnsInHanded {} Try.checked os 6 .any (Rows.sessionOwnSpec.pre6 enc Try.prog Try.f6 Rows.sessionOwnRow.domain false) (Rows.sessionOwnSpec.post enc Try.prog Try.f6 false true false false) := by
  refine returnsInHanded_of_change_sized (C := Try.checked) own started (by kernel_rfl) Try.func6
    (ChangeSpec.witness6 (enc := enc) (C := Try.checked) false ⟨#[], #[.slice none 0 0, .agg #[.int .i64 0, .int .i64 0, .int .i64 0], .int .i64 0, .int .i64 0, .int .i64 0], []⟩ 12 (by kernel_rfl) (by kernel_rfl) (by kernel_rfl) (by kernel_rfl)) ?_
  intro W base args ds gs before hval0 hW hcnd hsz0 _
  have hsz : (DataW.weightsEach Try.prog (Try.f6.params.toList ++ Rows.sessionOwnSpec.plain.varTypes Try.prog) (ds ++ gs)).all (· ≤ reachBytes) = true := hsz0
  have hval : ∀ (j : Nat) t v, Try.f6.params[j]? = some t → args[j]? = some v → Value.okWide Try.prog W .any base t v := hval0
  have hW' := hW
  obtain ⟨p, q, hA0, hV, rfl, hfz, hnd⟩ := hW
  have hA : DataW.TrodAll enc Try.prog W 0 (fun _ => true) true Try.f6.params.toList args.toList ds p := hA0
  rw [Try.params6] at hA hval hsz
  obtain ⟨v0, vs0, d0, ds0, p0, q0, hargs, rfl, rfl, h0, r0⟩ := trodAll_cons hA
  obtain ⟨v1, vs1, d1, ds1, p1, q1, rfl, rfl, rfl, h1, r1⟩ := trodAll_cons r0
  obtain ⟨v2, vs2, d2, ds2, p2, q2, rfl, rfl, rfl, h2, r2⟩ := trodAll_cons r1
  obtain ⟨v3, vs3, d3, ds3, p3, q3, rfl, rfl, rfl, h3, r3⟩ := trodAll_cons r2
  obtain ⟨v4, vs4, d4, ds4, p4, q4, rfl, rfl, rfl, h4, r4⟩ := trodAll_cons r3
  obtain ⟨rfl, rfl, rfl⟩ := trodAll_nil r4
  obtain rfl : args = #[v0, v1, v2, v3, v4] := by cases args; simp_all
  obtain ⟨rfl, rfl⟩ := trodVars_none hV
  have k0 := h0
  have lt0 : ∀ x ∈ p0, x.block < W.heap.size := by obtain ⟨m, hm⟩ := k0; exact DataW.trod_lt m _ _ _ hm
  obtain ⟨fuel0, hf0⟩ := h0
  obtain ⟨x0, hK0, hw0, hb0, hs0⟩ := (WB.Op.slice op38 Try.underlying22 (by kernel_rfl) (B := 56) (by kernel_rfl)) H enc W fuel0 _ _ hf0
  have hs0 := hs0 (by rw [List.all_eq_true] at hsz ⊢; exact fun m hm => hsz m (DataW.weights_mem_each (j := 0) (t := 22) (d := d0) rfl rfl m hm))
  obtain ⟨A0, c0, hcs0, hc0, hr0⟩ := hK0
  obtain rfl : v0 = .slice A0 x0.length c0 := by
    obtain ⟨ya, yl, yc, rfl⟩ := okWide_slice Try.underlying22 (hval 0 22 v0 rfl rfl)
    have hcs' : [_] = [_] := hcs0
    injection hcs' with hcs'
  have k1 := h1
  have lt1 : ∀ x ∈ p1, x.block < W.heap.size := by obtain ⟨m, hm⟩ := k1; exact DataW.trod_lt m _ _ _ hm
  obtain ⟨fuel1, hf1⟩ := h1
  obtain ⟨x1, hK1, hw1, hb1, hs1⟩ := op24 H enc W fuel1 _ _ hf1
  have hs1 := hs1 (by rw [List.all_eq_true] at hsz ⊢; exact fun m hm => hsz m (DataW.weights_mem_each (j := 1) (t := 24) (d := d1) rfl rfl m hm))
  have hcs1 := k24_open hK1
  obtain rfl : v1 = .agg #[.int .i64 x1.f0, .int .i64 x1.f1, .int .i64 x1.f2] := by
    obtain ⟨ys, rfl, _⟩ := okWide_struct Try.underlying24 (hval 1 24 v1 rfl rfl)
    have hcs' : ys.toList = _ := hcs1
    rw [show ys = ys.toList.toArray by simp, hcs']
  have k2 := h2
  have lt2 : ∀ x ∈ p2, x.block < W.heap.size := by obtain ⟨m, hm⟩ := k2; exact DataW.trod_lt m _ _ _ hm
  obtain ⟨fuel2, hf2⟩ := h2
  obtain ⟨x2, hK2, hw2, hb2, hs2⟩ := (WB.Op.int Try.underlying3) H enc W fuel2 _ _ hf2
  have hs2 := hs2 (by rw [List.all_eq_true] at hsz ⊢; exact fun m hm => hsz m (DataW.weights_mem_each (j := 2) (t := 3) (d := d2) rfl rfl m hm))
  obtain rfl : v2 = .int .i64 x2 := by
    obtain ⟨y, rfl, _⟩ := open_int Try.underlying3 (hval 2 3 v2 rfl rfl) k2
    have hK' : [_] = [_] := hK2
    injection hK' with hK'
  have k3 := h3
  have lt3 : ∀ x ∈ p3, x.block < W.heap.size := by obtain ⟨m, hm⟩ := k3; exact DataW.trod_lt m _ _ _ hm
  obtain ⟨fuel3, hf3⟩ := h3
  obtain ⟨x3, hK3, hw3, hb3, hs3⟩ := (WB.Op.int Try.underlying3) H enc W fuel3 _ _ hf3
  have hs3 := hs3 (by rw [List.all_eq_true] at hsz ⊢; exact fun m hm => hsz m (DataW.weights_mem_each (j := 3) (t := 3) (d := d3) rfl rfl m hm))
  obtain rfl : v3 = .int .i64 x3 := by
    obtain ⟨y, rfl, _⟩ := open_int Try.underlying3 (hval 3 3 v3 rfl rfl) k3
    have hK' : [_] = [_] := hK3
    injection hK' with hK'
  have k4 := h4
  have lt4 : ∀ x ∈ p4, x.block < W.heap.size := by obtain ⟨m, hm⟩ := k4; exact DataW.trod_lt m _ _ _ hm
  obtain ⟨fuel4, hf4⟩ := h4
  obtain ⟨x4, hK4, hw4, hb4, hs4⟩ := (WB.Op.int Try.underlying3) H enc W fuel4 _ _ hf4
  have hs4 := hs4 (by rw [List.all_eq_true] at hsz ⊢; exact fun m hm => hsz m (DataW.weights_mem_each (j := 4) (t := 3) (d := d4) rfl rfl m hm))
  obtain rfl : v4 = .int .i64 x4 := by
    obtain ⟨y, rfl, _⟩ := open_int Try.underlying3 (hval 4 3 v4 rfl rfl) k4
    have hK' : [_] = [_] := hK4
    injection hK' with hK'
  have hP := Pure.SessionOwn x0 x1 x2 x3 x4 hw0 hw1 hw2 hw3 hw4 hs0 hs1 hs2 hs3 hs4
  have hP := hP
  clear hA0 hval0 hsz0 hsz
  refine (waybilllaw23_SessionOwn.calls A0 c0 x0 x1.f0 x1.f1 x1.f2 x2 x3 x4 true W hr0 hc0 hP).mono ?_
  rintro e W' ⟨rfl, hd⟩
  have bel : Below W.heap.size W W' := hd
  exact ⟨_, rfl, _, _, _, [], _, [], hW', trodAll_mk1 (shut_bool Try.underlying4 _), (trodAll_cons_mk (Below.trod laidOut (by kernel_rfl) (of_decide_eq_true (by kernel_rfl)) k0 bel lt0) (trodAll_cons_mk (Below.trod laidOut (by kernel_rfl) (of_decide_eq_true (by kernel_rfl)) k1 bel lt1) (trodAll_cons_mk (Below.trod laidOut (by kernel_rfl) (of_decide_eq_true (by kernel_rfl)) k2 bel lt2) (trodAll_cons_mk (Below.trod laidOut (by kernel_rfl) (of_decide_eq_true (by kernel_rfl)) k3 bel lt3) (trodAll_cons_mk (Below.trod laidOut (by kernel_rfl) (of_decide_eq_true (by kernel_rfl)) k4 bel lt4) trodAll_mk0))))), rfl, bel.frame _, fun h => by cases h⟩
theorem over : Rows.sessionOwnRow.holds Try.pinned (OpenSpec.ofChange Rows.sessionOwnSpec) :=
  OpenClaim.holds_of_wide 6 Try.f6 rfl rfl rfl rfl rfl rfl rfl ⟨rfl, rfl, rfl, rfl, rfl⟩ rfl rfl rfl rfl rfl (by kernel_rfl) Try.func6 (by kernel_rfl)
    (of_decide_eq_true (by kernel_rfl)) (by unfold Func.isWrapper; first | (rw [if_pos (by decide +kernel)]; kernel_rfl) | (rw [if_neg (by decide +kernel)]; exact ⟨rfl, rfl⟩))
    (fun os started H enc _ => lifted os started H enc)
end Go.Proofs.Ythfjgfldmkdlnaa.sessionOwn
namespace Go.Proofs.Ythfjgfldmkdlnaa
/-- The row. -/
theorem sessionOwn_holds : Rows.SessionOwnSaid := sessionOwn.over
#print axioms sessionOwn_holds
end Go.Proofs.Ythfjgfldmkdlnaa
end
