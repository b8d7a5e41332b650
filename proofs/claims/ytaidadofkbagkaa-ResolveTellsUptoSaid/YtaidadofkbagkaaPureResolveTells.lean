/- ResolveTells: whether any snapshot may be, what counts of several, IDs, what changed, some of the backends, and their weight, are as the page says; they stay. No program here. -/
import Derived.Test.YtaidadofkbagkaaQBase
import Derived.Test.YtaidadofkbagkaaQOpen
import Derived.Test.YtaidadofkbagkaaPResolve
import Derived.Test.YtaidadofkbagkaaPResolveSorted
import Derived.Test.YtaidadofkbagkaaPResolveRef
import Derived.Test.YtaidadofkbagkaaGx17
set_option linter.unusedVariables false
set_option linter.unusedSimpArgs false
namespace Go.Proofs.Ytaidadofkbagkaa.Pure
open WB Go Go.RowKit Go.Proofs.Ytaidadofkbagkaa.G Go.Proofs.Ytaidadofkbagkaa.V Go.Proofs.YtaidadofkbagkaaW.PrintWords Go.Proofs.YtaidadofkbagkaaW.PrintLast Go.Proofs.YtaidadofkbagkaaW.PrintMore
theorem apply_len (v : Int) (l : List S36) (ss : List S24) : (applyS v l ss).2.1.length ≤ 32 := by
  unfold applyS
  split
  · rename_i h
    obtain ⟨a, b⟩ := bothS_zero h
    exact takes_len ss ((v, l), 0) 32 (fun s hs => checkS_len _ _ (checksS_mem ss b s hs)) (checkS_len v l a)
  · simp
theorem ids_len (v : Int) (l : List S36) : (idsS v l).1.length ≤ 32 := by
  unfold idsS
  split
  · rename_i h
    simpa using checkS_len v l h
  · simp
theorem diff_len (va : Int) (la : List S36) (vb : Int) (lb : List S36) : (diffS va la vb lb).1.length ≤ 32 ∧ (diffS va la vb lb).2.1.length ≤ 32 ∧ (diffS va la vb lb).2.2.1.length ≤ 32 := by
  unfold diffS
  split
  · simp
  · rename_i h
    have h' : checksS [⟨va, la⟩, ⟨vb, lb⟩] = 0 := Classical.byContradiction h
    have a := checkS_len _ _ (checksS_mem _ h' ⟨va, la⟩ (by simp))
    have b := checkS_len _ _ (checksS_mem _ h' ⟨vb, lb⟩ (by simp))
    have l1 := moreD_len la lb
    have l2 := moreD_len lb la
    dsimp only at a b ⊢
    omega
theorem pick_len (v : Int) (l : List S36) (ids : List Int) : (pickS v l ids).1.length ≤ ids.length := by
  unfold pickS
  split
  · simp
  · split
    · simp
    · split
      · simp
      · simp
theorem tells_law (v : Int) (l : List S36) (b c : S24) (ids : List Int) (h0 : l.length < 8796093022208) (h1 : ids.length ≤ 1048576) (hw : ∀ x ∈ ids, (Lit.int .i64 x).wf = true) : waybilllaw21_ResolveTells.f (l.length + 2 * ids.length + 400) v l b.f0 b.f1 c.f0 c.f1 ids = some true := by
  obtain ⟨k, hk⟩ : ∃ k, k = l.length + 2 * ids.length + 399 := ⟨_, rfl⟩
  rw [show l.length + 2 * ids.length + 400 = k + 1 by omega]
  have la := apply_len v l [b, c]
  have li := ids_len v l
  obtain ⟨ld1, ld2, ld3⟩ := diff_len v l b.f0 b.f1
  have lp := pick_len v l ids
  unfold waybilllaw21_ResolveTells.f
  rw [own_f v l h0, Option.bind_some]
  dsimp only
  rw [apply_f, Option.bind_some, ref_apply v l _ (by simp) (k + 1) (by simp only [List.length_cons, List.length_nil]; omega), Option.bind_some, ids_f v l _ (by omega), Option.bind_some, rids_f v l _ (by omega), Option.bind_some, diff_f, Option.bind_some, rdiff_f v l _ _ _ (by omega), Option.bind_some, pick_f v l ids (by omega) hw, Option.bind_some, rpick_f v l ids (by omega) _ (by omega), Option.bind_some, weight_f v l _ (by omega), Option.bind_some, rweight_f v l _ (by omega), Option.bind_some]
  obtain ⟨A, hA⟩ : ∃ A, A = applyS v l [b, c] := ⟨_, rfl⟩
  obtain ⟨I, hI⟩ : ∃ I, I = idsS v l := ⟨_, rfl⟩
  obtain ⟨D, hD⟩ : ∃ D, D = diffS v l b.f0 b.f1 := ⟨_, rfl⟩
  obtain ⟨K, hK⟩ : ∃ K, K = pickS v l ids := ⟨_, rfl⟩
  obtain ⟨W, hW⟩ : ∃ W, W = weightS v l := ⟨_, rfl⟩
  have hA' : applyS v l [⟨b.f0, b.f1⟩, ⟨c.f0, c.f1⟩] = A := by rw [hA]
  rw [hA', ← hI, ← hD, ← hK, ← hW]
  rw [← hA] at la
  rw [← hI] at li
  rw [← hD] at ld1 ld2 ld3
  rw [← hK] at lp
  rw [same_f _ _ (by omega) _ (by omega), Option.bind_some, if_pos rfl, if_pos rfl, num_f, Option.bind_some, if_pos rfl, ints_f _ (by omega) _ (by omega), Option.bind_some, if_pos rfl, num_f, Option.bind_some, if_pos rfl, ints_f _ (by omega) _ (by omega), Option.bind_some, if_pos rfl, ints_f _ (by omega) _ (by omega), Option.bind_some, if_pos rfl, ints_f _ (by omega) _ (by omega), Option.bind_some, if_pos rfl, num_f, Option.bind_some]
  rw [waybilllaw21_ResolveTells.j0, if_neg (by simp), backs_f _ (by omega) _ (by omega), Option.bind_some, if_pos rfl, num_f, Option.bind_some, if_pos rfl, if_pos rfl, num_f, Option.bind_some, if_pos rfl, checkS_f, Option.bind_some, num_f, Option.bind_some, check21_f v l k (by omega), Option.bind_some, if_pos rfl, same_f _ _ (by omega) _ (by omega), Option.bind_some, if_pos rfl, alive_f]
  rfl
theorem ResolveTells (x0 x1 x2 : S24) (x3 : List Int) {p0 p1 p2 q0 q1 q2 q3 : Prop} {b0 b1 b2 : Nat} (_ : p0) (_ : p1) (_ : p2) (hw : ∀ x ∈ x3, (Lit.int .i64 x).wf = true) (hs0 : True ∧ (x0.f1.length * 16 ≤ reachBytes ∧ q0)) (_ : q1) (_ : q2) (_ : q3) (hb : b0 + (b1 + (b2 + ((lsum (fun _ => 1) x3 + 1) + 0))) ≤ 1048576) : ∃ k, waybilllaw21_ResolveTells.f k x0.f0 x0.f1 x1.f0 x1.f1 x2.f0 x2.f1 x3 = some true := by
  rw [lsum_one] at hb
  exact ⟨_, tells_law _ _ x1 x2 x3 (by have := hs0.2.1; simp only [reachBytes] at this; omega) (by omega) hw⟩
end Go.Proofs.Ytaidadofkbagkaa.Pure
