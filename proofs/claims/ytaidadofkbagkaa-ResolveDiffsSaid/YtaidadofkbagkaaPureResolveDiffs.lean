/- ResolveDiffs: what came, went and changed from one to another one are, the other way, what went, came and changed; to itself nothing. No program here. -/
import Derived.Test.YtaidadofkbagkaaQBase
import Derived.Test.YtaidadofkbagkaaPResolve
import Derived.Test.YtaidadofkbagkaaPResolveSorted
import Derived.Test.YtaidadofkbagkaaGx22
set_option linter.unusedVariables false
set_option linter.unusedSimpArgs false
namespace Go.Proofs.Ytaidadofkbagkaa.Pure
open WB Go Go.RowKit Go.Proofs.Ytaidadofkbagkaa.G Go.Proofs.Ytaidadofkbagkaa.V Go.Proofs.YtaidadofkbagkaaW.PrintWords Go.Proofs.YtaidadofkbagkaaW.PrintLast Go.Proofs.YtaidadofkbagkaaW.PrintMore
theorem checks_two (a b : S24) : checksS [a, b] = 0 ↔ checkS a.f0 a.f1 = 0 ∧ checkS b.f0 b.f1 = 0 := by
  unfold checksS
  by_cases h : checkS a.f0 a.f1 = 0
  · rw [if_pos h]
    unfold checksS
    by_cases h2 : checkS b.f0 b.f1 = 0
    · rw [if_pos h2]; simp [checksS, h, h2]
    · rw [if_neg h2]; simp [h2]
  · rw [if_neg h]; simp [h]
theorem diff_f (va : Int) (la : List S36) (vb : Int) (lb : List S36) : resolve_Diff.f va la vb lb = some (diffS va la vb lb) := rfl
theorem diffs_law (va : Int) (la : List S36) (vb : Int) (lb : List S36) : waybilllaw21_ResolveDiffs.f 70 va la vb lb = some true := by
  unfold waybilllaw21_ResolveDiffs.f
  rw [alive_f, Option.bind_some, if_pos rfl, diff_f, Option.bind_some, diff_f, Option.bind_some, num_f, Option.bind_some]
  by_cases h : checksS [⟨va, la⟩, ⟨vb, lb⟩] = 0
  · obtain ⟨ha, hb⟩ : checkS va la = 0 ∧ checkS vb lb = 0 := (checks_two _ _).1 h
    have e1 : diffS va la vb lb = (moreD la lb, moreD lb la, otherD la lb, 0) := by unfold diffS; rw [if_neg (by rw [h]; simp)]
    have e2 : diffS vb lb va la = (moreD lb la, moreD la lb, otherD lb la, 0) := by unfold diffS; rw [if_neg (by rw [(checks_two _ _).2 ⟨hb, ha⟩]; simp)]
    have e3 : diffS va la va la = (moreD la la, moreD la la, otherD la la, 0) := by unfold diffS; rw [if_neg (by rw [(checks_two _ _).2 ⟨ha, ha⟩]; simp)]
    obtain ⟨a1, a2, a3⟩ := checkS_ok ha
    obtain ⟨b1, b2, b3⟩ := checkS_ok hb
    have l1 := moreD_len la lb
    have l2 := moreD_len lb la
    rw [e1, e2, diff_f, e3]
    dsimp only
    rw [if_pos rfl, Option.bind_some, num_f, Option.bind_some]
    dsimp only
    rw [Option.bind_some, if_pos (by unfold wrap64; rfl), ints_f _ (by omega) _ (by omega), Option.bind_some, if_pos rfl, ints_f _ (by omega) _ (by omega), Option.bind_some, if_pos rfl, other_swap a3 b3, ints_f _ (by omega) _ (by omega), Option.bind_some, if_pos rfl, more_self, other_self a3]
    unfold wrap64
    rfl
  · have h' : ¬ checksS [⟨vb, lb⟩, ⟨va, la⟩] = 0 := fun hh => h ((checks_two _ _).2 ((checks_two _ _).1 hh).symm)
    have e1 : diffS va la vb lb = ([], [], [], checksS [⟨va, la⟩, ⟨vb, lb⟩]) := by unfold diffS; rw [if_pos h]
    have e2 : diffS vb lb va la = ([], [], [], checksS [⟨vb, lb⟩, ⟨va, la⟩]) := by unfold diffS; rw [if_pos h']
    rw [e1, e2]
    dsimp only
    rw [if_neg h, num_f, Option.bind_some, if_neg h']
    unfold wrap64
    rfl
theorem ResolveDiffs (x0 x1 : S24) {p0 p1 p2 p3 : Prop} (_ : p0) (_ : p1) (_ : p2) (_ : p3) : ∃ k, waybilllaw21_ResolveDiffs.f k x0.f0 x0.f1 x1.f0 x1.f1 = some true := ⟨70, diffs_law _ _ _ _⟩
end Go.Proofs.Ytaidadofkbagkaa.Pure
