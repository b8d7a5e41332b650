/- WindowForgets: behind a mark what is below it is old, all else that was done is done; a lower mark changes nothing. No program here. -/
import Derived.Test.YtkdkjnjiianogaaQBase
import Derived.Test.YtkdkjnjiianogaaPWindow
import Derived.Test.YtkdkjnjiianogaaPForget
import Derived.Test.YtkdkjnjiianogaaGx16
set_option linter.unusedVariables false
set_option linter.unusedSimpArgs false
namespace Go.Proofs.Ytkdkjnjiianogaa.Pure
open WB Go Go.RowKit Go.Proofs.Ytkdkjnjiianogaa.G Go.Proofs.Ytkdkjnjiianogaa.V Go.Proofs.YtkdkjnjiianogaaW.PrintWords Go.Proofs.YtkdkjnjiianogaaW.PrintLast Go.Proofs.YtkdkjnjiianogaaW.PrintMore
theorem forgets_law (m s M q : Int) (l : List S32) : ∃ k, waybilllaw22_WindowForgets.f k m l s M q = some true := by
  refine ⟨0 + 1, ?_⟩
  unfold waybilllaw22_WindowForgets.f
  rw [alive_f, Option.bind_some, if_pos rfl, forget_f, Option.bind_some, num_f, Option.bind_some]
  by_cases h : checkW m l s = 0
  · have hm := may_of _ _ _ h
    by_cases hM : 1073741824 < M
    · have e : forgetW m l s M = (0, [], 0, 4) := by unfold forgetW; rw [if_neg (by rw [h]; simp), if_pos hM]
      rw [e]
      rfl
    · have e : forgetW m l s M = (max M m, keepD l (max M m), (l.length : Int) - ((keepD l (max M m)).length : Int), 0) := by unfold forgetW; rw [if_neg (by rw [h]; simp), if_neg hM]
      rw [e]
      dsimp only
      have hm2 := hm.m2
      have hk := may_keep hm (M := max M m) (by omega) (by omega)
      have hs1 := see_eq m l s q h
      have hs2 := see_eq (max M m) (keepD l (max M m)) s q (check_of _ _ _ hk)
      rw [if_pos rfl, see_f, Option.bind_some, see_f, Option.bind_some, num_f, Option.bind_some, num_f, Option.bind_some, hs1.2, hs2.2, if_pos (show wrap64 (0 + 0) = 0 by unfold wrap64; omega), check_f, Option.bind_some, check_of _ _ _ hk, num_f, Option.bind_some]
      rw [waybilllaw22_WindowForgets.j0, if_neg (by simp)]
      by_cases hle : M ≤ m
      · rw [if_pos hle]
        have hmx : max M m = m := by omega
        rw [hmx, keep_all hm, if_pos (by omega), if_pos rfl, same22_self]
        rfl
      · rw [if_neg hle]
        have hmx : max M m = M := by omega
        rw [hmx] at hk hs2 ⊢
        rw [hs1.1, hs2.1]
        have hold := what_old M s (keepD l M) q
        rw [if_pos (by
          rw [beq_iff_eq, Bool.eq_iff_iff, beq_iff_eq, decide_eq_true_iff]
          exact hold)]
        by_cases h1 : whatD m s l q = 1
        · rw [if_pos h1]
          by_cases h2 : q < M
          · rw [if_pos h2]
          · rw [if_neg h2]
            obtain ⟨d, hd, rfl⟩ := what_one hm q h1
            have hd' : d ∈ keepD l M := by
              unfold keepD
              rw [List.mem_filter]
              exact ⟨hd, by simpa using h2⟩
            obtain ⟨e1, e2⟩ := see_done hm d hd
            obtain ⟨e3, e4⟩ := see_done hk d hd'
            rw [e1, e3, if_pos e4]
            dsimp only
            rw [same22_self]
            rfl
        · rw [if_neg h1]
  · have e : forgetW m l s M = (0, [], 0, checkW m l s) := by unfold forgetW; rw [if_pos h]
    rw [e]
    dsimp only
    rw [if_neg h, if_pos rfl]
    rfl
theorem WindowForgets (x0 : S24) (x1 x2 x3 : Int) {p0 p1 p2 p3 p4 p5 p6 p7 : Prop} (_ : p0) (_ : p1) (_ : p2) (_ : p3) (_ : p4) (_ : p5) (_ : p6) (_ : p7) : ∃ k, waybilllaw22_WindowForgets.f k x0.f0 x0.f1 x1 x2 x3 = some true := forgets_law x0.f0 x1 x2 x3 x0.f1
end Go.Proofs.Ytkdkjnjiianogaa.Pure
