/- Plain words on windows: what a reply more makes of one. No program here. -/
import Derived.Test.YtkdkjnjiianogaaQBase
import Derived.Test.YtkdkjnjiianogaaPWindow
import Derived.Test.YtkdkjnjiianogaaPForget
import Derived.Test.YtkdkjnjiianogaaGx15
import Derived.Test.YtkdkjnjiianogaaGx18
set_option linter.unusedVariables false
set_option linter.unusedSimpArgs false
namespace Go.Proofs.Ytkdkjnjiianogaa.V
open WB Go Go.RowKit Go.Proofs.Ytkdkjnjiianogaa.G Go.Proofs.YtkdkjnjiianogaaW.PrintWords Go.Proofs.YtkdkjnjiianogaaW.PrintLast Go.Proofs.YtkdkjnjiianogaaW.PrintMore
theorem put_f (m : Int) (l : List S32) (s : Int) (ds : List S32) : window_Put.f m l s ds = some (putsW m l s ds) := rfl
theorem puts_bad {m s : Int} {l : List S32} (h : checkW m l s ≠ 0) (ds : List S32) : putsW m l s ds = (0, [], checkW m l s) := by unfold putsW; rw [if_pos h]
theorem puts_one {m s : Int} {l : List S32} (h : checkW m l s = 0) (d : S32) : putsW m l s [d] = if (putW m s l d).1 = 0 then (m, (putW m s l d).2, 0) else (0, [], (putW m s l d).1) := by
  unfold putsW
  rw [if_neg (by rw [h]; simp)]
  unfold G.putAll
  by_cases hp : (putW m s l d).1 = 0
  · rw [if_pos hp, if_pos hp]
    rfl
  · rw [if_neg hp, if_neg hp, if_neg hp]
/-- What is there behind one more. -/
theorem mem_put (l : List S32) (d e : S32) (n : Nat) : e ∈ l.take n ++ d :: l.drop n ↔ e = d ∨ e ∈ l := by
  rw [List.mem_append, List.mem_cons]
  conv => rhs; rw [← List.take_append_drop n l, List.mem_append]
  constructor
  · rintro (h | h | h)
    · exact Or.inr (Or.inl h)
    · exact Or.inl h
    · exact Or.inr (Or.inr h)
  · rintro (h | h | h)
    · exact Or.inr (Or.inl h)
    · exact Or.inl h
    · exact Or.inr (Or.inr h)
/-- Others are seen as they were. -/
theorem see_put {m s : Int} {l : List S32} (hm : May m s l) (d : S32) (n : Nat) (hm2 : May m s (l.take n ++ d :: l.drop n)) (q : Int) (hq : ¬ q = d.f0) :
    seeW m (l.take n ++ d :: l.drop n) s q = seeW m l s q ∧ whatD m s (l.take n ++ d :: l.drop n) q = whatD m s l q := by
  have hw : whatD m s (l.take n ++ d :: l.drop n) q = whatD m s l q := by
    unfold whatD
    have : ((l.take n ++ d :: l.drop n).any fun e => e.f0 == q) = (l.any fun e => e.f0 == q) := by
      rw [Bool.eq_iff_iff, List.any_eq_true, List.any_eq_true]
      constructor
      · rintro ⟨e, he, hs⟩
        rcases (mem_put l d e n).1 he with rfl | he
        · simp at hs; omega
        · exact ⟨e, he, hs⟩
      · rintro ⟨e, he, hs⟩
        exact ⟨e, (mem_put l d e n).2 (Or.inr he), hs⟩
    rw [this]
  refine ⟨?_, hw⟩
  by_cases h1 : whatD m s l q = 1
  · obtain ⟨e, he, rfl⟩ := what_one hm q h1
    rw [(see_done hm e he).1, (see_done hm2 e ((mem_put l d e n).2 (Or.inr he))).1]
  · rw [see_other hm q h1, see_other hm2 q (by rw [hw]; exact h1), hw]
end Go.Proofs.Ytkdkjnjiianogaa.V
