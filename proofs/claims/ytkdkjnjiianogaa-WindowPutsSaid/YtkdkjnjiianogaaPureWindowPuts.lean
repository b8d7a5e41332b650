/- WindowPuts: a reply that is put is seen, as it was; others stay as they were. No program here. -/
import Derived.Test.YtkdkjnjiianogaaQBase
import Derived.Test.YtkdkjnjiianogaaPWindow
import Derived.Test.YtkdkjnjiianogaaPForget
import Derived.Test.YtkdkjnjiianogaaPPut
import Derived.Test.YtkdkjnjiianogaaGx19
set_option linter.unusedVariables false
set_option linter.unusedSimpArgs false
namespace Go.Proofs.Ytkdkjnjiianogaa.Pure
open WB Go Go.RowKit Go.Proofs.Ytkdkjnjiianogaa.G Go.Proofs.Ytkdkjnjiianogaa.V Go.Proofs.YtkdkjnjiianogaaW.PrintWords Go.Proofs.YtkdkjnjiianogaaW.PrintLast Go.Proofs.YtkdkjnjiianogaaW.PrintMore
theorem puts_law (m s q : Int) (d : S32) (l : List S32) : waybilllaw22_WindowPuts.f m l s d.f0 d.f1 d.f2 q = some true := by
  unfold waybilllaw22_WindowPuts.f
  rw [alive_f, Option.bind_some, if_pos rfl, put_f, Option.bind_some, num_f, Option.bind_some]
  by_cases h : checkW m l s = 0
  · have hm := may_of _ _ _ h
    rw [puts_one h]
    by_cases hp : (putW m s l d).1 = 0
    · obtain ⟨e, hm2⟩ := may_put m s l d hm hp
      have hs1 := see_eq m l s q h
      have hc2 := check_of _ _ _ hm2
      have hs2 := see_eq m (l.take (placeD l d.f0) ++ d :: l.drop (placeD l d.f0)) s q hc2
      have hd := (see_done hm2 d ((mem_put l d d _).2 (Or.inl rfl))).1
      rw [if_pos hp, e]
      dsimp only
      rw [if_pos rfl]
      simp only [see_f, Option.bind_some, num_f, hs1.2, hs2.2, hd, check_f, hc2]
      rw [if_pos (show wrap64 (wrap64 (0 + 0) + 0) = 0 by decide +kernel), if_pos trivial, same22_self, Option.bind_some, if_pos rfl]
      by_cases hq : q = d.f0
      · rw [if_pos hq]
        rfl
      · rw [if_neg hq, (see_put hm d _ hm2 q hq).1, if_pos rfl, same22_self, Option.bind_some, if_pos rfl]
        rfl
    · rw [if_neg hp]
      dsimp only
      rw [if_neg hp, if_pos (show (([] : List S32).length : Int) = 0 from rfl)]
      rfl
  · rw [puts_bad h]
    dsimp only
    rw [if_neg h, if_pos (show (([] : List S32).length : Int) = 0 from rfl)]
    rfl
theorem WindowPuts (x0 : S24) (x1 : Int) (x2 : S32) (x3 : Int) {p0 p1 p2 p3 p4 p5 p6 p7 : Prop} (_ : p0) (_ : p1) (_ : p2) (_ : p3) (_ : p4) (_ : p5) (_ : p6) (_ : p7) : waybilllaw22_WindowPuts.f x0.f0 x0.f1 x1 x2.f0 x2.f1 x2.f2 x3 = some true := puts_law x0.f0 x1 x3 x2 x0.f1
end Go.Proofs.Ytkdkjnjiianogaa.Pure
