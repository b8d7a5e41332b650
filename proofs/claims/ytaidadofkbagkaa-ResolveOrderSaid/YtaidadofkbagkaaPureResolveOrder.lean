/- ResolveOrder: two snapshots of unlike versions make the same count in either order; one that came again counts no more. No program here. -/
import Derived.Test.YtaidadofkbagkaaQBase
import Derived.Test.YtaidadofkbagkaaPResolve
import Derived.Test.YtaidadofkbagkaaGx12
set_option linter.unusedVariables false
set_option linter.unusedSimpArgs false
namespace Go.Proofs.Ytaidadofkbagkaa.Pure
open WB Go Go.RowKit Go.Proofs.Ytaidadofkbagkaa.G Go.Proofs.Ytaidadofkbagkaa.V Go.Proofs.YtaidadofkbagkaaW.PrintWords Go.Proofs.YtaidadofkbagkaaW.PrintLast Go.Proofs.YtaidadofkbagkaaW.PrintMore
theorem checks_two (a b : S24) : checksS [a, b] = 0 ↔ checkS a.f0 a.f1 = 0 ∧ checkS b.f0 b.f1 = 0 := by
  unfold checksS
  by_cases h : checkS a.f0 a.f1 = 0
  · rw [if_pos h]
    unfold checksS
    by_cases h2 : checkS b.f0 b.f1 = 0
    · rw [if_pos h2]; simp [checksS, h, h2]
    · rw [if_neg h2]; simp [h2]
  · rw [if_neg h]; simp [h]
theorem both_two (v : Int) (l : List S36) (a b : S24) : bothS v l [a, b] = 0 ↔ checkS v l = 0 ∧ checkS a.f0 a.f1 = 0 ∧ checkS b.f0 b.f1 = 0 := by
  unfold bothS
  by_cases h : checkS v l = 0
  · rw [if_pos h, checks_two]; simp [h]
  · rw [if_neg h]; simp [h]
theorem takes_two (v : Int) (l : List S36) (a b : S24) : takesS v l [a, b] = takeS (takeS ((v, l), 0) a) b := rfl
/-- What counts of two. -/
theorem two_cases (v : Int) (l : List S36) (a b : S24) : ((takesS v l [a, b]).1 = (v, l) ∧ a.f0 ≤ v ∧ b.f0 ≤ v) ∨ ((takesS v l [a, b]).1 = (a.f0, a.f1) ∧ v < a.f0 ∧ b.f0 ≤ a.f0) ∨ ((takesS v l [a, b]).1 = (b.f0, b.f1) ∧ v < b.f0 ∧ (a.f0 < b.f0)) := by
  rw [takes_two]
  by_cases h1 : v < a.f0
  · have e1 : takeS ((v, l), 0) a = ((a.f0, a.f1), 1) := by unfold takeS; rw [if_pos h1]; rfl
    rw [e1]
    by_cases h2 : a.f0 < b.f0
    · exact .inr (.inr ⟨by unfold takeS; rw [if_pos h2], by omega, h2⟩)
    · exact .inr (.inl ⟨by unfold takeS; rw [if_neg h2], h1, by omega⟩)
  · have e1 : takeS ((v, l), 0) a = ((v, l), 0) := by unfold takeS; rw [if_neg h1]
    rw [e1]
    by_cases h2 : v < b.f0
    · exact .inr (.inr ⟨by unfold takeS; rw [if_pos h2], h2, by omega⟩)
    · exact .inl ⟨by unfold takeS; rw [if_neg h2], by omega, by omega⟩
theorem two_none (v : Int) (l : List S36) (a b : S24) (h1 : a.f0 ≤ v) (h2 : b.f0 ≤ v) : takesS v l [a, b] = ((v, l), 0) := by
  rw [takes_two]
  have e1 : takeS ((v, l), 0) a = ((v, l), 0) := by unfold takeS; rw [if_neg (by dsimp only; omega)]
  rw [e1]
  unfold takeS
  rw [if_neg (by dsimp only; omega)]
theorem apply_ok {v : Int} {l : List S36} {ss : List S24} (h : bothS v l ss = 0) : applyS v l ss = ((takesS v l ss).1.1, (takesS v l ss).1.2, (takesS v l ss).2, 0) := by
  unfold applyS
  rw [if_pos h]
theorem apply_no {v : Int} {l : List S36} {ss : List S24} (h : ¬ bothS v l ss = 0) : applyS v l ss = (0, [], 0, bothS v l ss) := by
  unfold applyS
  rw [if_neg h]
theorem order_law (v : Int) (l : List S36) (a b : S24) : waybilllaw21_ResolveOrder.f 40 v l a.f0 a.f1 b.f0 b.f1 = some true := by
  unfold waybilllaw21_ResolveOrder.f
  rw [alive_f, Option.bind_some, if_pos rfl, apply_f, Option.bind_some, apply_f, Option.bind_some, num_f, Option.bind_some]
  obtain ⟨av, al⟩ := a
  obtain ⟨bv, bl⟩ := b
  dsimp only
  by_cases h : bothS v l [⟨av, al⟩, ⟨bv, bl⟩] = 0
  · have h2 : bothS v l [⟨bv, bl⟩, ⟨av, al⟩] = 0 := by
      rw [both_two] at h ⊢
      exact ⟨h.1, h.2.2, h.2.1⟩
    rw [apply_ok h, apply_ok h2]
    dsimp only
    rw [if_pos rfl, num_f, Option.bind_some]
    rw [waybilllaw21_ResolveOrder.j0, if_neg (by simp), apply_f, Option.bind_some]
    obtain ⟨c0, ca, cb⟩ := (both_two _ _ _ _).1 h
    have hx : checkS (takesS v l [⟨av, al⟩, ⟨bv, bl⟩]).1.1 (takesS v l [⟨av, al⟩, ⟨bv, bl⟩]).1.2 = 0 ∧ av ≤ (takesS v l [⟨av, al⟩, ⟨bv, bl⟩]).1.1 ∧ bv ≤ (takesS v l [⟨av, al⟩, ⟨bv, bl⟩]).1.1 := by
      rcases two_cases v l ⟨av, al⟩ ⟨bv, bl⟩ with ⟨e, p, q⟩ | ⟨e, p, q⟩ | ⟨e, p, q⟩
      · rw [e]; exact ⟨c0, p, q⟩
      · rw [e]; exact ⟨ca, Int.le_refl _, q⟩
      · rw [e]; exact ⟨cb, by show av ≤ bv; dsimp only at q; omega, Int.le_refl _⟩
    have hz : bothS (takesS v l [⟨av, al⟩, ⟨bv, bl⟩]).1.1 (takesS v l [⟨av, al⟩, ⟨bv, bl⟩]).1.2 [⟨av, al⟩, ⟨bv, bl⟩] = 0 := (both_two _ _ _ _).2 ⟨hx.1, ca, cb⟩
    have hlen := checkS_len _ _ hx.1
    rw [apply_ok hz, two_none _ _ _ _ hx.2.1 hx.2.2]
    dsimp only
    rw [num_f, Option.bind_some, if_pos rfl, if_pos rfl, same_f _ _ (by omega) _ (by omega), Option.bind_some, if_pos rfl]
    by_cases hab : av = bv
    · rw [if_pos hab]
    · rw [if_neg hab]
      have he : (takesS v l [⟨bv, bl⟩, ⟨av, al⟩]).1 = (takesS v l [⟨av, al⟩, ⟨bv, bl⟩]).1 := by
        rcases two_cases v l ⟨av, al⟩ ⟨bv, bl⟩ with ⟨e, p, q⟩ | ⟨e, p, q⟩ | ⟨e, p, q⟩ <;> rcases two_cases v l ⟨bv, bl⟩ ⟨av, al⟩ with ⟨e', p', q'⟩ | ⟨e', p', q'⟩ | ⟨e', p', q'⟩ <;> rw [e, e'] <;> dsimp only at p q p' q' ⊢ <;> first | rfl | omega
      rw [he, same_f _ _ (by omega) _ (by omega)]
      rfl
  · have h2 : ¬ bothS v l [⟨bv, bl⟩, ⟨av, al⟩] = 0 := by
      rw [both_two] at h ⊢
      exact fun hh => h ⟨hh.1, hh.2.2, hh.2.1⟩
    rw [apply_no h, apply_no h2]
    dsimp only
    rw [if_neg h]
    rw [waybilllaw21_ResolveOrder.j0, if_pos rfl]
    rfl
theorem ResolveOrder (x0 x1 x2 : S24) {p0 p1 p2 p3 p4 p5 : Prop} (_ : p0) (_ : p1) (_ : p2) (_ : p3) (_ : p4) (_ : p5) : ∃ k, waybilllaw21_ResolveOrder.f k x0.f0 x0.f1 x1.f0 x1.f1 x2.f0 x2.f1 = some true := ⟨40, order_law _ _ _ _⟩
end Go.Proofs.Ytaidadofkbagkaa.Pure
