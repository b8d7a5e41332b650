/- ResolveOwn: what counts shares nothing with what was handed in. No program here. -/
import Derived.Test.YtaidadofkbagkaaQBase
import Derived.Test.YtaidadofkbagkaaPResolve
import Derived.Test.YtaidadofkbagkaaGx18
set_option linter.unusedVariables false
set_option linter.unusedSimpArgs false
namespace Go.Proofs.Ytaidadofkbagkaa.Pure
open WB Go Go.RowKit Go.Proofs.Ytaidadofkbagkaa.G Go.Proofs.Ytaidadofkbagkaa.V Go.Proofs.YtaidadofkbagkaaW.PrintWords Go.Proofs.YtaidadofkbagkaaW.PrintLast Go.Proofs.YtaidadofkbagkaaW.PrintMore
theorem own_l1 (e v : Int) (l : List S36) (av : Int) (al : List S36) (x : Int) (xs : List S36) (he : applyS v l [⟨av, al⟩] = (x, xs, 0, e) ∨ applyS v l [⟨av, al⟩] = (x, xs, 1, e)) (hl : xs.length ≤ 32) : ∀ (d i k : Nat) (z : Int) (zs : List S36), i + d = zs.length → d + 200 ≤ k → zs.length < 4611686018427387904 → waybilllaw21_ResolveOwn.l1 k e (i : Int) v l av al z zs x xs = some true
  | d, i, 0, _, _, _, h, _ => by omega
  | 0, i, k + 1, z, zs, h, hk, _ => by
    have hr := ref_apply v l [⟨av, al⟩] (by simp) k (by simp only [List.length_cons, List.length_nil]; omega)
    rw [waybilllaw21_ResolveOwn.l1, if_neg (by omega), hr, Option.bind_some]
    rcases he with he | he
    · rw [he]
      dsimp only
      rw [same_f x xs (by omega) k (by omega), Option.bind_some, if_pos rfl, num_f, Option.bind_some]
      simp
    · rw [he]
      dsimp only
      rw [same_f x xs (by omega) k (by omega), Option.bind_some, if_pos rfl, num_f, Option.bind_some]
      simp
  | d + 1, i, k + 1, z, zs, h, hk, hz => by
    rw [waybilllaw21_ResolveOwn.l1, if_pos (by omega), if_pos (by omega), w1 i (by omega)]
    exact own_l1 e v l av al x xs he hl d (i + 1) k z _ (by rw [List.length_set]; omega) (by omega) (by rw [List.length_set]; omega)
theorem own_l0 (e v : Int) (l : List S36) (av : Int) (al : List S36) (x : Int) (xs : List S36) (he : applyS v l [⟨av, al⟩] = (x, xs, 0, e) ∨ applyS v l [⟨av, al⟩] = (x, xs, 1, e)) (hl : xs.length ≤ 32) (y : Int) (ys : List S36) (hy : ys.length < 4611686018427387904) : ∀ (d i k : Nat) (z : Int) (zs : List S36), i + d = zs.length → d + ys.length + 300 ≤ k → zs.length < 4611686018427387904 → waybilllaw21_ResolveOwn.l0 k e (i : Int) v l av al z zs y ys x xs = some true
  | d, i, 0, _, _, _, h, _ => by omega
  | 0, i, k + 1, z, zs, h, hk, _ => by
    rw [waybilllaw21_ResolveOwn.l0, if_neg (by omega)]
    exact own_l1 e v l av al x xs he hl ys.length 0 k y ys (by omega) (by omega) hy
  | d + 1, i, k + 1, z, zs, h, hk, hz => by
    rw [waybilllaw21_ResolveOwn.l0, if_pos (by omega), if_pos (by omega), w1 i (by omega)]
    exact own_l0 e v l av al x xs he hl y ys hy d (i + 1) k z _ (by rw [List.length_set]; omega) (by omega) (by rw [List.length_set]; omega)
theorem own_law (v : Int) (l : List S36) (av : Int) (al : List S36) (h0 : l.length < 8796093022208) (h1 : al.length < 8796093022208) : waybilllaw21_ResolveOwn.f (l.length + al.length + 400) v l av al = some true := by
  unfold waybilllaw21_ResolveOwn.f
  rw [alive_f, Option.bind_some, if_pos rfl, own_f v l h0, Option.bind_some, own_f av al h1, Option.bind_some]
  dsimp only
  rw [apply_f, Option.bind_some]
  by_cases h : bothS v l [⟨av, al⟩] = 0
  · obtain ⟨c0, c1⟩ := bothS_zero h
    have hc1 := checksS_mem _ c1 ⟨av, al⟩ (by simp)
    have l1 := checkS_len _ _ c0
    have l2 := checkS_len _ _ hc1
    have e : applyS v l [⟨av, al⟩] = ((takesS v l [⟨av, al⟩]).1.1, (takesS v l [⟨av, al⟩]).1.2, (takesS v l [⟨av, al⟩]).2, 0) := by unfold applyS; rw [if_pos h]
    have ht : takesS v l [⟨av, al⟩] = takeS ((v, l), 0) ⟨av, al⟩ := rfl
    by_cases hv : v < av
    · have e2 : takeS ((v, l), 0) ⟨av, al⟩ = ((av, al), 1) := by unfold takeS; rw [if_pos hv]; rfl
      rw [ht, e2] at e
      rw [e]
      exact own_l0 0 v l av al av al (.inr e) l2 av al (by omega) l.length 0 _ v l (by omega) (by omega) (by omega)
    · have e2 : takeS ((v, l), 0) ⟨av, al⟩ = ((v, l), 0) := by unfold takeS; rw [if_neg hv]
      rw [ht, e2] at e
      rw [e]
      exact own_l0 0 v l av al v l (.inl e) l1 av al (by omega) l.length 0 _ v l (by omega) (by omega) (by omega)
  · have e : applyS v l [⟨av, al⟩] = (0, [], 0, bothS v l [⟨av, al⟩]) := by unfold applyS; rw [if_neg h]
    rw [e]
    exact own_l0 _ v l av al 0 [] (.inl e) (by simp) av al (by omega) l.length 0 _ v l (by omega) (by omega) (by omega)
theorem ResolveOwn (x0 x1 : S24) {p0 p1 q0 q1 : Prop} (_ : p0) (_ : p1) (hs0 : True ∧ (x0.f1.length * 16 ≤ reachBytes ∧ q0)) (hs1 : True ∧ (x1.f1.length * 16 ≤ reachBytes ∧ q1)) : ∃ k, waybilllaw21_ResolveOwn.f k x0.f0 x0.f1 x1.f0 x1.f1 = some true :=
  ⟨_, own_law _ _ _ _ (by have := hs0.2.1; simp only [reachBytes] at this; omega) (by have := hs1.2.1; simp only [reachBytes] at this; omega)⟩
end Go.Proofs.Ytaidadofkbagkaa.Pure
