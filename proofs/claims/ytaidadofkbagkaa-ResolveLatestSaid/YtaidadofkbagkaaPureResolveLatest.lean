/- ResolveLatest: what counts is of the greatest version of all. No program here. -/
import Derived.Test.YtaidadofkbagkaaQBase
import Derived.Test.YtaidadofkbagkaaPResolve
import Derived.Test.YtaidadofkbagkaaGx13
set_option linter.unusedVariables false
set_option linter.unusedSimpArgs false
namespace Go.Proofs.Ytaidadofkbagkaa.Pure
open WB Go Go.RowKit Go.Proofs.Ytaidadofkbagkaa.G Go.Proofs.Ytaidadofkbagkaa.V Go.Proofs.YtaidadofkbagkaaW.PrintWords Go.Proofs.YtaidadofkbagkaaW.PrintLast Go.Proofs.YtaidadofkbagkaaW.PrintMore
theorem takes_most : ∀ (ss : List S24) (o : (Int × List S36) × Int), o.1.1 ≤ (ss.foldl takeS o).1.1 ∧ (∀ s ∈ ss, s.f0 ≤ (ss.foldl takeS o).1.1) ∧ o.2 ≤ (ss.foldl takeS o).2 ∧ (o.2 < (ss.foldl takeS o).2 ↔ o.1.1 < (ss.foldl takeS o).1.1) ∧ (ss.foldl takeS o).2 ≤ o.2 + ss.length
  | [], o => by simp
  | s :: r, o => by
    obtain ⟨h1, h2, h3, h4, h5⟩ := takes_most r (takeS o s)
    rw [List.foldl_cons]
    by_cases hv : o.1.1 < s.f0
    · have ht : takeS o s = ((s.f0, s.f1), o.2 + 1) := by unfold takeS; rw [if_pos hv]
      rw [ht] at h1 h2 h3 h4 h5 ⊢
      dsimp only at h1 h3 h4 h5
      refine ⟨by omega, fun x hx => ?_, by omega, ⟨fun _ => by omega, fun _ => by omega⟩, by simp only [List.length_cons]; omega⟩
      rcases List.mem_cons.1 hx with rfl | hx
      · exact h1
      · exact h2 x hx
    · have ht : takeS o s = o := by unfold takeS; rw [if_neg hv]
      rw [ht] at h1 h2 h3 h4 h5 ⊢
      refine ⟨h1, fun x hx => ?_, h3, h4, by simp only [List.length_cons]; omega⟩
      rcases List.mem_cons.1 hx with rfl | hx
      · omega
      · exact h2 x hx
theorem latest_l (ss : List S24) (hs : ss.length < 4611686018427387904) (n v : Int) (l : List S36) (V : Int) (L : List S36) (h1 : v ≤ V) (h2 : ∀ s ∈ ss, s.f0 ≤ V) (h3 : 0 < n ↔ v < V) (h4 : n ≤ ss.length) :
    ∀ (d i k : Nat), i + d = ss.length → d < k → waybilllaw21_ResolveLatest.l0 k ss n (i : Int) v l V L = some true
  | d, i, 0, _, h => by omega
  | 0, i, k + 1, h, _ => by
    rw [waybilllaw21_ResolveLatest.l0, if_neg (by omega), if_pos (by omega), if_pos (by
      rw [beq_iff_eq, decide_eq_decide]
      exact h3), decide_eq_true h4]
  | d + 1, i, k + 1, h, hk => by
    rw [waybilllaw21_ResolveLatest.l0, if_pos (by omega), if_pos (by omega), rdS ss i (by omega), if_neg (by have := h2 _ (List.getElem_mem (by omega : i < ss.length)); omega), w1 i (by omega)]
    exact latest_l ss hs n v l V L h1 h2 h3 h4 d (i + 1) k (by omega) (by omega)
theorem latest_law (v : Int) (l : List S36) (ss : List S24) (hs : ss.length < 4611686018427387904) : waybilllaw21_ResolveLatest.f (ss.length + 1) v l ss = some true := by
  unfold waybilllaw21_ResolveLatest.f
  rw [alive_f, Option.bind_some, if_pos rfl, apply_f, Option.bind_some, num_f, Option.bind_some]
  by_cases h : bothS v l ss = 0
  · have e : applyS v l ss = ((takesS v l ss).1.1, (takesS v l ss).1.2, (takesS v l ss).2, 0) := by unfold applyS; rw [if_pos h]
    rw [e]
    dsimp only
    rw [if_pos rfl]
    obtain ⟨h1, h2, h3, h4, h5⟩ := takes_most ss ((v, l), 0)
    exact latest_l ss hs _ v l _ _ h1 h2 h4 (by simpa using h5) ss.length 0 _ (by omega) (by omega)
  · have e : applyS v l ss = (0, [], 0, bothS v l ss) := by unfold applyS; rw [if_neg h]
    rw [e]
    dsimp only
    rw [if_neg h, if_pos rfl]
    rfl
theorem ResolveLatest (x0 : S24) (x1 : List S24) {p0 p1 p2 p3 : Prop} (_ : p0) (_ : p1) (_ : p2) (hs : x1.length * 32 ≤ reachBytes ∧ p3) : ∃ k, waybilllaw21_ResolveLatest.f k x0.f0 x0.f1 x1 = some true := ⟨_, latest_law _ _ _ (by have := hs.1; simp only [reachBytes] at this; omega)⟩
end Go.Proofs.Ytaidadofkbagkaa.Pure
