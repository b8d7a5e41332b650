/- ResolvePicks: all IDs of a snapshot pick all its backends; their weights are its weight. No program here. -/
import Derived.Test.YtaidadofkbagkaaQBase
import Derived.Test.YtaidadofkbagkaaPResolve
import Derived.Test.YtaidadofkbagkaaPResolveSorted
import Derived.Test.YtaidadofkbagkaaPResolveRef
import Derived.Test.YtaidadofkbagkaaGx15
set_option linter.unusedVariables false
set_option linter.unusedSimpArgs false
namespace Go.Proofs.Ytaidadofkbagkaa.Pure
open WB Go Go.RowKit Go.Proofs.Ytaidadofkbagkaa.G Go.Proofs.Ytaidadofkbagkaa.V Go.Proofs.YtaidadofkbagkaaW.PrintWords Go.Proofs.YtaidadofkbagkaaW.PrintLast Go.Proofs.YtaidadofkbagkaaW.PrintMore
theorem picks_l (v : Int) (l : List S36) (hs : l.length ≤ 32) (he : ∀ x ∈ l, oddB x = false) : ∀ (d i k : Nat) (n : Int), i + d = l.length → d + 40 ≤ k → n = sumW (l.drop i) → 0 ≤ n → n ≤ 16 * d → waybilllaw21_ResolvePicks.l0 k l 0 n 0 (i : Int) v l = some true
  | d, i, 0, _, _, h, _, _, _ => by omega
  | 0, i, k + 1, n, h, hk, hn, _, _ => by
    rw [List.drop_of_length_le (by omega)] at hn
    have h0 : n = 0 := hn
    rw [waybilllaw21_ResolvePicks.l0, if_neg (by omega), num_f, Option.bind_some, Option.bind_some, if_pos (by unfold wrap64; rfl), if_pos h0, backs_f l (by omega) k (by omega)]
    rfl
  | d + 1, i, k + 1, n, h, hk, hn, h0, h1 => by
    have hb := even_of (he _ (List.getElem_mem (by omega : i < l.length)))
    have hq : ∀ m : List S36, (∀ x ∈ m, oddB x = false) → 0 ≤ sumW m ∧ sumW m ≤ 16 * m.length := by
      intro m
      induction m with
      | nil => intro _; simp [sumW]
      | cons x r ih =>
        intro hm
        have a := even_of (hm x (by simp))
        have b := ih (fun y hy => hm y (by simp [hy]))
        rw [sumW_cons, List.length_cons]
        push_cast
        omega
    have hd := hq (l.drop (i + 1)) (fun x hx => he x (List.mem_of_mem_drop hx))
    rw [List.length_drop] at hd
    rw [List.drop_eq_getElem_cons (by omega : i < l.length), sumW_cons] at hn
    rw [waybilllaw21_ResolvePicks.l0, if_pos (by omega), if_pos (by omega), rdB l i (by omega), w1 i (by omega), show wrap64 (n - l[i].f1) = n - l[i].f1 by unfold wrap64; omega]
    exact picks_l v l hs he d (i + 1) k _ (by omega) (by omega) (by omega) (by omega) (by omega)
theorem picks_law (v : Int) (l : List S36) : waybilllaw21_ResolvePicks.f 100 v l = some true := by
  unfold waybilllaw21_ResolvePicks.f
  rw [alive_f, Option.bind_some, if_pos rfl, ids_f v l _ (by omega), Option.bind_some, num_f, Option.bind_some]
  unfold idsS
  by_cases h : checkS v l = 0
  · obtain ⟨h1, h2, h3⟩ := checkS_ok h
    rw [if_pos h]
    dsimp only
    rw [if_pos rfl, pick_f v l _ (by simp; omega) (by
      intro x hx
      obtain ⟨y, hy, rfl⟩ := List.mem_map.1 hx
      exact (even_wf y (h2 y hy)).1), Option.bind_some, pick_all h, weight_f v l _ (by omega), Option.bind_some]
    unfold weightS
    rw [if_pos h]
    have hq : ∀ m : List S36, (∀ x ∈ m, oddB x = false) → 0 ≤ sumW m ∧ sumW m ≤ 16 * m.length := by
      intro m
      induction m with
      | nil => intro _; simp [sumW]
      | cons x r ih =>
        intro hm
        have a := even_of (hm x (by simp))
        have b := ih (fun y hy => hm y (by simp [hy]))
        rw [sumW_cons, List.length_cons]
        push_cast
        omega
    have hd := hq l h2
    exact picks_l v l h1 h2 l.length 0 100 _ (by omega) (by omega) (by rw [List.drop_zero]) hd.1 hd.2
  · rw [if_neg h]
    dsimp only
    rw [if_neg h]
    rfl
theorem ResolvePicks (x0 : S24) {p0 p1 : Prop} (_ : p0) (_ : p1) : ∃ k, waybilllaw21_ResolvePicks.f k x0.f0 x0.f1 = some true := ⟨100, picks_law _ _⟩
end Go.Proofs.Ytaidadofkbagkaa.Pure
