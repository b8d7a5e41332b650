/- Plain words on windows: what is left behind a mark. No program here. -/
import Derived.Test.YtkdkjnjiianogaaQBase
import Derived.Test.YtkdkjnjiianogaaPWindow
import Derived.Test.YtkdkjnjiianogaaGx13
import Derived.Test.YtkdkjnjiianogaaGx15
set_option linter.unusedVariables false
set_option linter.unusedSimpArgs false
namespace Go.Proofs.Ytkdkjnjiianogaa.V
open WB Go Go.RowKit Go.Proofs.Ytkdkjnjiianogaa.G Go.Proofs.YtkdkjnjiianogaaW.PrintWords Go.Proofs.YtkdkjnjiianogaaW.PrintLast Go.Proofs.YtkdkjnjiianogaaW.PrintMore
theorem rises_of_pair : ∀ {l : List S32}, l.Pairwise (fun p q => p.f0 < q.f0) → risesD l = true
  | [], _ => rfl
  | [_], _ => rfl
  | a :: b :: l, h => by
    rw [List.pairwise_cons] at h
    unfold risesD
    rw [rises_of_pair h.2, decide_eq_true (h.1 b List.mem_cons_self)]
    rfl
theorem may_mem {m s : Int} {l : List S32} (h : May m s l) (d : S32) (hd : d ∈ l) : m ≤ d.f0 ∧ d.f0 < m + s ∧ 0 ≤ d.f1 ∧ d.f1 ≤ 1000 ∧ d.f2.length ≤ 1024 := by
  obtain ⟨i, hi, rfl⟩ := List.mem_iff_getElem.1 hd
  have := h.bds i hi
  rwa [show l.getD i z32 = l[i] by simp [List.getElem?_eq_getElem hi]] at this
theorem may_mk {m s : Int} {l : List S32} (m1 : 1 ≤ m) (m2 : m ≤ 1073741824) (s1 : 1 ≤ s) (s2 : s ≤ 64) (h : ∀ d ∈ l, m ≤ d.f0 ∧ d.f0 < m + s ∧ 0 ≤ d.f1 ∧ d.f1 ≤ 1000 ∧ d.f2.length ≤ 1024) (hp : l.Pairwise (fun p q => p.f0 < q.f0)) : May m s l := by
  refine ⟨m1, m2, s1, s2, fun i hi => ?_, rises_of_pair hp⟩
  have := h _ (List.getElem_mem hi)
  rw [show l.getD i z32 = l[i] by simp [List.getElem?_eq_getElem hi]]
  simp only [oddD, Bool.or_eq_false_iff, decide_eq_false_iff_not]
  omega
theorem may_keep {m s M : Int} {l : List S32} (h : May m s l) (h1 : m ≤ M) (h2 : M ≤ 1073741824) : May M s (keepD l M) := by
  have a := h.m1
  refine may_mk (by omega) h2 h.s1 h.s2 (fun d hd => ?_) ((pair_of h.up).sublist List.filter_sublist)
  unfold keepD at hd
  rw [List.mem_filter] at hd
  have b := may_mem h d hd.1
  have c : ¬ d.f0 < M := by simpa using hd.2
  omega
theorem keep_all {m s : Int} {l : List S32} (h : May m s l) : keepD l m = l := by
  unfold keepD
  rw [List.filter_eq_self]
  intro d hd
  have b := may_mem h d hd
  simp
  omega
theorem one_of {m s : Int} {l : List S32} (h : May m s l) {d e : S32} (hd : d ∈ l) (he : e ∈ l) (hs : d.f0 = e.f0) : d = e := by
  obtain ⟨i, hi, rfl⟩ := List.mem_iff_getElem.1 hd
  obtain ⟨j, hj, rfl⟩ := List.mem_iff_getElem.1 he
  have hp := pair_of h.up
  rw [List.pairwise_iff_getElem] at hp
  rcases Nat.lt_trichotomy i j with hij | rfl | hij
  · have := hp i j hi hj hij; omega
  · rfl
  · have := hp j i hj hi hij; omega
/-- What is seen of one that is done. -/
theorem see_done {m s : Int} {l : List S32} (h : May m s l) (d : S32) (hd : d ∈ l) : seeW m l s d.f0 = (1, d.f0, d.f1, d.f2, 0) ∧ whatD m s l d.f0 = 1 := by
  have b := may_mem h d hd
  have hw : whatD m s l d.f0 = 1 := by
    unfold whatD
    rw [if_neg (by omega), if_neg (by omega), if_pos (List.any_eq_true.2 ⟨d, hd, by simp⟩)]
  obtain ⟨_, _, h1, h2⟩ := what_place m s l d.f0 h hw
  have hm : l.getD (placeD l d.f0) z32 ∈ l := by
    rw [List.getD_eq_getElem?_getD, List.getElem?_eq_getElem h1]
    exact List.getElem_mem h1
  have he := one_of h hm hd h2
  refine ⟨?_, hw⟩
  unfold seeW
  rw [if_neg (by rw [check_of m s l h]; simp), if_pos hw, he]
theorem see_other {m s : Int} {l : List S32} (h : May m s l) (q : Int) (hq : whatD m s l q ≠ 1) : seeW m l s q = (whatD m s l q, 0, 0, [], 0) := by
  unfold seeW
  rw [if_neg (by rw [check_of m s l h]; simp), if_neg hq]
theorem what_one {m s : Int} {l : List S32} (h : May m s l) (q : Int) (hq : whatD m s l q = 1) : ∃ d ∈ l, d.f0 = q := by
  obtain ⟨_, _, h1, h2⟩ := what_place m s l q h hq
  refine ⟨_, ?_, h2⟩
  rw [List.getD_eq_getElem?_getD, List.getElem?_eq_getElem h1]
  exact List.getElem_mem h1
theorem what_old (m s : Int) (l : List S32) (q : Int) : whatD m s l q = 2 ↔ q < m := by
  unfold whatD
  split
  · simpa using ‹q < m›
  · split
    · simp; omega
    · split <;> (simp; omega)
theorem forget_f (m : Int) (l : List S32) (s M : Int) : window_Forget.f m l s M = some (forgetW m l s M) := rfl
theorem same22_self (a b : Int) (l : List Int) : waybilllaw22_same.f a b l a b l = some true := by
  unfold waybilllaw22_same.f
  rw [if_pos rfl, if_pos rfl]
  unfold waybillplain_SameBytes.f
  simp
end Go.Proofs.Ytkdkjnjiianogaa.V
