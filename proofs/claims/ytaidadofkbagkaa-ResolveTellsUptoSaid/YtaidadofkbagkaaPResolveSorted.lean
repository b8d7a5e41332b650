/- Plain words on snapshots: rising IDs, found in rows and in maps alike. No program here. -/
import Derived.Test.YtaidadofkbagkaaQBase
import Derived.Test.YtaidadofkbagkaaPResolve
import Derived.Test.YtaidadofkbagkaaGx11
import Derived.Test.YtaidadofkbagkaaGx9
set_option linter.unusedVariables false
set_option linter.unusedSimpArgs false
namespace Go.Proofs.Ytaidadofkbagkaa.V
open WB Go Go.RowKit Go.Proofs.Ytaidadofkbagkaa.G Go.Proofs.YtaidadofkbagkaaW.PrintWords Go.Proofs.YtaidadofkbagkaaW.PrintLast Go.Proofs.YtaidadofkbagkaaW.PrintMore
theorem rises_pw : ∀ l : List S36, risesB l = true ↔ l.Pairwise (fun a b => a.f0 < b.f0)
  | [] => by simp [risesB]
  | [a] => by simp [risesB]
  | a :: b :: l => by
    rw [risesB, Bool.and_eq_true, decide_eq_true_iff, rises_pw (b :: l), @List.pairwise_cons _ _ a (b :: l)]
    constructor
    · rintro ⟨h1, h2⟩
      refine ⟨fun x hx => ?_, h2⟩
      rcases List.mem_cons.1 hx with rfl | hx
      · exact h1
      · exact Int.lt_trans h1 ((List.pairwise_cons.1 h2).1 x hx)
    · rintro ⟨h1, h2⟩
      exact ⟨h1 b List.mem_cons_self, h2⟩
theorem risesI_pw : ∀ l : List Int, risesI l = true ↔ l.Pairwise (· < ·)
  | [] => by simp [risesI]
  | [a] => by simp [risesI]
  | a :: b :: l => by
    rw [risesI, Bool.and_eq_true, decide_eq_true_iff, risesI_pw (b :: l), @List.pairwise_cons _ _ a (b :: l)]
    constructor
    · rintro ⟨h1, h2⟩
      refine ⟨fun x hx => ?_, h2⟩
      rcases List.mem_cons.1 hx with rfl | hx
      · exact h1
      · exact Int.lt_trans h1 ((List.pairwise_cons.1 h2).1 x hx)
    · rintro ⟨h1, h2⟩
      exact ⟨h1 b List.mem_cons_self, h2⟩
theorem checkB_ok {l : List S36} (h : checkB l = 0) : l.length ≤ 32 ∧ (∀ x ∈ l, oddB x = false) ∧ l.Pairwise (fun a b => a.f0 < b.f0) := by
  unfold checkB at h
  split at h
  · cases h
  · split at h
    · cases h
    · rename_i h1 h2
      split at h
      · cases h
      · rename_i h3
        refine ⟨by omega, fun x hx => ?_, (rises_pw l).1 (by simpa using h3)⟩
        cases ho : oddB x with
        | false => rfl
        | true => exact absurd (List.any_eq_true.2 ⟨x, hx, ho⟩) h2
theorem checkS_ok {v : Int} {l : List S36} (h : checkS v l = 0) : l.length ≤ 32 ∧ (∀ x ∈ l, oddB x = false) ∧ l.Pairwise (fun a b => a.f0 < b.f0) := by
  unfold checkS at h
  split at h
  · cases h
  · split at h
    · cases h
    · exact checkB_ok h
theorem even_of {x : S36} (h : oddB x = false) : 0 ≤ x.f0 ∧ x.f0 ≤ 2147483647 ∧ 1 ≤ x.f1 ∧ x.f1 ≤ 16 := by
  simp only [oddB, Bool.or_eq_false_iff, decide_eq_false_iff_not] at h
  omega
/-- What is not there is not found. -/
theorem wOf_none (l : List S36) (id : Int) (h : ∀ x ∈ l, x.f0 ≠ id) : wOf l id = (0, false) := by
  have key : ∀ (l : List S36) (o : Int × Bool), (∀ x ∈ l, x.f0 ≠ id) → l.foldl (fun o x => if x.f0 = id then (x.f1, true) else o) o = o := by
    intro l
    induction l with
    | nil => intro o _; rfl
    | cons x r ih =>
      intro o h
      rw [List.foldl_cons, if_neg (h x (by simp))]
      exact ih o (fun y hy => h y (by simp [hy]))
  exact key l _ h
theorem wOf_some {l : List S36} (hp : l.Pairwise (fun a b => a.f0 < b.f0)) {x : S36} (hx : x ∈ l) : wOf l x.f0 = (x.f1, true) := by
  have key : ∀ (l : List S36) (o : Int × Bool), l.Pairwise (fun a b => a.f0 < b.f0) → x ∈ l → l.foldl (fun o y => if y.f0 = x.f0 then (y.f1, true) else o) o = (x.f1, true) := by
    intro l
    induction l with
    | nil => intro _ _ h; cases h
    | cons y r ih =>
      intro o hp hx
      rw [List.foldl_cons]
      obtain ⟨h1, h2⟩ := List.pairwise_cons.1 hp
      rcases List.mem_cons.1 hx with rfl | hx
      · rw [if_pos rfl]
        have : ∀ (r : List S36) (o : Int × Bool), (∀ z ∈ r, x.f0 < z.f0) → r.foldl (fun o y => if y.f0 = x.f0 then (y.f1, true) else o) o = o := by
          intro r
          induction r with
          | nil => intro o _; rfl
          | cons z r ih2 =>
            intro o h
            rw [List.foldl_cons, if_neg (by have := h z (by simp); omega)]
            exact ih2 o (fun w hw => h w (by simp [hw]))
        exact this r _ h1
      · exact ih _ h2 hx
  exact key l _ hp hx
theorem wOf_mem (l : List S36) (id : Int) : (wOf l id).2 = true ↔ ∃ x ∈ l, x.f0 = id := by
  constructor
  · intro h
    apply Classical.byContradiction
    intro hn
    rw [wOf_none l id (fun x hx he => hn ⟨x, hx, he⟩)] at h
    cases h
  · rintro ⟨x, hx, rfl⟩
    have key : ∀ (l : List S36) (o : Int × Bool), o.2 = true ∨ x ∈ l → (l.foldl (fun o y => if y.f0 = x.f0 then (y.f1, true) else o) o).2 = true := by
      intro l
      induction l with
      | nil => intro o h; exact h.elim id (fun h => by cases h)
      | cons y r ih =>
        intro o h
        rw [List.foldl_cons]
        by_cases he : y.f0 = x.f0
        · rw [if_pos he]; exact ih _ (.inl rfl)
        · rw [if_neg he]
          refine ih _ (h.imp id fun h => ?_)
          rcases List.mem_cons.1 h with rfl | h
          · exact absurd rfl he
          · exact h
    exact key l _ (.inr hx)
/-- Two rising lists with the same members are one. -/
theorem rising_eq : ∀ (l m : List Int), l.Pairwise (· < ·) → m.Pairwise (· < ·) → (∀ x, x ∈ l ↔ x ∈ m) → l = m
  | [], [], _, _, _ => rfl
  | [], b :: m, _, _, h => by have := (h b).2 (by simp); cases this
  | a :: l, [], _, _, h => by have := (h a).1 (by simp); cases this
  | a :: l, b :: m, hl, hm, h => by
    obtain ⟨l1, l2⟩ := List.pairwise_cons.1 hl
    obtain ⟨m1, m2⟩ := List.pairwise_cons.1 hm
    have hab : a = b := by
      rcases List.mem_cons.1 ((h a).1 (by simp)) with h1 | h1
      · exact h1
      · rcases List.mem_cons.1 ((h b).2 (by simp)) with h2 | h2
        · exact h2.symm
        · have := l1 b h2; have := m1 a h1; omega
    subst hab
    congr 1
    refine rising_eq l m l2 m2 fun x => ⟨fun hx => ?_, fun hx => ?_⟩
    · rcases List.mem_cons.1 ((h x).1 (by simp [hx])) with rfl | h1
      · have := l1 x hx; omega
      · exact h1
    · rcases List.mem_cons.1 ((h x).2 (by simp [hx])) with rfl | h1
      · have := m1 x hx; omega
      · exact h1
theorem map_rises {l : List S36} (h : l.Pairwise (fun a b => a.f0 < b.f0)) (p : S36 → Bool) : ((l.filter p).map (·.f0)).Pairwise (· < ·) := by
  rw [List.pairwise_map]
  exact h.sublist List.filter_sublist
theorem other_swap {la lb : List S36} (ha : la.Pairwise (fun a b => a.f0 < b.f0)) (hb : lb.Pairwise (fun a b => a.f0 < b.f0)) : otherD la lb = otherD lb la := by
  have key : ∀ {la lb : List S36}, la.Pairwise (fun a b => a.f0 < b.f0) → lb.Pairwise (fun a b => a.f0 < b.f0) → ∀ x, x ∈ otherD la lb → x ∈ otherD lb la := by
    intro la lb ha hb x hx
    unfold otherD at hx ⊢
    obtain ⟨y, hy, rfl⟩ := List.mem_map.1 hx
    obtain ⟨hy1, hy2⟩ := List.mem_filter.1 hy
    rw [Bool.and_eq_true, decide_eq_true_iff] at hy2
    obtain ⟨z, hz, he⟩ := (wOf_mem la y.f0).1 hy2.1
    have h1 := wOf_some ha hz
    rw [he] at h1
    refine List.mem_map.2 ⟨z, List.mem_filter.2 ⟨hz, ?_⟩, he⟩
    have h2 := wOf_some hb hy1
    rw [Bool.and_eq_true, decide_eq_true_iff, he, h2]
    refine ⟨rfl, ?_⟩
    have h3 := hy2.2
    rw [h1] at h3
    exact fun h => h3 h.symm
  refine rising_eq _ _ (map_rises hb _) (map_rises ha _) fun x => ⟨key ha hb x, key hb ha x⟩
theorem more_self {l : List S36} : moreD l l = [] := by
  unfold moreD
  rw [List.map_eq_nil_iff, List.filter_eq_nil_iff]
  intro x hx
  rw [(wOf_mem l x.f0).2 ⟨x, hx, rfl⟩]
  simp
theorem other_self {l : List S36} (h : l.Pairwise (fun a b => a.f0 < b.f0)) : otherD l l = [] := by
  unfold otherD
  rw [List.map_eq_nil_iff, List.filter_eq_nil_iff]
  intro x hx
  rw [wOf_some h hx]
  simp
end Go.Proofs.Ytaidadofkbagkaa.V
