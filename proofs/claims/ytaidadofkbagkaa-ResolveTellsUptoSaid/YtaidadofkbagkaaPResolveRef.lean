/- Plain words on snapshots: the reference's and the program's other loops. No program here. -/
import Derived.Test.YtaidadofkbagkaaQBase
import Derived.Test.YtaidadofkbagkaaPResolve
import Derived.Test.YtaidadofkbagkaaPResolveSorted
import Derived.Test.YtaidadofkbagkaaGx10
import Derived.Test.YtaidadofkbagkaaGx11
import Derived.Test.YtaidadofkbagkaaGx12
import Derived.Test.YtaidadofkbagkaaGx13
import Derived.Test.YtaidadofkbagkaaGx14
import Derived.Test.YtaidadofkbagkaaGx15
import Derived.Test.YtaidadofkbagkaaGx16
import Derived.Test.YtaidadofkbagkaaGx9
set_option linter.unusedVariables false
set_option linter.unusedSimpArgs false
namespace Go.Proofs.Ytaidadofkbagkaa.V
open WB Go Go.RowKit Go.Proofs.Ytaidadofkbagkaa.G Go.Proofs.YtaidadofkbagkaaW.PrintWords Go.Proofs.YtaidadofkbagkaaW.PrintLast Go.Proofs.YtaidadofkbagkaaW.PrintMore
def idsS (v : Int) (l : List S36) : List Int × Int := if checkS v l = 0 then (l.map (·.f0), 0) else ([], checkS v l)
theorem ids_l (l : List S36) (hs : l.length ≤ 32) : ∀ (d i k : Nat) (o : List Int), i + d = l.length → d < k → o.length = i → resolve_IDs.l0 k o l (l.length : Int) (i : Int) = some (o ++ (l.drop i).map (·.f0), 0)
  | d, i, 0, _, _, h, _ => by omega
  | 0, i, k + 1, o, h, _, _ => by rw [resolve_IDs.l0, if_neg (by omega), List.drop_of_length_le (by omega)]; simp
  | d + 1, i, k + 1, o, h, hk, ho => by
    rw [resolve_IDs.l0, if_pos (by omega), if_pos (by omega), if_pos (by omega), if_pos (by omega), rdB l i (by omega), w1 i (by omega), ids_l l hs d (i + 1) k _ (by omega) (by omega) (by simp [ho]), List.drop_eq_getElem_cons (by omega : i < l.length), List.map_cons, List.append_assoc]
    rfl
theorem ids_f (v : Int) (l : List S36) (k : Nat) (hk : 70 ≤ k) : resolve_IDs.f k v l = some (idsS v l) := by
  unfold resolve_IDs.f idsS
  rw [checkS_f, Option.bind_some]
  by_cases h : checkS v l = 0
  · have := (checkS_ok h).1
    have e := ids_l l this l.length 0 k [] (by omega) (by omega) rfl
    rw [List.drop_zero, List.nil_append] at e
    rw [if_pos h, if_pos h]
    exact e
  · rw [if_neg h, if_neg h]
theorem rids_l (v : Int) (l : List S36) (hs : l.length ≤ 32) : ∀ (d i k : Nat) (o : List Int), i + d = l.length → d < k → o.length = i → waybillref21_IDs.l0 k o (i : Int) v l = some (o ++ (l.drop i).map (·.f0), 0)
  | d, i, 0, _, _, h, _ => by omega
  | 0, i, k + 1, o, h, _, _ => by rw [waybillref21_IDs.l0, if_neg (by omega), List.drop_of_length_le (by omega)]; simp
  | d + 1, i, k + 1, o, h, hk, ho => by
    rw [waybillref21_IDs.l0, if_pos (by omega), if_pos (by omega), if_pos (by omega), rdB l i (by omega), w1 i (by omega), rids_l v l hs d (i + 1) k _ (by omega) (by omega) (by simp [ho]), List.drop_eq_getElem_cons (by omega : i < l.length), List.map_cons, List.append_assoc]
    rfl
theorem rids_f (v : Int) (l : List S36) (k : Nat) (hk : 70 ≤ k) : waybillref21_IDs.f k v l = some (idsS v l) := by
  unfold waybillref21_IDs.f idsS
  rw [check21_f v l k hk, Option.bind_some]
  by_cases h : checkS v l = 0
  · have := (checkS_ok h).1
    have e := rids_l v l this l.length 0 k [] (by omega) (by omega) rfl
    rw [List.drop_zero, List.nil_append] at e
    rw [if_pos h, if_pos h]
    exact e
  · rw [if_neg h, if_neg h]
/-! ### weights -/
def sumW (l : List S36) : Int := (l.map (·.f1)).sum
def weightS (v : Int) (l : List S36) : Int × Int := if checkS v l = 0 then (sumW l, 0) else (0, checkS v l)
theorem sumW_cons (x : S36) (l : List S36) : sumW (x :: l) = x.f1 + sumW l := by simp [sumW]
theorem weight_l (l : List S36) (hs : l.length ≤ 32) (he : ∀ x ∈ l, oddB x = false) : ∀ (d i k : Nat) (s : Int), i + d = l.length → d < k → 0 ≤ s → s ≤ 16 * i → resolve_Weight.l0 k s l (l.length : Int) (i : Int) = some (s + sumW (l.drop i), 0)
  | d, i, 0, _, _, h, _, _ => by omega
  | 0, i, k + 1, s, h, _, _, _ => by rw [resolve_Weight.l0, if_neg (by omega), List.drop_of_length_le (by omega)]; simp [sumW]
  | d + 1, i, k + 1, s, h, hk, h0, h1 => by
    have hb := even_of (he _ (List.getElem_mem (by omega : i < l.length)))
    rw [resolve_Weight.l0, if_pos (by omega), if_pos (by omega), if_pos (by omega), rdB l i (by omega), w1 i (by omega), show wrap64 (s + l[i].f1) = s + l[i].f1 by unfold wrap64; omega, weight_l l hs he d (i + 1) k _ (by omega) (by omega) (by omega) (by omega), List.drop_eq_getElem_cons (by omega : i < l.length), sumW_cons]
    congr 2
    omega
theorem weight_f (v : Int) (l : List S36) (k : Nat) (hk : 70 ≤ k) : resolve_Weight.f k v l = some (weightS v l) := by
  unfold resolve_Weight.f weightS
  rw [checkS_f, Option.bind_some]
  by_cases h : checkS v l = 0
  · obtain ⟨h1, h2, _⟩ := checkS_ok h
    have e := weight_l l h1 h2 l.length 0 k 0 (by omega) (by omega) (by omega) (by omega)
    rw [List.drop_zero, Int.zero_add] at e
    rw [if_pos h, if_pos h]
    exact e
  · rw [if_neg h, if_neg h]
theorem rweight_l (v : Int) (l : List S36) (hs : l.length ≤ 32) (he : ∀ x ∈ l, oddB x = false) : ∀ (d i k : Nat) (s : Int), i + d = l.length → d < k → 0 ≤ s → s ≤ 16 * i → waybillref21_Weight.l0 k s (i : Int) v l = some (s + sumW (l.drop i), 0)
  | d, i, 0, _, _, h, _, _ => by omega
  | 0, i, k + 1, s, h, _, _, _ => by rw [waybillref21_Weight.l0, if_neg (by omega), List.drop_of_length_le (by omega)]; simp [sumW]
  | d + 1, i, k + 1, s, h, hk, h0, h1 => by
    have hb := even_of (he _ (List.getElem_mem (by omega : i < l.length)))
    rw [waybillref21_Weight.l0, if_pos (by omega), if_pos (by omega), rdB l i (by omega), w1 i (by omega), show wrap64 (s + l[i].f1) = s + l[i].f1 by unfold wrap64; omega, rweight_l v l hs he d (i + 1) k _ (by omega) (by omega) (by omega) (by omega), List.drop_eq_getElem_cons (by omega : i < l.length), sumW_cons]
    congr 2
    omega
theorem rweight_f (v : Int) (l : List S36) (k : Nat) (hk : 70 ≤ k) : waybillref21_Weight.f k v l = some (weightS v l) := by
  unfold waybillref21_Weight.f weightS
  rw [check21_f v l k hk, Option.bind_some]
  by_cases h : checkS v l = 0
  · obtain ⟨h1, h2, _⟩ := checkS_ok h
    have e := rweight_l v l h1 h2 l.length 0 k 0 (by omega) (by omega) (by omega) (by omega)
    rw [List.drop_zero, Int.zero_add] at e
    rw [if_pos h, if_pos h]
    exact e
  · rw [if_neg h, if_neg h]
/-! ### an ID's weight -/
def wtL : List S36 → Int → Int
  | [], _ => 0
  | x :: r, id => if x.f0 = id then x.f1 else wtL r id
theorem wt_l (v : Int) (l : List S36) (id : Int) (hs : l.length < 4611686018427387904) : ∀ (d i k : Nat), i + d = l.length → d < k → waybillref21_weight.l0 k id (i : Int) v l = some (wtL (l.drop i) id)
  | d, i, 0, _, h => by omega
  | 0, i, k + 1, h, _ => by rw [waybillref21_weight.l0, if_neg (by omega), List.drop_of_length_le (by omega)]; rfl
  | d + 1, i, k + 1, h, hk => by
    rw [waybillref21_weight.l0, if_pos (by omega), if_pos (by omega), rdB l i (by omega), w1 i (by omega), wt_l v l id hs d (i + 1) k (by omega) (by omega), List.drop_eq_getElem_cons (by omega : i < l.length), wtL]
    split <;> rfl
theorem wt_none (l : List S36) (id : Int) (h : ∀ x ∈ l, x.f0 ≠ id) : wtL l id = 0 := by
  induction l with
  | nil => rfl
  | cons x r ih => rw [wtL, if_neg (h x (by simp))]; exact ih fun y hy => h y (by simp [hy])
theorem wt_some {l : List S36} (hp : l.Pairwise (fun a b => a.f0 < b.f0)) {x : S36} (hx : x ∈ l) : wtL l x.f0 = x.f1 := by
  induction l with
  | nil => cases hx
  | cons y r ih =>
    obtain ⟨h1, h2⟩ := List.pairwise_cons.1 hp
    rw [wtL]
    rcases List.mem_cons.1 hx with rfl | hx
    · rw [if_pos rfl]
    · rw [if_neg (by have := h1 x hx; omega)]
      exact ih h2 hx
theorem wt_f (v : Int) (l : List S36) (id : Int) (hs : l.length ≤ 32) (k : Nat) (hk : 34 ≤ k) : waybillref21_weight.f k v l id = some (wtL l id) := wt_l v l id (by omega) l.length 0 k (by omega) (by omega)
/-- The weight tells whether it is there. -/
theorem wt_of {l : List S36} (he : ∀ x ∈ l, oddB x = false) (hp : l.Pairwise (fun a b => a.f0 < b.f0)) (id : Int) : ((wOf l id).2 = true → wtL l id = (wOf l id).1 ∧ ¬ wtL l id = 0) ∧ ((wOf l id).2 = false → wtL l id = 0) := by
  constructor
  · intro h
    obtain ⟨x, hx, rfl⟩ := (wOf_mem l id).1 h
    rw [wOf_some hp hx, wt_some hp hx]
    have := even_of (he x hx)
    exact ⟨rfl, by omega⟩
  · intro h
    refine wt_none l id fun x hx hh => ?_
    rw [(wOf_mem l id).2 ⟨x, hx, hh⟩] at h
    cases h
/-! ### what came and went -/
theorem rdiff_1 (va : Int) (la : List S36) (vb : Int) (lb : List S36) (m o : List Int) (ha : la.length ≤ 32) (hb : lb.length ≤ 32) (eb : ∀ x ∈ lb, oddB x = false) (pb : lb.Pairwise (fun a b => a.f0 < b.f0)) :
    ∀ (d i k : Nat) (g : List Int), i + d = la.length → d + 40 ≤ k → g.length ≤ i → waybillref21_Diff.l1 k m g o (i : Int) va la vb lb = some (m, g ++ moreD lb (la.drop i), o, 0)
  | d, i, 0, _, _, h, _ => by omega
  | 0, i, k + 1, g, h, _, _ => by rw [waybillref21_Diff.l1, if_neg (by omega), List.drop_of_length_le (by omega)]; simp [moreD]
  | d + 1, i, k + 1, g, h, hk, hg => by
    have hw := wt_of eb pb la[i].f0
    rw [waybillref21_Diff.l1, if_pos (by omega), if_pos (by omega), rdB la i (by omega), wt_f vb lb _ hb k (by omega), Option.bind_some, w1 i (by omega), List.drop_eq_getElem_cons (by omega : i < la.length)]
    have e : moreD lb (la[i] :: la.drop (i + 1)) = (if (wOf lb la[i].f0).2 = false then [la[i].f0] else []) ++ moreD lb (la.drop (i + 1)) := by
      unfold moreD
      rw [List.filter_cons]
      cases (wOf lb la[i].f0).2 <;> simp
    rw [e]
    cases h2 : (wOf lb la[i].f0).2 with
    | false => rw [if_pos (hw.2 h2), if_pos (by omega), rdiff_1 va la vb lb m o ha hb eb pb d (i + 1) k _ (by omega) (by omega) (by simp; omega)]; simp
    | true => rw [if_neg (hw.1 h2).2, rdiff_1 va la vb lb m o ha hb eb pb d (i + 1) k _ (by omega) (by omega) (by omega)]; simp
theorem rdiff_0 (va : Int) (la : List S36) (vb : Int) (lb : List S36) (ha : la.length ≤ 32) (hb : lb.length ≤ 32) (ea : ∀ x ∈ la, oddB x = false) (pa : la.Pairwise (fun a b => a.f0 < b.f0)) (eb : ∀ x ∈ lb, oddB x = false) (pb : lb.Pairwise (fun a b => a.f0 < b.f0)) :
    ∀ (d i k : Nat) (m o : List Int), i + d = lb.length → d + 80 ≤ k → m.length ≤ i → o.length ≤ i → waybillref21_Diff.l0 k m o (i : Int) va la vb lb = some (m ++ moreD la (lb.drop i), moreD lb la, o ++ otherD la (lb.drop i), 0)
  | d, i, 0, _, _, _, h, _, _ => by omega
  | 0, i, k + 1, m, o, h, _, _, _ => by
    rw [waybillref21_Diff.l0, if_neg (by omega), List.drop_of_length_le (by omega)]
    have := rdiff_1 va la vb lb m o ha hb eb pb la.length 0 k [] (by omega) (by omega) (by simp)
    rw [List.drop_zero, List.nil_append] at this
    refine this.trans ?_
    simp [moreD, otherD]
  | d + 1, i, k + 1, m, o, h, hk, hm, ho => by
    have hw := wt_of ea pa lb[i].f0
    rw [waybillref21_Diff.l0, if_pos (by omega), if_pos (by omega), rdB lb i (by omega), wt_f va la _ ha k (by omega), Option.bind_some, w1 i (by omega), List.drop_eq_getElem_cons (by omega : i < lb.length)]
    have e1 : moreD la (lb[i] :: lb.drop (i + 1)) = (if (wOf la lb[i].f0).2 = false then [lb[i].f0] else []) ++ moreD la (lb.drop (i + 1)) := by
      unfold moreD
      rw [List.filter_cons]
      cases (wOf la lb[i].f0).2 <;> simp
    have e2 : otherD la (lb[i] :: lb.drop (i + 1)) = (if (wOf la lb[i].f0).2 = true ∧ ¬ (wOf la lb[i].f0).1 = lb[i].f1 then [lb[i].f0] else []) ++ otherD la (lb.drop (i + 1)) := by
      unfold otherD
      rw [List.filter_cons]
      cases (wOf la lb[i].f0).2
      · simp
      · by_cases h3 : (wOf la lb[i].f0).1 = lb[i].f1 <;> simp [h3]
    rw [e1, e2]
    cases h2 : (wOf la lb[i].f0).2 with
    | false => rw [if_pos (hw.2 h2), if_pos (by omega), rdiff_0 va la vb lb ha hb ea pa eb pb d (i + 1) k _ _ (by omega) (by omega) (by simp; omega) (by omega)]; simp
    | true =>
      obtain ⟨h3, h4⟩ := hw.1 h2
      rw [if_neg h4]
      by_cases h5 : wtL la lb[i].f0 = lb[i].f1
      · rw [if_pos h5, rdiff_0 va la vb lb ha hb ea pa eb pb d (i + 1) k _ _ (by omega) (by omega) (by omega) (by omega)]
        rw [h3] at h5
        simp [h5]
      · rw [if_neg h5, if_pos (by omega), rdiff_0 va la vb lb ha hb ea pa eb pb d (i + 1) k _ _ (by omega) (by omega) (by omega) (by simp; omega)]
        rw [h3] at h5
        simp [h5]
theorem checks_pair (va : Int) (la : List S36) (vb : Int) (lb : List S36) : checksS [⟨va, la⟩, ⟨vb, lb⟩] = if checkS va la = 0 then checkS vb lb else checkS va la := by
  unfold checksS
  dsimp only
  by_cases h : checkS va la = 0
  · rw [if_pos h, if_pos h]
    unfold checksS
    dsimp only
    by_cases h2 : checkS vb lb = 0
    · rw [if_pos h2, h2]; rfl
    · rw [if_neg h2]
  · rw [if_neg h, if_neg h]
theorem rdiff_j (va : Int) (la : List S36) (vb : Int) (lb : List S36) (k : Nat) (hk : 120 ≤ k) (e : Int) (h : e = 0 → checkS va la = 0 ∧ checkS vb lb = 0) : waybillref21_Diff.j0 k e va la vb lb = some (if e = 0 then (moreD la lb, moreD lb la, otherD la lb, 0) else ([], [], [], e)) := by
  obtain ⟨k, rfl⟩ : ∃ m, k = m + 1 := ⟨k - 1, by omega⟩
  rw [waybillref21_Diff.j0]
  by_cases h0 : e = 0
  · obtain ⟨ha, hb⟩ := h h0
    obtain ⟨a1, a2, a3⟩ := checkS_ok ha
    obtain ⟨b1, b2, b3⟩ := checkS_ok hb
    rw [if_pos h0, if_pos h0]
    have := rdiff_0 va la vb lb a1 b1 a2 a3 b2 b3 lb.length 0 k [] [] (by omega) (by omega) (by simp) (by simp)
    simpa using this
  · rw [if_neg h0, if_neg h0]
theorem rdiff_f (va : Int) (la : List S36) (vb : Int) (lb : List S36) (k : Nat) (hk : 120 ≤ k) : waybillref21_Diff.f k va la vb lb = some (diffS va la vb lb) := by
  unfold waybillref21_Diff.f diffS
  rw [checks_pair, check21_f va la k (by omega), Option.bind_some]
  by_cases h : checkS va la = 0
  · rw [if_pos h, if_pos h, check21_f vb lb k (by omega), Option.bind_some, rdiff_j va la vb lb k hk _ (fun h2 => ⟨h, h2⟩)]
    by_cases h2 : checkS vb lb = 0
    · rw [if_pos h2, if_neg (by rw [h2]; simp)]
    · rw [if_neg h2, if_pos h2]
  · rw [if_neg h, if_neg h, rdiff_j va la vb lb k hk _ (fun h2 => absurd h2 h), if_neg h, if_pos h]
/-! ### picked -/
theorem rpick_1 (ids : List Int) (o : List S36) (hs : ids.length < 4611686018427387904) : ∀ (d i k : Nat), i + d = ids.length → 1 ≤ i → d < k → waybillref21_Pick.l1 k ids o (i : Int) = some (if risesI (ids.drop (i - 1)) = false then ([], 6) else (o, 0))
  | d, i, 0, _, _, h => by omega
  | 0, i, k + 1, h, hi, _ => by
    rw [waybillref21_Pick.l1, if_neg (by omega), List.drop_eq_getElem_cons (by omega), List.drop_of_length_le (by omega)]
    rfl
  | d + 1, i, k + 1, h, hi, hk => by
    have e1 : wrap64 ((i : Int) - 1) = ((i - 1 : Nat) : Int) := by unfold wrap64; omega
    rw [waybillref21_Pick.l1, if_pos (by omega), if_pos (by omega), e1, if_pos (by omega), if_pos (by omega), rdI ids i (by omega), rdI ids (i - 1) (by omega), w1 i (by omega), rpick_1 ids o hs d (i + 1) k (by omega) (by omega) (by omega)]
    have e2 : ids.drop (i - 1) = ids[i - 1] :: ids[i] :: ids.drop (i + 1) := by
      rw [List.drop_eq_getElem_cons (by omega : i - 1 < ids.length)]
      congr 1
      rw [show i - 1 + 1 = i by omega, List.drop_eq_getElem_cons (by omega : i < ids.length)]
    have e3 : ids.drop (i + 1 - 1) = ids[i] :: ids.drop (i + 1) := by rw [show i + 1 - 1 = i by omega, List.drop_eq_getElem_cons (by omega : i < ids.length)]
    rw [e2, e3, risesI]
    by_cases h1 : ids[i] ≤ ids[i - 1]
    · rw [if_pos h1, decide_eq_false (by omega)]
      rfl
    · rw [if_neg h1, decide_eq_true (by omega), Bool.true_and]
theorem rpick_0 (v : Int) (l : List S36) (ids : List Int) (hs : ids.length < 8796093022208) (hl : l.length ≤ 32) (he : ∀ x ∈ l, oddB x = false) (hp : l.Pairwise (fun a b => a.f0 < b.f0)) :
    ∀ (d i k : Nat) (o : List S36), i + d = ids.length → d + ids.length + 40 ≤ k → o.length = i → waybillref21_Pick.l0 k ids o (i : Int) v l = some (if (ids.drop i).any (goneP l) = true then ([], 71) else if risesI ids = false then ([], 6) else (o ++ (ids.drop i).map (ofP l), 0))
  | d, i, 0, _, _, h, _ => by omega
  | 0, i, k + 1, o, h, hk, _ => by
    rw [waybillref21_Pick.l0, if_neg (by omega), List.drop_of_length_le (by omega)]
    rcases Nat.eq_zero_or_pos ids.length with h0 | h0
    · obtain rfl := List.eq_nil_of_length_eq_zero h0
      obtain ⟨k, rfl⟩ : ∃ m, k = m + 1 := ⟨k - 1, by omega⟩
      rw [waybillref21_Pick.l1, if_neg (by simp)]
      simp [risesI]
    · have := rpick_1 ids o (by omega) (ids.length - 1) 1 k (by omega) (by omega) (by omega)
      refine this.trans ?_
      simp
  | d + 1, i, k + 1, o, h, hk, ho => by
    have hw := wt_of he hp ids[i]
    rw [waybillref21_Pick.l0, if_pos (by omega), if_pos (by omega), rdI ids i (by omega), wt_f v l _ hl k (by omega), Option.bind_some, w1 i (by omega), List.drop_eq_getElem_cons (by omega : i < ids.length), List.any_cons]
    cases h2 : (wOf l ids[i]).2 with
    | false =>
      rw [if_pos (hw.2 h2), if_pos (by unfold goneP; rw [h2]; rfl)]
    | true =>
      obtain ⟨h3, h4⟩ := hw.1 h2
      rw [if_neg h4, if_pos (by omega), rpick_0 v l ids hs hl he hp d (i + 1) k _ (by omega) (by omega) (by simp [ho])]
      have hg : goneP l ids[i] = false := by unfold goneP; rw [h2]; rfl
      have ho : (⟨ids[i], wtL l ids[i]⟩ : S36) = ofP l ids[i] := by unfold ofP; rw [h3]
      rw [hg, Bool.false_or, ho, List.map_cons, List.append_assoc]
      rfl
theorem rpick_f (v : Int) (l : List S36) (ids : List Int) (hs : ids.length < 8796093022208) (k : Nat) (hk : 2 * ids.length + 70 ≤ k) : waybillref21_Pick.f k v l ids = some (pickS v l ids) := by
  unfold waybillref21_Pick.f pickS
  rw [check21_f v l k (by omega), Option.bind_some]
  by_cases h : checkS v l = 0
  · obtain ⟨h1, h2, h3⟩ := checkS_ok h
    rw [if_pos h, if_neg (by rw [h]; simp)]
    have := rpick_0 v l ids hs h1 h2 h3 ids.length 0 k [] (by omega) (by omega) rfl
    simpa using this
  · rw [if_neg h, if_pos h]
theorem pick_f (v : Int) (l : List S36) (ids : List Int) (hs : ids.length < 8796093022208) (hw : ∀ x ∈ ids, (Lit.int .i64 x).wf = true) : resolve_Pick.f v l ids = some (pickS v l ids) := by
  unfold resolve_Pick.f
  rw [if_pos ⟨hs, hw⟩]
theorem diff_f (va : Int) (la : List S36) (vb : Int) (lb : List S36) : resolve_Diff.f va la vb lb = some (diffS va la vb lb) := rfl
theorem pick_all {v : Int} {l : List S36} (h : checkS v l = 0) : pickS v l (l.map (·.f0)) = (l, 0) := by
  obtain ⟨h1, h2, h3⟩ := checkS_ok h
  unfold pickS
  rw [if_neg (by rw [h]; simp), if_neg, if_neg]
  · congr 1
    rw [List.map_map]
    conv => rhs; rw [← List.map_id l]
    refine List.map_congr_left fun x hx => ?_
    show ofP l x.f0 = x
    unfold ofP
    rw [wOf_some h3 hx]
  · rw [Bool.not_eq_false, risesI_pw, List.pairwise_map]
    exact h3
  · rw [Bool.not_eq_true, List.any_eq_false]
    intro y hy
    obtain ⟨x, hx, rfl⟩ := List.mem_map.1 hy
    unfold goneP
    rw [wOf_some h3 hx]
    simp
end Go.Proofs.Ytaidadofkbagkaa.V
