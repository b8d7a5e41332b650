/- Plain words on snapshots: what the reference's loops come to, for as many rounds as it takes. No program here. -/
import Derived.Test.YtaidadofkbagkaaQBase
import Derived.Test.YtaidadofkbagkaaQOpen
import Derived.Test.YtaidadofkbagkaaGx10
import Derived.Test.YtaidadofkbagkaaGx12
import Derived.Test.YtaidadofkbagkaaGx2
import Derived.Test.YtaidadofkbagkaaGx3
import Derived.Test.YtaidadofkbagkaaGx4
import Derived.Test.YtaidadofkbagkaaGx5
import Derived.Test.YtaidadofkbagkaaGx7
import Derived.Test.YtaidadofkbagkaaGx8
set_option linter.unusedVariables false
set_option linter.unusedSimpArgs false
namespace Go.Proofs.Ytaidadofkbagkaa.V
open WB Go Go.RowKit Go.Proofs.Ytaidadofkbagkaa.G Go.Proofs.YtaidadofkbagkaaW.PrintWords Go.Proofs.YtaidadofkbagkaaW.PrintLast Go.Proofs.YtaidadofkbagkaaW.PrintMore
theorem w1 (i : Nat) (h : i < 4611686018427387904) : wrap64 ((i : Int) + 1) = ((i + 1 : Nat) : Int) := by unfold wrap64; omega
theorem rdB (l : List S36) (i : Nat) (h : i < l.length) : rd_T36 l (i : Int) = l[i] := by simp [rd_T36, List.getElem?_eq_getElem h]
theorem rdS (l : List S24) (i : Nat) (h : i < l.length) : rd_T24 l (i : Int) = l[i] := by simp [rd_T24, List.getElem?_eq_getElem h]
theorem rdI (l : List Int) (i : Nat) (h : i < l.length) : rd l (i : Int) = l[i] := by simp [rd, List.getElem?_eq_getElem h]
theorem alive_f : waybilllaw21_alive.f = some true := by decide +kernel
theorem num_f (a : Int) : waybilllaw21_num.f a = some a := rfl
/-! ### checks -/
theorem odd_if (x : S36) (R : Option Int) : (if x.f0 < 0 then (some 4) else (if x.f0 > 2147483647 then (some 4) else (if x.f1 < 1 then (some 4) else (if x.f1 > 16 then (some 4) else R)))) = if oddB x = true then some 4 else R := by
  by_cases h1 : x.f0 < 0
  · rw [if_pos h1, if_pos (by simp [oddB, h1])]
  · rw [if_neg h1]
    by_cases h2 : x.f0 > 2147483647
    · rw [if_pos h2, if_pos (by simp [oddB]; omega)]
    · rw [if_neg h2]
      by_cases h3 : x.f1 < 1
      · rw [if_pos h3, if_pos (by simp [oddB]; omega)]
      · rw [if_neg h3]
        by_cases h4 : x.f1 > 16
        · rw [if_pos h4, if_pos (by simp [oddB]; omega)]
        · rw [if_neg h4, if_neg (by simp [oddB]; omega)]
theorem rises_l (l : List S36) (hs : l.length ≤ 32) : ∀ (d i k : Nat), i + d = l.length → 1 ≤ i → d < k → waybillref12_Check.l1 k l (i : Int) = some (if risesB (l.drop (i - 1)) = false then 6 else 0)
  | d, i, 0, _, _, h => by omega
  | 0, i, k + 1, h, hi, _ => by
    rw [waybillref12_Check.l1, if_neg (by omega)]
    rw [List.drop_eq_getElem_cons (by omega), List.drop_of_length_le (by omega)]
    rfl
  | d + 1, i, k + 1, h, hi, hk => by
    have e1 : wrap64 ((i : Int) - 1) = ((i - 1 : Nat) : Int) := by unfold wrap64; omega
    rw [waybillref12_Check.l1, if_pos (by omega), if_pos (by omega), e1, if_pos (by omega), if_pos (by omega), rdB l i (by omega), rdB l (i - 1) (by omega), w1 i (by omega), rises_l l hs d (i + 1) k (by omega) (by omega) (by omega)]
    have e2 : l.drop (i - 1) = l[i - 1] :: l[i] :: l.drop (i + 1) := by
      rw [List.drop_eq_getElem_cons (by omega : i - 1 < l.length)]
      congr 1
      rw [show i - 1 + 1 = i by omega, List.drop_eq_getElem_cons (by omega : i < l.length)]
    have e3 : l.drop (i + 1 - 1) = l[i] :: l.drop (i + 1) := by rw [show i + 1 - 1 = i by omega, List.drop_eq_getElem_cons (by omega : i < l.length)]
    rw [e2, e3, risesB]
    by_cases h1 : l[i].f0 ≤ l[i - 1].f0
    · rw [if_pos h1, decide_eq_false (by omega)]
      rfl
    · rw [if_neg h1, decide_eq_true (by omega), Bool.true_and]
theorem odd_l (l : List S36) (hs : l.length ≤ 32) : ∀ (d i k : Nat), i + d = l.length → d + 34 ≤ k → waybillref12_Check.l0 k l (i : Int) = some (if (l.drop i).any oddB = true then 4 else if risesB l = false then 6 else 0)
  | d, i, 0, _, h => by omega
  | 0, i, k + 1, h, hk => by
    rw [waybillref12_Check.l0, if_neg (by omega), List.drop_of_length_le (by omega)]
    rcases Nat.eq_zero_or_pos l.length with h0 | h0
    · obtain rfl := List.eq_nil_of_length_eq_zero h0
      obtain ⟨k, rfl⟩ : ∃ m, k = m + 1 := ⟨k - 1, by omega⟩
      rw [waybillref12_Check.l1, if_neg (by simp)]
      rfl
    · exact rises_l l hs (l.length - 1) 1 k (by omega) (by omega) (by omega)
  | d + 1, i, k + 1, h, hk => by
    rw [waybillref12_Check.l0, if_pos (by omega), if_pos (by omega), rdB l i (by omega), odd_if, w1 i (by omega), odd_l l hs d (i + 1) k (by omega) (by omega), List.drop_eq_getElem_cons (by omega : i < l.length), List.any_cons]
    by_cases h1 : oddB l[i] = true
    · rw [if_pos h1, h1, Bool.true_or, if_pos rfl]
    · have h1' : oddB l[i] = false := by simpa using h1
      rw [if_neg h1, h1', Bool.false_or]
theorem check12_f (l : List S36) (k : Nat) (hk : 70 ≤ k) : waybillref12_Check.f k l = some (checkB l) := by
  unfold waybillref12_Check.f checkB
  by_cases h : 32 < l.length
  · rw [if_pos (by omega), if_pos h]
  · rw [if_neg (by omega), if_neg h]
    exact odd_l l (by omega) l.length 0 k (by omega) (by omega)
theorem check21_f (v : Int) (l : List S36) (k : Nat) (hk : 70 ≤ k) : waybillref21_Check.f k v l = some (checkS v l) := by
  unfold waybillref21_Check.f checkS
  rw [check12_f l k hk, Option.bind_some]
  split
  · rfl
  · split
    · rfl
    · rfl
/-! ### sameness -/
theorem same_l (v : Int) (l : List S36) (hs : l.length < 4611686018427387904) : ∀ (d i k : Nat), i + d = l.length → d < k → waybillref21_Same.l0 k (i : Int) v l v l = some true
  | d, i, 0, _, h => by omega
  | 0, i, k + 1, h, _ => by rw [waybillref21_Same.l0, if_neg (by omega)]
  | d + 1, i, k + 1, h, hk => by
    rw [waybillref21_Same.l0, if_pos (by omega), if_pos (by omega), if_pos (by omega), if_neg (by simp), w1 i (by omega)]
    exact same_l v l hs d (i + 1) k (by omega) (by omega)
theorem same_f (v : Int) (l : List S36) (hs : l.length < 4611686018427387904) (k : Nat) (hk : l.length + 2 ≤ k) : waybillref21_Same.f k v l v l = some true := by
  unfold waybillref21_Same.f
  obtain ⟨k, rfl⟩ : ∃ m, k = m + 1 := ⟨k - 1, by omega⟩
  rw [if_pos rfl, waybillref21_Same.j0, if_neg (by simp)]
  exact same_l v l hs l.length 0 k (by omega) (by omega)
theorem ints_l (l : List Int) (hs : l.length < 4611686018427387904) : ∀ (d i k : Nat), i + d = l.length → d < k → waybillplain_SameInts.l0 k l l (i : Int) = some true
  | d, i, 0, _, h => by omega
  | 0, i, k + 1, h, _ => by rw [waybillplain_SameInts.l0, if_neg (by omega)]
  | d + 1, i, k + 1, h, hk => by
    rw [waybillplain_SameInts.l0, if_pos (by omega), if_pos (by omega), if_pos (by omega), if_pos rfl, w1 i (by omega)]
    exact ints_l l hs d (i + 1) k (by omega) (by omega)
theorem ints_f (l : List Int) (hs : l.length < 4611686018427387904) (k : Nat) (hk : l.length + 2 ≤ k) : waybillplain_SameInts.f k l l = some true := by
  unfold waybillplain_SameInts.f
  rw [if_pos rfl]
  exact ints_l l hs l.length 0 k (by omega) (by omega)
theorem backs_l (l : List S36) (hs : l.length < 4611686018427387904) : ∀ (d i k : Nat), i + d = l.length → d < k → waybillplain_SameBackends.l0 k l l (i : Int) = some true
  | d, i, 0, _, h => by omega
  | 0, i, k + 1, h, _ => by rw [waybillplain_SameBackends.l0, if_neg (by omega)]
  | d + 1, i, k + 1, h, hk => by
    rw [waybillplain_SameBackends.l0, if_pos (by omega), if_pos (by omega), if_pos (by omega), if_neg (by simp), w1 i (by omega)]
    exact backs_l l hs d (i + 1) k (by omega) (by omega)
theorem backs_f (l : List S36) (hs : l.length < 4611686018427387904) (k : Nat) (hk : l.length + 2 ≤ k) : waybillplain_SameBackends.f k l l = some true := by
  unfold waybillplain_SameBackends.f
  rw [if_pos rfl]
  exact backs_l l hs l.length 0 k (by omega) (by omega)
/-! ### what counts -/
theorem apply_f (v : Int) (l : List S36) (ss : List S24) : resolve_Apply.f v l ss = some (applyS v l ss) := rfl
theorem own_f (v : Int) (l : List S36) (h : l.length < 8796093022208) : waybillref21_Own.f v l = some (v, l) := by
  unfold waybillref21_Own.f
  rw [if_pos (by simpa using h), List.nil_append]
theorem takes_l (ss : List S24) (hs : ss.length < 4611686018427387904) : ∀ (d i k : Nat) (o : (Int × List S36) × Int), i + d = ss.length → d < k → 0 ≤ o.2 → o.2 ≤ i →
    waybillref21_Apply.l1 k ss o.2 (i : Int) o.1.1 o.1.2 = (waybillref21_Own.f ((ss.drop i).foldl takeS o).1.1 ((ss.drop i).foldl takeS o).1.2).bind fun b => some (b.1, b.2, ((ss.drop i).foldl takeS o).2, 0)
  | d, i, 0, _, _, h, _, _ => by omega
  | 0, i, k + 1, o, h, _, _, _ => by
    rw [waybillref21_Apply.l1, if_neg (by omega), List.drop_of_length_le (by omega)]
    rfl
  | d + 1, i, k + 1, o, h, hk, h0, h1 => by
    rw [waybillref21_Apply.l1, if_pos (by omega), if_pos (by omega), rdS ss i (by omega), w1 i (by omega), List.drop_eq_getElem_cons (by omega : i < ss.length), List.foldl_cons]
    by_cases hv : ss[i].f0 > o.1.1
    · rw [if_pos hv]
      have ht : takeS o ss[i] = ((ss[i].f0, ss[i].f1), o.2 + 1) := by unfold takeS; rw [if_pos hv]
      have hw : wrap64 (o.2 + 1) = o.2 + 1 := by unfold wrap64; omega
      rw [ht, hw]
      exact takes_l ss hs d (i + 1) k ((ss[i].f0, ss[i].f1), o.2 + 1) (by omega) (by omega) (by show 0 ≤ o.2 + 1; omega) (by show o.2 + 1 ≤ _; omega)
    · rw [if_neg hv]
      have ht : takeS o ss[i] = o := by unfold takeS; rw [if_neg hv]
      rw [ht]
      exact takes_l ss hs d (i + 1) k o (by omega) (by omega) h0 (by omega)
theorem takes_len (ss : List S24) (o : (Int × List S36) × Int) (n : Nat) (h : ∀ s ∈ ss, s.f1.length ≤ n) (ho : o.1.2.length ≤ n) : (ss.foldl takeS o).1.2.length ≤ n := by
  induction ss generalizing o with
  | nil => exact ho
  | cons s r ih =>
    rw [List.foldl_cons]
    refine ih _ (fun x hx => h x (by simp [hx])) ?_
    unfold takeS
    split
    · exact h s (by simp)
    · exact ho
theorem j1_f (v : Int) (l : List S36) (ss : List S24) (hs : ss.length < 4611686018427387904) (e : Int) (k : Nat) (hk : ss.length + 2 ≤ k) (hl : e = 0 → l.length ≤ 32 ∧ ∀ s ∈ ss, s.f1.length ≤ 32) :
    waybillref21_Apply.j1 k ss e v l = some (if e = 0 then ((takesS v l ss).1.1, (takesS v l ss).1.2, (takesS v l ss).2, 0) else (0, [], 0, e)) := by
  obtain ⟨k, rfl⟩ : ∃ m, k = m + 1 := ⟨k - 1, by omega⟩
  rw [waybillref21_Apply.j1]
  by_cases h : e = 0
  · rw [if_pos h, if_pos h]
    have h1 := takes_l ss hs ss.length 0 k ((v, l), 0) (by omega) (by omega) (by simp) (by simp)
    have h2 := takes_len ss ((v, l), 0) 32 (hl h).2 (hl h).1
    rw [List.drop_zero] at h1
    refine h1.trans ?_
    rw [own_f _ _ (by omega)]
    rfl
  · rw [if_neg h, if_neg h]
theorem apply_l (v : Int) (l : List S36) (ss : List S24) (hs : ss.length < 4611686018427387904) : ∀ (d i k : Nat) (e : Int), i + d = ss.length → d + ss.length + 80 ≤ k → ((if e = 0 then checksS (ss.drop i) else e) = 0 → l.length ≤ 32 ∧ ∀ s ∈ ss, s.f1.length ≤ 32) →
    waybillref21_Apply.l0 k ss e (i : Int) v l = some (if (if e = 0 then checksS (ss.drop i) else e) = 0 then ((takesS v l ss).1.1, (takesS v l ss).1.2, (takesS v l ss).2, 0) else (0, [], 0, if e = 0 then checksS (ss.drop i) else e))
  | d, i, 0, _, _, h, _ => by omega
  | 0, i, k + 1, e, h, hk, hl => by
    have hd : ss.drop i = [] := List.drop_of_length_le (by omega)
    rw [hd] at hl ⊢
    have he : (if e = 0 then checksS [] else e) = e := by
      split
      · rename_i h0; rw [h0]; rfl
      · rfl
    rw [he] at hl ⊢
    rw [waybillref21_Apply.l0, if_neg (by omega)]
    exact j1_f v l ss hs e k (by omega) hl
  | d + 1, i, k + 1, e, h, hk, hl => by
    rw [waybillref21_Apply.l0, if_pos (by omega)]
    by_cases h0 : e = 0
    · subst h0
      rw [if_pos rfl] at hl
      rw [if_pos rfl, if_pos (by omega), rdS ss i (by omega), check21_f _ _ k (by omega), Option.bind_some, w1 i (by omega), if_pos rfl]
      rw [List.drop_eq_getElem_cons (by omega : i < ss.length), checksS] at hl ⊢
      have := apply_l v l ss hs d (i + 1) k (checkS ss[i].f0 ss[i].f1) (by omega) (by omega) (by
        intro h1
        refine hl ?_
        exact h1)
      exact this
    · rw [if_neg h0] at hl
      rw [if_neg h0, if_neg h0]
      exact j1_f v l ss hs e k (by omega) hl
theorem ref_apply (v : Int) (l : List S36) (ss : List S24) (hs : ss.length < 4611686018427387904) (k : Nat) (hk : 2 * ss.length + 80 ≤ k) : waybillref21_Apply.f k v l ss = some (applyS v l ss) := by
  unfold waybillref21_Apply.f
  rw [check21_f v l k (by omega), Option.bind_some]
  have h := apply_l v l ss hs ss.length 0 k (checkS v l) (by omega) (by omega) (by
    intro h0
    rw [List.drop_zero] at h0
    have hb : bothS v l ss = 0 := h0
    obtain ⟨a, b⟩ := bothS_zero hb
    exact ⟨checkS_len v l a, fun s hs => checkS_len _ _ (checksS_mem ss b s hs)⟩)
  rw [List.drop_zero] at h
  exact h
end Go.Proofs.Ytaidadofkbagkaa.V
