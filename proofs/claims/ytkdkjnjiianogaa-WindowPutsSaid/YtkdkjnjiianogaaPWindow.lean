/- Plain words on windows: those that are open between those that are done. No program here. -/
import Derived.Test.YtkdkjnjiianogaaQBase
import Derived.Test.YtkdkjnjiianogaaGx10
import Derived.Test.YtkdkjnjiianogaaGx6
import Derived.Test.YtkdkjnjiianogaaGx7
import Derived.Test.YtkdkjnjiianogaaGx9
set_option linter.unusedVariables false
set_option linter.unusedSimpArgs false
namespace Go.Proofs.Ytkdkjnjiianogaa.V
open WB Go Go.RowKit Go.Proofs.Ytkdkjnjiianogaa.G Go.Proofs.YtkdkjnjiianogaaW.PrintWords Go.Proofs.YtkdkjnjiianogaaW.PrintLast Go.Proofs.YtkdkjnjiianogaaW.PrintMore
/-- A run of numbers. -/
def span (a : Int) : Nat → List Int
  | 0 => []
  | n + 1 => a :: span (a + 1) n
theorem span_snoc : ∀ (n : Nat) (a : Int), span a (n + 1) = span a n ++ [a + n]
  | 0, a => by simp [span]
  | n + 1, a => by
    have := span_snoc n (a + 1)
    rw [span, this, span, List.cons_append]
    congr 3
    push_cast
    omega
theorem mem_span : ∀ (n : Nat) (a x : Int), x ∈ span a n ↔ a ≤ x ∧ x < a + n
  | 0, a, x => by
    simp only [span, List.not_mem_nil, false_iff]
    omega
  | n + 1, a, x => by
    rw [span, List.mem_cons, mem_span n]
    push_cast
    omega
theorem span_len : ∀ (n : Nat) (a : Int), (span a n).length = n
  | 0, _ => rfl
  | n + 1, a => by rw [span, List.length_cons, span_len n]
/-- Those that are open. -/
def gaps : Int → List S32 → List Int
  | _, [] => []
  | a, d :: l => span a (d.f0 - a).toNat ++ gaps (d.f0 + 1) l
theorem mem_gaps : ∀ (l : List S32) (a x : Int), l.Pairwise (fun p q => p.f0 < q.f0) → (∀ d ∈ l, a ≤ d.f0) → (x ∈ gaps a l ↔ a ≤ x ∧ (∃ d ∈ l, x < d.f0) ∧ ∀ d ∈ l, d.f0 ≠ x)
  | [], a, x, _, _ => by simp [gaps]
  | d :: l, a, x, hp, hb => by
    rw [List.pairwise_cons] at hp
    have hd := hb d List.mem_cons_self
    rw [gaps, List.mem_append, mem_span, mem_gaps l (d.f0 + 1) x hp.2 (fun e he => by have := hp.1 e he; omega)]
    simp only [List.mem_cons, exists_eq_or_imp, forall_eq_or_imp]
    constructor
    · rintro (h | ⟨h1, h2, h3⟩)
      · exact ⟨by omega, Or.inl (by omega), by omega, fun e he => by have := hp.1 e he; omega⟩
      · exact ⟨by omega, Or.inr h2, by omega, h3⟩
    · rintro ⟨h1, h2, h3, h4⟩
      rcases Int.lt_or_le x d.f0 with h5 | h5
      · exact Or.inl (by omega)
      · refine Or.inr ⟨by omega, ?_, h4⟩
        rcases h2 with h2 | h2
        · omega
        · exact h2
theorem pair_of {l : List S32} (h : risesD l = true) : l.Pairwise (fun p q => p.f0 < q.f0) := by
  rw [List.pairwise_iff_getElem]
  intro i j hi hj hij
  have := rises_up l h i (j - i) (by omega)
  rw [Nat.add_sub_cancel' (by omega)] at this
  simp [List.getElem?_eq_getElem hi, List.getElem?_eq_getElem hj] at this
  omega
theorem wrap_ok (x : Int) (h0 : 0 ≤ x) (h1 : x < 4611686018427387904) : wrap64 x = x := by unfold wrap64; omega
theorem alive_f : waybilllaw22_alive.f = some true := by decide +kernel
theorem num_f (x : Int) : waybilllaw22_num.f x = some x := by rfl
theorem see_f (m : Int) (l : List S32) (s q : Int) : window_See.f m l s q = some (seeW m l s q) := rfl
theorem check_f (m : Int) (l : List S32) (s : Int) : window_Check.f m l s = some (checkW m l s) := rfl
theorem see_eq (m : Int) (l : List S32) (s q : Int) (h : checkW m l s = 0) : (seeW m l s q).1 = whatD m s l q ∧ (seeW m l s q).2.2.2.2 = 0 := by
  unfold seeW
  rw [if_neg (by rw [h]; simp)]
  split
  · rename_i h1
    exact ⟨h1.symm, rfl⟩
  · exact ⟨rfl, rfl⟩
theorem what_new (m s : Int) (l : List S32) (q : Int) : whatD m s l q = 0 ↔ m ≤ q ∧ q < m + s ∧ ∀ d ∈ l, d.f0 ≠ q := by
  unfold whatD
  split
  · simp; omega
  · split
    · simp; omega
    · split
      · rename_i h1 h2 h3
        rw [List.any_eq_true] at h3
        obtain ⟨d, hd, he⟩ := h3
        simp only [Int.one_ne_zero, false_iff, not_and]
        intro _ _ h
        exact h d hd (by simpa using he)
      · rename_i h1 h2 h3
        refine ⟨fun _ => ⟨by omega, by omega, fun d hd he => h3 ?_⟩, fun _ => rfl⟩
        rw [List.any_eq_true]
        exact ⟨d, hd, by simpa using he⟩
theorem below_last {m s : Int} {l : List S32} (hm : May m s l) (q : Int) : (∃ d ∈ l, q < d.f0) ↔ 0 < l.length ∧ q < (l.getD (l.length - 1) z32).f0 := by
  constructor
  · rintro ⟨d, hd, hq⟩
    obtain ⟨i, hi, rfl⟩ := List.mem_iff_getElem.1 hd
    have := rises_up l hm.up i (l.length - 1 - i) (by omega)
    rw [Nat.add_sub_cancel' (by omega)] at this
    rw [show l.getD i z32 = l[i] by simp [List.getElem?_eq_getElem hi]] at this
    exact ⟨by omega, by omega⟩
  · rintro ⟨h0, hq⟩
    refine ⟨_, List.getElem_mem (show l.length - 1 < l.length by omega), ?_⟩
    rw [show l.getD (l.length - 1) z32 = l[l.length - 1] by rw [List.getD_eq_getElem?_getD, List.getElem?_eq_getElem (by omega)]; rfl] at hq
    exact hq
theorem gaps_len {m s : Int} : ∀ (l : List S32) (a : Int), l.Pairwise (fun p q => p.f0 < q.f0) → (∀ d ∈ l, a ≤ d.f0 ∧ d.f0 < m + s) → a ≤ m + s → ((gaps a l).length : Int) ≤ m + s - a
  | [], a, _, _, _ => by simp [gaps]; omega
  | d :: l, a, hp, hb, ha => by
    rw [List.pairwise_cons] at hp
    have hd := hb d List.mem_cons_self
    have := gaps_len (m := m) (s := s) l (d.f0 + 1) hp.2 (fun e he => ⟨by have := hp.1 e he; omega, (hb e (List.mem_cons_of_mem _ he)).2⟩) (by omega)
    rw [gaps, List.length_append, span_len]
    push_cast
    omega
theorem open_l1 (l : List S32) (i : Nat) (d : S32) (hi : i < 100000) (hd : d.f0 < 4000000000) (r : List Int × Int) : ∀ (n : Nat) (x7 : List Int) (a : Int), (d.f0 - a).toNat = n → 0 ≤ a → x7.length + n < 100000 → a ≤ d.f0 →
    Ev (fun k => window_Open.l0 k (x7 ++ span a n) (d.f0 + 1) l (l.length : Int) ((i + 1 : Nat) : Int)) r → Ev (fun k => window_Open.l1 k x7 a l (l.length : Int) (i : Int) d.f0 d.f1 d.f2) r := by
  intro n
  induction n with
  | zero =>
    intro x7 a hn h0 hx ha h
    refine Ev.step (fun k => ?_) h
    simp only [window_Open.l1]
    rw [if_neg (by omega), span, List.append_nil, wrap_ok _ (by omega) (by omega), wrap_ok _ (by omega) (by omega)]
    rfl
  | succ n ih =>
    intro x7 a hn h0 hx ha h
    refine Ev.step (fun k => ?_) (ih (x7 ++ [a]) (a + 1) (by omega) (by omega) (by simp; omega) (by omega) (by rw [List.append_assoc, List.singleton_append, ← span]; exact h))
    simp only [window_Open.l1]
    rw [if_pos (by omega), if_pos (by omega), wrap_ok _ (by omega) (by omega)]
theorem open_l0 (m s : Int) (l : List S32) (hm : May m s l) : ∀ (n i : Nat) (x7 : List Int) (a : Int), l.length - i = n → i ≤ l.length → m ≤ a → a ≤ m + s → (i < l.length → a ≤ (l.getD i z32).f0) → x7.length + (m + s - a).toNat < 1000 →
    Ev (fun k => window_Open.l0 k x7 a l (l.length : Int) (i : Int)) (x7 ++ gaps a (l.drop i), 0) := by
  have h1 := hm.m1
  have h2 := hm.m2
  have h3 := hm.s1
  have h4 := hm.s2
  have hl := hm.len
  intro n
  induction n with
  | zero =>
    intro i x7 a hn hi ha hb hc hx
    refine ⟨1, fun k hk => ?_⟩
    obtain ⟨k, rfl⟩ : ∃ q, k = q + 1 := ⟨k - 1, by omega⟩
    simp only [window_Open.l0]
    rw [if_neg (by omega), List.drop_of_length_le (by omega), gaps, List.append_nil]
  | succ n ih =>
    intro i x7 a hn hi ha hb hc hx
    have hlt : i < l.length := by omega
    have bd := hm.bds i hlt
    have hc := hc hlt
    obtain ⟨d, hd⟩ : ∃ d, d = l.getD i z32 := ⟨_, rfl⟩
    have hdr : l.drop i = d :: l.drop (i + 1) := by rw [hd, List.drop_eq_getElem_cons hlt]; simp [List.getElem?_eq_getElem hlt]
    rw [← hd] at bd hc
    have hsl := span_len (d.f0 - a).toNat a
    have e1 := ih (i + 1) (x7 ++ span a (d.f0 - a).toNat) (d.f0 + 1) (by omega) (by omega) (by omega) (by omega) (fun hlt2 => by have := rises_at l hm.up i hlt2; rw [← hd] at this; omega) (by rw [List.length_append, hsl]; omega)
    have e2 := open_l1 l i d (by omega) (by omega) _ (d.f0 - a).toNat x7 a rfl (by omega) (by omega) hc e1
    refine Ev.step (fun k => ?_) (by rw [hdr, gaps, ← List.append_assoc]; exact e2)
    have hrd : rd_T32 l (i : Int) = d := by rw [hd]; simp [rd_T32]
    simp only [window_Open.l0]
    rw [if_pos (by omega), if_pos (by omega), if_pos (by omega), hrd]
/-- Those that are open, and the error. -/
def openW (m : Int) (l : List S32) (s : Int) : List Int × Int := if checkW m l s = 0 then (gaps m l, 0) else ([], checkW m l s)
theorem open_f (m : Int) (l : List S32) (s : Int) : Ev (fun k => window_Open.f k m l s) (openW m l s) := by
  unfold openW
  split
  · rename_i h
    have hm := may_of _ _ _ h
    have h1 := hm.s1
    have h2 := hm.s2
    have e := open_l0 m s l hm l.length 0 [] m (by omega) (by omega) (by omega) (by omega) (fun hl => (hm.bds 0 hl).1) (by simp; omega)
    rw [List.drop_zero, List.nil_append] at e
    refine Ev.congr (fun k => ?_) e
    unfold window_Open.f
    rw [check_f, Option.bind_some, h, if_pos rfl]
    rfl
  · rename_i h
    refine Ev.congr (fun k => ?_) (Ev.now _)
    unfold window_Open.f
    rw [check_f, Option.bind_some, if_neg h]
end Go.Proofs.Ytkdkjnjiianogaa.V
