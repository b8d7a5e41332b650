/- WindowTells: texts of this claim, packed: what the kit's print has written for it and own texts, without what its proof does not reach. -/
import Derived.Test.YtkdkjnjiianogaaKWindowTells1
import Derived.Test.YtkdkjnjiianogaaKWindowTells14
import Derived.Test.YtkdkjnjiianogaaKWindowTells15
import Derived.Test.YtkdkjnjiianogaaKWindowTells16
import Derived.Test.YtkdkjnjiianogaaKWindowTells18
import Derived.Test.YtkdkjnjiianogaaKWindowTells24
import Derived.Test.YtkdkjnjiianogaaKWindowTells25
import Derived.Test.YtkdkjnjiianogaaKWindowTells26
import Derived.Laws.BitsAllLaws
import Derived.Laws.BitsLemmas
import Derived.WalkKit
set_option linter.unusedVariables false
set_option linter.unusedSimpArgs false
set_option linter.unusedSectionVars false
section
set_option linter.unusedVariables false
set_option linter.unusedSimpArgs false
namespace Go.Proofs.Ytkdkjnjiianogaa.V
open WB Go Go.RowKit Go.Proofs.Ytkdkjnjiianogaa.G Go.Proofs.YtkdkjnjiianogaaW.PrintWords Go.Proofs.YtkdkjnjiianogaaW.PrintLast Go.Proofs.YtkdkjnjiianogaaW.PrintMore
/-- A run of numbers. -/
def span (a : Int) : Nat → List Int
  | 0 => []
  | n + 1 => a :: span (a + 1) n
theorem mem_span : ∀ (n : Nat) (a x : Int), x ∈ span a n ↔ a ≤ x ∧ x < a + n
  | 0, a, x => by
    simp only [span, List.not_mem_nil, false_iff]
    omega
  | n + 1, a, x => by
    rw [span, List.mem_cons, mem_span n]
    push_cast
    omega
theorem span_len : ∀ (n : Nat) (a : Int), (span a n).length = n
  | 0, _ => rfl
  | n + 1, a => by rw [span, List.length_cons, span_len n]
/-- Those that are open. -/
def gaps : Int → List S32 → List Int
  | _, [] => []
  | a, d :: l => span a (d.f0 - a).toNat ++ gaps (d.f0 + 1) l
theorem pair_of {l : List S32} (h : risesD l = true) : l.Pairwise (fun p q => p.f0 < q.f0) := by
  rw [List.pairwise_iff_getElem]
  intro i j hi hj hij
  have := rises_up l h i (j - i) (by omega)
  rw [Nat.add_sub_cancel' (by omega)] at this
  simp [List.getElem?_eq_getElem hi, List.getElem?_eq_getElem hj] at this
  omega
theorem wrap_ok (x : Int) (h0 : 0 ≤ x) (h1 : x < 4611686018427387904) : wrap64 x = x := by unfold wrap64; omega
theorem alive_f : waybilllaw22_alive.f = some true := by decide +kernel
theorem num_f (x : Int) : waybilllaw22_num.f x = some x := by rfl
theorem see_f (m : Int) (l : List S32) (s q : Int) : window_See.f m l s q = some (seeW m l s q) := rfl
theorem check_f (m : Int) (l : List S32) (s : Int) : window_Check.f m l s = some (checkW m l s) := rfl
theorem see_eq (m : Int) (l : List S32) (s q : Int) (h : checkW m l s = 0) : (seeW m l s q).1 = whatD m s l q ∧ (seeW m l s q).2.2.2.2 = 0 := by
  unfold seeW
  rw [if_neg (by rw [h]; simp)]
  split
  · rename_i h1
    exact ⟨h1.symm, rfl⟩
  · exact ⟨rfl, rfl⟩
theorem what_new (m s : Int) (l : List S32) (q : Int) : whatD m s l q = 0 ↔ m ≤ q ∧ q < m + s ∧ ∀ d ∈ l, d.f0 ≠ q := by
  unfold whatD
  split
  · simp; omega
  · split
    · simp; omega
    · split
      · rename_i h1 h2 h3
        rw [List.any_eq_true] at h3
        obtain ⟨d, hd, he⟩ := h3
        simp only [Int.one_ne_zero, false_iff, not_and]
        intro _ _ h
        exact h d hd (by simpa using he)
      · rename_i h1 h2 h3
        refine ⟨fun _ => ⟨by omega, by omega, fun d hd he => h3 ?_⟩, fun _ => rfl⟩
        rw [List.any_eq_true]
        exact ⟨d, hd, by simpa using he⟩
theorem gaps_len {m s : Int} : ∀ (l : List S32) (a : Int), l.Pairwise (fun p q => p.f0 < q.f0) → (∀ d ∈ l, a ≤ d.f0 ∧ d.f0 < m + s) → a ≤ m + s → ((gaps a l).length : Int) ≤ m + s - a
  | [], a, _, _, _ => by simp [gaps]; omega
  | d :: l, a, hp, hb, ha => by
    rw [List.pairwise_cons] at hp
    have hd := hb d List.mem_cons_self
    have := gaps_len (m := m) (s := s) l (d.f0 + 1) hp.2 (fun e he => ⟨by have := hp.1 e he; omega, (hb e (List.mem_cons_of_mem _ he)).2⟩) (by omega)
    rw [gaps, List.length_append, span_len]
    push_cast
    omega
theorem open_l1 (l : List S32) (i : Nat) (d : S32) (hi : i < 100000) (hd : d.f0 < 4000000000) (r : List Int × Int) : ∀ (n : Nat) (x7 : List Int) (a : Int), (d.f0 - a).toNat = n → 0 ≤ a → x7.length + n < 100000 → a ≤ d.f0 →
    Ev (fun k => window_Open.l0 k (x7 ++ span a n) (d.f0 + 1) l (l.length : Int) ((i + 1 : Nat) : Int)) r → Ev (fun k => window_Open.l1 k x7 a l (l.length : Int) (i : Int) d.f0 d.f1 d.f2) r := by
  intro n
  induction n with
  | zero =>
    intro x7 a hn h0 hx ha h
    refine Ev.step (fun k => ?_) h
    simp only [window_Open.l1]
    rw [if_neg (by omega), span, List.append_nil, wrap_ok _ (by omega) (by omega), wrap_ok _ (by omega) (by omega)]
    rfl
  | succ n ih =>
    intro x7 a hn h0 hx ha h
    refine Ev.step (fun k => ?_) (ih (x7 ++ [a]) (a + 1) (by omega) (by omega) (by simp; omega) (by omega) (by rw [List.append_assoc, List.singleton_append, ← span]; exact h))
    simp only [window_Open.l1]
    rw [if_pos (by omega), if_pos (by omega), wrap_ok _ (by omega) (by omega)]
theorem open_l0 (m s : Int) (l : List S32) (hm : May m s l) : ∀ (n i : Nat) (x7 : List Int) (a : Int), l.length - i = n → i ≤ l.length → m ≤ a → a ≤ m + s → (i < l.length → a ≤ (l.getD i z32).f0) → x7.length + (m + s - a).toNat < 1000 →
    Ev (fun k => window_Open.l0 k x7 a l (l.length : Int) (i : Int)) (x7 ++ gaps a (l.drop i), 0) := by
  have h1 := hm.m1
  have h2 := hm.m2
  have h3 := hm.s1
  have h4 := hm.s2
  have hl := hm.len
  intro n
  induction n with
  | zero =>
    intro i x7 a hn hi ha hb hc hx
    refine ⟨1, fun k hk => ?_⟩
    obtain ⟨k, rfl⟩ : ∃ q, k = q + 1 := ⟨k - 1, by omega⟩
    simp only [window_Open.l0]
    rw [if_neg (by omega), List.drop_of_length_le (by omega), gaps, List.append_nil]
  | succ n ih =>
    intro i x7 a hn hi ha hb hc hx
    have hlt : i < l.length := by omega
    have bd := hm.bds i hlt
    have hc := hc hlt
    obtain ⟨d, hd⟩ : ∃ d, d = l.getD i z32 := ⟨_, rfl⟩
    have hdr : l.drop i = d :: l.drop (i + 1) := by rw [hd, List.drop_eq_getElem_cons hlt]; simp [List.getElem?_eq_getElem hlt]
    rw [← hd] at bd hc
    have hsl := span_len (d.f0 - a).toNat a
    have e1 := ih (i + 1) (x7 ++ span a (d.f0 - a).toNat) (d.f0 + 1) (by omega) (by omega) (by omega) (by omega) (fun hlt2 => by have := rises_at l hm.up i hlt2; rw [← hd] at this; omega) (by rw [List.length_append, hsl]; omega)
    have e2 := open_l1 l i d (by omega) (by omega) _ (d.f0 - a).toNat x7 a rfl (by omega) (by omega) hc e1
    refine Ev.step (fun k => ?_) (by rw [hdr, gaps, ← List.append_assoc]; exact e2)
    have hrd : rd_T32 l (i : Int) = d := by rw [hd]; simp [rd_T32]
    simp only [window_Open.l0]
    rw [if_pos (by omega), if_pos (by omega), if_pos (by omega), hrd]
/-- Those that are open, and the error. -/
def openW (m : Int) (l : List S32) (s : Int) : List Int × Int := if checkW m l s = 0 then (gaps m l, 0) else ([], checkW m l s)
theorem open_f (m : Int) (l : List S32) (s : Int) : Ev (fun k => window_Open.f k m l s) (openW m l s) := by
  unfold openW
  split
  · rename_i h
    have hm := may_of _ _ _ h
    have h1 := hm.s1
    have h2 := hm.s2
    have e := open_l0 m s l hm l.length 0 [] m (by omega) (by omega) (by omega) (by omega) (fun hl => (hm.bds 0 hl).1) (by simp; omega)
    rw [List.drop_zero, List.nil_append] at e
    refine Ev.congr (fun k => ?_) e
    unfold window_Open.f
    rw [check_f, Option.bind_some, h, if_pos rfl]
    rfl
  · rename_i h
    refine Ev.congr (fun k => ?_) (Ev.now _)
    unfold window_Open.f
    rw [check_f, Option.bind_some, if_neg h]
end Go.Proofs.Ytkdkjnjiianogaa.V
end

section
set_option linter.unusedVariables false
set_option linter.unusedSimpArgs false
namespace Go.Proofs.Ytkdkjnjiianogaa.V
open WB Go Go.RowKit Go.Proofs.Ytkdkjnjiianogaa.G Go.Proofs.YtkdkjnjiianogaaW.PrintWords Go.Proofs.YtkdkjnjiianogaaW.PrintLast Go.Proofs.YtkdkjnjiianogaaW.PrintMore
theorem may_mem {m s : Int} {l : List S32} (h : May m s l) (d : S32) (hd : d ∈ l) : m ≤ d.f0 ∧ d.f0 < m + s ∧ 0 ≤ d.f1 ∧ d.f1 ≤ 1000 ∧ d.f2.length ≤ 1024 := by
  obtain ⟨i, hi, rfl⟩ := List.mem_iff_getElem.1 hd
  have := h.bds i hi
  rwa [show l.getD i z32 = l[i] by simp [List.getElem?_eq_getElem hi]] at this
theorem one_of {m s : Int} {l : List S32} (h : May m s l) {d e : S32} (hd : d ∈ l) (he : e ∈ l) (hs : d.f0 = e.f0) : d = e := by
  obtain ⟨i, hi, rfl⟩ := List.mem_iff_getElem.1 hd
  obtain ⟨j, hj, rfl⟩ := List.mem_iff_getElem.1 he
  have hp := pair_of h.up
  rw [List.pairwise_iff_getElem] at hp
  rcases Nat.lt_trichotomy i j with hij | rfl | hij
  · have := hp i j hi hj hij; omega
  · rfl
  · have := hp j i hj hi hij; omega
theorem forget_f (m : Int) (l : List S32) (s M : Int) : window_Forget.f m l s M = some (forgetW m l s M) := rfl
theorem same22_self (a b : Int) (l : List Int) : waybilllaw22_same.f a b l a b l = some true := by
  unfold waybilllaw22_same.f
  rw [if_pos rfl, if_pos rfl]
  unfold waybillplain_SameBytes.f
  simp
end Go.Proofs.Ytkdkjnjiianogaa.V
end

section
set_option linter.unusedVariables false
set_option linter.unusedSimpArgs false
namespace Go.Proofs.Ytkdkjnjiianogaa.V
open WB Go Go.RowKit Go.Proofs.Ytkdkjnjiianogaa.G Go.Proofs.YtkdkjnjiianogaaW.PrintWords Go.Proofs.YtkdkjnjiianogaaW.PrintLast Go.Proofs.YtkdkjnjiianogaaW.PrintMore
theorem put_f (m : Int) (l : List S32) (s : Int) (ds : List S32) : window_Put.f m l s ds = some (putsW m l s ds) := rfl
end Go.Proofs.Ytkdkjnjiianogaa.V
end

section
set_option linter.unusedVariables false
set_option linter.unusedSimpArgs false
namespace Go.Proofs.Ytkdkjnjiianogaa.Pure
open WB Go Go.RowKit Go.Proofs.Ytkdkjnjiianogaa.G Go.Proofs.Ytkdkjnjiianogaa.V Go.Proofs.YtkdkjnjiianogaaW.PrintWords Go.Proofs.YtkdkjnjiianogaaW.PrintLast Go.Proofs.YtkdkjnjiianogaaW.PrintMore
theorem rsee_all (m s q : Int) (l : List S32) (hl : l.length ≤ 9223372036854775807) : Ev (fun k => waybillref22_See.f k m l s q) (seeW m l s q) := by
  by_cases h : checkW m l s = 0
  · exact rsee_ev m s q l (may_of _ _ _ h)
  · obtain ⟨K, hK⟩ := rcheck_ev m s l hl
    refine ⟨K, fun k hk => ?_⟩
    show waybillref22_See.f k m l s q = _
    unfold waybillref22_See.f
    rw [hK k hk, Option.bind_some, if_neg h]
    unfold seeW
    rw [if_pos h]
theorem keep_snoc (l : List S32) (M : Int) (d : S32) : keepD (l ++ [d]) M = keepD l M ++ (if d.f0 ≥ M then [d] else []) := by
  unfold keepD
  rw [List.filter_append]
  by_cases h : d.f0 < M
  · rw [if_neg (by omega)]
    simp [h]
  · rw [if_pos (by omega)]
    simp [h]
theorem rforget_l0 (m s M : Int) (l : List S32) (hm : May m s l) : ∀ (n i : Nat), l.length - i = n → i ≤ l.length → ∀ k, n < k → waybillref22_Forget.l0 k (i : Int) m l M (keepD (l.take i) M) = some (M, keepD l M, (l.length : Int) - ((keepD l M).length : Int), 0) := by
  have hlen : l.length ≤ 64 := by have := hm.len; have := hm.s2; omega
  have hle : ∀ i, (keepD (l.take i) M).length ≤ l.length := fun i => Nat.le_trans (List.length_filter_le _ _) (by rw [List.length_take]; omega)
  have hle2 : (keepD l M).length ≤ l.length := List.length_filter_le _ _
  intro n
  induction n with
  | zero =>
    intro i hn hi k hk
    obtain ⟨k, rfl⟩ : ∃ q, k = q + 1 := ⟨k - 1, by omega⟩
    simp only [waybillref22_Forget.l0]
    rw [if_neg (by omega), List.take_of_length_le (by omega), wrap_in (by omega) (by omega)]
  | succ n ih =>
    intro i hn hi k hk
    obtain ⟨k, rfl⟩ : ∃ q, k = q + 1 := ⟨k - 1, by omega⟩
    have hlt : i < l.length := by omega
    have hxe : rd_T32 l (i : Int) = l[i] := by simp [rd_T32, List.getElem?_eq_getElem hlt]
    have hw2 : wrap64 ((i : Int) + 1) = ((i + 1 : Nat) : Int) := wrap_in (by omega) (by omega)
    have e := ih (i + 1) (by omega) (by omega) k (by omega)
    have h1 := hle i
    rw [List.take_succ_eq_append_getElem hlt, keep_snoc] at e
    simp only [waybillref22_Forget.l0]
    rw [if_pos (by omega), if_pos (by omega), hxe, hw2]
    by_cases c : l[i].f0 ≥ M
    · rw [if_pos c] at e
      rw [if_pos c, rkept _ (may_data hm _ (List.getElem_mem hlt)), Option.bind_some, if_pos (by omega)]
      exact e
    · rw [if_neg c, List.append_nil] at e
      rw [if_neg c]
      exact e
theorem rforget_all (m s M : Int) (l : List S32) (hl : l.length ≤ 9223372036854775807) : Ev (fun k => waybillref22_Forget.f k m l s M) (forgetW m l s M) := by
  obtain ⟨K, hK⟩ := rcheck_ev m s l hl
  refine ⟨K + l.length + 1, fun k hk => ?_⟩
  show waybillref22_Forget.f k m l s M = _
  unfold waybillref22_Forget.f forgetW
  rw [hK k (by omega), Option.bind_some]
  by_cases h : checkW m l s = 0
  · rw [if_pos h, if_neg (show ¬ (checkW m l s ≠ 0) by rw [h]; simp)]
    by_cases c : M > 1073741824
    · rw [if_pos c, if_pos c]
    · rw [if_neg c, if_neg c, show mx M m = max M m by unfold mx; omega]
      exact rforget_l0 m s (max M m) l (may_of _ _ _ h) l.length 0 (by omega) (by omega) k (by omega)
  · rw [if_neg h, if_pos h]
theorem span_add : ∀ (n k : Nat) (a : Int), span a (n + k) = span a n ++ span (a + n) k
  | 0, k, a => by simp [span]
  | n + 1, k, a => by
    rw [show n + 1 + k = (n + k) + 1 by omega, span, span, span_add n k (a + 1), List.cons_append]
    congr 3
    push_cast
    omega
def lastF (a : Int) : List S32 → Int
  | [] => a
  | [d] => d.f0
  | _ :: e :: l => lastF a (e :: l)
theorem last_ge : ∀ (l : List S32) (a : Int), l.Pairwise (fun p q => p.f0 < q.f0) → ∀ d ∈ l, d.f0 ≤ lastF a l
  | [d], a, _, x, hx => by
    obtain rfl : x = d := by simpa using hx
    exact Int.le_refl _
  | d :: e :: l, a, hp, x, hx => by
    rw [List.pairwise_cons] at hp
    rw [lastF]
    rcases List.mem_cons.1 hx with rfl | hx
    · have h1 := hp.1 e List.mem_cons_self
      have h2 := last_ge (e :: l) a hp.2 e List.mem_cons_self
      omega
    · exact last_ge (e :: l) a hp.2 x hx
theorem last_in : ∀ (l : List S32) (a b : Int), l ≠ [] → lastF a l = lastF b l ∧ ∃ d ∈ l, lastF a l = d.f0
  | [d], a, b, _ => ⟨rfl, d, by simp, rfl⟩
  | d :: e :: l, a, b, _ => by
    obtain ⟨h1, x, h2, h3⟩ := last_in (e :: l) a b (by simp)
    exact ⟨h1, x, List.mem_cons_of_mem _ h2, h3⟩
theorem gaps_filter (P : Int → Bool) (B : Int) : ∀ (l : List S32) (a : Int), l.Pairwise (fun p q => p.f0 < q.f0) → (∀ d ∈ l, a ≤ d.f0 ∧ d.f0 < B) → (∀ q, a ≤ q → q < B → (P q = true ↔ ∀ d ∈ l, d.f0 ≠ q)) → (span a (lastF a l - a).toNat).filter P = gaps a l
  | [], a, _, _, _ => by simp [lastF, span, gaps]
  | d :: l, a, hp, hb, hP => by
    have hd := hb d List.mem_cons_self
    have hpp := List.pairwise_cons.1 hp
    have hall : (span a (d.f0 - a).toNat).filter P = span a (d.f0 - a).toNat := List.filter_eq_self.2 (fun q hq => by
      have := (mem_span _ _ _).1 hq
      refine (hP q (by omega) (by omega)).2 (fun x hx => ?_)
      rcases List.mem_cons.1 hx with rfl | hx
      · omega
      · have := hpp.1 x hx; omega)
    cases l with
    | nil => rw [lastF, hall, gaps, gaps, List.append_nil]
    | cons e l =>
      have hb' : ∀ x ∈ e :: l, d.f0 + 1 ≤ x.f0 ∧ x.f0 < B := fun x hx => ⟨by have := hpp.1 x hx; omega, (hb x (List.mem_cons_of_mem _ hx)).2⟩
      have ih := gaps_filter P B (e :: l) (d.f0 + 1) hpp.2 hb' (fun q h1 h2 => by
        rw [hP q (by omega) h2]
        constructor
        · exact fun h x hx => h x (List.mem_cons_of_mem _ hx)
        · intro h x hx
          rcases List.mem_cons.1 hx with rfl | hx
          · omega
          · exact h x hx)
      have hla : lastF a (e :: l) = lastF (d.f0 + 1) (e :: l) := (last_in (e :: l) a (d.f0 + 1) (by simp)).1
      have hge := last_ge (e :: l) a hpp.2 e List.mem_cons_self
      have he := hb' e List.mem_cons_self
      have hno : P d.f0 = false := by
        cases hc : P d.f0 with
        | false => rfl
        | true => exact absurd rfl ((hP d.f0 hd.1 hd.2).1 hc d List.mem_cons_self)
      rw [lastF, gaps, ← ih, ← hla, show (lastF a (e :: l) - a).toNat = (d.f0 - a).toNat + (1 + (lastF a (e :: l) - (d.f0 + 1)).toNat) by omega, span_add, List.filter_append, hall, span_add, List.filter_append]
      congr 1
      have e1 : a + ((d.f0 - a).toNat : Int) = d.f0 := by omega
      rw [e1]
      have e2 : (span d.f0 1).filter P = [] := by simp [span, hno]
      rw [e2, List.nil_append]
      rfl
theorem ropen_l0 (m s : Int) (l : List S32) (hm : May m s l) : ∀ (n : Nat) (x7 : List Int) (a : Int), (lastF m l - a).toNat = n → m ≤ a → a ≤ m + s → x7.length + n < 100000 →
    Ev (fun k => waybillref22_Open.l0 k s x7 a m l) (x7 ++ (span a n).filter (fun q => decide (whatD m s l q = 0)), 0) := by
  have h1 := hm.m1
  have h2 := hm.m2
  have h3 := hm.s1
  have h4 := hm.s2
  have hlen := hm.len
  have hp := pair_of hm.up
  have hlst : 0 < l.length → (l.getD (l.length - 1) z32).f0 = lastF m l := by
    intro hl
    obtain ⟨_, d, hd, he⟩ := last_in l m m (by intro h; rw [h] at hl; cases hl)
    have hg := last_ge l m hp (l[l.length - 1]) (List.getElem_mem _)
    obtain ⟨i, hi, rfl⟩ := List.mem_iff_getElem.1 hd
    have := rises_up l hm.up i (l.length - 1 - i) (by omega)
    rw [Nat.add_sub_cancel' (by omega)] at this
    simp only [List.getD_eq_getElem?_getD, List.getElem?_eq_getElem hi, List.getElem?_eq_getElem (show l.length - 1 < l.length by omega), Option.getD_some] at this ⊢
    omega
  have hbd : 0 < l.length → lastF m l < m + s := fun hl => by
    obtain ⟨_, d, hd, he⟩ := last_in l m m (by intro h; rw [h] at hl; cases hl)
    have := (may_mem hm d hd).2.1
    omega
  have hnil : ¬ 0 < l.length → lastF m l = m := fun h => by
    have : l = [] := List.eq_nil_of_length_eq_zero (by omega)
    rw [this]
    rfl
  have hcond : ∀ (k : Nat) (x7 : List Int) (a : Int), m ≤ a → waybillref22_Open.l0 (k + 1) s x7 a m l = waybillref22_Open.j1 k s x7 a (decide (a < lastF m l)) m l := by
    intro k x7 a ha
    simp only [waybillref22_Open.l0]
    by_cases hl : 0 < l.length
    · have hrd : rd_T32 l ((l.length : Int) - 1) = l.getD (l.length - 1) z32 := by
        unfold rd_T32
        rw [show ((l.length : Int) - 1).toNat = l.length - 1 by omega]
      rw [if_pos (by omega), wrap_in (by omega) (by omega), if_pos (by omega), if_pos (by omega), hrd, hlst hl]
    · rw [if_neg (by omega), hnil hl, decide_eq_false (by omega)]
  intro n
  induction n with
  | zero =>
    intro x7 a hn ha hb hx
    refine ⟨2, fun k hk => ?_⟩
    obtain ⟨k, rfl⟩ : ∃ q, k = q + 2 := ⟨k - 2, by omega⟩
    show waybillref22_Open.l0 (k + 2) s x7 a m l = _
    rw [hcond (k + 1) x7 a ha, decide_eq_false (by omega)]
    simp only [waybillref22_Open.j1]
    rw [if_neg (by simp)]
    simp [span]
  | succ n ih =>
    intro x7 a hn ha hb hx
    have hl : 0 < l.length := by
      rcases Nat.eq_zero_or_pos l.length with h | h
      · have := hnil (by omega); omega
      · exact h
    have hlb := hbd hl
    obtain ⟨K, hK⟩ := rsee_ev m s a l hm
    have hs1 := (see_eq m l s a (check_of m s l hm)).1
    have hw : wrap64 (a + 1) = a + 1 := wrap_in (by omega) (by omega)
    by_cases c : whatD m s l a = 0
    · obtain ⟨K2, hK2⟩ := ih (x7 ++ [a]) (a + 1) (by omega) (by omega) (by omega) (by simp; omega)
      refine ⟨K + K2 + 2, fun k hk => ?_⟩
      obtain ⟨k, rfl⟩ : ∃ q, k = q + 2 := ⟨k - 2, by omega⟩
      show waybillref22_Open.l0 (k + 2) s x7 a m l = _
      rw [hcond (k + 1) x7 a ha, decide_eq_true (by omega)]
      simp only [waybillref22_Open.j1]
      replace hK2 := hK2 k (by omega)
      dsimp only at hK2
      rw [if_pos trivial, hK k (by omega), Option.bind_some, hs1, if_pos c, if_pos (by omega), hw, hK2, span, List.filter_cons_of_pos (by simpa using c)]
      simp
    · obtain ⟨K2, hK2⟩ := ih x7 (a + 1) (by omega) (by omega) (by omega) (by omega)
      refine ⟨K + K2 + 2, fun k hk => ?_⟩
      obtain ⟨k, rfl⟩ : ∃ q, k = q + 2 := ⟨k - 2, by omega⟩
      show waybillref22_Open.l0 (k + 2) s x7 a m l = _
      rw [hcond (k + 1) x7 a ha, decide_eq_true (by omega)]
      simp only [waybillref22_Open.j1]
      replace hK2 := hK2 k (by omega)
      dsimp only at hK2
      rw [if_pos trivial, hK k (by omega), Option.bind_some, hs1, if_neg c, hw, hK2, span, List.filter_cons_of_neg (by simpa using c)]
theorem ropen_all (m s : Int) (l : List S32) (hl : l.length ≤ 9223372036854775807) : Ev (fun k => waybillref22_Open.f k m l s) (openW m l s) := by
  obtain ⟨K, hK⟩ := rcheck_ev m s l hl
  by_cases h : checkW m l s = 0
  · have hm := may_of _ _ _ h
    have h1 := hm.s1
    have h2 := hm.s2
    have hp := pair_of hm.up
    have hla : lastF m l ≤ m + s := by
      by_cases h0 : l = []
      · rw [h0]; show m ≤ m + s; omega
      · obtain ⟨_, d, hd, he⟩ := last_in l m m h0
        have := (may_mem hm d hd).2.1
        omega
    obtain ⟨K2, hK2⟩ := ropen_l0 m s l hm (lastF m l - m).toNat [] m rfl (by omega) (by omega) (by simp; omega)
    have hg := gaps_filter (fun q => decide (whatD m s l q = 0)) (m + s) l m hp (fun d hd => ⟨(may_mem hm d hd).1, (may_mem hm d hd).2.1⟩) (fun q q1 q2 => by
      rw [decide_eq_true_iff, what_new]
      exact ⟨fun h => h.2.2, fun h => ⟨q1, q2, h⟩⟩)
    refine ⟨K + K2, fun k hk => ?_⟩
    show waybillref22_Open.f k m l s = _
    unfold waybillref22_Open.f openW
    rw [hK k (by omega), Option.bind_some, if_pos h, if_pos h]
    have := hK2 k (by omega)
    rw [hg, List.nil_append] at this
    exact this
  · refine ⟨K, fun k hk => ?_⟩
    show waybillref22_Open.f k m l s = _
    unfold waybillref22_Open.f openW
    rw [hK k hk, Option.bind_some, if_neg h, if_neg h]
theorem ints_l0 (l : List Int) (hl : l.length ≤ 9223372036854775807) : ∀ (n i : Nat), l.length - i = n → i ≤ l.length → ∀ k, n < k → waybillplain_SameInts.l0 k l l (i : Int) = some true := by
  intro n
  induction n with
  | zero =>
    intro i hn hi k hk
    obtain ⟨k, rfl⟩ : ∃ q, k = q + 1 := ⟨k - 1, by omega⟩
    simp only [waybillplain_SameInts.l0]
    rw [if_neg (by omega)]
  | succ n ih =>
    intro i hn hi k hk
    obtain ⟨k, rfl⟩ : ∃ q, k = q + 1 := ⟨k - 1, by omega⟩
    have e := ih (i + 1) (by omega) (by omega) k (by omega)
    simp only [waybillplain_SameInts.l0]
    rw [if_pos (by omega), if_pos (by omega), if_pos (by omega), if_pos trivial, show wrap64 ((i : Int) + 1) = ((i + 1 : Nat) : Int) from wrap_in (by omega) (by omega)]
    exact e
theorem ints_self (l : List Int) (hl : l.length ≤ 9223372036854775807) : Ev (fun k => waybillplain_SameInts.f k l l) true := by
  refine ⟨l.length + 1, fun k hk => ?_⟩
  show waybillplain_SameInts.f k l l = _
  unfold waybillplain_SameInts.f
  rw [if_pos rfl]
  exact ints_l0 l hl l.length 0 (by omega) (by omega) k (by omega)
theorem same_refl22 (m : Int) (l : List S32) : waybillref22_Same.f m l m l = some true := by
  unfold waybillref22_Same.f sameW
  simp [oneD]
theorem own_l0 (m : Int) (l : List S32) (hl : l.length ≤ 3518437208800) (hd : ∀ d ∈ l, d.f2.length ≤ 140737488351232) : ∀ (n i : Nat), l.length - i = n → i ≤ l.length → ∀ k, n < k → waybillref22_Own.l0 k (i : Int) m l m (l.take i) = some (m, l) := by
  intro n
  induction n with
  | zero =>
    intro i hn hi k hk
    obtain ⟨k, rfl⟩ : ∃ q, k = q + 1 := ⟨k - 1, by omega⟩
    simp only [waybillref22_Own.l0]
    rw [if_neg (by omega), List.take_of_length_le (by omega)]
  | succ n ih =>
    intro i hn hi k hk
    obtain ⟨k, rfl⟩ : ∃ q, k = q + 1 := ⟨k - 1, by omega⟩
    have hlt : i < l.length := by omega
    have hxe : rd_T32 l (i : Int) = l[i] := by simp [rd_T32, List.getElem?_eq_getElem hlt]
    have hw2 : wrap64 ((i : Int) + 1) = ((i + 1 : Nat) : Int) := wrap_in (by omega) (by omega)
    have e := ih (i + 1) (by omega) (by omega) k (by omega)
    rw [List.take_succ_eq_append_getElem hlt] at e
    have hk2 : waybillref22_Kept.f l[i].f0 l[i].f1 l[i].f2 = some (l[i].f0, l[i].f1, l[i].f2) := by
      have := hd _ (List.getElem_mem hlt)
      unfold waybillref22_Kept.f waybillref01_Copied.f
      rw [if_pos (by simp; omega)]
      rfl
    simp only [waybillref22_Own.l0]
    rw [if_pos (by omega), if_pos (by omega), hxe, hk2, Option.bind_some, if_pos (by rw [List.length_take]; omega), hw2]
    exact e
theorem open_len (m s : Int) (l : List S32) : (openW m l s).1.length ≤ 9223372036854775807 := by
  unfold openW
  by_cases h : checkW m l s = 0
  · have hm := may_of _ _ _ h
    have h1 := hm.s1
    have h2 := hm.s2
    have := gaps_len (m := m) (s := s) l m (pair_of hm.up) (fun d hd => ⟨(may_mem hm d hd).1, (may_mem hm d hd).2.1⟩) (by omega)
    rw [if_pos h]
    dsimp only
    omega
  · rw [if_neg h]
    simp
theorem tells_law (m s q M : Int) (l ds : List S32) (hl : l.length ≤ 3518437208800) (hd : ∀ d ∈ l, d.f2.length ≤ 140737488351232) : ∃ k, waybilllaw22_WindowTells.f k m l s q ds M = some true := by
  obtain ⟨K1, h1⟩ := rsee_all m s q l (by omega)
  obtain ⟨K2, h2⟩ := rforget_all m s M l (by omega)
  obtain ⟨K3, h3⟩ := ropen_all m s l (by omega)
  obtain ⟨K4, h4⟩ := open_f m l s
  obtain ⟨K5, h5⟩ := rcheck_ev m s l (by omega)
  obtain ⟨K6, h6⟩ := ints_self _ (open_len m s l)
  refine ⟨K1 + K2 + K3 + K4 + K5 + K6 + l.length + 2, ?_⟩
  obtain ⟨k, hk⟩ : ∃ k, k = K1 + K2 + K3 + K4 + K5 + K6 + l.length + 1 := ⟨_, rfl⟩
  rw [show K1 + K2 + K3 + K4 + K5 + K6 + l.length + 2 = k + 1 by omega]
  have ho : waybillref22_Own.f (k + 1) m l = some (m, l) := own_l0 m l hl hd l.length 0 (by omega) (by omega) _ (by omega)
  have g1 : waybillref22_See.f (k + 1) m l s q = some (seeW m l s q) := h1 _ (by omega)
  have g2 : waybillref22_Forget.f (k + 1) m l s M = some (forgetW m l s M) := h2 _ (by omega)
  have g3 : waybillref22_Open.f (k + 1) m l s = some (openW m l s) := h3 _ (by omega)
  have g4 : window_Open.f (k + 1) m l s = some (openW m l s) := h4 _ (by omega)
  have g5 : waybillref22_Check.f k m l s = some (checkW m l s) := h5 _ (by omega)
  have g6 : waybillplain_SameInts.f (k + 1) (openW m l s).1 (openW m l s).1 = some true := h6 _ (by omega)
  have gp : waybillref22_Put.f m l s ds = some (putsW m l s ds) := rfl
  unfold waybilllaw22_WindowTells.f
  rw [ho, Option.bind_some]
  dsimp only
  rw [see_f, Option.bind_some, g1, Option.bind_some, put_f, Option.bind_some, gp, Option.bind_some, forget_f, Option.bind_some, g2, Option.bind_some, g4, Option.bind_some, g3, Option.bind_some,
    if_pos rfl, same22_self, Option.bind_some, if_pos rfl, num_f, Option.bind_some, if_pos rfl, same_refl22, Option.bind_some, if_pos rfl, num_f, Option.bind_some, if_pos rfl, same_refl22, Option.bind_some, if_pos rfl, if_pos rfl, num_f, Option.bind_some, if_pos rfl,
    g6, Option.bind_some, if_pos rfl, num_f, Option.bind_some, bne_self_eq_false]
  simp only [waybilllaw22_WindowTells.j0]
  rw [if_neg (by simp), check_f, Option.bind_some, num_f, Option.bind_some, g5, Option.bind_some, if_pos rfl, same_refl22, Option.bind_some, if_pos rfl, alive_f, Option.bind_some]
theorem WindowTells (x0 : S24) (x1 x2 : Int) (x3 : List S32) (x4 : Int) {p0 p1 p2 p3 p4 q1 q2 q3 q4 : Prop} (_ : p0) (_ : p1) (_ : p2) (_ : p3) (_ : p4) (hs0 : True ∧ (x0.f1.length * 40 ≤ reachBytes ∧ ∀ a ∈ x0.f1, True ∧ True ∧ (a.f2.length * 1 ≤ reachBytes ∧ ∀ b ∈ a.f2, True))) (_ : q1) (_ : q2) (_ : q3) (_ : q4) : ∃ k, waybilllaw22_WindowTells.f k x0.f0 x0.f1 x1 x2 x3 x4 = some true := by
  refine tells_law x0.f0 x1 x2 x4 x0.f1 x3 ?_ (fun d hd => ?_)
  · have := hs0.2.1
    simp only [reachBytes] at this
    omega
  · have := (hs0.2.2 d hd).2.2.1
    simp only [reachBytes] at this
    omega
end Go.Proofs.Ytkdkjnjiianogaa.Pure
end
