/- SessionTells: texts of this claim, packed: what the kit's print has written for it and own texts, without what its proof does not reach. -/
import Derived.Test.YthfjgfldmkdlnaaKSessionTells1
import Derived.Test.YthfjgfldmkdlnaaKSessionTells14
import Derived.Test.YthfjgfldmkdlnaaKSessionTells15
import Derived.Test.YthfjgfldmkdlnaaKSessionTells16
import Derived.Test.YthfjgfldmkdlnaaKSessionTells17
import Derived.Test.YthfjgfldmkdlnaaKSessionTells19
import Derived.Test.YthfjgfldmkdlnaaKSessionTells20
import Derived.Test.YthfjgfldmkdlnaaKSessionTells22
import Derived.Test.YthfjgfldmkdlnaaKSessionTells23
import Derived.Test.YthfjgfldmkdlnaaKSessionTells24
import Derived.Test.YthfjgfldmkdlnaaKSessionTells25
import Derived.Laws.BitsAllLaws
import Derived.Laws.BitsLemmas
import Derived.WalkKit
set_option linter.unusedVariables false
set_option linter.unusedSimpArgs false
set_option linter.unusedSectionVars false
section
set_option linter.unusedVariables false
set_option linter.unusedSimpArgs false
namespace Go.Proofs.Ythfjgfldmkdlnaa.Pure
open WB Go Go.RowKit Go.Proofs.Ythfjgfldmkdlnaa.G Go.Proofs.YthfjgfldmkdlnaaW.PrintWords Go.Proofs.YthfjgfldmkdlnaaW.PrintLast Go.Proofs.YthfjgfldmkdlnaaW.PrintMore
theorem num_f (x : Int) : waybilllaw23_num.f x = some x := rfl
theorem open_f (l : List S38) (a b c n t cl : Int) : session_Open.f l a b c n t cl = some (openS l a b c n t cl) := rfl
theorem exp_f (l : List S38) (a b c n t : Int) : session_Expire.f l a b c n t = some (expireS l a b c n t) := rfl
theorem alive_f : waybilllaw23_alive.f = some true := by
  unfold waybilllaw23_alive.f
  rw [open_f, Option.bind_some]
  kernel_rfl
theorem wrap_id {x : Int} (h : -9223372036854775808 ≤ x) (h2 : x ≤ 9223372036854775807) : wrap64 x = x := by unfold wrap64; omega
theorem rcheck_f (l : List S38) (a b c n t : Int) : waybillref23_Check.f l a b c n t = some (checkS l a b c n t) := rfl
theorem oneD_refl (d : S51) : oneD d d = true := by unfold oneD; simp
theorem sameW_refl (m : Int) (l : List S51) : sameW m l m l = true := by
  unfold sameW
  simp [oneD_refl]
theorem sameS_refl (l : List S38) : waybillref23_Same.f l l = some true := by
  refine congrArg some (sameS_yes rfl (fun j hj => ?_))
  unfold oneS
  simp [sameW_refl]
theorem ints_l0 (l : List Int) (hl : l.length ≤ 1000000) : ∀ (n i : Nat), l.length - i = n → i ≤ l.length → ∀ k, n < k → waybillplain_SameInts.l0 k l l (i : Int) = some true := by
  intro n
  induction n with
  | zero =>
    intro i hn hi k hk
    obtain ⟨k, rfl⟩ : ∃ q, k = q + 1 := ⟨k - 1, by omega⟩
    simp only [waybillplain_SameInts.l0]
    rw [if_neg (by omega)]
  | succ n ih =>
    intro i hn hi k hk
    obtain ⟨k, rfl⟩ : ∃ q, k = q + 1 := ⟨k - 1, by omega⟩
    have e := ih (i + 1) (by omega) (by omega) k (by omega)
    simp only [waybillplain_SameInts.l0]
    rw [if_pos (by omega), if_pos (by omega), if_pos (by omega), if_pos trivial, show wrap64 ((i : Int) + 1) = ((i + 1 : Nat) : Int) by rw [wrap_id (by omega) (by omega)]; push_cast; rfl]
    exact e
theorem ints_self (l : List Int) (hl : l.length ≤ 1000000) (k : Nat) (hk : l.length < k) : waybillplain_SameInts.f k l l = some true := by
  unfold waybillplain_SameInts.f
  rw [if_pos rfl]
  exact ints_l0 l hl l.length 0 (by omega) (by omega) k hk
theorem ropen_f (l : List S38) (a b c n t cl : Int) (k : Nat) (hk : 200 < k) : waybillref23_Open.f k l a b c n t cl = some (openS l a b c n t cl) := by
  obtain ⟨k, rfl⟩ : ∃ q, k = q + 1 := ⟨k - 1, by omega⟩
  unfold waybillref23_Open.f openS
  rw [rcheck_f, Option.bind_some]
  by_cases h0 : checkS l a b c n t = 0
  · have hM := mayS_of h0
    have h64 := hM.s
    have hlen := hM.len
    have hnn := hM.n
    have four : waybillref23_Open.j0 (k + 1) l n t cl true a b c = some ([], 0, 4) := by
      simp only [waybillref23_Open.j0]
      rw [if_pos trivial]
    rw [if_pos h0, if_neg (show ¬ checkS l a b c n t ≠ 0 by rw [h0]; simp)]
    by_cases h1 : cl < 0
    · rw [if_pos h1, four, if_pos (out_true.2 (.inl h1))]
    · rw [if_neg h1]
      by_cases h2 : cl > 2147483647
      · rw [decide_eq_true h2, four, if_pos (out_true.2 (.inr h2))]
      · rw [decide_eq_false h2, if_neg (show ¬ outB cl 0 2147483647 = true by rw [out_false.2 ⟨by omega, by omega⟩]; simp)]
        simp only [waybillref23_Open.j0]
        rw [if_neg (by simp)]
        by_cases h3 : (l.length : Int) = a
        · rw [if_pos h3, if_pos (.inl h3)]
        · rw [if_neg h3]
          by_cases h4 : n = 1073741824
          · rw [if_pos h4, if_pos (.inr h4)]
          · rw [if_neg h4, if_neg (show ¬ ((l.length : Int) = a ∨ n = 1073741824) by rw [not_or]; exact ⟨h3, h4⟩), own23 l 64 (fit_may hM) k (by omega), Option.bind_some, if_pos (by omega), wrap_id (by omega) (by omega)]
  · rw [if_neg h0, if_pos h0]
theorem rexp_f (l : List S38) (a b c n t : Int) : waybillref23_Expire.f l a b c n t = some (expireS l a b c n t) := rfl
theorem find_f (l : List S38) (a b c n t x y : Int) : session_Find.f l a b c n t x y = some (findS l a b c n t x y) := rfl
theorem touch_f (l : List S38) (a b c n t i m : Int) (ds : List S51) : session_Touch.f l a b c n t i m ds = some (touchS l a b c n t i m ds) := rfl
theorem rfind_l0 (l : List S38) (x y : Int) (hl : l.length ≤ 64) : ∀ (m i : Nat), i ≤ l.length → l.length - i < m → (∀ z ∈ l.take i, isS x y z = false) →
    waybillref23_Find.l0 m l x y (i : Int) = some (if firstP (isS x y) l < 0 then (0, 71) else (firstP (isS x y) l, 0))
  | 0, i, h, hm, _ => by omega
  | m + 1, i, h, hm, hz => by
    simp only [waybillref23_Find.l0]
    by_cases hi : i < l.length
    · have w2 : wrap64 ((i : Int) + 1) = ((i + 1 : Nat) : Int) := by rw [wrap_id (by omega) (by omega)]; push_cast; rfl
      have ex : rd_T38 l (i : Int) = l[i] := by simp [rd_T38, List.getElem?_eq_getElem hi]
      obtain ⟨z, hzz⟩ : ∃ z, z = l[i] := ⟨_, rfl⟩
      have go : isS x y z = false → waybillref23_Find.l0 m l x y ((i + 1 : Nat) : Int) = some (if firstP (isS x y) l < 0 then (0, 71) else (firstP (isS x y) l, 0)) := fun hf =>
        rfind_l0 l x y hl m (i + 1) (by omega) (by omega) (fun q hq => by
          rw [List.take_succ_eq_append_getElem hi, List.mem_append] at hq
          rcases hq with hq | hq
          · exact hz q hq
          · simp only [List.mem_singleton] at hq
            rw [hq, ← hzz]; exact hf)
      rw [if_pos (by omega), if_pos (by omega), ex, ← hzz, w2]
      by_cases h1 : z.f0 = x
      · rw [if_pos h1]
        by_cases h2 : z.f1 = y
        · have hp : isS x y z = true := by unfold isS; simp [h1, h2]
          have e := firstP_at (isS x y) l i z (by rw [hzz]; exact List.getElem?_eq_getElem hi) hp hz
          rw [if_pos h2, e, if_neg (by omega)]
        · rw [if_neg h2]
          exact go (by unfold isS; simp [h2])
      · rw [if_neg h1]
        exact go (by unfold isS; simp [h1])
    · rw [List.take_of_length_le (by omega)] at hz
      rw [if_neg (by omega), firstP_none _ _ hz, if_pos (by omega)]
theorem rfind_f (l : List S38) (a b c n t x y : Int) (k : Nat) (hk : 200 < k) : waybillref23_Find.f k l a b c n t x y = some (findS l a b c n t x y) := by
  unfold waybillref23_Find.f findS
  rw [rcheck_f, Option.bind_some]
  by_cases h0 : checkS l a b c n t = 0
  · have hM := mayS_of h0
    have h64 := hM.s
    have hlen := hM.len
    rw [if_pos h0, if_neg (show ¬ checkS l a b c n t ≠ 0 by rw [h0]; simp)]
    exact rfind_l0 l x y (by omega) k 0 (by omega) (by omega) (by simp)
  · rw [if_neg h0, if_pos h0]
theorem rtouch_f (l : List S38) (a b c n t i m : Int) (ds : List S51) : waybillref23_Touch.f l a b c n t i m ds = some (touchS l a b c n t i m ds) := rfl
def hasP (p q : Int) (x : S38) : Bool := (x.f1 == p) || (x.f1 == q)
def ofS (l : List S38) (p q : Int) : List Int := (l.filter (hasP p q)).map (·.f0)
theorem ofS_snoc (l : List S38) (p q : Int) (x : S38) : ofS (l ++ [x]) p q = ofS l p q ++ (if hasP p q x = true then [x.f0] else []) := by
  unfold ofS
  rw [List.filter_append, List.map_append]
  congr 1
  by_cases h : hasP p q x = true <;> simp [h]
theorem ofS_len (l : List S38) (p q : Int) : (ofS l p q).length ≤ l.length := by unfold ofS; rw [List.length_map]; exact List.length_filter_le _ _
theorem has_f (p q c : Int) (k : Nat) (hk : 5 < k) : slices_Contains_int_int.f k [p, q] c = some (c == p || c == q) := by
  obtain ⟨k, rfl⟩ : ∃ j, k = j + 3 := ⟨k - 3, by omega⟩
  have w1 : wrap64 1 = 1 := by unfold wrap64; omega
  have w2 : wrap64 2 = 2 := by unfold wrap64; omega
  have h2 : ∀ x : Option Int, (if (2 : Int) < 2 then x else some (-1)) = some (-1) := fun x => if_neg (by omega)
  unfold slices_Contains_int_int.f slices_Index_int_int.f
  simp only [slices_Index_int_int.l0, List.length_cons, List.length_nil]
  by_cases h1 : c = p
  · simp [h1, rd]
  · have e1 : (c == p) = false := by simpa using h1
    by_cases h3 : c = q
    · have e2 : (c == q) = true := by simpa using h3
      simp [h1, e1, h3, e2, rd, w1]
      by_cases h4 : q = p
      · simp [h4]
      · simp [h4]
    · have e2 : (c == q) = false := by simpa using h3
      simp [h1, e1, h3, e2, rd, w1, w2]
theorem of_l0 (l : List S38) (p q : Int) (hl : l.length ≤ 64) : ∀ (m i : Nat), i ≤ l.length → l.length - i + 10 < m → session_Of.l0 m [p, q] (ofS (l.take i) p q) l (l.length : Int) (i : Int) = some (ofS l p q, 0)
  | 0, i, h, hm => by omega
  | m + 1, i, h, hm => by
    simp only [session_Of.l0]
    by_cases hi : i < l.length
    · have w2 : wrap64 ((i : Int) + 1) = ((i + 1 : Nat) : Int) := by rw [wrap_id (by omega) (by omega)]; push_cast; rfl
      have ih := of_l0 l p q hl m (i + 1) (by omega) (by omega)
      have ex : rd_T38 l (i : Int) = l[i] := by simp [rd_T38, List.getElem?_eq_getElem hi]
      have hlen := ofS_len (l.take i) p q
      rw [List.length_take] at hlen
      rw [List.take_succ_eq_append_getElem hi, ofS_snoc] at ih
      rw [if_pos (by omega), if_pos (by omega), if_pos (by omega), ex, has_f p q _ m (by omega), Option.bind_some, w2]
      by_cases h1 : hasP p q l[i] = true
      · rw [if_pos h1] at ih
        rw [if_pos (show ((l[i].f1 == p) || (l[i].f1 == q)) = true from h1), if_pos (by omega)]
        exact ih
      · rw [if_neg h1, List.append_nil] at ih
        rw [if_neg (show ¬ ((l[i].f1 == p) || (l[i].f1 == q)) = true from h1)]
        exact ih
    · rw [if_neg (by omega), List.take_of_length_le (by omega)]
theorem rof_l0 (l : List S38) (p q : Int) (hl : l.length ≤ 64) : ∀ (m i : Nat), i ≤ l.length → 4 * (l.length - i) + 4 < m → waybillref23_Of.l0 m l [p, q] (ofS (l.take i) p q) (i : Int) = some (ofS l p q, 0)
  | 0, i, h, hm => by omega
  | 1, i, h, hm => by omega
  | 2, i, h, hm => by omega
  | 3, i, h, hm => by omega
  | m + 4, i, h, hm => by
    simp only [waybillref23_Of.l0]
    by_cases hi : i < l.length
    · have w1 : wrap64 (0 + 1) = 1 := by unfold wrap64; omega
      have w3 : wrap64 (1 + 1) = 2 := by unfold wrap64; omega
      have w2 : wrap64 ((i : Int) + 1) = ((i + 1 : Nat) : Int) := by rw [wrap_id (by omega) (by omega)]; push_cast; rfl
      have ih0 := rof_l0 l p q hl (m + 2) (i + 1) (by omega)
      have ih1 := rof_l0 l p q hl (m + 1) (i + 1) (by omega)
      have ih2 := rof_l0 l p q hl m (i + 1) (by omega)
      have ex : rd_T38 l (i : Int) = l[i] := by simp [rd_T38, List.getElem?_eq_getElem hi]
      have hlen := ofS_len (l.take i) p q
      rw [List.length_take] at hlen
      rw [List.take_succ_eq_append_getElem hi, ofS_snoc] at ih0 ih1 ih2
      rw [if_pos (by omega)]
      simp only [waybillref23_Of.l1, List.length_cons, List.length_nil]
      have r0 : rd [p, q] 0 = p := by simp [rd]
      have r1 : rd [p, q] 1 = q := by simp [rd]
      rw [if_pos (by omega), if_pos (by omega), if_pos (by omega), if_pos (by omega), ex, r0, w1, w2]
      by_cases h1 : p = l[i].f1
      · have hp : hasP p q l[i] = true := by unfold hasP; simp [h1]
        rw [if_pos hp] at ih0
        rw [if_pos h1, if_pos (by omega)]
        exact ih0 (by omega)
      · rw [if_neg h1, if_pos (by omega), if_pos (by omega), if_pos (by omega), if_pos (by omega), r1]
        by_cases h2 : q = l[i].f1
        · have hp : hasP p q l[i] = true := by unfold hasP; simp [h2]
          rw [if_pos hp] at ih1
          rw [if_pos h2, if_pos (by omega)]
          exact ih1 (by omega)
        · have hp : hasP p q l[i] = false := by
            unfold hasP
            rw [Bool.or_eq_false_iff]
            exact ⟨by simpa using fun h => h1 h.symm, by simpa using fun h => h2 h.symm⟩
          rw [if_neg (by rw [hp]; simp), List.append_nil] at ih2
          rw [if_neg h2, w3, if_neg (by omega)]
          exact ih2 (by omega)
    · rw [if_neg (by omega), List.take_of_length_le (by omega)]
theorem tells_law (l : List S38) (a b c n t x y m : Int) (ds : List S51) (M : Nat) (hf : FitS l M) : ∃ k, waybilllaw23_SessionTells.f k l a b c n t x y m ds = some true := by
  refine ⟨l.length + M + ds.length + 1001, ?_⟩
  obtain ⟨k, hk⟩ : ∃ k, k = l.length + M + ds.length + 1000 := ⟨_, rfl⟩
  rw [show l.length + M + ds.length + 1001 = k + 1 by omega]
  have g0 : waybillref23_Own.f (k + 1) l = some l := own23 l M hf _ (by omega)
  have g1 := ropen_f l a b c n t y (k + 1) (by omega)
  have g3 := rfind_f l a b c n t x y (k + 1) (by omega)
  obtain ⟨o, g5, g6, ho⟩ : ∃ o : List Int × Int, session_Of.f (k + 1) l [y, x] = some o ∧ waybillref23_Of.f (k + 1) l [y, x] = some o ∧ o.1.length ≤ 64 := by
    by_cases h64 : (l.length : Int) > 64
    · refine ⟨([], 3), ?_, ?_, by simp⟩
      · unfold session_Of.f; rw [if_pos h64]
      · unfold waybillref23_Of.f; rw [if_pos h64]
    · refine ⟨(ofS l y x, 0), ?_, ?_, by have := ofS_len l y x; show (ofS l y x).length ≤ 64; omega⟩
      · unfold session_Of.f; rw [if_neg h64]; exact of_l0 l y x (by omega) _ 0 (by omega) (by omega)
      · unfold waybillref23_Of.f; rw [if_neg h64]; exact rof_l0 l y x (by omega) _ 0 (by omega) (by omega)
  have hge : (expireS l a b c n t).2.1.length ≤ 64 := by
    unfold expireS
    by_cases h0 : checkS l a b c n t = 0
    · rw [if_pos h0]
      have hM := mayS_of h0
      have h1 := hM.s
      have h2 := hM.len
      show (goneS b t l).length ≤ 64
      have : (goneS b t l).length ≤ l.length := by unfold goneS; rw [List.length_map]; exact List.length_filter_le _ _
      omega
    · rw [if_neg h0]; simp
  have g7 := ints_self _ (show (expireS l a b c n t).2.1.length ≤ 1000000 by omega) (k + 1) (by omega)
  have g8 := ints_self _ (show o.1.length ≤ 1000000 by omega) k (by omega)
  have hj : waybilllaw23_SessionTells.j0 (k + 1) l n t l o.1 o.2 o.1 o.2 false a b c = some true := by
    simp only [waybilllaw23_SessionTells.j0]
    rw [if_neg (by simp), g8, Option.bind_some, if_pos rfl, num_f, Option.bind_some, if_pos rfl, show session_Check.f l a b c n t = some (checkS l a b c n t) from rfl, Option.bind_some, num_f, Option.bind_some, rcheck_f, Option.bind_some, if_pos rfl, sameS_refl, Option.bind_some, if_pos rfl, alive_f, Option.bind_some]
  unfold waybilllaw23_SessionTells.f
  rw [g0, Option.bind_some, open_f, Option.bind_some, g1, Option.bind_some, exp_f, Option.bind_some, rexp_f, Option.bind_some, find_f, Option.bind_some, g3, Option.bind_some, touch_f, Option.bind_some, rtouch_f, Option.bind_some, g5, Option.bind_some, g6, Option.bind_some, sameS_refl, Option.bind_some, if_pos rfl, if_pos rfl, num_f, Option.bind_some, if_pos rfl, sameS_refl, Option.bind_some, if_pos rfl, g7, Option.bind_some, if_pos rfl, num_f, Option.bind_some, if_pos rfl, if_pos rfl, num_f, Option.bind_some, if_pos rfl, sameS_refl, Option.bind_some, if_pos rfl, num_f, Option.bind_some]
  rw [show ((touchS l a b c n t x m ds).2 != (touchS l a b c n t x m ds).2) = false by simp]
  exact hj
theorem SessionTells (x0 : List S38) (x1 : S24) (x2 x3 x4 x5 : Int) (x6 : S36) {p0 p1 p2 p3 p4 p5 p6 q1 q2 q3 q4 q5 q6 : Prop} (_ : p0) (_ : p1) (_ : p2) (_ : p3) (_ : p4) (_ : p5) (_ : p6) (hs0 : x0.length * 56 ≤ reachBytes ∧ ∀ x ∈ x0, True ∧ True ∧ True ∧ True ∧ x.f3.f1.length * 40 ≤ reachBytes ∧ ∀ d ∈ x.f3.f1, True ∧ True ∧ d.f2.length * 1 ≤ reachBytes ∧ ∀ u ∈ d.f2, True) (_ : q1) (_ : q2) (_ : q3) (_ : q4) (_ : q5) (_ : q6) : ∃ k, waybilllaw23_SessionTells.f k x0 x1.f0 x1.f1 x1.f2 x2 x3 x4 x5 x6.f0 x6.f1 = some true := by
  obtain ⟨M, hM⟩ := bound_of (fun x : S38 => x.f3.f1.length) x0
  have fd : ∀ ds : List S51, (ds.length * 40 ≤ reachBytes ∧ ∀ d ∈ ds, True ∧ True ∧ d.f2.length * 1 ≤ reachBytes ∧ ∀ u ∈ d.f2, True) → FitD ds := fun ds h => by
    simp only [reachBytes] at h
    exact ⟨by have := h.1; omega, fun d hd => by have := (h.2 d hd).2.2.1; omega⟩
  refine tells_law x0 _ _ _ _ _ _ _ _ _ M ⟨?_, fun x hx => ⟨fd _ (hs0.2 x hx).2.2.2.2, hM x hx⟩⟩
  have := hs0.1
  simp only [reachBytes] at this
  omega
end Go.Proofs.Ythfjgfldmkdlnaa.Pure
end
