/- MessageTellsUpto: texts of this claim, packed: what the kit's print has written for it and own texts, without what its proof does not reach. -/
import Derived.Test.YtkddlhcpplkpbaaKMessageTellsUpto0
set_option linter.unusedVariables false
set_option linter.unusedSimpArgs false
set_option linter.unusedSectionVars false
section
namespace WB
open Go Go.RowKit
/-- The octets of a number. -/
def enc (n : Nat) : List Int := if n < 128 then [(n : Int)] else ((n % 128 + 128 : Nat) : Int) :: enc (n / 128)
 termination_by n
 decreasing_by omega
theorem enc_small {n : Nat} (h : n < 128) : enc n = [(n : Int)] := by rw [enc, if_pos h]
theorem enc_big {n : Nat} (h : ¬ n < 128) : enc n = ((n % 128 + 128 : Nat) : Int) :: enc (n / 128) := by rw [enc, if_neg h]
theorem enc_pos (n : Nat) : 0 < (enc n).length := by
 rw [enc]
 split <;> simp
theorem enc_ok : ∀ (n : Nat), octetsOk (enc n) = true := by
 intro n
 induction n using Nat.strongRecOn with
 | _ n ih =>
  rcases Nat.lt_or_ge n 128 with h | h
  · rw [enc_small h]; simp [octetsOk]; omega
  · rw [enc_big (by omega)]
    have := ih (n / 128) (by omega)
    unfold octetsOk at this ⊢
    rw [List.all_cons, this]
    simp
    omega
theorem enc_len_le : ∀ (j n : Nat), n < 128 ^ (j + 1) → (enc n).length ≤ j + 1 := by
 intro j
 induction j with
 | zero => intro n h; rw [enc_small (by simpa using h)]; simp
 | succ j ih =>
  intro n h
  rcases Nat.lt_or_ge n 128 with h1 | h1
  · rw [enc_small h1]; simp
  · rw [enc_big (by omega), List.length_cons]
    have := ih (n / 128) (by rw [Nat.div_lt_iff_lt_mul (by decide), ← Nat.pow_succ]; exact h)
    omega
theorem enc_len_10 {n : Nat} (h : n < 18446744073709551616) : (enc n).length ≤ 10 :=
 enc_len_le 9 n (Nat.lt_of_lt_of_le h (by decide))
theorem octetsOk_append (a b : List Int) : octetsOk (a ++ b) = (octetsOk a && octetsOk b) := by simp [octetsOk]
theorem octetsOk_cons (a : Int) (b : List Int) : octetsOk (a :: b) = ((decide (0 ≤ a) && decide (a < 256)) && octetsOk b) := by simp [octetsOk]
theorem octetsOk_drop {l : List Int} (h : octetsOk l = true) (n : Nat) : octetsOk (l.drop n) = true := by
 unfold octetsOk at h ⊢
 rw [List.all_eq_true] at h ⊢
 exact fun x hx => h x (List.mem_of_mem_drop hx)
theorem octetsOk_take {l : List Int} (h : octetsOk l = true) (n : Nat) : octetsOk (l.take n) = true := by
 unfold octetsOk at h ⊢
 rw [List.all_eq_true] at h ⊢
 exact fun x hx => h x (List.mem_of_mem_take hx)
/-- What is put is got. -/
theorem getB_enc : ∀ (q : Nat) (i : Nat) (acc : Int) (rest : List Int), i ≤ 9 → q * 128 ^ i < 18446744073709551616 → (i = 0 ∨ 0 < q) →
  getB (enc q ++ rest) i acc = (acc + q * 128 ^ i, i + (enc q).length, 0) := by
 intro q
 induction q using Nat.strongRecOn with
 | _ q ih =>
  intro i acc rest hi hq h0
  have h9 : i = 9 → q ≤ 1 := by
    rintro rfl
    have : (128 : Nat) ^ 9 = 9223372036854775808 := by decide
    rw [this] at hq
    omega
  rcases Nat.lt_or_ge q 128 with h | h
  · rw [enc_small h]
    show getB ((q : Int) :: rest) i acc = _
    unfold getB
    rw [if_pos ⟨by omega, by omega, by omega⟩]
    rfl
  · rw [enc_big (by omega)]
    show getB (((q % 128 + 128 : Nat) : Int) :: (enc (q / 128) ++ rest)) i acc = _
    have hi9 : i < 9 := by omega
    have hdm := Nat.div_add_mod q 128
    have hle : q / 128 * 128 ^ (i + 1) ≤ q * 128 ^ i := by
      rw [Nat.pow_succ, Nat.mul_comm (128 ^ i), ← Nat.mul_assoc]
      exact Nat.mul_le_mul_right _ (by omega)
    have := ih (q / 128) (by omega) (i + 1) (acc + (((q % 128 + 128 : Nat) : Int) % 128) * 128 ^ i) rest (by omega) (by omega) (by omega)
    unfold getB
    rw [if_neg (by omega), if_neg (by omega), this, List.length_cons]
    have e1 : (((q % 128 + 128 : Nat) : Int) % 128) = ((q % 128 : Nat) : Int) := by omega
    have e2 : (q : Int) = 128 * ((q / 128 : Nat) : Int) + ((q % 128 : Nat) : Int) := by omega
    rw [e1, Int.pow_succ]
    congr 1
    · rw [Int.add_assoc]
      congr 1
      rw [e2, Int.add_mul, Int.add_comm]
      congr 1
      rw [Int.mul_comm ((128 : Int) ^ i) 128, ← Int.mul_assoc, Int.mul_comm (((q / 128 : Nat) : Int)) 128]
    · congr 1
      omega
/-- What is got was put. -/
theorem getB_just : ∀ (cs : List Int) (i : Nat) (acc : Int) (n : Int) (m : Nat), octetsOk cs = true → i ≤ 9 → getB cs i acc = (n, m, 0) →
  ∃ (q : Nat) (rest : List Int), cs = enc q ++ rest ∧ n = acc + q * 128 ^ i ∧ m = i + (enc q).length ∧ (i = 0 ∨ 0 < q) ∧ q < 128 ^ (9 - i) * 2 := by
 intro cs
 induction cs with
 | nil => intro i acc n m _ _ h; simp [getB] at h
 | cons c cs ih =>
  intro i acc n m hok hi h
  rw [octetsOk_cons] at hok
  simp only [Bool.and_eq_true, decide_eq_true_eq] at hok
  obtain ⟨⟨h0, h1⟩, hcs⟩ := hok
  obtain ⟨c, rfl⟩ := Int.eq_ofNat_of_zero_le h0
  unfold getB at h
  by_cases hS : (c : Int) < 128 ∧ (0 < (c : Int) ∨ i = 0) ∧ (i < 9 ∨ (c : Int) = 1)
  · rw [if_pos hS] at h
    simp only [Prod.mk.injEq] at h
    refine ⟨c, cs, by rw [enc_small (by omega)]; rfl, h.1.symm, by rw [enc_small (by omega)]; exact h.2.1.symm, by omega, ?_⟩
    rcases hS.2.2 with h9 | h9
    · have : 128 ^ 1 ≤ 128 ^ (9 - i) := Nat.pow_le_pow_right (by decide) (by omega)
      omega
    · have : 0 < 128 ^ (9 - i) := Nat.pow_pos (by decide)
      omega
  · rw [if_neg hS] at h
    by_cases hE : (c : Int) < 128 ∨ i = 9
    · rw [if_pos hE] at h
      simp at h
    · rw [if_neg hE] at h
      have hi9 : i < 9 := by omega
      obtain ⟨q, rest, e1, e2, e3, e4, e5⟩ := ih (i + 1) _ n m hcs (by omega) h
      have hq : 0 < q := by omega
      have hc : 128 ≤ c := by omega
      have hc2 : c < 256 := by omega
      have hb : ¬ (q * 128 + c % 128) < 128 := by omega
      have hd : (q * 128 + c % 128) / 128 = q := by omega
      have hm : (q * 128 + c % 128) % 128 + 128 = c := by omega
      refine ⟨q * 128 + c % 128, rest, ?_, ?_, ?_, .inr (by omega), ?_⟩
      · rw [enc_big hb, hd, hm, e1]; rfl
      · rw [e2, Int.pow_succ]
        have e6 : ((q * 128 + c % 128 : Nat) : Int) = (q : Int) * 128 + (c : Int) % 128 := by omega
        rw [e6, Int.add_mul, Int.add_assoc]
        congr 1
        rw [Int.add_comm]
        congr 1
        rw [Int.mul_comm ((128 : Int) ^ i) 128, ← Int.mul_assoc]
      · rw [enc_big hb, hd, List.length_cons]; omega
      · have e7 : 9 - i = (9 - (i + 1)) + 1 := by omega
        rw [e7, Nat.pow_succ]
        omega
/-- The number at the head. -/
theorem getB_zero {cs : List Int} (hok : octetsOk cs = true) {n : Int} {m : Nat} (h : getB cs 0 0 = (n, m, 0)) :
  ∃ (q : Nat) (rest : List Int), cs = enc q ++ rest ∧ n = q ∧ m = (enc q).length ∧ q < 18446744073709551616 := by
 obtain ⟨q, rest, e1, e2, e3, _, e5⟩ := getB_just cs 0 0 n m hok (by omega) h
 refine ⟨q, rest, e1, by simpa using e2, by simpa using e3, ?_⟩
 have : (128 : Nat) ^ (9 - 0) * 2 = 18446744073709551616 := by decide
 omega
theorem getB_err {cs : List Int} {i : Nat} {acc : Int} : (getB cs i acc).2.2 = 0 ∨ ((getB cs i acc).1 = 0 ∧ ((getB cs i acc).2.2 = 8 ∨ (getB cs i acc).2.2 = 21)) := by
 induction cs generalizing i acc with
 | nil => right; simp [getB]
 | cons c cs ih =>
  unfold getB
  split
  · left; rfl
  · split
    · right; simp
    · exact ih
theorem getAt_in {l : List Int} {a : Nat} (h : a ≤ l.length) : getAt l a = (if (getB (l.drop a) 0 0).2.2 = 0 then ((getB (l.drop a) 0 0).1, (a : Int) + ((getB (l.drop a) 0 0).2.1 : Int), (0 : Int)) else ((0 : Int), (0 : Int), (getB (l.drop a) 0 0).2.2)) := by
 unfold getAt
 rw [if_neg (by omega), Int.toNat_natCast]
 obtain ⟨x, y, z⟩ := getB (l.drop a) 0 0
 by_cases hz : z = 0
 · subst hz
   rfl
 · rw [if_neg hz]
   split
   · next h =>
     simp only [Prod.mk.injEq] at h
     exact absurd h.2.2 hz
   · next h =>
     simp only [Prod.mk.injEq] at h
     rw [h.2.2]
/-- What stands behind a's octets. -/
theorem getAt_enc (a : List Int) (q : Nat) (rest : List Int) (h : q < 18446744073709551616) : getAt (a ++ (enc q ++ rest)) a.length = ((q : Int), (a.length + (enc q).length : Int), 0) := by
 rw [getAt_in (by simp), List.drop_left, getB_enc q 0 0 rest (by omega) (by simpa using h) (.inl rfl)]
 simp
/-- Whatever is got: an error, or a number that stands there. -/
theorem getAt_cases {l : List Int} (hok : octetsOk l = true) (a : Int) :
   (∃ e, getAt l a = (0, 0, e) ∧ (e = 4 ∨ e = 8 ∨ e = 21)) ∨ ∃ (q : Nat) (x rest : List Int), l = x ++ (enc q ++ rest) ∧ a = x.length ∧ q < 18446744073709551616 ∧ getAt l a = ((q : Int), a + (enc q).length, 0) := by
 by_cases h : a < 0 ∨ (l.length : Int) < a
 · exact .inl ⟨4, by unfold getAt; rw [if_pos h], .inl rfl⟩
 · obtain ⟨n, rfl⟩ := Int.eq_ofNat_of_zero_le (show 0 ≤ a by omega)
   rcases hg : getB (l.drop n) 0 0 with ⟨x, y, z⟩
   have he := getB_err (cs := l.drop n) (i := 0) (acc := 0)
   rw [hg] at he
   have hin := getAt_in (l := l) (a := n) (by omega)
   rw [hg] at hin
   simp only at hin he
   by_cases hz : z = 0
   · subst hz
     obtain ⟨q, rest, e1, e2, e3, e4⟩ := getB_zero (octetsOk_drop hok n) hg
     refine .inr ⟨q, l.take n, rest, ?_, ?_, e4, ?_⟩
     · rw [← e1, List.take_append_drop]
     · rw [List.length_take]; omega
     · rw [hin, if_pos rfl, e2, e3]
   · exact .inl ⟨z, by rw [hin, if_neg hz], by omega⟩
end WB
end
