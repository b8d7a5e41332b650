/- MessageTellsUpto: texts of this claim, packed: what the kit's print has written for it and own texts, without what its proof does not reach. -/
import Derived.Laws.BitsAllLaws
import Derived.Laws.BitsLemmas
import Derived.WalkKit
set_option linter.unusedVariables false
set_option linter.unusedSimpArgs false
set_option linter.unusedSectionVars false
section
namespace WB
open Go Go.RowKit
def octetsOk (l : List Int) : Bool := l.all fun x => decide (0 ≤ x) && decide (x < 256)
theorem octetsOk_get {l : List Int} (h : octetsOk l = true) (i : Nat) : 0 ≤ l.getD i 0 ∧ l.getD i 0 < 256 := by
 unfold octetsOk at h
 rw [List.all_eq_true] at h
 rcases Nat.lt_or_ge i l.length with hi | hi
 · have := h _ (List.getElem_mem hi)
   rw [List.getD_eq_getElem?_getD, List.getElem?_eq_getElem hi]
   simpa using this
 · rw [List.getD_eq_getElem?_getD, List.getElem?_eq_none hi]
   simp
/-- The number whose octets stand at the head: i of them have been read, they made acc. -/
def getB : List Int → Nat → Int → Int × Nat × Int
 | [], _, _ => (0, 0, 8)
 | c :: cs, i, acc =>
  if c < 128 ∧ (0 < c ∨ i = 0) ∧ (i < 9 ∨ c = 1) then (acc + c * 128 ^ i, i + 1, 0)
  else if c < 128 ∨ i = 9 then (0, 0, 21)
  else getB cs (i + 1) (acc + (c % 128) * 128 ^ i)
def getAt (l : List Int) (a : Int) : Int × Int × Int :=
 if a < 0 ∨ (l.length : Int) < a then (0, 0, 4) else
  match getB (l.drop a.toNat) 0 0 with
  | (n, m, 0) => (n, a + m, 0)
  | (_, _, e) => (0, 0, e)
theorem and127_ (x : Int) (h0 : 0 ≤ x) (h1 : x < 256) : bits .and .u8 x 127 = x % 128 := bits_mask .u8 8 (by decide) wraps_u8 7 (by decide) x h0 h1
theorem or_join_ (i : Nat) (a c : Int) (h0 : 0 ≤ a) (ha : a < 128 ^ i) (c0 : 0 ≤ c) (c1 : c < 128) (hi : i ≤ 9) (h9 : i < 9 ∨ c ≤ 1) : bits .or .u64 a (IntKind.u64.wrap (c * 2 ^ (7 * i))) = a + c * 128 ^ i ∧ (i < 9 → a + c * 128 ^ i < 128 ^ (i + 1)) ∧ 0 ≤ a + c * 128 ^ i := by
 obtain ⟨a, rfl⟩ := Int.eq_ofNat_of_zero_le h0
 obtain ⟨c, rfl⟩ := Int.eq_ofNat_of_zero_le c0
 have h128 : ((128 : Int) ^ i) = ((2 ^ (7 * i) : Nat) : Int) := by
  rw [Nat.pow_mul, Int.natCast_pow]
  congr 1
 have h2 : ((2 : Int) ^ (7 * i)) = ((2 ^ (7 * i) : Nat) : Int) := by rw [Int.natCast_pow]; rfl
 rw [Int.pow_succ, h2]
 rw [h128] at ha ⊢
 have ha' : a < 2 ^ (7 * i) := by omega
 have hm : ((c : Int) * ((2 ^ (7 * i) : Nat) : Int)) = ((c * 2 ^ (7 * i) : Nat) : Int) := (Int.natCast_mul _ _).symm
 have hle : (2 : Nat) ^ (7 * i) ≤ 2 ^ 63 := Nat.pow_le_pow_right (by decide) (by omega)
 have hlt : c * 2 ^ (7 * i) < 18446744073709551616 := by
  rcases h9 with h9 | h9
  · have h56 : (2 : Nat) ^ (7 * i) ≤ 2 ^ 56 := Nat.pow_le_pow_right (by decide) (by omega)
    have h3 : c * 2 ^ (7 * i) ≤ 128 * 2 ^ 56 := Nat.mul_le_mul (by omega) h56
    omega
  · have h3 : c * 2 ^ (7 * i) ≤ 1 * 2 ^ 63 := Nat.mul_le_mul (by omega) hle
    omega
 have hlt2 : c * 2 ^ (7 * i) + 2 ^ (7 * i) ≤ 128 * 2 ^ (7 * i) := by rw [← Nat.succ_mul]; exact Nat.mul_le_mul_right _ (by omega)
 rw [hm]
 have hw : IntKind.u64.wrap ((c * 2 ^ (7 * i) : Nat) : Int) = ((c * 2 ^ (7 * i) : Nat) : Int) := by rw [IntKind.wrap_u64]; omega
 refine ⟨?_, fun _ => by omega, by omega⟩
 rw [hw, u64_or_nat a (c * 2 ^ (7 * i)) (by omega) (by omega), Nat.or_comm, Nat.mul_comm c, ← Nat.two_pow_add_eq_or_of_lt ha' c, Nat.add_comm, Int.natCast_add]
theorem add_join_ (i : Nat) (a c : Int) (h0 : 0 ≤ a) (ha : a < 128 ^ i) (c0 : 0 ≤ c) (c1 : c < 128) (hi : i ≤ 9) (h9 : i < 9 ∨ c ≤ 1) : IntKind.u64.wrap (a + IntKind.u64.wrap (c * 128 ^ i)) = a + c * 128 ^ i ∧ (i < 9 → a + c * 128 ^ i < 128 ^ (i + 1)) ∧ 0 ≤ a + c * 128 ^ i ∧ (i < 9 → IntKind.u64.wrap (128 ^ i * 128) = 128 ^ (i + 1)) := by
 obtain ⟨a, rfl⟩ := Int.eq_ofNat_of_zero_le h0
 obtain ⟨c, rfl⟩ := Int.eq_ofNat_of_zero_le c0
 have h128 : ((128 : Int) ^ i) = ((2 ^ (7 * i) : Nat) : Int) := by
  rw [Nat.pow_mul, Int.natCast_pow]
  congr 1
 rw [Int.pow_succ]
 rw [h128] at ha ⊢
 have hm : ((c : Int) * ((2 ^ (7 * i) : Nat) : Int)) = ((c * 2 ^ (7 * i) : Nat) : Int) := (Int.natCast_mul _ _).symm
 have hle : (2 : Nat) ^ (7 * i) ≤ 2 ^ 63 := Nat.pow_le_pow_right (by decide) (by omega)
 have h56 : i < 9 → (2 : Nat) ^ (7 * i) ≤ 2 ^ 56 := fun h9 => Nat.pow_le_pow_right (by decide) (by omega)
 have hlt : c * 2 ^ (7 * i) + 2 ^ (7 * i) ≤ 18446744073709551616 := by
  rcases h9 with h9 | h9
  · have h3 : (c + 1) * 2 ^ (7 * i) ≤ 128 * 2 ^ 56 := Nat.mul_le_mul (by omega) (h56 h9)
    rw [Nat.succ_mul] at h3
    omega
  · have h3 : (c + 1) * 2 ^ (7 * i) ≤ 2 * 2 ^ 63 := Nat.mul_le_mul (by omega) hle
    rw [Nat.succ_mul] at h3
    omega
 have hlt2 : c * 2 ^ (7 * i) + 2 ^ (7 * i) ≤ 128 * 2 ^ (7 * i) := by rw [← Nat.succ_mul]; exact Nat.mul_le_mul_right _ (by omega)
 rw [hm]
 have hw : IntKind.u64.wrap ((c * 2 ^ (7 * i) : Nat) : Int) = ((c * 2 ^ (7 * i) : Nat) : Int) := by rw [IntKind.wrap_u64]; omega
 rw [hw, IntKind.wrap_u64, IntKind.wrap_u64]
 refine ⟨by omega, fun _ => by omega, by omega, fun h9 => by have := h56 h9; omega⟩
end WB
end
