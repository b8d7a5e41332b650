/- MessageTellsUpto: texts of this claim, packed: what the kit's print has written for it and own texts, without what its proof does not reach. -/
import Derived.Laws.BitsAllLaws
import Derived.Laws.BitsLemmas
import Derived.WalkKit
set_option linter.unusedVariables false
set_option linter.unusedSimpArgs false
set_option linter.unusedSectionVars false
section
namespace WB
open Go Go.RowKit
def turn32 : BitVec 32 := 0xedb88320#32
def bit32 (b : Bool) : BitVec 32 := bif b then 1#32 else 0#32
def stp (c : BitVec 32) : BitVec 32 := (c >>> 1) ^^^ (bif c.getLsbD 0 then turn32 else 0#32)
theorem stp_xor (a b : BitVec 32) : stp (a ^^^ b) = stp a ^^^ stp b := by
 unfold stp
 rw [BitVec.ushiftRight_xor_distrib, BitVec.getLsbD_xor]
 cases a.getLsbD 0 <;> cases b.getLsbD 0 <;> simp
 · rw [BitVec.xor_assoc]
 · rw [BitVec.xor_assoc, BitVec.xor_assoc, BitVec.xor_comm turn32]
 · rw [show (a >>> 1 ^^^ turn32 ^^^ (b >>> 1 ^^^ turn32)) = (a >>> 1 ^^^ b >>> 1) ^^^ (turn32 ^^^ turn32) by ac_rfl, BitVec.xor_self, BitVec.xor_zero]
theorem shr_shl (c : BitVec 32) (h : c.getLsbD 31 = false) : (c <<< 1) >>> 1 = c := by
 apply BitVec.eq_of_getLsbD_eq
 intro i hi
 rw [BitVec.getLsbD_ushiftRight, BitVec.getLsbD_shiftLeft]
 rcases Nat.lt_or_ge i 31 with h1 | h1
 · have e : 1 + i - 1 = i := by omega
   rw [e]
   simp
   omega
 · have e : i = 31 := by omega
   subst e
   rw [h]
   simp
theorem stp_shl (c : BitVec 32) (h : c.getLsbD 31 = false) : stp (c <<< 1) = c := by
 unfold stp
 rw [shr_shl c h, BitVec.getLsbD_shiftLeft]
 simp
/-- Several bits on. -/
def stps : Nat → BitVec 32 → BitVec 32
 | 0, c => c
 | n + 1, c => stps n (stp c)
theorem stps_xor : ∀ (n : Nat) (a b : BitVec 32), stps n (a ^^^ b) = stps n a ^^^ stps n b
 | 0, _, _ => rfl
 | n + 1, a, b => by rw [stps, stp_xor, stps_xor n]; rfl
theorem stps_shl : ∀ (n : Nat) (c : BitVec 32), (∀ j, 32 ≤ j + n → c.getLsbD j = false) → stps n (c <<< n) = c
 | 0, c, _ => by simp [stps]
 | n + 1, c, h => by
  rw [stps, BitVec.shiftLeft_add c n 1, stp_shl, stps_shl n c (fun j hj => h j (by omega))]
  rw [BitVec.getLsbD_shiftLeft]
  rcases Nat.lt_or_ge 31 n with h1 | h1
  · simp [h1]
  · rw [h (31 - n) (by omega)]; simp
/-- A register over bits. -/
def feed (c : BitVec 32) : List Bool → BitVec 32
 | [] => c
 | b :: l => feed (stp (c ^^^ bit32 b)) l
/-- Bits as a word. -/
def word : List Bool → BitVec 32
 | [] => 0#32
 | b :: l => bit32 b ^^^ (word l <<< 1)
theorem word_get : ∀ (l : List Bool) (j : Nat), j < 32 → (word l).getLsbD j = l.getD j false
 | [], j, _ => by simp [word]
 | b :: l, j, hj => by
  rw [word, BitVec.getLsbD_xor, BitVec.getLsbD_shiftLeft]
  rcases Nat.eq_zero_or_pos j with h | h
  · subst h
    cases b <;> simp [bit32]
  · obtain ⟨i, rfl⟩ : ∃ i, j = i + 1 := ⟨j - 1, by omega⟩
    have e : (bit32 b).getLsbD (i + 1) = false := by
     unfold bit32
     cases b
     · simp
     · simp [BitVec.getLsbD_one]
    rw [e, Nat.add_sub_cancel, word_get l i (by omega)]
    simp [hj]
theorem feed_word : ∀ (l : List Bool) (c : BitVec 32), l.length ≤ 32 → feed c l = stps l.length (c ^^^ word l)
 | [], c, _ => by simp [feed, stps, word]
 | b :: l, c, h => by
  have hl : l.length ≤ 31 := by simpa using h
  have h31 : (word l).getLsbD 31 = false := by
   rw [word_get l 31 (by omega), List.getD_eq_getElem?_getD, List.getElem?_eq_none (by omega)]
   rfl
  rw [feed, feed_word l _ (by omega), List.length_cons, stps, word]
  congr 1
  rw [← BitVec.xor_assoc, stp_xor (c ^^^ bit32 b), stp_shl _ h31]
/-- An octet's bits. -/
def bits8 (k : Int) : List Bool := (List.range 8).map fun i => k.toNat.testBit i
theorem bits8_length (k : Int) : (bits8 k).length = 8 := by simp [bits8]
theorem bits8_get (k : Int) (i : Nat) (hi : i < 8) : (bits8 k)[i]? = some (k.toNat.testBit i) := by simp [bits8, hi]
theorem word_bits8 (k : Int) (h0 : 0 ≤ k) (h1 : k < 256) : word (bits8 k) = BitVec.ofNat 32 k.toNat := by
 apply BitVec.eq_of_getLsbD_eq
 intro j hj
 rw [word_get _ j hj, BitVec.getLsbD_ofNat, List.getD_eq_getElem?_getD]
 rcases Nat.lt_or_ge j 8 with h | h
 · rw [bits8_get k j h]
   simp [hj]
 · rw [List.getElem?_eq_none (by rw [bits8_length]; exact h)]
   have : k.toNat < 2 ^ j := Nat.lt_of_lt_of_le (by omega : k.toNat < 2 ^ 8) (Nat.pow_le_pow_right (by decide) h)
   simp [Nat.testBit_lt_two_pow this]
/-- A register over octets. -/
def onO (c : BitVec 32) (k : Int) : BitVec 32 := stps 8 (c ^^^ BitVec.ofNat 32 k.toNat)
def runO (c : BitVec 32) (l : List Int) : BitVec 32 := l.foldl onO c
theorem runO_append (c : BitVec 32) (l m : List Int) : runO c (l ++ m) = runO (runO c l) m := List.foldl_append
theorem feed_octet (c : BitVec 32) (k : Int) (h0 : 0 ≤ k) (h1 : k < 256) : feed c (bits8 k) = onO c k := by
 rw [feed_word _ _ (by rw [bits8_length]; omega), bits8_length, word_bits8 k h0 h1]
 rfl
/-- Numbers of 32 bits as the program has them. -/
def ofB (c : BitVec 32) : Int := (c.toNat : Int)
theorem ofB_nonneg (c : BitVec 32) : 0 ≤ ofB c := Int.natCast_nonneg _
theorem ofB_lt (c : BitVec 32) : ofB c < 4294967296 := by unfold ofB; have := c.isLt; omega
theorem xor_B (a b : BitVec 32) : bits .xor .u32 (ofB a) (ofB b) = ofB (a ^^^ b) := by
 unfold ofB
 rw [u32_xor_nat _ _ a.isLt b.isLt, BitVec.toNat_xor]
theorem shr_B (a : BitVec 32) (n : Nat) : ofB a / ((2 ^ n : Nat) : Int) = ofB (a >>> n) := by
 unfold ofB
 rw [BitVec.toNat_ushiftRight, Nat.shiftRight_eq_div_pow]
 exact (Int.natCast_ediv _ _).symm
theorem and1_B (a : BitVec 32) : bits .and .u32 (ofB a) 1 = if a.getLsbD 0 then 1 else 0 := by
 unfold ofB
 rw [show (1 : Int) = ((1 : Nat) : Int) from rfl, u32_and_nat _ 1 a.isLt (by omega), Nat.and_one_is_mod, BitVec.getLsbD, Nat.testBit_zero]
 rcases Nat.mod_two_eq_zero_or_one a.toNat with h | h <;> simp [h]
theorem stp_B (a : BitVec 32) : ofB (stp a) = bits .xor .u32 (ofB a / 2) (bits .and .u32 (ofB a) 1 * 3988292384) := by
 have h := shr_B a 1
 rw [show ((2 ^ 1 : Nat) : Int) = 2 from rfl] at h
 rw [h, and1_B]
 unfold stp
 rw [← xor_B]
 congr 1
 cases a.getLsbD 0 <;> rfl
theorem stp_B' (a : BitVec 32) : ofB (stp a) = bits .xor .u32 (ofB a / 2) ((bits .and .u32 (ofB a) 1 * 3988292384) % 4294967296) := by
 rw [stp_B]
 congr 1
 rw [and1_B]
 cases a.getLsbD 0 <;> rfl
theorem not_B' (c : BitVec 32) : bits .xor .u32 4294967295 (ofB c) = ofB (~~~c) := by
 rw [show (4294967295 : Int) = ofB (BitVec.allOnes 32) from rfl, xor_B, BitVec.allOnes_xor]
theorem split8 (c : BitVec 32) (k : Nat) (hk : k < 256) : c ^^^ BitVec.ofNat 32 k = ((c >>> 8) <<< 8) ^^^ BitVec.ofNat 32 ((c.toNat % 256) ^^^ k) := by
 apply BitVec.eq_of_getLsbD_eq
 intro j hj
 rw [BitVec.getLsbD_xor, BitVec.getLsbD_xor, BitVec.getLsbD_ofNat, BitVec.getLsbD_ofNat, BitVec.getLsbD_shiftLeft, BitVec.getLsbD_ushiftRight, Nat.testBit_xor, show 256 = 2 ^ 8 from rfl, Nat.testBit_mod_two_pow]
 rcases Nat.lt_or_ge j 8 with h | h
 · simp [h, hj, BitVec.getLsbD]
 · have hk2 : k.testBit j = false := Nat.testBit_lt_two_pow (Nat.lt_of_lt_of_le hk (Nat.pow_le_pow_right (by decide) h : 2 ^ 8 ≤ 2 ^ j))
   have e : 8 + (j - 8) = j := by omega
   have h' : ¬ j < 8 := by omega
   simp [hk2, hj, e, h', BitVec.getLsbD]
theorem idx_B (c : BitVec 32) (k : Int) (h0 : 0 ≤ k) (h1 : k < 256) : ∃ i : Nat, i < 256 ∧ bits .xor .u8 (ofB c % 256) k = (i : Int) ∧ bits .xor .u32 (ofB c / 256) (ofB (stps 8 (BitVec.ofNat 32 i))) = ofB (onO c k) := by
 obtain ⟨n, rfl⟩ := Int.eq_ofNat_of_zero_le h0
 have hn : n < 256 := by omega
 have hc : ofB c % 256 = ((c.toNat % 256 : Nat) : Int) := by unfold ofB; omega
 refine ⟨(c.toNat % 256) ^^^ n, Nat.xor_lt_two_pow (n := 8) (by omega) hn, ?_, ?_⟩
 · rw [hc, u8_xor_nat _ _ (by omega) hn]
 · have h := shr_B c 8
   rw [show ((2 ^ 8 : Nat) : Int) = 256 from rfl] at h
   rw [h, xor_B]
   congr 1
   unfold onO
   rw [Int.toNat_natCast, split8 c n hn, stps_xor, stps_shl]
   intro j hj
   rw [BitVec.getLsbD_ushiftRight, BitVec.getLsbD_of_ge _ _ (by omega)]
/-- What the i-th octet leaves. -/
def tabI (i : Nat) : Int := ofB (stps 8 (BitVec.ofNat 32 i))
end WB
end
