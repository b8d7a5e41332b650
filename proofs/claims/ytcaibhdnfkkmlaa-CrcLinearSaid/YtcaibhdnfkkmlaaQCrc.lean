/- Plain words on checksums: a register goes over bits, on by one and back by one; over octets; a burst of up to 32 bits. -/
import Derived.Laws.BitsAllLaws
import Derived.Laws.BitsLemmas
import Derived.WalkKit
set_option linter.unusedVariables false
set_option linter.unusedSimpArgs false
namespace WB
open Go Go.RowKit
def turn32 : BitVec 32 := 0xedb88320#32
def bit32 (b : Bool) : BitVec 32 := bif b then 1#32 else 0#32
def stp (c : BitVec 32) : BitVec 32 := (c >>> 1) ^^^ (bif c.getLsbD 0 then turn32 else 0#32)
def bck (c : BitVec 32) : BitVec 32 := ((c ^^^ (bif c.getLsbD 31 then turn32 else 0#32)) <<< 1) ^^^ bit32 (c.getLsbD 31)
theorem stp_xor (a b : BitVec 32) : stp (a ^^^ b) = stp a ^^^ stp b := by
  unfold stp
  rw [BitVec.ushiftRight_xor_distrib, BitVec.getLsbD_xor]
  cases a.getLsbD 0 <;> cases b.getLsbD 0 <;> simp
  · rw [BitVec.xor_assoc]
  · rw [BitVec.xor_assoc, BitVec.xor_assoc, BitVec.xor_comm turn32]
  · rw [show (a >>> 1 ^^^ turn32 ^^^ (b >>> 1 ^^^ turn32)) = (a >>> 1 ^^^ b >>> 1) ^^^ (turn32 ^^^ turn32) by ac_rfl, BitVec.xor_self, BitVec.xor_zero]
theorem stp_zero : stp 0#32 = 0#32 := by decide
theorem turn_31 : turn32.getLsbD 31 = true := by decide
theorem stp_31 (c : BitVec 32) : (stp c).getLsbD 31 = c.getLsbD 0 := by
  unfold stp
  rw [BitVec.getLsbD_xor, BitVec.getLsbD_ushiftRight, BitVec.getLsbD_of_ge _ _ (by omega)]
  cases c.getLsbD 0
  · rfl
  · exact turn_31
theorem shl_shr (c : BitVec 32) : (c >>> 1) <<< 1 ^^^ bit32 (c.getLsbD 0) = c := by
  apply BitVec.eq_of_getLsbD_eq
  intro i hi
  rw [BitVec.getLsbD_xor, BitVec.getLsbD_shiftLeft, BitVec.getLsbD_ushiftRight]
  rcases Nat.eq_zero_or_pos i with h | h
  · subst h
    cases c.getLsbD 0 <;> simp [bit32]
  · have e : 1 + (i - 1) = i := by omega
    rw [e]
    have e2 : (bit32 (c.getLsbD 0)).getLsbD i = false := by
      unfold bit32
      cases c.getLsbD 0
      · simp
      · simp [BitVec.getLsbD_one]; omega
    rw [e2]
    simp [hi]
    omega
theorem bck_stp (c : BitVec 32) : bck (stp c) = c := by
  have h := shl_shr c
  unfold bck
  rw [stp_31]
  unfold stp
  rw [BitVec.xor_assoc, BitVec.xor_self, BitVec.xor_zero]
  exact h
theorem bck_0 (c : BitVec 32) : (bck c).getLsbD 0 = c.getLsbD 31 := by
  unfold bck
  rw [BitVec.getLsbD_xor, BitVec.getLsbD_shiftLeft]
  cases c.getLsbD 31 <;> simp [bit32]
theorem shr_shl (c : BitVec 32) (h : c.getLsbD 31 = false) : (c <<< 1) >>> 1 = c := by
  apply BitVec.eq_of_getLsbD_eq
  intro i hi
  rw [BitVec.getLsbD_ushiftRight, BitVec.getLsbD_shiftLeft]
  rcases Nat.lt_or_ge i 31 with h1 | h1
  · have e : 1 + i - 1 = i := by omega
    rw [e]
    simp
    omega
  · have e : i = 31 := by omega
    subst e
    rw [h]
    simp
theorem stp_shl (c : BitVec 32) (h : c.getLsbD 31 = false) : stp (c <<< 1) = c := by
  unfold stp
  rw [shr_shl c h, BitVec.getLsbD_shiftLeft]
  simp
theorem stp_bck (c : BitVec 32) : stp (bck c) = c := by
  unfold stp
  rw [bck_0]
  unfold bck
  rw [BitVec.ushiftRight_xor_distrib, shr_shl]
  · have e : bit32 (c.getLsbD 31) >>> 1 = 0#32 := by cases c.getLsbD 31 <;> decide
    rw [e, BitVec.xor_zero, BitVec.xor_assoc, BitVec.xor_self, BitVec.xor_zero]
  · rw [BitVec.getLsbD_xor]
    cases h : c.getLsbD 31
    · simp
    · simp [turn_31]
/-- Several bits on. -/
def stps : Nat → BitVec 32 → BitVec 32
  | 0, c => c
  | n + 1, c => stps n (stp c)
def bcks : Nat → BitVec 32 → BitVec 32
  | 0, c => c
  | n + 1, c => bcks n (bck c)
theorem stps_xor : ∀ (n : Nat) (a b : BitVec 32), stps n (a ^^^ b) = stps n a ^^^ stps n b
  | 0, _, _ => rfl
  | n + 1, a, b => by rw [stps, stp_xor, stps_xor n]; rfl
theorem stps_zero : ∀ n, stps n 0#32 = 0#32
  | 0 => rfl
  | n + 1 => by rw [stps, stp_zero, stps_zero n]
theorem stps_add : ∀ (n m : Nat) (a : BitVec 32), stps (n + m) a = stps m (stps n a)
  | 0, m, a => by rw [Nat.zero_add]; rfl
  | n + 1, m, a => by rw [show n + 1 + m = (n + m) + 1 by omega, stps, stps_add n m, stps]
theorem stps_succ' (n : Nat) (a : BitVec 32) : stps (n + 1) a = stp (stps n a) := stps_add n 1 a
theorem bcks_stps : ∀ (n : Nat) (c : BitVec 32), bcks n (stps n c) = c
  | 0, _ => rfl
  | n + 1, c => by rw [stps_succ', bcks, bck_stp, bcks_stps n]
theorem bcks_add : ∀ (n m : Nat) (a : BitVec 32), bcks (n + m) a = bcks m (bcks n a)
  | 0, m, a => by rw [Nat.zero_add]; rfl
  | n + 1, m, a => by rw [show n + 1 + m = (n + m) + 1 by omega, bcks, bcks_add n m, bcks]
theorem bcks_succ' (n : Nat) (a : BitVec 32) : bcks (n + 1) a = bck (bcks n a) := bcks_add n 1 a
theorem stps_bcks : ∀ (n : Nat) (c : BitVec 32), stps n (bcks n c) = c
  | 0, _ => rfl
  | n + 1, c => by rw [bcks_succ', stps, stp_bck, stps_bcks n]
theorem stps_inj {n : Nat} {a b : BitVec 32} (h : stps n a = stps n b) : a = b := by rw [← bcks_stps n a, h, bcks_stps]
theorem stps_eq_zero (n : Nat) (a : BitVec 32) : stps n a = 0#32 ↔ a = 0#32 := ⟨fun h => stps_inj (h.trans (stps_zero n).symm), fun h => by rw [h, stps_zero]⟩
theorem stps_shl : ∀ (n : Nat) (c : BitVec 32), (∀ j, 32 ≤ j + n → c.getLsbD j = false) → stps n (c <<< n) = c
  | 0, c, _ => by simp [stps]
  | n + 1, c, h => by
    rw [stps, BitVec.shiftLeft_add c n 1, stp_shl, stps_shl n c (fun j hj => h j (by omega))]
    rw [BitVec.getLsbD_shiftLeft]
    rcases Nat.lt_or_ge 31 n with h1 | h1
    · simp [h1]
    · rw [h (31 - n) (by omega)]; simp
/-- A register over bits. -/
def feed (c : BitVec 32) : List Bool → BitVec 32
  | [] => c
  | b :: l => feed (stp (c ^^^ bit32 b)) l
theorem feed_append : ∀ (l m : List Bool) (c : BitVec 32), feed c (l ++ m) = feed (feed c l) m
  | [], _, _ => rfl
  | b :: l, m, c => by rw [List.cons_append, feed, feed_append l m, feed]
theorem bit32_xor (a b : Bool) : bit32 (a ^^ b) = bit32 a ^^^ bit32 b := by cases a <;> cases b <;> decide
theorem feed_xor : ∀ (l m : List Bool) (c d : BitVec 32), l.length = m.length → feed (c ^^^ d) (List.zipWith (· ^^ ·) l m) = feed c l ^^^ feed d m
  | [], [], _, _, _ => rfl
  | a :: l, b :: m, c, d, h => by
    rw [List.zipWith_cons_cons, feed, feed, feed, ← feed_xor l m _ _ (by simpa using h), bit32_xor, ← stp_xor]
    congr 2
    ac_rfl
  | [], _ :: _, _, _, h => by simp at h
  | _ :: _, [], _, _, h => by simp at h
/-- Bits as a word. -/
def word : List Bool → BitVec 32
  | [] => 0#32
  | b :: l => bit32 b ^^^ (word l <<< 1)
theorem word_get : ∀ (l : List Bool) (j : Nat), j < 32 → (word l).getLsbD j = l.getD j false
  | [], j, _ => by simp [word]
  | b :: l, j, hj => by
    rw [word, BitVec.getLsbD_xor, BitVec.getLsbD_shiftLeft]
    rcases Nat.eq_zero_or_pos j with h | h
    · subst h
      cases b <;> simp [bit32]
    · obtain ⟨i, rfl⟩ : ∃ i, j = i + 1 := ⟨j - 1, by omega⟩
      have e : (bit32 b).getLsbD (i + 1) = false := by
        unfold bit32
        cases b
        · simp
        · simp [BitVec.getLsbD_one]
      rw [e, Nat.add_sub_cancel, word_get l i (by omega)]
      simp [hj]
theorem feed_word : ∀ (l : List Bool) (c : BitVec 32), l.length ≤ 32 → feed c l = stps l.length (c ^^^ word l)
  | [], c, _ => by simp [feed, stps, word]
  | b :: l, c, h => by
    have hl : l.length ≤ 31 := by simpa using h
    have h31 : (word l).getLsbD 31 = false := by
      rw [word_get l 31 (by omega), List.getD_eq_getElem?_getD, List.getElem?_eq_none (by omega)]
      rfl
    rw [feed, feed_word l _ (by omega), List.length_cons, stps, word]
    congr 1
    rw [← BitVec.xor_assoc, stp_xor (c ^^^ bit32 b), stp_shl _ h31]
theorem feed_zeros (n : Nat) (c : BitVec 32) : feed c (List.replicate n false) = stps n c := by
  induction n generalizing c with
  | zero => rfl
  | succ n ih =>
    rw [List.replicate_succ, feed, ih, stps]
    simp [bit32]
/-- An octet's bits. -/
def bits8 (k : Int) : List Bool := (List.range 8).map fun i => k.toNat.testBit i
theorem bits8_length (k : Int) : (bits8 k).length = 8 := by simp [bits8]
theorem bits8_get (k : Int) (i : Nat) (hi : i < 8) : (bits8 k)[i]? = some (k.toNat.testBit i) := by simp [bits8, hi]
theorem word_bits8 (k : Int) (h0 : 0 ≤ k) (h1 : k < 256) : word (bits8 k) = BitVec.ofNat 32 k.toNat := by
  apply BitVec.eq_of_getLsbD_eq
  intro j hj
  rw [word_get _ j hj, BitVec.getLsbD_ofNat, List.getD_eq_getElem?_getD]
  rcases Nat.lt_or_ge j 8 with h | h
  · rw [bits8_get k j h]
    simp [hj]
  · rw [List.getElem?_eq_none (by rw [bits8_length]; exact h)]
    have : k.toNat < 2 ^ j := Nat.lt_of_lt_of_le (by omega : k.toNat < 2 ^ 8) (Nat.pow_le_pow_right (by decide) h)
    simp [Nat.testBit_lt_two_pow this]
/-- A register over octets. -/
def onO (c : BitVec 32) (k : Int) : BitVec 32 := stps 8 (c ^^^ BitVec.ofNat 32 k.toNat)
def runO (c : BitVec 32) (l : List Int) : BitVec 32 := l.foldl onO c
theorem runO_append (c : BitVec 32) (l m : List Int) : runO c (l ++ m) = runO (runO c l) m := List.foldl_append
theorem feed_octet (c : BitVec 32) (k : Int) (h0 : 0 ≤ k) (h1 : k < 256) : feed c (bits8 k) = onO c k := by
  rw [feed_word _ _ (by rw [bits8_length]; omega), bits8_length, word_bits8 k h0 h1]
  rfl
def allBits (l : List Int) : List Bool := l.flatMap bits8
theorem feed_octets : ∀ (l : List Int) (c : BitVec 32), (∀ x ∈ l, 0 ≤ x ∧ x < 256) → feed c (allBits l) = runO c l
  | [], _, _ => rfl
  | k :: l, c, h => by
    have hk := h k List.mem_cons_self
    unfold allBits
    rw [List.flatMap_cons, feed_append, feed_octet c k hk.1 hk.2]
    exact feed_octets l _ (fun x hx => h x (List.mem_cons_of_mem _ hx))
/-- A register back over octets. -/
def backO (c : BitVec 32) (k : Int) : BitVec 32 := bcks 8 c ^^^ BitVec.ofNat 32 k.toNat
theorem back_on (c : BitVec 32) (k : Int) : backO (onO c k) k = c := by
  unfold backO onO
  rw [bcks_stps, BitVec.xor_assoc, BitVec.xor_self, BitVec.xor_zero]
theorem on_back (c : BitVec 32) (k : Int) : onO (backO c k) k = c := by
  unfold backO onO
  rw [BitVec.xor_assoc, BitVec.xor_self, BitVec.xor_zero, stps_bcks]
def unrun (c : BitVec 32) (l : List Int) : BitVec 32 := l.foldr (fun k c => backO c k) c
theorem unrun_cons (c : BitVec 32) (k : Int) (l : List Int) : unrun c (k :: l) = backO (unrun c l) k := rfl
theorem unrun_append (c : BitVec 32) (l m : List Int) : unrun c (l ++ m) = unrun (unrun c m) l := List.foldr_append
theorem unrun_run (l : List Int) : ∀ c, unrun (runO c l) l = c := by
  induction l with
  | nil => exact fun _ => rfl
  | cons k l ih =>
    intro c
    rw [unrun_cons]
    show backO (unrun (runO (onO c k) l) l) k = c
    rw [ih, back_on]
theorem run_unrun (l : List Int) : ∀ c, runO (unrun c l) l = c := by
  induction l with
  | nil => exact fun _ => rfl
  | cons k l ih =>
    intro c
    show runO (onO (backO (unrun c l) k) k) l = c
    rw [on_back, ih]
theorem runO_inj {l : List Int} {a b : BitVec 32} (h : runO a l = runO b l) : a = b := by rw [← unrun_run l a, h, unrun_run]
theorem onO_xor (c d : BitVec 32) (k m x : Int) (h : BitVec.ofNat 32 x.toNat = BitVec.ofNat 32 k.toNat ^^^ BitVec.ofNat 32 m.toNat) : onO (c ^^^ d) x = onO c k ^^^ onO d m := by
  unfold onO
  rw [← stps_xor, h]
  congr 1
  ac_rfl
/-- Numbers of 32 bits as the program has them. -/
def ofB (c : BitVec 32) : Int := (c.toNat : Int)
def toB (x : Int) : BitVec 32 := BitVec.ofNat 32 x.toNat
theorem ofB_nonneg (c : BitVec 32) : 0 ≤ ofB c := Int.natCast_nonneg _
theorem ofB_lt (c : BitVec 32) : ofB c < 4294967296 := by unfold ofB; have := c.isLt; omega
theorem toB_ofB (c : BitVec 32) : toB (ofB c) = c := by unfold toB ofB; simp
theorem ofB_toB (x : Int) (h0 : 0 ≤ x) (h1 : x < 4294967296) : ofB (toB x) = x := by
  unfold toB ofB
  rw [BitVec.toNat_ofNat, Nat.mod_eq_of_lt (by omega)]
  omega
theorem ofB_inj {a b : BitVec 32} (h : ofB a = ofB b) : a = b := by rw [← toB_ofB a, h, toB_ofB]
theorem xor_B (a b : BitVec 32) : bits .xor .u32 (ofB a) (ofB b) = ofB (a ^^^ b) := by
  unfold ofB
  rw [u32_xor_nat _ _ a.isLt b.isLt, BitVec.toNat_xor]
theorem not_B (a : BitVec 32) : 4294967295 - ofB a = ofB (~~~a) := by
  unfold ofB
  rw [BitVec.toNat_not]
  have := a.isLt
  omega
theorem shr_B (a : BitVec 32) (n : Nat) : ofB a / ((2 ^ n : Nat) : Int) = ofB (a >>> n) := by
  unfold ofB
  rw [BitVec.toNat_ushiftRight, Nat.shiftRight_eq_div_pow]
  exact (Int.natCast_ediv _ _).symm
theorem and1_B (a : BitVec 32) : bits .and .u32 (ofB a) 1 = if a.getLsbD 0 then 1 else 0 := by
  unfold ofB
  rw [show (1 : Int) = ((1 : Nat) : Int) from rfl, u32_and_nat _ 1 a.isLt (by omega), Nat.and_one_is_mod, BitVec.getLsbD, Nat.testBit_zero]
  rcases Nat.mod_two_eq_zero_or_one a.toNat with h | h <;> simp [h]
theorem stp_B (a : BitVec 32) : ofB (stp a) = bits .xor .u32 (ofB a / 2) (bits .and .u32 (ofB a) 1 * 3988292384) := by
  have h := shr_B a 1
  rw [show ((2 ^ 1 : Nat) : Int) = 2 from rfl] at h
  rw [h, and1_B]
  unfold stp
  rw [← xor_B]
  congr 1
  cases a.getLsbD 0 <;> rfl
theorem stp_B' (a : BitVec 32) : ofB (stp a) = bits .xor .u32 (ofB a / 2) ((bits .and .u32 (ofB a) 1 * 3988292384) % 4294967296) := by
  rw [stp_B]
  congr 1
  rw [and1_B]
  cases a.getLsbD 0 <;> rfl
theorem not_B' (c : BitVec 32) : bits .xor .u32 4294967295 (ofB c) = ofB (~~~c) := by
  rw [show (4294967295 : Int) = ofB (BitVec.allOnes 32) from rfl, xor_B, BitVec.allOnes_xor]
theorem split8 (c : BitVec 32) (k : Nat) (hk : k < 256) : c ^^^ BitVec.ofNat 32 k = ((c >>> 8) <<< 8) ^^^ BitVec.ofNat 32 ((c.toNat % 256) ^^^ k) := by
  apply BitVec.eq_of_getLsbD_eq
  intro j hj
  rw [BitVec.getLsbD_xor, BitVec.getLsbD_xor, BitVec.getLsbD_ofNat, BitVec.getLsbD_ofNat, BitVec.getLsbD_shiftLeft, BitVec.getLsbD_ushiftRight, Nat.testBit_xor, show 256 = 2 ^ 8 from rfl, Nat.testBit_mod_two_pow]
  rcases Nat.lt_or_ge j 8 with h | h
  · simp [h, hj, BitVec.getLsbD]
  · have hk2 : k.testBit j = false := Nat.testBit_lt_two_pow (Nat.lt_of_lt_of_le hk (Nat.pow_le_pow_right (by decide) h : 2 ^ 8 ≤ 2 ^ j))
    have e : 8 + (j - 8) = j := by omega
    have h' : ¬ j < 8 := by omega
    simp [hk2, hj, e, h', BitVec.getLsbD]
theorem idx_B (c : BitVec 32) (k : Int) (h0 : 0 ≤ k) (h1 : k < 256) : ∃ i : Nat, i < 256 ∧ bits .xor .u8 (ofB c % 256) k = (i : Int) ∧ bits .xor .u32 (ofB c / 256) (ofB (stps 8 (BitVec.ofNat 32 i))) = ofB (onO c k) := by
  obtain ⟨n, rfl⟩ := Int.eq_ofNat_of_zero_le h0
  have hn : n < 256 := by omega
  have hc : ofB c % 256 = ((c.toNat % 256 : Nat) : Int) := by unfold ofB; omega
  refine ⟨(c.toNat % 256) ^^^ n, Nat.xor_lt_two_pow (n := 8) (by omega) hn, ?_, ?_⟩
  · rw [hc, u8_xor_nat _ _ (by omega) hn]
  · have h := shr_B c 8
    rw [show ((2 ^ 8 : Nat) : Int) = 256 from rfl] at h
    rw [h, xor_B]
    congr 1
    unfold onO
    rw [Int.toNat_natCast, split8 c n hn, stps_xor, stps_shl]
    intro j hj
    rw [BitVec.getLsbD_ushiftRight, BitVec.getLsbD_of_ge _ _ (by omega)]
/-- What the i-th octet leaves. -/
def tabI (i : Nat) : Int := ofB (stps 8 (BitVec.ofNat 32 i))
/-- The octet that went out. -/
def outIx (c : BitVec 32) : Nat := (bcks 8 c).toNat % 256
theorem outIx_lt (c : BitVec 32) : outIx c < 256 := Nat.mod_lt _ (by decide)
theorem tab_top_pos : ∀ i : Fin 256, i.val ≠ 0 → tabI i.val / 16777216 ≠ 0 := by decide +kernel
theorem ofB_top (a : BitVec 32) : ofB a / (16777216 : Int) = ((a >>> 24).toNat : Int) := by
  have h := shr_B a 24
  rw [show ((2 ^ 24 : Nat) : Int) = 16777216 from rfl] at h
  rw [h]
  rfl
theorem tab_split (c : BitVec 32) : c = ((bcks 8 c) >>> 8) ^^^ stps 8 (BitVec.ofNat 32 (outIx c)) := by
  have h := split8 (bcks 8 c) 0 (by decide)
  rw [Nat.xor_zero, show BitVec.ofNat 32 0 = 0#32 from rfl, BitVec.xor_zero] at h
  have h2 := congrArg (stps 8) h
  rw [stps_bcks, stps_xor, stps_shl] at h2
  · exact h2
  · intro j hj
    rw [BitVec.getLsbD_ushiftRight, BitVec.getLsbD_of_ge _ _ (by omega)]
theorem top_zero (d : BitVec 32) : (d >>> 8) >>> 24 = 0#32 := by
  rw [← BitVec.shiftRight_add]
  apply BitVec.eq_of_toNat_eq
  rw [BitVec.toNat_ushiftRight, Nat.shiftRight_eq_div_pow]
  exact Nat.div_eq_of_lt d.isLt
theorem tab_top (c : BitVec 32) : tabI (outIx c) / 16777216 = ofB c / 16777216 := by
  have h := congrArg (fun x : BitVec 32 => x >>> 24) (tab_split c)
  simp only [BitVec.ushiftRight_xor_distrib, top_zero, BitVec.zero_xor] at h
  unfold tabI
  rw [ofB_top, ofB_top, ← h]
theorem tab_top_inj (i j : Nat) (hi : i < 256) (hj : j < 256) (h : tabI i / 16777216 = tabI j / 16777216) : i = j := by
  unfold tabI at h
  rw [ofB_top, ofB_top] at h
  have h1 : (stps 8 (BitVec.ofNat 32 i)) >>> 24 = (stps 8 (BitVec.ofNat 32 j)) >>> 24 := BitVec.eq_of_toNat_eq (by omega)
  have h2 : (stps 8 (BitVec.ofNat 32 (i ^^^ j))) >>> 24 = 0#32 := by
    have e : BitVec.ofNat 32 (i ^^^ j) = BitVec.ofNat 32 i ^^^ BitVec.ofNat 32 j := by
      apply BitVec.eq_of_toNat_eq
      rw [BitVec.toNat_xor, BitVec.toNat_ofNat, BitVec.toNat_ofNat, BitVec.toNat_ofNat, Nat.mod_eq_of_lt (Nat.lt_of_lt_of_le (Nat.xor_lt_two_pow (n := 8) hi hj) (by decide)), Nat.mod_eq_of_lt (by omega), Nat.mod_eq_of_lt (by omega)]
    rw [e, stps_xor, BitVec.ushiftRight_xor_distrib, h1, BitVec.xor_self]
  have hx : i ^^^ j < 256 := Nat.xor_lt_two_pow (n := 8) hi hj
  by_cases hz : i ^^^ j = 0
  · have h3 := congrArg (fun x => i ^^^ x) hz
    simp only [← Nat.xor_assoc, Nat.xor_self, Nat.zero_xor, Nat.xor_zero] at h3
    exact h3.symm
  · have := tab_top_pos ⟨i ^^^ j, hx⟩ hz
    unfold tabI at this
    rw [ofB_top, h2] at this
    exact absurd rfl this
theorem out_B (c : BitVec 32) (k : Int) (h0 : 0 ≤ k) (h1 : k < 256) : bits .or .u32 (bits .xor .u32 (ofB c) (tabI (outIx c)) * 256 % 4294967296) (bits .xor .u8 (outIx c : Int) k) = ofB (backO c k) := by
  obtain ⟨n, rfl⟩ := Int.eq_ofNat_of_zero_le h0
  have hn : n < 256 := by omega
  have hx := outIx_lt c
  have e1 : bits .xor .u32 (ofB c) (tabI (outIx c)) = ofB ((bcks 8 c) >>> 8) := by
    unfold tabI
    rw [xor_B]
    congr 1
    have h := congrArg (fun x => x ^^^ stps 8 (BitVec.ofNat 32 (outIx c))) (tab_split c)
    simp only [BitVec.xor_assoc, BitVec.xor_self, BitVec.xor_zero] at h
    exact h
  have e2 : ofB ((bcks 8 c) >>> 8) * 256 % 4294967296 = (((bcks 8 c).toNat / 256 * 256 : Nat) : Int) := by
    unfold ofB
    rw [BitVec.toNat_ushiftRight, Nat.shiftRight_eq_div_pow]
    have := (bcks 8 c).isLt
    omega
  have hd := (bcks 8 c).isLt
  have hxn : outIx c ^^^ n < 256 := Nat.xor_lt_two_pow (n := 8) hx hn
  rw [e1, e2, u8_xor_nat _ _ hx hn, u32_or_nat _ _ (by omega) (by omega)]
  unfold ofB backO
  congr 1
  rw [BitVec.toNat_xor, Int.toNat_natCast, BitVec.toNat_ofNat, Nat.mod_eq_of_lt (show n < 2 ^ 32 by omega)]
  apply Nat.eq_of_testBit_eq
  intro j
  rw [Nat.testBit_or, Nat.testBit_xor, Nat.testBit_xor, show 256 = 2 ^ 8 from rfl, Nat.testBit_mul_two_pow, Nat.testBit_div_two_pow]
  unfold outIx
  rw [show 256 = 2 ^ 8 from rfl, Nat.testBit_mod_two_pow]
  rcases Nat.lt_or_ge j 8 with h | h
  · rw [decide_eq_false (by omega), decide_eq_true h]
    simp
  · have hk2 : n.testBit j = false := Nat.testBit_lt_two_pow (Nat.lt_of_lt_of_le hn (Nat.pow_le_pow_right (by decide) h : 2 ^ 8 ≤ 2 ^ j))
    rw [decide_eq_true h, decide_eq_false (by omega), hk2, show j - 8 + 8 = j by omega]
    simp
end WB
