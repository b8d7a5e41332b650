/- What turning bits does to octets, bit by bit, and to a register that goes over them. Of any octets; no program. -/
import Derived.Test.YtcaibhdnfkkmlaaQBase
import Derived.Test.YtcaibhdnfkkmlaaQCrc
import Derived.Test.YtcaibhdnfkkmlaaWMore
set_option linter.unusedVariables false
set_option linter.unusedSimpArgs false
namespace WB
open Go Go.RowKit Go.Proofs.YtcaibhdnfkkmlaaW.PrintWords Go.Proofs.YtcaibhdnfkkmlaaW.PrintLast Go.Proofs.YtcaibhdnfkkmlaaW.PrintMore
/-- Bit r of octet q. -/
def ob (l : List Int) (q r : Nat) : Bool := (l.getD q 0).toNat.testBit r
/-- Turned so far: i bits of T from place a on. -/
structure Turned (l out : List Int) (a T i : Nat) : Prop where
  len : out.length = l.length
  ok : octetsOk out = true
  bit : ∀ q r, q < l.length → r < 8 → ob out q r = (ob l q r ^^ (decide (a ≤ 8 * q + r ∧ 8 * q + r < a + i) && T.testBit (8 * q + r - a)))
theorem turned_zero (l : List Int) (a T : Nat) (h : octetsOk l = true) : Turned l l a T 0 := ⟨rfl, h, fun q r _ _ => by
  rw [decide_eq_false (by omega)]
  simp⟩
theorem turn_val (o : Int) (T i r : Nat) (h0 : 0 ≤ o) (h1 : o < 256) (hT : T < 4294967296) (hi : i < 32) (hr : r < 8) :
    ∃ x : Nat, Go.bits .xor .u8 o (shl .u8 ((Go.bits .and .u32 (shr .u32 (T : Int) (i : Int)) 1) % 256) (r : Int)) = (x : Int) ∧ x < 256 ∧ ∀ j, j < 8 → x.testBit j = (o.toNat.testBit j ^^ (decide (j = r) && T.testBit i)) := by
  obtain ⟨O, rfl⟩ := Int.eq_ofNat_of_zero_le h0
  have hs : shr .u32 (T : Int) (i : Int) = ((T / 2 ^ i : Nat) : Int) := by
    unfold shr
    rw [Int.toNat_natCast, Nat.min_eq_left (by show i ≤ 32; omega), Int.natCast_ediv, Int.natCast_pow]
    rfl
  have hd : T / 2 ^ i < 4294967296 := Nat.lt_of_le_of_lt (Nat.div_le_self _ _) hT
  have hb : (T / 2 ^ i) % 2 = (T.testBit i).toNat := (Nat.toNat_testBit T i).symm
  have ha : Go.bits .and .u32 (shr .u32 (T : Int) (i : Int)) 1 % 256 = (((T.testBit i).toNat : Nat) : Int) := by
    rw [hs, show (1 : Int) = ((1 : Nat) : Int) from rfl, u32_and_nat _ 1 hd (by omega), Nat.and_one_is_mod, hb]
    cases T.testBit i <;> rfl
  have hp : 2 ^ r ≤ 128 := Nat.pow_le_pow_right (by decide) (by omega : r ≤ 7)
  have hv : shl .u8 (((T.testBit i).toNat : Nat) : Int) (r : Int) = (((T.testBit i).toNat * 2 ^ r : Nat) : Int) := by
    unfold shl
    rw [Int.toNat_natCast, Nat.min_eq_left (by show r ≤ 8; omega), IntKind.wrap_u8]
    have : ((2 : Int) ^ r) = ((2 ^ r : Nat) : Int) := by rw [Int.natCast_pow]; rfl
    rw [this]
    cases T.testBit i
    · simp
    · simp only [Bool.toNat_true]; omega
  have hl : (T.testBit i).toNat * 2 ^ r < 256 := by
    cases T.testBit i
    · simp
    · simp only [Bool.toNat_true]; omega
  refine ⟨O ^^^ ((T.testBit i).toNat * 2 ^ r), ?_, Nat.xor_lt_two_pow (n := 8) (by omega) hl, fun j hj => ?_⟩
  · rw [ha, hv, u8_xor_nat _ _ (by omega) hl]
  · rw [Nat.testBit_xor, Int.toNat_natCast]
    congr 1
    cases T.testBit i
    · simp
    · simp only [Bool.toNat_true, Nat.one_mul, Nat.testBit_two_pow, Bool.and_true]
      by_cases h : r = j
      · subst h; simp
      · rw [decide_eq_false h, decide_eq_false (fun e => h e.symm)]
theorem turned_step {l out : List Int} {a T i : Nat} (h : Turned l out a T i) (hT : T < 4294967296) (hi : i < 32) (ha : a + i < 8 * l.length) :
    Turned l (out.set ((a + i) / 8) (Go.bits .xor .u8 (out.getD ((a + i) / 8) 0) (shl .u8 ((Go.bits .and .u32 (shr .u32 (T : Int) (i : Int)) 1) % 256) (((a + i) % 8 : Nat) : Int)))) a T (i + 1) := by
  have ho := octetsOk_get h.ok ((a + i) / 8)
  obtain ⟨x, hx, hx2, hx3⟩ := turn_val (out.getD ((a + i) / 8) 0) T i ((a + i) % 8) ho.1 ho.2 hT hi (Nat.mod_lt _ (by decide))
  rw [hx]
  have hq : (a + i) / 8 < out.length := by rw [h.len]; omega
  refine ⟨by rw [List.length_set, h.len], ?_, fun q r hql hr => ?_⟩
  · unfold octetsOk
    rw [List.all_eq_true]
    intro y hy
    rcases List.mem_or_eq_of_mem_set hy with hy | rfl
    · exact List.all_eq_true.1 h.ok y hy
    · simp; omega
  · have hb := h.bit q r hql hr
    by_cases he : q = (a + i) / 8
    · subst he
      have e1 : (out.set ((a + i) / 8) (x : Int)).getD ((a + i) / 8) 0 = (x : Int) := by rw [List.getD_eq_getElem?_getD, List.getElem?_set_self hq]; rfl
      have e2 : ob (out.set ((a + i) / 8) (x : Int)) ((a + i) / 8) r = x.testBit r := by unfold ob; rw [e1, Int.toNat_natCast]
      rw [e2, hx3 r hr]
      show (ob out ((a + i) / 8) r ^^ _) = _
      rw [hb]
      by_cases hr2 : r = (a + i) % 8
      · have hn : 8 * ((a + i) / 8) + r = a + i := by omega
        rw [hn, decide_eq_false (by omega), decide_eq_true hr2, decide_eq_true (by omega), Nat.add_sub_cancel_left]
        simp
      · have hd : decide (a ≤ 8 * ((a + i) / 8) + r ∧ 8 * ((a + i) / 8) + r < a + (i + 1)) = decide (a ≤ 8 * ((a + i) / 8) + r ∧ 8 * ((a + i) / 8) + r < a + i) := by
          rw [decide_eq_decide]; omega
        rw [hd, decide_eq_false hr2]
        simp
    · have e1 : ob (out.set ((a + i) / 8) (x : Int)) q r = ob out q r := by unfold ob; rw [List.getD_eq_getElem?_getD, List.getElem?_set_ne (fun e => he e.symm), ← List.getD_eq_getElem?_getD]
      have hd : decide (a ≤ 8 * q + r ∧ 8 * q + r < a + (i + 1)) = decide (a ≤ 8 * q + r ∧ 8 * q + r < a + i) := by
        rw [decide_eq_decide]; omega
      rw [e1, hb, hd]
theorem allBits_length (l : List Int) : (allBits l).length = 8 * l.length := by
  induction l with
  | nil => rfl
  | cons k l ih =>
    unfold allBits at ih ⊢
    rw [List.flatMap_cons, List.length_append, bits8_length, ih, List.length_cons]
    omega
theorem allBits_get (l : List Int) : ∀ j, j < 8 * l.length → (allBits l)[j]? = some (ob l (j / 8) (j % 8)) := by
  induction l with
  | nil => intro j hj; simp at hj
  | cons k l ih =>
    intro j hj
    unfold allBits at ih ⊢
    rw [List.flatMap_cons]
    rcases Nat.lt_or_ge j 8 with h | h
    · rw [List.getElem?_append_left (by rw [bits8_length]; exact h), bits8_get k j h, Nat.div_eq_of_lt h, Nat.mod_eq_of_lt h]
      rfl
    · rw [List.getElem?_append_right (by rw [bits8_length]; exact h), bits8_length, ih (j - 8) (by rw [List.length_cons] at hj; omega)]
      have e1 : j / 8 = (j - 8) / 8 + 1 := by omega
      have e2 : j % 8 = (j - 8) % 8 := by omega
      rw [e1, e2]
      rfl
theorem word_range (T : Nat) : word ((List.range 32).map fun i => T.testBit i) = BitVec.ofNat 32 T := by
  apply BitVec.eq_of_getLsbD_eq
  intro j hj
  rw [word_get _ j hj, BitVec.getLsbD_ofNat, List.getD_eq_getElem?_getD]
  simp [hj]
theorem ok_mem {l : List Int} (h : octetsOk l = true) : ∀ x ∈ l, 0 ≤ x ∧ x < 256 := fun x hx => by
  have := List.all_eq_true.1 h x hx
  simpa using this
theorem turned_run {l out : List Int} {a T : Nat} (h : Turned l out a T 32) (hl : octetsOk l = true) (ha : a + 32 ≤ 8 * l.length) (c : BitVec 32) :
    runO c out = runO c l ^^^ stps (32 + (8 * l.length - a - 32)) (BitVec.ofNat 32 T) := by
  rw [← feed_octets out c (ok_mem h.ok), ← feed_octets l c (ok_mem hl)]
  have hz : allBits out = List.zipWith (· ^^ ·) (allBits l) (List.replicate a false ++ (((List.range 32).map fun i => T.testBit i) ++ List.replicate (8 * l.length - a - 32) false)) := by
    apply List.ext_getElem?
    intro j
    rw [List.getElem?_zipWith]
    rcases Nat.lt_or_ge j (8 * l.length) with hj | hj
    · rw [allBits_get out j (by rw [h.len]; exact hj), allBits_get l j hj, h.bit _ _ (by omega) (Nat.mod_lt _ (by decide)), show 8 * (j / 8) + j % 8 = j by omega]
      rcases Nat.lt_or_ge j a with h1 | h1
      · rw [List.getElem?_append_left (by simpa using h1), List.getElem?_replicate, if_pos h1, decide_eq_false (by omega)]
        simp
      · rw [List.getElem?_append_right (by simpa using h1), List.length_replicate]
        rcases Nat.lt_or_ge j (a + 32) with h2 | h2
        · rw [List.getElem?_append_left (by simp; omega), decide_eq_true (by omega), List.getElem?_map, List.getElem?_range (by omega)]
          simp
        · rw [List.getElem?_append_right (by simp; omega), List.getElem?_replicate, if_pos (by simp; omega), decide_eq_false (by omega)]
          simp
    · rw [List.getElem?_eq_none (by rw [allBits_length, h.len]; exact hj), List.getElem?_eq_none (l := allBits l) (by rw [allBits_length]; exact hj)]
  have hf := feed_xor (allBits l) (List.replicate a false ++ (((List.range 32).map fun i => T.testBit i) ++ List.replicate (8 * l.length - a - 32) false)) c 0#32 (by rw [allBits_length]; simp; omega)
  rw [BitVec.xor_zero] at hf
  rw [hz, hf, feed_append, feed_append, feed_zeros, feed_zeros, stps_zero, feed_word ((List.range 32).map fun i => T.testBit i) _ (by simp), word_range, BitVec.zero_xor, stps_add]
  simp
theorem ob_ext {l m : List Int} (hl : octetsOk l = true) (hm : octetsOk m = true) (h : l.length = m.length) (hb : ∀ q r, q < l.length → r < 8 → ob l q r = ob m q r) : l = m := by
  apply List.ext_getElem h
  intro q h1 h2
  have a1 := ok_mem hl _ (List.getElem_mem h1)
  have a2 := ok_mem hm _ (List.getElem_mem h2)
  have e1 : l.getD q 0 = l[q] := by rw [List.getD_eq_getElem?_getD, List.getElem?_eq_getElem h1]; rfl
  have e2 : m.getD q 0 = m[q] := by rw [List.getD_eq_getElem?_getD, List.getElem?_eq_getElem h2]; rfl
  have : l[q].toNat = m[q].toNat := by
    apply Nat.eq_of_testBit_eq
    intro r
    rcases Nat.lt_or_ge r 8 with hr | hr
    · have := hb q r h1 hr
      unfold ob at this
      rwa [e1, e2] at this
    · have hp : 2 ^ 8 ≤ 2 ^ r := Nat.pow_le_pow_right (by decide) hr
      rw [Nat.testBit_lt_two_pow (by omega), Nat.testBit_lt_two_pow (by omega)]
  omega
theorem turned_twice {l m n : List Int} {a T : Nat} (h1 : Turned l m a T 32) (h2 : Turned m n a T 32) (hl : octetsOk l = true) : n = l := by
  refine ob_ext h2.ok hl (by rw [h2.len, h1.len]) (fun q r hq hr => ?_)
  have hq' : q < l.length := by rw [h2.len, h1.len] at hq; exact hq
  rw [h2.bit q r (by rw [h1.len]; exact hq') hr, h1.bit q r hq' hr, Bool.xor_assoc, Bool.xor_self, Bool.xor_false]
end WB
