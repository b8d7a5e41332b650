/- What the reference's printed functions of crc come to: bit by bit they go over octets as the register does. -/
import Derived.Test.YtmbaooocjoaehaaQBase
import Derived.Test.YtmbaooocjoaehaaQCrc
import Derived.Test.YtmbaooocjoaehaaWMore
import Derived.Test.YtmbaooocjoaehaaPCrcUn
import Derived.Test.YtmbaooocjoaehaaPCrcUnF
import Derived.Test.YtmbaooocjoaehaaGx6
set_option linter.unusedVariables false
set_option linter.unusedSimpArgs false
namespace WB
open Go Go.RowKit Go.Proofs.YtmbaooocjoaehaaW.PrintWords Go.Proofs.YtmbaooocjoaehaaW.PrintLast Go.Proofs.YtmbaooocjoaehaaW.PrintMore
theorem step_bit (c : BitVec 32) (b : Bool) : ofB (stp (c ^^^ bit32 b)) = if c.getLsbD 0 = b then ofB c / (2 : Int) else Go.bits .xor .u32 (ofB c / (2 : Int)) (3988292384 : Int) := by
  have h := shr_B c 1
  rw [show ((2 ^ 1 : Nat) : Int) = 2 from rfl] at h
  have t1 : stp (bit32 true) = turn32 := by decide
  have t0 : stp (bit32 false) = 0#32 := by decide
  have ht : (3988292384 : Int) = ofB turn32 := rfl
  rw [stp_xor, h, ht, xor_B]
  unfold stp at *
  cases hc : c.getLsbD 0 <;> cases b
  · rw [if_pos rfl]; simp [bit32]
  · rw [if_neg (by simp)]; simp only [t1, cond_false, BitVec.xor_zero]
  · rw [if_neg (by simp)]; simp [bit32]
  · rw [if_pos rfl]
    congr 1
    show c >>> 1 ^^^ turn32 ^^^ (bit32 true >>> 1 ^^^ _) = _
    have : (bit32 true >>> 1 ^^^ (bif (bit32 true).getLsbD 0 then turn32 else 0#32)) = turn32 := by decide
    rw [this, BitVec.xor_assoc, BitVec.xor_self, BitVec.xor_zero]
theorem shr_oct (x : Int) (i : Nat) (h0 : 0 ≤ x) (h1 : x < 256) (hi : i < 8) : shr .u8 x (i : Int) = ((x.toNat / 2 ^ i : Nat) : Int) ∧ x.toNat / 2 ^ i < 256 := by
  obtain ⟨X, rfl⟩ := Int.eq_ofNat_of_zero_le h0
  refine ⟨?_, Nat.lt_of_le_of_lt (Nat.div_le_self _ _) (by omega)⟩
  unfold shr
  rw [Int.toNat_natCast, Nat.min_eq_left (by show i ≤ 8; omega), Int.toNat_natCast, Int.natCast_ediv, Int.natCast_pow]
  rfl
theorem oct_bit32 (x : Int) (i : Nat) (h0 : 0 ≤ x) (h1 : x < 256) (hi : i < 8) : Go.bits .and .u32 ((shr .u8 x (i : Int)) % 4294967296) 1 = if x.toNat.testBit i then 1 else 0 := by
  obtain ⟨e, hl⟩ := shr_oct x i h0 h1 hi
  rw [e, Int.emod_eq_of_lt (Int.natCast_nonneg _) (by have h3 : ((x.toNat / 2 ^ i : Nat) : Int) < ((256 : Nat) : Int) := Int.ofNat_lt.2 hl; generalize ((x.toNat / 2 ^ i : Nat) : Int) = z at h3; omega), show (1 : Int) = ((1 : Nat) : Int) from rfl, u32_and_nat _ 1 (by omega) (by omega), Nat.and_one_is_mod, ← Nat.toNat_testBit]
  cases x.toNat.testBit i <;> rfl
theorem oct_bit8 (x : Int) (i : Nat) (h0 : 0 ≤ x) (h1 : x < 256) (hi : i < 8) : Go.bits .and .u8 (shr .u8 x (i : Int)) 1 = if x.toNat.testBit i then 1 else 0 := by
  obtain ⟨e, hl⟩ := shr_oct x i h0 h1 hi
  rw [e, show (1 : Int) = ((1 : Nat) : Int) from rfl, u8_and_nat _ 1 hl (by omega), Nat.and_one_is_mod, ← Nat.toNat_testBit]
  cases x.toNat.testBit i <;> rfl
theorem bits8_drop (x : Int) (i : Nat) (hi : i < 8) : (bits8 x).drop i = x.toNat.testBit i :: (bits8 x).drop (i + 1) := by
  rw [List.drop_eq_getElem_cons (by rw [bits8_length]; exact hi)]
  congr 1
  have := bits8_get x i hi
  rw [List.getElem?_eq_getElem (by rw [bits8_length]; exact hi)] at this
  exact Option.some.inj this
theorem bits8_take (x : Int) (i : Nat) (hi : i < 8) : (bits8 x).take (i + 1) = (bits8 x).take i ++ [x.toNat.testBit i] := by
  rw [List.take_succ_eq_append_getElem (by rw [bits8_length]; exact hi)]
  congr 2
  have := bits8_get x i hi
  rw [List.getElem?_eq_getElem (by rw [bits8_length]; exact hi)] at this
  exact Option.some.inj this
/-- Back over bits. -/
def unf (c : BitVec 32) (l : List Bool) : BitVec 32 := l.foldr (fun b c => bck c ^^^ bit32 b) c
theorem unf_snoc (c : BitVec 32) (l : List Bool) (b : Bool) : unf c (l ++ [b]) = unf (bck c ^^^ bit32 b) l := by simp [unf]
theorem unf_feed : ∀ (l : List Bool) (c : BitVec 32), unf (feed c l) l = c
  | [], _ => rfl
  | b :: l, c => by
    show bck (unf (feed (stp (c ^^^ bit32 b)) l) l) ^^^ bit32 b = c
    rw [unf_feed l, bck_stp, BitVec.xor_assoc, BitVec.xor_self, BitVec.xor_zero]
theorem unf_octet (c : BitVec 32) (x : Int) (h0 : 0 ≤ x) (h1 : x < 256) : unf c (bits8 x) = backO c x := by
  have h := feed_octet (backO c x) x h0 h1
  rw [on_back] at h
  rw [← h, unf_feed, h]
theorem shl_B (a : BitVec 32) : ofB a * (2 : Int) % (4294967296 : Int) = ofB (a <<< 1) := by
  unfold ofB
  rw [BitVec.toNat_shiftLeft, Nat.shiftLeft_eq]
  omega
theorem or1_B (a : BitVec 32) : Go.bits .or .u32 (ofB (a <<< 1)) (1 : Int) = ofB ((a <<< 1) ^^^ 1#32) := by
  rw [show (1 : Int) = ((1 : Nat) : Int) from rfl]
  unfold ofB
  rw [u32_or_nat _ 1 (a <<< 1).isLt (by omega)]
  congr 1
  rw [BitVec.toNat_xor]
  apply Nat.eq_of_testBit_eq
  intro j
  rw [Nat.testBit_or, Nat.testBit_xor]
  show _ = ((a <<< 1).toNat.testBit j ^^ (1 : Nat).testBit j)
  by_cases hj : j = 0
  · subst hj
    have : (a <<< 1).toNat.testBit 0 = false := by
      show (a <<< 1).getLsbD 0 = false
      rw [BitVec.getLsbD_shiftLeft]; simp
    rw [this]
    rfl
  · have : (1 : Nat).testBit j = false := by
      rw [show (1 : Nat) = 2 ^ 0 from rfl, Nat.testBit_two_pow]
      exact decide_eq_false (fun h => hj h.symm)
    rw [this]
    simp
theorem top_B (c : BitVec 32) : (ofB c / (2147483648 : Int) = (1 : Int)) ↔ c.getLsbD 31 = true := by
  have h : c.getLsbD 31 = decide (c.toNat / 2 ^ 31 % 2 = 1) := Nat.testBit_eq_decide_div_mod_eq
  rw [h, decide_eq_true_iff]
  have := c.isLt
  unfold ofB
  omega
/-- One bit back, as the page's code has it. -/
theorem step_back (c : BitVec 32) (b : Bool) : ofB (bck c ^^^ bit32 b) =
    if ofB c / (2147483648 : Int) = (1 : Int) then (if b then (Go.bits .xor .u32 (ofB c) (3988292384 : Int) * (2 : Int)) % (4294967296 : Int) else Go.bits .or .u32 ((Go.bits .xor .u32 (ofB c) (3988292384 : Int) * (2 : Int)) % (4294967296 : Int)) 1)
    else (if b then Go.bits .or .u32 ((ofB c * (2 : Int)) % (4294967296 : Int)) 1 else (ofB c * (2 : Int)) % (4294967296 : Int)) := by
  have ht : (3988292384 : Int) = ofB turn32 := rfl
  rw [ht, xor_B, shl_B, shl_B, or1_B, or1_B]
  unfold bck
  by_cases h : ofB c / 2147483648 = 1
  · rw [if_pos h, (top_B c).1 h]
    cases b
    · simp [bit32]
    · simp only [bit32, cond_true, if_true]; rw [BitVec.xor_assoc, BitVec.xor_self, BitVec.xor_zero]
  · have h2 : c.getLsbD 31 = false := by
      rw [← Bool.not_eq_true]; exact fun e => h ((top_B c).2 e)
    rw [if_neg h, h2]
    cases b <;> simp [bit32]
theorem turned_skip {l out : List Int} {a T i : Nat} (h : Turned l out a T i) (hb : T.testBit i = false) : Turned l out a T (i + 1) := ⟨h.len, h.ok, fun q r hq hr => by
  rw [h.bit q r hq hr]
  congr 1
  by_cases he : 8 * q + r = a + i
  · rw [he, Nat.add_sub_cancel_left, hb]; simp
  · congr 1
    rw [decide_eq_decide]
    omega⟩
end WB
namespace Go.Proofs.Ytmbaooocjoaehaa.V
open WB Go Go.RowKit Go.Proofs.Ytmbaooocjoaehaa.G Go.Proofs.YtmbaooocjoaehaaW.PrintWords Go.Proofs.YtmbaooocjoaehaaW.PrintLast Go.Proofs.YtmbaooocjoaehaaW.PrintMore
theorem rd_nat (l : List Int) (q : Nat) : rd l (q : Int) = l.getD q 0 := by unfold rd; rw [Int.toNat_natCast]
theorem refrun_l1 (l : List Int) (q : Nat) (hq : q < l.length) (hok : octetsOk l = true) (r : Int) : ∀ (d i : Nat) (c : BitVec 32), i + d = 8 →
    Ev (fun k => waybillref02_run.l0 k (ofB (feed c ((bits8 (l.getD q 0)).drop i))) l (wrap64 ((q : Int) + 1))) r → Ev (fun k => waybillref02_run.l1 k (ofB c) l (q : Int) (i : Int)) r := by
  have hx := octetsOk_get hok q
  intro d
  induction d with
  | zero =>
    intro i c hi h
    refine Ev.step (fun k => ?_) h
    show waybillref02_run.l1 (k + 1) (ofB c) l q i = _
    rw [waybillref02_run.l1, if_neg (by omega), List.drop_of_length_le (by rw [bits8_length]; omega)]
    rfl
  | succ d ih =>
    intro i c hi h
    rw [bits8_drop _ i (by omega)] at h
    have h2 := ih (i + 1) (stp (c ^^^ bit32 ((l.getD q 0).toNat.testBit i))) (by omega) h
    refine Ev.step (fun k => ?_) h2
    show waybillref02_run.l1 (k + 1) (ofB c) l q i = _
    rw [waybillref02_run.l1, if_pos (by omega), if_pos (by omega), if_pos (by omega), if_pos (by omega), rd_nat, oct_bit32 _ i hx.1 hx.2 (by omega), and1_B, step_bit, show wrap64 ((i : Int) + 1) = ((i + 1 : Nat) : Int) by unfold wrap64; omega]
    cases c.getLsbD 0 <;> cases (l.getD q 0).toNat.testBit i <;> simp
theorem refrun_l0 (l : List Int) (hok : octetsOk l = true) (hl : l.length ≤ 140737488355328) : ∀ (d q : Nat) (c : BitVec 32), q + d = l.length → Ev (fun k => waybillref02_run.l0 k (ofB c) l (q : Int)) (ofB (runO c (l.drop q))) := by
  intro d
  induction d with
  | zero =>
    intro q c hq
    refine ⟨1, fun k hk => ?_⟩
    obtain ⟨k, rfl⟩ : ∃ m, k = m + 1 := ⟨k - 1, by omega⟩
    show waybillref02_run.l0 (k + 1) (ofB c) l q = _
    rw [waybillref02_run.l0, if_neg (by omega), List.drop_of_length_le (by omega)]
    rfl
  | succ d ih =>
    intro q c hq
    have hlt : q < l.length := by omega
    have hx := octetsOk_get hok q
    have h := ih (q + 1) (onO c (l.getD q 0)) (by omega)
    have hw : wrap64 ((q : Int) + 1) = ((q + 1 : Nat) : Int) := by unfold wrap64; omega
    have h1 := refrun_l1 l q hlt hok (ofB (runO (onO c (l.getD q 0)) (l.drop (q + 1)))) 8 0 c rfl (by
      rw [List.drop_zero, feed_octet c _ hx.1 hx.2, hw]; exact h)
    have e : runO c (l.drop q) = runO (onO c (l.getD q 0)) (l.drop (q + 1)) := by
      rw [List.drop_eq_getElem_cons hlt, List.getD_eq_getElem?_getD, List.getElem?_eq_getElem hlt]
      rfl
    rw [e]
    refine Ev.step (fun k => ?_) h1
    show waybillref02_run.l0 (k + 1) (ofB c) l q = _
    rw [waybillref02_run.l0, if_pos (by omega)]
    rfl
theorem refrun_f (l : List Int) (hok : octetsOk l = true) (hl : l.length ≤ 140737488355328) (c : BitVec 32) : Ev (fun k => waybillref02_run.f k (ofB c) l) (ofB (runO c l)) := refrun_l0 l hok hl l.length 0 c (by omega)
theorem refsum_f (l : List Int) (hok : octetsOk l = true) (hl : l.length ≤ 140737488355328) : Ev (fun k => waybillref02_Sum.f k l) (ofB (~~~ (runO (BitVec.allOnes 32) l))) := by
  unfold waybillref02_Sum.f
  refine Ev.bind (refrun_f l hok hl (BitVec.allOnes 32)) ?_
  rw [not_B']
  exact Ev.now _
end Go.Proofs.Ytmbaooocjoaehaa.V
