/- What the reference's printed functions of crc come to: bit by bit they go over octets as the register does. -/
import Derived.Test.YtcaibhdnfkkmlaaQBase
import Derived.Test.YtcaibhdnfkkmlaaQCrc
import Derived.Test.YtcaibhdnfkkmlaaWMore
import Derived.Test.YtcaibhdnfkkmlaaPCrcUn
import Derived.Test.YtcaibhdnfkkmlaaPCrcUnF
import Derived.Test.YtcaibhdnfkkmlaaPCrcWord
import Derived.Test.YtcaibhdnfkkmlaaGx27
import Derived.Test.YtcaibhdnfkkmlaaGx28
import Derived.Test.YtcaibhdnfkkmlaaGx29
import Derived.Test.YtcaibhdnfkkmlaaGx30
import Derived.Test.YtcaibhdnfkkmlaaGx31
import Derived.Test.YtcaibhdnfkkmlaaGx32
import Derived.Test.YtcaibhdnfkkmlaaGx33
set_option linter.unusedVariables false
set_option linter.unusedSimpArgs false
namespace WB
open Go Go.RowKit Go.Proofs.YtcaibhdnfkkmlaaW.PrintWords Go.Proofs.YtcaibhdnfkkmlaaW.PrintLast Go.Proofs.YtcaibhdnfkkmlaaW.PrintMore
theorem step_bit (c : BitVec 32) (b : Bool) : ofB (stp (c ^^^ bit32 b)) = if c.getLsbD 0 = b then ofB c / (2 : Int) else Go.bits .xor .u32 (ofB c / (2 : Int)) (3988292384 : Int) := by
  have h := shr_B c 1
  rw [show ((2 ^ 1 : Nat) : Int) = 2 from rfl] at h
  have t1 : stp (bit32 true) = turn32 := by decide
  have t0 : stp (bit32 false) = 0#32 := by decide
  have ht : (3988292384 : Int) = ofB turn32 := rfl
  rw [stp_xor, h, ht, xor_B]
  unfold stp at *
  cases hc : c.getLsbD 0 <;> cases b
  · rw [if_pos rfl]; simp [bit32]
  · rw [if_neg (by simp)]; simp only [t1, cond_false, BitVec.xor_zero]
  · rw [if_neg (by simp)]; simp [bit32]
  · rw [if_pos rfl]
    congr 1
    show c >>> 1 ^^^ turn32 ^^^ (bit32 true >>> 1 ^^^ _) = _
    have : (bit32 true >>> 1 ^^^ (bif (bit32 true).getLsbD 0 then turn32 else 0#32)) = turn32 := by decide
    rw [this, BitVec.xor_assoc, BitVec.xor_self, BitVec.xor_zero]
theorem shr_oct (x : Int) (i : Nat) (h0 : 0 ≤ x) (h1 : x < 256) (hi : i < 8) : shr .u8 x (i : Int) = ((x.toNat / 2 ^ i : Nat) : Int) ∧ x.toNat / 2 ^ i < 256 := by
  obtain ⟨X, rfl⟩ := Int.eq_ofNat_of_zero_le h0
  refine ⟨?_, Nat.lt_of_le_of_lt (Nat.div_le_self _ _) (by omega)⟩
  unfold shr
  rw [Int.toNat_natCast, Nat.min_eq_left (by show i ≤ 8; omega), Int.toNat_natCast, Int.natCast_ediv, Int.natCast_pow]
  rfl
theorem oct_bit32 (x : Int) (i : Nat) (h0 : 0 ≤ x) (h1 : x < 256) (hi : i < 8) : Go.bits .and .u32 ((shr .u8 x (i : Int)) % 4294967296) 1 = if x.toNat.testBit i then 1 else 0 := by
  obtain ⟨e, hl⟩ := shr_oct x i h0 h1 hi
  rw [e, Int.emod_eq_of_lt (Int.natCast_nonneg _) (by have h3 : ((x.toNat / 2 ^ i : Nat) : Int) < ((256 : Nat) : Int) := Int.ofNat_lt.2 hl; generalize ((x.toNat / 2 ^ i : Nat) : Int) = z at h3; omega), show (1 : Int) = ((1 : Nat) : Int) from rfl, u32_and_nat _ 1 (by omega) (by omega), Nat.and_one_is_mod, ← Nat.toNat_testBit]
  cases x.toNat.testBit i <;> rfl
theorem oct_bit8 (x : Int) (i : Nat) (h0 : 0 ≤ x) (h1 : x < 256) (hi : i < 8) : Go.bits .and .u8 (shr .u8 x (i : Int)) 1 = if x.toNat.testBit i then 1 else 0 := by
  obtain ⟨e, hl⟩ := shr_oct x i h0 h1 hi
  rw [e, show (1 : Int) = ((1 : Nat) : Int) from rfl, u8_and_nat _ 1 hl (by omega), Nat.and_one_is_mod, ← Nat.toNat_testBit]
  cases x.toNat.testBit i <;> rfl
theorem bits8_drop (x : Int) (i : Nat) (hi : i < 8) : (bits8 x).drop i = x.toNat.testBit i :: (bits8 x).drop (i + 1) := by
  rw [List.drop_eq_getElem_cons (by rw [bits8_length]; exact hi)]
  congr 1
  have := bits8_get x i hi
  rw [List.getElem?_eq_getElem (by rw [bits8_length]; exact hi)] at this
  exact Option.some.inj this
theorem bits8_take (x : Int) (i : Nat) (hi : i < 8) : (bits8 x).take (i + 1) = (bits8 x).take i ++ [x.toNat.testBit i] := by
  rw [List.take_succ_eq_append_getElem (by rw [bits8_length]; exact hi)]
  congr 2
  have := bits8_get x i hi
  rw [List.getElem?_eq_getElem (by rw [bits8_length]; exact hi)] at this
  exact Option.some.inj this
/-- Back over bits. -/
def unf (c : BitVec 32) (l : List Bool) : BitVec 32 := l.foldr (fun b c => bck c ^^^ bit32 b) c
theorem unf_snoc (c : BitVec 32) (l : List Bool) (b : Bool) : unf c (l ++ [b]) = unf (bck c ^^^ bit32 b) l := by simp [unf]
theorem unf_feed : ∀ (l : List Bool) (c : BitVec 32), unf (feed c l) l = c
  | [], _ => rfl
  | b :: l, c => by
    show bck (unf (feed (stp (c ^^^ bit32 b)) l) l) ^^^ bit32 b = c
    rw [unf_feed l, bck_stp, BitVec.xor_assoc, BitVec.xor_self, BitVec.xor_zero]
theorem unf_octet (c : BitVec 32) (x : Int) (h0 : 0 ≤ x) (h1 : x < 256) : unf c (bits8 x) = backO c x := by
  have h := feed_octet (backO c x) x h0 h1
  rw [on_back] at h
  rw [← h, unf_feed, h]
theorem shl_B (a : BitVec 32) : ofB a * (2 : Int) % (4294967296 : Int) = ofB (a <<< 1) := by
  unfold ofB
  rw [BitVec.toNat_shiftLeft, Nat.shiftLeft_eq]
  omega
theorem or1_B (a : BitVec 32) : Go.bits .or .u32 (ofB (a <<< 1)) (1 : Int) = ofB ((a <<< 1) ^^^ 1#32) := by
  rw [show (1 : Int) = ((1 : Nat) : Int) from rfl]
  unfold ofB
  rw [u32_or_nat _ 1 (a <<< 1).isLt (by omega)]
  congr 1
  rw [BitVec.toNat_xor]
  apply Nat.eq_of_testBit_eq
  intro j
  rw [Nat.testBit_or, Nat.testBit_xor]
  show _ = ((a <<< 1).toNat.testBit j ^^ (1 : Nat).testBit j)
  by_cases hj : j = 0
  · subst hj
    have : (a <<< 1).toNat.testBit 0 = false := by
      show (a <<< 1).getLsbD 0 = false
      rw [BitVec.getLsbD_shiftLeft]; simp
    rw [this]
    rfl
  · have : (1 : Nat).testBit j = false := by
      rw [show (1 : Nat) = 2 ^ 0 from rfl, Nat.testBit_two_pow]
      exact decide_eq_false (fun h => hj h.symm)
    rw [this]
    simp
theorem top_B (c : BitVec 32) : (ofB c / (2147483648 : Int) = (1 : Int)) ↔ c.getLsbD 31 = true := by
  have h : c.getLsbD 31 = decide (c.toNat / 2 ^ 31 % 2 = 1) := Nat.testBit_eq_decide_div_mod_eq
  rw [h, decide_eq_true_iff]
  have := c.isLt
  unfold ofB
  omega
/-- One bit back, as the page's code has it. -/
theorem step_back (c : BitVec 32) (b : Bool) : ofB (bck c ^^^ bit32 b) =
    if ofB c / (2147483648 : Int) = (1 : Int) then (if b then (Go.bits .xor .u32 (ofB c) (3988292384 : Int) * (2 : Int)) % (4294967296 : Int) else Go.bits .or .u32 ((Go.bits .xor .u32 (ofB c) (3988292384 : Int) * (2 : Int)) % (4294967296 : Int)) 1)
    else (if b then Go.bits .or .u32 ((ofB c * (2 : Int)) % (4294967296 : Int)) 1 else (ofB c * (2 : Int)) % (4294967296 : Int)) := by
  have ht : (3988292384 : Int) = ofB turn32 := rfl
  rw [ht, xor_B, shl_B, shl_B, or1_B, or1_B]
  unfold bck
  by_cases h : ofB c / 2147483648 = 1
  · rw [if_pos h, (top_B c).1 h]
    cases b
    · simp [bit32]
    · simp only [bit32, cond_true, if_true]; rw [BitVec.xor_assoc, BitVec.xor_self, BitVec.xor_zero]
  · have h2 : c.getLsbD 31 = false := by
      rw [← Bool.not_eq_true]; exact fun e => h ((top_B c).2 e)
    rw [if_neg h, h2]
    cases b <;> simp [bit32]
theorem turned_skip {l out : List Int} {a T i : Nat} (h : Turned l out a T i) (hb : T.testBit i = false) : Turned l out a T (i + 1) := ⟨h.len, h.ok, fun q r hq hr => by
  rw [h.bit q r hq hr]
  congr 1
  by_cases he : 8 * q + r = a + i
  · rw [he, Nat.add_sub_cancel_left, hb]; simp
  · congr 1
    rw [decide_eq_decide]
    omega⟩
end WB
namespace Go.Proofs.Ytcaibhdnfkkmlaa.V
open WB Go Go.RowKit Go.Proofs.Ytcaibhdnfkkmlaa.G Go.Proofs.YtcaibhdnfkkmlaaW.PrintWords Go.Proofs.YtcaibhdnfkkmlaaW.PrintLast Go.Proofs.YtcaibhdnfkkmlaaW.PrintMore
theorem rd_nat (l : List Int) (q : Nat) : rd l (q : Int) = l.getD q 0 := by unfold rd; rw [Int.toNat_natCast]
theorem refrun_l1 (l : List Int) (q : Nat) (hq : q < l.length) (hok : octetsOk l = true) (r : Int) : ∀ (d i : Nat) (c : BitVec 32), i + d = 8 →
    Ev (fun k => waybillref02_run.l0 k (ofB (feed c ((bits8 (l.getD q 0)).drop i))) l (wrap64 ((q : Int) + 1))) r → Ev (fun k => waybillref02_run.l1 k (ofB c) l (q : Int) (i : Int)) r := by
  have hx := octetsOk_get hok q
  intro d
  induction d with
  | zero =>
    intro i c hi h
    refine Ev.step (fun k => ?_) h
    show waybillref02_run.l1 (k + 1) (ofB c) l q i = _
    rw [waybillref02_run.l1, if_neg (by omega), List.drop_of_length_le (by rw [bits8_length]; omega)]
    rfl
  | succ d ih =>
    intro i c hi h
    rw [bits8_drop _ i (by omega)] at h
    have h2 := ih (i + 1) (stp (c ^^^ bit32 ((l.getD q 0).toNat.testBit i))) (by omega) h
    refine Ev.step (fun k => ?_) h2
    show waybillref02_run.l1 (k + 1) (ofB c) l q i = _
    rw [waybillref02_run.l1, if_pos (by omega), if_pos (by omega), if_pos (by omega), if_pos (by omega), rd_nat, oct_bit32 _ i hx.1 hx.2 (by omega), and1_B, step_bit, show wrap64 ((i : Int) + 1) = ((i + 1 : Nat) : Int) by unfold wrap64; omega]
    cases c.getLsbD 0 <;> cases (l.getD q 0).toNat.testBit i <;> simp
theorem refrun_l0 (l : List Int) (hok : octetsOk l = true) (hl : l.length ≤ 140737488355328) : ∀ (d q : Nat) (c : BitVec 32), q + d = l.length → Ev (fun k => waybillref02_run.l0 k (ofB c) l (q : Int)) (ofB (runO c (l.drop q))) := by
  intro d
  induction d with
  | zero =>
    intro q c hq
    refine ⟨1, fun k hk => ?_⟩
    obtain ⟨k, rfl⟩ : ∃ m, k = m + 1 := ⟨k - 1, by omega⟩
    show waybillref02_run.l0 (k + 1) (ofB c) l q = _
    rw [waybillref02_run.l0, if_neg (by omega), List.drop_of_length_le (by omega)]
    rfl
  | succ d ih =>
    intro q c hq
    have hlt : q < l.length := by omega
    have hx := octetsOk_get hok q
    have h := ih (q + 1) (onO c (l.getD q 0)) (by omega)
    have hw : wrap64 ((q : Int) + 1) = ((q + 1 : Nat) : Int) := by unfold wrap64; omega
    have h1 := refrun_l1 l q hlt hok (ofB (runO (onO c (l.getD q 0)) (l.drop (q + 1)))) 8 0 c rfl (by
      rw [List.drop_zero, feed_octet c _ hx.1 hx.2, hw]; exact h)
    have e : runO c (l.drop q) = runO (onO c (l.getD q 0)) (l.drop (q + 1)) := by
      rw [List.drop_eq_getElem_cons hlt, List.getD_eq_getElem?_getD, List.getElem?_eq_getElem hlt]
      rfl
    rw [e]
    refine Ev.step (fun k => ?_) h1
    show waybillref02_run.l0 (k + 1) (ofB c) l q = _
    rw [waybillref02_run.l0, if_pos (by omega)]
    rfl
theorem refrun_f (l : List Int) (hok : octetsOk l = true) (hl : l.length ≤ 140737488355328) (c : BitVec 32) : Ev (fun k => waybillref02_run.f k (ofB c) l) (ofB (runO c l)) := refrun_l0 l hok hl l.length 0 c (by omega)
theorem refsum_f (l : List Int) (hok : octetsOk l = true) (hl : l.length ≤ 140737488355328) : Ev (fun k => waybillref02_Sum.f k l) (ofB (~~~ (runO (BitVec.allOnes 32) l))) := by
  unfold waybillref02_Sum.f
  refine Ev.bind (refrun_f l hok hl (BitVec.allOnes 32)) ?_
  rw [not_B']
  exact Ev.now _
theorem refmore_f (l : List Int) (hok : octetsOk l = true) (hl : l.length ≤ 140737488355328) (c : BitVec 32) : Ev (fun k => waybillref02_More.f k (ofB c) l) (ofB (~~~ (runO (~~~c) l))) := by
  unfold waybillref02_More.f
  rw [not_B']
  refine Ev.bind (refrun_f l hok hl (~~~c)) ?_
  rw [not_B']
  exact Ev.now _
theorem refback_l1 (l : List Int) (q : Nat) (hq : q < l.length) (hok : octetsOk l = true) (r : Int) : ∀ (i : Nat) (c : BitVec 32), i ≤ 8 →
    Ev (fun k => waybillref02_Back.l0 k (ofB (unf c ((bits8 (l.getD q 0)).take i))) l (wrap64 ((q : Int) - 1))) r → Ev (fun k => waybillref02_Back.l1 k (ofB c) l (q : Int) ((i : Int) - 1)) r := by
  have hx := octetsOk_get hok q
  intro i
  induction i with
  | zero =>
    intro c hi h
    refine Ev.step (fun k => ?_) h
    show waybillref02_Back.l1 (k + 1) (ofB c) l q _ = _
    rw [waybillref02_Back.l1, if_neg (by omega)]
    rfl
  | succ i ih =>
    intro c hi h
    rw [bits8_take _ i (by omega), unf_snoc] at h
    have h2 := ih (bck c ^^^ bit32 ((l.getD q 0).toNat.testBit i)) (by omega) h
    have e0 : ((i + 1 : Nat) : Int) - 1 = (i : Int) := by omega
    have e1 : wrap64 ((i : Int) - 1) = (i : Int) - 1 := by unfold wrap64; omega
    rw [e0]
    refine Ev.step (fun k => ?_) h2
    show waybillref02_Back.l1 (k + 1) (ofB c) l q i = _
    rw [waybillref02_Back.l1, if_pos (by omega), rd_nat, oct_bit8 _ i hx.1 hx.2 (by omega), step_back, e1]
    by_cases ho : ofB c / 2147483648 = 1
    · rw [if_pos ho, if_pos ho, ho, if_pos (show (0 : Int) ≤ (q : Int) by omega), if_pos (show (q : Int) < (l.length : Int) by omega), if_pos (show (0 : Int) ≤ (i : Int) by omega)]
      cases (l.getD q 0).toNat.testBit i <;> simp
    · rw [if_neg ho, if_neg ho, if_pos (show (0 : Int) ≤ (q : Int) by omega), if_pos (show (q : Int) < (l.length : Int) by omega), if_pos (show (0 : Int) ≤ (i : Int) by omega)]
      have hb : (ofB c / 2147483648 == 1) = false := beq_eq_false_iff_ne.2 ho
      rw [hb]
      cases (l.getD q 0).toNat.testBit i <;> simp
theorem refback_l0 (l : List Int) (hok : octetsOk l = true) (hl : l.length ≤ 140737488355328) : ∀ (n : Nat) (c : BitVec 32), n ≤ l.length → Ev (fun k => waybillref02_Back.l0 k (ofB c) l ((n : Int) - 1)) (ofB (~~~ (unrun c (l.take n)))) := by
  intro n
  induction n with
  | zero =>
    intro c _
    refine ⟨1, fun k hk => ?_⟩
    obtain ⟨k, rfl⟩ : ∃ m, k = m + 1 := ⟨k - 1, by omega⟩
    show waybillref02_Back.l0 (k + 1) (ofB c) l _ = _
    rw [waybillref02_Back.l0, if_neg (by omega), not_B']
    rfl
  | succ n ih =>
    intro c hn
    have hlt : n < l.length := by omega
    have hx := octetsOk_get hok n
    have h := ih (backO c (l.getD n 0)) (by omega)
    have hw : wrap64 ((n : Int) - 1) = (n : Int) - 1 := by unfold wrap64; omega
    have h1 := refback_l1 l n hlt hok (ofB (~~~ (unrun (backO c (l.getD n 0)) (l.take n)))) 8 c (by omega) (by
      rw [List.take_of_length_le (by rw [bits8_length]; omega), unf_octet c _ hx.1 hx.2, hw]; exact h)
    have e : unrun c (l.take (n + 1)) = unrun (backO c (l.getD n 0)) (l.take n) := by
      rw [List.take_succ_eq_append_getElem hlt, unrun_append, List.getD_eq_getElem?_getD, List.getElem?_eq_getElem hlt]
      rfl
    rw [e, show ((n + 1 : Nat) : Int) - 1 = (n : Int) by omega]
    refine Ev.step (fun k => ?_) h1
    show waybillref02_Back.l0 (k + 1) (ofB c) l n = _
    rw [waybillref02_Back.l0, if_pos (by omega)]
    rfl
theorem refback_f (l : List Int) (hok : octetsOk l = true) (hl : l.length ≤ 140737488355328) (c : BitVec 32) : Ev (fun k => waybillref02_Back.f k (ofB c) l) (ofB (~~~ (unrun (~~~c) l))) := by
  unfold waybillref02_Back.f
  rw [not_B', show wrap64 ((l.length : Int) - 1) = (l.length : Int) - 1 by unfold wrap64; omega]
  have := refback_l0 l hok hl l.length (~~~c) (Nat.le_refl _)
  rwa [List.take_length] at this
theorem refforce_f (l : List Int) (hok : octetsOk l = true) (hl : l.length ≤ 140737488355328) (c : BitVec 32) : Ev (fun k => waybillref02_Force.f k l (ofB c)) (octets4 (ofB (~~~ (runO (BitVec.allOnes 32) l) ^^^ ~~~ (unrun (~~~c) [0, 0, 0, 0])))) := by
  unfold waybillref02_Force.f
  refine Ev.bind (refsum_f l hok hl) (Ev.bind (refback_f [0, 0, 0, 0] rfl (by decide) c) ?_)
  rw [not_B', not_B', xor_B, BitVec.not_not, BitVec.not_not, not_xor_not]
  exact Ev.now _
theorem refunlike_l (l : List Int) (a T : Nat) (hl : l.length ≤ 140737488355328) (hT : T < 4294967296) (ha : a + 32 ≤ 8 * l.length) :
    ∀ (d : Nat) (i : Nat) (out : List Int), i + d = 32 → Turned l out a T i → ∃ r, waybillref02_Unlike.l0 (d + 1) (a : Int) (T : Int) out (i : Int) = some (r, 0) ∧ Turned l r a T 32 := by
  intro d
  induction d with
  | zero =>
    intro i out hi h
    obtain rfl : i = 32 := by omega
    exact ⟨out, by rw [waybillref02_Unlike.l0, if_neg (by omega)], h⟩
  | succ d ih =>
    intro i out hi h
    have w1 : wrap64 ((a : Int) + (i : Int)) = ((a + i : Nat) : Int) := by unfold wrap64; omega
    have w2 : wrap64 (Int.tdiv ((a + i : Nat) : Int) 8) = (((a + i) / 8 : Nat) : Int) := by
      rw [Int.tdiv_eq_ediv_of_nonneg (by omega)]; unfold wrap64; omega
    have w3 : Int.tmod ((a + i : Nat) : Int) 8 = (((a + i) % 8 : Nat) : Int) := by
      rw [Int.tmod_eq_emod_of_nonneg (by omega)]; omega
    have w4 : wrap64 ((i : Int) + 1) = ((i + 1 : Nat) : Int) := by unfold wrap64; omega
    have hs : shr .u32 (T : Int) (i : Int) = ((T / 2 ^ i : Nat) : Int) := by
      unfold shr
      rw [Int.toNat_natCast, Nat.min_eq_left (by show i ≤ 32; omega), Int.natCast_ediv, Int.natCast_pow]
      rfl
    have hd : T / 2 ^ i < 4294967296 := Nat.lt_of_le_of_lt (Nat.div_le_self _ _) hT
    have hb : Go.bits .and .u32 (shr .u32 (T : Int) (i : Int)) 1 = (((T.testBit i).toNat : Nat) : Int) := by
      rw [hs, show (1 : Int) = ((1 : Nat) : Int) from rfl, u32_and_nat _ 1 hd (by omega), Nat.and_one_is_mod, Nat.toNat_testBit]
    have hlen := h.len
    cases ht : T.testBit i with
    | false =>
      obtain ⟨r, hr, hr2⟩ := ih (i + 1) out (by omega) (turned_skip h ht)
      refine ⟨r, ?_, hr2⟩
      rw [waybillref02_Unlike.l0, if_pos (by omega), if_pos (by omega), hb, ht, if_neg (by simp), w4]
      exact hr
    | true =>
      have h3 := turned_step h hT (by omega) (by omega)
      rw [hb, ht, show (((true : Bool).toNat : Nat) : Int) % 256 = 1 from rfl] at h3
      obtain ⟨r, hr, hr2⟩ := ih (i + 1) _ (by omega) h3
      refine ⟨r, ?_, hr2⟩
      rw [waybillref02_Unlike.l0, w1, w2, w3, w4, if_pos (by omega), if_pos (by omega), hb, ht, if_pos (by rfl), if_pos (by omega), if_pos (by omega), if_pos (by omega), Int.toNat_natCast]
      exact hr
theorem turned_eq {l m n : List Int} {a T : Nat} (h1 : Turned l m a T 32) (h2 : Turned l n a T 32) : m = n :=
  ob_ext h1.ok h2.ok (by rw [h1.len, h2.len]) (fun q r hq hr => by
    rw [h1.len] at hq
    rw [h1.bit q r hq hr, h2.bit q r hq hr])
/-- The two texts tell the same. -/
theorem unlike_same (l : List Int) (at_ t : Int) (hok : octetsOk l = true) (hl : l.length ≤ 140737488351232) (h0 : -9223372036854775808 ≤ at_) (h9 : at_ ≤ 9223372036854775807) (ht0 : 0 ≤ t) (ht1 : t < 4294967296) (k : Nat) (hk : 40 ≤ k) :
    ∃ r e, octetsOk r = true ∧ crc_Unlike.f k l at_ t = some (r, e) ∧ waybillref02_Unlike.f k l at_ t = some (r, e) := by
  have w0 : wrap64 ((wrap64 (8 * (l.length : Int))) - 32) = 8 * (l.length : Int) - 32 := by
    have : wrap64 (8 * (l.length : Int)) = 8 * (l.length : Int) := by unfold wrap64; omega
    rw [this]; unfold wrap64; omega
  rcases unlike_f l at_ t hok hl h0 ht0 ht1 k hk with ⟨hc, hu⟩ | ⟨a, T, r, rfl, rfl, hT, h32, hu, htu⟩
  · refine ⟨[], 4, rfl, hu, ?_⟩
    obtain ⟨k, rfl⟩ : ∃ m, k = m + 1 := ⟨k - 1, by omega⟩
    have hj : ∀ (b : Bool), b = true → waybillref02_Unlike.j0 (k + 1) l at_ t b = some ([], 4) := fun b hb => by rw [waybillref02_Unlike.j0, if_pos hb]
    unfold waybillref02_Unlike.f
    split
    · exact hj _ rfl
    · rename_i h1
      split
      · exact hj _ rfl
      · rw [w0]
        exact hj _ (decide_eq_true (by omega))
  · refine ⟨r, 0, htu.ok, hu, ?_⟩
    obtain ⟨k, rfl⟩ : ∃ m, k = m + 1 := ⟨k - 1, by omega⟩
    have hdv : wrap64 (Int.tdiv (a : Int) 8) = ((a / 8 : Nat) : Int) := by
      rw [Int.tdiv_eq_ediv_of_nonneg (by omega)]; unfold wrap64; omega
    obtain ⟨r2, hr, hr2⟩ := refunlike_l l a T (by omega) hT h32 32 0 l rfl (turned_zero l a T hok)
    have hd : decide ((a : Int) > 8 * (l.length : Int) - 32) = false := decide_eq_false (by omega)
    unfold waybillref02_Unlike.f
    rw [w0, hdv, if_neg (by omega), if_neg (by omega), hd, waybillref02_Unlike.j0, if_neg (by simp)]
    unfold waybillref01_Copied.f
    rw [if_pos (by simp; omega), Option.bind_some, List.nil_append, turned_eq htu hr2]
    exact at_rounds (fun k => waybillref02_Unlike.mono_l k |>.2 _ _ _ _) (show 32 + 1 ≤ k by omega) hr
end Go.Proofs.Ytcaibhdnfkkmlaa.V
