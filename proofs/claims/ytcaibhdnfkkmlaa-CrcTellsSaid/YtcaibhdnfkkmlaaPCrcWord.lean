/- Four octets as a word: a register goes over them as over the word; gone back over four zeros. -/
import Derived.Test.YtcaibhdnfkkmlaaQBase
import Derived.Test.YtcaibhdnfkkmlaaQCrc
import Derived.Test.YtcaibhdnfkkmlaaWMore
import Derived.Test.YtcaibhdnfkkmlaaPCrcUn
import Derived.Test.YtcaibhdnfkkmlaaGx23
set_option linter.unusedVariables false
set_option linter.unusedSimpArgs false
namespace Go.Proofs.Ytcaibhdnfkkmlaa.V
open WB Go Go.RowKit Go.Proofs.Ytcaibhdnfkkmlaa.G Go.Proofs.YtcaibhdnfkkmlaaW.PrintWords Go.Proofs.YtcaibhdnfkkmlaaW.PrintLast Go.Proofs.YtcaibhdnfkkmlaaW.PrintMore
theorem octets4_ok (x : BitVec 32) : octetsOk (octets4 (ofB x)) = true := by
  have h0 := ofB_nonneg x
  have h1 := ofB_lt x
  simp [octets4, octetsOk]
  omega
theorem octets4_bit (x : BitVec 32) (q r : Nat) (hq : q < 4) (hr : r < 8) : ob (octets4 (ofB x)) q r = x.getLsbD (8 * q + r) := by
  have key : ∀ p : Nat, (ofB x / ((2 ^ p : Nat) : Int) % 256).toNat = x.toNat / 2 ^ p % 256 := fun p => by
    unfold ofB
    have : ((x.toNat : Int) / ((2 ^ p : Nat) : Int)) = ((x.toNat / 2 ^ p : Nat) : Int) := (Int.natCast_ediv _ _).symm
    rw [this]
    omega
  have fin : ∀ p : Nat, (x.toNat / 2 ^ p % 256).testBit r = x.getLsbD (p + r) := fun p => by
    rw [show 256 = 2 ^ 8 from rfl, Nat.testBit_mod_two_pow, Nat.testBit_div_two_pow, decide_eq_true hr, Bool.true_and, Nat.add_comm]
    rfl
  unfold ob octets4
  have c : q = 0 ∨ q = 1 ∨ q = 2 ∨ q = 3 := by omega
  rcases c with rfl | rfl | rfl | rfl
  · have := key 0
    rw [show ((2 ^ 0 : Nat) : Int) = 1 from rfl, Int.ediv_one] at this
    show ((ofB x % 256).toNat).testBit r = _
    rw [this, fin 0]
  · show ((ofB x / 256 % 256).toNat).testBit r = _
    rw [show (256 : Int) = ((2 ^ 8 : Nat) : Int) from rfl] 
    have := key 8
    rw [show ((2 ^ 8 : Nat) : Int) = 256 from rfl] at this ⊢
    rw [this, fin 8]
  · show ((ofB x / 65536 % 256).toNat).testBit r = _
    have := key 16
    rw [show ((2 ^ 16 : Nat) : Int) = 65536 from rfl] at this
    rw [this, fin 16]
  · show ((ofB x / 16777216 % 256).toNat).testBit r = _
    have := key 24
    rw [show ((2 ^ 24 : Nat) : Int) = 16777216 from rfl] at this
    rw [this, fin 24]
theorem run_octets4 (c x : BitVec 32) : runO c (octets4 (ofB x)) = stps 32 (c ^^^ x) := by
  rw [← feed_octets _ c (ok_mem (octets4_ok x)), feed_word _ _ (by rw [allBits_length]; simp [octets4]), allBits_length]
  have hl : (octets4 (ofB x)).length = 4 := rfl
  rw [hl]
  congr 2
  apply BitVec.eq_of_getLsbD_eq
  intro j hj
  rw [word_get _ j hj, List.getD_eq_getElem?_getD, allBits_get _ j (by rw [hl]; omega), Option.getD_some, octets4_bit x _ _ (by omega) (Nat.mod_lt _ (by decide)), show 8 * (j / 8) + j % 8 = j by omega]
theorem unrun_zeros (d : BitVec 32) : unrun d [0, 0, 0, 0] = bcks 32 d := by
  have h : ∀ c, backO c 0 = bcks 8 c := fun c => by unfold backO; simp
  show backO (backO (backO (backO d 0) 0) 0) 0 = _
  rw [h, h, h, h, ← bcks_add, ← bcks_add, ← bcks_add]
theorem not_xor_not (a b : BitVec 32) : ~~~a ^^^ ~~~b = a ^^^ b := by
  apply BitVec.eq_of_getLsbD_eq
  intro i hi
  simp [hi]
/-- What is forced. -/
theorem forced (R w : BitVec 32) : ~~~ (runO R (octets4 (ofB (~~~R ^^^ ~~~ (unrun (~~~w) [0, 0, 0, 0]))))) = w := by
  rw [run_octets4, not_xor_not, unrun_zeros, ← BitVec.xor_assoc, BitVec.xor_self, BitVec.zero_xor, stps_bcks]
  simp
theorem forced_only (R w : BitVec 32) (o : BitVec 32) (h : ~~~ (runO R (octets4 (ofB o))) = w) : o = ~~~R ^^^ ~~~ (unrun (~~~w) [0, 0, 0, 0]) := by
  rw [run_octets4] at h
  rw [not_xor_not, unrun_zeros, ← h]
  simp [bcks_stps, ← BitVec.xor_assoc]
theorem octets4_inj {a b : BitVec 32} (h : octets4 (ofB a) = octets4 (ofB b)) : a = b := by
  have := congrArg (runO 0#32) h
  rw [run_octets4, run_octets4] at this
  simpa using stps_inj this
end Go.Proofs.Ytcaibhdnfkkmlaa.V
