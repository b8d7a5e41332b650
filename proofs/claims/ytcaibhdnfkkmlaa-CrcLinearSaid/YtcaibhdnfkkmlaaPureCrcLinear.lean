/- CrcLinear: the sum of three texts of one length, bit by bit exclusive or, is that of their sums. No program here. -/
import Derived.Test.YtcaibhdnfkkmlaaQBase
import Derived.Test.YtcaibhdnfkkmlaaQOpen
import Derived.Test.YtcaibhdnfkkmlaaQCrc
import Derived.Test.YtcaibhdnfkkmlaaPCrcUn
import Derived.Test.YtcaibhdnfkkmlaaPCrcUnF
import Derived.Test.YtcaibhdnfkkmlaaGx8
set_option linter.unusedVariables false
set_option linter.unusedSimpArgs false
namespace Go.Proofs.Ytcaibhdnfkkmlaa.Pure
open WB Go Go.RowKit Go.Proofs.Ytcaibhdnfkkmlaa.G Go.Proofs.Ytcaibhdnfkkmlaa.V Go.Proofs.YtcaibhdnfkkmlaaW.PrintWords Go.Proofs.YtcaibhdnfkkmlaaW.PrintLast Go.Proofs.YtcaibhdnfkkmlaaW.PrintMore
theorem xor_nat (x y : Int) (hx : 0 ≤ x ∧ x < 256) (hy : 0 ≤ y ∧ y < 256) : BitVec.ofNat 32 (Go.bits .xor .u8 x y).toNat = BitVec.ofNat 32 x.toNat ^^^ BitVec.ofNat 32 y.toNat := by
  rw [u8_xor x y hx.1 hx.2 hy.1 hy.2, Int.toNat_natCast]
  apply BitVec.eq_of_toNat_eq
  have h : x.toNat ^^^ y.toNat < 2 ^ 8 := Nat.xor_lt_two_pow (by omega) (by omega)
  rw [BitVec.toNat_xor, BitVec.toNat_ofNat, BitVec.toNat_ofNat, BitVec.toNat_ofNat, Nat.mod_eq_of_lt (by omega), Nat.mod_eq_of_lt (by omega), Nat.mod_eq_of_lt (by omega)]
theorem run_lin (l0 l1 l2 : List Int) (h0 : octetsOk l0 = true) (h1 : octetsOk l1 = true) (h2 : octetsOk l2 = true) (c0 c1 c2 : BitVec 32) : ∀ n, n ≤ l0.length → n ≤ l1.length → n ≤ l2.length →
    runO (c0 ^^^ c1 ^^^ c2) (xorN l0 l1 l2 n) = runO c0 (l0.take n) ^^^ runO c1 (l1.take n) ^^^ runO c2 (l2.take n)
  | 0, _, _, _ => by simp [xorN, runO]
  | n + 1, a0, a1, a2 => by
    have ih := run_lin l0 l1 l2 h0 h1 h2 c0 c1 c2 n (by omega) (by omega) (by omega)
    have hs : ∀ (l : List Int) (c : BitVec 32), n < l.length → runO c (l.take (n + 1)) = onO (runO c (l.take n)) (l.getD n 0) := fun l c h => by
      rw [List.take_succ_eq_append_getElem h, runO_append, List.getD_eq_getElem?_getD, List.getElem?_eq_getElem h]
      rfl
    rw [xorN_succ, runO_append, ih, hs l0 c0 (by omega), hs l1 c1 (by omega), hs l2 c2 (by omega)]
    have b0 := octetsOk_get h0 n
    have b1 := octetsOk_get h1 n
    have b2 := octetsOk_get h2 n
    show onO (_ ^^^ _) (xor3 l0 l1 l2 n) = _
    rw [← onO_xor _ _ _ _ (Go.bits .xor .u8 (l0.getD n 0) (l1.getD n 0)) (xor_nat _ _ b0 b1), ← onO_xor _ _ _ _ (xor3 l0 l1 l2 n) (xor_nat _ _ (xor8_ok _ _ b0 b1) b2)]
theorem CrcLinear (a : List Int) (b : List Int) (c : List Int) (hw0 : ∀ x ∈ a, (Lit.int .u8 x).wf = true) (hw1 : ∀ x ∈ b, (Lit.int .u8 x).wf = true) (hw2 : ∀ x ∈ c, (Lit.int .u8 x).wf = true)
    (hs0 : a.length * 1 ≤ reachBytes ∧ ∀ x ∈ a, True) (_ : b.length * 1 ≤ reachBytes ∧ ∀ x ∈ b, True) (_ : c.length * 1 ≤ reachBytes ∧ ∀ x ∈ c, True) : waybilllaw02_CrcLinear.f a b c = some true := by
  have ha := ok_of_wf hw0
  have hb := ok_of_wf hw1
  have hc := ok_of_wf hw2
  have hl : a.length ≤ 140737488351232 := by have := hs0.1; simp only [reachBytes] at this; omega
  unfold waybilllaw02_CrcLinear.f
  rw [if_pos ⟨ha, hb, hc, hl⟩]
  have h := run_lin a b c ha hb hc (BitVec.allOnes 32) (BitVec.allOnes 32) (BitVec.allOnes 32) (linL a b c) (by unfold linL; omega) (by unfold linL; omega) (by unfold linL; omega)
  rw [show (BitVec.allOnes 32 ^^^ BitVec.allOnes 32 ^^^ BitVec.allOnes 32) = BitVec.allOnes 32 from by decide] at h
  have hn : ∀ x y z : BitVec 32, ~~~x ^^^ ~~~y ^^^ ~~~z = ~~~(x ^^^ y ^^^ z) := fun x y z => by
    apply BitVec.eq_of_getLsbD_eq
    intro i hi
    simp [hi]
  unfold sumO
  rw [hn, h]
  simp
end Go.Proofs.Ytcaibhdnfkkmlaa.Pure
