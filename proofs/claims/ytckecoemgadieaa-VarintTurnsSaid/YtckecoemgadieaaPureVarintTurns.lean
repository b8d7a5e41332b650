/- VarintTurns: numbers come back from their turned forms, both ways; a number nearer to 0 is told by no more octets. No program here. -/
import Derived.Test.YtckecoemgadieaaQBase
import Derived.Test.YtckecoemgadieaaPVarint
import Derived.Test.YtckecoemgadieaaPVarintG
import Derived.Test.YtckecoemgadieaaGx10
import Derived.Test.YtckecoemgadieaaGx11
import Derived.Test.YtckecoemgadieaaGx9
set_option linter.unusedVariables false
set_option linter.unusedSimpArgs false
namespace Go.Proofs.Ytckecoemgadieaa.Pure
open WB Go Go.RowKit Go.Proofs.Ytckecoemgadieaa.G Go.Proofs.Ytckecoemgadieaa.V Go.Proofs.YtckecoemgadieaaW.PrintWords Go.Proofs.YtckecoemgadieaaW.PrintLast Go.Proofs.YtckecoemgadieaaW.PrintMore

def zig (a : Int) : Nat := if 0 ≤ a then (2 * a).toNat else (-2 * a - 1).toNat
def zag (m : Nat) : Int := if m % 2 = 0 then (m / 2 : Nat) else -((m / 2 : Nat) : Int) - 1

theorem not64 (y : Nat) (h : y < 18446744073709551616) : y ^^^ 18446744073709551615 = 18446744073709551615 - y := by
  have := BitVec.toNat_not (x := BitVec.ofNat 64 y)
  rw [← BitVec.xor_allOnes, BitVec.toNat_xor, BitVec.toNat_allOnes, BitVec.toNat_ofNat, Nat.mod_eq_of_lt h] at this
  simpa using this
theorem xor_m1 (x : Int) (h0 : -9223372036854775808 ≤ x) (h1 : x < 9223372036854775808) : bits .xor .i64 x (-1) = -x - 1 := by
  have e : (BitVec.ofInt 64 (-1)) = BitVec.allOnes 64 := by decide
  show IntKind.i64.wrap (((BitVec.ofInt 64 x ^^^ BitVec.ofInt 64 (-1)).toNat : Nat) : Int) = _
  rw [e, BitVec.xor_allOnes, BitVec.toNat_not, BitVec.toNat_ofInt, IntKind.wrap_i64]
  omega
theorem xor_0 (x : Int) (h0 : -9223372036854775808 ≤ x) (h1 : x < 9223372036854775808) : bits .xor .i64 x 0 = x := by
  have e : (BitVec.ofInt 64 0) = 0#64 := by decide
  show IntKind.i64.wrap (((BitVec.ofInt 64 x ^^^ BitVec.ofInt 64 0).toNat : Nat) : Int) = _
  rw [e, BitVec.xor_zero, BitVec.toNat_ofInt, IntKind.wrap_i64]
  omega
theorem and_1 (n : Nat) (h : n < 18446744073709551616) : bits .and .u64 n 1 = ((n % 2 : Nat) : Int) := by
  have := u64_and_nat n 1 h (by decide)
  rw [Nat.and_one_is_mod] at this
  exact this

theorem zig_f (a : Int) (h0 : -9223372036854775808 ≤ a) (h1 : a < 9223372036854775808) : varint_Zig.f a = some (zig a : Int) := by
  unfold varint_Zig.f zig
  congr 1
  rw [IntKind.wrap_u64, IntKind.wrap_u64, IntKind.wrap_u64]
  by_cases h : 0 ≤ a
  · rw [if_pos h, show a / 9223372036854775808 % 18446744073709551616 = ((0 : Nat) : Int) by omega, show a % 18446744073709551616 * 2 % 18446744073709551616 = (((2 * a).toNat : Nat) : Int) by omega,
      u64_xor_nat _ 0 (by omega) (by decide), Nat.xor_zero]
  · rw [if_neg h, show a / 9223372036854775808 % 18446744073709551616 = ((18446744073709551615 : Nat) : Int) by omega, show a % 18446744073709551616 * 2 % 18446744073709551616 = (((2 * a + 18446744073709551616).toNat : Nat) : Int) by omega,
      u64_xor_nat _ _ (by omega) (by decide), not64 _ (by omega)]
    omega
theorem zag_f (m : Int) (h0 : 0 ≤ m) (h1 : m < 18446744073709551616) : varint_Zag.f m = some (zag m.toNat) := by
  obtain ⟨m, rfl⟩ := Int.eq_ofNat_of_zero_le h0
  unfold varint_Zag.f zag
  congr 1
  rw [and_1 m (by omega), Int.toNat_natCast]
  have e1 : wrap64 ((m : Int) / 2) = ((m / 2 : Nat) : Int) := by unfold wrap64; omega
  rw [e1]
  by_cases h : m % 2 = 0
  · rw [if_pos h, h, show wrap64 (-(wrap64 ((0 : Nat) : Int))) = 0 by unfold wrap64; omega, xor_0 _ (by omega) (by omega)]
  · rw [if_neg h, show m % 2 = 1 by omega, show wrap64 (-(wrap64 ((1 : Nat) : Int))) = -1 by unfold wrap64; omega, xor_m1 _ (by omega) (by omega)]
theorem zig_lt (a : Int) (h0 : -9223372036854775808 ≤ a) (h1 : a < 9223372036854775808) : zig a < 18446744073709551616 := by unfold zig; split <;> omega
theorem zag_in (m : Nat) (h : m < 18446744073709551616) : -9223372036854775808 ≤ zag m ∧ zag m < 9223372036854775808 := by unfold zag; split <;> omega
theorem zag_zig (a : Int) : zag (zig a) = a := by unfold zag zig; split <;> split <;> omega
theorem zig_zag (m : Nat) : zig (zag m) = m := by unfold zag zig; split <;> split <;> omega

theorem enc_mono : ∀ (b a : Nat), a ≤ b → (enc a).length ≤ (enc b).length := by
  intro b
  induction b using Nat.strongRecOn with
  | _ b ih =>
    intro a h
    rcases Nat.lt_or_ge a 128 with h1 | h1
    · rw [enc_small h1]; exact enc_pos b
    · rw [enc_big (by omega), enc_big (n := b) (by omega), List.length_cons, List.length_cons]
      have := ih (b / 128) (by omega) (a / 128) (by omega)
      omega

theorem VarintTurns : waybilllaw01_VarintTurns.Pure := by
  intro n m k hn hm hk
  have hn := i64_of_wf hn
  have hm := u64_of_wf hm
  have hk := i64_of_wf hk
  obtain ⟨m, rfl⟩ := Int.eq_ofNat_of_zero_le hm.1
  obtain ⟨K1, h1⟩ := alive_f
  have zn := zig_lt n hn.1 hn.2
  have zk := zig_lt k hk.1 hk.2
  obtain ⟨zN, ezN⟩ : ∃ z, z = zig n := ⟨_, rfl⟩
  obtain ⟨zK, ezK⟩ : ∃ z, z = zig k := ⟨_, rfl⟩
  rw [← ezN] at zn
  rw [← ezK] at zk
  obtain ⟨K2, h2⟩ := size_f (zN : Int) (by omega) (by omega)
  obtain ⟨K3, h3⟩ := size_f (zK : Int) (by omega) (by omega)
  have z1 := zig_f n hn.1 hn.2
  have z2 := zag_f (zig n) (by omega) (by rw [← ezN]; omega)
  have z3 := zag_f m (by omega) hm.2
  have hz := zag_in m (by omega)
  rw [Int.toNat_natCast] at z2 z3
  have z4 := zig_f (zag m) hz.1 hz.2
  have z5 := zig_f k hk.1 hk.2
  rw [zag_zig] at z2
  rw [zig_zag] at z4
  rw [← ezN] at z1 z2
  rw [← ezK] at z5
  refine ⟨K1 + K2 + K3 + 1, ?_⟩
  unfold waybilllaw01_VarintTurns.f
  have a1 := h1 (K1 + K2 + K3 + 1) (by omega)
  have a2 := h2 (K1 + K2 + K3) (by omega)
  have a3 := h3 (K1 + K2 + K3) (by omega)
  simp only at a1 a2 a3
  rw [a1, Option.bind_some, if_pos rfl, z1, Option.bind_some, z2, Option.bind_some, if_pos rfl, z3, Option.bind_some, z4, Option.bind_some]
  simp only [waybilllaw01_VarintTurns.j0]
  rw [if_neg (by simp)]
  by_cases c1 : n < 0
  · rw [if_pos c1]
  by_cases c2 : k < n
  · rw [if_neg c1, if_pos c2]
  rw [if_neg c1, if_neg c2]
  rw [z1, Option.bind_some, a2, Option.bind_some, z5, Option.bind_some, a3, Option.bind_some]
  have := enc_mono zK zN (by rw [ezN, ezK]; unfold zig; rw [if_pos (by omega), if_pos (by omega)]; omega)
  simp only [Int.toNat_natCast]
  simp
  omega
end Go.Proofs.Ytckecoemgadieaa.Pure
