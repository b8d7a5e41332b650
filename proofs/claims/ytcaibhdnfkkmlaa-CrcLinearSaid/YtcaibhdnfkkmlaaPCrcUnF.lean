/- What the program's own texts come to: octets with bits turned. -/
import Derived.Test.YtcaibhdnfkkmlaaQBase
import Derived.Test.YtcaibhdnfkkmlaaQCrc
import Derived.Test.YtcaibhdnfkkmlaaWMore
import Derived.Test.YtcaibhdnfkkmlaaPCrcUn
import Derived.Test.YtcaibhdnfkkmlaaGx10
import Derived.Test.YtcaibhdnfkkmlaaGx13
import Derived.Test.YtcaibhdnfkkmlaaGx15
import Derived.Test.YtcaibhdnfkkmlaaGx6
import Derived.Test.YtcaibhdnfkkmlaaGx7
set_option linter.unusedVariables false
set_option linter.unusedSimpArgs false
namespace Go.Proofs.Ytcaibhdnfkkmlaa.V
open WB Go Go.RowKit Go.Proofs.Ytcaibhdnfkkmlaa.G Go.Proofs.YtcaibhdnfkkmlaaW.PrintWords Go.Proofs.YtcaibhdnfkkmlaaW.PrintLast Go.Proofs.YtcaibhdnfkkmlaaW.PrintMore
theorem ok_of_wf {l : List Int} (h : ∀ x ∈ l, (Lit.int .u8 x).wf = true) : octetsOk l = true := by
  unfold octetsOk
  rw [List.all_eq_true]
  intro x hx
  have := h x hx
  simp [Lit.wf, IntKind.min, IntKind.max, IntKind.signed, IntKind.bits] at this
  simp
  omega
theorem u32_of_wf {x : Int} (h : (Lit.int .u32 x).wf = true) : 0 ≤ x ∧ x < 4294967296 := by
  simp [Lit.wf, IntKind.min, IntKind.max, IntKind.signed, IntKind.bits] at h
  omega
theorem i64_of_wf {x : Int} (h : (Lit.int .i64 x).wf = true) : -9223372036854775808 ≤ x ∧ x ≤ 9223372036854775807 := by
  simp [Lit.wf, IntKind.min, IntKind.max, IntKind.signed, IntKind.bits] at h
  omega
theorem unlike_l (l : List Int) (a T : Nat) (hl : l.length ≤ 140737488355328) (hT : T < 4294967296) (ha : a + 32 ≤ 8 * l.length) :
    ∀ (d : Nat) (i : Nat) (out : List Int), i + d = 32 → Turned l out a T i → ∃ r, crc_Unlike.l0 (d + 1) (a : Int) (T : Int) out (i : Int) = some (r, 0) ∧ Turned l r a T 32 := by
  intro d
  induction d with
  | zero =>
    intro i out hi h
    obtain rfl : i = 32 := by omega
    exact ⟨out, by rw [crc_Unlike.l0, if_neg (by omega)], h⟩
  | succ d ih =>
    intro i out hi h
    have hs := turned_step h hT (by omega) (by omega)
    obtain ⟨r, hr, hr2⟩ := ih (i + 1) _ (by omega) hs
    refine ⟨r, ?_, hr2⟩
    have w1 : wrap64 ((a : Int) + (i : Int)) = ((a + i : Nat) : Int) := by unfold wrap64; omega
    have w2 : wrap64 (Int.tdiv ((a + i : Nat) : Int) 8) = (((a + i) / 8 : Nat) : Int) := by
      rw [Int.tdiv_eq_ediv_of_nonneg (by omega)]; unfold wrap64; omega
    have w3 : Int.tmod ((a + i : Nat) : Int) 8 = (((a + i) % 8 : Nat) : Int) := by
      rw [Int.tmod_eq_emod_of_nonneg (by omega)]; omega
    have w4 : wrap64 ((i : Int) + 1) = ((i + 1 : Nat) : Int) := by unfold wrap64; omega
    have hlen := h.len
    rw [crc_Unlike.l0, w1, w2, w3, w4, if_pos (by omega), if_pos (by omega), if_pos (by omega), if_pos (by omega), if_pos (by omega), Int.toNat_natCast]
    exact hr
/-- Turned, or not: where the 32 bits don't lie within. -/
theorem unlike_f (l : List Int) (at_ t : Int) (hok : octetsOk l = true) (hl : l.length ≤ 140737488351232) (h0 : -9223372036854775808 ≤ at_) (ht0 : 0 ≤ t) (ht1 : t < 4294967296) (k : Nat) (hk : 40 ≤ k) :
    ((at_ < 0 ∨ 8 * (l.length : Int) - 32 < at_) ∧ crc_Unlike.f k l at_ t = some ([], 4)) ∨ (∃ a T r, at_ = ((a : Nat) : Int) ∧ t = ((T : Nat) : Int) ∧ T < 4294967296 ∧ a + 32 ≤ 8 * l.length ∧ crc_Unlike.f k l at_ t = some (r, 0) ∧ Turned l r a T 32) := by
  have w0 : wrap64 ((wrap64 (8 * (l.length : Int))) - 32) = 8 * (l.length : Int) - 32 := by
    have : wrap64 (8 * (l.length : Int)) = 8 * (l.length : Int) := by unfold wrap64; omega
    rw [this]; unfold wrap64; omega
  obtain ⟨k, rfl⟩ : ∃ m, k = m + 1 := ⟨k - 1, by omega⟩
  unfold crc_Unlike.f
  rw [w0]
  by_cases h1 : at_ < 0
  · exact .inl ⟨.inl h1, by rw [if_pos h1, crc_Unlike.j0, if_pos rfl]⟩
  · rw [if_neg h1]
    by_cases h2 : 8 * (l.length : Int) - 32 < at_
    · exact .inl ⟨.inr h2, by rw [crc_Unlike.j0, if_pos (decide_eq_true h2)]⟩
    · obtain ⟨a, rfl⟩ := Int.eq_ofNat_of_zero_le (Int.not_lt.1 h1)
      obtain ⟨T, rfl⟩ := Int.eq_ofNat_of_zero_le ht0
      obtain ⟨r, hr, hr2⟩ := unlike_l l a T (by omega) (by omega) (by omega) 32 0 l rfl (turned_zero l a T hok)
      refine .inr ⟨a, T, r, rfl, rfl, by omega, by omega, ?_, hr2⟩
      have hd : decide ((a : Int) > 8 * (l.length : Int) - 32) = false := decide_eq_false h2
      rw [hd, crc_Unlike.j0, if_neg (by simp)]
      unfold slices_Clone_byte_byte.f
      rw [if_pos (by omega), Option.bind_some]
      exact at_rounds (fun k => crc_Unlike.mono_l k |>.2 _ _ _ _) (show 32 + 1 ≤ k by omega) hr
theorem sum_f (l : List (List Int)) (h : l.all octetsOk = true) : crc_Sum.f l = some (ofB (~~~ (runO (BitVec.allOnes 32) l.flatten))) := by
  unfold crc_Sum.f
  rw [if_pos h]
theorem sum_one (l : List Int) (h : octetsOk l = true) : crc_Sum.f [l] = some (ofB (~~~ (runO (BitVec.allOnes 32) l))) := by
  rw [sum_f [l] (by simp [h])]
  simp
theorem not_inj {a b : BitVec 32} : ofB (~~~a) = ofB (~~~b) ↔ a = b := ⟨fun h => BitVec.not_inj.1 (ofB_inj h), fun h => by rw [h]⟩
theorem same_self (l : List Int) : waybillplain_SameBytes.f l l = some true := by
  unfold waybillplain_SameBytes.f
  simp
theorem copybytes_f (l : List Int) (h : l.length < 140737488355328) : waybillplain_CopyBytes.f l = some l := by
  unfold waybillplain_CopyBytes.f
  rw [if_pos (by simpa using h), List.nil_append]
end Go.Proofs.Ytcaibhdnfkkmlaa.V
