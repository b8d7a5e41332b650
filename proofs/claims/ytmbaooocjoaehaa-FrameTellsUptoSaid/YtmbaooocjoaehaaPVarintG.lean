/- What the printed functions of varint and of its reference come to. -/
import Derived.Test.YtmbaooocjoaehaaQBase
import Derived.Test.YtmbaooocjoaehaaPVarint
import Derived.Test.YtmbaooocjoaehaaGx1
import Derived.Test.YtmbaooocjoaehaaGx2
import Derived.Test.YtmbaooocjoaehaaGx3
import Derived.Test.YtmbaooocjoaehaaGx5
import Derived.Test.YtmbaooocjoaehaaGx6
import Derived.Test.YtmbaooocjoaehaaGx7
import Derived.Test.YtmbaooocjoaehaaGx8
set_option linter.unusedVariables false
set_option linter.unusedSimpArgs false
namespace Go.Proofs.Ytmbaooocjoaehaa.V
open WB Go Go.RowKit Go.Proofs.Ytmbaooocjoaehaa.G Go.Proofs.YtmbaooocjoaehaaW.PrintWords Go.Proofs.YtmbaooocjoaehaaW.PrintLast Go.Proofs.YtmbaooocjoaehaaW.PrintMore

theorem or128 (x : Int) (h0 : 0 ≤ x) (h1 : x < 256) : bits .or .u8 x 128 = x % 128 + 128 := by
  rw [u8_or x 128 h0 h1 (by decide) (by decide)]
  obtain ⟨n, rfl⟩ := Int.eq_ofNat_of_zero_le h0
  have : ∀ n : Nat, n < 256 → n ||| 128 = n % 128 + 128 := by decide +kernel
  have h2 := this n (by omega)
  show (((n : Int).toNat ||| (128 : Int).toNat : Nat) : Int) = _
  rw [Int.toNat_natCast, show (128 : Int).toNat = 128 from rfl, h2]
  omega

/-- The octets of numbers. -/
def encAll (xs : List Int) : List Int := (xs.map fun x => enc x.toNat).flatten
theorem encAll_nil : encAll [] = [] := rfl
theorem encAll_one (x : Int) : encAll [x] = enc x.toNat := by simp [encAll]
theorem encAll_cons (x : Int) (xs : List Int) : encAll (x :: xs) = enc x.toNat ++ encAll xs := by simp [encAll]

theorem put_l1 (x10 : List Int) (x11 x12 : Int) (r : List Int) : ∀ (n : Nat) (x5 : List Int), n < 18446744073709551616 → x5.length + (enc n).length ≤ 140737488355328 →
    Ev (fun k => varint_Put.l0 k (x5 ++ enc n) x10 x11 (wrap64 (x12 + 1))) r → Ev (fun k => varint_Put.l1 k x5 n x10 x11 x12) r := by
  intro n
  induction n using Nat.strongRecOn with
  | _ n ih =>
    intro x5 hn hl h
    rcases Nat.lt_or_ge n 128 with h1 | h1
    · rw [enc_small h1] at h hl
      refine Ev.step (fun k => ?_) h
      show varint_Put.l1 (k + 1) x5 n x10 x11 x12 = _
      simp only [varint_Put.l1]
      rw [if_neg (by omega), if_pos (by simp at hl; omega), show (n : Int) % 256 = n by omega]
    · rw [enc_big (by omega)] at h hl
      have hp := enc_pos (n / 128)
      rw [List.length_cons] at hl
      have := ih (n / 128) (by omega) (x5 ++ [((n % 128 + 128 : Nat) : Int)]) (by omega) (by simp; omega) (by simpa using h)
      refine Ev.step (fun k => ?_) this
      show varint_Put.l1 (k + 1) x5 n x10 x11 x12 = _
      simp only [varint_Put.l1]
      rw [if_pos (by omega), if_pos (by omega), or128 _ (by omega) (by omega), show (n : Int) / 128 = ((n / 128 : Nat) : Int) by omega,
        show (n : Int) % 256 % 128 + 128 = ((n % 128 + 128 : Nat) : Int) by omega]

theorem put_l0 (xs : List Int) (hx : ∀ x ∈ xs, 0 ≤ x ∧ x < 18446744073709551616) (hm : xs.length ≤ 140737488355328) : ∀ (d i : Nat) (x5 : List Int), xs.length - i = d → i ≤ xs.length → x5.length + 10 * d ≤ 140737488355328 →
    Ev (fun k => varint_Put.l0 k x5 xs (xs.length : Int) (i : Int)) (x5 ++ encAll (xs.drop i)) := by
  intro d
  induction d with
  | zero =>
    intro i x5 hd hi hl
    refine ⟨1, fun k hk => ?_⟩
    obtain ⟨k, rfl⟩ : ∃ m, k = m + 1 := ⟨k - 1, by omega⟩
    simp only [varint_Put.l0]
    rw [if_neg (by omega), List.drop_of_length_le (by omega), encAll_nil, List.append_nil]
  | succ d ih =>
    intro i x5 hd hi hl
    have hlt : i < xs.length := by omega
    obtain ⟨q, hq⟩ := Int.eq_ofNat_of_zero_le (hx _ (List.getElem_mem hlt)).1
    have hq2 := (hx _ (List.getElem_mem hlt)).2
    have hqn : q < 18446744073709551616 := by omega
    have hel := enc_len_10 hqn
    have hrd : rd xs (i : Int) = (q : Int) := by simp [rd, List.getElem?_eq_getElem hlt, hq]
    have hdr : xs.drop i = (q : Int) :: xs.drop (i + 1) := by rw [List.drop_eq_getElem_cons hlt, hq]
    have h1 := ih (i + 1) (x5 ++ enc q) (by omega) (by omega) (by simp; omega)
    have hw : wrap64 ((i : Int) + 1) = ((i + 1 : Nat) : Int) := by unfold wrap64; omega
    have h2 := put_l1 xs (xs.length : Int) (i : Int) (x5 ++ encAll (xs.drop i)) q x5 hqn (by omega) (by rw [hw, hdr, encAll_cons, Int.toNat_natCast, ← List.append_assoc]; exact h1)
    refine Ev.step (fun k => ?_) h2
    show varint_Put.l0 (k + 1) x5 xs (xs.length : Int) (i : Int) = _
    simp only [varint_Put.l0]
    rw [if_pos (by omega), if_pos (by omega), if_pos (by omega), hrd]

theorem put_f (l xs : List Int) (hx : ∀ x ∈ xs, 0 ≤ x ∧ x < 18446744073709551616) (hl : l.length + 10 * xs.length < 140737488355328) : Ev (fun k => varint_Put.f k l xs) (l ++ encAll xs) := by
  have h := put_l0 xs hx (by omega) xs.length 0 l (by omega) (by omega) (by omega)
  rw [List.drop_zero] at h
  refine Ev.congr (fun k => ?_) h
  show varint_Put.f k l xs = _
  unfold varint_Put.f slices_Clone_byte_byte.f
  rw [if_pos (by omega)]
  rfl

theorem refput_l0 : ∀ (n : Nat) (x5 : List Int), n < 18446744073709551616 → x5.length + (enc n).length ≤ 140737488355328 → Ev (fun k => waybillref01_Put.l0 k n x5) (x5 ++ enc n) := by
  intro n
  induction n using Nat.strongRecOn with
  | _ n ih =>
    intro x5 hn hl
    rcases Nat.lt_or_ge n 128 with h1 | h1
    · rw [enc_small h1] at hl ⊢
      refine ⟨1, fun k hk => ?_⟩
      obtain ⟨k, rfl⟩ : ∃ m, k = m + 1 := ⟨k - 1, by omega⟩
      simp only [waybillref01_Put.l0]
      rw [if_neg (by omega), if_pos (by simp at hl; omega), show (n : Int) % 256 = n by omega]
    · rw [enc_big (by omega)] at hl ⊢
      have hp := enc_pos (n / 128)
      rw [List.length_cons] at hl
      have := ih (n / 128) (by omega) (x5 ++ [((n % 128 + 128 : Nat) : Int)]) (by omega) (by simp; omega)
      rw [List.append_assoc] at this
      refine Ev.step (fun k => ?_) this
      show waybillref01_Put.l0 (k + 1) n x5 = _
      simp only [waybillref01_Put.l0]
      have e1 : Int.tdiv (n : Int) 128 = ((n / 128 : Nat) : Int) := by rw [Int.tdiv_eq_ediv_of_nonneg (by omega)]; omega
      have e2 : Int.tmod (n : Int) 128 = ((n % 128 : Nat) : Int) := by rw [Int.tmod_eq_emod_of_nonneg (by omega)]; omega
      rw [if_pos (by omega), if_pos (by omega), e1, e2, IntKind.wrap_u64, show ((n / 128 : Nat) : Int) % 18446744073709551616 = ((n / 128 : Nat) : Int) by omega,
        show (((n % 128 : Nat) : Int) + 128) % 256 = ((n % 128 + 128 : Nat) : Int) by omega]

theorem copied_f (l : List Int) (hl : l.length < 140737488355328) : waybillref01_Copied.f l = some l := by
  unfold waybillref01_Copied.f
  rw [if_pos (by simpa using hl), List.nil_append]
theorem copybytes_f (l : List Int) (hl : l.length < 140737488355328) : waybillplain_CopyBytes.f l = some l := by
  unfold waybillplain_CopyBytes.f
  rw [if_pos (by simpa using hl), List.nil_append]
theorem clone_f (l : List Int) (hl : l.length < 140737488355328) : slices_Clone_byte_byte.f l = some l := by
  unfold slices_Clone_byte_byte.f
  rw [if_pos hl]

theorem refput_f (l : List Int) (n : Int) (h0 : 0 ≤ n) (h1 : n < 18446744073709551616) (hl : l.length + 10 < 140737488355328) : Ev (fun k => waybillref01_Put.f k l n) (l ++ enc n.toNat) := by
  obtain ⟨n, rfl⟩ := Int.eq_ofNat_of_zero_le h0
  have hn : n < 18446744073709551616 := by omega
  have := enc_len_10 hn
  refine Ev.congr (fun k => ?_) (refput_l0 n l hn (by omega))
  show waybillref01_Put.f k l n = _
  unfold waybillref01_Put.f
  rw [copied_f l (by omega)]
  rfl

theorem ok_of_wf {l : List Int} (h : ∀ x ∈ l, (Lit.int .u8 x).wf = true) : octetsOk l = true := by
  unfold octetsOk
  rw [List.all_eq_true]
  intro x hx
  have := h x hx
  simp [Lit.wf, IntKind.min, IntKind.max, IntKind.signed, IntKind.bits] at this ⊢
  omega
theorem u64_of_wf {x : Int} (h : (Lit.int .u64 x).wf = true) : 0 ≤ x ∧ x < 18446744073709551616 := by
  simp [Lit.wf, IntKind.min, IntKind.max, IntKind.signed, IntKind.bits] at h
  omega
theorem i64_of_wf {x : Int} (h : (Lit.int .i64 x).wf = true) : -9223372036854775808 ≤ x ∧ x < 9223372036854775808 := by
  simp [Lit.wf, IntKind.min, IntKind.max, IntKind.signed, IntKind.bits] at h
  omega
theorem get_f (l : List Int) (a : Int) (h : octetsOk l = true) : varint_Get.f l a = some (getAt l a) := by unfold varint_Get.f; rw [if_pos h]
theorem refget_f (l : List Int) (a : Int) (h : octetsOk l = true) : waybillref01_Get.f l a = some (getAt l a) := by unfold waybillref01_Get.f; rw [if_pos h]
theorem same_self (l : List Int) : waybillplain_SameBytes.f l l = some true := by unfold waybillplain_SameBytes.f; simp
end Go.Proofs.Ytmbaooocjoaehaa.V
