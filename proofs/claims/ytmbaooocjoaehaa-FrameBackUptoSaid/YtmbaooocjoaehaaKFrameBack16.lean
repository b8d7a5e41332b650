/- FrameBack: texts of this claim, packed: what the kit's print has written for it and own texts, without what its proof does not reach. -/
import Derived.Test.YtmbaooocjoaehaaKFrameBack0
import Derived.Test.YtmbaooocjoaehaaKFrameBack2
import Derived.Test.YtmbaooocjoaehaaKFrameBack4
import Derived.Test.YtmbaooocjoaehaaKFrameBack5
import Derived.Test.YtmbaooocjoaehaaKFrameBack9
import Derived.Test.YtmbaooocjoaehaaKFrameBack10
import Derived.Test.YtmbaooocjoaehaaKFrameBack11
import Derived.Test.YtmbaooocjoaehaaKFrameBack12
import Derived.Test.YtmbaooocjoaehaaKFrameBack14
import Derived.Test.YtmbaooocjoaehaaKFrameBack15
set_option linter.unusedVariables false
set_option linter.unusedSimpArgs false
set_option linter.unusedSectionVars false
section
set_option linter.unusedVariables false
set_option linter.unusedSimpArgs false
namespace Go.Proofs.Ytmbaooocjoaehaa.V
open WB Go Go.RowKit Go.Proofs.Ytmbaooocjoaehaa.G Go.Proofs.YtmbaooocjoaehaaW.PrintWords Go.Proofs.YtmbaooocjoaehaaW.PrintLast Go.Proofs.YtmbaooocjoaehaaW.PrintMore
theorem or128 (x : Int) (h0 : 0 ≤ x) (h1 : x < 256) : bits .or .u8 x 128 = x % 128 + 128 := by
  rw [u8_or x 128 h0 h1 (by decide) (by decide)]
  obtain ⟨n, rfl⟩ := Int.eq_ofNat_of_zero_le h0
  have : ∀ n : Nat, n < 256 → n ||| 128 = n % 128 + 128 := by decide +kernel
  have h2 := this n (by omega)
  show (((n : Int).toNat ||| (128 : Int).toNat : Nat) : Int) = _
  rw [Int.toNat_natCast, show (128 : Int).toNat = 128 from rfl, h2]
  omega
/-- The octets of numbers. -/
def encAll (xs : List Int) : List Int := (xs.map fun x => enc x.toNat).flatten
theorem encAll_nil : encAll [] = [] := rfl
theorem encAll_one (x : Int) : encAll [x] = enc x.toNat := by simp [encAll]
theorem encAll_cons (x : Int) (xs : List Int) : encAll (x :: xs) = enc x.toNat ++ encAll xs := by simp [encAll]
theorem put_l1 (x10 : List Int) (x11 x12 : Int) (r : List Int) : ∀ (n : Nat) (x5 : List Int), n < 18446744073709551616 → x5.length + (enc n).length ≤ 140737488355328 →
    Ev (fun k => varint_Put.l0 k (x5 ++ enc n) x10 x11 (wrap64 (x12 + 1))) r → Ev (fun k => varint_Put.l1 k x5 n x10 x11 x12) r := by
  intro n
  induction n using Nat.strongRecOn with
  | _ n ih =>
    intro x5 hn hl h
    rcases Nat.lt_or_ge n 128 with h1 | h1
    · rw [enc_small h1] at h hl
      refine Ev.step (fun k => ?_) h
      show varint_Put.l1 (k + 1) x5 n x10 x11 x12 = _
      simp only [varint_Put.l1]
      rw [if_neg (by omega), if_pos (by simp at hl; omega), show (n : Int) % 256 = n by omega]
    · rw [enc_big (by omega)] at h hl
      have hp := enc_pos (n / 128)
      rw [List.length_cons] at hl
      have := ih (n / 128) (by omega) (x5 ++ [((n % 128 + 128 : Nat) : Int)]) (by omega) (by simp; omega) (by simpa using h)
      refine Ev.step (fun k => ?_) this
      show varint_Put.l1 (k + 1) x5 n x10 x11 x12 = _
      simp only [varint_Put.l1]
      rw [if_pos (by omega), if_pos (by omega), or128 _ (by omega) (by omega), show (n : Int) / 128 = ((n / 128 : Nat) : Int) by omega,
        show (n : Int) % 256 % 128 + 128 = ((n % 128 + 128 : Nat) : Int) by omega]
theorem put_l0 (xs : List Int) (hx : ∀ x ∈ xs, 0 ≤ x ∧ x < 18446744073709551616) (hm : xs.length ≤ 140737488355328) : ∀ (d i : Nat) (x5 : List Int), xs.length - i = d → i ≤ xs.length → x5.length + 10 * d ≤ 140737488355328 →
    Ev (fun k => varint_Put.l0 k x5 xs (xs.length : Int) (i : Int)) (x5 ++ encAll (xs.drop i)) := by
  intro d
  induction d with
  | zero =>
    intro i x5 hd hi hl
    refine ⟨1, fun k hk => ?_⟩
    obtain ⟨k, rfl⟩ : ∃ m, k = m + 1 := ⟨k - 1, by omega⟩
    simp only [varint_Put.l0]
    rw [if_neg (by omega), List.drop_of_length_le (by omega), encAll_nil, List.append_nil]
  | succ d ih =>
    intro i x5 hd hi hl
    have hlt : i < xs.length := by omega
    obtain ⟨q, hq⟩ := Int.eq_ofNat_of_zero_le (hx _ (List.getElem_mem hlt)).1
    have hq2 := (hx _ (List.getElem_mem hlt)).2
    have hqn : q < 18446744073709551616 := by omega
    have hel := enc_len_10 hqn
    have hrd : rd xs (i : Int) = (q : Int) := by simp [rd, List.getElem?_eq_getElem hlt, hq]
    have hdr : xs.drop i = (q : Int) :: xs.drop (i + 1) := by rw [List.drop_eq_getElem_cons hlt, hq]
    have h1 := ih (i + 1) (x5 ++ enc q) (by omega) (by omega) (by simp; omega)
    have hw : wrap64 ((i : Int) + 1) = ((i + 1 : Nat) : Int) := by unfold wrap64; omega
    have h2 := put_l1 xs (xs.length : Int) (i : Int) (x5 ++ encAll (xs.drop i)) q x5 hqn (by omega) (by rw [hw, hdr, encAll_cons, Int.toNat_natCast, ← List.append_assoc]; exact h1)
    refine Ev.step (fun k => ?_) h2
    show varint_Put.l0 (k + 1) x5 xs (xs.length : Int) (i : Int) = _
    simp only [varint_Put.l0]
    rw [if_pos (by omega), if_pos (by omega), if_pos (by omega), hrd]
theorem put_f (l xs : List Int) (hx : ∀ x ∈ xs, 0 ≤ x ∧ x < 18446744073709551616) (hl : l.length + 10 * xs.length < 140737488355328) : Ev (fun k => varint_Put.f k l xs) (l ++ encAll xs) := by
  have h := put_l0 xs hx (by omega) xs.length 0 l (by omega) (by omega) (by omega)
  rw [List.drop_zero] at h
  refine Ev.congr (fun k => ?_) h
  show varint_Put.f k l xs = _
  unfold varint_Put.f slices_Clone_byte_byte.f
  rw [if_pos (by omega)]
  rfl
theorem refput_l0 : ∀ (n : Nat) (x5 : List Int), n < 18446744073709551616 → x5.length + (enc n).length ≤ 140737488355328 → Ev (fun k => waybillref01_Put.l0 k n x5) (x5 ++ enc n) := by
  intro n
  induction n using Nat.strongRecOn with
  | _ n ih =>
    intro x5 hn hl
    rcases Nat.lt_or_ge n 128 with h1 | h1
    · rw [enc_small h1] at hl ⊢
      refine ⟨1, fun k hk => ?_⟩
      obtain ⟨k, rfl⟩ : ∃ m, k = m + 1 := ⟨k - 1, by omega⟩
      simp only [waybillref01_Put.l0]
      rw [if_neg (by omega), if_pos (by simp at hl; omega), show (n : Int) % 256 = n by omega]
    · rw [enc_big (by omega)] at hl ⊢
      have hp := enc_pos (n / 128)
      rw [List.length_cons] at hl
      have := ih (n / 128) (by omega) (x5 ++ [((n % 128 + 128 : Nat) : Int)]) (by omega) (by simp; omega)
      rw [List.append_assoc] at this
      refine Ev.step (fun k => ?_) this
      show waybillref01_Put.l0 (k + 1) n x5 = _
      simp only [waybillref01_Put.l0]
      have e1 : Int.tdiv (n : Int) 128 = ((n / 128 : Nat) : Int) := by rw [Int.tdiv_eq_ediv_of_nonneg (by omega)]; omega
      have e2 : Int.tmod (n : Int) 128 = ((n % 128 : Nat) : Int) := by rw [Int.tmod_eq_emod_of_nonneg (by omega)]; omega
      rw [if_pos (by omega), if_pos (by omega), e1, e2, IntKind.wrap_u64, show ((n / 128 : Nat) : Int) % 18446744073709551616 = ((n / 128 : Nat) : Int) by omega,
        show (((n % 128 : Nat) : Int) + 128) % 256 = ((n % 128 + 128 : Nat) : Int) by omega]
theorem copied_f (l : List Int) (hl : l.length < 140737488355328) : waybillref01_Copied.f l = some l := by
  unfold waybillref01_Copied.f
  rw [if_pos (by simpa using hl), List.nil_append]
theorem copybytes_f (l : List Int) (hl : l.length < 140737488355328) : waybillplain_CopyBytes.f l = some l := by
  unfold waybillplain_CopyBytes.f
  rw [if_pos (by simpa using hl), List.nil_append]
theorem clone_f (l : List Int) (hl : l.length < 140737488355328) : slices_Clone_byte_byte.f l = some l := by
  unfold slices_Clone_byte_byte.f
  rw [if_pos hl]
theorem refput_f (l : List Int) (n : Int) (h0 : 0 ≤ n) (h1 : n < 18446744073709551616) (hl : l.length + 10 < 140737488355328) : Ev (fun k => waybillref01_Put.f k l n) (l ++ enc n.toNat) := by
  obtain ⟨n, rfl⟩ := Int.eq_ofNat_of_zero_le h0
  have hn : n < 18446744073709551616 := by omega
  have := enc_len_10 hn
  refine Ev.congr (fun k => ?_) (refput_l0 n l hn (by omega))
  show waybillref01_Put.f k l n = _
  unfold waybillref01_Put.f
  rw [copied_f l (by omega)]
  rfl
theorem ok_of_wf {l : List Int} (h : ∀ x ∈ l, (Lit.int .u8 x).wf = true) : octetsOk l = true := by
  unfold octetsOk
  rw [List.all_eq_true]
  intro x hx
  have := h x hx
  simp [Lit.wf, IntKind.min, IntKind.max, IntKind.signed, IntKind.bits] at this ⊢
  omega
theorem get_f (l : List Int) (a : Int) (h : octetsOk l = true) : varint_Get.f l a = some (getAt l a) := by unfold varint_Get.f; rw [if_pos h]
theorem refget_f (l : List Int) (a : Int) (h : octetsOk l = true) : waybillref01_Get.f l a = some (getAt l a) := by unfold waybillref01_Get.f; rw [if_pos h]
theorem same_self (l : List Int) : waybillplain_SameBytes.f l l = some true := by unfold waybillplain_SameBytes.f; simp
end Go.Proofs.Ytmbaooocjoaehaa.V
end

section
set_option linter.unusedVariables false
set_option linter.unusedSimpArgs false
namespace Go.Proofs.Ytmbaooocjoaehaa.V
open WB Go Go.RowKit Go.Proofs.Ytmbaooocjoaehaa.G Go.Proofs.YtmbaooocjoaehaaW.PrintWords Go.Proofs.YtmbaooocjoaehaaW.PrintLast Go.Proofs.YtmbaooocjoaehaaW.PrintMore
/-- A text with its length. -/
def txt (s : List Int) : List Int := enc s.length ++ s
def txts (xs : List (List Int)) : List Int := (xs.map txt).flatten
theorem txt_len {s : List Int} (h : s.length < 18446744073709551616) : (txt s).length ≤ s.length + 10 := by
  unfold txt
  rw [List.length_append]
  have := enc_len_10 h
  omega
theorem texts_l0 (xs : List (List Int)) (hm : xs.length ≤ 140737488355328) : ∀ (d i : Nat) (x5 : List Int), xs.length - i = d → i ≤ xs.length → x5.length + lsum (fun s => s.length + 10) (xs.drop i) < 140737488355328 - 10 →
    Ev (fun k => varint_Texts.l0 k x5 xs (xs.length : Int) (i : Int)) (x5 ++ txts (xs.drop i)) := by
  intro d
  induction d with
  | zero =>
    intro i x5 hd hi hl
    refine ⟨1, fun k hk => ?_⟩
    obtain ⟨k, rfl⟩ : ∃ m, k = m + 1 := ⟨k - 1, by omega⟩
    simp only [varint_Texts.l0]
    rw [if_neg (by omega), List.drop_of_length_le (by omega)]
    simp [txts]
  | succ d ih =>
    intro i x5 hd hi hl
    have hlt : i < xs.length := by omega
    have hdr : xs.drop i = xs[i] :: xs.drop (i + 1) := by rw [List.drop_eq_getElem_cons hlt]
    rw [hdr] at hl ⊢
    simp only [lsum] at hl
    have hrd : rd_L1 xs (i : Int) = xs[i] := by simp [rd_L1, List.getElem?_eq_getElem hlt]
    obtain ⟨s, hs⟩ : ∃ s, s = xs[i] := ⟨_, rfl⟩
    rw [← hs] at hl hrd ⊢
    have hsl : s.length < 18446744073709551616 := by omega
    have hel := enc_len_10 hsl
    obtain ⟨K1, h1⟩ := put_f x5 [(s.length : Int)] (by simp; omega) (by simp; omega)
    obtain ⟨K2, h2⟩ := ih (i + 1) (x5 ++ enc s.length ++ s) (by omega) (by omega) (by simp only [List.length_append]; omega)
    refine ⟨K1 + K2 + 1, fun k hk => ?_⟩
    obtain ⟨k, rfl⟩ : ∃ m, k = m + 1 := ⟨k - 1, by omega⟩
    have a1 := h1 k (by omega)
    have a2 := h2 k (by omega)
    dsimp only at a1 a2
    rw [encAll_one, Int.toNat_natCast] at a1
    simp only [varint_Texts.l0]
    have hw : IntKind.u64.wrap (s.length : Int) = (s.length : Int) := by rw [IntKind.wrap_u64]; omega
    rw [if_pos (by omega), if_pos (by omega), if_pos (by omega), hrd, hw, a1, Option.bind_some, if_pos (by rw [List.length_append]; omega), show wrap64 ((i : Int) + 1) = ((i + 1 : Nat) : Int) by unfold wrap64; omega, a2]
    simp [txts, txt]
theorem texts_f (l : List Int) (xs : List (List Int)) (hm : xs.length ≤ 140737488355328) (hl : l.length + lsum (fun s => s.length + 10) xs < 140737488355328 - 10) : Ev (fun k => varint_Texts.f k l xs) (l ++ txts xs) := by
  have h := texts_l0 xs hm xs.length 0 l (by omega) (by omega) (by simpa using hl)
  rw [List.drop_zero] at h
  refine Ev.congr (fun k => ?_) h
  show varint_Texts.f k l xs = _
  unfold varint_Texts.f
  rw [clone_f l (by omega)]
  rfl
end Go.Proofs.Ytmbaooocjoaehaa.V
end

section
set_option linter.unusedVariables false
set_option linter.unusedSimpArgs false
namespace Go.Proofs.Ytmbaooocjoaehaa.V
open WB Go Go.RowKit Go.Proofs.Ytmbaooocjoaehaa.G Go.Proofs.YtmbaooocjoaehaaW.PrintWords Go.Proofs.YtmbaooocjoaehaaW.PrintLast Go.Proofs.YtmbaooocjoaehaaW.PrintMore
theorem reftexts_f (l s : List Int) (hl : l.length + s.length + 20 < 140737488355328) : Ev (fun k => waybillref01_Texts.f k l s) (l ++ txt s) := by
  have hel := enc_len_10 (n := s.length) (by omega)
  obtain ⟨K, h⟩ := refput_f l (s.length : Int) (by omega) (by omega) (by omega)
  refine ⟨K, fun k hk => ?_⟩
  have a := h k hk
  dsimp only at a ⊢
  unfold waybillref01_Texts.f
  have hw : IntKind.u64.wrap (s.length : Int) = (s.length : Int) := by rw [IntKind.wrap_u64]; omega
  rw [Int.toNat_natCast] at a
  rw [hw, a, Option.bind_some, if_pos (by rw [List.length_append]; omega)]
  simp [txt]
end Go.Proofs.Ytmbaooocjoaehaa.V
end

section
set_option linter.unusedVariables false
set_option linter.unusedSimpArgs false
namespace Go.Proofs.Ytmbaooocjoaehaa.V
open WB Go Go.RowKit Go.Proofs.Ytmbaooocjoaehaa.G Go.Proofs.YtmbaooocjoaehaaW.PrintWords Go.Proofs.YtmbaooocjoaehaaW.PrintLast Go.Proofs.YtmbaooocjoaehaaW.PrintMore
theorem sum_f (l : List (List Int)) (h : l.all octetsOk = true) : crc_Sum.f l = some (ofB (~~~ (runO (BitVec.allOnes 32) l.flatten))) := by
  unfold crc_Sum.f
  rw [if_pos h]
theorem sum_one (l : List Int) (h : octetsOk l = true) : crc_Sum.f [l] = some (ofB (~~~ (runO (BitVec.allOnes 32) l))) := by
  rw [sum_f [l] (by simp [h])]
  simp
end Go.Proofs.Ytmbaooocjoaehaa.V
end

section
set_option linter.unusedVariables false
set_option linter.unusedSimpArgs false
namespace WB
open Go Go.RowKit Go.Proofs.YtmbaooocjoaehaaW.PrintWords Go.Proofs.YtmbaooocjoaehaaW.PrintLast Go.Proofs.YtmbaooocjoaehaaW.PrintMore
theorem step_bit (c : BitVec 32) (b : Bool) : ofB (stp (c ^^^ bit32 b)) = if c.getLsbD 0 = b then ofB c / (2 : Int) else Go.bits .xor .u32 (ofB c / (2 : Int)) (3988292384 : Int) := by
  have h := shr_B c 1
  rw [show ((2 ^ 1 : Nat) : Int) = 2 from rfl] at h
  have t1 : stp (bit32 true) = turn32 := by decide
  have t0 : stp (bit32 false) = 0#32 := by decide
  have ht : (3988292384 : Int) = ofB turn32 := rfl
  rw [stp_xor, h, ht, xor_B]
  unfold stp at *
  cases hc : c.getLsbD 0 <;> cases b
  · rw [if_pos rfl]; simp [bit32]
  · rw [if_neg (by simp)]; simp only [t1, cond_false, BitVec.xor_zero]
  · rw [if_neg (by simp)]; simp [bit32]
  · rw [if_pos rfl]
    congr 1
    show c >>> 1 ^^^ turn32 ^^^ (bit32 true >>> 1 ^^^ _) = _
    have : (bit32 true >>> 1 ^^^ (bif (bit32 true).getLsbD 0 then turn32 else 0#32)) = turn32 := by decide
    rw [this, BitVec.xor_assoc, BitVec.xor_self, BitVec.xor_zero]
theorem shr_oct (x : Int) (i : Nat) (h0 : 0 ≤ x) (h1 : x < 256) (hi : i < 8) : shr .u8 x (i : Int) = ((x.toNat / 2 ^ i : Nat) : Int) ∧ x.toNat / 2 ^ i < 256 := by
  obtain ⟨X, rfl⟩ := Int.eq_ofNat_of_zero_le h0
  refine ⟨?_, Nat.lt_of_le_of_lt (Nat.div_le_self _ _) (by omega)⟩
  unfold shr
  rw [Int.toNat_natCast, Nat.min_eq_left (by show i ≤ 8; omega), Int.toNat_natCast, Int.natCast_ediv, Int.natCast_pow]
  rfl
theorem oct_bit32 (x : Int) (i : Nat) (h0 : 0 ≤ x) (h1 : x < 256) (hi : i < 8) : Go.bits .and .u32 ((shr .u8 x (i : Int)) % 4294967296) 1 = if x.toNat.testBit i then 1 else 0 := by
  obtain ⟨e, hl⟩ := shr_oct x i h0 h1 hi
  rw [e, Int.emod_eq_of_lt (Int.natCast_nonneg _) (by have h3 : ((x.toNat / 2 ^ i : Nat) : Int) < ((256 : Nat) : Int) := Int.ofNat_lt.2 hl; generalize ((x.toNat / 2 ^ i : Nat) : Int) = z at h3; omega), show (1 : Int) = ((1 : Nat) : Int) from rfl, u32_and_nat _ 1 (by omega) (by omega), Nat.and_one_is_mod, ← Nat.toNat_testBit]
  cases x.toNat.testBit i <;> rfl
theorem bits8_drop (x : Int) (i : Nat) (hi : i < 8) : (bits8 x).drop i = x.toNat.testBit i :: (bits8 x).drop (i + 1) := by
  rw [List.drop_eq_getElem_cons (by rw [bits8_length]; exact hi)]
  congr 1
  have := bits8_get x i hi
  rw [List.getElem?_eq_getElem (by rw [bits8_length]; exact hi)] at this
  exact Option.some.inj this
end WB
namespace Go.Proofs.Ytmbaooocjoaehaa.V
open WB Go Go.RowKit Go.Proofs.Ytmbaooocjoaehaa.G Go.Proofs.YtmbaooocjoaehaaW.PrintWords Go.Proofs.YtmbaooocjoaehaaW.PrintLast Go.Proofs.YtmbaooocjoaehaaW.PrintMore
theorem rd_nat (l : List Int) (q : Nat) : rd l (q : Int) = l.getD q 0 := by unfold rd; rw [Int.toNat_natCast]
theorem refrun_l1 (l : List Int) (q : Nat) (hq : q < l.length) (hok : octetsOk l = true) (r : Int) : ∀ (d i : Nat) (c : BitVec 32), i + d = 8 →
    Ev (fun k => waybillref02_run.l0 k (ofB (feed c ((bits8 (l.getD q 0)).drop i))) l (wrap64 ((q : Int) + 1))) r → Ev (fun k => waybillref02_run.l1 k (ofB c) l (q : Int) (i : Int)) r := by
  have hx := octetsOk_get hok q
  intro d
  induction d with
  | zero =>
    intro i c hi h
    refine Ev.step (fun k => ?_) h
    show waybillref02_run.l1 (k + 1) (ofB c) l q i = _
    rw [waybillref02_run.l1, if_neg (by omega), List.drop_of_length_le (by rw [bits8_length]; omega)]
    rfl
  | succ d ih =>
    intro i c hi h
    rw [bits8_drop _ i (by omega)] at h
    have h2 := ih (i + 1) (stp (c ^^^ bit32 ((l.getD q 0).toNat.testBit i))) (by omega) h
    refine Ev.step (fun k => ?_) h2
    show waybillref02_run.l1 (k + 1) (ofB c) l q i = _
    rw [waybillref02_run.l1, if_pos (by omega), if_pos (by omega), if_pos (by omega), if_pos (by omega), rd_nat, oct_bit32 _ i hx.1 hx.2 (by omega), and1_B, step_bit, show wrap64 ((i : Int) + 1) = ((i + 1 : Nat) : Int) by unfold wrap64; omega]
    cases c.getLsbD 0 <;> cases (l.getD q 0).toNat.testBit i <;> simp
theorem refrun_l0 (l : List Int) (hok : octetsOk l = true) (hl : l.length ≤ 140737488355328) : ∀ (d q : Nat) (c : BitVec 32), q + d = l.length → Ev (fun k => waybillref02_run.l0 k (ofB c) l (q : Int)) (ofB (runO c (l.drop q))) := by
  intro d
  induction d with
  | zero =>
    intro q c hq
    refine ⟨1, fun k hk => ?_⟩
    obtain ⟨k, rfl⟩ : ∃ m, k = m + 1 := ⟨k - 1, by omega⟩
    show waybillref02_run.l0 (k + 1) (ofB c) l q = _
    rw [waybillref02_run.l0, if_neg (by omega), List.drop_of_length_le (by omega)]
    rfl
  | succ d ih =>
    intro q c hq
    have hlt : q < l.length := by omega
    have hx := octetsOk_get hok q
    have h := ih (q + 1) (onO c (l.getD q 0)) (by omega)
    have hw : wrap64 ((q : Int) + 1) = ((q + 1 : Nat) : Int) := by unfold wrap64; omega
    have h1 := refrun_l1 l q hlt hok (ofB (runO (onO c (l.getD q 0)) (l.drop (q + 1)))) 8 0 c rfl (by
      rw [List.drop_zero, feed_octet c _ hx.1 hx.2, hw]; exact h)
    have e : runO c (l.drop q) = runO (onO c (l.getD q 0)) (l.drop (q + 1)) := by
      rw [List.drop_eq_getElem_cons hlt, List.getD_eq_getElem?_getD, List.getElem?_eq_getElem hlt]
      rfl
    rw [e]
    refine Ev.step (fun k => ?_) h1
    show waybillref02_run.l0 (k + 1) (ofB c) l q = _
    rw [waybillref02_run.l0, if_pos (by omega)]
    rfl
theorem refrun_f (l : List Int) (hok : octetsOk l = true) (hl : l.length ≤ 140737488355328) (c : BitVec 32) : Ev (fun k => waybillref02_run.f k (ofB c) l) (ofB (runO c l)) := refrun_l0 l hok hl l.length 0 c (by omega)
theorem refsum_f (l : List Int) (hok : octetsOk l = true) (hl : l.length ≤ 140737488355328) : Ev (fun k => waybillref02_Sum.f k l) (ofB (~~~ (runO (BitVec.allOnes 32) l))) := by
  unfold waybillref02_Sum.f
  refine Ev.bind (refrun_f l hok hl (BitVec.allOnes 32)) ?_
  rw [not_B']
  exact Ev.now _
end Go.Proofs.Ytmbaooocjoaehaa.V
end

section
set_option linter.unusedVariables false
set_option linter.unusedSimpArgs false
namespace Go.Proofs.Ytmbaooocjoaehaa.V
open WB Go Go.RowKit Go.Proofs.Ytmbaooocjoaehaa.G Go.Proofs.YtmbaooocjoaehaaW.PrintWords Go.Proofs.YtmbaooocjoaehaaW.PrintLast Go.Proofs.YtmbaooocjoaehaaW.PrintMore
def sum4 (l : List Int) : List Int := [ofB (~~~ (runO (BitVec.allOnes 32) l)) % 256, ofB (~~~ (runO (BitVec.allOnes 32) l)) / 256 % 256, ofB (~~~ (runO (BitVec.allOnes 32) l)) / 65536 % 256, ofB (~~~ (runO (BitVec.allOnes 32) l)) / 16777216 % 256]
def frm (p : List Int) : List Int := txt p ++ sum4 (txt p)
def checkP (p : List Int) : Int := if (p.length : Int) = 0 then 8 else if (p.length : Int) > 4096 then 5 else 0
def putF : List Int → List (List Int) → List Int × Int
  | b, [] => (b, 0)
  | b, p :: l => if checkP p = 0 then putF (b ++ frm p) l else ([], checkP p)
theorem sum4_len (l : List Int) : (sum4 l).length = 4 := rfl
theorem sum4_ok (l : List Int) : octetsOk (sum4 l) = true := by
  have h0 := ofB_nonneg (~~~ (runO (BitVec.allOnes 32) l))
  have h1 := ofB_lt (~~~ (runO (BitVec.allOnes 32) l))
  simp [sum4, octetsOk]
  omega
theorem txt_ok {p : List Int} (h : octetsOk p = true) : octetsOk (txt p) = true := by
  unfold txt
  rw [octetsOk_append, enc_ok, h]
  rfl
theorem frm_ok {p : List Int} (h : octetsOk p = true) : octetsOk (frm p) = true := by
  unfold frm
  rw [octetsOk_append, txt_ok h, sum4_ok]
  rfl
theorem check_p (p : List Int) : frame_check.f p = some (checkP p) := by
  unfold frame_check.f checkP
  split
  · rfl
  · split <;> rfl
theorem check_ok {p : List Int} (h : checkP p = 0) : 0 < p.length ∧ p.length ≤ 4096 := by
  unfold checkP at h
  split at h
  · cases h
  · split at h
    · cases h
    · omega
theorem frm_len {p : List Int} (h : checkP p = 0) : (frm p).length ≤ 4110 := by
  have := check_ok h
  have := txt_len (s := p) (by omega)
  unfold frm
  rw [List.length_append, sum4_len]
  omega
theorem summed_f (l : List Int) (h : octetsOk l = true) (hl : l.length + 4 < 140737488355328) : frame_summed.f l = some (l ++ sum4 l) := by
  unfold frame_summed.f
  rw [sum_one l h, Option.bind_some, Option.bind_some, if_pos (by simpa using hl)]
  rfl
theorem equal_l0 (a b : List Int) (hab : a.length = b.length) (hm : a.length ≤ 140737488355328) : ∀ (d i : Nat), i + d = a.length → Ev (fun k => slices_Equal_byte_byte.l0 k a b (a.length : Int) (i : Int)) (decide (a.drop i = b.drop i)) := by
  intro d
  induction d with
  | zero =>
    intro i hi
    refine ⟨1, fun k hk => ?_⟩
    obtain ⟨k, rfl⟩ : ∃ m, k = m + 1 := ⟨k - 1, by omega⟩
    show slices_Equal_byte_byte.l0 (k + 1) a b _ _ = _
    rw [slices_Equal_byte_byte.l0, if_neg (by omega), List.drop_of_length_le (by omega), List.drop_of_length_le (by omega)]
    simp
  | succ d ih =>
    intro i hi
    have hlt : i < a.length := by omega
    have hlt2 : i < b.length := by omega
    have ra : rd a (i : Int) = a[i] := by simp [rd, List.getElem?_eq_getElem hlt]
    have rb : rd b (i : Int) = b[i] := by simp [rd, List.getElem?_eq_getElem hlt2]
    have hw : wrap64 ((i : Int) + 1) = ((i + 1 : Nat) : Int) := by unfold wrap64; omega
    rw [show a.drop i = a[i] :: a.drop (i + 1) from List.drop_eq_getElem_cons hlt, show b.drop i = b[i] :: b.drop (i + 1) from List.drop_eq_getElem_cons hlt2]
    by_cases he : a[i] = b[i]
    · have h := ih (i + 1) (by omega)
      have e : decide (a[i] :: a.drop (i + 1) = b[i] :: b.drop (i + 1)) = decide (a.drop (i + 1) = b.drop (i + 1)) := decide_eq_decide.2 ⟨fun q => (List.cons.inj q).2, fun q => by rw [he, q]⟩
      rw [e]
      refine Ev.step (fun k => ?_) h
      show slices_Equal_byte_byte.l0 (k + 1) a b _ _ = _
      rw [slices_Equal_byte_byte.l0, if_pos (by omega), if_pos (by omega), if_pos (by omega), if_pos (by omega), ra, rb, if_pos he, hw]
    · refine ⟨1, fun k hk => ?_⟩
      obtain ⟨k, rfl⟩ : ∃ m, k = m + 1 := ⟨k - 1, by omega⟩
      show slices_Equal_byte_byte.l0 (k + 1) a b _ _ = _
      rw [slices_Equal_byte_byte.l0, if_pos (by omega), if_pos (by omega), if_pos (by omega), if_pos (by omega), ra, rb, if_neg he, decide_eq_false (fun q => he (List.cons.inj q).1)]
theorem equal_f (a b : List Int) (hm : a.length ≤ 140737488355328) : Ev (fun k => slices_Equal_byte_byte.f k a b) (decide (a = b)) := by
  unfold slices_Equal_byte_byte.f
  by_cases h : a.length = b.length
  · have := equal_l0 a b h hm a.length 0 (by omega)
    rw [List.drop_zero, List.drop_zero] at this
    refine Ev.congr (fun k => ?_) this
    rw [if_pos (by omega)]
    rfl
  · refine Ev.congr (fun k => ?_) (Ev.now _)
    rw [if_neg (by omega), decide_eq_false (fun he => h (by rw [he]))]
theorem fput_l0 (xs : List (List Int)) (hok : ∀ s ∈ xs, octetsOk s = true) (hm : xs.length ≤ 140737488355328) : ∀ (d i : Nat) (x6 : List Int), xs.length - i = d → i ≤ xs.length → x6.length + 5000 * d < 140737488350000 → Ev (fun k => frame_Put.l0 k x6 xs (xs.length : Int) (i : Int)) (putF x6 (xs.drop i)) := by
  intro d
  induction d with
  | zero =>
    intro i x6 hd hi _
    refine ⟨1, fun k hk => ?_⟩
    obtain ⟨k, rfl⟩ : ∃ m, k = m + 1 := ⟨k - 1, by omega⟩
    show frame_Put.l0 (k + 1) x6 xs _ _ = _
    rw [frame_Put.l0, if_neg (by omega), List.drop_of_length_le (by omega)]
    rfl
  | succ d ih =>
    intro i x6 hd hi hx
    have hlt : i < xs.length := by omega
    obtain ⟨s, hs⟩ : ∃ s, s = xs[i] := ⟨_, rfl⟩
    have hrd : rd_L1 xs (i : Int) = s := by simp [rd_L1, List.getElem?_eq_getElem hlt, hs]
    have hso : octetsOk s = true := by rw [hs]; exact hok _ (List.getElem_mem hlt)
    have hw : wrap64 ((i : Int) + 1) = ((i + 1 : Nat) : Int) := by unfold wrap64; omega
    rw [List.drop_eq_getElem_cons hlt, ← hs, putF]
    by_cases hc : checkP s = 0
    · have hcl := check_ok hc
      have hfl := frm_len hc
      have htl := txt_len (s := s) (by omega)
      obtain ⟨K1, h1⟩ := texts_f [] [s] (by simp) (by simp [lsum]; omega)
      obtain ⟨K2, h2⟩ := ih (i + 1) (x6 ++ frm s) (by omega) (by omega) (by rw [List.length_append]; omega)
      rw [if_pos hc]
      refine ⟨K1 + K2 + 1, fun k hk => ?_⟩
      obtain ⟨k, rfl⟩ : ∃ m, k = m + 1 := ⟨k - 1, by omega⟩
      have a1 := h1 k (by omega)
      have a2 := h2 k (by omega)
      dsimp only at a1 a2
      rw [show ([] : List Int) ++ txts [s] = txt s by simp [txts]] at a1
      show frame_Put.l0 (k + 1) x6 xs _ _ = _
      rw [frame_Put.l0, if_pos (by omega), if_pos (by omega), if_pos (by omega), hrd, check_p, Option.bind_some, if_pos hc, a1, Option.bind_some, summed_f _ (txt_ok hso) (by omega), Option.bind_some, if_pos (by
        show x6.length + (frm s).length < _
        omega), hw]
      exact a2
    · rw [if_neg hc]
      refine ⟨1, fun k hk => ?_⟩
      obtain ⟨k, rfl⟩ : ∃ m, k = m + 1 := ⟨k - 1, by omega⟩
      show frame_Put.l0 (k + 1) x6 xs _ _ = _
      rw [frame_Put.l0, if_pos (by omega), if_pos (by omega), if_pos (by omega), hrd, check_p, Option.bind_some, if_neg hc]
theorem fput_f (b : List Int) (xs : List (List Int)) (hok : ∀ s ∈ xs, octetsOk s = true) (hl : b.length + 5000 * xs.length < 140737488350000) : Ev (fun k => frame_Put.f k b xs) (putF b xs) := by
  have h := fput_l0 xs hok (by omega) xs.length 0 b (by omega) (by omega) hl
  rw [List.drop_zero] at h
  refine Ev.congr (fun k => ?_) h
  show frame_Put.f k b xs = _
  unfold frame_Put.f
  rw [clone_f b (by omega)]
  rfl
/-- The first frame's payload, the place behind it, the error. -/
def getF (l : List Int) : List Int × Int × Int :=
  if (getAt l 0).2.2 = 8 then ([], 0, 71) else if (getAt l 0).2.2 = 0 then
    (if (getAt l 0).1 = 0 then ([], 0, 8) else if (getAt l 0).1 > 4096 then ([], 0, 5) else
      if (l.length : Int) - (getAt l 0).2.1 - 4 < (getAt l 0).1 then ([], 0, 71) else
      if l.take ((getAt l 0).2.1 + (getAt l 0).1).toNat ++ sum4 (l.take ((getAt l 0).2.1 + (getAt l 0).1).toNat) = l.take ((getAt l 0).2.1 + (getAt l 0).1 + 4).toNat
      then ((l.take ((getAt l 0).2.1 + (getAt l 0).1).toNat).drop (getAt l 0).2.1.toNat, (getAt l 0).2.1 + (getAt l 0).1 + 4, 0) else ([], 0, 21))
  else ([], 0, (getAt l 0).2.2)
theorem getAt_bounds {l : List Int} (hok : octetsOk l = true) : 0 ≤ (getAt l 0).1 ∧ (getAt l 0).1 < 18446744073709551616 ∧ 0 ≤ (getAt l 0).2.1 ∧ (getAt l 0).2.1 ≤ l.length := by
  rcases getAt_cases hok 0 with ⟨e, h, _⟩ | ⟨q, x, rest, h1, h2, h3, h4⟩
  · rw [h]
    dsimp only
    omega
  · rw [h4]
    have := congrArg List.length h1
    rw [List.length_append, List.length_append] at this
    dsimp only
    omega
theorem fget_f (l : List Int) (hok : octetsOk l = true) (hl : l.length < 140737488350000) : Ev (fun k => frame_Get.f k l) (getF l) := by
  unfold frame_Get.f getF
  obtain ⟨b1, b2, b3, b4⟩ := getAt_bounds hok
  rw [get_f l 0 hok]
  obtain ⟨g, hg⟩ : ∃ g, g = getAt l 0 := ⟨_, rfl⟩
  rw [← hg] at b1 b2 b3 b4 ⊢
  clear hg
  obtain ⟨n, a, e⟩ := g
  simp only [Option.bind_some] at b1 b2 b3 b4 ⊢
  by_cases e8 : e = 8
  · simp only [if_pos e8]
    exact Ev.now _
  simp only [if_neg e8]
  by_cases e0 : ¬ e = 0
  · simp only [if_neg e0]
    exact Ev.now _
  replace e0 : e = 0 := Decidable.not_not.1 e0
  simp only [if_pos e0]
  by_cases n0 : n = 0
  · simp only [if_pos n0]
    exact Ev.now _
  simp only [if_neg n0]
  by_cases n4 : n > 4096
  · simp only [if_pos n4]
    exact Ev.now _
  simp only [if_neg n4]
  have w1 : wrap64 n = n := by unfold wrap64; omega
  have w0 : wrap64 ((l.length : Int) - a) = l.length - a := by unfold wrap64; omega
  have w2 : wrap64 ((l.length : Int) - a - 4) = l.length - a - 4 := by unfold wrap64; omega
  have w3 : wrap64 (a + n) = a + n := by unfold wrap64; omega
  have w4 : wrap64 (a + n + 4) = a + n + 4 := by unfold wrap64; omega
  simp only [w1, w0, w2, w3, w4]
  by_cases h5 : (l.length : Int) - a - 4 < n
  · simp only [if_pos h5]
    exact Ev.now _
  simp only [if_neg h5, if_pos (show 0 ≤ a + n by omega), if_pos (show a + n ≤ (l.length : Int) by omega), if_pos (show 0 ≤ a + n + 4 by omega), if_pos (show a + n + 4 ≤ (l.length : Int) by omega), if_pos b3, if_pos (show a ≤ a + n by omega)]
  have hlt : (l.take (a + n).toNat).length ≤ l.length := by rw [List.length_take]; exact Nat.min_le_right _ _
  simp only [clone_f (l.take (a + n).toNat) (by omega), Option.bind_some, summed_f (l.take (a + n).toNat) (octetsOk_take hok _) (by omega)]
  refine Ev.bind (equal_f _ _ (by rw [List.length_append, sum4_len]; omega)) ?_
  by_cases h6 : l.take (a + n).toNat ++ sum4 (l.take (a + n).toNat) = l.take (a + n + 4).toNat
  · simp only [decide_eq_true h6, if_true, if_pos h6]
    simp only [clone_f (List.drop a.toNat (l.take (a + n).toNat)) (by rw [List.length_drop]; omega), Option.bind_some]
    exact Ev.now _
  · simp only [decide_eq_false h6, if_neg h6]
    exact Ev.now _
end Go.Proofs.Ytmbaooocjoaehaa.V
end

section
set_option linter.unusedVariables false
set_option linter.unusedSimpArgs false
namespace Go.Proofs.Ytmbaooocjoaehaa.V
open WB Go Go.RowKit Go.Proofs.Ytmbaooocjoaehaa.G Go.Proofs.YtmbaooocjoaehaaW.PrintWords Go.Proofs.YtmbaooocjoaehaaW.PrintLast Go.Proofs.YtmbaooocjoaehaaW.PrintMore
theorem getF_enc (q : Nat) (h0 : 0 < q) (h1 : q ≤ 4096) (r : List Int) (hr : q + 4 ≤ r.length) :
    getF (enc q ++ r) = if (enc q ++ r.take q) ++ sum4 (enc q ++ r.take q) = enc q ++ r.take (q + 4) then (r.take q, ((enc q).length + q + 4 : Int), 0) else ([], 0, 21) := by
  have hg := getAt_enc [] q r (by omega)
  rw [List.nil_append] at hg
  simp only [List.length_nil, Int.ofNat_zero, Int.zero_add, Int.natCast_zero] at hg
  unfold getF
  rw [hg]
  have e1 : ((enc q).length + q : Int).toNat = (enc q).length + q := by omega
  have e2 : ((enc q).length + q + 4 : Int).toNat = (enc q).length + (q + 4) := by omega
  simp only [e1, e2, Int.toNat_natCast, List.take_length_add_append, List.drop_left, List.length_append]
  rw [if_neg (by decide), if_pos trivial, if_neg (by omega), if_neg (by omega), if_neg (by push_cast; omega)]
theorem get_frm (p rest : List Int) (hc : checkP p = 0) : getF (frm p ++ rest) = (p, ((frm p).length : Int), 0) := by
  have h := check_ok hc
  have e : frm p ++ rest = enc p.length ++ (p ++ (sum4 (txt p) ++ rest)) := by simp [frm, txt]
  rw [e, getF_enc p.length (by omega) (by omega) _ (by simp [sum4_len])]
  have t1 : (p ++ (sum4 (txt p) ++ rest)).take p.length = p := List.take_left
  have t2 : (p ++ (sum4 (txt p) ++ rest)).take (p.length + 4) = p ++ sum4 (txt p) := by
    rw [List.take_length_add_append]
    congr 1
  rw [t1, t2, if_pos (by simp [txt])]
  simp [frm, txt, sum4_len]
  omega
theorem put_one (b p : List Int) : putF b [p] = if checkP p = 0 then (b ++ frm p, 0) else ([], checkP p) := by
  rw [putF]
  rfl
end Go.Proofs.Ytmbaooocjoaehaa.V
end
