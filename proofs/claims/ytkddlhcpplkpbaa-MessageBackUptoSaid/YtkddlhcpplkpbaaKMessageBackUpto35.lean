/- MessageBackUpto: texts of this claim, packed: what the kit's print has written for it and own texts, without what its proof does not reach. -/
import Derived.Test.YtkddlhcpplkpbaaKMessageBackUpto0
import Derived.Test.YtkddlhcpplkpbaaKMessageBackUpto2
import Derived.Test.YtkddlhcpplkpbaaKMessageBackUpto6
import Derived.Test.YtkddlhcpplkpbaaKMessageBackUpto9
import Derived.Test.YtkddlhcpplkpbaaKMessageBackUpto16
import Derived.Test.YtkddlhcpplkpbaaKMessageBackUpto17
import Derived.Test.YtkddlhcpplkpbaaKMessageBackUpto18
import Derived.Test.YtkddlhcpplkpbaaKMessageBackUpto19
import Derived.Test.YtkddlhcpplkpbaaKMessageBackUpto20
import Derived.Test.YtkddlhcpplkpbaaKMessageBackUpto21
import Derived.Test.YtkddlhcpplkpbaaKMessageBackUpto22
import Derived.Test.YtkddlhcpplkpbaaKMessageBackUpto23
import Derived.Test.YtkddlhcpplkpbaaKMessageBackUpto24
import Derived.Test.YtkddlhcpplkpbaaKMessageBackUpto25
import Derived.Test.YtkddlhcpplkpbaaKMessageBackUpto26
import Derived.Test.YtkddlhcpplkpbaaKMessageBackUpto27
import Derived.Test.YtkddlhcpplkpbaaKMessageBackUpto28
import Derived.Test.YtkddlhcpplkpbaaKMessageBackUpto30
import Derived.Test.YtkddlhcpplkpbaaKMessageBackUpto34
set_option linter.unusedVariables false
set_option linter.unusedSimpArgs false
set_option linter.unusedSectionVars false
section
namespace Go.Proofs.Ytkddlhcpplkpbaa.G
open WB Go.RowKit Go.Proofs.YtkddlhcpplkpbaaW.PrintWords Go.Proofs.YtkddlhcpplkpbaaW.PrintLast Go.Proofs.YtkddlhcpplkpbaaW.PrintMore
attribute [local go_sem] max2_int min2_int max_two min_two max_three min_three max_four min_four   -- for this text's walks alone
set_option linter.unusedVariables false
set_option linter.unusedSimpArgs false
def waybillref01_Get.f (l0 : List Int) (a1 : Int) : Option (Int × Int × Int) := if octetsOk l0 = true then some (getAt l0 a1) else none
end Go.Proofs.Ytkddlhcpplkpbaa.G
end

section
namespace Go.Proofs.Ytkddlhcpplkpbaa.G
open WB Go.RowKit Go.Proofs.YtkddlhcpplkpbaaW.PrintWords Go.Proofs.YtkddlhcpplkpbaaW.PrintLast Go.Proofs.YtkddlhcpplkpbaaW.PrintMore
attribute [local go_sem] max2_int min2_int max_two min_two max_three min_three max_four min_four   -- for this text's walks alone
set_option linter.unusedVariables false
set_option linter.unusedSimpArgs false
def waybillref01_Copied.f (l0 : List Int) : Option (List Int) := if ([] : List Int).length + l0.length < 140737488355328 then (some (([] : List Int) ++ l0)) else (none)
end Go.Proofs.Ytkddlhcpplkpbaa.G
end

section
set_option linter.unusedVariables false
set_option linter.unusedSimpArgs false
namespace Go.Proofs.Ytkddlhcpplkpbaa.V
open WB Go Go.RowKit Go.Proofs.Ytkddlhcpplkpbaa.G Go.Proofs.YtkddlhcpplkpbaaW.PrintWords Go.Proofs.YtkddlhcpplkpbaaW.PrintLast Go.Proofs.YtkddlhcpplkpbaaW.PrintMore
theorem or128 (x : Int) (h0 : 0 ≤ x) (h1 : x < 256) : bits .or .u8 x 128 = x % 128 + 128 := by
  rw [u8_or x 128 h0 h1 (by decide) (by decide)]
  obtain ⟨n, rfl⟩ := Int.eq_ofNat_of_zero_le h0
  have : ∀ n : Nat, n < 256 → n ||| 128 = n % 128 + 128 := by decide +kernel
  have h2 := this n (by omega)
  show (((n : Int).toNat ||| (128 : Int).toNat : Nat) : Int) = _
  rw [Int.toNat_natCast, show (128 : Int).toNat = 128 from rfl, h2]
  omega
/-- The octets of numbers. -/
def encAll (xs : List Int) : List Int := (xs.map fun x => enc x.toNat).flatten
theorem encAll_nil : encAll [] = [] := rfl
theorem encAll_one (x : Int) : encAll [x] = enc x.toNat := by simp [encAll]
theorem encAll_cons (x : Int) (xs : List Int) : encAll (x :: xs) = enc x.toNat ++ encAll xs := by simp [encAll]
theorem put_l1 (x10 : List Int) (x11 x12 : Int) (r : List Int) : ∀ (n : Nat) (x5 : List Int), n < 18446744073709551616 → x5.length + (enc n).length ≤ 140737488355328 →
    Ev (fun k => varint_Put.l0 k (x5 ++ enc n) x10 x11 (wrap64 (x12 + 1))) r → Ev (fun k => varint_Put.l1 k x5 n x10 x11 x12) r := by
  intro n
  induction n using Nat.strongRecOn with
  | _ n ih =>
    intro x5 hn hl h
    rcases Nat.lt_or_ge n 128 with h1 | h1
    · rw [enc_small h1] at h hl
      refine Ev.step (fun k => ?_) h
      show varint_Put.l1 (k + 1) x5 n x10 x11 x12 = _
      simp only [varint_Put.l1]
      rw [if_neg (by omega), if_pos (by simp at hl; omega), show (n : Int) % 256 = n by omega]
    · rw [enc_big (by omega)] at h hl
      have hp := enc_pos (n / 128)
      rw [List.length_cons] at hl
      have := ih (n / 128) (by omega) (x5 ++ [((n % 128 + 128 : Nat) : Int)]) (by omega) (by simp; omega) (by simpa using h)
      refine Ev.step (fun k => ?_) this
      show varint_Put.l1 (k + 1) x5 n x10 x11 x12 = _
      simp only [varint_Put.l1]
      rw [if_pos (by omega), if_pos (by omega), or128 _ (by omega) (by omega), show (n : Int) / 128 = ((n / 128 : Nat) : Int) by omega,
        show (n : Int) % 256 % 128 + 128 = ((n % 128 + 128 : Nat) : Int) by omega]
theorem put_l0 (xs : List Int) (hx : ∀ x ∈ xs, 0 ≤ x ∧ x < 18446744073709551616) (hm : xs.length ≤ 140737488355328) : ∀ (d i : Nat) (x5 : List Int), xs.length - i = d → i ≤ xs.length → x5.length + 10 * d ≤ 140737488355328 →
    Ev (fun k => varint_Put.l0 k x5 xs (xs.length : Int) (i : Int)) (x5 ++ encAll (xs.drop i)) := by
  intro d
  induction d with
  | zero =>
    intro i x5 hd hi hl
    refine ⟨1, fun k hk => ?_⟩
    obtain ⟨k, rfl⟩ : ∃ m, k = m + 1 := ⟨k - 1, by omega⟩
    simp only [varint_Put.l0]
    rw [if_neg (by omega), List.drop_of_length_le (by omega), encAll_nil, List.append_nil]
  | succ d ih =>
    intro i x5 hd hi hl
    have hlt : i < xs.length := by omega
    obtain ⟨q, hq⟩ := Int.eq_ofNat_of_zero_le (hx _ (List.getElem_mem hlt)).1
    have hq2 := (hx _ (List.getElem_mem hlt)).2
    have hqn : q < 18446744073709551616 := by omega
    have hel := enc_len_10 hqn
    have hrd : rd xs (i : Int) = (q : Int) := by simp [rd, List.getElem?_eq_getElem hlt, hq]
    have hdr : xs.drop i = (q : Int) :: xs.drop (i + 1) := by rw [List.drop_eq_getElem_cons hlt, hq]
    have h1 := ih (i + 1) (x5 ++ enc q) (by omega) (by omega) (by simp; omega)
    have hw : wrap64 ((i : Int) + 1) = ((i + 1 : Nat) : Int) := by unfold wrap64; omega
    have h2 := put_l1 xs (xs.length : Int) (i : Int) (x5 ++ encAll (xs.drop i)) q x5 hqn (by omega) (by rw [hw, hdr, encAll_cons, Int.toNat_natCast, ← List.append_assoc]; exact h1)
    refine Ev.step (fun k => ?_) h2
    show varint_Put.l0 (k + 1) x5 xs (xs.length : Int) (i : Int) = _
    simp only [varint_Put.l0]
    rw [if_pos (by omega), if_pos (by omega), if_pos (by omega), hrd]
theorem put_f (l xs : List Int) (hx : ∀ x ∈ xs, 0 ≤ x ∧ x < 18446744073709551616) (hl : l.length + 10 * xs.length < 140737488355328) : Ev (fun k => varint_Put.f k l xs) (l ++ encAll xs) := by
  have h := put_l0 xs hx (by omega) xs.length 0 l (by omega) (by omega) (by omega)
  rw [List.drop_zero] at h
  refine Ev.congr (fun k => ?_) h
  show varint_Put.f k l xs = _
  unfold varint_Put.f slices_Clone_byte_byte.f
  rw [if_pos (by omega)]
  rfl
theorem copied_f (l : List Int) (hl : l.length < 140737488355328) : waybillref01_Copied.f l = some l := by
  unfold waybillref01_Copied.f
  rw [if_pos (by simpa using hl), List.nil_append]
theorem clone_f (l : List Int) (hl : l.length < 140737488355328) : slices_Clone_byte_byte.f l = some l := by
  unfold slices_Clone_byte_byte.f
  rw [if_pos hl]
theorem ok_of_wf {l : List Int} (h : ∀ x ∈ l, (Lit.int .u8 x).wf = true) : octetsOk l = true := by
  unfold octetsOk
  rw [List.all_eq_true]
  intro x hx
  have := h x hx
  simp [Lit.wf, IntKind.min, IntKind.max, IntKind.signed, IntKind.bits] at this ⊢
  omega
theorem get_f (l : List Int) (a : Int) (h : octetsOk l = true) : varint_Get.f l a = some (getAt l a) := by unfold varint_Get.f; rw [if_pos h]
theorem refget_f (l : List Int) (a : Int) (h : octetsOk l = true) : waybillref01_Get.f l a = some (getAt l a) := by unfold waybillref01_Get.f; rw [if_pos h]
end Go.Proofs.Ytkddlhcpplkpbaa.V
end

section
set_option linter.unusedVariables false
set_option linter.unusedSimpArgs false
namespace Go.Proofs.Ytkddlhcpplkpbaa.V
open WB Go Go.RowKit Go.Proofs.Ytkddlhcpplkpbaa.G Go.Proofs.YtkddlhcpplkpbaaW.PrintWords Go.Proofs.YtkddlhcpplkpbaaW.PrintLast Go.Proofs.YtkddlhcpplkpbaaW.PrintMore
/-- A text with its length. -/
def txt (s : List Int) : List Int := enc s.length ++ s
def txts (xs : List (List Int)) : List Int := (xs.map txt).flatten
theorem txt_len {s : List Int} (h : s.length < 18446744073709551616) : (txt s).length ≤ s.length + 10 := by
  unfold txt
  rw [List.length_append]
  have := enc_len_10 h
  omega
theorem texts_l0 (xs : List (List Int)) (hm : xs.length ≤ 140737488355328) : ∀ (d i : Nat) (x5 : List Int), xs.length - i = d → i ≤ xs.length → x5.length + lsum (fun s => s.length + 10) (xs.drop i) < 140737488355328 - 10 →
    Ev (fun k => varint_Texts.l0 k x5 xs (xs.length : Int) (i : Int)) (x5 ++ txts (xs.drop i)) := by
  intro d
  induction d with
  | zero =>
    intro i x5 hd hi hl
    refine ⟨1, fun k hk => ?_⟩
    obtain ⟨k, rfl⟩ : ∃ m, k = m + 1 := ⟨k - 1, by omega⟩
    simp only [varint_Texts.l0]
    rw [if_neg (by omega), List.drop_of_length_le (by omega)]
    simp [txts]
  | succ d ih =>
    intro i x5 hd hi hl
    have hlt : i < xs.length := by omega
    have hdr : xs.drop i = xs[i] :: xs.drop (i + 1) := by rw [List.drop_eq_getElem_cons hlt]
    rw [hdr] at hl ⊢
    simp only [lsum] at hl
    have hrd : rd_L1 xs (i : Int) = xs[i] := by simp [rd_L1, List.getElem?_eq_getElem hlt]
    obtain ⟨s, hs⟩ : ∃ s, s = xs[i] := ⟨_, rfl⟩
    rw [← hs] at hl hrd ⊢
    have hsl : s.length < 18446744073709551616 := by omega
    have hel := enc_len_10 hsl
    obtain ⟨K1, h1⟩ := put_f x5 [(s.length : Int)] (by simp; omega) (by simp; omega)
    obtain ⟨K2, h2⟩ := ih (i + 1) (x5 ++ enc s.length ++ s) (by omega) (by omega) (by simp only [List.length_append]; omega)
    refine ⟨K1 + K2 + 1, fun k hk => ?_⟩
    obtain ⟨k, rfl⟩ : ∃ m, k = m + 1 := ⟨k - 1, by omega⟩
    have a1 := h1 k (by omega)
    have a2 := h2 k (by omega)
    dsimp only at a1 a2
    rw [encAll_one, Int.toNat_natCast] at a1
    simp only [varint_Texts.l0]
    have hw : IntKind.u64.wrap (s.length : Int) = (s.length : Int) := by rw [IntKind.wrap_u64]; omega
    rw [if_pos (by omega), if_pos (by omega), if_pos (by omega), hrd, hw, a1, Option.bind_some, if_pos (by rw [List.length_append]; omega), show wrap64 ((i : Int) + 1) = ((i + 1 : Nat) : Int) by unfold wrap64; omega, a2]
    simp [txts, txt]
theorem texts_f (l : List Int) (xs : List (List Int)) (hm : xs.length ≤ 140737488355328) (hl : l.length + lsum (fun s => s.length + 10) xs < 140737488355328 - 10) : Ev (fun k => varint_Texts.f k l xs) (l ++ txts xs) := by
  have h := texts_l0 xs hm xs.length 0 l (by omega) (by omega) (by simpa using hl)
  rw [List.drop_zero] at h
  refine Ev.congr (fun k => ?_) h
  show varint_Texts.f k l xs = _
  unfold varint_Texts.f
  rw [clone_f l (by omega)]
  rfl
end Go.Proofs.Ytkddlhcpplkpbaa.V
end

section
namespace Go.Proofs.Ytkddlhcpplkpbaa.G
open WB Go.RowKit Go.Proofs.YtkddlhcpplkpbaaW.PrintWords Go.Proofs.YtkddlhcpplkpbaaW.PrintLast Go.Proofs.YtkddlhcpplkpbaaW.PrintMore
attribute [local go_sem] max2_int min2_int max_two min_two max_three min_three max_four min_four   -- for this text's walks alone
set_option linter.unusedVariables false
set_option linter.unusedSimpArgs false
def waybillref01_Text.j0 : Nat → List Int → Int → Int → Bool → Option (List Int × Int × Int)
  | 0, _, _, _, _ => none
  | k + 1, x0, x9, x10, x23 => if x23 = true then (some (([] : List Int), 0, 5)) else (if x9 > (IntKind.u64.wrap (wrap64 ((x0.length : Int) - x10))) then (some (([] : List Int), 0, 8)) else (if 0 ≤ x10 then (if x10 ≤ (wrap64 (x10 + (wrap64 (x9)))) then (if (wrap64 (x10 + (wrap64 (x9)))) ≤ (x0.length : Int) then ((waybillref01_Copied.f ((x0.take ((wrap64 (x10 + (wrap64 (x9)))) : Int).toNat).drop (x10 : Int).toNat)).bind fun t186 => (some (t186, wrap64 (x10 + (wrap64 (x9))), 0))) else (none)) else (none)) else (none)))
def waybillref01_Text.f (k : Nat) (l0 : List Int) (a1 : Int) (a2 : Int) : Option (List Int × Int × Int) := (waybillref01_Get.f l0 a1).bind fun bt182 => (if bt182.2.2 = 0 then (if a2 < 0 then (waybillref01_Text.j0 k l0 bt182.1 bt182.2.1 true) else (waybillref01_Text.j0 k l0 bt182.1 bt182.2.1 (decide (bt182.1 > (IntKind.u64.wrap (a2)))))) else (some (([] : List Int), 0, bt182.2.2)))
end Go.Proofs.Ytkddlhcpplkpbaa.G
end

section
set_option linter.unusedVariables false
set_option linter.unusedSimpArgs false
namespace Go.Proofs.Ytkddlhcpplkpbaa.V
open WB Go Go.RowKit Go.Proofs.Ytkddlhcpplkpbaa.G Go.Proofs.YtkddlhcpplkpbaaW.PrintWords Go.Proofs.YtkddlhcpplkpbaaW.PrintLast Go.Proofs.YtkddlhcpplkpbaaW.PrintMore
/-- The text that stands at a place, and where it ends. -/
def textAt (l : List Int) (a most : Int) : List Int × Int × Int :=
  if (getAt l a).2.2 = 0 then
    if most < 0 ∨ most < (getAt l a).1 then ([], 0, 5) else if (l.length : Int) - (getAt l a).2.1 < (getAt l a).1 then ([], 0, 8) else ((l.drop (getAt l a).2.1.toNat).take (getAt l a).1.toNat, (getAt l a).2.1 + (getAt l a).1, 0)
  else ([], 0, (getAt l a).2.2)
theorem take_drop_ (l : List Int) (p n : Nat) : (l.take (p + n)).drop p = (l.drop p).take n := by
  rw [List.drop_take]
  congr 1
  omega
theorem text_j0 (l : List Int) (hl : l.length < 140737488355328) (p : Nat) (hp : p ≤ l.length) (n : Nat) (hn : n < 18446744073709551616) (k : Nat) (hk : 1 ≤ k) :
    varint_Text.j0 k l p n false = (if (l.length : Int) - p < n then some ([], 0, 8) else some ((l.drop p).take n, (p : Int) + n, 0)) ∧
    waybillref01_Text.j0 k l n p false = (if (l.length : Int) - p < n then some ([], 0, 8) else some ((l.drop p).take n, (p : Int) + n, 0)) := by
  obtain ⟨k, rfl⟩ : ∃ m, k = m + 1 := ⟨k - 1, by omega⟩
  have e1 : IntKind.u64.wrap (wrap64 ((l.length : Int) - p)) = (l.length : Int) - p := by rw [IntKind.wrap_u64]; unfold wrap64; omega
  refine ⟨?_, ?_⟩
  · simp only [varint_Text.j0, e1]
    rw [if_neg (by simp)]
    by_cases h : (l.length : Int) - p < n
    · rw [if_pos h, if_pos (by omega)]
    · have hnl : n ≤ l.length := by omega
      have e2 : wrap64 ((p : Int) + wrap64 n) = ((p + n : Nat) : Int) := by unfold wrap64; omega
      rw [if_neg h, e2, if_pos (by omega), if_pos (by omega), if_pos (by omega), if_neg (by omega)]
      rw [Int.toNat_natCast, Int.toNat_natCast, take_drop_]
      have h3 : ((l.drop p).take n).length < 140737488355328 := by rw [List.length_take, List.length_drop]; omega
      rw [clone_f _ h3]
      simp
  · simp only [waybillref01_Text.j0, e1]
    rw [if_neg (by simp)]
    by_cases h : (l.length : Int) - p < n
    · rw [if_pos h, if_pos (by omega)]
    · have hnl : n ≤ l.length := by omega
      have e2 : wrap64 ((p : Int) + wrap64 n) = ((p + n : Nat) : Int) := by unfold wrap64; omega
      rw [if_neg h, e2, if_pos (by omega), if_pos (by omega), if_pos (by omega), if_neg (by omega)]
      rw [Int.toNat_natCast, Int.toNat_natCast, take_drop_]
      have h3 : ((l.drop p).take n).length < 140737488355328 := by rw [List.length_take, List.length_drop]; omega
      rw [copied_f _ h3]
      simp
theorem text_f (l : List Int) (hok : octetsOk l = true) (hl : l.length < 140737488355328) (a most : Int) (hm0 : -9223372036854775808 ≤ most) (hm1 : most < 9223372036854775808) (k : Nat) (hk : 1 ≤ k) :
    varint_Text.f k l a most = some (textAt l a most) ∧ waybillref01_Text.f k l a most = some (textAt l a most) := by
  unfold varint_Text.f waybillref01_Text.f
  rw [get_f l a hok, refget_f l a hok, Option.bind_some, Option.bind_some]
  unfold textAt
  rcases getAt_cases hok a with ⟨e, he, hz⟩ | ⟨q, x, rest, e1, e2, e3, e4⟩
  · rw [he]
    have hne : ¬ e = 0 := by omega
    dsimp only
    rw [if_neg hne, if_neg hne, if_neg hne]
    exact ⟨rfl, rfl⟩
  · rw [e4]
    dsimp only
    have hlen : l.length = x.length + ((enc q).length + rest.length) := by rw [e1]; simp
    have hp : a + ((enc q).length : Int) = ((x.length + (enc q).length : Nat) : Int) := by omega
    rw [hp]
    obtain ⟨p, hpp⟩ : ∃ p, p = x.length + (enc q).length := ⟨_, rfl⟩
    rw [← hpp]
    have hpl : p ≤ l.length := by omega
    obtain ⟨j1, j2⟩ := text_j0 l hl p hpl q e3 k hk
    rw [if_pos rfl, if_pos rfl, if_pos rfl]
    have jt : varint_Text.j0 k l p q true = some ([], 0, 5) ∧ waybillref01_Text.j0 k l q p true = some ([], 0, 5) := by
      obtain ⟨k, rfl⟩ : ∃ m, k = m + 1 := ⟨k - 1, by omega⟩
      simp only [varint_Text.j0, waybillref01_Text.j0]
      exact ⟨rfl, rfl⟩
    obtain ⟨t1, t2⟩ := jt
    by_cases hneg : most < 0
    · rw [if_pos hneg, if_pos hneg, if_pos (.inl hneg), t1, t2]
      exact ⟨rfl, rfl⟩
    · rw [if_neg hneg, if_neg hneg]
      have e5 : IntKind.u64.wrap most = most := by rw [IntKind.wrap_u64]; omega
      rw [e5]
      by_cases hbig : most < q
      · rw [if_pos (.inr hbig), decide_eq_true (show (q : Int) > most from hbig), t1, t2]
        exact ⟨rfl, rfl⟩
      · rw [if_neg (by omega), decide_eq_false (show ¬ (q : Int) > most by omega), j1, j2, Int.toNat_natCast, Int.toNat_natCast]
        refine ⟨?_, ?_⟩ <;> (split <;> rfl)
end Go.Proofs.Ytkddlhcpplkpbaa.V
end

section
set_option linter.unusedVariables false
set_option linter.unusedSimpArgs false
namespace Go.Proofs.Ytkddlhcpplkpbaa.V
open WB Go Go.RowKit Go.Proofs.Ytkddlhcpplkpbaa.G Go.Proofs.YtkddlhcpplkpbaaW.PrintWords Go.Proofs.YtkddlhcpplkpbaaW.PrintLast Go.Proofs.YtkddlhcpplkpbaaW.PrintMore
theorem sum_f (l : List (List Int)) (h : l.all octetsOk = true) : crc_Sum.f l = some (ofB (~~~ (runO (BitVec.allOnes 32) l.flatten))) := by
  unfold crc_Sum.f
  rw [if_pos h]
theorem sum_one (l : List Int) (h : octetsOk l = true) : crc_Sum.f [l] = some (ofB (~~~ (runO (BitVec.allOnes 32) l))) := by
  rw [sum_f [l] (by simp [h])]
  simp
end Go.Proofs.Ytkddlhcpplkpbaa.V
end

section
set_option linter.unusedVariables false
set_option linter.unusedSimpArgs false
namespace Go.Proofs.Ytkddlhcpplkpbaa.V
open WB Go Go.RowKit Go.Proofs.Ytkddlhcpplkpbaa.G Go.Proofs.YtkddlhcpplkpbaaW.PrintWords Go.Proofs.YtkddlhcpplkpbaaW.PrintLast Go.Proofs.YtkddlhcpplkpbaaW.PrintMore
def sum4 (l : List Int) : List Int := [ofB (~~~ (runO (BitVec.allOnes 32) l)) % 256, ofB (~~~ (runO (BitVec.allOnes 32) l)) / 256 % 256, ofB (~~~ (runO (BitVec.allOnes 32) l)) / 65536 % 256, ofB (~~~ (runO (BitVec.allOnes 32) l)) / 16777216 % 256]
def frm (p : List Int) : List Int := txt p ++ sum4 (txt p)
def checkP (p : List Int) : Int := if (p.length : Int) = 0 then 8 else if (p.length : Int) > 4096 then 5 else 0
def putF : List Int → List (List Int) → List Int × Int
  | b, [] => (b, 0)
  | b, p :: l => if checkP p = 0 then putF (b ++ frm p) l else ([], checkP p)
theorem sum4_len (l : List Int) : (sum4 l).length = 4 := rfl
theorem sum4_ok (l : List Int) : octetsOk (sum4 l) = true := by
  have h0 := ofB_nonneg (~~~ (runO (BitVec.allOnes 32) l))
  have h1 := ofB_lt (~~~ (runO (BitVec.allOnes 32) l))
  simp [sum4, octetsOk]
  omega
theorem txt_ok {p : List Int} (h : octetsOk p = true) : octetsOk (txt p) = true := by
  unfold txt
  rw [octetsOk_append, enc_ok, h]
  rfl
theorem frm_ok {p : List Int} (h : octetsOk p = true) : octetsOk (frm p) = true := by
  unfold frm
  rw [octetsOk_append, txt_ok h, sum4_ok]
  rfl
theorem check_p (p : List Int) : frame_check.f p = some (checkP p) := by
  unfold frame_check.f checkP
  split
  · rfl
  · split <;> rfl
theorem check_ok {p : List Int} (h : checkP p = 0) : 0 < p.length ∧ p.length ≤ 4096 := by
  unfold checkP at h
  split at h
  · cases h
  · split at h
    · cases h
    · omega
theorem frm_len {p : List Int} (h : checkP p = 0) : (frm p).length ≤ 4110 := by
  have := check_ok h
  have := txt_len (s := p) (by omega)
  unfold frm
  rw [List.length_append, sum4_len]
  omega
theorem summed_f (l : List Int) (h : octetsOk l = true) (hl : l.length + 4 < 140737488355328) : frame_summed.f l = some (l ++ sum4 l) := by
  unfold frame_summed.f
  rw [sum_one l h, Option.bind_some, Option.bind_some, if_pos (by simpa using hl)]
  rfl
theorem equal_l0 (a b : List Int) (hab : a.length = b.length) (hm : a.length ≤ 140737488355328) : ∀ (d i : Nat), i + d = a.length → Ev (fun k => slices_Equal_byte_byte.l0 k a b (a.length : Int) (i : Int)) (decide (a.drop i = b.drop i)) := by
  intro d
  induction d with
  | zero =>
    intro i hi
    refine ⟨1, fun k hk => ?_⟩
    obtain ⟨k, rfl⟩ : ∃ m, k = m + 1 := ⟨k - 1, by omega⟩
    show slices_Equal_byte_byte.l0 (k + 1) a b _ _ = _
    rw [slices_Equal_byte_byte.l0, if_neg (by omega), List.drop_of_length_le (by omega), List.drop_of_length_le (by omega)]
    simp
  | succ d ih =>
    intro i hi
    have hlt : i < a.length := by omega
    have hlt2 : i < b.length := by omega
    have ra : rd a (i : Int) = a[i] := by simp [rd, List.getElem?_eq_getElem hlt]
    have rb : rd b (i : Int) = b[i] := by simp [rd, List.getElem?_eq_getElem hlt2]
    have hw : wrap64 ((i : Int) + 1) = ((i + 1 : Nat) : Int) := by unfold wrap64; omega
    rw [show a.drop i = a[i] :: a.drop (i + 1) from List.drop_eq_getElem_cons hlt, show b.drop i = b[i] :: b.drop (i + 1) from List.drop_eq_getElem_cons hlt2]
    by_cases he : a[i] = b[i]
    · have h := ih (i + 1) (by omega)
      have e : decide (a[i] :: a.drop (i + 1) = b[i] :: b.drop (i + 1)) = decide (a.drop (i + 1) = b.drop (i + 1)) := decide_eq_decide.2 ⟨fun q => (List.cons.inj q).2, fun q => by rw [he, q]⟩
      rw [e]
      refine Ev.step (fun k => ?_) h
      show slices_Equal_byte_byte.l0 (k + 1) a b _ _ = _
      rw [slices_Equal_byte_byte.l0, if_pos (by omega), if_pos (by omega), if_pos (by omega), if_pos (by omega), ra, rb, if_pos he, hw]
    · refine ⟨1, fun k hk => ?_⟩
      obtain ⟨k, rfl⟩ : ∃ m, k = m + 1 := ⟨k - 1, by omega⟩
      show slices_Equal_byte_byte.l0 (k + 1) a b _ _ = _
      rw [slices_Equal_byte_byte.l0, if_pos (by omega), if_pos (by omega), if_pos (by omega), if_pos (by omega), ra, rb, if_neg he, decide_eq_false (fun q => he (List.cons.inj q).1)]
theorem equal_f (a b : List Int) (hm : a.length ≤ 140737488355328) : Ev (fun k => slices_Equal_byte_byte.f k a b) (decide (a = b)) := by
  unfold slices_Equal_byte_byte.f
  by_cases h : a.length = b.length
  · have := equal_l0 a b h hm a.length 0 (by omega)
    rw [List.drop_zero, List.drop_zero] at this
    refine Ev.congr (fun k => ?_) this
    rw [if_pos (by omega)]
    rfl
  · refine Ev.congr (fun k => ?_) (Ev.now _)
    rw [if_neg (by omega), decide_eq_false (fun he => h (by rw [he]))]
theorem fput_l0 (xs : List (List Int)) (hok : ∀ s ∈ xs, octetsOk s = true) (hm : xs.length ≤ 140737488355328) : ∀ (d i : Nat) (x6 : List Int), xs.length - i = d → i ≤ xs.length → x6.length + 5000 * d < 140737488350000 → Ev (fun k => frame_Put.l0 k x6 xs (xs.length : Int) (i : Int)) (putF x6 (xs.drop i)) := by
  intro d
  induction d with
  | zero =>
    intro i x6 hd hi _
    refine ⟨1, fun k hk => ?_⟩
    obtain ⟨k, rfl⟩ : ∃ m, k = m + 1 := ⟨k - 1, by omega⟩
    show frame_Put.l0 (k + 1) x6 xs _ _ = _
    rw [frame_Put.l0, if_neg (by omega), List.drop_of_length_le (by omega)]
    rfl
  | succ d ih =>
    intro i x6 hd hi hx
    have hlt : i < xs.length := by omega
    obtain ⟨s, hs⟩ : ∃ s, s = xs[i] := ⟨_, rfl⟩
    have hrd : rd_L1 xs (i : Int) = s := by simp [rd_L1, List.getElem?_eq_getElem hlt, hs]
    have hso : octetsOk s = true := by rw [hs]; exact hok _ (List.getElem_mem hlt)
    have hw : wrap64 ((i : Int) + 1) = ((i + 1 : Nat) : Int) := by unfold wrap64; omega
    rw [List.drop_eq_getElem_cons hlt, ← hs, putF]
    by_cases hc : checkP s = 0
    · have hcl := check_ok hc
      have hfl := frm_len hc
      have htl := txt_len (s := s) (by omega)
      obtain ⟨K1, h1⟩ := texts_f [] [s] (by simp) (by simp [lsum]; omega)
      obtain ⟨K2, h2⟩ := ih (i + 1) (x6 ++ frm s) (by omega) (by omega) (by rw [List.length_append]; omega)
      rw [if_pos hc]
      refine ⟨K1 + K2 + 1, fun k hk => ?_⟩
      obtain ⟨k, rfl⟩ : ∃ m, k = m + 1 := ⟨k - 1, by omega⟩
      have a1 := h1 k (by omega)
      have a2 := h2 k (by omega)
      dsimp only at a1 a2
      rw [show ([] : List Int) ++ txts [s] = txt s by simp [txts]] at a1
      show frame_Put.l0 (k + 1) x6 xs _ _ = _
      rw [frame_Put.l0, if_pos (by omega), if_pos (by omega), if_pos (by omega), hrd, check_p, Option.bind_some, if_pos hc, a1, Option.bind_some, summed_f _ (txt_ok hso) (by omega), Option.bind_some, if_pos (by
        show x6.length + (frm s).length < _
        omega), hw]
      exact a2
    · rw [if_neg hc]
      refine ⟨1, fun k hk => ?_⟩
      obtain ⟨k, rfl⟩ : ∃ m, k = m + 1 := ⟨k - 1, by omega⟩
      show frame_Put.l0 (k + 1) x6 xs _ _ = _
      rw [frame_Put.l0, if_pos (by omega), if_pos (by omega), if_pos (by omega), hrd, check_p, Option.bind_some, if_neg hc]
theorem fput_f (b : List Int) (xs : List (List Int)) (hok : ∀ s ∈ xs, octetsOk s = true) (hl : b.length + 5000 * xs.length < 140737488350000) : Ev (fun k => frame_Put.f k b xs) (putF b xs) := by
  have h := fput_l0 xs hok (by omega) xs.length 0 b (by omega) (by omega) hl
  rw [List.drop_zero] at h
  refine Ev.congr (fun k => ?_) h
  show frame_Put.f k b xs = _
  unfold frame_Put.f
  rw [clone_f b (by omega)]
  rfl
/-- The first frame's payload, the place behind it, the error. -/
def getF (l : List Int) : List Int × Int × Int :=
  if (getAt l 0).2.2 = 8 then ([], 0, 71) else if (getAt l 0).2.2 = 0 then
    (if (getAt l 0).1 = 0 then ([], 0, 8) else if (getAt l 0).1 > 4096 then ([], 0, 5) else
      if (l.length : Int) - (getAt l 0).2.1 - 4 < (getAt l 0).1 then ([], 0, 71) else
      if l.take ((getAt l 0).2.1 + (getAt l 0).1).toNat ++ sum4 (l.take ((getAt l 0).2.1 + (getAt l 0).1).toNat) = l.take ((getAt l 0).2.1 + (getAt l 0).1 + 4).toNat
      then ((l.take ((getAt l 0).2.1 + (getAt l 0).1).toNat).drop (getAt l 0).2.1.toNat, (getAt l 0).2.1 + (getAt l 0).1 + 4, 0) else ([], 0, 21))
  else ([], 0, (getAt l 0).2.2)
theorem getAt_bounds {l : List Int} (hok : octetsOk l = true) : 0 ≤ (getAt l 0).1 ∧ (getAt l 0).1 < 18446744073709551616 ∧ 0 ≤ (getAt l 0).2.1 ∧ (getAt l 0).2.1 ≤ l.length := by
  rcases getAt_cases hok 0 with ⟨e, h, _⟩ | ⟨q, x, rest, h1, h2, h3, h4⟩
  · rw [h]
    dsimp only
    omega
  · rw [h4]
    have := congrArg List.length h1
    rw [List.length_append, List.length_append] at this
    dsimp only
    omega
theorem fget_f (l : List Int) (hok : octetsOk l = true) (hl : l.length < 140737488350000) : Ev (fun k => frame_Get.f k l) (getF l) := by
  unfold frame_Get.f getF
  obtain ⟨b1, b2, b3, b4⟩ := getAt_bounds hok
  rw [get_f l 0 hok]
  obtain ⟨g, hg⟩ : ∃ g, g = getAt l 0 := ⟨_, rfl⟩
  rw [← hg] at b1 b2 b3 b4 ⊢
  clear hg
  obtain ⟨n, a, e⟩ := g
  simp only [Option.bind_some] at b1 b2 b3 b4 ⊢
  by_cases e8 : e = 8
  · simp only [if_pos e8]
    exact Ev.now _
  simp only [if_neg e8]
  by_cases e0 : ¬ e = 0
  · simp only [if_neg e0]
    exact Ev.now _
  replace e0 : e = 0 := Decidable.not_not.1 e0
  simp only [if_pos e0]
  by_cases n0 : n = 0
  · simp only [if_pos n0]
    exact Ev.now _
  simp only [if_neg n0]
  by_cases n4 : n > 4096
  · simp only [if_pos n4]
    exact Ev.now _
  simp only [if_neg n4]
  have w1 : wrap64 n = n := by unfold wrap64; omega
  have w0 : wrap64 ((l.length : Int) - a) = l.length - a := by unfold wrap64; omega
  have w2 : wrap64 ((l.length : Int) - a - 4) = l.length - a - 4 := by unfold wrap64; omega
  have w3 : wrap64 (a + n) = a + n := by unfold wrap64; omega
  have w4 : wrap64 (a + n + 4) = a + n + 4 := by unfold wrap64; omega
  simp only [w1, w0, w2, w3, w4]
  by_cases h5 : (l.length : Int) - a - 4 < n
  · simp only [if_pos h5]
    exact Ev.now _
  simp only [if_neg h5, if_pos (show 0 ≤ a + n by omega), if_pos (show a + n ≤ (l.length : Int) by omega), if_pos (show 0 ≤ a + n + 4 by omega), if_pos (show a + n + 4 ≤ (l.length : Int) by omega), if_pos b3, if_pos (show a ≤ a + n by omega)]
  have hlt : (l.take (a + n).toNat).length ≤ l.length := by rw [List.length_take]; exact Nat.min_le_right _ _
  simp only [clone_f (l.take (a + n).toNat) (by omega), Option.bind_some, summed_f (l.take (a + n).toNat) (octetsOk_take hok _) (by omega)]
  refine Ev.bind (equal_f _ _ (by rw [List.length_append, sum4_len]; omega)) ?_
  by_cases h6 : l.take (a + n).toNat ++ sum4 (l.take (a + n).toNat) = l.take (a + n + 4).toNat
  · simp only [decide_eq_true h6, if_true, if_pos h6]
    simp only [clone_f (List.drop a.toNat (l.take (a + n).toNat)) (by rw [List.length_drop]; omega), Option.bind_some]
    exact Ev.now _
  · simp only [decide_eq_false h6, if_neg h6]
    exact Ev.now _
end Go.Proofs.Ytkddlhcpplkpbaa.V
end

section
namespace Go.Proofs.Ytkddlhcpplkpbaa.G
open WB Go.RowKit Go.Proofs.YtkddlhcpplkpbaaW.PrintWords Go.Proofs.YtkddlhcpplkpbaaW.PrintLast Go.Proofs.YtkddlhcpplkpbaaW.PrintMore
attribute [local go_sem] max2_int min2_int max_two min_two max_three min_three max_four min_four   -- for this text's walks alone
set_option linter.unusedVariables false
set_option linter.unusedSimpArgs false
/-- Does a kind use octets? -/
def dat (k : Int) : Bool := decide (k = 3 ∨ k = 4)
theorem onlyN_all (f0 f1 f2 f3 f4 f5 f6 f7 f8 f9 f10 : Int) : onlyN f0 f1 f2 f3 f4 f5 f6 f7 f8 f9 f10 = [f0, onlyF f0 1 f1, f2, onlyF f0 3 f3, onlyF f0 4 f4, onlyF f0 5 f5, onlyF f0 6 f6, onlyF f0 7 f7, onlyF f0 8 f8, onlyF f0 9 f9, onlyF f0 10 f10] := by
  by_cases h : ixOf f0 = []
  · unfold onlyN onlyF
    rw [h]
    simp [takeN]
  · exact onlyN_is _ _ _ _ _ _ _ _ _ _ _ h
/-- Where used is, ahead of round i. -/
structure UsedI (w W : World) (n o : List Int) (D D' : Value) (ix : List Nat) (i : Nat) : Prop where
  bm : W.heap[w.heap.size]? = some (.cells (msgCells n D) 25 (0, 0))
  br : W.heap[w.heap.size + 1]? = some (.cells (msgCells [0, 0, 0, 0, 0, 0, 0, 0, 0, 0, 0] (.slice none 0 0)) 25 (0, 0))
  bo : W.heap[w.heap.size + 1 + 1]? = some (.cells (msgCells (takeN n o (ix.take i)) D') 25 (0, 0))
  bel : Below w.heap.size w W
theorem UsedI.below {w W W1 : World} {n o : List Int} {D D' : Value} {ix : List Nat} {i : Nat} (h : UsedI w W n o D D' ix i) (hb : Below W.heap.size W W1) : UsedI w W1 n o D D' ix i :=
  ⟨blk_below h.bm hb, blk_below h.br hb, blk_below h.bo hb, below_then h.bel h.bel.size hb⟩
theorem UsedI.put {w W : World} {n o : List Int} {D D' : Value} {ix : List Nat} {i : Nat} (h : UsedI w W n o D D' ix i) (hi : i < ix.length) (hj : ix.getD i 0 < o.length) : UsedI w (W.setCell ⟨w.heap.size + 1 + 1, ix.getD i 0, none⟩ (.int .i64 (n.getD (ix.getD i 0) 0))) n o D D' ix (i + 1) := by
  have he : ix.take (i + 1) = ix.take i ++ [ix.getD i 0] := by
    rw [List.take_succ_eq_append_getElem hi]
    simp [List.getD_eq_getElem?_getD, hi]
  refine ⟨blk_far h.bm (by simp; omega) _, blk_far h.br (by simp) _, ?_, below_set h.bel (by omega)⟩
  rw [he, takeN_app]
  exact blk_put h.bo _ _ (msg_set (by rw [takeN_len]; exact hj) _)
end Go.Proofs.Ytkddlhcpplkpbaa.G
end

section
set_option maxRecDepth 100000
set_option linter.unusedVariables false
set_option linter.unusedSimpArgs false
namespace Go.Proofs.Ytkddlhcpplkpbaa.V
open WB Go Go.RowKit Go.Proofs.Ytkddlhcpplkpbaa.G Go.Proofs.YtkddlhcpplkpbaaW.PrintWords Go.Proofs.YtkddlhcpplkpbaaW.PrintLast Go.Proofs.YtkddlhcpplkpbaaW.PrintMore
/-- A message's numbers. -/
def nums (x : S25) : List Int := [x.f0, x.f1, x.f2, x.f3, x.f4, x.f5, x.f6, x.f7, x.f8, x.f9, x.f10]
/-- What its kind uses, alone. -/
def numsO (x : S25) : List Int := [x.f0, onlyF x.f0 1 x.f1, x.f2, onlyF x.f0 3 x.f3, onlyF x.f0 4 x.f4, onlyF x.f0 5 x.f5, onlyF x.f0 6 x.f6, onlyF x.f0 7 x.f7, onlyF x.f0 8 x.f8, onlyF x.f0 9 x.f9, onlyF x.f0 10 x.f10]
/-- May a message be? -/
def chkM (x : S25) : Int := if ixOf x.f0 = [] then 23 else if ([x.f1, x.f2, x.f3, x.f4, x.f5, x.f6, x.f7, x.f8, x.f9, x.f10] : List Int).any outI = true then 4 else if x.f11.length > 1024 then 5 else if x.f11 = onlyL x.f0 x.f11 ∧ nums x = numsO x then 0 else 9
/-- Its octets. -/
def encM (x : S25) : List Int := encAll (x.f0 :: x.f2 :: (ixOf x.f0).map fun j => (nums x).getD j 0) ++ (if dat x.f0 = true then txt x.f11 else [])
theorem equali_l0 (a b : List Int) (hab : a.length = b.length) (hm : a.length ≤ 140737488355328) : ∀ (d i : Nat), i + d = a.length → Ev (fun k => slices_Equal_int_int.l0 k a b (a.length : Int) (i : Int)) (decide (a.drop i = b.drop i)) := by
  intro d
  induction d with
  | zero =>
    intro i hi
    refine ⟨1, fun k hk => ?_⟩
    obtain ⟨k, rfl⟩ : ∃ m, k = m + 1 := ⟨k - 1, by omega⟩
    show slices_Equal_int_int.l0 (k + 1) a b _ _ = _
    rw [slices_Equal_int_int.l0, if_neg (by omega), List.drop_of_length_le (by omega), List.drop_of_length_le (by omega)]
    simp
  | succ d ih =>
    intro i hi
    have hlt : i < a.length := by omega
    have hlt2 : i < b.length := by omega
    have ra : rd a (i : Int) = a[i] := by simp [rd, List.getElem?_eq_getElem hlt]
    have rb : rd b (i : Int) = b[i] := by simp [rd, List.getElem?_eq_getElem hlt2]
    have hw : wrap64 ((i : Int) + 1) = ((i + 1 : Nat) : Int) := by unfold wrap64; omega
    rw [show a.drop i = a[i] :: a.drop (i + 1) from List.drop_eq_getElem_cons hlt, show b.drop i = b[i] :: b.drop (i + 1) from List.drop_eq_getElem_cons hlt2]
    by_cases he : a[i] = b[i]
    · have h := ih (i + 1) (by omega)
      have e : decide (a[i] :: a.drop (i + 1) = b[i] :: b.drop (i + 1)) = decide (a.drop (i + 1) = b.drop (i + 1)) := decide_eq_decide.2 ⟨fun q => (List.cons.inj q).2, fun q => by rw [he, q]⟩
      rw [e]
      refine Ev.step (fun k => ?_) h
      show slices_Equal_int_int.l0 (k + 1) a b _ _ = _
      rw [slices_Equal_int_int.l0, if_pos (by omega), if_pos (by omega), if_pos (by omega), if_pos (by omega), ra, rb, if_pos he, hw]
    · refine ⟨1, fun k hk => ?_⟩
      obtain ⟨k, rfl⟩ : ∃ m, k = m + 1 := ⟨k - 1, by omega⟩
      show slices_Equal_int_int.l0 (k + 1) a b _ _ = _
      rw [slices_Equal_int_int.l0, if_pos (by omega), if_pos (by omega), if_pos (by omega), if_pos (by omega), ra, rb, if_neg he, decide_eq_false (fun q => he (List.cons.inj q).1)]
theorem equali_f (a b : List Int) (hm : a.length ≤ 140737488355328) : Ev (fun k => slices_Equal_int_int.f k a b) (decide (a = b)) := by
  unfold slices_Equal_int_int.f
  by_cases h : a.length = b.length
  · have := equali_l0 a b h hm a.length 0 (by omega)
    rw [List.drop_zero, List.drop_zero] at this
    refine Ev.congr (fun k => ?_) this
    rw [if_pos (by omega)]
    rfl
  · refine Ev.congr (fun k => ?_) (Ev.now _)
    rw [if_neg (by omega), decide_eq_false (fun he => h (by rw [he]))]
theorem dat_iff (k : Int) : dat k = true ↔ (k = 3 ∨ k = 4) := by unfold dat; simp
theorem onlyL_dat (k : Int) (l : List Int) : onlyL k l = if dat k = true then l else [] := by
  unfold onlyL
  by_cases h : k = 3 ∨ k = 4
  · rw [if_pos h, if_pos ((dat_iff k).2 h)]
  · rw [if_neg h, if_neg (fun hd => h ((dat_iff k).1 hd))]
/-- Are two messages one? -/
def sameX (x y : S25) : Bool := decide (x.f11 = y.f11) && decide (nums x = nums y)
theorem plainsame_self (x : S25) : waybillplain_SameMsg.f x.f0 x.f1 x.f2 x.f3 x.f4 x.f5 x.f6 x.f7 x.f8 x.f9 x.f10 x.f11 x.f0 x.f1 x.f2 x.f3 x.f4 x.f5 x.f6 x.f7 x.f8 x.f9 x.f10 x.f11 = some true := by
  unfold waybillplain_SameMsg.f waybillplain_SameBytes.f
  simp
theorem msame_f (x y : S25) (h0 : x.f0 = y.f0) (hm : x.f11.length ≤ 140737488355328) : Ev (fun k => message_same.f k x.f0 x.f1 x.f2 x.f3 x.f4 x.f5 x.f6 x.f7 x.f8 x.f9 x.f10 x.f11 y.f0 y.f1 y.f2 y.f3 y.f4 y.f5 y.f6 y.f7 y.f8 y.f9 y.f10 y.f11) (sameX x y) := by
  unfold message_same.f sameX
  have h1 := equal_f x.f11 y.f11 hm
  have h2 := equali_f [x.f1, x.f2, x.f3, x.f4, x.f5, x.f6, x.f7, x.f8, x.f9, x.f10] [y.f1, y.f2, y.f3, y.f4, y.f5, y.f6, y.f7, y.f8, y.f9, y.f10] (by simp)
  refine Ev.bind h1 ?_
  by_cases h : x.f11 = y.f11
  · rw [decide_eq_true h]
    refine Ev.congr (fun k => if_pos rfl) ?_
    have e : decide (nums x = nums y) = decide (([x.f1, x.f2, x.f3, x.f4, x.f5, x.f6, x.f7, x.f8, x.f9, x.f10] : List Int) = [y.f1, y.f2, y.f3, y.f4, y.f5, y.f6, y.f7, y.f8, y.f9, y.f10]) := decide_eq_decide.2 (by unfold nums; rw [h0]; simp)
    rw [Bool.true_and, e]
    unfold message_numbers.f
    exact Ev.congr (fun k => by rw [Option.bind_some, Option.bind_some]) (Ev.bind (f := fun _ t => some t) h2 (Ev.now _))
  · rw [decide_eq_false h]
    exact Ev.congr (fun k => if_neg (by decide)) (Ev.now _)
/-- What only leaves, as a message. -/
def onlyX (x : S25) : S25 := ⟨x.f0, onlyF x.f0 1 x.f1, x.f2, onlyF x.f0 3 x.f3, onlyF x.f0 4 x.f4, onlyF x.f0 5 x.f5, onlyF x.f0 6 x.f6, onlyF x.f0 7 x.f7, onlyF x.f0 8 x.f8, onlyF x.f0 9 x.f9, onlyF x.f0 10 x.f10, onlyL x.f0 x.f11⟩
theorem sameO (x : S25) : sameX x (onlyX x) = decide (x.f11 = onlyL x.f0 x.f11 ∧ nums x = numsO x) := by
  unfold sameX
  rw [Bool.decide_and]
  rfl
theorem chk_f (x : S25) (hm : x.f11.length ≤ 140737488355328) : Ev (fun k => message_Check.f k x.f0 x.f1 x.f2 x.f3 x.f4 x.f5 x.f6 x.f7 x.f8 x.f9 x.f10 x.f11) (chkM x) := by
  unfold message_Check.f chkM
  by_cases h1 : ixOf x.f0 = []
  · rw [if_pos h1]
    exact Ev.congr (fun k => if_pos h1) (Ev.now _)
  rw [if_neg h1]
  refine Ev.congr (fun k => if_neg h1) ?_
  by_cases h2 : ([x.f1, x.f2, x.f3, x.f4, x.f5, x.f6, x.f7, x.f8, x.f9, x.f10] : List Int).any outI = true
  · rw [if_pos h2]
    exact Ev.congr (fun k => if_pos h2) (Ev.now _)
  rw [if_neg h2]
  refine Ev.congr (fun k => if_neg h2) ?_
  by_cases h3 : x.f11.length > 1024
  · rw [if_pos h3]
    exact Ev.congr (fun k => if_pos h3) (Ev.now _)
  rw [if_neg h3]
  refine Ev.congr (fun k => if_neg h3) ?_
  have hs := msame_f x (onlyX x) rfl hm
  rw [sameO] at hs
  refine Ev.bind hs (Ev.congr (fun k => ?_) (Ev.now _))
  by_cases h4 : x.f11 = onlyL x.f0 x.f11 ∧ nums x = numsO x
  · rw [decide_eq_true h4, if_pos h4]; rfl
  · rw [decide_eq_false h4, if_neg h4]; rfl
structure MayBe (x : S25) : Prop where
  kind : 1 ≤ x.f0 ∧ x.f0 ≤ 8
  rng : ∀ n ∈ nums x, 0 ≤ n ∧ n ≤ 2147483647
  len : x.f11.length ≤ 1024
  only : nums x = numsO x
  data : x.f11 = onlyL x.f0 x.f11
theorem chk_ok {x : S25} (h : chkM x = 0) : MayBe x := by
  unfold chkM at h
  by_cases h1 : ixOf x.f0 = []
  · rw [if_pos h1] at h; cases h
  rw [if_neg h1] at h
  by_cases h2 : ([x.f1, x.f2, x.f3, x.f4, x.f5, x.f6, x.f7, x.f8, x.f9, x.f10] : List Int).any outI = true
  · rw [if_pos h2] at h; cases h
  rw [if_neg h2] at h
  by_cases h3 : x.f11.length > 1024
  · rw [if_pos h3] at h; cases h
  rw [if_neg h3] at h
  by_cases h4 : x.f11 = onlyL x.f0 x.f11 ∧ nums x = numsO x
  case neg => rw [if_neg h4] at h; cases h
  have hk : 1 ≤ x.f0 ∧ x.f0 ≤ 8 := by
    apply Classical.byContradiction
    intro hn
    exact h1 (ixOf_none hn)
  refine ⟨hk, fun n hn => ?_, by omega, h4.2, h4.1⟩
  have hn' : n = x.f0 ∨ n ∈ ([x.f1, x.f2, x.f3, x.f4, x.f5, x.f6, x.f7, x.f8, x.f9, x.f10] : List Int) := by
    unfold nums at hn
    exact List.mem_cons.1 hn
  rcases hn' with rfl | hn'
  · omega
  · have := fun ho => h2 (List.any_eq_true.2 ⟨n, hn', ho⟩)
    unfold outI at this
    simp at this
    omega
theorem enc_l0 (k0 : Nat) (xs : List Int) (hx : ∀ y ∈ xs, 0 ≤ y ∧ y ≤ 2147483647) : ∀ (b : List Int), b.length + 20 * xs.length < 140737488355328 → Ev (fun k => message_Encode.l0 k b xs) (b ++ encAll xs) := by
  induction xs with
  | nil => intro b _; rw [encAll_nil, List.append_nil]; exact Ev.congr (fun k => rfl) (Ev.now _)
  | cons y ys ih =>
    intro b hb
    have hy := hx y (by simp)
    simp only [List.length_cons] at hb
    have hw : IntKind.u64.wrap y = y := by rw [IntKind.wrap_u64]; omega
    have h1 := put_f b [y] (fun z hz => by rw [show z = y by simpa using hz]; omega) (by simp; omega)
    rw [encAll_one] at h1
    have hl := enc_len_10 (n := y.toNat) (by omega)
    have h2 := ih (fun z hz => hx z (by simp [hz])) (b ++ enc y.toNat) (by rw [List.length_append]; omega)
    rw [encAll_cons, ← List.append_assoc]
    refine Ev.congr (fun k => ?_) (Ev.bind (f := fun k b' => message_Encode.l0 k b' ys) h1 h2)
    rw [message_Encode.l0, hw]
theorem getD_mem (l : List Int) (j : Nat) (h : j < l.length) : l.getD j 0 ∈ l := by
  rw [List.getD_eq_getElem?_getD, List.getElem?_eq_getElem h]
  exact List.getElem_mem h
theorem fld_rng {x : S25} (h : MayBe x) : ∀ y ∈ (ixOf x.f0).map (fun j => (nums x).getD j 0), 0 ≤ y ∧ y ≤ 2147483647 := by
  intro y hy
  obtain ⟨j, hj, rfl⟩ := List.mem_map.1 hy
  exact h.rng _ (getD_mem _ _ (by have := ixOf_lt j hj; show j < 11; omega))
theorem encAll_len (xs : List Int) (hx : ∀ y ∈ xs, 0 ≤ y ∧ y ≤ 2147483647) : (encAll xs).length ≤ 10 * xs.length := by
  induction xs with
  | nil => simp [encAll]
  | cons y ys ih =>
    rw [encAll_cons, List.length_append, List.length_cons]
    have hy := hx y (by simp)
    have := enc_len_10 (n := y.toNat) (by omega)
    have := ih (fun z hz => hx z (by simp [hz]))
    omega
theorem encode_f (x : S25) (hm : x.f11.length ≤ 140737488355328) : Ev (fun k => message_Encode.f k x.f0 x.f1 x.f2 x.f3 x.f4 x.f5 x.f6 x.f7 x.f8 x.f9 x.f10 x.f11) (if chkM x = 0 then (encM x, 0) else ([], chkM x)) := by
  unfold message_Encode.f
  refine Ev.bind (chk_f x hm) ?_
  by_cases h : chkM x = 0
  case neg => rw [if_neg h]; exact Ev.congr (fun k => if_neg h) (Ev.now _)
  rw [if_pos h]
  refine Ev.congr (fun k => if_pos h) ?_
  have hM := chk_ok h
  have r0 := hM.rng x.f0 (by simp [nums])
  have r2 := hM.rng x.f2 (by simp [nums])
  have w0 : IntKind.u64.wrap x.f0 = x.f0 := by rw [IntKind.wrap_u64]; omega
  have w2 : IntKind.u64.wrap x.f2 = x.f2 := by rw [IntKind.wrap_u64]; omega
  rw [w0, w2]
  have h1 := put_f [] [x.f0, x.f2] (fun z hz => by rcases List.mem_cons.1 hz with h | h; (rw [h]; omega); (rw [show z = x.f2 by simpa using h]; omega)) (by simp)
  rw [List.nil_append] at h1
  refine Ev.bind h1 ?_
  have hlen := ixOf_len x.f0
  have hl1 := encAll_len [x.f0, x.f2] (fun z hz => by rcases List.mem_cons.1 hz with h | h; (rw [h]; omega); (rw [show z = x.f2 by simpa using h]; omega))
  have hl2 := encAll_len _ (fld_rng hM)
  simp only [List.length_cons, List.length_nil, List.length_map] at hl1 hl2
  have h2 := enc_l0 0 _ (fld_rng hM) (encAll [x.f0, x.f2]) (by simp only [List.length_map]; omega)
  refine Ev.bind h2 ?_
  have he : encAll [x.f0, x.f2] ++ encAll ((ixOf x.f0).map fun j => (nums x).getD j 0) = encAll (x.f0 :: x.f2 :: (ixOf x.f0).map fun j => (nums x).getD j 0) := by simp [encAll]
  rw [he]
  unfold encM
  by_cases hd : x.f0 = 3 ∨ x.f0 = 4
  · rw [if_pos ((dat_iff _).2 hd)]
    refine Ev.congr (fun k => if_pos hd) ?_
    have h3 := texts_f (encAll (x.f0 :: x.f2 :: (ixOf x.f0).map fun j => (nums x).getD j 0)) [x.f11] (by simp) (by rw [← he, List.length_append]; have := hM.len; simp only [lsum]; omega)
    rw [show txts [x.f11] = txt x.f11 by simp [txts]] at h3
    exact Ev.bind h3 (Ev.now _)
  · rw [if_neg (fun h => hd ((dat_iff _).1 h)), List.append_nil]
    exact Ev.congr (fun k => if_neg hd) (Ev.now _)
theorem encM_len {x : S25} (h : MayBe x) : (encM x).length ≤ 2000 ∧ 0 < (encM x).length := by
  have r0 := h.rng x.f0 (by simp [nums])
  have r2 := h.rng x.f2 (by simp [nums])
  have l0 := enc_len_10 (n := x.f0.toNat) (by omega)
  have l2 := enc_len_10 (n := x.f2.toNat) (by omega)
  have p0 := enc_pos x.f0.toNat
  have hlen := ixOf_len x.f0
  have hl2 := encAll_len _ (fld_rng h)
  simp only [List.length_map] at hl2
  have hl := h.len
  have ht := txt_len (s := x.f11) (by omega)
  unfold encM
  rw [encAll_cons, encAll_cons]
  simp only [List.length_append]
  split
  · omega
  · simp only [List.length_nil]; omega
end Go.Proofs.Ytkddlhcpplkpbaa.V
end

section
namespace Go.Proofs.Ytkddlhcpplkpbaa.G
open WB Go.RowKit Go.Proofs.YtkddlhcpplkpbaaW.PrintWords Go.Proofs.YtkddlhcpplkpbaaW.PrintLast Go.Proofs.YtkddlhcpplkpbaaW.PrintMore
attribute [local go_sem] max2_int min2_int max_two min_two max_three min_three max_four min_four   -- for this text's walks alone
set_option linter.unusedVariables false
set_option linter.unusedSimpArgs false
/-- Where the reference's reader is. -/
structure DecI (w W : World) (gm : Nat) (o : List Int) (D : Value) : Prop where
  rb : W.heap[w.heap.size]? = some (.cells (msgCells [0, 0, 0, 0, 0, 0, 0, 0, 0, 0, 0] (.slice none 0 0)) 25 (0, 0))
  ms : W.heap[gm]? = some (.cells (msgCells o D) 25 (0, 0))
  bel : Below w.heap.size w W
  lt : w.heap.size < gm
theorem DecI.below {w W W1 : World} {gm : Nat} {o : List Int} {D : Value} (h : DecI w W gm o D) (hb : Below W.heap.size W W1) : DecI w W1 gm o D :=
  ⟨blk_below h.rb hb, blk_below h.ms hb, below_then h.bel h.bel.size hb, h.lt⟩
theorem DecI.put {w W : World} {gm : Nat} {o : List Int} {D : Value} (h : DecI w W gm o D) (j : Nat) (hj : j < o.length) (x : Int) : DecI w (W.setCell ⟨gm, j, none⟩ (.int .i64 x)) gm (o.set j x) D :=
  ⟨blk_far h.rb (by have := h.lt; simp; omega) _, blk_put h.ms _ _ (msg_set hj x), below_set h.bel (by have := h.lt; omega), h.lt⟩
theorem DecI.data {w W : World} {gm : Nat} {o : List Int} {D : Value} (h : DecI w W gm o D) (hj : o.length = 11) (D' : Value) : DecI w (W.setCell ⟨gm, 11, none⟩ D') gm o D' :=
  ⟨blk_far h.rb (by have := h.lt; simp; omega) _, blk_put h.ms _ _ (msg_setD hj), below_set h.bel (by have := h.lt; omega), h.lt⟩
/-- What comes of it. -/
def DecAt (w : World) (d : Int × List Int × List Int) (e : Ending) (w' : World) : Prop := (if d.1 = 0 then ∃ v, e = .returned (.tuple #[.agg (msgCells d.2.1 v), .int .i64 0]) ∧ d.2.1.length = 11 ∧ Kd.R (Kd.int .u8) 5 w' w.heap.size (fun _ => True) v d.2.2 else e = .returned (.tuple #[.agg (msgCells [0, 0, 0, 0, 0, 0, 0, 0, 0, 0, 0] (.slice none 0 0)), .int .i64 d.1])) ∧ Below w.heap.size w w'
theorem DecAt.ok {w w' : World} {o ld : List Int} {v v2 : Value} (hl : o.length = 11) (h2 : v2 = .int .i64 0) (hr : Kd.R (Kd.int .u8) 5 w' w.heap.size (fun _ => True) v ld) (hb : Below w.heap.size w w') : DecAt w (0, o, ld) (.returned (.tuple #[.agg (msgCells o v), v2])) w' :=
  ⟨by rw [if_pos rfl, h2]; exact ⟨v, rfl, hl, hr⟩, hb⟩
end Go.Proofs.Ytkddlhcpplkpbaa.G
end

section
set_option maxRecDepth 100000
set_option linter.unusedVariables false
set_option linter.unusedSimpArgs false
namespace Go.Proofs.Ytkddlhcpplkpbaa.V
open WB Go Go.RowKit Go.Proofs.Ytkddlhcpplkpbaa.G Go.Proofs.YtkddlhcpplkpbaaW.PrintWords Go.Proofs.YtkddlhcpplkpbaaW.PrintLast Go.Proofs.YtkddlhcpplkpbaaW.PrintMore
/-- The octets' kind, and what stands behind it. -/
def kdP (l : List Int) : Int := kindOf (getAt l 0).1
def rdP (l : List Int) : Int × Int × List Int := rdN l (2 :: ixOf (kdP l)) (getAt l 0).2.1 [kdP l, 0, 0, 0, 0, 0, 0, 0, 0, 0, 0]
/-- What octets tell: the fault, the numbers, the octets. -/
def decP (l : List Int) : Int × List Int × List Int :=
  if (getAt l 0).2.2 = 0 then (if ixOf (kdP l) = [] then (23, [], []) else
    (if (rdP l).1 = 0 then
      (if dat (kdP l) = true then (if (textAt l (rdP l).2.1 1024).2.2 = 0 then (if (textAt l (rdP l).2.1 1024).2.1 = (l.length : Int) then (0, (rdP l).2.2, (textAt l (rdP l).2.1 1024).1) else (22, [], [])) else ((textAt l (rdP l).2.1 1024).2.2, [], []))
      else (if (rdP l).2.1 = (l.length : Int) then (0, (rdP l).2.2, []) else (22, [], [])))
    else ((rdP l).1, [], [])))
  else ((getAt l 0).2.2, [], [])
theorem decM_f (l : List Int) (hok : octetsOk l = true) (hl : l.length < 140737488355328) (k : Nat) (hk : 1 ≤ k) : decM k l = some (decP l) := by
  unfold decM decP rdP kdP
  split
  · split
    · rfl
    · split
      · by_cases hd : kindOf (getAt l 0).1 = 3 ∨ kindOf (getAt l 0).1 = 4
        · rw [if_pos hd, if_pos ((dat_iff _).2 hd), (text_f l hok hl _ 1024 (by omega) (by omega) k hk).1, Option.bind_some]
          split
          · split <;> rfl
          · rfl
        · rw [if_neg hd, if_neg (fun h => hd ((dat_iff _).1 h))]
          split <;> rfl
      · rfl
  · rfl
/-- Numbers laid into places. -/
def setAll (o : List Int) : List Nat → List Int → List Int
  | j :: js, v :: vs => setAll (o.set j v) js vs
  | _, _ => o
theorem setAll_take (n : List Int) : ∀ (js : List Nat) (o : List Int), setAll o js (js.map fun j => n.getD j 0) = takeN n o js
  | [], _ => rfl
  | j :: js, o => by rw [List.map_cons, setAll, takeN, setAll_take n js]
/-- Numbers that stand in octets are read. -/
theorem rdN_enc : ∀ (js : List Nat) (vs : List Int) (x rest o : List Int), vs.length = js.length → (∀ v ∈ vs, 0 ≤ v ∧ v ≤ 2147483647) →
    rdN (x ++ (encAll vs ++ rest)) js (x.length : Int) o = (0, ((x ++ encAll vs).length : Int), setAll o js vs)
  | [], [], x, rest, o, _, _ => by simp [rdN, setAll, encAll]
  | [], _ :: _, _, _, _, h, _ => by simp at h
  | _ :: _, [], _, _, _, h, _ => by simp at h
  | j :: js, v :: vs, x, rest, o, h, hv => by
    have hv0 := hv v List.mem_cons_self
    have hg := getAt_enc x v.toNat (encAll vs ++ rest) (by omega)
    rw [rdN, encAll_cons, List.append_assoc, hg]
    dsimp only
    have hvn : ((v.toNat : Nat) : Int) = v := Int.toNat_of_nonneg hv0.1
    rw [if_pos rfl, hvn, if_pos hv0.2, show wrap64 v = v by unfold wrap64; omega]
    have ih := rdN_enc js vs (x ++ enc v.toNat) rest (o.set j v) (by simpa using h) (fun y hy => hv y (List.mem_cons_of_mem _ hy))
    rw [List.append_assoc, List.length_append, Int.natCast_add] at ih
    rw [ih, setAll, List.append_assoc]
/-- The answer of the program's and the reference's, spread out. -/
def outP (d : Int × List Int × List Int) : Int × Int × Int × Int × Int × Int × Int × Int × Int × Int × Int × List Int × Int := (d.2.1.getD 0 0, d.2.1.getD 1 0, d.2.1.getD 2 0, d.2.1.getD 3 0, d.2.1.getD 4 0, d.2.1.getD 5 0, d.2.1.getD 6 0, d.2.1.getD 7 0, d.2.1.getD 8 0, d.2.1.getD 9 0, d.2.1.getD 10 0, d.2.2, d.1)
theorem decode_f (l : List Int) (hok : octetsOk l = true) (hl : l.length < 140737488355328) : Ev (fun k => message_Decode.f k l) (outP (decP l)) := by
  refine ⟨1, fun k hk => ?_⟩
  show message_Decode.f k l = _
  unfold message_Decode.f
  rw [if_pos hok, decM_f l hok hl k hk]
  rfl
end Go.Proofs.Ytkddlhcpplkpbaa.V
end

section
set_option maxRecDepth 100000
set_option linter.unusedVariables false
set_option linter.unusedSimpArgs false
namespace Go.Proofs.Ytkddlhcpplkpbaa.V
open WB Go Go.RowKit Go.Proofs.Ytkddlhcpplkpbaa.G Go.Proofs.YtkddlhcpplkpbaaW.PrintWords Go.Proofs.YtkddlhcpplkpbaaW.PrintLast Go.Proofs.YtkddlhcpplkpbaaW.PrintMore
theorem numsO_take (x : S25) : takeN (nums x) [x.f0, 0, 0, 0, 0, 0, 0, 0, 0, 0, 0] (2 :: ixOf x.f0) = numsO x := onlyN_all x.f0 x.f1 x.f2 x.f3 x.f4 x.f5 x.f6 x.f7 x.f8 x.f9 x.f10
theorem set_nums {x : S25} (h : MayBe x) : setAll [x.f0, 0, 0, 0, 0, 0, 0, 0, 0, 0, 0] (2 :: ixOf x.f0) (x.f2 :: (ixOf x.f0).map fun j => (nums x).getD j 0) = nums x := by
  have := setAll_take (nums x) (2 :: ixOf x.f0) [x.f0, 0, 0, 0, 0, 0, 0, 0, 0, 0, 0]
  rw [numsO_take, ← h.only] at this
  exact this
/-- The numbers behind the kind. -/
def valsM (x : S25) : List Int := x.f2 :: (ixOf x.f0).map fun j => (nums x).getD j 0
/-- The octets behind the numbers. -/
def tailM (x : S25) : List Int := if dat x.f0 = true then txt x.f11 else []
theorem encM_is (x : S25) : encM x = enc x.f0.toNat ++ (encAll (valsM x) ++ tailM x) := by
  unfold encM valsM tailM
  rw [encAll_cons, List.append_assoc]
theorem vals_rng {x : S25} (h : MayBe x) : ∀ v ∈ valsM x, 0 ≤ v ∧ v ≤ 2147483647 := by
  intro v hv
  rcases List.mem_cons.1 hv with rfl | hv
  · exact h.rng _ (by simp [nums])
  · exact fld_rng h v hv
theorem vals_len (x : S25) : (valsM x).length = (2 :: ixOf x.f0).length := by simp [valsM]
theorem kind_ne {x : S25} (h : MayBe x) : ixOf x.f0 ≠ [] := by
  have hc : x.f0 = 1 ∨ x.f0 = 2 ∨ x.f0 = 3 ∨ x.f0 = 4 ∨ x.f0 = 5 ∨ x.f0 = 6 ∨ x.f0 = 7 ∨ x.f0 = 8 := by have := h.kind; omega
  rcases hc with h | h | h | h | h | h | h | h <;> rw [h] <;> decide
theorem kindOf_small {q : Int} (h0 : 1 ≤ q) (h1 : q ≤ 8) : kindOf q = q := by
  unfold kindOf mn wrap64
  rw [if_neg (by omega)]
  omega
theorem get_kind {x : S25} (h : MayBe x) (r : List Int) : getAt (enc x.f0.toNat ++ r) 0 = (x.f0, ((enc x.f0.toNat).length : Int), 0) ∧ kdP (enc x.f0.toNat ++ r) = x.f0 := by
  have hk := h.kind
  have hg := getAt_enc [] x.f0.toNat r (by omega)
  rw [List.nil_append] at hg
  have hn : ((x.f0.toNat : Nat) : Int) = x.f0 := Int.toNat_of_nonneg (by omega)
  simp only [List.length_nil, Int.natCast_zero, Int.zero_add, hn] at hg
  refine ⟨hg, ?_⟩
  unfold kdP
  rw [hg]
  exact kindOf_small hk.1 hk.2
theorem read_vals {x : S25} (h : MayBe x) (r : List Int) : rdP (enc x.f0.toNat ++ (encAll (valsM x) ++ r)) = (0, ((enc x.f0.toNat ++ encAll (valsM x)).length : Int), nums x) := by
  obtain ⟨h1, h2⟩ := get_kind h (encAll (valsM x) ++ r)
  unfold rdP
  rw [h1, h2]
  dsimp only
  rw [rdN_enc _ _ _ _ _ (vals_len x) (vals_rng h)]
  exact congrArg (fun z => ((0 : Int), ((enc x.f0.toNat ++ encAll (valsM x)).length : Int), z)) (set_nums h)
/-- A message's octets tell it; with more behind them, something is left. -/
theorem dec_enc {x : S25} (h : MayBe x) (rest : List Int) : decP (encM x ++ rest) = if rest = [] then (0, nums x, x.f11) else (22, [], []) := by
  have hl : encM x ++ rest = enc x.f0.toNat ++ (encAll (valsM x) ++ (tailM x ++ rest)) := by rw [encM_is]; simp only [List.append_assoc]
  obtain ⟨h1, h2⟩ := get_kind h (encAll (valsM x) ++ (tailM x ++ rest))
  have h3 := read_vals h (tailM x ++ rest)
  have hlen : (rest.length = 0) ↔ rest = [] := List.length_eq_zero_iff
  rw [hl]
  unfold decP
  rw [h1, h2, h3]
  dsimp only
  rw [if_pos rfl, if_neg (kind_ne h), if_pos rfl]
  by_cases hd : dat x.f0 = true
  · rw [if_pos hd]
    have ht : tailM x = enc x.f11.length ++ x.f11 := by unfold tailM; rw [if_pos hd]; rfl
    have hlen2 := h.len
    have hL : enc x.f0.toNat ++ (encAll (valsM x) ++ (tailM x ++ rest)) = (enc x.f0.toNat ++ encAll (valsM x)) ++ (enc x.f11.length ++ (x.f11 ++ rest)) := by rw [ht]; simp only [List.append_assoc]
    rw [hL]
    generalize hpre : enc x.f0.toNat ++ encAll (valsM x) = pre
    have hg := getAt_enc pre x.f11.length (x.f11 ++ rest) (by omega)
    have hta : textAt (pre ++ (enc x.f11.length ++ (x.f11 ++ rest))) (pre.length : Int) 1024 = (x.f11, (pre.length : Int) + ((enc x.f11.length).length : Int) + (x.f11.length : Int), 0) := by
      unfold textAt
      rw [hg]
      dsimp only
      rw [if_pos rfl, if_neg (by omega), if_neg (by simp only [List.length_append]; omega)]
      have e1 : ((pre.length : Int) + ((enc x.f11.length).length : Int)).toNat = (pre ++ enc x.f11.length).length := by rw [List.length_append]; omega
      rw [e1, ← List.append_assoc, List.drop_left, Int.toNat_natCast, List.take_left]
    rw [hta]
    dsimp only
    rw [if_pos rfl]
    by_cases hr : rest = []
    · rw [if_pos hr, if_pos (by simp only [List.length_append]; rw [hr]; simp; omega)]
    · rw [if_neg hr, if_neg (by simp only [List.length_append]; have := mt hlen.1 hr; omega)]
  · rw [if_neg hd]
    have ht : tailM x = [] := by unfold tailM; rw [if_neg hd]
    have hf : x.f11 = [] := by have := h.data; rw [onlyL_dat, if_neg hd] at this; exact this
    rw [ht, List.nil_append, hf]
    by_cases hr : rest = []
    · rw [if_pos hr, if_pos (by rw [hr]; simp)]
    · rw [if_neg hr, if_neg (by simp only [List.length_append]; have := mt hlen.1 hr; omega)]
/-- The message of what octets tell. -/
def msgP (d : Int × List Int × List Int) : S25 := ⟨d.2.1.getD 0 0, d.2.1.getD 1 0, d.2.1.getD 2 0, d.2.1.getD 3 0, d.2.1.getD 4 0, d.2.1.getD 5 0, d.2.1.getD 6 0, d.2.1.getD 7 0, d.2.1.getD 8 0, d.2.1.getD 9 0, d.2.1.getD 10 0, d.2.2⟩
end Go.Proofs.Ytkddlhcpplkpbaa.V
end

section
set_option maxRecDepth 100000
set_option linter.unusedVariables false
set_option linter.unusedSimpArgs false
namespace Go.Proofs.Ytkddlhcpplkpbaa.V
open WB Go Go.RowKit Go.Proofs.Ytkddlhcpplkpbaa.G Go.Proofs.YtkddlhcpplkpbaaW.PrintWords Go.Proofs.YtkddlhcpplkpbaaW.PrintLast Go.Proofs.YtkddlhcpplkpbaaW.PrintMore
def aliveX : S25 := ⟨8, 2, 3, 0, 0, 0, 0, 4, 0, 0, 0, []⟩
theorem aliveX_chk : chkM aliveX = 0 := by decide +kernel
theorem aliveX_enc : encM aliveX = [8, 3, 2, 4] := by
  unfold encM encAll
  have h1 : ((aliveX.f0 :: aliveX.f2 :: (ixOf aliveX.f0).map fun j => (nums aliveX).getD j 0)) = [8, 3, 2, 4] := by decide +kernel
  rw [h1, if_neg (by decide +kernel)]
  simp [enc_small]
theorem num_f (x : Int) : waybilllaw09_num.f x = some x := rfl
theorem alive_f : Ev (fun k => waybilllaw09_alive.f k) true := by
  have h1 := encode_f aliveX (by simp [aliveX])
  rw [if_pos aliveX_chk, aliveX_enc] at h1
  have h2 := dec_enc (chk_ok aliveX_chk) []
  rw [if_pos rfl, aliveX_enc, List.append_nil] at h2
  have h3 := decode_f [8, 3, 2, 4] (by decide) (by simp)
  rw [h2] at h3
  unfold waybilllaw09_alive.f
  refine Ev.bind h1 (Ev.bind h3 ?_)
  exact Ev.congr (fun k => congrArg some (by decide +kernel)) (Ev.now true)
/-- Any message's octets are octets. -/
theorem encAll_ok : ∀ xs : List Int, octetsOk (encAll xs) = true
  | [] => rfl
  | x :: xs => by rw [encAll_cons, octetsOk_append, enc_ok, encAll_ok xs]; rfl
theorem encM_ok {x : S25} (h : octetsOk x.f11 = true) : octetsOk (encM x) = true := by
  unfold encM
  rw [octetsOk_append, encAll_ok]
  split
  · rw [txt_ok h]; rfl
  · rfl
end Go.Proofs.Ytkddlhcpplkpbaa.V
end

section
set_option linter.unusedVariables false
set_option linter.unusedSimpArgs false
namespace Go.Proofs.Ytkddlhcpplkpbaa.V
open WB Go Go.RowKit Go.Proofs.Ytkddlhcpplkpbaa.G Go.Proofs.YtkddlhcpplkpbaaW.PrintWords Go.Proofs.YtkddlhcpplkpbaaW.PrintLast Go.Proofs.YtkddlhcpplkpbaaW.PrintMore
theorem getF_enc (q : Nat) (h0 : 0 < q) (h1 : q ≤ 4096) (r : List Int) (hr : q + 4 ≤ r.length) :
    getF (enc q ++ r) = if (enc q ++ r.take q) ++ sum4 (enc q ++ r.take q) = enc q ++ r.take (q + 4) then (r.take q, ((enc q).length + q + 4 : Int), 0) else ([], 0, 21) := by
  have hg := getAt_enc [] q r (by omega)
  rw [List.nil_append] at hg
  simp only [List.length_nil, Int.ofNat_zero, Int.zero_add, Int.natCast_zero] at hg
  unfold getF
  rw [hg]
  have e1 : ((enc q).length + q : Int).toNat = (enc q).length + q := by omega
  have e2 : ((enc q).length + q + 4 : Int).toNat = (enc q).length + (q + 4) := by omega
  simp only [e1, e2, Int.toNat_natCast, List.take_length_add_append, List.drop_left, List.length_append]
  rw [if_neg (by decide), if_pos trivial, if_neg (by omega), if_neg (by omega), if_neg (by push_cast; omega)]
theorem get_frm (p rest : List Int) (hc : checkP p = 0) : getF (frm p ++ rest) = (p, ((frm p).length : Int), 0) := by
  have h := check_ok hc
  have e : frm p ++ rest = enc p.length ++ (p ++ (sum4 (txt p) ++ rest)) := by simp [frm, txt]
  rw [e, getF_enc p.length (by omega) (by omega) _ (by simp [sum4_len])]
  have t1 : (p ++ (sum4 (txt p) ++ rest)).take p.length = p := List.take_left
  have t2 : (p ++ (sum4 (txt p) ++ rest)).take (p.length + 4) = p ++ sum4 (txt p) := by
    rw [List.take_length_add_append]
    congr 1
  rw [t1, t2, if_pos (by simp [txt])]
  simp [frm, txt, sum4_len]
  omega
end Go.Proofs.Ytkddlhcpplkpbaa.V
end
