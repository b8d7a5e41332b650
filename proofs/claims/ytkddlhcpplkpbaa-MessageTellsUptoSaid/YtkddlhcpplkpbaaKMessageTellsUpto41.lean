/- MessageTellsUpto: texts of this claim, packed: what the kit's print has written for it and own texts, without what its proof does not reach. -/
import Derived.Test.YtkddlhcpplkpbaaKMessageTellsUpto0
import Derived.Test.YtkddlhcpplkpbaaKMessageTellsUpto2
import Derived.Test.YtkddlhcpplkpbaaKMessageTellsUpto16
import Derived.Test.YtkddlhcpplkpbaaKMessageTellsUpto17
import Derived.Test.YtkddlhcpplkpbaaKMessageTellsUpto21
import Derived.Test.YtkddlhcpplkpbaaKMessageTellsUpto24
import Derived.Test.YtkddlhcpplkpbaaKMessageTellsUpto26
import Derived.Test.YtkddlhcpplkpbaaKMessageTellsUpto27
import Derived.Test.YtkddlhcpplkpbaaKMessageTellsUpto28
import Derived.Test.YtkddlhcpplkpbaaKMessageTellsUpto40
set_option linter.unusedVariables false
set_option linter.unusedSimpArgs false
set_option linter.unusedSectionVars false
section
namespace Go.Proofs.Ytkddlhcpplkpbaa.V
open WB Go Go.RowKit Go.Proofs.Ytkddlhcpplkpbaa.G Go.Proofs.YtkddlhcpplkpbaaW.PrintWords Go.Proofs.YtkddlhcpplkpbaaW.PrintLast Go.Proofs.YtkddlhcpplkpbaaW.PrintMore
theorem or128 (x : Int) (h0 : 0 ≤ x) (h1 : x < 256) : bits .or .u8 x 128 = x % 128 + 128 := by
 rw [u8_or x 128 h0 h1 (by decide) (by decide)]
 obtain ⟨n, rfl⟩ := Int.eq_ofNat_of_zero_le h0
 have : ∀ n : Nat, n < 256 → n ||| 128 = n % 128 + 128 := by decide +kernel
 have h2 := this n (by omega)
 show (((n : Int).toNat ||| (128 : Int).toNat : Nat) : Int) = _
 rw [Int.toNat_natCast, show (128 : Int).toNat = 128 from rfl, h2]
 omega
/-- The octets of numbers. -/
def encAll (xs : List Int) : List Int := (xs.map fun x => enc x.toNat).flatten
theorem encAll_nil : encAll [] = [] := rfl
theorem encAll_one (x : Int) : encAll [x] = enc x.toNat := by simp [encAll]
theorem encAll_cons (x : Int) (xs : List Int) : encAll (x :: xs) = enc x.toNat ++ encAll xs := by simp [encAll]
theorem put_l1 (x10 : List Int) (x11 x12 : Int) (r : List Int) : ∀ (n : Nat) (x5 : List Int), n < 18446744073709551616 → x5.length + (enc n).length ≤ 140737488355328 →
  Ev (fun k => varint_Put.l0 k (x5 ++ enc n) x10 x11 (wrap64 (x12 + 1))) r → Ev (fun k => varint_Put.l1 k x5 n x10 x11 x12) r := by
 intro n
 induction n using Nat.strongRecOn with
 | _ n ih =>
  intro x5 hn hl h
  rcases Nat.lt_or_ge n 128 with h1 | h1
  · rw [enc_small h1] at h hl
    refine Ev.step (fun k => ?_) h
    show varint_Put.l1 (k + 1) x5 n x10 x11 x12 = _
    simp only [varint_Put.l1]
    rw [if_neg (by omega), if_pos (by simp at hl; omega), show (n : Int) % 256 = n by omega]
  · rw [enc_big (by omega)] at h hl
    have hp := enc_pos (n / 128)
    rw [List.length_cons] at hl
    have := ih (n / 128) (by omega) (x5 ++ [((n % 128 + 128 : Nat) : Int)]) (by omega) (by simp; omega) (by simpa using h)
    refine Ev.step (fun k => ?_) this
    show varint_Put.l1 (k + 1) x5 n x10 x11 x12 = _
    simp only [varint_Put.l1]
    rw [if_pos (by omega), if_pos (by omega), or128 _ (by omega) (by omega), show (n : Int) / 128 = ((n / 128 : Nat) : Int) by omega,
     show (n : Int) % 256 % 128 + 128 = ((n % 128 + 128 : Nat) : Int) by omega]
theorem put_l0 (xs : List Int) (hx : ∀ x ∈ xs, 0 ≤ x ∧ x < 18446744073709551616) (hm : xs.length ≤ 140737488355328) : ∀ (d i : Nat) (x5 : List Int), xs.length - i = d → i ≤ xs.length → x5.length + 10 * d ≤ 140737488355328 →
  Ev (fun k => varint_Put.l0 k x5 xs (xs.length : Int) (i : Int)) (x5 ++ encAll (xs.drop i)) := by
 intro d
 induction d with
 | zero =>
  intro i x5 hd hi hl
  refine ⟨1, fun k hk => ?_⟩
  obtain ⟨k, rfl⟩ : ∃ m, k = m + 1 := ⟨k - 1, by omega⟩
  simp only [varint_Put.l0]
  rw [if_neg (by omega), List.drop_of_length_le (by omega), encAll_nil, List.append_nil]
 | succ d ih =>
  intro i x5 hd hi hl
  have hlt : i < xs.length := by omega
  obtain ⟨q, hq⟩ := Int.eq_ofNat_of_zero_le (hx _ (List.getElem_mem hlt)).1
  have hq2 := (hx _ (List.getElem_mem hlt)).2
  have hqn : q < 18446744073709551616 := by omega
  have hel := enc_len_10 hqn
  have hrd : rd xs (i : Int) = (q : Int) := by simp [rd, List.getElem?_eq_getElem hlt, hq]
  have hdr : xs.drop i = (q : Int) :: xs.drop (i + 1) := by rw [List.drop_eq_getElem_cons hlt, hq]
  have h1 := ih (i + 1) (x5 ++ enc q) (by omega) (by omega) (by simp; omega)
  have hw : wrap64 ((i : Int) + 1) = ((i + 1 : Nat) : Int) := by unfold wrap64; omega
  have h2 := put_l1 xs (xs.length : Int) (i : Int) (x5 ++ encAll (xs.drop i)) q x5 hqn (by omega) (by rw [hw, hdr, encAll_cons, Int.toNat_natCast, ← List.append_assoc]; exact h1)
  refine Ev.step (fun k => ?_) h2
  show varint_Put.l0 (k + 1) x5 xs (xs.length : Int) (i : Int) = _
  simp only [varint_Put.l0]
  rw [if_pos (by omega), if_pos (by omega), if_pos (by omega), hrd]
theorem put_f (l xs : List Int) (hx : ∀ x ∈ xs, 0 ≤ x ∧ x < 18446744073709551616) (hl : l.length + 10 * xs.length < 140737488355328) : Ev (fun k => varint_Put.f k l xs) (l ++ encAll xs) := by
 have h := put_l0 xs hx (by omega) xs.length 0 l (by omega) (by omega) (by omega)
 rw [List.drop_zero] at h
 refine Ev.congr (fun k => ?_) h
 show varint_Put.f k l xs = _
 unfold varint_Put.f slices_Clone_byte_byte.f
 rw [if_pos (by omega)]
 rfl
theorem refput_l0 : ∀ (n : Nat) (x5 : List Int), n < 18446744073709551616 → x5.length + (enc n).length ≤ 140737488355328 → Ev (fun k => waybillref01_Put.l0 k n x5) (x5 ++ enc n) := by
 intro n
 induction n using Nat.strongRecOn with
 | _ n ih =>
  intro x5 hn hl
  rcases Nat.lt_or_ge n 128 with h1 | h1
  · rw [enc_small h1] at hl ⊢
    refine ⟨1, fun k hk => ?_⟩
    obtain ⟨k, rfl⟩ : ∃ m, k = m + 1 := ⟨k - 1, by omega⟩
    simp only [waybillref01_Put.l0]
    rw [if_neg (by omega), if_pos (by simp at hl; omega), show (n : Int) % 256 = n by omega]
  · rw [enc_big (by omega)] at hl ⊢
    have hp := enc_pos (n / 128)
    rw [List.length_cons] at hl
    have := ih (n / 128) (by omega) (x5 ++ [((n % 128 + 128 : Nat) : Int)]) (by omega) (by simp; omega)
    rw [List.append_assoc] at this
    refine Ev.step (fun k => ?_) this
    show waybillref01_Put.l0 (k + 1) n x5 = _
    simp only [waybillref01_Put.l0]
    have e1 : Int.tdiv (n : Int) 128 = ((n / 128 : Nat) : Int) := by rw [Int.tdiv_eq_ediv_of_nonneg (by omega)]; omega
    have e2 : Int.tmod (n : Int) 128 = ((n % 128 : Nat) : Int) := by rw [Int.tmod_eq_emod_of_nonneg (by omega)]; omega
    rw [if_pos (by omega), if_pos (by omega), e1, e2, IntKind.wrap_u64, show ((n / 128 : Nat) : Int) % 18446744073709551616 = ((n / 128 : Nat) : Int) by omega,
     show (((n % 128 : Nat) : Int) + 128) % 256 = ((n % 128 + 128 : Nat) : Int) by omega]
theorem copied_f (l : List Int) (hl : l.length < 140737488355328) : waybillref01_Copied.f l = some l := by
 unfold waybillref01_Copied.f
 rw [if_pos (by simpa using hl), List.nil_append]
theorem copybytes_f (l : List Int) (hl : l.length < 140737488355328) : waybillplain_CopyBytes.f l = some l := by
 unfold waybillplain_CopyBytes.f
 rw [if_pos (by simpa using hl), List.nil_append]
theorem clone_f (l : List Int) (hl : l.length < 140737488355328) : slices_Clone_byte_byte.f l = some l := by
 unfold slices_Clone_byte_byte.f
 rw [if_pos hl]
theorem refput_f (l : List Int) (n : Int) (h0 : 0 ≤ n) (h1 : n < 18446744073709551616) (hl : l.length + 10 < 140737488355328) : Ev (fun k => waybillref01_Put.f k l n) (l ++ enc n.toNat) := by
 obtain ⟨n, rfl⟩ := Int.eq_ofNat_of_zero_le h0
 have hn : n < 18446744073709551616 := by omega
 have := enc_len_10 hn
 refine Ev.congr (fun k => ?_) (refput_l0 n l hn (by omega))
 show waybillref01_Put.f k l n = _
 unfold waybillref01_Put.f
 rw [copied_f l (by omega)]
 rfl
theorem ok_of_wf {l : List Int} (h : ∀ x ∈ l, (Lit.int .u8 x).wf = true) : octetsOk l = true := by
 unfold octetsOk
 rw [List.all_eq_true]
 intro x hx
 have := h x hx
 simp [Lit.wf, IntKind.min, IntKind.max, IntKind.signed, IntKind.bits] at this ⊢
 omega
theorem get_f (l : List Int) (a : Int) (h : octetsOk l = true) : varint_Get.f l a = some (getAt l a) := by unfold varint_Get.f; rw [if_pos h]
theorem refget_f (l : List Int) (a : Int) (h : octetsOk l = true) : waybillref01_Get.f l a = some (getAt l a) := by unfold waybillref01_Get.f; rw [if_pos h]
end Go.Proofs.Ytkddlhcpplkpbaa.V
end
section
namespace Go.Proofs.Ytkddlhcpplkpbaa.V
open WB Go Go.RowKit Go.Proofs.Ytkddlhcpplkpbaa.G Go.Proofs.YtkddlhcpplkpbaaW.PrintWords Go.Proofs.YtkddlhcpplkpbaaW.PrintLast Go.Proofs.YtkddlhcpplkpbaaW.PrintMore
/-- A text with its length. -/
def txt (s : List Int) : List Int := enc s.length ++ s
def txts (xs : List (List Int)) : List Int := (xs.map txt).flatten
theorem txt_len {s : List Int} (h : s.length < 18446744073709551616) : (txt s).length ≤ s.length + 10 := by
 unfold txt
 rw [List.length_append]
 have := enc_len_10 h
 omega
theorem texts_l0 (xs : List (List Int)) (hm : xs.length ≤ 140737488355328) : ∀ (d i : Nat) (x5 : List Int), xs.length - i = d → i ≤ xs.length → x5.length + lsum (fun s => s.length + 10) (xs.drop i) < 140737488355328 - 10 →
  Ev (fun k => varint_Texts.l0 k x5 xs (xs.length : Int) (i : Int)) (x5 ++ txts (xs.drop i)) := by
 intro d
 induction d with
 | zero =>
  intro i x5 hd hi hl
  refine ⟨1, fun k hk => ?_⟩
  obtain ⟨k, rfl⟩ : ∃ m, k = m + 1 := ⟨k - 1, by omega⟩
  simp only [varint_Texts.l0]
  rw [if_neg (by omega), List.drop_of_length_le (by omega)]
  simp [txts]
 | succ d ih =>
  intro i x5 hd hi hl
  have hlt : i < xs.length := by omega
  have hdr : xs.drop i = xs[i] :: xs.drop (i + 1) := by rw [List.drop_eq_getElem_cons hlt]
  rw [hdr] at hl ⊢
  simp only [lsum] at hl
  have hrd : rd_L1 xs (i : Int) = xs[i] := by simp [rd_L1, List.getElem?_eq_getElem hlt]
  obtain ⟨s, hs⟩ : ∃ s, s = xs[i] := ⟨_, rfl⟩
  rw [← hs] at hl hrd ⊢
  have hsl : s.length < 18446744073709551616 := by omega
  have hel := enc_len_10 hsl
  obtain ⟨K1, h1⟩ := put_f x5 [(s.length : Int)] (by simp; omega) (by simp; omega)
  obtain ⟨K2, h2⟩ := ih (i + 1) (x5 ++ enc s.length ++ s) (by omega) (by omega) (by simp only [List.length_append]; omega)
  refine ⟨K1 + K2 + 1, fun k hk => ?_⟩
  obtain ⟨k, rfl⟩ : ∃ m, k = m + 1 := ⟨k - 1, by omega⟩
  have a1 := h1 k (by omega)
  have a2 := h2 k (by omega)
  dsimp only at a1 a2
  rw [encAll_one, Int.toNat_natCast] at a1
  simp only [varint_Texts.l0]
  have hw : IntKind.u64.wrap (s.length : Int) = (s.length : Int) := by rw [IntKind.wrap_u64]; omega
  rw [if_pos (by omega), if_pos (by omega), if_pos (by omega), hrd, hw, a1, Option.bind_some, if_pos (by rw [List.length_append]; omega), show wrap64 ((i : Int) + 1) = ((i + 1 : Nat) : Int) by unfold wrap64; omega, a2]
  simp [txts, txt]
theorem texts_f (l : List Int) (xs : List (List Int)) (hm : xs.length ≤ 140737488355328) (hl : l.length + lsum (fun s => s.length + 10) xs < 140737488355328 - 10) : Ev (fun k => varint_Texts.f k l xs) (l ++ txts xs) := by
 have h := texts_l0 xs hm xs.length 0 l (by omega) (by omega) (by simpa using hl)
 rw [List.drop_zero] at h
 refine Ev.congr (fun k => ?_) h
 show varint_Texts.f k l xs = _
 unfold varint_Texts.f
 rw [clone_f l (by omega)]
 rfl
end Go.Proofs.Ytkddlhcpplkpbaa.V
end
section
namespace Go.Proofs.Ytkddlhcpplkpbaa.V
open WB Go Go.RowKit Go.Proofs.Ytkddlhcpplkpbaa.G Go.Proofs.YtkddlhcpplkpbaaW.PrintWords Go.Proofs.YtkddlhcpplkpbaaW.PrintLast Go.Proofs.YtkddlhcpplkpbaaW.PrintMore
theorem reftexts_f (l s : List Int) (hl : l.length + s.length + 20 < 140737488355328) : Ev (fun k => waybillref01_Texts.f k l s) (l ++ txt s) := by
 have hel := enc_len_10 (n := s.length) (by omega)
 obtain ⟨K, h⟩ := refput_f l (s.length : Int) (by omega) (by omega) (by omega)
 refine ⟨K, fun k hk => ?_⟩
 have a := h k hk
 dsimp only at a ⊢
 unfold waybillref01_Texts.f
 have hw : IntKind.u64.wrap (s.length : Int) = (s.length : Int) := by rw [IntKind.wrap_u64]; omega
 rw [Int.toNat_natCast] at a
 rw [hw, a, Option.bind_some, if_pos (by rw [List.length_append]; omega)]
 simp [txt]
end Go.Proofs.Ytkddlhcpplkpbaa.V
end
section
namespace Go.Proofs.Ytkddlhcpplkpbaa.V
open WB Go Go.RowKit Go.Proofs.Ytkddlhcpplkpbaa.G Go.Proofs.YtkddlhcpplkpbaaW.PrintWords Go.Proofs.YtkddlhcpplkpbaaW.PrintLast Go.Proofs.YtkddlhcpplkpbaaW.PrintMore
/-- The text that stands at a place, and where it ends. -/
def textAt (l : List Int) (a most : Int) : List Int × Int × Int :=
 if (getAt l a).2.2 = 0 then
  if most < 0 ∨ most < (getAt l a).1 then ([], 0, 5) else if (l.length : Int) - (getAt l a).2.1 < (getAt l a).1 then ([], 0, 8) else ((l.drop (getAt l a).2.1.toNat).take (getAt l a).1.toNat, (getAt l a).2.1 + (getAt l a).1, 0)
 else ([], 0, (getAt l a).2.2)
theorem take_drop_ (l : List Int) (p n : Nat) : (l.take (p + n)).drop p = (l.drop p).take n := by
 rw [List.drop_take]
 congr 1
 omega
theorem text_j0 (l : List Int) (hl : l.length < 140737488355328) (p : Nat) (hp : p ≤ l.length) (n : Nat) (hn : n < 18446744073709551616) (k : Nat) (hk : 1 ≤ k) :
   varint_Text.j0 k l p n false = (if (l.length : Int) - p < n then some ([], 0, 8) else some ((l.drop p).take n, (p : Int) + n, 0)) ∧
   waybillref01_Text.j0 k l n p false = (if (l.length : Int) - p < n then some ([], 0, 8) else some ((l.drop p).take n, (p : Int) + n, 0)) := by
 obtain ⟨k, rfl⟩ : ∃ m, k = m + 1 := ⟨k - 1, by omega⟩
 have e1 : IntKind.u64.wrap (wrap64 ((l.length : Int) - p)) = (l.length : Int) - p := by rw [IntKind.wrap_u64]; unfold wrap64; omega
 refine ⟨?_, ?_⟩
 · simp only [varint_Text.j0, e1]
   rw [if_neg (by simp)]
   by_cases h : (l.length : Int) - p < n
   · rw [if_pos h, if_pos (by omega)]
   · have hnl : n ≤ l.length := by omega
     have e2 : wrap64 ((p : Int) + wrap64 n) = ((p + n : Nat) : Int) := by unfold wrap64; omega
     rw [if_neg h, e2, if_pos (by omega), if_pos (by omega), if_pos (by omega), if_neg (by omega)]
     rw [Int.toNat_natCast, Int.toNat_natCast, take_drop_]
     have h3 : ((l.drop p).take n).length < 140737488355328 := by rw [List.length_take, List.length_drop]; omega
     rw [clone_f _ h3]
     simp
 · simp only [waybillref01_Text.j0, e1]
   rw [if_neg (by simp)]
   by_cases h : (l.length : Int) - p < n
   · rw [if_pos h, if_pos (by omega)]
   · have hnl : n ≤ l.length := by omega
     have e2 : wrap64 ((p : Int) + wrap64 n) = ((p + n : Nat) : Int) := by unfold wrap64; omega
     rw [if_neg h, e2, if_pos (by omega), if_pos (by omega), if_pos (by omega), if_neg (by omega)]
     rw [Int.toNat_natCast, Int.toNat_natCast, take_drop_]
     have h3 : ((l.drop p).take n).length < 140737488355328 := by rw [List.length_take, List.length_drop]; omega
     rw [copied_f _ h3]
     simp
theorem text_f (l : List Int) (hok : octetsOk l = true) (hl : l.length < 140737488355328) (a most : Int) (hm0 : -9223372036854775808 ≤ most) (hm1 : most < 9223372036854775808) (k : Nat) (hk : 1 ≤ k) :
   varint_Text.f k l a most = some (textAt l a most) ∧ waybillref01_Text.f k l a most = some (textAt l a most) := by
 unfold varint_Text.f waybillref01_Text.f
 rw [get_f l a hok, refget_f l a hok, Option.bind_some, Option.bind_some]
 unfold textAt
 rcases getAt_cases hok a with ⟨e, he, hz⟩ | ⟨q, x, rest, e1, e2, e3, e4⟩
 · rw [he]
   have hne : ¬ e = 0 := by omega
   dsimp only
   rw [if_neg hne, if_neg hne, if_neg hne]
   exact ⟨rfl, rfl⟩
 · rw [e4]
   dsimp only
   have hlen : l.length = x.length + ((enc q).length + rest.length) := by rw [e1]; simp
   have hp : a + ((enc q).length : Int) = ((x.length + (enc q).length : Nat) : Int) := by omega
   rw [hp]
   obtain ⟨p, hpp⟩ : ∃ p, p = x.length + (enc q).length := ⟨_, rfl⟩
   rw [← hpp]
   have hpl : p ≤ l.length := by omega
   obtain ⟨j1, j2⟩ := text_j0 l hl p hpl q e3 k hk
   rw [if_pos rfl, if_pos rfl, if_pos rfl]
   have jt : varint_Text.j0 k l p q true = some ([], 0, 5) ∧ waybillref01_Text.j0 k l q p true = some ([], 0, 5) := by
     obtain ⟨k, rfl⟩ : ∃ m, k = m + 1 := ⟨k - 1, by omega⟩
     simp only [varint_Text.j0, waybillref01_Text.j0]
     exact ⟨rfl, rfl⟩
   obtain ⟨t1, t2⟩ := jt
   by_cases hneg : most < 0
   · rw [if_pos hneg, if_pos hneg, if_pos (.inl hneg), t1, t2]
     exact ⟨rfl, rfl⟩
   · rw [if_neg hneg, if_neg hneg]
     have e5 : IntKind.u64.wrap most = most := by rw [IntKind.wrap_u64]; omega
     rw [e5]
     by_cases hbig : most < q
     · rw [if_pos (.inr hbig), decide_eq_true (show (q : Int) > most from hbig), t1, t2]
       exact ⟨rfl, rfl⟩
     · rw [if_neg (by omega), decide_eq_false (show ¬ (q : Int) > most by omega), j1, j2, Int.toNat_natCast, Int.toNat_natCast]
       refine ⟨?_, ?_⟩ <;> (split <;> rfl)
end Go.Proofs.Ytkddlhcpplkpbaa.V
end
