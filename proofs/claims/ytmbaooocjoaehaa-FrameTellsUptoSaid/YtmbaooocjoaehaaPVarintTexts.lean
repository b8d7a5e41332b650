/- Texts with their lengths, behind octets. -/
import Derived.Test.YtmbaooocjoaehaaQBase
import Derived.Test.YtmbaooocjoaehaaQOpen
import Derived.Test.YtmbaooocjoaehaaPVarint
import Derived.Test.YtmbaooocjoaehaaPVarintG
import Derived.Test.YtmbaooocjoaehaaGx2
set_option linter.unusedVariables false
set_option linter.unusedSimpArgs false
namespace Go.Proofs.Ytmbaooocjoaehaa.V
open WB Go Go.RowKit Go.Proofs.Ytmbaooocjoaehaa.G Go.Proofs.YtmbaooocjoaehaaW.PrintWords Go.Proofs.YtmbaooocjoaehaaW.PrintLast Go.Proofs.YtmbaooocjoaehaaW.PrintMore
/-- A text with its length. -/
def txt (s : List Int) : List Int := enc s.length ++ s
def txts (xs : List (List Int)) : List Int := (xs.map txt).flatten
theorem txt_len {s : List Int} (h : s.length < 18446744073709551616) : (txt s).length ≤ s.length + 10 := by
  unfold txt
  rw [List.length_append]
  have := enc_len_10 h
  omega
theorem texts_l0 (xs : List (List Int)) (hm : xs.length ≤ 140737488355328) : ∀ (d i : Nat) (x5 : List Int), xs.length - i = d → i ≤ xs.length → x5.length + lsum (fun s => s.length + 10) (xs.drop i) < 140737488355328 - 10 →
    Ev (fun k => varint_Texts.l0 k x5 xs (xs.length : Int) (i : Int)) (x5 ++ txts (xs.drop i)) := by
  intro d
  induction d with
  | zero =>
    intro i x5 hd hi hl
    refine ⟨1, fun k hk => ?_⟩
    obtain ⟨k, rfl⟩ : ∃ m, k = m + 1 := ⟨k - 1, by omega⟩
    simp only [varint_Texts.l0]
    rw [if_neg (by omega), List.drop_of_length_le (by omega)]
    simp [txts]
  | succ d ih =>
    intro i x5 hd hi hl
    have hlt : i < xs.length := by omega
    have hdr : xs.drop i = xs[i] :: xs.drop (i + 1) := by rw [List.drop_eq_getElem_cons hlt]
    rw [hdr] at hl ⊢
    simp only [lsum] at hl
    have hrd : rd_L1 xs (i : Int) = xs[i] := by simp [rd_L1, List.getElem?_eq_getElem hlt]
    obtain ⟨s, hs⟩ : ∃ s, s = xs[i] := ⟨_, rfl⟩
    rw [← hs] at hl hrd ⊢
    have hsl : s.length < 18446744073709551616 := by omega
    have hel := enc_len_10 hsl
    obtain ⟨K1, h1⟩ := put_f x5 [(s.length : Int)] (by simp; omega) (by simp; omega)
    obtain ⟨K2, h2⟩ := ih (i + 1) (x5 ++ enc s.length ++ s) (by omega) (by omega) (by simp only [List.length_append]; omega)
    refine ⟨K1 + K2 + 1, fun k hk => ?_⟩
    obtain ⟨k, rfl⟩ : ∃ m, k = m + 1 := ⟨k - 1, by omega⟩
    have a1 := h1 k (by omega)
    have a2 := h2 k (by omega)
    dsimp only at a1 a2
    rw [encAll_one, Int.toNat_natCast] at a1
    simp only [varint_Texts.l0]
    have hw : IntKind.u64.wrap (s.length : Int) = (s.length : Int) := by rw [IntKind.wrap_u64]; omega
    rw [if_pos (by omega), if_pos (by omega), if_pos (by omega), hrd, hw, a1, Option.bind_some, if_pos (by rw [List.length_append]; omega), show wrap64 ((i : Int) + 1) = ((i + 1 : Nat) : Int) by unfold wrap64; omega, a2]
    simp [txts, txt]
theorem texts_f (l : List Int) (xs : List (List Int)) (hm : xs.length ≤ 140737488355328) (hl : l.length + lsum (fun s => s.length + 10) xs < 140737488355328 - 10) : Ev (fun k => varint_Texts.f k l xs) (l ++ txts xs) := by
  have h := texts_l0 xs hm xs.length 0 l (by omega) (by omega) (by simpa using hl)
  rw [List.drop_zero] at h
  refine Ev.congr (fun k => ?_) h
  show varint_Texts.f k l xs = _
  unfold varint_Texts.f
  rw [clone_f l (by omega)]
  rfl
end Go.Proofs.Ytmbaooocjoaehaa.V
