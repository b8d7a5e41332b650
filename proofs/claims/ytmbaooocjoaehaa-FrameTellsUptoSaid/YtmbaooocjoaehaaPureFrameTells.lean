/- FrameTells: frames of any payloads, and any octets read as a frame, and as frames, are as the page says; they stay. No program here. -/
import Derived.Test.YtmbaooocjoaehaaQBase
import Derived.Test.YtmbaooocjoaehaaQOpen
import Derived.Test.YtmbaooocjoaehaaQCrc
import Derived.Test.YtmbaooocjoaehaaPVarint
import Derived.Test.YtmbaooocjoaehaaPVarintG
import Derived.Test.YtmbaooocjoaehaaPVarintTexts
import Derived.Test.YtmbaooocjoaehaaPVarintRefTexts
import Derived.Test.YtmbaooocjoaehaaPCrcUn
import Derived.Test.YtmbaooocjoaehaaPCrcUnF
import Derived.Test.YtmbaooocjoaehaaPCrcRef
import Derived.Test.YtmbaooocjoaehaaPFrame
import Derived.Test.YtmbaooocjoaehaaPFrameGet
import Derived.Test.YtmbaooocjoaehaaPFrameAlive
import Derived.Test.YtmbaooocjoaehaaPFrameRef
import Derived.Test.YtmbaooocjoaehaaPSame
import Derived.Test.YtmbaooocjoaehaaGx10
set_option linter.unusedVariables false
set_option linter.unusedSimpArgs false
namespace Go.Proofs.Ytmbaooocjoaehaa.Pure
open WB Go Go.RowKit Go.Proofs.Ytmbaooocjoaehaa.G Go.Proofs.Ytmbaooocjoaehaa.V Go.Proofs.YtmbaooocjoaehaaW.PrintWords Go.Proofs.YtmbaooocjoaehaaW.PrintLast Go.Proofs.YtmbaooocjoaehaaW.PrintMore
theorem tells_j (b p : List Int) (hok : octetsOk b = true) (hl : b.length < 5864062014805) (x : List Int) (e : Int) : Ev (fun k => waybilllaw03_FrameTells.j0 k b p b p x e x e) true := by
  obtain ⟨K3, h3⟩ := fget_f b hok (by omega)
  obtain ⟨K4, h4⟩ := refget_l b hok (by omega)
  obtain ⟨r, ⟨K5, h5⟩, ⟨K6, h6⟩, hr⟩ := scan_same b hok hl
  obtain ⟨K7, h7⟩ := samelist_self r.1 (by omega)
  refine ⟨K3 + K4 + K5 + K6 + K7 + 2, fun k hk => ?_⟩
  obtain ⟨k, rfl⟩ : ∃ m, k = m + 2 := ⟨k - 2, by omega⟩
  have a3 := h3 (k + 1) (by omega)
  have a4 := h4 (k + 1) (by omega)
  have a5 := h5 (k + 1) (by omega)
  have a6 := h6 (k + 1) (by omega)
  have a7 := h7 (k + 1) (by omega)
  dsimp only at a3 a4 a5 a6 a7
  show waybilllaw03_FrameTells.j0 (k + 1 + 1) b p b p x e x e = _
  rw [waybilllaw03_FrameTells.j0, a3, Option.bind_some, a4, Option.bind_some, a5, Option.bind_some, a6, Option.bind_some, same_self, Option.bind_some, if_pos rfl, num_f, Option.bind_some, if_pos rfl, same_self, Option.bind_some, if_pos rfl, if_pos rfl, num_f, Option.bind_some, if_pos rfl, a7, Option.bind_some, if_pos rfl, if_pos rfl, num_f, Option.bind_some, show (r.2.2 != r.2.2) = false by simp, waybilllaw03_FrameTells.j1, if_neg (by simp), same_self, Option.bind_some, if_pos rfl, same_self, Option.bind_some, if_pos rfl, alive_f]
  rfl
theorem FrameTells (b p q : List Int) (hw0 : ∀ x ∈ b, (Lit.int .u8 x).wf = true) (hw1 : ∀ x ∈ p, (Lit.int .u8 x).wf = true) (hw2 : ∀ x ∈ q, (Lit.int .u8 x).wf = true)
    (_ : b.length * 1 ≤ reachBytes ∧ ∀ x ∈ b, True) (_ : p.length * 1 ≤ reachBytes ∧ ∀ x ∈ p, True) (_ : q.length * 1 ≤ reachBytes ∧ ∀ x ∈ q, True)
    (hb : (lsum (fun _ => 1) b + 1) + ((lsum (fun _ => 1) p + 1) + ((lsum (fun _ => 1) q + 1) + 0)) ≤ 1048576) : ∃ k, waybilllaw03_FrameTells.f k b p q = some true := by
  rw [lsum_one, lsum_one, lsum_one] at hb
  have hok := ok_of_wf hw0
  have hok1 := ok_of_wf hw1
  have hok2 := ok_of_wf hw2
  obtain ⟨K0, h0⟩ := fput_f b [p, q] (by simp [hok1, hok2]) (by simp; omega)
  obtain ⟨K1, h1⟩ := refput_one b p hok1 (by omega)
  rw [putF] at h0
  by_cases hc : checkP p = 0
  · have hfl := frm_len hc
    obtain ⟨K2, h2⟩ := refput_one (b ++ frm p) q hok2 (by rw [List.length_append]; omega)
    rw [if_pos hc, put_one] at h0
    rw [if_pos hc] at h1
    obtain ⟨z, hz⟩ : ∃ z, z = if checkP q = 0 then (b ++ frm p ++ frm q, (0 : Int)) else ([], checkP q) := ⟨_, rfl⟩
    rw [← hz] at h0 h2
    clear hz
    obtain ⟨x, e⟩ := z
    obtain ⟨K3, h3⟩ := tells_j b p hok (by omega) x e
    refine ⟨K0 + K1 + K2 + K3, ?_⟩
    have a0 := h0 (K0 + K1 + K2 + K3) (by omega)
    have a1 := h1 (K0 + K1 + K2 + K3) (by omega)
    have a2 := h2 (K0 + K1 + K2 + K3) (by omega)
    have a3 := h3 (K0 + K1 + K2 + K3) (by omega)
    dsimp only at a0 a1 a2 a3
    unfold waybilllaw03_FrameTells.f
    rw [copybytes_f b (by omega), Option.bind_some, copybytes_f p (by omega), Option.bind_some, a0, Option.bind_some, a1, Option.bind_some, if_pos rfl, a2, Option.bind_some]
    exact a3
  · rw [if_neg hc] at h0 h1
    obtain ⟨K3, h3⟩ := tells_j b p hok (by omega) [] (checkP p)
    refine ⟨K0 + K1 + K3, ?_⟩
    have a0 := h0 (K0 + K1 + K3) (by omega)
    have a1 := h1 (K0 + K1 + K3) (by omega)
    have a3 := h3 (K0 + K1 + K3) (by omega)
    dsimp only at a0 a1 a3
    unfold waybilllaw03_FrameTells.f
    rw [copybytes_f b (by omega), Option.bind_some, copybytes_f p (by omega), Option.bind_some, a0, Option.bind_some, a1, Option.bind_some, if_neg hc]
    exact a3
end Go.Proofs.Ytmbaooocjoaehaa.Pure
