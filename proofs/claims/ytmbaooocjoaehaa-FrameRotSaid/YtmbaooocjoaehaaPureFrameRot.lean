/- FrameRot: a frame of which one octet, behind those of its length, is another one is not taken. No program here. -/
import Derived.Test.YtmbaooocjoaehaaQBase
import Derived.Test.YtmbaooocjoaehaaQOpen
import Derived.Test.YtmbaooocjoaehaaQCrc
import Derived.Test.YtmbaooocjoaehaaPVarint
import Derived.Test.YtmbaooocjoaehaaPVarintG
import Derived.Test.YtmbaooocjoaehaaPVarintTexts
import Derived.Test.YtmbaooocjoaehaaPCrcUn
import Derived.Test.YtmbaooocjoaehaaPCrcUnF
import Derived.Test.YtmbaooocjoaehaaPFrame
import Derived.Test.YtmbaooocjoaehaaPFrameGet
import Derived.Test.YtmbaooocjoaehaaPFrameAlive
import Derived.Test.YtmbaooocjoaehaaPSame
import Derived.Test.YtmbaooocjoaehaaGx5
set_option linter.unusedVariables false
set_option linter.unusedSimpArgs false
namespace Go.Proofs.Ytmbaooocjoaehaa.Pure
open WB Go Go.RowKit Go.Proofs.Ytmbaooocjoaehaa.G Go.Proofs.Ytmbaooocjoaehaa.V Go.Proofs.YtmbaooocjoaehaaW.PrintWords Go.Proofs.YtmbaooocjoaehaaW.PrintLast Go.Proofs.YtmbaooocjoaehaaW.PrintMore
theorem xor_other (x t : Int) (hx : 0 ≤ x ∧ x < 256) (ht : 0 ≤ t ∧ t < 256) (h : t ≠ 0) : 0 ≤ Go.bits .xor .u8 x t ∧ Go.bits .xor .u8 x t < 256 ∧ Go.bits .xor .u8 x t ≠ x := by
  obtain ⟨n, rfl⟩ := Int.eq_ofNat_of_zero_le hx.1
  obtain ⟨m, rfl⟩ := Int.eq_ofNat_of_zero_le ht.1
  have h1 := u8_xor_nat n m (by omega) (by omega)
  have h2 : n ^^^ m < 256 := Nat.xor_lt_two_pow (n := 8) (by omega) (by omega)
  rw [h1]
  refine ⟨by omega, by omega, fun he => h ?_⟩
  have h3 : n ^^^ m = n := by omega
  have h4 : n ^^^ (n ^^^ m) = n ^^^ n := by rw [h3]
  rw [← Nat.xor_assoc, Nat.xor_self, Nat.zero_xor] at h4
  omega
theorem tmod_in (x N : Int) (hN : 0 < N) (hb : N ≤ 5000) : 0 ≤ Int.tmod (wrap64 (Int.tmod x N + N)) N ∧ Int.tmod (wrap64 (Int.tmod x N + N)) N < N := by
  have h1 := Int.tmod_lt_of_pos x hN
  have h2 : -N < Int.tmod x N := by
    rcases Int.le_total 0 x with h | h
    · have := Int.tmod_nonneg N h
      omega
    · have := Int.tmod_lt_of_pos (-x) hN
      rw [Int.neg_tmod] at this
      omega
  have hw : wrap64 (Int.tmod x N + N) = Int.tmod x N + N := by unfold wrap64; omega
  rw [hw]
  exact ⟨Int.tmod_nonneg _ (by omega), Int.tmod_lt_of_pos _ hN⟩
theorem FrameRot : waybilllaw03_FrameRot.Pure := by
  intro p a t _ hl hw _ hwt
  have hok := ok_of_wf hw
  have ht : 0 ≤ t ∧ t < 256 := by
    have := ok_of_wf (l := [t]) (by simpa using hwt)
    simpa [octetsOk] using this
  obtain ⟨K2, h2⟩ := fput_f [] [p] (by simpa using hok) (by simp)
  rw [put_one, List.nil_append] at h2
  by_cases hc : checkP p = 0
  · have hcl := check_ok hc
    have hfl := frm_len hc
    rw [if_pos hc] at h2
    by_cases t0 : t = 0
    · refine ⟨K2 + 1, ?_⟩
      have a2 := h2 (K2 + 1) (by omega)
      dsimp only at a2
      unfold waybilllaw03_FrameRot.f
      rw [alive_f, Option.bind_some, if_pos rfl, a2, Option.bind_some, num_f, Option.bind_some, if_pos rfl, t0, waybilllaw03_FrameRot.j0, if_pos (show ((0 : Int) == 0) = true from rfl), num_f, Option.bind_some, if_pos rfl]
    · obtain ⟨h, hh⟩ : ∃ h, h = (enc p.length).length := ⟨_, rfl⟩
      have hL : ((frm p).length : Int) = h + p.length + 4 := by
        rw [hh]; unfold frm txt; rw [List.length_append, List.length_append, sum4_len]; push_cast; omega
      have hhl : h ≤ 10 := by rw [hh]; exact enc_len_10 (by omega)
      obtain ⟨i0, hi0⟩ : ∃ i, i = Int.tmod (wrap64 (Int.tmod a (p.length + 4 : Int) + (p.length + 4 : Int))) (p.length + 4 : Int) := ⟨_, rfl⟩
      have hti := tmod_in a (p.length + 4 : Int) (by omega) (by omega)
      rw [← hi0] at hti
      obtain ⟨i, hie⟩ := Int.eq_ofNat_of_zero_le hti.1
      have hii : i < p.length + 4 := by omega
      have q1 : ¬ ((p.length : Int) + 4 = 0) := by omega
      have q2 : (0 : Int) ≤ ((h + i : Nat) : Int) := by omega
      have q3 : ((h + i : Nat) : Int) < ((frm p).length : Int) := by omega
      have v1 : wrap64 (((frm p).length : Int) - (p.length : Int)) = h + 4 := by rw [hL]; unfold wrap64; omega
      have v2 : wrap64 (((h : Int) + 4) - 4) = h := by unfold wrap64; omega
      have v3 : wrap64 (((frm p).length : Int) - (h : Int)) = (p.length + 4 : Int) := by rw [hL]; unfold wrap64; omega
      have v4 : wrap64 ((h : Int) + (i : Int)) = ((h + i : Nat) : Int) := by unfold wrap64; omega
      have hfe : frm p = enc p.length ++ (p ++ sum4 (txt p)) := by simp [frm, txt]
      have hrd : rd (frm p) ((h + i : Nat) : Int) = (p ++ sum4 (txt p)).getD i 0 := by
        unfold rd
        rw [Int.toNat_natCast, hfe, getD_right (enc p.length) (p ++ sum4 (txt p)) (h + i) (by rw [hh]; exact Nat.le_add_right _ _), hh, Nat.add_sub_cancel_left]
      have hrok : octetsOk (p ++ sum4 (txt p)) = true := by rw [octetsOk_append, hok, sum4_ok]; rfl
      obtain ⟨x0, x1, x2⟩ := xor_other _ t (octetsOk_get hrok i) ht t0
      have hset : (frm p).set (h + i) (Go.bits .xor .u8 ((p ++ sum4 (txt p)).getD i 0) t) = enc p.length ++ (p ++ sum4 (txt p)).set i (Go.bits .xor .u8 ((p ++ sum4 (txt p)).getD i 0) t) := by
        rw [hfe, List.set_append_right (s := enc p.length) (t := p ++ sum4 (txt p)) (h + i) _ (by rw [hh]; exact Nat.le_add_right _ _), hh, Nat.add_sub_cancel_left]
      obtain ⟨v, hv⟩ : ∃ v, v = Go.bits .xor .u8 ((p ++ sum4 (txt p)).getD i 0) t := ⟨_, rfl⟩
      rw [← hv] at x0 x1 x2 hset
      have hgt := get_turned p hok hc i hii v x0 x1 x2
      have hwok : octetsOk (enc p.length ++ (p ++ sum4 (txt p)).set i v) = true := by
        rw [octetsOk_append, enc_ok, Bool.true_and]
        exact octetsOk_set hrok x0 x1
      have hwl : (enc p.length ++ (p ++ sum4 (txt p)).set i v).length < 140737488350000 := by
        rw [← hset, List.length_set]
        exact Nat.lt_of_le_of_lt hfl (by decide)
      obtain ⟨wt, hwt2⟩ : ∃ wt, wt = enc p.length ++ (p ++ sum4 (txt p)).set i v := ⟨_, rfl⟩
      rw [← hwt2] at hwok hwl hgt hset
      obtain ⟨K3, h3⟩ := fget_f wt hwok hwl
      rw [hgt] at h3
      refine ⟨K2 + K3 + 1, ?_⟩
      have a2 := h2 (K2 + K3 + 1) (by omega)
      have a3 := h3 (K2 + K3) (by omega)
      dsimp only at a2 a3
      unfold waybilllaw03_FrameRot.f
      rw [alive_f, Option.bind_some, if_pos rfl, a2, Option.bind_some, num_f, Option.bind_some, if_pos rfl, show (t == 0) = false by simpa using t0, waybilllaw03_FrameRot.j0, if_neg (by simp)]
      simp only [v1, v2, v3, ← hi0, hie, v4, Int.toNat_natCast, hrd]
      rw [if_neg q1, if_pos q2, if_pos q3, ← hv, hset, a3, Option.bind_some, num_f, Option.bind_some, if_pos rfl, if_pos rfl]
      rfl
  · rw [if_neg hc] at h2
    refine ⟨K2 + 1, ?_⟩
    have a2 := h2 (K2 + 1) (by omega)
    dsimp only at a2
    unfold waybilllaw03_FrameRot.f
    rw [alive_f, Option.bind_some, if_pos rfl, a2, Option.bind_some, num_f, Option.bind_some, if_neg hc, waybilllaw03_FrameRot.j0, if_pos rfl, num_f, Option.bind_some, if_neg hc]
    rfl
end Go.Proofs.Ytmbaooocjoaehaa.Pure
