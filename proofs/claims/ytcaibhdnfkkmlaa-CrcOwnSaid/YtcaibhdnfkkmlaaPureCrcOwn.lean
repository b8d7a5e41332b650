/- CrcOwn: octets with bits turned are their holder's; turned again they are what they were. No program here. -/
import Derived.Test.YtcaibhdnfkkmlaaQBase
import Derived.Test.YtcaibhdnfkkmlaaQCrc
import Derived.Test.YtcaibhdnfkkmlaaPCrcUn
import Derived.Test.YtcaibhdnfkkmlaaPCrcUnF
import Derived.Test.YtcaibhdnfkkmlaaGx14
import Derived.Test.YtcaibhdnfkkmlaaGx16
set_option linter.unusedVariables false
set_option linter.unusedSimpArgs false
namespace Go.Proofs.Ytcaibhdnfkkmlaa.V
open WB Go Go.RowKit Go.Proofs.Ytcaibhdnfkkmlaa.G Go.Proofs.YtcaibhdnfkkmlaaW.PrintWords Go.Proofs.YtcaibhdnfkkmlaaW.PrintLast Go.Proofs.YtcaibhdnfkkmlaaW.PrintMore
theorem spoil_l0 : ∀ (d i : Nat) (l : List Int), l.length ≤ 140737488355328 → l.length - i = d → i ≤ l.length → ∃ r, Ev (fun k => waybillplain_Spoil.l0 k l i) r := by
  intro d
  induction d with
  | zero =>
    intro i l hl hd hi
    refine ⟨l, 1, fun k hk => ?_⟩
    obtain ⟨k, rfl⟩ : ∃ m, k = m + 1 := ⟨k - 1, by omega⟩
    simp only [waybillplain_Spoil.l0]
    rw [if_neg (by omega)]
  | succ d ih =>
    intro i l hl hd hi
    obtain ⟨r, hr⟩ := ih (i + 1) (l.set i 7) (by rw [List.length_set]; omega) (by rw [List.length_set]; omega) (by rw [List.length_set]; omega)
    refine ⟨r, Ev.step (fun k => ?_) hr⟩
    show waybillplain_Spoil.l0 (k + 1) l i = _
    simp only [waybillplain_Spoil.l0]
    rw [if_pos (by omega), if_pos (by omega), Int.toNat_natCast, show wrap64 ((i : Int) + 1) = ((i + 1 : Nat) : Int) by unfold wrap64; omega]
theorem spoil_f (l : List Int) (hl : l.length ≤ 140737488355328) : ∃ r, Ev (fun k => waybillplain_Spoil.f k l) r := spoil_l0 l.length 0 l hl (by omega) (by omega)
end Go.Proofs.Ytcaibhdnfkkmlaa.V
namespace Go.Proofs.Ytcaibhdnfkkmlaa.Pure
open WB Go Go.RowKit Go.Proofs.Ytcaibhdnfkkmlaa.G Go.Proofs.Ytcaibhdnfkkmlaa.V Go.Proofs.YtcaibhdnfkkmlaaW.PrintWords Go.Proofs.YtcaibhdnfkkmlaaW.PrintLast Go.Proofs.YtcaibhdnfkkmlaaW.PrintMore
theorem CrcOwn : waybilllaw02_CrcOwn.Pure := by
  intro l at_ t _ hl hw ha ht
  have hok := ok_of_wf hw
  have ht' := u32_of_wf ht
  obtain ⟨s, K1, h1⟩ := spoil_f l (by omega)
  obtain ⟨K, hK⟩ : ∃ K, K = K1 + 40 := ⟨_, rfl⟩
  have a1 : waybillplain_Spoil.f K l = some s := h1 K (by omega)
  refine ⟨K, ?_⟩
  unfold waybilllaw02_CrcOwn.f waybilllaw02_alive.f
  rw [Option.bind_some, if_pos rfl, copybytes_f l (by omega), Option.bind_some]
  rcases unlike_f l at_ t hok (by omega) (i64_of_wf ha).1 ht'.1 ht'.2 K (by omega) with ⟨hc, hu⟩ | ⟨a, T, r, rfl, rfl, hT, h32, hu, htu⟩
  · rcases unlike_f [] at_ t rfl (by simp) (i64_of_wf ha).1 ht'.1 ht'.2 K (by omega) with ⟨_, hu2⟩ | ⟨a, T, r, _, _, _, h32, _, _⟩
    · rw [hu, Option.bind_some, a1, Option.bind_some, hu2, Option.bind_some, if_pos rfl]
      unfold waybilllaw02_num.f
      rw [Option.bind_some, if_neg (by omega)]
    · simp at h32
  · rcases unlike_f r (a : Int) (T : Int) htu.ok (by rw [htu.len]; omega) (by omega) (by omega) (by omega) K (by omega) with ⟨hc, _⟩ | ⟨a', T', r', e1, e2, _, _, hu2, htu2⟩
    · rw [htu.len] at hc
      omega
    · obtain rfl : a = a' := by omega
      obtain rfl : T = T' := by omega
      rw [hu, Option.bind_some, a1, Option.bind_some, hu2, Option.bind_some, if_pos rfl]
      unfold waybilllaw02_num.f
      rw [Option.bind_some, if_pos rfl, turned_twice htu htu2 hok, same_self, Option.bind_some]
end Go.Proofs.Ytcaibhdnfkkmlaa.Pure
