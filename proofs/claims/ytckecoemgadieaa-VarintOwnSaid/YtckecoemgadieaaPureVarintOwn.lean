/- VarintOwn: what is told shares nothing with what was handed in. No program here. -/
import Derived.Test.YtckecoemgadieaaQBase
import Derived.Test.YtckecoemgadieaaPVarint
import Derived.Test.YtckecoemgadieaaPVarintG
import Derived.Test.YtckecoemgadieaaPVarintText
import Derived.Test.YtckecoemgadieaaGx14
import Derived.Test.YtckecoemgadieaaGx20
set_option linter.unusedVariables false
set_option linter.unusedSimpArgs false
namespace Go.Proofs.Ytckecoemgadieaa.V
open WB Go Go.RowKit Go.Proofs.Ytckecoemgadieaa.G Go.Proofs.YtckecoemgadieaaW.PrintWords Go.Proofs.YtckecoemgadieaaW.PrintLast Go.Proofs.YtckecoemgadieaaW.PrintMore
theorem spoil_l0 : ∀ (d i : Nat) (l : List Int), l.length ≤ 140737488355328 → l.length - i = d → i ≤ l.length → ∃ r, Ev (fun k => waybillplain_Spoil.l0 k l i) r := by
  intro d
  induction d with
  | zero =>
    intro i l hl hd hi
    refine ⟨l, 1, fun k hk => ?_⟩
    obtain ⟨k, rfl⟩ : ∃ m, k = m + 1 := ⟨k - 1, by omega⟩
    simp only [waybillplain_Spoil.l0]
    rw [if_neg (by omega)]
  | succ d ih =>
    intro i l hl hd hi
    obtain ⟨r, hr⟩ := ih (i + 1) (l.set i 7) (by rw [List.length_set]; omega) (by rw [List.length_set]; omega) (by rw [List.length_set]; omega)
    refine ⟨r, Ev.step (fun k => ?_) hr⟩
    show waybillplain_Spoil.l0 (k + 1) l i = _
    simp only [waybillplain_Spoil.l0]
    rw [if_pos (by omega), if_pos (by omega), Int.toNat_natCast, show wrap64 ((i : Int) + 1) = ((i + 1 : Nat) : Int) by unfold wrap64; omega]
theorem spoil_f (l : List Int) (hl : l.length ≤ 140737488355328) : ∃ r, Ev (fun k => waybillplain_Spoil.f k l) r := spoil_l0 l.length 0 l hl (by omega) (by omega)
end Go.Proofs.Ytckecoemgadieaa.V
namespace Go.Proofs.Ytckecoemgadieaa.Pure
open WB Go Go.RowKit Go.Proofs.Ytckecoemgadieaa.G Go.Proofs.Ytckecoemgadieaa.V Go.Proofs.YtckecoemgadieaaW.PrintWords Go.Proofs.YtckecoemgadieaaW.PrintLast Go.Proofs.YtckecoemgadieaaW.PrintMore
theorem VarintOwn : waybilllaw01_VarintOwn.Pure := by
  intro b n a _ hb hw hn ha
  have hok := ok_of_wf hw
  have hn := u64_of_wf hn
  obtain ⟨K1, h1⟩ := alive_f
  obtain ⟨K2, h2⟩ := put_f b [n] (by simpa using hn) (by simp; omega)
  obtain ⟨s, K3, h3⟩ := spoil_f b (by omega)
  obtain ⟨K4, h4⟩ := refput_f b n hn.1 hn.2 (by omega)
  obtain ⟨K, hK⟩ : ∃ K, K = K1 + K2 + K3 + K4 + 1 := ⟨_, rfl⟩
  have a1 := h1 K (by omega)
  have a2 := h2 K (by omega)
  have a3 := h3 K (by omega)
  have a4 := h4 K (by omega)
  obtain ⟨t1, t2⟩ := text_f b hok (by omega) a 1048576 (by omega) (by omega) K (by omega)
  dsimp only at a1 a2 a3 a4
  rw [encAll_one] at a2
  refine ⟨K, ?_⟩
  unfold waybilllaw01_VarintOwn.f
  rw [a1, Option.bind_some, if_pos rfl, copybytes_f b (by omega), Option.bind_some, a2, Option.bind_some, t1, Option.bind_some, a3, Option.bind_some, t2, Option.bind_some, a4, Option.bind_some, same_self, Option.bind_some, if_pos rfl, same_self, Option.bind_some, if_pos rfl]
  unfold waybilllaw01_num.f
  simp
end Go.Proofs.Ytckecoemgadieaa.Pure
