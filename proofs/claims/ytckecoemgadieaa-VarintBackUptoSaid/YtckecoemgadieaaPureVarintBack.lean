/- VarintBack: what is put is got, whatever stands ahead and behind. No program here. -/
import Derived.Test.YtckecoemgadieaaQBase
import Derived.Test.YtckecoemgadieaaQOpen
import Derived.Test.YtckecoemgadieaaPVarint
import Derived.Test.YtckecoemgadieaaPVarintG
import Derived.Test.YtckecoemgadieaaGx8
set_option linter.unusedVariables false
set_option linter.unusedSimpArgs false
namespace Go.Proofs.Ytckecoemgadieaa.Pure
open WB Go Go.RowKit Go.Proofs.Ytckecoemgadieaa.G Go.Proofs.Ytckecoemgadieaa.V Go.Proofs.YtckecoemgadieaaW.PrintWords Go.Proofs.YtckecoemgadieaaW.PrintLast Go.Proofs.YtckecoemgadieaaW.PrintMore
theorem VarintBack (a : List Int) (n : Int) (b : List Int) (hw0 : ∀ x ∈ a, (Lit.int .u8 x).wf = true) (hw1 : (Lit.int .u64 n).wf = true) (hw2 : ∀ x ∈ b, (Lit.int .u8 x).wf = true)
    (_ : a.length * 1 ≤ reachBytes ∧ ∀ x ∈ a, True) (_ : True) (_ : b.length * 1 ≤ reachBytes ∧ ∀ x ∈ b, True)
    (hb : (lsum (fun _ => 1) a + 1) + (1 + ((lsum (fun _ => 1) b + 1) + 0)) ≤ 1048576) : ∃ k, waybilllaw01_VarintBack.f k a n b = some true := by
  rw [lsum_one, lsum_one] at hb
  have ha := ok_of_wf hw0
  have hbk := ok_of_wf hw2
  have hn := u64_of_wf hw1
  obtain ⟨n, rfl⟩ := Int.eq_ofNat_of_zero_le hn.1
  have hn2 : n < 18446744073709551616 := by omega
  have hl := enc_len_10 hn2
  obtain ⟨K1, h1⟩ := alive_f
  obtain ⟨K2, h2⟩ := put_f a [(n : Int)] (by simp; omega) (by simp; omega)
  obtain ⟨K3, h3⟩ := size_f (n : Int) hn.1 hn.2
  obtain ⟨K, hK⟩ : ∃ K, K = K1 + K2 + K3 := ⟨_, rfl⟩
  have a1 := h1 K (by omega)
  have a2 := h2 K (by omega)
  have a3 := h3 K (by omega)
  dsimp only at a1 a2 a3
  rw [encAll_one, Int.toNat_natCast] at a2
  rw [Int.toNat_natCast] at a3
  have hg : varint_Get.f (a ++ enc n ++ b) a.length = some ((n : Int), (a.length + (enc n).length : Int), 0) := by
    rw [get_f _ _ (by rw [octetsOk_append, octetsOk_append, ha, enc_ok, hbk]; rfl), List.append_assoc, getAt_enc a n b hn2]
  refine ⟨K, ?_⟩
  unfold waybilllaw01_VarintBack.f waybilllaw01_num.f
  rw [a1, Option.bind_some, if_pos rfl, a2, Option.bind_some, if_pos (by simp; omega), Option.bind_some, hg, Option.bind_some, Option.bind_some, if_pos rfl, if_pos rfl, if_pos (by simp; unfold wrap64; omega), a3, Option.bind_some]
  have : wrap64 ((a.length : Int) + (enc n).length) = (a.length : Int) + (enc n).length := by unfold wrap64; omega
  simp [this]
end Go.Proofs.Ytckecoemgadieaa.Pure
