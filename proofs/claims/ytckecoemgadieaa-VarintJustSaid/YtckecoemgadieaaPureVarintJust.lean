/- VarintJust: octets that are taken as numbers are just what putting these makes. No program here. -/
import Derived.Test.YtckecoemgadieaaQBase
import Derived.Test.YtckecoemgadieaaPVarint
import Derived.Test.YtckecoemgadieaaPVarintG
import Derived.Test.YtckecoemgadieaaPVarintAll
import Derived.Test.YtckecoemgadieaaGx22
set_option linter.unusedVariables false
set_option linter.unusedSimpArgs false
namespace Go.Proofs.Ytckecoemgadieaa.Pure
open WB Go Go.RowKit Go.Proofs.Ytckecoemgadieaa.G Go.Proofs.Ytckecoemgadieaa.V Go.Proofs.YtckecoemgadieaaW.PrintWords Go.Proofs.YtckecoemgadieaaW.PrintLast Go.Proofs.YtckecoemgadieaaW.PrintMore

theorem just_l0 (b l : List Int) (hx : ∀ x ∈ l, 0 ≤ x ∧ x < 18446744073709551616) (hl : l.length ≤ 4096) (he : encAll l = b) : ∀ (d i : Nat), l.length - i = d → i ≤ l.length →
    Ev (fun k => waybilllaw01_VarintJust.l0 k b l (encAll (l.take i)) i) true := by
  intro d
  induction d with
  | zero =>
    intro i hd hi
    refine ⟨1, fun k hk => ?_⟩
    obtain ⟨k, rfl⟩ : ∃ m, k = m + 1 := ⟨k - 1, by omega⟩
    simp only [waybilllaw01_VarintJust.l0]
    rw [if_neg (by omega), List.take_of_length_le (by omega), he, same_self]
    rfl
  | succ d ih =>
    intro i hd hi
    have hlt : i < l.length := by omega
    have hm := hx _ (List.getElem_mem hlt)
    have hrd : rd l (i : Int) = l[i] := by simp [rd, List.getElem?_eq_getElem hlt]
    have hlen : ∀ m : Nat, (encAll (l.take m)).length ≤ 10 * m := by
      intro m
      induction m with
      | zero => simp [encAll]
      | succ m ihm =>
        rcases Nat.lt_or_ge m l.length with h | h
        · rw [List.take_succ_eq_append_getElem h, encAll_append, encAll_one, List.length_append]
          have := hx _ (List.getElem_mem h)
          have := enc_len_10 (n := l[m].toNat) (by omega)
          omega
        · rw [List.take_of_length_le (by omega)]
          rw [List.take_of_length_le (by omega)] at ihm
          omega
    have hli := hlen i
    obtain ⟨K1, h1⟩ := put_f (encAll (l.take i)) [l[i]] (by simpa using hm) (by simp; omega)
    obtain ⟨K2, h2⟩ := ih (i + 1) (by omega) (by omega)
    have ht : encAll (l.take i) ++ encAll [l[i]] = encAll (l.take (i + 1)) := by rw [← encAll_append, ← List.take_succ_eq_append_getElem hlt]
    refine ⟨K1 + K2 + 1, fun k hk => ?_⟩
    obtain ⟨k, rfl⟩ : ∃ m, k = m + 1 := ⟨k - 1, by omega⟩
    have a1 := h1 k (by omega)
    have a2 := h2 k (by omega)
    dsimp only at a1 a2
    simp only [waybilllaw01_VarintJust.l0]
    rw [if_pos (by omega), if_pos (by omega), hrd, a1, Option.bind_some, ht, show wrap64 ((i : Int) + 1) = ((i + 1 : Nat) : Int) by unfold wrap64; omega]
    exact a2

theorem VarintJust : waybilllaw01_VarintJust.Pure := by
  intro b _ hb hw
  have hok := ok_of_wf hw
  obtain ⟨K1, h1⟩ := alive_f
  obtain ⟨r, hr, ⟨K2, h2⟩, _⟩ := all_f b hok (by omega)
  rcases hr with ⟨r0, re, rx, rl⟩ | ⟨r0, re⟩
  · obtain ⟨K3, h3⟩ := just_l0 b r.1 rx rl re r.1.length 0 (by omega) (by omega)
    refine ⟨K1 + K2 + K3, ?_⟩
    have a1 := h1 (K1 + K2 + K3) (by omega)
    have a2 := h2 (K1 + K2 + K3) (by omega)
    have a3 := h3 (K1 + K2 + K3) (by omega)
    dsimp only at a1 a2 a3
    unfold waybilllaw01_VarintJust.f waybilllaw01_num.f
    rw [a1, Option.bind_some, if_pos rfl, a2, Option.bind_some, Option.bind_some, if_pos r0]
    exact a3
  · refine ⟨K1 + K2, ?_⟩
    have a1 := h1 (K1 + K2) (by omega)
    have a2 := h2 (K1 + K2) (by omega)
    dsimp only at a1 a2
    unfold waybilllaw01_VarintJust.f waybilllaw01_num.f
    rw [a1, Option.bind_some, if_pos rfl, a2, Option.bind_some, Option.bind_some, if_neg r0, re]
    rfl
end Go.Proofs.Ytckecoemgadieaa.Pure
