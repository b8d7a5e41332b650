/- VarintTells: a number put, any octets read at any place, sizes, and turned numbers, are as the page says; octets stay. No program here. -/
import Derived.Test.YtckecoemgadieaaQBase
import Derived.Test.YtckecoemgadieaaPVarint
import Derived.Test.YtckecoemgadieaaPVarintG
import Derived.Test.YtckecoemgadieaaPVarintAll
import Derived.Test.YtckecoemgadieaaPureVarintTurns
import Derived.Test.YtckecoemgadieaaGx27
import Derived.Test.YtckecoemgadieaaGx28
import Derived.Test.YtckecoemgadieaaGx29
import Derived.Test.YtckecoemgadieaaGx30
import Derived.Test.YtckecoemgadieaaGx31
set_option linter.unusedVariables false
set_option linter.unusedSimpArgs false
namespace Go.Proofs.Ytckecoemgadieaa.V
open WB Go Go.RowKit Go.Proofs.Ytckecoemgadieaa.G Go.Proofs.YtckecoemgadieaaW.PrintWords Go.Proofs.YtckecoemgadieaaW.PrintLast Go.Proofs.YtckecoemgadieaaW.PrintMore
theorem samenum_l0 (l : List Int) (hl : l.length ≤ 140737488355328) : ∀ (d i : Nat), l.length - i = d → i ≤ l.length → Ev (fun k => waybillplain_SameNumbers.l0 k l l i) true := by
  intro d
  induction d with
  | zero =>
    intro i hd hi
    refine ⟨1, fun k hk => ?_⟩
    obtain ⟨k, rfl⟩ : ∃ m, k = m + 1 := ⟨k - 1, by omega⟩
    simp only [waybillplain_SameNumbers.l0]
    rw [if_neg (by omega)]
  | succ d ih =>
    intro i hd hi
    refine Ev.step (fun k => ?_) (ih (i + 1) (by omega) (by omega))
    show waybillplain_SameNumbers.l0 (k + 1) l l i = _
    simp only [waybillplain_SameNumbers.l0]
    rw [if_pos (by omega), if_pos (by omega), if_pos (by omega), if_pos (by trivial), show wrap64 ((i : Int) + 1) = ((i + 1 : Nat) : Int) by unfold wrap64; omega]
theorem samenum_f (l : List Int) (hl : l.length ≤ 140737488355328) : Ev (fun k => waybillplain_SameNumbers.f k l l) true := by
  refine Ev.congr (fun k => ?_) (samenum_l0 l hl l.length 0 (by omega) (by omega))
  show waybillplain_SameNumbers.f k l l = _
  unfold waybillplain_SameNumbers.f
  rw [if_pos rfl]
  rfl
theorem refsize_f (n : Int) (h0 : 0 ≤ n) (h1 : n < 18446744073709551616) : Ev (fun k => waybillref01_Size.f k n) ((enc n.toNat).length : Int) := by
  obtain ⟨K, h⟩ := refput_f [] n h0 h1 (by simp)
  refine ⟨K, fun k hk => ?_⟩
  have a := h k hk
  dsimp only at a ⊢
  unfold waybillref01_Size.f
  rw [a]
  simp
theorem refzig_f (a : Int) (h0 : -9223372036854775808 ≤ a) (h1 : a < 9223372036854775808) : waybillref01_Zig.f a = some (Pure.zig a : Int) := by
  unfold waybillref01_Zig.f Pure.zig
  rw [IntKind.wrap_u64, IntKind.wrap_u64, IntKind.wrap_u64, IntKind.wrap_u64, IntKind.wrap_u64]
  by_cases h : 0 ≤ a
  · rw [if_pos (by omega), if_pos h]
    congr 1
    omega
  · rw [if_neg (by omega), if_neg h]
    congr 1
    unfold wrap64
    omega
theorem refzag_f (m : Int) (h0 : 0 ≤ m) (h1 : m < 18446744073709551616) : waybillref01_Zag.f m = some (Pure.zag m.toNat) := by
  obtain ⟨m, rfl⟩ := Int.eq_ofNat_of_zero_le h0
  unfold waybillref01_Zag.f Pure.zag
  have e1 : Int.tdiv (m : Int) 2 = ((m / 2 : Nat) : Int) := by rw [Int.tdiv_eq_ediv_of_nonneg (by omega)]; omega
  have e2 : Int.tmod (m : Int) 2 = ((m % 2 : Nat) : Int) := by rw [Int.tmod_eq_emod_of_nonneg (by omega)]; omega
  rw [e1, e2, IntKind.wrap_u64, Int.toNat_natCast]
  by_cases h : m % 2 = 0
  · rw [if_pos (by omega), if_pos h]
    congr 1
    unfold wrap64
    omega
  · rw [if_neg (by omega), if_neg h]
    congr 1
    unfold wrap64
    omega
end Go.Proofs.Ytckecoemgadieaa.V
namespace Go.Proofs.Ytckecoemgadieaa.Pure
open WB Go Go.RowKit Go.Proofs.Ytckecoemgadieaa.G Go.Proofs.Ytckecoemgadieaa.V Go.Proofs.YtckecoemgadieaaW.PrintWords Go.Proofs.YtckecoemgadieaaW.PrintLast Go.Proofs.YtckecoemgadieaaW.PrintMore
theorem VarintTells : waybilllaw01_VarintTells.Pure := by
  intro b n m a z _ hb hw hn hm ha hz
  have hok := ok_of_wf hw
  have hn := u64_of_wf hn
  have hm := u64_of_wf hm
  have hz := i64_of_wf hz
  have en : (enc n.toNat).length ≤ 10 := enc_len_10 (by omega)
  obtain ⟨K1, h1⟩ := alive_f
  obtain ⟨r, hr, ⟨K2, h2⟩, ⟨K3, h3⟩⟩ := all_f b hok (by omega)
  have hrl : r.1.length ≤ 140737488355328 := by
    rcases hr with ⟨_, _, _, h⟩ | ⟨_, h⟩
    · omega
    · rw [h]; simp
  obtain ⟨K4, h4⟩ := samenum_f r.1 hrl
  obtain ⟨K5, h5⟩ := size_f n hn.1 hn.2
  obtain ⟨K6, h6⟩ := refsize_f n hn.1 hn.2
  obtain ⟨K7, h7⟩ := put_f b [n, m] (by intro x hx; simp at hx; rcases hx with rfl | rfl; exact hn; exact hm) (by simp; omega)
  obtain ⟨K8, h8⟩ := refput_f b n hn.1 hn.2 (by omega)
  obtain ⟨K9, h9⟩ := refput_f (b ++ enc n.toNat) m hm.1 hm.2 (by simp; omega)
  obtain ⟨K, hK⟩ : ∃ K, K = K1 + K2 + K3 + K4 + K5 + K6 + K7 + K8 + K9 := ⟨_, rfl⟩
  have a1 := h1 K (by omega)
  have a2 := h2 (K + 1) (by omega)
  have a3 := h3 (K + 1) (by omega)
  have a4 := h4 (K + 1) (by omega)
  have a5 := h5 (K + 1) (by omega)
  have a6 := h6 (K + 1) (by omega)
  have a7 := h7 K (by omega)
  have a8 := h8 K (by omega)
  have a9 := h9 K (by omega)
  have z1 := zig_f z hz.1 hz.2
  have z2 := refzig_f z hz.1 hz.2
  have z3 := zag_f n hn.1 hn.2
  have z4 := refzag_f n hn.1 hn.2
  dsimp only at a1 a2 a3 a4 a5 a6 a7 a8 a9
  rw [encAll_cons, encAll_one, ← List.append_assoc] at a7
  refine ⟨K + 1, ?_⟩
  unfold waybilllaw01_VarintTells.f waybilllaw01_num.f
  rw [copybytes_f b (by omega), Option.bind_some, get_f b a hok, Option.bind_some, refget_f b a hok, Option.bind_some, a2, Option.bind_some, a3, Option.bind_some, if_pos rfl, if_pos rfl, Option.bind_some, if_pos rfl, a4, Option.bind_some, if_pos rfl, Option.bind_some, if_pos rfl,
    a5, Option.bind_some, a6, Option.bind_some, if_pos rfl, z1, Option.bind_some, z2, Option.bind_some, if_pos rfl, z3, Option.bind_some, z4, Option.bind_some]
  simp only [waybilllaw01_VarintTells.j0]
  rw [if_neg (by simp), a7, Option.bind_some, a8, Option.bind_some, a9, Option.bind_some, same_self, Option.bind_some, if_pos rfl, same_self, Option.bind_some, if_pos rfl, a1]
  rfl
end Go.Proofs.Ytckecoemgadieaa.Pure
