/- All numbers of octets: the program's list is the reference's, and its octets are those that came in. -/
import Derived.Test.YtckecoemgadieaaQBase
import Derived.Test.YtckecoemgadieaaPVarint
import Derived.Test.YtckecoemgadieaaPVarintG
import Derived.Test.YtckecoemgadieaaGx21
import Derived.Test.YtckecoemgadieaaGx26
set_option linter.unusedVariables false
set_option linter.unusedSimpArgs false
namespace Go.Proofs.Ytckecoemgadieaa.V
open WB Go Go.RowKit Go.Proofs.Ytckecoemgadieaa.G Go.Proofs.YtckecoemgadieaaW.PrintWords Go.Proofs.YtckecoemgadieaaW.PrintLast Go.Proofs.YtckecoemgadieaaW.PrintMore

/-- What All comes to: a list of numbers whose octets are all of b, or an error and nothing. -/
def AllSaid (b : List Int) (r : List Int × Int) : Prop :=
  (r.2 = 0 ∧ encAll r.1 = b ∧ (∀ x ∈ r.1, 0 ≤ x ∧ x < 18446744073709551616) ∧ r.1.length ≤ 4096) ∨ (r.2 ≠ 0 ∧ r.1 = [])

theorem encAll_append (a b : List Int) : encAll (a ++ b) = encAll a ++ encAll b := by simp [encAll]

theorem all_ends (b : List Int) (hok : octetsOk b = true) (hb : b.length ≤ 140737488355328) : ∀ (d a : Nat) (acc : List Int), b.length - a ≤ d → a ≤ b.length → b.take a = encAll acc → (∀ x ∈ acc, 0 ≤ x ∧ x < 18446744073709551616) → acc.length ≤ 4096 →
    ∃ r, AllSaid b r ∧ Ev (fun k => varint_All.l0 k b acc a) r ∧ Ev (fun k => waybillref01_All.l0 k b acc a) r := by
  intro d
  induction d with
  | zero =>
    intro a acc hd ha ht hx hl
    refine ⟨(acc, 0), .inl ⟨rfl, by rw [← ht, List.take_of_length_le (by omega)], hx, hl⟩, ⟨1, fun k hk => ?_⟩, ⟨1, fun k hk => ?_⟩⟩
    · obtain ⟨k, rfl⟩ : ∃ m, k = m + 1 := ⟨k - 1, by omega⟩
      simp only [varint_All.l0]
      rw [if_neg (by omega)]
    · obtain ⟨k, rfl⟩ : ∃ m, k = m + 1 := ⟨k - 1, by omega⟩
      simp only [waybillref01_All.l0]
      rw [if_neg (by omega)]
  | succ d ih =>
    intro a acc hd ha ht hx hl
    by_cases hend : a = b.length
    · exact ih a acc (by omega) ha ht hx hl
    rcases getAt_cases hok (a : Int) with ⟨e, he, hz⟩ | ⟨q, x, rest, e1, e2, e3, e4⟩
    · have hne : ¬ e = 0 := by omega
      refine ⟨([], e), .inr ⟨hne, rfl⟩, ⟨2, fun k hk => ?_⟩, ⟨1, fun k hk => ?_⟩⟩
      · obtain ⟨k, rfl⟩ : ∃ m, k = m + 2 := ⟨k - 2, by omega⟩
        simp only [varint_All.l0]
        rw [if_pos (by omega), get_f b _ hok, he, Option.bind_some]
        dsimp only
        rw [if_neg hne]
        simp only [varint_All.j1]
        rw [if_neg (by simp), if_neg hne]
      · obtain ⟨k, rfl⟩ : ∃ m, k = m + 1 := ⟨k - 1, by omega⟩
        simp only [waybillref01_All.l0]
        rw [if_pos (by omega), refget_f b _ hok, he, Option.bind_some]
        dsimp only
        rw [if_neg hne]
    · by_cases hfull : acc.length = 4096
      · refine ⟨([], 3), .inr ⟨by decide, rfl⟩, ⟨2, fun k hk => ?_⟩, ⟨1, fun k hk => ?_⟩⟩
        · obtain ⟨k, rfl⟩ : ∃ m, k = m + 2 := ⟨k - 2, by omega⟩
          simp only [varint_All.l0]
          rw [if_pos (by omega), get_f b _ hok, e4, Option.bind_some]
          dsimp only
          rw [if_pos rfl]
          simp only [varint_All.j1]
          rw [if_pos (by rw [hfull]; rfl)]
        · obtain ⟨k, rfl⟩ : ∃ m, k = m + 1 := ⟨k - 1, by omega⟩
          simp only [waybillref01_All.l0]
          rw [if_pos (by omega), refget_f b _ hok, e4, Option.bind_some]
          dsimp only
          rw [if_pos rfl, if_pos (by rw [hfull]; rfl)]
      · have hp := enc_pos q
        have hlen : b.length = x.length + ((enc q).length + rest.length) := by rw [e1]; simp
        have hxa : x.length = a := by omega
        have hta : b.take a = x := by rw [e1, ← hxa, List.take_left]
        have ht2 : b.take (a + (enc q).length) = encAll (acc ++ [(q : Int)]) := by
          rw [encAll_append, encAll_one, Int.toNat_natCast, ← ht, hta, e1, ← hxa, ← List.append_assoc, ← List.length_append, List.take_left]
        obtain ⟨r, hr, h1, h2⟩ := ih (a + (enc q).length) (acc ++ [(q : Int)]) (by omega) (by omega) ht2 (by
          intro y hy
          rcases List.mem_append.1 hy with hy | hy
          · exact hx y hy
          · rw [List.mem_singleton.1 hy]; omega) (by simp; omega)
        have hcast : (a : Int) + (enc q).length = ((a + (enc q).length : Nat) : Int) := by omega
        refine ⟨r, hr, ?_, ?_⟩
        · obtain ⟨K, h1⟩ := h1
          refine ⟨K + 2, fun k hk => ?_⟩
          obtain ⟨k, rfl⟩ : ∃ m, k = m + 2 := ⟨k - 2, by omega⟩
          have h3 := h1 k (by omega)
          simp only [varint_All.l0]
          rw [if_pos (by omega), get_f b _ hok, e4, Option.bind_some]
          dsimp only
          rw [if_pos rfl]
          simp only [varint_All.j1]
          rw [if_neg (by simp; omega), if_pos (by trivial), if_pos (by omega), hcast]
          exact h3
        · obtain ⟨K, h2⟩ := h2
          refine ⟨K + 1, fun k hk => ?_⟩
          obtain ⟨k, rfl⟩ : ∃ m, k = m + 1 := ⟨k - 1, by omega⟩
          have h3 := h2 k (by omega)
          simp only [waybillref01_All.l0]
          rw [if_pos (by omega), refget_f b _ hok, e4, Option.bind_some]
          dsimp only
          rw [if_pos rfl, if_neg (by omega), if_pos (by omega), hcast]
          exact h3

theorem all_f (b : List Int) (hok : octetsOk b = true) (hb : b.length ≤ 140737488355328) : ∃ r, AllSaid b r ∧ Ev (fun k => varint_All.f k b) r ∧ Ev (fun k => waybillref01_All.f k b) r :=
  all_ends b hok hb b.length 0 [] (by omega) (by omega) (by simp [encAll]) (by simp) (by simp)
end Go.Proofs.Ytckecoemgadieaa.V
