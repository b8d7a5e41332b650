/- A text at a place: the program's is the reference's. -/
import Derived.Test.YtckecoemgadieaaQBase
import Derived.Test.YtckecoemgadieaaPVarint
import Derived.Test.YtckecoemgadieaaPVarintG
import Derived.Test.YtckecoemgadieaaGx13
import Derived.Test.YtckecoemgadieaaGx17
set_option linter.unusedVariables false
set_option linter.unusedSimpArgs false
namespace Go.Proofs.Ytckecoemgadieaa.V
open WB Go Go.RowKit Go.Proofs.Ytckecoemgadieaa.G Go.Proofs.YtckecoemgadieaaW.PrintWords Go.Proofs.YtckecoemgadieaaW.PrintLast Go.Proofs.YtckecoemgadieaaW.PrintMore

/-- The text that stands at a place, and where it ends. -/
def textAt (l : List Int) (a most : Int) : List Int × Int × Int :=
  if (getAt l a).2.2 = 0 then
    if most < 0 ∨ most < (getAt l a).1 then ([], 0, 5) else if (l.length : Int) - (getAt l a).2.1 < (getAt l a).1 then ([], 0, 8) else ((l.drop (getAt l a).2.1.toNat).take (getAt l a).1.toNat, (getAt l a).2.1 + (getAt l a).1, 0)
  else ([], 0, (getAt l a).2.2)

theorem take_drop_ (l : List Int) (p n : Nat) : (l.take (p + n)).drop p = (l.drop p).take n := by
  rw [List.drop_take]
  congr 1
  omega

theorem text_j0 (l : List Int) (hl : l.length < 140737488355328) (p : Nat) (hp : p ≤ l.length) (n : Nat) (hn : n < 18446744073709551616) (k : Nat) (hk : 1 ≤ k) :
    varint_Text.j0 k l p n false = (if (l.length : Int) - p < n then some ([], 0, 8) else some ((l.drop p).take n, (p : Int) + n, 0)) ∧
    waybillref01_Text.j0 k l n p false = (if (l.length : Int) - p < n then some ([], 0, 8) else some ((l.drop p).take n, (p : Int) + n, 0)) := by
  obtain ⟨k, rfl⟩ : ∃ m, k = m + 1 := ⟨k - 1, by omega⟩
  have e1 : IntKind.u64.wrap (wrap64 ((l.length : Int) - p)) = (l.length : Int) - p := by rw [IntKind.wrap_u64]; unfold wrap64; omega
  refine ⟨?_, ?_⟩
  · simp only [varint_Text.j0, e1]
    rw [if_neg (by simp)]
    by_cases h : (l.length : Int) - p < n
    · rw [if_pos h, if_pos (by omega)]
    · have hnl : n ≤ l.length := by omega
      have e2 : wrap64 ((p : Int) + wrap64 n) = ((p + n : Nat) : Int) := by unfold wrap64; omega
      rw [if_neg h, e2, if_pos (by omega), if_pos (by omega), if_pos (by omega), if_neg (by omega)]
      rw [Int.toNat_natCast, Int.toNat_natCast, take_drop_]
      have h3 : ((l.drop p).take n).length < 140737488355328 := by rw [List.length_take, List.length_drop]; omega
      rw [clone_f _ h3]
      simp
  · simp only [waybillref01_Text.j0, e1]
    rw [if_neg (by simp)]
    by_cases h : (l.length : Int) - p < n
    · rw [if_pos h, if_pos (by omega)]
    · have hnl : n ≤ l.length := by omega
      have e2 : wrap64 ((p : Int) + wrap64 n) = ((p + n : Nat) : Int) := by unfold wrap64; omega
      rw [if_neg h, e2, if_pos (by omega), if_pos (by omega), if_pos (by omega), if_neg (by omega)]
      rw [Int.toNat_natCast, Int.toNat_natCast, take_drop_]
      have h3 : ((l.drop p).take n).length < 140737488355328 := by rw [List.length_take, List.length_drop]; omega
      rw [copied_f _ h3]
      simp

theorem text_f (l : List Int) (hok : octetsOk l = true) (hl : l.length < 140737488355328) (a most : Int) (hm0 : -9223372036854775808 ≤ most) (hm1 : most < 9223372036854775808) (k : Nat) (hk : 1 ≤ k) :
    varint_Text.f k l a most = some (textAt l a most) ∧ waybillref01_Text.f k l a most = some (textAt l a most) := by
  unfold varint_Text.f waybillref01_Text.f
  rw [get_f l a hok, refget_f l a hok, Option.bind_some, Option.bind_some]
  unfold textAt
  rcases getAt_cases hok a with ⟨e, he, hz⟩ | ⟨q, x, rest, e1, e2, e3, e4⟩
  · rw [he]
    have hne : ¬ e = 0 := by omega
    dsimp only
    rw [if_neg hne, if_neg hne, if_neg hne]
    exact ⟨rfl, rfl⟩
  · rw [e4]
    dsimp only
    have hlen : l.length = x.length + ((enc q).length + rest.length) := by rw [e1]; simp
    have hp : a + ((enc q).length : Int) = ((x.length + (enc q).length : Nat) : Int) := by omega
    rw [hp]
    obtain ⟨p, hpp⟩ : ∃ p, p = x.length + (enc q).length := ⟨_, rfl⟩
    rw [← hpp]
    have hpl : p ≤ l.length := by omega
    obtain ⟨j1, j2⟩ := text_j0 l hl p hpl q e3 k hk
    rw [if_pos rfl, if_pos rfl, if_pos rfl]
    have jt : varint_Text.j0 k l p q true = some ([], 0, 5) ∧ waybillref01_Text.j0 k l q p true = some ([], 0, 5) := by
      obtain ⟨k, rfl⟩ : ∃ m, k = m + 1 := ⟨k - 1, by omega⟩
      simp only [varint_Text.j0, waybillref01_Text.j0]
      exact ⟨rfl, rfl⟩
    obtain ⟨t1, t2⟩ := jt
    by_cases hneg : most < 0
    · rw [if_pos hneg, if_pos hneg, if_pos (.inl hneg), t1, t2]
      exact ⟨rfl, rfl⟩
    · rw [if_neg hneg, if_neg hneg]
      have e5 : IntKind.u64.wrap most = most := by rw [IntKind.wrap_u64]; omega
      rw [e5]
      by_cases hbig : most < q
      · rw [if_pos (.inr hbig), decide_eq_true (show (q : Int) > most from hbig), t1, t2]
        exact ⟨rfl, rfl⟩
      · rw [if_neg (by omega), decide_eq_false (show ¬ (q : Int) > most by omega), j1, j2, Int.toNat_natCast, Int.toNat_natCast]
        refine ⟨?_, ?_⟩ <;> (split <;> rfl)
end Go.Proofs.Ytckecoemgadieaa.V
