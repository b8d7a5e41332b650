/- LedgerAsks: what was answered is what is asked behind the entries ahead of it. No program here. -/
import Derived.Test.YtbegdgdghiigpaaQBase
import Derived.Test.YtbegdgdghiigpaaQOpen
import Derived.Test.YtbegdgdghiigpaaPLedger
import Derived.Test.YtbegdgdghiigpaaGx34
import Derived.Test.YtbegdgdghiigpaaGx35
set_option linter.unusedVariables false
set_option linter.unusedSimpArgs false
namespace Go.Proofs.Ytbegdgdghiigpaa.Pure
open WB Go Go.RowKit Go.Proofs.Ytbegdgdghiigpaa.G Go.Proofs.YtbegdgdghiigpaaW.PrintWords Go.Proofs.YtbegdgdghiigpaaW.PrintLast Go.Proofs.YtbegdgdghiigpaaW.PrintMore
theorem ask_made {s : List Int × List S44} (hs : Made s) (o : S35) (ho : chkL o = 0) (r : List S44) {B : List Int} (hf : Made (B, s.2 ++ r)) (hl : (s.2 ++ r).length ≤ 1024) : askF (s.2 ++ r) (s.2.length : Int) o = ((doL s o).2, 0) := by
  have e1 : replL (s.2 ++ r) = (B, s.2 ++ r, 0) := by unfold replL; rw [if_neg (by omega)]; exact hf
  have hl2 : s.2.length ≤ 1024 := by rw [List.length_append] at hl; omega
  have e2 : replL s.2 = (s.1, s.2, 0) := by unfold replL; rw [if_neg (by omega)]; exact hs
  unfold askF
  rw [e1, if_neg (by simp), if_neg (by simp [ho]), if_neg (by rw [List.length_append]; omega), Int.toNat_natCast, List.take_left, e2]
theorem asks_l0 (s : List Int × List S44) (ops : List S35) (hs : Made s) (hc : ∀ o ∈ ops, chkL o = 0) (hl : s.2.length + nChg ops ≤ 1024) (hn : ops.length ≤ 40) : ∀ (m i : Nat), i ≤ ops.length → 2 * (ops.length - i) + 5 < m →
    waybilllaw24_LedgerAsks.l0 m ops (doAll s ops).2 (i : Int) (doAll s ops).1.1 (doAll s ops).1.2 = some true
  | 0, i, h, hm => by omega
  | 1, i, h, hm => by omega
  | m + 2, i, h, hm => by
    rw [waybilllaw24_LedgerAsks.l0]
    by_cases hi : i < ops.length
    · have ih := asks_l0 s ops hs hc hl hn m (i + 1) (by omega) (by omega)
      have w2 : wrap64 ((i : Int) + 1) = ((i + 1 : Nat) : Int) := by unfold wrap64; omega
      have hR := doAll_len ops s
      have c1 : ((i : Int) < (ops.length : Int)) := by omega
      have c2 : (0 : Int) ≤ (i : Int) := by omega
      have c3 : ((i : Int) < ((doAll s ops).2.length : Int)) := by omega
      obtain ⟨t1, t2⟩ := doAll_take ops s i hi
      have hms : Made (doAll s (ops.take i)).1 := made_all _ s hs (fun o ho => hc o (List.mem_of_mem_take ho))
      have hfin := made_all ops s hs hc
      have hfl : (doAll s ops).1.2.length ≤ 1024 := by rw [doAll_log]; exact hl
      have hcx := hc ops[i] (List.getElem_mem hi)
      have e0 : rd_T35 ops (i : Int) = ops[i] := by simp [rd_T35, List.getElem?_eq_getElem hi]
      have e1 : rd_T37 (doAll s ops).2 (i : Int) = (doL (doAll s (ops.take i)).1 ops[i]).2 := by simp [rd_T37, t2]
      obtain ⟨r, hr⟩ : ∃ r, (doAll s ops).1.2 = (doAll s (ops.take i)).1.2 ++ r := by
        have := doAll_split ops s i
        rw [this]
        exact doAll_pre (ops.drop i) _
      obtain ⟨st, hst⟩ : ∃ st, st = (doAll s (ops.take i)).1 := ⟨_, rfl⟩
      rw [← hst] at hms e1 hr
      have hask := ask_made hms ops[i] hcx r (B := (doAll s ops).1.1) (by rw [← hr]; exact hfin) (by rw [← hr]; exact hfl)
      rw [← hr] at hask
      obtain ⟨o, ho⟩ : ∃ o, o = ops[i] := ⟨_, rfl⟩
      rw [← ho] at e0 e1 hask
      have hlst : st.2.length ≤ 1024 := by rw [hr, List.length_append] at hfl; omega
      have hj : waybilllaw24_LedgerAsks.j2 (m + 1) ops (doAll s ops).2 (i : Int) (st.2.length : Int) (doAll s ops).1.1 (doAll s ops).1.2 = some true := by
        rw [waybilllaw24_LedgerAsks.j2, if_pos c2, if_pos c1, e0, e1]
        have ea : ledger_Ask.f (doAll s ops).1.2 (st.2.length : Int) o.f0 o.f1 o.f2 o.f3 = some ((doL st o).2.f0, (doL st o).2.f1, (doL st o).2.f2, 0) := by
          unfold ledger_Ask.f
          rw [show (⟨o.f0, o.f1, o.f2, o.f3⟩ : S35) = o from rfl, hask]
        rw [ea, Option.bind_some, num_f, Option.bind_some, if_pos rfl, if_pos c3, if_neg (by simp), w2]
        exact ih
      rw [if_pos c1, if_pos c2, if_pos c3, e0, e1]
      by_cases h5 : o.f0 ≤ 2
      · have := (doL_once (s := st) h5).2
        rw [if_pos h5, this, show wrap64 ((st.2.length : Int) + 1 - 1) = (st.2.length : Int) by unfold wrap64; omega]
        exact hj
      · have := (doL_look (s := st) (o := o) (by omega)).2.2
        rw [if_neg h5, this]
        exact hj
    · rw [if_neg (by omega)]
theorem LedgerAsks (x0 : List S35) {p0 qx : Prop} (_ : p0) (hs0 : x0.length * 32 ≤ reachBytes ∧ qx) : ∃ k, waybilllaw24_LedgerAsks.f k x0 = some true := by
  have hn : x0.length < 5000000000000 := by have := hs0.1; simp only [reachBytes] at this; omega
  refine ⟨200 + 1, ?_⟩
  unfold waybilllaw24_LedgerAsks.f ledger_New.f
  rw [alive_f, Option.bind_some, if_pos rfl, Option.bind_some, do_f _ _ _ hn, Option.bind_some, num_f, Option.bind_some]
  dsimp only
  rcases doF_cases (List.replicate 16 0) [] x0 with ⟨e, he, h⟩ | ⟨h1, h2, h3, h⟩
  · rw [h, if_neg he, waybilllaw24_LedgerAsks.j0, if_pos rfl, num_f, Option.bind_some, if_neg he]; rfl
  · obtain ⟨hm, hl⟩ := whole_made h1
    rw [h, if_pos rfl]
    by_cases h40 : (x0.length : Int) > 40
    · rw [waybilllaw24_LedgerAsks.j0, if_pos (by simpa using h40), num_f, Option.bind_some, if_pos rfl]
    · rw [waybilllaw24_LedgerAsks.j0, if_neg (by simpa using h40)]
      exact asks_l0 (List.replicate 16 0, []) x0 hm (chkAll_ok x0 h2) (by simpa using h3) (by omega) 200 0 (by omega) (by omega)
end Go.Proofs.Ytbegdgdghiigpaa.Pure
