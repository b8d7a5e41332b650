/- LedgerKeeps: moves keep the sum, and every balance in its bounds; what is refused changes nothing. No program here. -/
import Derived.Test.YtbegdgdghiigpaaQBase
import Derived.Test.YtbegdgdghiigpaaQOpen
import Derived.Test.YtbegdgdghiigpaaPLedger
import Derived.Test.YtbegdgdghiigpaaGx22
set_option linter.unusedVariables false
set_option linter.unusedSimpArgs false
namespace Go.Proofs.Ytbegdgdghiigpaa.Pure
open WB Go Go.RowKit Go.Proofs.Ytbegdgdghiigpaa.G Go.Proofs.YtbegdgdghiigpaaW.PrintWords Go.Proofs.YtbegdgdghiigpaaW.PrintLast Go.Proofs.YtbegdgdghiigpaaW.PrintMore
theorem whole_fk (bs : List Int) (L : List S44) : ∀ j, ledger_Whole.f (20 + j) bs L = some (wholeL bs L)
  | 0 => whole_f bs L
  | j + 1 => ledger_Whole.mono _ _ _ _ (whole_fk bs L j)
theorem keeps_l1 (B : List Int) (LG : List S44) (hb : BalOk B) (hw : wholeL B LG = 0) : ∀ (m i : Nat), i ≤ 16 → 60 - i < m → waybilllaw24_LedgerKeeps.l1 m (isum B) (i : Int) B LG = some true
  | 0, i, h, hm => by omega
  | m + 1, i, h, hm => by
    have hlen := hb.len
    simp only [waybilllaw24_LedgerKeeps.l1]
    by_cases hi : i < 16
    · have e0 : rd B (i : Int) = B[i]'(by omega) := by simp [rd, List.getElem?_eq_getElem (show i < B.length by omega)]
      have hx := hb.bd (B[i]'(by omega)) (List.getElem_mem _)
      have w2 : wrap64 ((i : Int) + 1) = ((i + 1 : Nat) : Int) := by unfold wrap64; omega
      rw [if_pos (by omega), if_pos (by omega), e0, if_neg (by omega), if_neg (by omega), w2]
      exact keeps_l1 B LG hb hw m (i + 1) (by omega) (by omega)
    · obtain ⟨j, rfl⟩ : ∃ j, m = 20 + j := ⟨m - 20, by omega⟩
      rw [if_neg (by omega), total_f B LG hb _ (by omega), Option.bind_some, if_pos rfl, if_pos (by omega), whole_fk, Option.bind_some, num_f, Option.bind_some, hw]
      rfl
theorem doL_bals (s : List Int × List S44) (o : S35) : (doL s o).1.1 = (changeL s.1 o).1 := rfl
theorem doL_code (s : List Int × List S44) (o : S35) : (doL s o).2.f0 = (changeL s.1 o).2 := rfl
theorem do_sum {s : List Int × List S44} (hs : Made s) {o : S35} (ho : chkL o = 0) : isum (doL s o).1.1 = isum s.1 + (if o.f0 = 1 ∧ (doL s o).2.f0 = 0 then o.f3 else 0) ∧ (0 ≤ isum (doL s o).1.1 ∧ isum (doL s o).1.1 ≤ 17179869184) ∧ (0 ≤ isum s.1 ∧ isum s.1 ≤ 17179869184) := by
  have hb := made_bal hs
  have hb2 := made_bal (made_do hs ho)
  refine ⟨by rw [doL_bals, doL_code]; exact change_sum hb (chkL_ok ho), ?_, ?_⟩
  · have := isum_bd _ hb2 16 (by omega)
    rw [List.take_of_length_le (by rw [hb2.len]; omega)] at this
    omega
  · have := isum_bd _ hb 16 (by omega)
    rw [List.take_of_length_le (by rw [hb.len]; omega)] at this
    omega
theorem wrap_small {x : Int} (h : 0 ≤ x) (h2 : x ≤ 17179869184) : wrap64 x = x := by unfold wrap64; omega
theorem keeps_l0 (s : List Int × List S44) (ops : List S35) (hs : Made s) (hc : ∀ o ∈ ops, chkL o = 0) (hl : s.2.length + nChg ops ≤ 1024) (hn : ops.length < 5000000000000) : ∀ (m i : Nat), i ≤ ops.length → ops.length - i + 100 < m →
    waybilllaw24_LedgerKeeps.l0 m ops (doAll s ops).2 (isum (doAll s (ops.take i)).1.1) (i : Int) (doAll s ops).1.1 (doAll s ops).1.2 = some true
  | 0, i, h, hm => by omega
  | m + 1, i, h, hm => by
    simp only [waybilllaw24_LedgerKeeps.l0]
    by_cases hi : i < ops.length
    · have ih := keeps_l0 s ops hs hc hl hn m (i + 1) (by omega) (by omega)
      have w2 : wrap64 ((i : Int) + 1) = ((i + 1 : Nat) : Int) := by unfold wrap64; omega
      have hR := doAll_len ops s
      have c1 : ((i : Int) < (ops.length : Int)) := by omega
      have c2 : (0 : Int) ≤ (i : Int) := by omega
      have c3 : ((i : Int) < ((doAll s ops).2.length : Int)) := by omega
      obtain ⟨t1, t2⟩ := doAll_take ops s i hi
      have hms : Made (doAll s (ops.take i)).1 := made_all _ s hs (fun o ho => hc o (List.mem_of_mem_take ho))
      obtain ⟨hs2, h16', h16⟩ := do_sum hms (hc ops[i] (List.getElem_mem hi))
      have e0 : rd_T35 ops (i : Int) = ops[i] := by simp [rd_T35, List.getElem?_eq_getElem hi]
      have e1 : rd_T37 (doAll s ops).2 (i : Int) = (doL (doAll s (ops.take i)).1 ops[i]).2 := by simp [rd_T37, t2]
      rw [t1] at ih
      obtain ⟨st, hst⟩ : ∃ st, st = (doAll s (ops.take i)).1 := ⟨_, rfl⟩
      rw [← hst] at ih hs2 h16 h16' e1 ⊢
      obtain ⟨o, ho⟩ : ∃ o, o = ops[i] := ⟨_, rfl⟩
      rw [← ho] at ih hs2 h16' e0 e1
      clear t1 t2 hms hst ho
      rw [if_pos c1, if_pos c2, e0, e1, w2]
      by_cases h1 : o.f0 = 1
      · rw [if_pos h1, if_pos c3]
        by_cases h2 : (doL st o).2.f0 = 0
        · rw [if_pos ⟨h1, h2⟩] at hs2
          have w1 : wrap64 (isum st.1 + o.f3) = isum (doL st o).1.1 := by rw [hs2] at h16' ⊢; exact wrap_small h16'.1 h16'.2
          rw [if_pos h2, w1]
          exact ih
        · rw [if_neg (fun hh => h2 hh.2)] at hs2
          rw [if_neg h2]
          rw [hs2, Int.add_zero] at ih
          exact ih
      · rw [if_neg (fun hh => h1 hh.1)] at hs2
        rw [if_neg h1]
        rw [hs2, Int.add_zero] at ih
        exact ih
    · rw [if_neg (by omega), List.take_of_length_le (by omega)]
      have hms := made_all ops s hs hc
      exact keeps_l1 _ _ (made_bal hms) (made_whole hms (by rw [doAll_log]; exact hl)) m 0 (by omega) (by omega)
theorem LedgerKeeps (x0 : S25) (x1 : List S35) {p0 p1 q0 qx : Prop} (_ : p0) (_ : p1) (_ : q0) (hs1 : x1.length * 32 ≤ reachBytes ∧ qx) : ∃ k, waybilllaw24_LedgerKeeps.f k x0.f0 x0.f1 x1 = some true := by
  have hn : x1.length < 5000000000000 := by have := hs1.1; simp only [reachBytes] at this; omega
  refine ⟨x1.length + 200, ?_⟩
  unfold waybilllaw24_LedgerKeeps.f
  rw [alive_f, Option.bind_some, if_pos rfl, do_f _ _ _ hn, Option.bind_some, num_f, Option.bind_some]
  rcases doF_cases x0.f0 x0.f1 x1 with ⟨e, he, h⟩ | ⟨h1, h2, h3, h⟩
  · rw [h, if_neg he]; simp [wrap64]
  · obtain ⟨hm, hl⟩ := whole_made h1
    rw [h, if_pos rfl, total_f _ _ (made_bal hm) _ (by omega), Option.bind_some]
    exact keeps_l0 (x0.f0, x0.f1) x1 hm (chkAll_ok x1 h2) (by show x0.f1.length + _ ≤ _; omega) hn _ 0 (by omega) (by omega)
end Go.Proofs.Ytbegdgdghiigpaa.Pure
