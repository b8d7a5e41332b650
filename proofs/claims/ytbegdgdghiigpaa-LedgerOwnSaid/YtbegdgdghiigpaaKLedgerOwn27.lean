/- LedgerOwn: texts of this claim, packed: what the kit's print has written for it and own texts, without what its proof does not reach. -/
import Derived.Test.YtbegdgdghiigpaaKLedgerOwn1
import Derived.Test.YtbegdgdghiigpaaKLedgerOwn17
import Derived.Test.YtbegdgdghiigpaaKLedgerOwn18
import Derived.Test.YtbegdgdghiigpaaKLedgerOwn26
import Derived.Laws.BitsAllLaws
import Derived.Laws.BitsLemmas
import Derived.WalkKit
set_option linter.unusedVariables false
set_option linter.unusedSimpArgs false
set_option linter.unusedSectionVars false
section
set_option linter.unusedVariables false
set_option linter.unusedSimpArgs false
namespace Go.Proofs.Ytbegdgdghiigpaa.Pure
open WB Go Go.RowKit Go.Proofs.Ytbegdgdghiigpaa.G Go.Proofs.YtbegdgdghiigpaaW.PrintWords Go.Proofs.YtbegdgdghiigpaaW.PrintLast Go.Proofs.YtbegdgdghiigpaaW.PrintMore
theorem change_look {bs : List Int} {o : S35} (h : 2 < o.f0) : changeL bs o = (bs, 0) := by
  unfold changeL
  rw [if_neg (by omega), if_neg (by omega)]
theorem doL_look {s : List Int × List S44} {o : S35} (h : 2 < o.f0) : (doL s o).1 = s ∧ (doL s o).2.f0 = 0 ∧ (doL s o).2.f1 = s.2.length := by
  unfold doL ansL
  dsimp only
  rw [change_look h, if_neg (by omega), if_neg (by omega)]
  exact ⟨rfl, rfl, rfl⟩
theorem doL_once {s : List Int × List S44} {o : S35} (h : o.f0 ≤ 2) : (doL s o).1.2 = s.2 ++ [⟨o, (doL s o).2⟩] ∧ (doL s o).2.f1 = (s.2.length : Int) + 1 := by
  unfold doL ansL
  dsimp only
  rw [if_pos h, if_pos h]
  exact ⟨rfl, rfl⟩
theorem replF_app : ∀ (l r : List S44) (s : List Int × List S44), (replF s l).2.2 = 0 → replF s (l ++ r) = replF ((replF s l).1, (replF s l).2.1) r
  | [], r, s, _ => rfl
  | x :: l, r, s, h0 => by
    rw [List.cons_append]
    by_cases h1 : chkL x.f0 = 0
    · by_cases h2 : 2 < x.f0.f0
      · rw [replF_kind l h1 h2] at h0; cases h0
      · rw [replF_go l h1 h2] at h0 ⊢
        rw [replF_go _ h1 h2]
        split at h0
        · rename_i hh; rw [if_pos hh, if_pos hh]; exact replF_app l r _ h0
        · cases h0
    · rw [replF_bad l h1] at h0; exact absurd h0 h1
def s0 : List Int × List S44 := (List.replicate 16 0, [])
/-- A state that a replay of its log makes. -/
def Made (s : List Int × List S44) : Prop := replF s0 s.2 = (s.1, s.2, 0)
theorem whole_made {bs : List Int} {L : List S44} (h : wholeL bs L = 0) : Made (bs, L) ∧ L.length ≤ 1024 := by
  unfold wholeL at h
  split at h
  · rename_i hh
    have hb := replL_bal L hh.1
    refine ⟨?_, hb.2.2⟩
    have e : replL L = replF s0 L := by unfold replL; rw [if_neg (by omega)]; rfl
    rw [e] at hh hb
    show replF s0 L = (bs, L, 0)
    rw [← hh.2]
    conv => rhs; rw [← hh.1]
    have := hb.2.1
    conv => rhs; rhs; lhs; rw [← this]
  · cases h
theorem made_bal {s : List Int × List S44} (h : Made s) : BalOk s.1 := by
  have := replF_bal s.2 s0 bal0 (by rw [show replF s0 s.2 = _ from h])
  rwa [show replF s0 s.2 = _ from h] at this
theorem made_do {s : List Int × List S44} (h : Made s) {o : S35} (ho : chkL o = 0) : Made (doL s o).1 := by
  by_cases h2 : 2 < o.f0
  · rw [(doL_look h2).1]; exact h
  · have e := (doL_once (s := s) (o := o) (by omega)).1
    unfold Made
    rw [e, replF_app _ _ _ (by rw [show replF s0 s.2 = _ from h]), show replF s0 s.2 = _ from h]
    dsimp only
    rw [replF_go _ (by exact ho) (by exact h2), if_pos ⟨rfl, rfl, rfl⟩]
    show ((doL s o).1.1, (doL s o).1.2, (0 : Int)) = _
    rw [e]
theorem made_all : ∀ (l : List S35) (s : List Int × List S44), Made s → (∀ o ∈ l, chkL o = 0) → Made (doAll s l).1
  | [], s, h, _ => h
  | o :: l, s, h, hl => made_all l _ (made_do h (hl o (by simp))) (fun x hx => hl x (by simp [hx]))
theorem doAll_log : ∀ (l : List S35) (s : List Int × List S44), (doAll s l).1.2.length = s.2.length + nChg l
  | [], s => by simp [doAll, nChg]
  | o :: l, s => by
    simp only [doAll]
    rw [doAll_log l, nChg_cons]
    by_cases h : o.f0 ≤ 2
    · rw [(doL_once h).1, if_pos h]; simp; omega
    · rw [(doL_look (by omega)).1, if_neg h]; omega
theorem doF_cases (bs : List Int) (L : List S44) (ops : List S35) :
    (∃ e, e ≠ 0 ∧ doF bs L ops = ([], [], [], e)) ∨ (wholeL bs L = 0 ∧ chkAll ops = 0 ∧ nChg ops + L.length ≤ 1024 ∧ doF bs L ops = ((doAll (bs, L) ops).1.1, (doAll (bs, L) ops).1.2, (doAll (bs, L) ops).2, 0)) := by
  by_cases h1 : wholeL bs L = 0
  · by_cases h2 : chkAll ops = 0
    · rw [doF_ok h1 h2]
      split
      · exact .inl ⟨72, by decide, rfl⟩
      · exact .inr ⟨h1, h2, by omega, rfl⟩
    · refine .inl ⟨_, h2, ?_⟩
      unfold doF
      rw [if_neg (fun hh => hh h1), if_pos h2]
  · refine .inl ⟨_, h1, ?_⟩
    unfold doF
    rw [if_pos h1]
theorem num_f (x : Int) : waybilllaw24_num.f x = some x := by
  unfold waybilllaw24_num.f
  first | rfl | simp
theorem do_f (bs : List Int) (L : List S44) (ops : List S35) (h : ops.length < 5000000000000) : ledger_Do.f bs L ops = some (doF bs L ops) := by
  unfold ledger_Do.f
  rw [if_pos h]
theorem alive_f : waybilllaw24_alive.f = some true := by
  unfold waybilllaw24_alive.f ledger_New.f
  rw [Option.bind_some, do_f _ _ _ (by simp)]
  kernel_rfl
end Go.Proofs.Ytbegdgdghiigpaa.Pure
namespace Go.Proofs.Ytbegdgdghiigpaa.Pure
open WB Go Go.RowKit Go.Proofs.Ytbegdgdghiigpaa.G Go.Proofs.YtbegdgdghiigpaaW.PrintWords Go.Proofs.YtbegdgdghiigpaaW.PrintLast Go.Proofs.YtbegdgdghiigpaaW.PrintMore
theorem own_same_l1 (B : List Int) (L : List S44) (hl : L.length ≤ 1024) : ∀ (m i : Nat), i ≤ L.length → L.length - i < m → waybillref24_Same.l1 m (i : Int) B L B L = some true
  | 0, i, h, hm => by omega
  | m + 1, i, h, hm => by
    simp only [waybillref24_Same.l1]
    by_cases hi : i < L.length
    · have w2 : wrap64 ((i : Int) + 1) = ((i + 1 : Nat) : Int) := by unfold wrap64; omega
      rw [if_pos (by omega), if_pos (by omega), if_pos (by omega), if_neg (by simp), w2]
      exact own_same_l1 B L hl m (i + 1) (by omega) (by omega)
    · rw [if_neg (by omega)]
theorem own_same_l0 (B : List Int) (L : List S44) (hb : B.length ≤ 16) (hl : L.length ≤ 1024) : ∀ (m i : Nat), i ≤ B.length → B.length - i + 2000 < m → waybillref24_Same.l0 m (i : Int) B L B L = some true
  | 0, i, h, hm => by omega
  | m + 1, i, h, hm => by
    simp only [waybillref24_Same.l0]
    by_cases hi : i < B.length
    · have w2 : wrap64 ((i : Int) + 1) = ((i + 1 : Nat) : Int) := by unfold wrap64; omega
      rw [if_pos (by omega), if_pos (by omega), if_pos (by omega), if_pos trivial, w2]
      exact own_same_l0 B L hb hl m (i + 1) (by omega) (by omega)
    · rw [if_neg (by omega)]
      exact own_same_l1 B L hl m 0 (by omega) (by omega)
theorem own_same_f (B : List Int) (L : List S44) (hb : B.length ≤ 16) (hl : L.length ≤ 1024) (k : Nat) (hk : 3000 ≤ k) : waybillref24_Same.f k B L B L = some true := by
  obtain ⟨k, rfl⟩ : ∃ q, k = q + 1 := ⟨k - 1, by omega⟩
  unfold waybillref24_Same.f
  rw [if_pos rfl]
  have e : ((L.length : Int) != (L.length : Int)) = false := by simp
  rw [e]
  simp only [waybillref24_Same.j0]
  rw [if_neg (by simp)]
  exact own_same_l0 B L hb hl _ 0 (by omega) (by omega)
theorem own_doF (bs : List Int) (L : List S44) (o : S35) : (doF bs L [o]).1.length ≤ 16 ∧ (doF bs L [o]).2.1.length ≤ 1024 := by
  rcases doF_cases bs L [o] with ⟨e, he, h⟩ | ⟨h1, h2, h3, h⟩
  · rw [h]; simp
  · obtain ⟨hm, hl⟩ := whole_made h1
    rw [h]
    have h5 := made_bal (made_all [o] (bs, L) hm (chkAll_ok [o] h2))
    refine ⟨Nat.le_of_eq h5.len, ?_⟩
    show (doAll (bs, L) [o]).1.2.length ≤ 1024
    rw [doAll_log]
    show L.length + _ ≤ _
    omega
theorem own_l1 (bs : List Int) (L : List S44) (o : S35) (B : List Int) : ∀ (m i : Nat) (LG : List S44), i ≤ LG.length → LG.length < 5000000000000 → LG.length - i + 3001 < m → waybilllaw24_LedgerOwn.l1 m (doF bs L [o]).2.2.2 (i : Int) bs L o.f0 o.f1 o.f2 o.f3 B LG (doF bs L [o]).1 (doF bs L [o]).2.1 = some true
  | 0, i, LG, h, hn, hm => by omega
  | m + 1, i, LG, h, hn, hm => by
    simp only [waybilllaw24_LedgerOwn.l1]
    by_cases hi : i < LG.length
    · have w2 : wrap64 ((i : Int) + 1) = ((i + 1 : Nat) : Int) := by unfold wrap64; omega
      rw [if_pos (by omega), if_pos (by omega), w2]
      exact own_l1 bs L o B m (i + 1) _ (by rw [List.length_set]; omega) (by rw [List.length_set]; omega) (by rw [List.length_set]; omega)
    · have hd := own_doF bs L o
      rw [if_neg (by omega)]
      unfold waybillref24_Do.f
      rw [if_pos (by simp), Option.bind_some]
      show (waybillref24_Same.f m (doF bs L [o]).1 (doF bs L [o]).2.1 (doF bs L [o]).1 (doF bs L [o]).2.1).bind _ = _
      rw [own_same_f _ _ hd.1 hd.2 m (by omega), Option.bind_some, if_pos rfl, num_f, Option.bind_some]
      exact congrArg some (beq_self_eq_true _)
theorem own_l0 (bs : List Int) (L : List S44) (o : S35) (LG : List S44) (hLG : LG.length < 5000000000000) : ∀ (m i : Nat) (B : List Int), i ≤ B.length → B.length < 500000000000000 → B.length - i + LG.length + 3003 < m → waybilllaw24_LedgerOwn.l0 m (doF bs L [o]).2.2.2 (i : Int) bs L o.f0 o.f1 o.f2 o.f3 B LG (doF bs L [o]).1 (doF bs L [o]).2.1 = some true
  | 0, i, B, h, hn, hm => by omega
  | m + 1, i, B, h, hn, hm => by
    simp only [waybilllaw24_LedgerOwn.l0]
    by_cases hi : i < B.length
    · have w2 : wrap64 ((i : Int) + 1) = ((i + 1 : Nat) : Int) := by unfold wrap64; omega
      rw [if_pos (by omega), if_pos (by omega), w2]
      exact own_l0 bs L o LG hLG m (i + 1) _ (by rw [List.length_set]; omega) (by rw [List.length_set]; omega) (by rw [List.length_set]; omega)
    · rw [if_neg (by omega)]
      exact own_l1 bs L o B m 0 LG (by omega) hLG (by omega)
theorem LedgerOwn (x0 : S25) (x1 : S35) {p0 p1 q0 q1 qx : Prop} (_ : p0) (_ : p1) (hs0 : (x0.f0.length * 8 ≤ reachBytes ∧ q0) ∧ x0.f1.length * 56 ≤ reachBytes ∧ q1) (_ : qx) : ∃ k, waybilllaw24_LedgerOwn.f k x0.f0 x0.f1 x1.f0 x1.f1 x1.f2 x1.f3 = some true := by
  have h8 := hs0.1.1
  have h56 := hs0.2.1
  simp only [reachBytes] at h8 h56
  refine ⟨x0.f0.length + x0.f1.length + 4000, ?_⟩
  unfold waybilllaw24_LedgerOwn.f
  have e : waybillref24_Own.f x0.f0 x0.f1 = some (x0.f0, x0.f1) := by
    unfold waybillref24_Own.f
    rw [if_pos (by simp; omega), if_pos (by simp; omega)]
    rfl
  rw [alive_f, Option.bind_some, if_pos rfl, e, Option.bind_some, do_f _ _ _ (by simp), Option.bind_some]
  exact own_l0 x0.f0 x0.f1 x1 x0.f1 (by omega) _ 0 x0.f0 (by omega) (by omega) (by omega)
end Go.Proofs.Ytbegdgdghiigpaa.Pure
end
