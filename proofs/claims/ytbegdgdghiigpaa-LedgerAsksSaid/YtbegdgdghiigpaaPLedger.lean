/- The ledger in plain words: sums, what a replay makes of a log that went on. No program here. -/
import Derived.Test.YtbegdgdghiigpaaQBase
import Derived.Test.YtbegdgdghiigpaaQOpen
import Derived.Test.YtbegdgdghiigpaaGx18
import Derived.Test.YtbegdgdghiigpaaGx19
import Derived.Test.YtbegdgdghiigpaaGx20
import Derived.Test.YtbegdgdghiigpaaGx21
set_option linter.unusedVariables false
set_option linter.unusedSimpArgs false
namespace Go.Proofs.Ytbegdgdghiigpaa.Pure
open WB Go Go.RowKit Go.Proofs.Ytbegdgdghiigpaa.G Go.Proofs.YtbegdgdghiigpaaW.PrintWords Go.Proofs.YtbegdgdghiigpaaW.PrintLast Go.Proofs.YtbegdgdghiigpaaW.PrintMore
theorem foldl_add (l : List Int) : ∀ a : Int, l.foldl (· + ·) a = a + isum l := by
  induction l with
  | nil => intro a; simp [isum]
  | cons x l ih =>
    intro a
    have h1 := ih (a + x)
    have h2 := ih (0 + x)
    unfold isum
    rw [List.foldl_cons, List.foldl_cons, h1, h2]
    omega
theorem isum_cons (x : Int) (l : List Int) : isum (x :: l) = x + isum l := by
  have h := foldl_add l (0 + x)
  unfold isum at h ⊢
  rw [List.foldl_cons, h]
  omega
theorem isum_set : ∀ (l : List Int) (k : Nat) (x : Int), k < l.length → isum (l.set k x) = isum l - l.getD k 0 + x
  | [], k, x, h => by simp at h
  | y :: l, 0, x, h => by rw [List.set_cons_zero, isum_cons, isum_cons]; simp; omega
  | y :: l, k + 1, x, h => by
    rw [List.set_cons_succ, isum_cons, isum_cons, isum_set l k x (by simpa using h)]
    simp
    omega
theorem turn_sum {bs : List Int} {k : Nat} {d : Int} (h : k < bs.length) : isum (turnL bs k d).1 = isum bs + (if (turnL bs k d).2 = true then d else 0) := by
  unfold turnL
  split
  · simp
  · rw [isum_set _ _ _ h]; simp; omega
theorem turn_len (bs : List Int) (k : Nat) (d : Int) : (turnL bs k d).1.length = bs.length := by
  unfold turnL
  split
  · rfl
  · simp
/-- What was turned is turned back. -/
theorem turn_back {bs : List Int} (hb : BalOk bs) {k : Nat} {d : Int} (hk : k < bs.length) (h : (turnL bs k d).2 = true) : (turnL (turnL bs k d).1 k (-d)).1 = bs ∧ (turnL (turnL bs k d).1 k (-d)).2 = true := by
  have hg := hb.get k
  have h1 : ¬ (bs.getD k 0 + d < 0 ∨ 1073741824 < bs.getD k 0 + d) := by
    intro hh
    unfold turnL at h
    rw [if_pos hh] at h
    cases h
  have e : turnL bs k d = (bs.set k (bs.getD k 0 + d), true) := by unfold turnL; rw [if_neg h1]
  rw [e]
  have g : (bs.set k (bs.getD k 0 + d)).getD k 0 = bs.getD k 0 + d := by
    rw [List.getD_eq_getElem?_getD, List.getElem?_set_self hk]; rfl
  have g2 : bs.set k (bs.getD k 0) = bs := by
    rw [List.getD_eq_getElem?_getD, List.getElem?_eq_getElem hk]
    simp
  unfold turnL
  dsimp only
  rw [g, if_neg (by omega)]
  dsimp only
  rw [List.set_set]
  have : bs.getD k 0 + d + -d = bs.getD k 0 := by omega
  rw [this, g2]
  exact ⟨rfl, rfl⟩
/-- A change: the sum, and what is refused. -/
theorem change_sum {bs : List Int} (hb : BalOk bs) {o : S35} (ho : OpOk o) : isum (changeL bs o).1 = isum bs + (if o.f0 = 1 ∧ (changeL bs o).2 = 0 then o.f3 else 0) := by
  have hk : o.f1.toNat < bs.length := by have := hb.len; have := ho.k1; have := ho.k2; omega
  have hk2 : o.f2.toNat < bs.length := by have := hb.len; have := ho.o1; have := ho.o2; omega
  unfold changeL
  by_cases h1 : o.f0 = 1
  · rw [if_pos h1]
    split
    · rename_i h; rw [turn_sum hk, if_pos h]; simp [h1]
    · simp
  · rw [if_neg h1]
    by_cases h2 : o.f0 = 2
    · rw [if_pos h2]
      by_cases h3 : (turnL bs o.f1.toNat (-o.f3)).2 = true
      · rw [if_pos h3]
        by_cases h4 : (turnL (turnL bs o.f1.toNat (-o.f3)).1 o.f2.toNat o.f3).2 = true
        · rw [if_pos h4]
          dsimp only
          rw [turn_sum (by rw [turn_len]; exact hk2), if_pos h4, turn_sum hk, if_pos h3, if_neg (by omega)]
          omega
        · rw [if_neg h4]
          have hbk := (turn_back hb hk h3).1
          rw [show - -o.f3 = o.f3 by omega] at hbk
          dsimp only
          rw [hbk, if_neg (by omega)]
          omega
      · rw [if_neg h3, if_neg (by simp)]; simp
    · rw [if_neg h2, if_neg (by omega)]; simp
theorem change_look {bs : List Int} {o : S35} (h : 2 < o.f0) : changeL bs o = (bs, 0) := by
  unfold changeL
  rw [if_neg (by omega), if_neg (by omega)]
theorem doL_look {s : List Int × List S44} {o : S35} (h : 2 < o.f0) : (doL s o).1 = s ∧ (doL s o).2.f0 = 0 ∧ (doL s o).2.f1 = s.2.length := by
  unfold doL ansL
  dsimp only
  rw [change_look h, if_neg (by omega), if_neg (by omega)]
  exact ⟨rfl, rfl, rfl⟩
theorem doL_once {s : List Int × List S44} {o : S35} (h : o.f0 ≤ 2) : (doL s o).1.2 = s.2 ++ [⟨o, (doL s o).2⟩] ∧ (doL s o).2.f1 = (s.2.length : Int) + 1 := by
  unfold doL ansL
  dsimp only
  rw [if_pos h, if_pos h]
  exact ⟨rfl, rfl⟩
theorem replF_app : ∀ (l r : List S44) (s : List Int × List S44), (replF s l).2.2 = 0 → replF s (l ++ r) = replF ((replF s l).1, (replF s l).2.1) r
  | [], r, s, _ => rfl
  | x :: l, r, s, h0 => by
    rw [List.cons_append]
    by_cases h1 : chkL x.f0 = 0
    · by_cases h2 : 2 < x.f0.f0
      · rw [replF_kind l h1 h2] at h0; cases h0
      · rw [replF_go l h1 h2] at h0 ⊢
        rw [replF_go _ h1 h2]
        split at h0
        · rename_i hh; rw [if_pos hh, if_pos hh]; exact replF_app l r _ h0
        · cases h0
    · rw [replF_bad l h1] at h0; exact absurd h0 h1
def s0 : List Int × List S44 := (List.replicate 16 0, [])
/-- A state that a replay of its log makes. -/
def Made (s : List Int × List S44) : Prop := replF s0 s.2 = (s.1, s.2, 0)
theorem made_whole {s : List Int × List S44} (h : Made s) (hl : s.2.length ≤ 1024) : wholeL s.1 s.2 = 0 := by
  have e : replL s.2 = (s.1, s.2, 0) := by unfold replL; rw [if_neg (by omega)]; exact h
  unfold wholeL
  rw [e, if_pos ⟨rfl, rfl⟩]
theorem whole_made {bs : List Int} {L : List S44} (h : wholeL bs L = 0) : Made (bs, L) ∧ L.length ≤ 1024 := by
  unfold wholeL at h
  split at h
  · rename_i hh
    have hb := replL_bal L hh.1
    refine ⟨?_, hb.2.2⟩
    have e : replL L = replF s0 L := by unfold replL; rw [if_neg (by omega)]; rfl
    rw [e] at hh hb
    show replF s0 L = (bs, L, 0)
    rw [← hh.2]
    conv => rhs; rw [← hh.1]
    have := hb.2.1
    conv => rhs; rhs; lhs; rw [← this]
  · cases h
theorem made_s0 : Made s0 := rfl
theorem made_bal {s : List Int × List S44} (h : Made s) : BalOk s.1 := by
  have := replF_bal s.2 s0 bal0 (by rw [show replF s0 s.2 = _ from h])
  rwa [show replF s0 s.2 = _ from h] at this
theorem made_do {s : List Int × List S44} (h : Made s) {o : S35} (ho : chkL o = 0) : Made (doL s o).1 := by
  by_cases h2 : 2 < o.f0
  · rw [(doL_look h2).1]; exact h
  · have e := (doL_once (s := s) (o := o) (by omega)).1
    unfold Made
    rw [e, replF_app _ _ _ (by rw [show replF s0 s.2 = _ from h]), show replF s0 s.2 = _ from h]
    dsimp only
    rw [replF_go _ (by exact ho) (by exact h2), if_pos ⟨rfl, rfl, rfl⟩]
    show ((doL s o).1.1, (doL s o).1.2, (0 : Int)) = _
    rw [e]
theorem made_all : ∀ (l : List S35) (s : List Int × List S44), Made s → (∀ o ∈ l, chkL o = 0) → Made (doAll s l).1
  | [], s, h, _ => h
  | o :: l, s, h, hl => made_all l _ (made_do h (hl o (by simp))) (fun x hx => hl x (by simp [hx]))
theorem doAll_log : ∀ (l : List S35) (s : List Int × List S44), (doAll s l).1.2.length = s.2.length + nChg l
  | [], s => by simp [doAll, nChg]
  | o :: l, s => by
    simp only [doAll]
    rw [doAll_log l, nChg_cons]
    by_cases h : o.f0 ≤ 2
    · rw [(doL_once h).1, if_pos h]; simp; omega
    · rw [(doL_look (by omega)).1, if_neg h]; omega
theorem doAll_len : ∀ (l : List S35) (s : List Int × List S44), (doAll s l).2.length = l.length
  | [], s => rfl
  | o :: l, s => by simp only [doAll, List.length_cons]; rw [doAll_len l]
theorem doAll_pre : ∀ (l : List S35) (s : List Int × List S44), ∃ r, (doAll s l).1.2 = s.2 ++ r
  | [], s => ⟨[], by simp [doAll]⟩
  | o :: l, s => by
    obtain ⟨r, hr⟩ := doAll_pre l (doL s o).1
    simp only [doAll]
    by_cases h : o.f0 ≤ 2
    · rw [hr, (doL_once h).1]; exact ⟨_, List.append_assoc _ _ _⟩
    · rw [hr, (doL_look (by omega)).1]; exact ⟨_, rfl⟩
theorem doF_cases (bs : List Int) (L : List S44) (ops : List S35) :
    (∃ e, e ≠ 0 ∧ doF bs L ops = ([], [], [], e)) ∨ (wholeL bs L = 0 ∧ chkAll ops = 0 ∧ nChg ops + L.length ≤ 1024 ∧ doF bs L ops = ((doAll (bs, L) ops).1.1, (doAll (bs, L) ops).1.2, (doAll (bs, L) ops).2, 0)) := by
  by_cases h1 : wholeL bs L = 0
  · by_cases h2 : chkAll ops = 0
    · rw [doF_ok h1 h2]
      split
      · exact .inl ⟨72, by decide, rfl⟩
      · exact .inr ⟨h1, h2, by omega, rfl⟩
    · refine .inl ⟨_, h2, ?_⟩
      unfold doF
      rw [if_neg (fun hh => hh h1), if_pos h2]
  · refine .inl ⟨_, h1, ?_⟩
    unfold doF
    rw [if_pos h1]
theorem num_f (x : Int) : waybilllaw24_num.f x = some x := by
  unfold waybilllaw24_num.f
  first | rfl | simp
theorem do_f (bs : List Int) (L : List S44) (ops : List S35) (h : ops.length < 5000000000000) : ledger_Do.f bs L ops = some (doF bs L ops) := by
  unfold ledger_Do.f
  rw [if_pos h]
theorem alive_f : waybilllaw24_alive.f = some true := by
  unfold waybilllaw24_alive.f ledger_New.f
  rw [Option.bind_some, do_f _ _ _ (by simp)]
  kernel_rfl
theorem total_l0 (l : List Int) (L : List S44) (hb : BalOk l) : ∀ m i, i ≤ 16 → 16 - i < m → waybilllaw24_total.l0 m (isum (l.take i)) (i : Int) l L = some (isum l)
  | 0, i, h, hm => by omega
  | m + 1, i, h, hm => by
    have hlen := hb.len
    simp only [waybilllaw24_total.l0]
    by_cases hi : i < 16
    · have e0 : rd l (i : Int) = l[i]'(by omega) := by simp [rd, List.getElem?_eq_getElem (show i < l.length by omega)]
      have e1 : isum (l.take (i + 1)) = isum (l.take i) + l[i]'(by omega) := by rw [List.take_succ_eq_append_getElem (show i < l.length by omega), isum_snoc]
      have b1 := isum_bd l hb i (by omega)
      have b2 := isum_bd l hb (i + 1) (by omega)
      have w1 : wrap64 (isum (l.take i) + l[i]'(by omega)) = isum (l.take (i + 1)) := by rw [e1] at b2 ⊢; unfold wrap64; omega
      have w2 : wrap64 ((i : Int) + 1) = ((i + 1 : Nat) : Int) := by unfold wrap64; omega
      rw [if_pos (by omega), if_pos (by omega), e0, w1, w2]
      exact total_l0 l L hb m (i + 1) (by omega) (by omega)
    · rw [if_neg (by omega), List.take_of_length_le (by omega)]
theorem total_f (l : List Int) (L : List S44) (hb : BalOk l) (k : Nat) (hk : 16 < k) : waybilllaw24_total.f k l L = some (isum l) := total_l0 l L hb k 0 (by omega) (by omega)
theorem doAll_take : ∀ (l : List S35) (s : List Int × List S44) (i : Nat) (h : i < l.length), (doAll s (l.take (i + 1))).1 = (doL (doAll s (l.take i)).1 l[i]).1 ∧ (doAll s l).2[i]? = some (doL (doAll s (l.take i)).1 l[i]).2
  | o :: l, s, 0, h => by simp [doAll]
  | o :: l, s, i + 1, h => by
    have ih := doAll_take l (doL s o).1 i (by simpa using h)
    simp only [List.take_succ_cons, doAll, List.getElem_cons_succ, List.getElem?_cons_succ]
    exact ih
theorem doAll_split : ∀ (l : List S35) (s : List Int × List S44) (i : Nat), (doAll s l).1 = (doAll (doAll s (l.take i)).1 (l.drop i)).1
  | l, s, 0 => by simp [doAll]
  | [], s, i + 1 => by simp [doAll]
  | o :: l, s, i + 1 => by
    simp only [List.take_succ_cons, List.drop_succ_cons, doAll]
    exact doAll_split l _ i
end Go.Proofs.Ytbegdgdghiigpaa.Pure
