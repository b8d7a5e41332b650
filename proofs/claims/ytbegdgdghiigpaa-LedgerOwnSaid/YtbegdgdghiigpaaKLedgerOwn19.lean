/- The law LedgerOwn: for every input it returns true; each argument reads behind the call as it read before. -/
import Derived.Test.YtbegdgdghiigpaaKLedgerOwn18
import Derived.ProofKit
import Derived.OpenShut
import Derived.ShutString
import Derived.ChangeOld
set_option linter.unusedVariables false
set_option linter.unusedSimpArgs false
set_option linter.unusedSectionVars false
section
set_option linter.unusedVariables false
set_option linter.unusedSimpArgs false
namespace Go.Proofs.Ytbegdgdghiigpaa.Pure
open WB Go Go.RowKit Go.Proofs.Ytbegdgdghiigpaa.G Go.Proofs.YtbegdgdghiigpaaW.PrintWords Go.Proofs.YtbegdgdghiigpaaW.PrintLast Go.Proofs.YtbegdgdghiigpaaW.PrintMore
theorem change_look {bs : List Int} {o : S35} (h : 2 < o.f0) : changeL bs o = (bs, 0) := by
  unfold changeL
  rw [if_neg (by omega), if_neg (by omega)]
theorem doL_look {s : List Int × List S44} {o : S35} (h : 2 < o.f0) : (doL s o).1 = s ∧ (doL s o).2.f0 = 0 ∧ (doL s o).2.f1 = s.2.length := by
  unfold doL ansL
  dsimp only
  rw [change_look h, if_neg (by omega), if_neg (by omega)]
  exact ⟨rfl, rfl, rfl⟩
theorem doL_once {s : List Int × List S44} {o : S35} (h : o.f0 ≤ 2) : (doL s o).1.2 = s.2 ++ [⟨o, (doL s o).2⟩] ∧ (doL s o).2.f1 = (s.2.length : Int) + 1 := by
  unfold doL ansL
  dsimp only
  rw [if_pos h, if_pos h]
  exact ⟨rfl, rfl⟩
theorem replF_app : ∀ (l r : List S44) (s : List Int × List S44), (replF s l).2.2 = 0 → replF s (l ++ r) = replF ((replF s l).1, (replF s l).2.1) r
  | [], r, s, _ => rfl
  | x :: l, r, s, h0 => by
    rw [List.cons_append]
    by_cases h1 : chkL x.f0 = 0
    · by_cases h2 : 2 < x.f0.f0
      · rw [replF_kind l h1 h2] at h0; cases h0
      · rw [replF_go l h1 h2] at h0 ⊢
        rw [replF_go _ h1 h2]
        split at h0
        · rename_i hh; rw [if_pos hh, if_pos hh]; exact replF_app l r _ h0
        · cases h0
    · rw [replF_bad l h1] at h0; exact absurd h0 h1
def s0 : List Int × List S44 := (List.replicate 16 0, [])
/-- A state that a replay of its log makes. -/
def Made (s : List Int × List S44) : Prop := replF s0 s.2 = (s.1, s.2, 0)
theorem whole_made {bs : List Int} {L : List S44} (h : wholeL bs L = 0) : Made (bs, L) ∧ L.length ≤ 1024 := by
  unfold wholeL at h
  split at h
  · rename_i hh
    have hb := replL_bal L hh.1
    refine ⟨?_, hb.2.2⟩
    have e : replL L = replF s0 L := by unfold replL; rw [if_neg (by omega)]; rfl
    rw [e] at hh hb
    show replF s0 L = (bs, L, 0)
    rw [← hh.2]
    conv => rhs; rw [← hh.1]
    have := hb.2.1
    conv => rhs; rhs; lhs; rw [← this]
  · cases h
theorem made_bal {s : List Int × List S44} (h : Made s) : BalOk s.1 := by
  have := replF_bal s.2 s0 bal0 (by rw [show replF s0 s.2 = _ from h])
  rwa [show replF s0 s.2 = _ from h] at this
theorem made_do {s : List Int × List S44} (h : Made s) {o : S35} (ho : chkL o = 0) : Made (doL s o).1 := by
  by_cases h2 : 2 < o.f0
  · rw [(doL_look h2).1]; exact h
  · have e := (doL_once (s := s) (o := o) (by omega)).1
    unfold Made
    rw [e, replF_app _ _ _ (by rw [show replF s0 s.2 = _ from h]), show replF s0 s.2 = _ from h]
    dsimp only
    rw [replF_go _ (by exact ho) (by exact h2), if_pos ⟨rfl, rfl, rfl⟩]
    show ((doL s o).1.1, (doL s o).1.2, (0 : Int)) = _
    rw [e]
theorem made_all : ∀ (l : List S35) (s : List Int × List S44), Made s → (∀ o ∈ l, chkL o = 0) → Made (doAll s l).1
  | [], s, h, _ => h
  | o :: l, s, h, hl => made_all l _ (made_do h (hl o (by simp))) (fun x hx => hl x (by simp [hx]))
theorem doAll_log : ∀ (l : List S35) (s : List Int × List S44), (doAll s l).1.2.length = s.2.length + nChg l
  | [], s => by simp [doAll, nChg]
  | o :: l, s => by
    simp only [doAll]
    rw [doAll_log l, nChg_cons]
    by_cases h : o.f0 ≤ 2
    · rw [(doL_once h).1, if_pos h]; simp; omega
    · rw [(doL_look (by omega)).1, if_neg h]; omega
theorem doF_cases (bs : List Int) (L : List S44) (ops : List S35) :
    (∃ e, e ≠ 0 ∧ doF bs L ops = ([], [], [], e)) ∨ (wholeL bs L = 0 ∧ chkAll ops = 0 ∧ nChg ops + L.length ≤ 1024 ∧ doF bs L ops = ((doAll (bs, L) ops).1.1, (doAll (bs, L) ops).1.2, (doAll (bs, L) ops).2, 0)) := by
  by_cases h1 : wholeL bs L = 0
  · by_cases h2 : chkAll ops = 0
    · rw [doF_ok h1 h2]
      split
      · exact .inl ⟨72, by decide, rfl⟩
      · exact .inr ⟨h1, h2, by omega, rfl⟩
    · refine .inl ⟨_, h2, ?_⟩
      unfold doF
      rw [if_neg (fun hh => hh h1), if_pos h2]
  · refine .inl ⟨_, h1, ?_⟩
    unfold doF
    rw [if_pos h1]
theorem num_f (x : Int) : waybilllaw24_num.f x = some x := by
  unfold waybilllaw24_num.f
  first | rfl | simp
theorem do_f (bs : List Int) (L : List S44) (ops : List S35) (h : ops.length < 5000000000000) : ledger_Do.f bs L ops = some (doF bs L ops) := by
  unfold ledger_Do.f
  rw [if_pos h]
theorem alive_f : waybilllaw24_alive.f = some true := by
  unfold waybilllaw24_alive.f ledger_New.f
  rw [Option.bind_some, do_f _ _ _ (by simp)]
  kernel_rfl
end Go.Proofs.Ytbegdgdghiigpaa.Pure
namespace Go.Proofs.Ytbegdgdghiigpaa.Pure
open WB Go Go.RowKit Go.Proofs.Ytbegdgdghiigpaa.G Go.Proofs.YtbegdgdghiigpaaW.PrintWords Go.Proofs.YtbegdgdghiigpaaW.PrintLast Go.Proofs.YtbegdgdghiigpaaW.PrintMore
theorem own_same_l1 (B : List Int) (L : List S44) (hl : L.length ≤ 1024) : ∀ (m i : Nat), i ≤ L.length → L.length - i < m → waybillref24_Same.l1 m (i : Int) B L B L = some true
  | 0, i, h, hm => by omega
  | m + 1, i, h, hm => by
    simp only [waybillref24_Same.l1]
    by_cases hi : i < L.length
    · have w2 : wrap64 ((i : Int) + 1) = ((i + 1 : Nat) : Int) := by unfold wrap64; omega
      rw [if_pos (by omega), if_pos (by omega), if_pos (by omega), if_neg (by simp), w2]
      exact own_same_l1 B L hl m (i + 1) (by omega) (by omega)
    · rw [if_neg (by omega)]
theorem own_same_l0 (B : List Int) (L : List S44) (hb : B.length ≤ 16) (hl : L.length ≤ 1024) : ∀ (m i : Nat), i ≤ B.length → B.length - i + 2000 < m → waybillref24_Same.l0 m (i : Int) B L B L = some true
  | 0, i, h, hm => by omega
  | m + 1, i, h, hm => by
    simp only [waybillref24_Same.l0]
    by_cases hi : i < B.length
    · have w2 : wrap64 ((i : Int) + 1) = ((i + 1 : Nat) : Int) := by unfold wrap64; omega
      rw [if_pos (by omega), if_pos (by omega), if_pos (by omega), if_pos trivial, w2]
      exact own_same_l0 B L hb hl m (i + 1) (by omega) (by omega)
    · rw [if_neg (by omega)]
      exact own_same_l1 B L hl m 0 (by omega) (by omega)
theorem own_same_f (B : List Int) (L : List S44) (hb : B.length ≤ 16) (hl : L.length ≤ 1024) (k : Nat) (hk : 3000 ≤ k) : waybillref24_Same.f k B L B L = some true := by
  obtain ⟨k, rfl⟩ : ∃ q, k = q + 1 := ⟨k - 1, by omega⟩
  unfold waybillref24_Same.f
  rw [if_pos rfl]
  have e : ((L.length : Int) != (L.length : Int)) = false := by simp
  rw [e]
  simp only [waybillref24_Same.j0]
  rw [if_neg (by simp)]
  exact own_same_l0 B L hb hl _ 0 (by omega) (by omega)
theorem own_doF (bs : List Int) (L : List S44) (o : S35) : (doF bs L [o]).1.length ≤ 16 ∧ (doF bs L [o]).2.1.length ≤ 1024 := by
  rcases doF_cases bs L [o] with ⟨e, he, h⟩ | ⟨h1, h2, h3, h⟩
  · rw [h]; simp
  · obtain ⟨hm, hl⟩ := whole_made h1
    rw [h]
    have h5 := made_bal (made_all [o] (bs, L) hm (chkAll_ok [o] h2))
    refine ⟨Nat.le_of_eq h5.len, ?_⟩
    show (doAll (bs, L) [o]).1.2.length ≤ 1024
    rw [doAll_log]
    show L.length + _ ≤ _
    omega
theorem own_l1 (bs : List Int) (L : List S44) (o : S35) (B : List Int) : ∀ (m i : Nat) (LG : List S44), i ≤ LG.length → LG.length < 5000000000000 → LG.length - i + 3001 < m → waybilllaw24_LedgerOwn.l1 m (doF bs L [o]).2.2.2 (i : Int) bs L o.f0 o.f1 o.f2 o.f3 B LG (doF bs L [o]).1 (doF bs L [o]).2.1 = some true
  | 0, i, LG, h, hn, hm => by omega
  | m + 1, i, LG, h, hn, hm => by
    simp only [waybilllaw24_LedgerOwn.l1]
    by_cases hi : i < LG.length
    · have w2 : wrap64 ((i : Int) + 1) = ((i + 1 : Nat) : Int) := by unfold wrap64; omega
      rw [if_pos (by omega), if_pos (by omega), w2]
      exact own_l1 bs L o B m (i + 1) _ (by rw [List.length_set]; omega) (by rw [List.length_set]; omega) (by rw [List.length_set]; omega)
    · have hd := own_doF bs L o
      rw [if_neg (by omega)]
      unfold waybillref24_Do.f
      rw [if_pos (by simp), Option.bind_some]
      show (waybillref24_Same.f m (doF bs L [o]).1 (doF bs L [o]).2.1 (doF bs L [o]).1 (doF bs L [o]).2.1).bind _ = _
      rw [own_same_f _ _ hd.1 hd.2 m (by omega), Option.bind_some, if_pos rfl, num_f, Option.bind_some]
      exact congrArg some (beq_self_eq_true _)
theorem own_l0 (bs : List Int) (L : List S44) (o : S35) (LG : List S44) (hLG : LG.length < 5000000000000) : ∀ (m i : Nat) (B : List Int), i ≤ B.length → B.length < 500000000000000 → B.length - i + LG.length + 3003 < m → waybilllaw24_LedgerOwn.l0 m (doF bs L [o]).2.2.2 (i : Int) bs L o.f0 o.f1 o.f2 o.f3 B LG (doF bs L [o]).1 (doF bs L [o]).2.1 = some true
  | 0, i, B, h, hn, hm => by omega
  | m + 1, i, B, h, hn, hm => by
    simp only [waybilllaw24_LedgerOwn.l0]
    by_cases hi : i < B.length
    · have w2 : wrap64 ((i : Int) + 1) = ((i + 1 : Nat) : Int) := by unfold wrap64; omega
      rw [if_pos (by omega), if_pos (by omega), w2]
      exact own_l0 bs L o LG hLG m (i + 1) _ (by rw [List.length_set]; omega) (by rw [List.length_set]; omega) (by rw [List.length_set]; omega)
    · rw [if_neg (by omega)]
      exact own_l1 bs L o B m 0 LG (by omega) hLG (by omega)
theorem LedgerOwn (x0 : S25) (x1 : S35) {p0 p1 q0 q1 qx : Prop} (_ : p0) (_ : p1) (hs0 : (x0.f0.length * 8 ≤ reachBytes ∧ q0) ∧ x0.f1.length * 56 ≤ reachBytes ∧ q1) (_ : qx) : ∃ k, waybilllaw24_LedgerOwn.f k x0.f0 x0.f1 x1.f0 x1.f1 x1.f2 x1.f3 = some true := by
  have h8 := hs0.1.1
  have h56 := hs0.2.1
  simp only [reachBytes] at h8 h56
  refine ⟨x0.f0.length + x0.f1.length + 4000, ?_⟩
  unfold waybilllaw24_LedgerOwn.f
  have e : waybillref24_Own.f x0.f0 x0.f1 = some (x0.f0, x0.f1) := by
    unfold waybillref24_Own.f
    rw [if_pos (by simp; omega), if_pos (by simp; omega)]
    rfl
  rw [alive_f, Option.bind_some, if_pos rfl, e, Option.bind_some, do_f _ _ _ (by simp), Option.bind_some]
  exact own_l0 x0.f0 x0.f1 x1 x0.f1 (by omega) _ 0 x0.f0 (by omega) (by omega) (by omega)
end Go.Proofs.Ytbegdgdghiigpaa.Pure
end

section
namespace Go.Proofs.Ytbegdgdghiigpaa.ledgerOwn
open Go.ChangeShapes Go.WideShapes Go.ChangeAt Go.RowKit Go.Proofs.Ytbegdgdghiigpaa.G Go.Proofs.YtbegdgdghiigpaaW.PrintWords
set_option linter.unusedVariables false
set_option linter.defProp false
theorem own : ownKnob Try.prog.godebug = none := by kernel_rfl
theorem laidOut : laidOutB Try.prog = true := by kernel_rfl
def op35 := WB.Op.struct (P := Try.prog) (fun x : S35 => (x.f0, x.f1, x.f2, x.f3)) (fun b => (⟨b.1, b.2.1, b.2.2.1, b.2.2.2⟩ : S35)) (fun _ => rfl) Try.underlying35 (by kernel_rfl) (WB.OpF.cons (WB.Op.int Try.underlying3) rfl (by kernel_rfl) (WB.OpF.cons (WB.Op.int Try.underlying3) rfl (by kernel_rfl) (WB.OpF.cons (WB.Op.int Try.underlying3) rfl (by kernel_rfl) (WB.OpF.one (off := _) (WB.Op.int Try.underlying3) rfl (by kernel_rfl)))))
def op37 := WB.Op.struct (P := Try.prog) (fun x : S37 => (x.f0, x.f1, x.f2)) (fun b => (⟨b.1, b.2.1, b.2.2⟩ : S37)) (fun _ => rfl) Try.underlying37 (by kernel_rfl) (WB.OpF.cons (WB.Op.int Try.underlying3) rfl (by kernel_rfl) (WB.OpF.cons (WB.Op.int Try.underlying3) rfl (by kernel_rfl) (WB.OpF.one (off := _) (WB.Op.int Try.underlying3) rfl (by kernel_rfl))))
def op44 := WB.Op.struct (P := Try.prog) (fun x : S44 => (x.f0, x.f1)) (fun b => (⟨b.1, b.2⟩ : S44)) (fun _ => rfl) Try.underlying44 (by kernel_rfl) (WB.OpF.cons op35 rfl (by kernel_rfl) (WB.OpF.one (off := _) op37 rfl (by kernel_rfl)))
def op25 := WB.Op.struct (P := Try.prog) (fun x : S25 => (x.f0, x.f1)) (fun b => (⟨b.1, b.2⟩ : S25)) (fun _ => rfl) Try.underlying25 (by kernel_rfl) (WB.OpF.cons (WB.Op.slice (WB.Op.int Try.underlying3) Try.underlying22 (by kernel_rfl) (B := 8) (by kernel_rfl)) rfl (by kernel_rfl) (WB.OpF.one (off := _) (WB.Op.slice op44 Try.underlying23 (by kernel_rfl) (B := 56) (by kernel_rfl)) rfl (by kernel_rfl)))
set_option maxRecDepth 100000 in
set_option maxHeartbeats 1000000 in
theorem lifted (os : Os) (started : os.Started) (H : Type) (enc : TypeId × Value → H) :
    ReturnsInHanded {} Try.checked os 5 .any (Rows.ledgerOwnSpec.pre6 enc Try.prog Try.f5 Rows.ledgerOwnRow.domain false) (Rows.ledgerOwnSpec.post enc Try.prog Try.f5 false true false false) := by
  refine returnsInHanded_of_change_sized (C := Try.checked) own started (by kernel_rfl) Try.func5
    (ChangeSpec.witness6 (enc := enc) (C := Try.checked) false ⟨#[], #[.agg #[.slice none 0 0, .slice none 0 0], .agg #[.int .i64 0, .int .i64 0, .int .i64 0, .int .i64 0]], []⟩ 12 (by kernel_rfl) (by kernel_rfl) (by kernel_rfl) (by kernel_rfl)) ?_
  intro W base args ds gs before hval0 hW hcnd hsz0 _
  have hsz : (DataW.weightsEach Try.prog (Try.f5.params.toList ++ Rows.ledgerOwnSpec.plain.varTypes Try.prog) (ds ++ gs)).all (· ≤ reachBytes) = true := hsz0
  have hval : ∀ (j : Nat) t v, Try.f5.params[j]? = some t → args[j]? = some v → Value.okWide Try.prog W .any base t v := hval0
  have hW' := hW
  obtain ⟨p, q, hA0, hV, rfl, hfz, hnd⟩ := hW
  have hA : DataW.TrodAll enc Try.prog W 0 (fun _ => true) true Try.f5.params.toList args.toList ds p := hA0
  rw [Try.params5] at hA hval hsz
  obtain ⟨v0, vs0, d0, ds0, p0, q0, hargs, rfl, rfl, h0, r0⟩ := trodAll_cons hA
  obtain ⟨v1, vs1, d1, ds1, p1, q1, rfl, rfl, rfl, h1, r1⟩ := trodAll_cons r0
  obtain ⟨rfl, rfl, rfl⟩ := trodAll_nil r1
  obtain rfl : args = #[v0, v1] := by cases args; simp_all
  obtain ⟨rfl, rfl⟩ := trodVars_none hV
  have k0 := h0
  have lt0 : ∀ x ∈ p0, x.block < W.heap.size := by obtain ⟨m, hm⟩ := k0; exact DataW.trod_lt m _ _ _ hm
  obtain ⟨fuel0, hf0⟩ := h0
  obtain ⟨x0, hK0, hw0, hb0, hs0⟩ := op25 H enc W fuel0 _ _ hf0
  have hs0 := hs0 (by rw [List.all_eq_true] at hsz ⊢; exact fun m hm => hsz m (DataW.weights_mem_each (j := 0) (t := 25) (d := d0) rfl rfl m hm))
  obtain ⟨A0_0, c0_0, A0_1, c0_1, hcs0, hc0_0, hr0_0, hc0_1, hr0_1⟩ := k25_open hK0
  obtain rfl : v0 = .agg #[.slice A0_0 x0.f0.length c0_0, .slice A0_1 x0.f1.length c0_1] := by
    obtain ⟨ys, rfl, _⟩ := okWide_struct Try.underlying25 (hval 0 25 v0 rfl rfl)
    have hcs' : ys.toList = _ := hcs0
    rw [show ys = ys.toList.toArray by simp, hcs']
  have k1 := h1
  have lt1 : ∀ x ∈ p1, x.block < W.heap.size := by obtain ⟨m, hm⟩ := k1; exact DataW.trod_lt m _ _ _ hm
  obtain ⟨fuel1, hf1⟩ := h1
  obtain ⟨x1, hK1, hw1, hb1, hs1⟩ := op35 H enc W fuel1 _ _ hf1
  have hs1 := hs1 (by rw [List.all_eq_true] at hsz ⊢; exact fun m hm => hsz m (DataW.weights_mem_each (j := 1) (t := 35) (d := d1) rfl rfl m hm))
  have hcs1 := k35_open hK1
  obtain rfl : v1 = .agg #[.int .i64 x1.f0, .int .i64 x1.f1, .int .i64 x1.f2, .int .i64 x1.f3] := by
    obtain ⟨ys, rfl, _⟩ := okWide_struct Try.underlying35 (hval 1 35 v1 rfl rfl)
    have hcs' : ys.toList = _ := hcs1
    rw [show ys = ys.toList.toArray by simp, hcs']
  have hP := Pure.LedgerOwn x0 x1 hw0 hw1 hs0 hs1
  obtain ⟨k, hP⟩ := hP
  clear hA0 hval0 hsz0 hsz
  refine (waybilllaw24_LedgerOwn.calls k A0_0 c0_0 x0.f0 A0_1 c0_1 x0.f1 x1.f0 x1.f1 x1.f2 x1.f3 true W hr0_0 hc0_0 hr0_1 hc0_1 hP rfl).mono ?_
  rintro e W' ⟨rfl, hd⟩
  have bel : Below W.heap.size W W' := hd
  exact ⟨_, rfl, _, _, _, [], _, [], hW', trodAll_mk1 (shut_bool Try.underlying4 _), (trodAll_cons_mk (Below.trod laidOut (by kernel_rfl) (of_decide_eq_true (by kernel_rfl)) k0 bel lt0) (trodAll_cons_mk (Below.trod laidOut (by kernel_rfl) (of_decide_eq_true (by kernel_rfl)) k1 bel lt1) trodAll_mk0)), rfl, bel.frame _, fun h => by cases h⟩
theorem over : Rows.ledgerOwnRow.holds Try.pinned (OpenSpec.ofChange Rows.ledgerOwnSpec) :=
  OpenClaim.holds_of_wide 5 Try.f5 rfl rfl rfl rfl rfl rfl rfl ⟨rfl, rfl, rfl, rfl, rfl⟩ rfl rfl rfl rfl rfl (by kernel_rfl) Try.func5 (by kernel_rfl)
    (of_decide_eq_true (by kernel_rfl)) (by unfold Func.isWrapper; first | (rw [if_pos (by decide +kernel)]; kernel_rfl) | (rw [if_neg (by decide +kernel)]; exact ⟨rfl, rfl⟩))
    (fun os started H enc _ => lifted os started H enc)
end Go.Proofs.Ytbegdgdghiigpaa.ledgerOwn
namespace Go.Proofs.Ytbegdgdghiigpaa
/-- The row. -/
theorem ledgerOwn_holds : Rows.LedgerOwnSaid := ledgerOwn.over
#print axioms ledgerOwn_holds
end Go.Proofs.Ytbegdgdghiigpaa
end
