/- LedgerOwn: texts of this claim, packed: what the kit's print has written for it and own texts, without what its proof does not reach. -/
import Derived.Test.YtbegdgdghiigpaaKLedgerOwn12
import Derived.Test.YtbegdgdghiigpaaKLedgerOwn13
import Derived.Test.YtbegdgdghiigpaaKLedgerOwn14
import Derived.Test.YtbegdgdghiigpaaKLedgerOwn15
import Derived.Test.YtbegdgdghiigpaaKLedgerOwn16
set_option linter.unusedVariables false
set_option linter.unusedSimpArgs false
set_option linter.unusedSectionVars false
section
namespace Go.Proofs.Ytbegdgdghiigpaa.G
open WB Go.RowKit Go.Proofs.YtbegdgdghiigpaaW.PrintWords Go.Proofs.YtbegdgdghiigpaaW.PrintLast Go.Proofs.YtbegdgdghiigpaaW.PrintMore
attribute [local go_sem] max2_int min2_int max_two min_two max_three min_three max_four min_four   -- for this text's walks alone
set_option linter.unusedVariables false
set_option linter.unusedSimpArgs false
theorem equal_l0 (l0 l1 : List Int) (hl : l0.length = l1.length) (hb : l0.length < 1000) : ∀ m i, i ≤ l0.length → l0.length - i < m → slices_Equal_int_int.l0 m l0 l1 (l0.length : Int) (i : Int) = some (decide (l0.drop i = l1.drop i))
  | 0, i, h, hm => by omega
  | m + 1, i, h, hm => by
    simp only [slices_Equal_int_int.l0]
    by_cases hi : i < l0.length
    · have h1 : ((i : Int) < (l0.length : Int)) := by omega
      have h2 : ((i : Int) < (l1.length : Int)) := by omega
      have h3 : (0 : Int) ≤ i := by omega
      have e0 : rd l0 (i : Int) = l0[i] := by simp [rd, List.getElem?_eq_getElem hi]
      have e1 : rd l1 (i : Int) = l1[i]'(by omega) := by simp [rd, List.getElem?_eq_getElem (show i < l1.length by omega)]
      have d0 := List.drop_eq_getElem_cons hi
      have d1 := List.drop_eq_getElem_cons (show i < l1.length by omega)
      rw [if_pos h1, if_pos h3, if_pos h1, if_pos h2, e0, e1, d0, d1]
      by_cases he : l0[i] = l1[i]'(by omega)
      · have hw : wrap64 ((i : Int) + 1) = ((i + 1 : Nat) : Int) := by unfold wrap64; omega
        rw [if_pos he, hw, equal_l0 l0 l1 hl hb m (i + 1) (by omega) (by omega)]
        exact congrArg some (decide_eq_decide.2 ⟨fun h => by rw [he, h], fun h => (List.cons.inj h).2⟩)
      · rw [if_neg he]
        exact congrArg some (decide_eq_false (fun h => he (List.cons.inj h).1)).symm
    · rw [if_neg (by omega), List.drop_of_length_le (by omega), List.drop_of_length_le (by omega)]
      simp
theorem equal_f (l0 l1 : List Int) (h : l0.length ≤ 16) : slices_Equal_int_int.f 20 l0 l1 = some (decide (l0 = l1)) := by
  unfold slices_Equal_int_int.f
  by_cases hl : l0.length = l1.length
  · rw [if_pos (by omega)]
    exact equal_l0 l0 l1 hl (by omega) 20 0 (by omega) (by omega)
  · rw [if_neg (by omega)]
    have : ¬ l0 = l1 := fun he => hl (by rw [he])
    simp [this]
def nChg (l : List S35) : Nat := (l.filter fun o => decide (o.f0 ≤ 2)).length
theorem nChg_cons (o : S35) (l : List S35) : nChg (o :: l) = (if o.f0 ≤ 2 then 1 else 0) + nChg l := by
  unfold nChg
  by_cases h : o.f0 ≤ 2 <;> simp [h]; omega
theorem nChg_le (l : List S35) : nChg l ≤ l.length := List.length_filter_le _ _
theorem changes_l0 (l : List S35) (hb : l.length < 9223372036854775807) : ∀ m i (c : Nat), i ≤ l.length → c ≤ i → l.length - i < m → ledger_changes.l0 m (c : Int) l (l.length : Int) (i : Int) = some ((c : Int) + nChg (l.drop i))
  | 0, i, c, h, hc, hm => by omega
  | m + 1, i, c, h, hc, hm => by
    simp only [ledger_changes.l0]
    by_cases hi : i < l.length
    · have h1 : ((i : Int) < (l.length : Int)) := by omega
      have h3 : (0 : Int) ≤ i := by omega
      have e0 : rd_T35 l (i : Int) = l[i] := by simp [rd_T35, List.getElem?_eq_getElem hi]
      have hw : wrap64 ((i : Int) + 1) = ((i + 1 : Nat) : Int) := by unfold wrap64; omega
      have hw2 : wrap64 ((c : Int) + 1) = ((c + 1 : Nat) : Int) := by unfold wrap64; omega
      rw [if_pos h1, if_pos h3, if_pos h1, e0, hw, hw2, List.drop_eq_getElem_cons hi, nChg_cons]
      by_cases hx : l[i].f0 ≤ 2
      · rw [if_pos hx, changes_l0 l hb m (i + 1) (c + 1) (by omega) (by omega) (by omega), if_pos hx]
        congr 1
        omega
      · rw [if_neg hx, changes_l0 l hb m (i + 1) c (by omega) (by omega) (by omega), if_neg hx]
        congr 1
        omega
    · rw [if_neg (by omega), List.drop_of_length_le (by omega)]
      simp [nChg]
theorem changes_f (l : List S35) (hb : l.length < 9223372036854775807) : ledger_changes.f (l.length + 1) l = some (nChg l : Int) := by
  unfold ledger_changes.f
  have := changes_l0 l hb (l.length + 1) 0 0 (by omega) (by omega) (by omega)
  simpa using this
theorem doL_bal {s : List Int × List S44} (h : BalOk s.1) (o : S35) : BalOk (doL s o).1.1 := change_ok h o
theorem replF_bal : ∀ (l : List S44) (s : List Int × List S44), BalOk s.1 → (replF s l).2.2 = 0 → BalOk (replF s l).1
  | [], s, h, _ => h
  | x :: r, s, h, h0 => by
    by_cases h1 : chkL x.f0 = 0
    · by_cases h2 : 2 < x.f0.f0
      · rw [replF_kind r h1 h2] at h0; cases h0
      · rw [replF_go r h1 h2] at h0 ⊢
        split at h0
        · rename_i hh; rw [if_pos hh]; exact replF_bal r _ (doL_bal h _) h0
        · cases h0
    · rw [replF_bad r h1] at h0; exact absurd h0 h1
theorem replF_log : ∀ (l : List S44) (s : List Int × List S44), (replF s l).2.2 = 0 → (replF s l).2.1 = s.2 ++ l
  | [], s, _ => by simp [replF]
  | x :: r, s, h0 => by
    by_cases h1 : chkL x.f0 = 0
    · by_cases h2 : 2 < x.f0.f0
      · rw [replF_kind r h1 h2] at h0; cases h0
      · rw [replF_go r h1 h2] at h0 ⊢
        split at h0
        · rename_i hh
          rw [if_pos hh, replF_log r _ h0]
          have e : (doL s x.f0).1.2 = s.2 ++ [⟨x.f0, (doL s x.f0).2⟩] := by simp only [doL]; rw [if_pos (by omega)]
          have e2 : (⟨x.f0, (doL s x.f0).2⟩ : S44) = x := by
            obtain ⟨xo, ⟨ra, rb, rc⟩⟩ := x
            obtain ⟨q1, q2, q3⟩ := hh
            dsimp only at q1 q2 q3 ⊢
            rw [← q1, ← q2, ← q3]
          rw [e, e2]
          simp
        · cases h0
    · rw [replF_bad r h1] at h0; exact absurd h0 h1
theorem bal0 : BalOk (List.replicate 16 (0 : Int)) := ⟨rfl, by intro x hx; rw [List.eq_of_mem_replicate hx]; omega⟩
theorem replL_bal (l : List S44) (h : (replL l).2.2 = 0) : BalOk (replL l).1 ∧ (replL l).2.1 = l ∧ l.length ≤ 1024 := by
  unfold replL at h ⊢
  split at h
  · cases h
  · rename_i hh
    rw [if_neg hh]
    exact ⟨replF_bal l _ bal0 h, by rw [replF_log l _ h]; rfl, by omega⟩
theorem replL_len (l : List S44) : (replL l).1.length ≤ 16 := by
  by_cases h : (replL l).2.2 = 0
  · rw [(replL_bal l h).1.len]; omega
  · unfold replL at h ⊢
    split
    · simp
    · rename_i hh
      rw [if_neg hh] at h
      rcases replF_ok l (List.replicate 16 0, []) with h1 | h1
      · rw [h1]; simp
      · exact absurd h1 h
/-- Is a ledger one? -/
def wholeL (bs : List Int) (L : List S44) : Int := if (replL L).2.2 = 0 ∧ (replL L).1 = bs then 0 else 9
theorem whole_f (bs : List Int) (L : List S44) : ledger_Whole.f 20 bs L = some (wholeL bs L) := by
  unfold ledger_Whole.f ledger_Replay.f wholeL
  rw [Option.bind_some]
  by_cases h : (replL L).2.2 = 0
  · rw [if_pos h, equal_f _ _ (replL_len L), Option.bind_some]
    by_cases h2 : (replL L).1 = bs
    · rw [if_pos (by simpa using h2), if_pos ⟨h, h2⟩]
    · rw [if_neg (by simpa using h2), if_neg (fun hh => h2 hh.2)]
  · rw [if_neg h, if_neg (fun hh => h hh.1)]
theorem wholeL_ok {bs : List Int} {L : List S44} (h : wholeL bs L = 0) : BalOk bs ∧ L.length ≤ 1024 := by
  unfold wholeL at h
  split at h
  · rename_i hh
    have := replL_bal L hh.1
    rw [← hh.2]
    exact ⟨this.1, this.2.2⟩
  · cases h
/-- Ops, one by one. -/
def doAll : List Int × List S44 → List S35 → (List Int × List S44) × List S37
  | s, [] => (s, [])
  | s, o :: r => ((doAll (doL s o).1 r).1, (doL s o).2 :: (doAll (doL s o).1 r).2)
def chkAll : List S35 → Int
  | [] => 0
  | o :: r => if chkL o ≠ 0 then chkL o else chkAll r
theorem chkAll_ok : ∀ (l : List S35), chkAll l = 0 → ∀ o ∈ l, chkL o = 0
  | o :: r, h, x, hx => by
    simp only [chkAll] at h
    split at h
    · rename_i h1; exact absurd h h1
    · rename_i h1
      rcases List.mem_cons.1 hx with rfl | hx
      · simpa using h1
      · exact chkAll_ok r h x hx
def doF (bs : List Int) (L : List S44) (ops : List S35) : List Int × List S44 × List S37 × Int :=
  if wholeL bs L ≠ 0 then ([], [], [], wholeL bs L) else if chkAll ops ≠ 0 then ([], [], [], chkAll ops) else if 1024 < nChg ops + L.length then ([], [], [], 72)
  else ((doAll (bs, L) ops).1.1, (doAll (bs, L) ops).1.2, (doAll (bs, L) ops).2, 0)
theorem doF_ok {bs : List Int} {L : List S44} {ops : List S35} (h : wholeL bs L = 0) (h2 : chkAll ops = 0) : doF bs L ops = if 1024 < nChg ops + L.length then ([], [], [], 72) else ((doAll (bs, L) ops).1.1, (doAll (bs, L) ops).1.2, (doAll (bs, L) ops).2, 0) := by
  unfold doF
  rw [if_neg (fun hh => hh h), if_neg (fun hh => hh h2)]
theorem Kd.R_moved {α : Type} {d : Kd α} {e : Nat} {W w1 : World} {base : Nat} {ok : Nat → Prop} {u : Value} {xs : List α} {S : Nat → Prop} (h : d.R e W base ok u xs) (hm : Moved W w1 S) (hS : ∀ k, S k → ∃ t cells, W.heap[k]? = some (.cells cells t (0, 0)) ∧ ∀ q, q ∈ e :: d.E → q ≠ t) : d.R e w1 base ok u xs := by
  refine Kd.R_mono (Kd.R_move (Kd.R_bound h) (fun k hk => hm.block k hk.2.2.1 (fun hs => ?_))) (fun _ hk => hk.1)
  obtain ⟨_, _, _, q, hq, cells, hc⟩ := hk
  obtain ⟨t, cells', hc', hn⟩ := hS k hs
  rw [hc] at hc'
  injection hc' with hc'
  injection hc' with _ hc'
  exact hn q hq hc'
theorem Book.over {W W0 W1 : World} {base g gb c : Nat} {vl u : Value} {bs : List Int} {L : List S44} (h : Book W base g gb c vl bs L) (hb : Below W.heap.size W W0) (hu : ∀ k, u.ownBlock = some k → ∃ cells, W0.heap[k]? = some (.cells cells 37 (0, 0))) (hg : W0.grownBy W1 u.ownBlock) : Book W1 base g gb c vl bs L := by
  have h0 := h.below hb
  refine ⟨blk_grown h0.b0 hg (fun he => ?_), Kd.R_over' h0.rb hu (by decide) hg, Kd.R_over' h0.rl hu (by decide) hg⟩
  obtain ⟨cells, hc⟩ := hu g he.symm
  rw [h0.b0] at hc
  injection hc with hc
  injection hc with _ hc
  exact absurd hc (by decide)
theorem Book.lower {W : World} {base base' g gb c : Nat} {vl : Value} {bs : List Int} {L : List S44} (h : Book W base g gb c vl bs L) (hb : base' ≤ base) : Book W base' g gb c vl bs L := ⟨h.b0, Kd.R_lower h.rb hb, Kd.R_lower h.rl hb⟩
theorem Book.doS {W : World} {base g gb c : Nat} {vl : Value} {bs : List Int} {L : List S44} (h : Book W base g gb c vl bs L) : ∀ k, DoS g gb vl k → ∃ t cells, W.heap[k]? = some (.cells cells t (0, 0)) ∧ (t = 57 ∨ t = 3 ∨ t = 44) := by
  rintro k (rfl | rfl | hk)
  · exact ⟨_, _, h.b0, .inl rfl⟩
  · obtain ⟨cells, hc⟩ := Kd.R_typed h.rb k rfl
    exact ⟨_, cells, hc, .inr (.inl rfl)⟩
  · obtain ⟨cells, hc⟩ := Kd.R_typed h.rl k hk.symm
    exact ⟨_, cells, hc, .inr (.inr rfl)⟩
/-- Where the ops stand. -/
structure DoInv (w : World) (g gb j : Nat) (l : List S35) (tot : List Int × List S44 × List S37 × Int) (wz : World) (v12 : Value) (c : Nat) (vl : Value) (s : List Int × List S44) (outs : List S37) : Prop where
  bk : Book wz w.heap.size g gb c vl s.1 s.2
  ok : BalOk s.1
  ll : s.2.length + nChg (l.drop j) ≤ 1024
  st : ((doAll s (l.drop j)).1.1, (doAll s (l.drop j)).1.2, outs ++ (doAll s (l.drop j)).2, (0 : Int)) = tot
  ol : outs.length = j
  ro : Kd.R k37 37 wz w.heap.size (fun _ => True) v12 outs
  res : wz.heap[w.heap.size + 1]? = some (.cells #[.slice none 0 0, .slice none 0 0] 25 (0, 0))
  bel : Below w.heap.size w wz
def ledger_Do.f (l0_0 : List Int) (l0_1 : List (S44)) (l1 : List (S35)) : Option (List Int × (List (S44)) × (List (S37)) × Int) := if l1.length < 5000000000000 then some (doF l0_0 l0_1 l1) else none
set_option maxHeartbeats 4000000 in
set_option maxRecDepth 100000 in
theorem ledger_Do.calls (A0_0 : Option Addr) (c0_0 : Nat) (l0_0 : List Int) (A0_1 : Option Addr) (c0_1 : Nat) (l0_1 : List (S44)) (A1 : Option Addr) (c1 : Nat) (l1 : List (S35)) (r1 : List Int) (r2 : List (S44)) (r3 : List (S37)) (r4 : Int) (w : World) (hr0_0 : Kd.C (Kd.int .i64) w A0_0 l0_0.length l0_0) (hc0_0 : l0_0.length ≤ c0_0) (hr0_1 : Kd.C k44 w A0_1 l0_1.length l0_1) (hc0_1 : l0_1.length ≤ c0_1) (hr1 : Kd.C k35 w A1 l1.length l1) (hc1 : l1.length ≤ c1) (h : ledger_Do.f l0_0 l0_1 l1 = some (r1, r2, r3, r4)) :
    Calls Try.prog 8 #[.agg #[.slice A0_0 l0_0.length c0_0, .slice A0_1 l0_1.length c0_1], .slice A1 l1.length c1] w fun e w' => ∃ v0_ v1_ v2_ : Value, e = .returned (.tuple #[.agg #[v0_, v1_], v2_, .int .i64 r4]) ∧ Kd.R (Kd.int .i64) 3 w' w.heap.size (fun _ => True) v0_ r1 ∧ Kd.R k44 44 w' w.heap.size (fun _ => True) v1_ r2 ∧ Kd.R k37 37 w' w.heap.size (fun _ => True) v2_ r3 ∧ Below w.heap.size w w' := by
  unfold ledger_Do.f at h
  split at h
  case isFalse => cases h
  case isTrue hl1 =>
  replace h := Option.some.inj h
  have HH := Aside0.mk h
  have H0 := Aside0.mk hr0_0
  have H1 := Aside0.mk hr0_1
  have H2 := Aside0.mk hr1
  have C0 := Aside0.mk hc0_0
  have C1 := Aside0.mk hc0_1
  have C2 := Aside0.mk hc1
  have HL1 := Aside0.mk hl1
  have hm1 : l1.length ≤ 9223372036854775807 := by omega
  clear h hr0_0 hr0_1 hr1 hc0_0 hc0_1 hc1 hl1
  have hws : w.heap.size ≤ ((w.alloc (.cells #[.slice A0_0 l0_0.length c0_0, .slice A0_1 l0_1.length c0_1] 25)).alloc (.cells #[.slice none 0 0, .slice none 0 0] 25)).heap.size := by simp; omega
  have HWS := Aside0.mk hws
  clear hws
  go_enter Try.func8, Try.ntmps8
  go_wp2_with fail
  go_at_call 11
  with_reducible refine (ledger_Whole.calls 20 A0_0 c0_0 l0_0 A0_1 c0_1 l0_1 (wholeL l0_0 l0_1) _ (Kd.C_alloc (Kd.C_alloc H0.out _) _) C0.out (Kd.C_alloc (Kd.C_alloc H1.out _) _) C1.out (whole_f _ _)).mono ?_
  rintro e w1 ⟨rfl, hb⟩
  have HB1 := Aside0.mk (below_then (below_alloc (below_alloc (Below.refl _ _) _) _) HWS.out hb)
  have BK0 := Aside0.mk (blk_below (blk_alloc (heap_new1 w _) _) hb)
  have BR0 := Aside0.mk (blk_below (heap_new2 w _ _) hb)
  clear hb
  have hlt1 : w.heap.size + 1 < w1.heap.size := blk_lt BR0.out
  have hlt0 : w.heap.size < w1.heap.size := by omega
  have z0 : w1.cell? ⟨w.heap.size + 1, 0, none⟩ = some (.slice none 0 0) := (blk_cell BR0.out 0).trans rfl
  have z1 : w1.cell? ⟨w.heap.size + 1, 1, none⟩ = some (.slice none 0 0) := (blk_cell BR0.out 1).trans rfl
  have fz0 := blk_frozen BR0.out 0
  have fz1 := blk_frozen BR0.out 1
  by_cases hw0 : wholeL l0_0 l0_1 = 0
  · rw [hw0]
    have HOK := Aside0.mk (wholeL_ok hw0)
    have hll : l0_1.length ≤ 1024 := HOK.out.2
    clear z0 z1 fz0 fz1
    go_wp2_with fail
    go_loopw [23] (fun v23 wr => ∃ k : Nat, v23 = .int .i64 k ∧ k ≤ l1.length ∧ Aside0 (chkAll (l1.drop k) = chkAll l1) ∧ Aside0 (Below w1.heap.size w1 wr)) (fun v23 _ => l1.length - (intOf v23).toNat)
    case atStart => exact ⟨0, rfl, by omega, ⟨rfl⟩, ⟨Below.refl _ _⟩⟩
    case round =>
      obtain ⟨k, rfl, hk, HC, HB⟩ := hrel
      have BKr := Aside0.mk (blk_below BK0.out HB.out)
      have HBW := Aside0.mk (below_then HB1.out HB1.out.size HB.out)
      have BRr := Aside0.mk (blk_below BR0.out HB.out)
      have hltr : w.heap.size + 1 < wr.heap.size := blk_lt BRr.out
      have hltr0 : w.heap.size < wr.heap.size := by omega
      by_cases hlt : k < l1.length
      · obtain ⟨ad, e1, q0', q1', q2', q3'⟩ := at_T35 H2.out (k : Int) (by omega) (by omega)
        have q0 := (HBW.out.cell (World.block_lt_of_cell? _ _ q0')).trans q0'
        have q1 := (HBW.out.cell (World.block_lt_of_cell? _ _ q1')).trans q1'
        have q2 := (HBW.out.cell (World.block_lt_of_cell? _ _ q2')).trans q2'
        have q3 := (HBW.out.cell (World.block_lt_of_cell? _ _ q3')).trans q3'
        simp only [Int.toNat_natCast] at q0 q1 q2 q3
        have hrd : rd_T35 l1 (k : Int) = l1[k] := by simp [rd_T35, List.getElem?_eq_getElem hlt]
        rw [hrd] at q0 q1 q2 q3
        obtain ⟨x, hx⟩ : ∃ x, x = l1[k] := ⟨_, rfl⟩
        rw [← hx] at q0 q1 q2 q3
        have HST : Aside0 (chkAll (x :: l1.drop (k + 1)) = chkAll l1) := ⟨by rw [← HC.out, List.drop_eq_getElem_cons hlt, hx]⟩
        have b1 : decide ((k : Int) < (l1.length : Int)) = true := decide_eq_true (by omega)
        have b1' : decide (k < l1.length) = true := decide_eq_true hlt
        have hbx := below_alloc (Below.refl wr.heap.size wr) (.cells #[.int .i64 x.f0, .int .i64 x.f1, .int .i64 x.f2, .int .i64 x.f3] 35)
        have HBX := Aside0.mk hbx
        subst e1
        clear q0' q1' q2' q3' hrd hx hbx
        go_wp2_with fail
        go_at_call 18
        with_reducible refine (ledger_Check.calls 2 x.f0 x.f1 x.f2 x.f3 (chkL x) _ (chkL_f x)).mono ?_
        rintro e w2 ⟨rfl, hb⟩
        have HB2 := Aside0.mk (below_then HBX.out (by simp) hb)
        have BR2 := Aside0.mk (blk_below BRr.out HB2.out)
        have HBW2 := Aside0.mk (below_then HBW.out HBW.out.size HB2.out)
        clear hb q0 q1 q2 q3
        by_cases hc0 : chkL x = 0
        · rw [hc0]
          go_wp2
          go_roundw
          case rel => exact ⟨k + 1, by go_num, by omega, ⟨by rw [← HST.out]; simp only [chkAll]; rw [if_neg (by simpa using hc0)]⟩, ⟨below_then HB.out HB.out.size HB2.out⟩⟩
          case measure => simp [intOf]; omega
        · have t3 : (chkL x == 0) = false := by simpa using hc0
          have HCA : Aside0 (chkAll l1 = chkL x) := ⟨by rw [← HST.out]; simp only [chkAll]; rw [if_pos hc0]⟩
          obtain ⟨⟨⟩⟩ : Aside0 ((([], [], [], chkL x) : List Int × List S44 × List S37 × Int) = (r1, r2, r3, r4)) := ⟨by rw [← HH.out]; unfold doF; rw [if_neg (by simpa using hw0), if_pos (by rw [HCA.out]; exact hc0), HCA.out]⟩
          have hlt2 : w.heap.size + 1 < w2.heap.size := blk_lt BR2.out
          have z0 : w2.cell? ⟨w.heap.size + 1, 0, none⟩ = some (.slice none 0 0) := (blk_cell BR2.out 0).trans rfl
          have z1 : w2.cell? ⟨w.heap.size + 1, 1, none⟩ = some (.slice none 0 0) := (blk_cell BR2.out 1).trans rfl
          have fz0 := blk_frozen BR2.out 0
          have fz1 := blk_frozen BR2.out 1
          go_wp2
          refine bodyPost_ret (results_list (rs := [.cell 4 25, .tmp 5, .tmp 6]) rfl (by simp) (.cell (w.heap.size + 1) 25 #[.slice none 0 0, .slice none 0 0] (0, 0) _ rfl (blk_put (cs := #[.slice none 0 0, .slice none 0 0]) (blk_put (cs := #[.slice none 0 0, .slice none 0 0]) BR2.out 0 _ rfl) 1 _ rfl) Try.underlying25 rfl (by kernel_rfl) (.tmp (.tmp .nil)))) rfl ?_
          exact ⟨_, _, _, rfl, Kd.R_nil _ _ _ _ _, Kd.R_nil _ _ _ _ _, Kd.R_nil _ _ _ _ _, below_set (below_set HBW2.out (by simp)) (by simp)⟩
      · have b1 : decide ((k : Int) < (l1.length : Int)) = false := decide_eq_false (by omega)
        have b1' : decide (k < l1.length) = false := decide_eq_false hlt
        have HCA : Aside0 (chkAll l1 = 0) := ⟨by rw [← HC.out, List.drop_of_length_le (by omega)]; rfl⟩
        have HDF : Aside0 ((if 1024 < nChg l1 + l0_1.length then ([], [], [], 72) else ((doAll (l0_0, l0_1) l1).1.1, (doAll (l0_0, l0_1) l1).1.2, (doAll (l0_0, l0_1) l1).2, 0)) = (r1, r2, r3, r4)) := ⟨by rw [← HH.out, doF_ok hw0 HCA.out]⟩
        have p1 : wr.cell? ⟨w.heap.size, 1, none⟩ = some (.slice A0_1 l0_1.length c0_1) := (blk_cell BKr.out 1).trans rfl
        have p0 : wr.cell? ⟨w.heap.size, 0, none⟩ = some (.slice A0_0 l0_0.length c0_0) := (blk_cell BKr.out 0).trans rfl
        obtain ⟨nc, hnc⟩ : ∃ nc, nc = nChg l1 := ⟨_, rfl⟩
        have HNC : Aside0 (ledger_changes.f (l1.length + 1) l1 = some (nc : Int)) := ⟨by rw [hnc]; exact changes_f l1 (by have := HL1.out; omega)⟩
        have HNL : Aside0 (nc ≤ l1.length ∧ nc = nChg l1) := ⟨by rw [hnc]; exact nChg_le l1, hnc⟩
        rw [← hnc] at HDF
        clear hnc
        have hnl := HNL.out.1
        have hwr : IntKind.i64.wrap (1024 - (l0_1.length : Int)) = 1024 - (l0_1.length : Int) := by rw [IntKind.wrap_i64]; omega
        go_wp2_with fail
        refine region_tail (B := _) (w0 := _) 6 [(34, (fun v _ => v = .slice A1 l1.length c1)), (35, (fun v W => v = .int .i64 (nc : Int))), (36, (fun v _ => v = .pointer (some ⟨w.heap.size, 1, none⟩))), (37, (fun v _ => v = .slice A0_1 l0_1.length c0_1)), (38, (fun v _ => v = .int .i64 (l0_1.length : Int))), (39, (fun v _ => v = .int .i64 (1024 - (l0_1.length : Int))))] (by kernel_rfl) (by kernel_rfl) (by decide) (by kernel_rfl) (by kernel_rfl) (by rfl) (show ([34, 35, 36, 37, 38, 39] : List Nat).Nodup by decide) ?hsz ?hst (Below.refl _ _) (Nat.le_refl _) ?step ?fin
        case hsz => exact List.forall_mem_cons.2 ⟨(show 34 < 64 by decide), List.forall_mem_cons.2 ⟨(show 35 < 64 by decide), List.forall_mem_cons.2 ⟨(show 36 < 64 by decide), List.forall_mem_cons.2 ⟨(show 37 < 64 by decide), List.forall_mem_cons.2 ⟨(show 38 < 64 by decide), List.forall_mem_cons.2 ⟨(show 39 < 64 by decide), fun _ h => nomatch h⟩⟩⟩⟩⟩⟩
        case hst => exact List.forall_mem_cons.2 ⟨(fun v w1 w2 hb h => h), List.forall_mem_cons.2 ⟨(fun v w1 w2 hb h => h), List.forall_mem_cons.2 ⟨(fun v w1 w2 hb h => h), List.forall_mem_cons.2 ⟨(fun v w1 w2 hb h => h), List.forall_mem_cons.2 ⟨(fun v w1 w2 hb h => h), List.forall_mem_cons.2 ⟨(fun v w1 w2 hb h => h), fun _ h => nomatch h⟩⟩⟩⟩⟩⟩
        case step =>
          intro i_ o_ e_ ho he a w1_ hs hdf hfr hbl hbs hpre
          match i_, ho, he with
          | 0, ho, he => obtain rfl : o_ = ⟨_, _, _, _, _, _⟩ := (Option.some.inj ho).symm; obtain rfl := Option.some.inj he; clear he; have f1 : a.tmps.getD 1 undef = .slice A1 l1.length c1 := (by rw [Array.getD_eq_getD_getElem?, hfr 1 (show ¬ 1 ∈ ([34, 35, 36, 37, 38, 39] : List Nat) by decide)]; rfl); clear hpre hfr; refine wpOp_value (v := .slice A1 l1.length c1) ho rfl ?_ ⟨_, rfl, rfl, Below.refl _ _⟩; simp only [execOp, Act.eval, List.map_toArray, List.map_cons, List.map_nil, f1]; first | rfl | (go_simp; done) | (go_simp; rfl) | (go_simp; intro h_; exfalso; omega)
          | 1, ho, he => obtain rfl : o_ = ⟨_, _, _, _, _, _⟩ := (Option.some.inj ho).symm; obtain rfl := Option.some.inj he; clear he; have e34 : a.tmps.getD 34 undef = .slice A1 l1.length c1 := hpre ⟨0, .data⟩ (by simp) rfl _ rfl; clear hpre hfr; refine wpOp_call (fn := Try.f19) ho rfl rfl rfl rfl #[.slice A1 l1.length c1] rfl (by simp only [List.map_toArray, List.map_cons, List.map_nil, Act.eval, e34]) ?_; refine (ledger_changes.calls (l1.length + 1) A1 c1 l1 nc _ (Kd.C_below (Kd.C_below H2.out HBW.out) hbl) C2.out HNC.out).mono ?_; rintro e w3 ⟨rfl, hb3⟩; exact ⟨_, rfl, _, rfl, rfl, hb3⟩
          | 2, ho, he => obtain rfl : o_ = ⟨_, _, _, _, _, _⟩ := (Option.some.inj ho).symm; obtain rfl := Option.some.inj he; clear he; have f2 : a.tmps.getD 2 undef = .pointer (some ⟨w.heap.size, 0, none⟩) := (by rw [Array.getD_eq_getD_getElem?, hfr 2 (show ¬ 2 ∈ ([34, 35, 36, 37, 38, 39] : List Nat) by decide)]; rfl); clear hpre hfr; refine wpOp_value (v := .pointer (some ⟨w.heap.size, 1, none⟩)) ho rfl ?_ ⟨_, rfl, rfl, Below.refl _ _⟩; simp only [execOp, Act.eval, List.map_toArray, List.map_cons, List.map_nil, f2]; first | rfl | (go_simp; done) | (go_simp; rfl) | (go_simp; intro h_; exfalso; omega)
          | 3, ho, he => obtain rfl : o_ = ⟨_, _, _, _, _, _⟩ := (Option.some.inj ho).symm; obtain rfl := Option.some.inj he; clear he; have e36 : a.tmps.getD 36 undef = .pointer (some ⟨w.heap.size, 1, none⟩) := hpre ⟨2, .data⟩ (by simp) rfl _ rfl; clear hpre hfr; have k_p1 := (hbl.cell (World.block_lt_of_cell? _ _ p1)).trans p1; refine wpOp_value (v := .slice A0_1 l0_1.length c0_1) ho rfl ?_ ⟨_, rfl, rfl, Below.refl _ _⟩; simp only [execOp, Act.eval, List.map_toArray, List.map_cons, List.map_nil, e36]; first | rfl | (go_simp; done) | (go_simp; rfl) | (go_simp; intro h_; exfalso; omega)
          | 4, ho, he => obtain rfl : o_ = ⟨_, _, _, _, _, _⟩ := (Option.some.inj ho).symm; obtain rfl := Option.some.inj he; clear he; have e37 : a.tmps.getD 37 undef = .slice A0_1 l0_1.length c0_1 := hpre ⟨3, .data⟩ (by simp) rfl _ rfl; clear hpre hfr; refine wpOp_value (v := .int .i64 (l0_1.length : Int)) ho rfl ?_ ⟨_, rfl, rfl, Below.refl _ _⟩; simp only [execOp, Act.eval, List.map_toArray, List.map_cons, List.map_nil, e37]; first | rfl | (go_simp; done) | (go_simp; rfl) | (go_simp; intro h_; exfalso; omega)
          | 5, ho, he => obtain rfl : o_ = ⟨_, _, _, _, _, _⟩ := (Option.some.inj ho).symm; obtain rfl := Option.some.inj he; clear he; have e38 : a.tmps.getD 38 undef = .int .i64 (l0_1.length : Int) := hpre ⟨4, .data⟩ (by simp) rfl _ rfl; clear hpre hfr; refine wpOp_value (v := .int .i64 (1024 - (l0_1.length : Int))) ho rfl ?_ ⟨_, rfl, rfl, Below.refl _ _⟩; simp only [execOp, Act.eval, List.map_toArray, List.map_cons, List.map_nil, e38]; first | rfl | (go_simp; done) | (go_simp; rfl) | (go_simp; intro h_; exfalso; omega)
          | n_ + 6, ho, he => simp at he
        case fin =>
          intro xv_ w1_ hbl hbs hx
          simp only [List.forall_mem_cons] at hx
          obtain ⟨x34, x35, x36, x37, x38, x39, _⟩ := hx
          simp only [List.map_cons, List.map_nil, putL, Act.put, List.setIfInBounds_toArray, List.set_cons_zero, List.set_cons_succ, x34, x35, x36, x37, x38, x39]
          simp only [List.drop_succ_cons, List.drop_zero]
          clear x34 x35 x36 x37 x38 x39
          have HBL1 := Aside0.mk hbl
          have HBWa := Aside0.mk (below_then HBW.out HBW.out.size hbl)
          have BKa := Aside0.mk (blk_below BKr.out hbl)
          have BRa := Aside0.mk (blk_below BRr.out hbl)
          clear hbl hbs hnl hwr p0 p1
          have hlta : w.heap.size + 1 < w1_.heap.size := blk_lt BRa.out
          by_cases hfull : 1024 < nc + l0_1.length
          · have t4 : decide (1024 - (l0_1.length : Int) < (nc : Int)) = true := decide_eq_true (by omega)
            obtain ⟨⟨⟩⟩ : Aside0 ((([], [], [], 72) : List Int × List S44 × List S37 × Int) = (r1, r2, r3, r4)) := ⟨by rw [← HDF.out, if_pos hfull]⟩
            have z0 : w1_.cell? ⟨w.heap.size + 1, 0, none⟩ = some (.slice none 0 0) := (blk_cell BRa.out 0).trans rfl
            have z1 : w1_.cell? ⟨w.heap.size + 1, 1, none⟩ = some (.slice none 0 0) := (blk_cell BRa.out 1).trans rfl
            have fz0 := blk_frozen BRa.out 0
            have fz1 := blk_frozen BRa.out 1
            go_wp2
            refine bodyPost_ret (results_list (rs := [.cell 4 25, .tmp 5, .tmp 6]) rfl (by simp) (.cell (w.heap.size + 1) 25 #[.slice none 0 0, .slice none 0 0] (0, 0) _ rfl (blk_put (cs := #[.slice none 0 0, .slice none 0 0]) (blk_put (cs := #[.slice none 0 0, .slice none 0 0]) BRa.out 0 _ rfl) 1 _ rfl) Try.underlying25 rfl (by kernel_rfl) (.tmp (.tmp .nil)))) rfl ?_
            exact ⟨_, _, _, rfl, Kd.R_nil _ _ _ _ _, Kd.R_nil _ _ _ _ _, Kd.R_nil _ _ _ _ _, below_set (below_set HBWa.out (by simp)) (by simp)⟩
          · have t4 : decide (1024 - (l0_1.length : Int) < (nc : Int)) = false := decide_eq_false (by omega)
            have HDG : Aside0 (((doAll (l0_0, l0_1) l1).1.1, (doAll (l0_0, l0_1) l1).1.2, ([] : List S37) ++ (doAll (l0_0, l0_1) l1).2, (0 : Int)) = (r1, r2, r3, r4)) := ⟨by rw [← HDF.out, if_neg hfull, List.nil_append]⟩
            have HFL : Aside0 (l0_1.length + nChg l1 ≤ 1024) := ⟨by have := HNL.out.2; omega⟩
            have p1 : w1_.cell? ⟨w.heap.size, 1, none⟩ = some (.slice A0_1 l0_1.length c0_1) := (blk_cell BKa.out 1).trans rfl
            have p0 : w1_.cell? ⟨w.heap.size, 0, none⟩ = some (.slice A0_0 l0_0.length c0_0) := (blk_cell BKa.out 0).trans rfl
            go_wp2_with fail
            go_at_call 20
            with_reducible refine (book_clone w1_.heap.size A0_0 A0_1 c0_0 c0_1 l0_0 l0_1 _ (heap_new1 _ _) (Kd.C_alloc (Kd.C_below H0.out HBWa.out) _) C0.out (Kd.C_alloc (Kd.C_below H1.out HBWa.out) _) C1.out HOK.out.1.len (by omega)).mono ?_
            rintro e w4 ⟨g', gb, c, cl, Al, rfl, hg', hbk, hb4⟩
            have hsz4 : w.heap.size ≤ (w1_.alloc (.cells #[.slice A0_0 l0_0.length c0_0, .slice A0_1 l0_1.length c0_1] 57)).heap.size := by simp; omega
            have HB4 := Aside0.mk (below_then (below_alloc HBWa.out (.cells #[.slice A0_0 l0_0.length c0_0, .slice A0_1 l0_1.length c0_1] 57)) hsz4 hb4)
            have BR4 := Aside0.mk (blk_below (blk_alloc BRa.out _) hb4)
            have HBK4 := Aside0.mk (hbk.lower hsz4)
            have HG4 : Aside0 (w.heap.size ≤ g') := ⟨by omega⟩
            clear hb4 hbk hg' hsz4 p0 p1
            go_wp2_with fail
            go_loopw [12, 48] (fun v12 v48 wr => ∃ (j c : Nat) (vl : Value) (s : List Int × List S44) (outs : List S37), v48 = .int .i64 j ∧ j ≤ l1.length ∧ Aside0 (DoInv w g' gb j l1 (r1, r2, r3, r4) wr v12 c vl s outs)) (fun _ v48 _ => l1.length - (intOf v48).toNat)
            case atStart => exact ⟨0, c, _, (l0_0, l0_1), [], rfl, by omega, ⟨HBK4.out, HOK.out.1, HFL.out, HDG.out, rfl, Kd.R_nil _ _ _ _ _, BR4.out, HB4.out⟩⟩
            case round =>
              obtain ⟨j, c, vl, s, outs, rfl, hj, HI⟩ := hrel
              obtain ⟨Al, cl, rfl⟩ := Kd.R_slice HI.out.bk.rl
              have hzl := blk_lt HI.out.res
              by_cases hltj : j < l1.length
              · obtain ⟨ad, e1, q0', q1', q2', q3'⟩ := at_T35 H2.out (j : Int) (by omega) (by omega)
                have q0 := (HI.out.bel.cell (World.block_lt_of_cell? _ _ q0')).trans q0'
                have q1 := (HI.out.bel.cell (World.block_lt_of_cell? _ _ q1')).trans q1'
                have q2 := (HI.out.bel.cell (World.block_lt_of_cell? _ _ q2')).trans q2'
                have q3 := (HI.out.bel.cell (World.block_lt_of_cell? _ _ q3')).trans q3'
                simp only [Int.toNat_natCast] at q0 q1 q2 q3
                have hrd : rd_T35 l1 (j : Int) = l1[j] := by simp [rd_T35, List.getElem?_eq_getElem hltj]
                rw [hrd] at q0 q1 q2 q3
                obtain ⟨x, hx⟩ : ∃ x, x = l1[j] := ⟨_, rfl⟩
                rw [← hx] at q0 q1 q2 q3
                have HXO : Aside0 (OpOk x) := ⟨chkL_ok (chkAll_ok l1 HCA.out x (by rw [hx]; exact List.getElem_mem hltj))⟩
                have HDR : Aside0 (l1.drop j = x :: l1.drop (j + 1)) := ⟨by rw [List.drop_eq_getElem_cons hltj, hx]⟩
                have b2 : decide ((j : Int) < (l1.length : Int)) = true := decide_eq_true (by omega)
                have b2' : decide (j < l1.length) = true := decide_eq_true hltj
                have HBX := Aside0.mk (below_alloc (Below.refl wr.heap.size wr) (.cells #[.int .i64 x.f0, .int .i64 x.f1, .int .i64 x.f2, .int .i64 x.f3] 35))
                subst e1
                clear q0' q1' q2' q3' hrd hx
                go_wp2_with fail
                go_at_call 21
                with_reducible refine (book_do w.heap.size g' gb c cl Al s.1 s.2 x _ (HI.out.bk.below HBX.out) HXO.out HI.out.ok (by have := HI.out.ll; omega) (by have := HI.out.bel.size; simp; omega)).mono ?_
                rintro e w5 ⟨rfl, ⟨vl', hbk', hat⟩, hm⟩
                have HLW : Aside0 (w.heap.size ≤ (wr.alloc (.cells #[.int .i64 x.f0, .int .i64 x.f1, .int .i64 x.f2, .int .i64 x.f3] 35)).heap.size) := ⟨by have := HI.out.bel.size; simp; omega⟩
                have HBK5 := Aside0.mk hbk'
                have HRO5 := Aside0.mk (Kd.R_moved (Kd.R_alloc HI.out.ro _) hm (fun q hq => by obtain ⟨t, cells, hc, ht⟩ := (HI.out.bk.below HBX.out).doS q hq; exact ⟨t, cells, hc, by rcases ht with rfl | rfl | rfl <;> decide⟩))
                have HBW5 := Aside0.mk (hm.below (below_alloc HI.out.bel _) HLW.out (fun q hq => by
                  rcases hq with rfl | rfl | hq
                  · exact HG4.out
                  · exact Kd.R_base HI.out.bk.rb _ rfl
                  · exact Kd.R_base HI.out.bk.rl _ hq.symm))
                have HRS5 := Aside0.mk (hm.blk (blk_alloc HI.out.res _) (fun hq => by
                  rcases hq with h | h | h
                  · exact blk_ne HI.out.res HI.out.bk.b0 (by decide) h
                  · exact Kd.R_ne HI.out.bk.rb HI.out.res (by decide) (by rw [h]; rfl)
                  · exact Kd.R_ne HI.out.bk.rl HI.out.res (by decide) h))
                have HSZ5 : Aside0 (w.heap.size ≤ w5.heap.size) := ⟨by have := HLW.out; have := hm.size; omega⟩
                clear hbk' hat hm q0 q1 q2 q3
                obtain ⟨d, hd⟩ : ∃ d, d = (doL s x).2 := ⟨_, rfl⟩
                have HDE := Aside0.mk hd
                rw [← hd]
                clear hd
                have HJ : Aside0 (outs.length < 5000000000000) := ⟨by rw [HI.out.ol]; have := HL1.out; omega⟩
                go_wp2_with (first | ((with_reducible refine gate_builtin (b := .append) (xs := #[.tmp 52, .tmp 56]) rfl ?_); at_builtin; refine Kd.R_append_rows k37 (w0 := w5) w.heap.size rfl (.tmp 52) (.tmp 56) 28 37 (.agg #[.int .i64 0, .int .i64 0, .int .i64 0]) 24 rfl Try.underlying28 info37 rfl (by decide) (by omega) _ outs [d] _ _ _ (fun _ => True) (fun _ => False) rfl rfl (Kd.R_alloc HRO5.out _) (C_one (heap_new1 _ _) (k37_mk _ d)) (fun _ _ h => h) (fun _ h => h.elim) (fun _ _ => trivial) (below_alloc0 (Below.refl _ _) HSZ5.out _) (by have := HSZ5.out; simp; omega) (by have := HJ.out; omega) ?_; intro v6 w6 ho6 hb6 hg6 hat6) | fail)
                go_roundw
                case rel =>
                  refine ⟨j + 1, c, vl', (doL s x).1, outs ++ [d], by go_num, by omega, ⟨?_⟩⟩
                  have hb5 := below_alloc (Below.refl w5.heap.size w5) (.cells #[.int .i64 d.f0, .int .i64 d.f1, .int .i64 d.f2] 37)
                  have hst := HI.out.st
                  have hll := HI.out.ll
                  rw [HDR.out] at hst hll
                  rw [nChg_cons] at hll
                  refine ⟨HBK5.out.over hb5 (Kd.R_typed (Kd.R_alloc HRO5.out _)) hg6, doL_bal HI.out.ok x, ?_, ?_, by rw [List.length_append, HI.out.ol]; rfl, ho6, ?_, HBW5.out.trans hb6⟩
                  · simp only [doL]; split <;> rename_i hh
                    · rw [if_pos hh] at hll; simp; omega
                    · rw [if_neg hh] at hll; omega
                  · rw [← hst]; simp only [doAll]; rw [HDE.out, List.append_assoc]; rfl
                  · have hr5 := blk_alloc HRS5.out (.cells #[.int .i64 d.f0, .int .i64 d.f1, .int .i64 d.f2] 37)
                    refine blk_grown hr5 hg6 (fun he => ?_)
                    obtain ⟨cells, hc⟩ := Kd.R_typed (Kd.R_alloc HRO5.out _) _ he.symm
                    rw [hr5] at hc
                    injection hc with hc
                    injection hc with _ hc
                    exact absurd hc (by decide)
                case measure => simp [intOf]; omega
              · have b2 : decide ((j : Int) < (l1.length : Int)) = false := decide_eq_false (by omega)
                have b2' : decide (j < l1.length) = false := decide_eq_false hltj
                have hst := HI.out.st
                rw [List.drop_of_length_le (by omega)] at hst
                simp only [doAll, List.append_nil] at hst
                obtain ⟨⟨⟩⟩ := Aside0.mk hst
                have g0 : wr.cell? ⟨g', 0, none⟩ = some (.slice (some ⟨gb, 0, none⟩) s.1.length c) := (blk_cell HI.out.bk.b0 0).trans rfl
                have g1 : wr.cell? ⟨g', 1, none⟩ = some (.slice Al s.2.length cl) := (blk_cell HI.out.bk.b0 1).trans rfl
                have z0 : wr.cell? ⟨w.heap.size + 1, 0, none⟩ = some (.slice none 0 0) := (blk_cell HI.out.res 0).trans rfl
                have z1 : wr.cell? ⟨w.heap.size + 1, 1, none⟩ = some (.slice none 0 0) := (blk_cell HI.out.res 1).trans rfl
                have fz0 := blk_frozen HI.out.res 0
                have fz1 := blk_frozen HI.out.res 1
                go_wp2
                have hp1 := blk_put (cs := #[.slice none 0 0, .slice none 0 0]) HI.out.res 0 (.slice (some ⟨gb, 0, none⟩) s.1.length c) rfl
                refine bodyPost_ret (results_list (rs := [.cell 4 25, .tmp 5, .tmp 6]) rfl (by simp) (.cell (w.heap.size + 1) 25 #[.slice (some ⟨gb, 0, none⟩) s.1.length c, .slice Al s.2.length cl] (0, 0) _ rfl (blk_put (cs := #[.slice (some ⟨gb, 0, none⟩) s.1.length c, .slice none 0 0]) hp1 1 _ rfl) Try.underlying25 rfl (by kernel_rfl) (.tmp (.tmp .nil)))) rfl ?_
                exact ⟨_, _, _, rfl, Kd.R_set (Kd.R_set HI.out.bk.rb HI.out.res (by decide) 0 _) hp1 (by decide) 1 _, Kd.R_set (Kd.R_set HI.out.bk.rl HI.out.res (by decide) 0 _) hp1 (by decide) 1 _, Kd.R_set (Kd.R_set HI.out.ro HI.out.res (by decide) 0 _) hp1 (by decide) 1 _, below_set (below_set HI.out.bel (by simp)) (by simp)⟩
  · have t1 : (wholeL l0_0 l0_1 == 0) = false := by simpa using hw0
    obtain ⟨⟨⟩⟩ : Aside0 ((([], [], [], wholeL l0_0 l0_1) : List Int × List S44 × List S37 × Int) = (r1, r2, r3, r4)) := ⟨by rw [← HH.out]; unfold doF; rw [if_pos hw0]⟩
    go_wp2
    refine bodyPost_ret (results_list (rs := [.cell 4 25, .tmp 5, .tmp 6]) rfl (by simp) (.cell (w.heap.size + 1) 25 #[.slice none 0 0, .slice none 0 0] (0, 0) _ rfl (blk_put (cs := #[.slice none 0 0, .slice none 0 0]) (blk_put (cs := #[.slice none 0 0, .slice none 0 0]) BR0.out 0 _ rfl) 1 _ rfl) Try.underlying25 rfl (by kernel_rfl) (.tmp (.tmp .nil)))) rfl ?_
    exact ⟨_, _, _, rfl, Kd.R_nil _ _ _ _ _, Kd.R_nil _ _ _ _ _, Kd.R_nil _ _ _ _ _, below_set (below_set HB1.out (by simp)) (by simp)⟩
end Go.Proofs.Ytbegdgdghiigpaa.G
end

section
namespace Go.Proofs.Ytbegdgdghiigpaa.G
open WB Go.RowKit Go.Proofs.YtbegdgdghiigpaaW.PrintWords Go.Proofs.YtbegdgdghiigpaaW.PrintLast Go.Proofs.YtbegdgdghiigpaaW.PrintMore
attribute [local go_sem] max2_int min2_int max_two min_two max_three min_three max_four min_four   -- for this text's walks alone
set_option linter.unusedVariables false
set_option linter.unusedSimpArgs false
theorem eqA37 (d : Nat) (w : World) (x0 y0 : Int) (x1 y1 : Int) (x2 y2 : Int) :
    (Op.equalIn (d + 2) 37 (.agg #[.int .i64 x0, .int .i64 x1, .int .i64 x2]) (.agg #[.int .i64 y0, .int .i64 y1, .int .i64 y2])).run Try.prog w = .ok (x0 == y0 && (x1 == y1 && (x2 == y2))) w := by
  refine eqA_of Try.underlying37 (by kernel_rfl) ?_
  refine eqf_cons (by rfl) (by go_simp; rfl) (by go_simp; rfl) (by go_simp) ?_
  refine eqf_cons (by rfl) (by go_simp; rfl) (by go_simp; rfl) (by go_simp) ?_
  exact eqf_last (by rfl) (by go_simp; rfl) (by go_simp; rfl) (by go_simp)
end Go.Proofs.Ytbegdgdghiigpaa.G
end
