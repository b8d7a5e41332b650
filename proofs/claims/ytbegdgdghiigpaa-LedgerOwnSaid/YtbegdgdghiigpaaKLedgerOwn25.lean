/- LedgerOwn: texts of this claim, packed: what the kit's print has written for it and own texts, without what its proof does not reach. -/
import Derived.Test.YtbegdgdghiigpaaKLedgerOwn12
import Derived.Test.YtbegdgdghiigpaaKLedgerOwn14
import Derived.Test.YtbegdgdghiigpaaKLedgerOwn15
import Derived.Test.YtbegdgdghiigpaaKLedgerOwn17
import Derived.Test.YtbegdgdghiigpaaKLedgerOwn19
import Derived.Test.YtbegdgdghiigpaaKLedgerOwn20
import Derived.Test.YtbegdgdghiigpaaKLedgerOwn21
import Derived.Test.YtbegdgdghiigpaaKLedgerOwn22
import Derived.Test.YtbegdgdghiigpaaKLedgerOwn23
import Derived.Test.YtbegdgdghiigpaaKLedgerOwn24
set_option linter.unusedVariables false
set_option linter.unusedSimpArgs false
set_option linter.unusedSectionVars false
section
namespace Go.Proofs.Ytbegdgdghiigpaa.G
open WB Go.RowKit Go.Proofs.YtbegdgdghiigpaaW.PrintWords Go.Proofs.YtbegdgdghiigpaaW.PrintLast Go.Proofs.YtbegdgdghiigpaaW.PrintMore
attribute [local go_sem] max2_int min2_int max_two min_two max_three min_three max_four min_four   -- for this text's walks alone
set_option linter.unusedVariables false
set_option linter.unusedSimpArgs false
theorem rsame_l1 (a b : List Int) (l : List S44) (hl : l.length ≤ 1024) : ∀ m i, i ≤ l.length → l.length - i < m → waybillref24_Same.l1 m (i : Int) a l b l = some true
  | 0, i, h, hm => by omega
  | m + 1, i, h, hm => by
    simp only [waybillref24_Same.l1]
    by_cases hi : i < l.length
    · have hw : wrap64 ((i : Int) + 1) = ((i + 1 : Nat) : Int) := by unfold wrap64; omega
      rw [if_pos (by omega), if_pos (by omega), if_pos (by omega), if_neg (by simp), hw]
      exact rsame_l1 a b l hl m (i + 1) (by omega) (by omega)
    · rw [if_neg (by omega)]
theorem rsame_l0 (a b : List Int) (l : List S44) (hl : l.length ≤ 1024) (hab : a.length = b.length) (N : Nat) (hN : l.length < N) (ha : a.length ≤ 16) (hwr : ∀ i : Nat, i < 16 → wrap64 ((i : Int) + 1) = ((i + 1 : Nat) : Int)) : ∀ m i, i ≤ a.length → a.length - i + N < m → waybillref24_Same.l0 m (i : Int) a l b l = some (decide (a.drop i = b.drop i))
  | 0, i, h, hm => by omega
  | m + 1, i, h, hm => by
    simp only [waybillref24_Same.l0]
    by_cases hi : i < a.length
    · have h1 : ((i : Int) < (a.length : Int)) := by omega
      have h2 : ((i : Int) < (b.length : Int)) := by omega
      have h3 : (0 : Int) ≤ i := by omega
      have hw : wrap64 ((i : Int) + 1) = ((i + 1 : Nat) : Int) := hwr i (by omega)
      have e0 : rd a (i : Int) = a[i] := by simp [rd, List.getElem?_eq_getElem hi]
      have e1 : rd b (i : Int) = b[i]'(by omega) := by simp [rd, List.getElem?_eq_getElem (show i < b.length by omega)]
      have d0 := List.drop_eq_getElem_cons hi
      have d1 := List.drop_eq_getElem_cons (show i < b.length by omega)
      rw [if_pos h1, if_pos h3, if_pos h2, e0, e1, d0, d1]
      by_cases he : a[i] = b[i]'(by omega)
      · rw [if_pos he, hw, rsame_l0 a b l hl hab N hN ha hwr m (i + 1) hi (by omega)]
        exact congrArg some (decide_eq_decide.2 ⟨fun h => by rw [he, h], fun h => (List.cons.inj h).2⟩)
      · rw [if_neg he]
        exact congrArg some (decide_eq_false (fun h => he (List.cons.inj h).1)).symm
    · rw [if_neg (by omega), List.drop_of_length_le (by omega), List.drop_of_length_le (by omega)]
      have e := rsame_l1 a b l hl m 0 (Nat.zero_le _) (by rw [Nat.sub_zero]; exact Nat.lt_of_lt_of_le hN (by omega))
      rw [decide_eq_true rfl]
      exact e
theorem rwhole_f (bs : List Int) (L : List S44) (k : Nat) (hk : 1200 ≤ k) : waybillref24_Whole.f k bs L = some (wholeL bs L) := by
  obtain ⟨k, rfl⟩ : ∃ q, k = q + 1 := ⟨k - 1, by omega⟩
  unfold waybillref24_Whole.f waybillref24_Replay.f wholeL
  rw [Option.bind_some]
  by_cases h : (replL L).2.2 = 0
  · have hb := replL_bal L h
    have hn := hb.1.len
    rw [if_pos h, hb.2.1]
    unfold waybillref24_Same.f
    by_cases h1 : bs.length = (replL L).1.length
    · have e := rsame_l0 bs (replL L).1 L hb.2.2 h1 1100 (by have := hb.2.2; omega) (by omega) (fun i hi => by unfold wrap64; omega) k 0 (by omega) (by omega)
      rw [List.drop_zero, List.drop_zero] at e
      rw [if_pos (by omega), show ((L.length : Int) != (L.length : Int)) = false by simp]
      simp only [waybillref24_Same.j0, Bool.false_eq_true, if_false]
      rw [show waybillref24_Same.l0 k 0 bs L (replL L).1 L = _ from e, Option.bind_some]
      by_cases h2 : (replL L).1 = bs
      · rw [if_pos (by simpa using h2.symm), if_pos ⟨h, h2⟩]
      · rw [if_neg (by simpa using fun e => h2 e.symm), if_neg (fun hh => h2 hh.2)]
    · rw [if_neg (by omega)]
      simp only [waybillref24_Same.j0, if_true]
      rw [Option.bind_some, if_neg (by simp), if_neg (fun hh => h1 (by rw [hh.2]))]
  · rw [if_neg h, if_neg (fun hh => h hh.1)]
structure ResTr (w3 : World) (base : Nat) (vl : Value) (L : List S37) (f : Nat → Bool) (W : World) : Prop where
  mv : w3.grownBy W vl.ownBlock
  rl : f 4 = false → Kd.R k37 37 W base (fun _ => True) vl L
theorem ResTr.up {w3 W : World} {base : Nat} {vl : Value} {L : List S37} {f : Nat → Bool} (h : ResTr w3 base vl L f W) (i : Nat) : ResTr w3 base vl L (fun j => if j = i then true else f j) W := ⟨h.mv, fun hf => h.rl (by by_cases hi : 4 = i <;> simp_all)⟩
theorem ResTr.made {w3 W W1 : World} {base : Nat} {vl : Value} {L : List S37} {f : Nat → Bool} (h : ResTr w3 base vl L f W) (i : Nat) (hb : Below W.heap.size W W1) : ResTr w3 base vl L (fun j => if j = i then true else f j) W1 := ⟨World.grownBy.trans h.mv (grownBy_of_below hb _), fun hf => Kd.R_below (h.rl (by by_cases hi : 4 = i <;> simp_all)) hb⟩
theorem ResTr.grew {w3 W W1 : World} {base : Nat} {vl : Value} {L : List S37} {f : Nat → Bool} (h : ResTr w3 base vl L f W) (hg : W.grownBy W1 vl.ownBlock) : ResTr w3 base vl L (fun j => if j = 4 then true else f j) W1 := ⟨World.grownBy.trans h.mv hg, fun hf => by simp at hf⟩
/-- Where the ops stand. -/
structure RDoInv (w : World) (g gb j : Nat) (l : List S35) (tot : List Int × List S44 × List S37 × Int) (wz : World) (v12 : Value) (c : Nat) (vl : Value) (s : List Int × List S44) (outs : List S37) : Prop where
  b : wz.heap[g]? = some (.cells #[.slice (some ⟨gb, 0, none⟩) s.1.length c, vl] 25 (0, 0))
  rr : RepRows wz w.heap.size gb s.1.length c s vl
  ok : BalOk s.1
  ll : s.2.length + nChg (l.drop j) ≤ 1024
  st : ((doAll s (l.drop j)).1.1, (doAll s (l.drop j)).1.2, outs ++ (doAll s (l.drop j)).2, (0 : Int)) = tot
  ol : outs.length = j
  ro : Kd.R k37 37 wz w.heap.size (fun _ => True) v12 outs
  res : wz.heap[w.heap.size + 1]? = some (.cells #[.slice none 0 0, .slice none 0 0] 25 (0, 0))
  bel : Below w.heap.size w wz
def waybillref24_Do.f (l0_0 : List Int) (l0_1 : List (S44)) (l1 : List (S35)) : Option (List Int × (List (S44)) × (List (S37)) × Int) := if l1.length < 5000000000000 then some (doF l0_0 l0_1 l1) else none
set_option maxHeartbeats 4000000 in
set_option maxRecDepth 100000 in
theorem waybillref24_Do.calls (A0_0 : Option Addr) (c0_0 : Nat) (l0_0 : List Int) (A0_1 : Option Addr) (c0_1 : Nat) (l0_1 : List (S44)) (A1 : Option Addr) (c1 : Nat) (l1 : List (S35)) (r1 : List Int) (r2 : List (S44)) (r3 : List (S37)) (r4 : Int) (w : World) (hr0_0 : Kd.C (Kd.int .i64) w A0_0 l0_0.length l0_0) (hc0_0 : l0_0.length ≤ c0_0) (hr0_1 : Kd.C k44 w A0_1 l0_1.length l0_1) (hc0_1 : l0_1.length ≤ c0_1) (hr1 : Kd.C k35 w A1 l1.length l1) (hc1 : l1.length ≤ c1) (h : waybillref24_Do.f l0_0 l0_1 l1 = some (r1, r2, r3, r4)) :
    Calls Try.prog 15 #[.agg #[.slice A0_0 l0_0.length c0_0, .slice A0_1 l0_1.length c0_1], .slice A1 l1.length c1] w fun e w' => ∃ v0_ v1_ v2_ : Value, e = .returned (.tuple #[.agg #[v0_, v1_], v2_, .int .i64 r4]) ∧ Kd.R (Kd.int .i64) 3 w' w.heap.size (fun _ => True) v0_ r1 ∧ Kd.R k44 44 w' w.heap.size (fun _ => True) v1_ r2 ∧ Kd.R k37 37 w' w.heap.size (fun _ => True) v2_ r3 ∧ Below w.heap.size w w' := by
  unfold waybillref24_Do.f at h
  split at h
  case isFalse => cases h
  case isTrue hl1 =>
  replace h := Option.some.inj h
  have HH := Aside0.mk h
  have H0 := Aside0.mk hr0_0
  have H1 := Aside0.mk hr0_1
  have H2 := Aside0.mk hr1
  have C0 := Aside0.mk hc0_0
  have C1 := Aside0.mk hc0_1
  have C2 := Aside0.mk hc1
  have HL1 := Aside0.mk hl1
  have hm1 : l1.length ≤ 9223372036854775807 := by omega
  clear h hr0_0 hr0_1 hr1 hc0_0 hc0_1 hc1 hl1
  have hws : w.heap.size ≤ ((w.alloc (.cells #[.slice A0_0 l0_0.length c0_0, .slice A0_1 l0_1.length c0_1] 25)).alloc (.cells #[.slice none 0 0, .slice none 0 0] 25)).heap.size := by simp; omega
  have HWS := Aside0.mk hws
  clear hws
  go_enter Try.func15, Try.ntmps15
  go_wp2_with fail
  go_at_call 24
  with_reducible refine (waybillref24_Whole.calls 1200 A0_0 c0_0 l0_0 A0_1 c0_1 l0_1 (wholeL l0_0 l0_1) _ (Kd.C_alloc (Kd.C_alloc H0.out _) _) C0.out (Kd.C_alloc (Kd.C_alloc H1.out _) _) C1.out (rwhole_f _ _ 1200 (Nat.le_refl _))).mono ?_
  rintro e w1 ⟨rfl, hb⟩
  have HB1 := Aside0.mk (below_then (below_alloc (below_alloc (Below.refl _ _) _) _) HWS.out hb)
  have BK0 := Aside0.mk (blk_below (blk_alloc (heap_new1 w _) _) hb)
  have BR0 := Aside0.mk (blk_below (heap_new2 w _ _) hb)
  clear hb
  have hlt1 : w.heap.size + 1 < w1.heap.size := blk_lt BR0.out
  have hlt0 : w.heap.size < w1.heap.size := by omega
  have z0 : w1.cell? ⟨w.heap.size + 1, 0, none⟩ = some (.slice none 0 0) := (blk_cell BR0.out 0).trans rfl
  have z1 : w1.cell? ⟨w.heap.size + 1, 1, none⟩ = some (.slice none 0 0) := (blk_cell BR0.out 1).trans rfl
  have fz0 := blk_frozen BR0.out 0
  have fz1 := blk_frozen BR0.out 1
  by_cases hw0 : wholeL l0_0 l0_1 = 0
  · rw [hw0]
    have HOK := Aside0.mk (wholeL_ok hw0)
    have hll : l0_1.length ≤ 1024 := HOK.out.2
    have p1 : w1.cell? ⟨w.heap.size, 1, none⟩ = some (.slice A0_1 l0_1.length c0_1) := (blk_cell BK0.out 1).trans rfl
    clear z0 z1 fz0 fz1
    go_wp2_with fail
    go_loopw [8] (fun v8 wr => ∃ k : Nat, v8 = .int .i64 k ∧ k ≤ l1.length ∧ Aside0 (chkAll (l1.drop k) = chkAll l1) ∧ Aside0 (Below w1.heap.size w1 wr)) (fun v8 _ => l1.length - (intOf v8).toNat)
    case atStart => exact ⟨0, rfl, by omega, ⟨rfl⟩, ⟨Below.refl _ _⟩⟩
    case round =>
      obtain ⟨k, rfl, hk, HC, HB⟩ := hrel
      have BKr := Aside0.mk (blk_below BK0.out HB.out)
      have HBW := Aside0.mk (below_then HB1.out HB1.out.size HB.out)
      have BRr := Aside0.mk (blk_below BR0.out HB.out)
      have hltr : w.heap.size + 1 < wr.heap.size := blk_lt BRr.out
      have hltr0 : w.heap.size < wr.heap.size := by omega
      by_cases hlt : k < l1.length
      · obtain ⟨ad, e1, q0', q1', q2', q3'⟩ := at_T35 H2.out (k : Int) (by omega) (by omega)
        have q0 := (HBW.out.cell (World.block_lt_of_cell? _ _ q0')).trans q0'
        have q1 := (HBW.out.cell (World.block_lt_of_cell? _ _ q1')).trans q1'
        have q2 := (HBW.out.cell (World.block_lt_of_cell? _ _ q2')).trans q2'
        have q3 := (HBW.out.cell (World.block_lt_of_cell? _ _ q3')).trans q3'
        simp only [Int.toNat_natCast] at q0 q1 q2 q3
        have hrd : rd_T35 l1 (k : Int) = l1[k] := by simp [rd_T35, List.getElem?_eq_getElem hlt]
        rw [hrd] at q0 q1 q2 q3
        obtain ⟨x, hx⟩ : ∃ x, x = l1[k] := ⟨_, rfl⟩
        rw [← hx] at q0 q1 q2 q3
        have HST : Aside0 (chkAll (x :: l1.drop (k + 1)) = chkAll l1) := ⟨by rw [← HC.out, List.drop_eq_getElem_cons hlt, hx]⟩
        have b1 : decide ((k : Int) < (l1.length : Int)) = true := decide_eq_true (by omega)
        have b1' : decide (k < l1.length) = true := decide_eq_true hlt
        subst e1
        clear q0' q1' q2' q3' hrd hx
        go_wp2_with fail
        go_at_call 25
        with_reducible refine (waybillref24_Check.calls 2 x.f0 x.f1 x.f2 x.f3 (chkL x) _ (rchk_f x).1).mono ?_
        rintro e w2 ⟨rfl, hb⟩
        have HB2 := Aside0.mk hb
        have BR2 := Aside0.mk (blk_below BRr.out HB2.out)
        have HBW2 := Aside0.mk (below_then HBW.out HBW.out.size HB2.out)
        clear hb q0 q1 q2 q3
        by_cases hc0 : chkL x = 0
        · rw [hc0]
          go_wp2
          go_roundw
          case rel => exact ⟨k + 1, by go_num, by omega, ⟨by rw [← HST.out]; simp only [chkAll]; rw [if_neg (by simpa using hc0)]⟩, ⟨below_then HB.out HB.out.size HB2.out⟩⟩
          case measure => simp [intOf]; omega
        · have t3 : (chkL x == 0) = false := by simpa using hc0
          have HCA : Aside0 (chkAll l1 = chkL x) := ⟨by rw [← HST.out]; simp only [chkAll]; rw [if_pos hc0]⟩
          obtain ⟨⟨⟩⟩ : Aside0 ((([], [], [], chkL x) : List Int × List S44 × List S37 × Int) = (r1, r2, r3, r4)) := ⟨by rw [← HH.out]; unfold doF; rw [if_neg (by simpa using hw0), if_pos (by rw [HCA.out]; exact hc0), HCA.out]⟩
          have hlt2 : w.heap.size + 1 < w2.heap.size := blk_lt BR2.out
          have z0 : w2.cell? ⟨w.heap.size + 1, 0, none⟩ = some (.slice none 0 0) := (blk_cell BR2.out 0).trans rfl
          have z1 : w2.cell? ⟨w.heap.size + 1, 1, none⟩ = some (.slice none 0 0) := (blk_cell BR2.out 1).trans rfl
          have fz0 := blk_frozen BR2.out 0
          have fz1 := blk_frozen BR2.out 1
          go_wp2
          refine bodyPost_ret (results_list (rs := [.cell 4 25, .tmp 5, .tmp 6]) rfl (by simp) (.cell (w.heap.size + 1) 25 #[.slice none 0 0, .slice none 0 0] (0, 0) _ rfl (blk_put (cs := #[.slice none 0 0, .slice none 0 0]) (blk_put (cs := #[.slice none 0 0, .slice none 0 0]) BR2.out 0 _ rfl) 1 _ rfl) Try.underlying25 rfl (by kernel_rfl) (.tmp (.tmp .nil)))) rfl ?_
          exact ⟨_, _, _, rfl, Kd.R_nil _ _ _ _ _, Kd.R_nil _ _ _ _ _, Kd.R_nil _ _ _ _ _, below_set (below_set HBW2.out (by simp)) (by simp)⟩
      · have b1 : decide ((k : Int) < (l1.length : Int)) = false := decide_eq_false (by omega)
        have b1' : decide (k < l1.length) = false := decide_eq_false hlt
        have HCA : Aside0 (chkAll l1 = 0) := ⟨by rw [← HC.out, List.drop_of_length_le (by omega)]; rfl⟩
        have HDF : Aside0 ((if 1024 < nChg l1 + l0_1.length then ([], [], [], 72) else ((doAll (l0_0, l0_1) l1).1.1, (doAll (l0_0, l0_1) l1).1.2, (doAll (l0_0, l0_1) l1).2, 0)) = (r1, r2, r3, r4)) := ⟨by rw [← HH.out, doF_ok hw0 HCA.out]⟩
        have HNL : Aside0 (nChg l1 ≤ l1.length) := ⟨nChg_le l1⟩
        go_wp2_with fail
        go_loopw [7, 10] (fun v7 v10 wr => ∃ j c : Nat, v10 = .int .i64 j ∧ v7 = .int .i64 c ∧ j ≤ l1.length ∧ Aside0 (c + nChg (l1.drop j) = nChg l1 + l0_1.length) ∧ Aside0 (Below w1.heap.size w1 wr)) (fun _ v10 _ => l1.length - (intOf v10).toNat)
        case atStart => exact ⟨0, l0_1.length, rfl, rfl, by omega, ⟨by rw [List.drop_zero]; omega⟩, HB⟩
        case round =>
          obtain ⟨j, c, rfl, rfl, hj, HC2, HB2⟩ := hrel
          have BKz := Aside0.mk (blk_below BK0.out HB2.out)
          have HBW2 := Aside0.mk (below_then HB1.out HB1.out.size HB2.out)
          have BRz := Aside0.mk (blk_below BR0.out HB2.out)
          have hltz : w.heap.size + 1 < wr.heap.size := blk_lt BRz.out
          have hltz0 : w.heap.size < wr.heap.size := by omega
          have HCB : Aside0 (c ≤ nChg l1 + l0_1.length) := ⟨by have := HC2.out; omega⟩
          have hcb : c < 6000000000000 := by have := HCB.out; have := HNL.out; have := HL1.out; have := HOK.out.2; omega
          by_cases hlt2 : j < l1.length
          · obtain ⟨ad, e1, q0', _, _, _⟩ := at_T35 H2.out (j : Int) (by omega) (by omega)
            have q0 := (HBW2.out.cell (World.block_lt_of_cell? _ _ q0')).trans q0'
            simp only [Int.toNat_natCast] at q0
            have hrd : rd_T35 l1 (j : Int) = l1[j] := by simp [rd_T35, List.getElem?_eq_getElem hlt2]
            rw [hrd] at q0
            obtain ⟨x, hx⟩ : ∃ x, x = l1[j] := ⟨_, rfl⟩
            rw [← hx] at q0
            have HDR : Aside0 (nChg (l1.drop j) = (if x.f0 ≤ 2 then 1 else 0) + nChg (l1.drop (j + 1))) := ⟨by rw [List.drop_eq_getElem_cons hlt2, nChg_cons, hx]⟩
            have b2 : decide ((j : Int) < (l1.length : Int)) = true := decide_eq_true (by omega)
            have b2' : decide (j < l1.length) = true := decide_eq_true hlt2
            subst e1
            clear q0' hrd hx
            by_cases hx2 : x.f0 ≤ 2
            · have t4 : decide (x.f0 ≤ 2) = true := decide_eq_true hx2
              have hwc : IntKind.i64.wrap ((c : Int) + 1) = (c : Int) + 1 := by rw [IntKind.wrap_i64]; omega
              have HDS : Aside0 (c + 1 + nChg (l1.drop (j + 1)) = nChg l1 + l0_1.length) := ⟨by have := HC2.out; have h5 := HDR.out; rw [if_pos hx2] at h5; omega⟩
              clear hx2
              go_wp2
              go_roundw
              case rel => exact ⟨j + 1, c + 1, by go_num, by go_num, by omega, HDS, HB2⟩
              case measure => simp [intOf]; omega
            · have t4 : decide (x.f0 ≤ 2) = false := decide_eq_false hx2
              have HDS : Aside0 (c + nChg (l1.drop (j + 1)) = nChg l1 + l0_1.length) := ⟨by have := HC2.out; have h5 := HDR.out; rw [if_neg hx2] at h5; omega⟩
              clear hx2
              go_wp2
              go_roundw
              case rel => exact ⟨j + 1, c, by go_num, rfl, by omega, HDS, HB2⟩
              case measure => simp [intOf]; omega
          · have b2 : decide ((j : Int) < (l1.length : Int)) = false := decide_eq_false (by omega)
            have b2' : decide (j < l1.length) = false := decide_eq_false hlt2
            have HCE : Aside0 (c = nChg l1 + l0_1.length) := ⟨by have h5 := HC2.out; rw [List.drop_of_length_le (by omega)] at h5; simpa [nChg] using h5⟩
            by_cases hfull : 1024 < c
            · have t4 : decide (1024 < (c : Int)) = true := decide_eq_true (by omega)
              have t4' : decide (1024 < c) = true := decide_eq_true hfull
              obtain ⟨⟨⟩⟩ : Aside0 ((([], [], [], 72) : List Int × List S44 × List S37 × Int) = (r1, r2, r3, r4)) := ⟨by rw [← HDF.out, if_pos (by rw [← HCE.out]; exact hfull)]⟩
              have z0 : wr.cell? ⟨w.heap.size + 1, 0, none⟩ = some (.slice none 0 0) := (blk_cell BRz.out 0).trans rfl
              have z1 : wr.cell? ⟨w.heap.size + 1, 1, none⟩ = some (.slice none 0 0) := (blk_cell BRz.out 1).trans rfl
              have fz0 := blk_frozen BRz.out 0
              have fz1 := blk_frozen BRz.out 1
              go_wp2
              refine bodyPost_ret (results_list (rs := [.cell 4 25, .tmp 5, .tmp 6]) rfl (by simp) (.cell (w.heap.size + 1) 25 #[.slice none 0 0, .slice none 0 0] (0, 0) _ rfl (blk_put (cs := #[.slice none 0 0, .slice none 0 0]) (blk_put (cs := #[.slice none 0 0, .slice none 0 0]) BRz.out 0 _ rfl) 1 _ rfl) Try.underlying25 rfl (by kernel_rfl) (.tmp (.tmp .nil)))) rfl ?_
              exact ⟨_, _, _, rfl, Kd.R_nil _ _ _ _ _, Kd.R_nil _ _ _ _ _, Kd.R_nil _ _ _ _ _, below_set (below_set HBW2.out (by simp)) (by simp)⟩
            · have t4 : decide (1024 < (c : Int)) = false := decide_eq_false (by omega)
              have t4' : decide (1024 < c) = false := decide_eq_false hfull
              have p0 : wr.cell? ⟨w.heap.size, 0, none⟩ = some (.slice A0_0 l0_0.length c0_0) := (blk_cell BKz.out 0).trans rfl
              have p1 : wr.cell? ⟨w.heap.size, 1, none⟩ = some (.slice A0_1 l0_1.length c0_1) := (blk_cell BKz.out 1).trans rfl
              have HFL : Aside0 (l0_1.length + nChg l1 ≤ 1024) := ⟨by have := HCE.out; omega⟩
              have HDG : Aside0 (((doAll (l0_0, l0_1) l1).1.1, (doAll (l0_0, l0_1) l1).1.2, ([] : List S37) ++ (doAll (l0_0, l0_1) l1).2, (0 : Int)) = (r1, r2, r3, r4)) := ⟨by rw [← HDF.out, if_neg (by have := HCE.out; omega), List.nil_append]⟩
              have HSZ : Aside0 (w.heap.size ≤ wr.heap.size) := ⟨by omega⟩
              have HOWN : Aside0 (waybillref24_Own.f l0_0 l0_1 = some (l0_0, l0_1)) := ⟨by unfold waybillref24_Own.f; have h16 := HOK.out.1.len; rw [if_pos (by simp; omega), if_pos (by simp; omega)]; rfl⟩
              go_wp2_with fail
              go_at_call 14
              with_reducible refine (waybillref24_Own.calls A0_0 c0_0 l0_0 A0_1 c0_1 l0_1 l0_0 l0_1 _ (Kd.C_below H0.out HBW2.out) C0.out (Kd.C_below H1.out HBW2.out) C1.out HOWN.out).mono ?_
              rintro e w4 ⟨v0, v1, rfl, hr0, hr1, hb4⟩
              obtain ⟨Ab, cb, rfl⟩ := Kd.R_slice hr0
              obtain ⟨Al, cl, rfl⟩ := Kd.R_slice hr1
              obtain ⟨gb, rfl⟩ := R_some hr0 (by rw [HOK.out.1.len]; decide)
              have HB4 := Aside0.mk (below_then HBW2.out HSZ.out hb4)
              have BR4 := Aside0.mk (blk_below BRz.out hb4)
              have HR0 := Aside0.mk (Kd.R_lower hr0 HSZ.out)
              have HR1 := Aside0.mk (Kd.R_lower hr1 HSZ.out)
              have HGZ : Aside0 (w.heap.size + 1 < w4.heap.size) := ⟨blk_lt BR4.out⟩
              clear hr0 hr1 hb4 p0 p1
              go_wp2_with fail
              go_loopw [12, 13] (fun v12 v13 wz => ∃ (j c : Nat) (vl : Value) (s : List Int × List S44) (outs : List S37), v13 = .int .i64 j ∧ j ≤ l1.length ∧ Aside0 (RDoInv w w4.heap.size gb j l1 (r1, r2, r3, r4) wz v12 c vl s outs)) (fun _ v13 _ => l1.length - (intOf v13).toNat)
              case atStart =>
                exact ⟨0, cb, .slice Al l0_1.length cl, (l0_0, l0_1), [], rfl, by omega, ⟨⟨heap_new1 _ _, ⟨Kd.R_alloc HR0.out _, Kd.R_alloc HR1.out _⟩, HOK.out.1, HFL.out, HDG.out, rfl, Kd.R_nil _ _ _ _ _, blk_alloc BR4.out _, below_alloc HB4.out _⟩⟩⟩
              case round =>
                obtain ⟨j, c, vl, s, outs, rfl, hj, HI⟩ := hrel
                obtain ⟨Al, cl, rfl⟩ := Kd.R_slice HI.out.rr.2
                obtain ⟨Ar, cr, rfl⟩ := Kd.R_slice HI.out.ro
                have hzl := blk_lt HI.out.res
                have hgl := blk_lt HI.out.b
                by_cases hltj : j < l1.length
                · obtain ⟨ad, e1, q0', q1', q2', q3'⟩ := at_T35 H2.out (j : Int) (by omega) (by omega)
                  simp only [Int.toNat_natCast] at q0' q1' q2' q3'
                  have hrd : rd_T35 l1 (j : Int) = l1[j] := by simp [rd_T35, List.getElem?_eq_getElem hltj]
                  rw [hrd] at q0' q1' q2' q3'
                  obtain ⟨x, hx⟩ : ∃ x, x = l1[j] := ⟨_, rfl⟩
                  rw [← hx] at q0' q1' q2' q3'
                  have hx0 := chkAll_ok l1 HCA.out x (by rw [hx]; exact List.getElem_mem hltj)
                  have HXO : Aside0 (OpOk x) := ⟨chkL_ok hx0⟩
                  have HAM : Aside0 (x.f0 = 2 → 0 ≤ x.f3) := ⟨(rchk_f x).2 hx0⟩
                  have HDR : Aside0 (l1.drop j = x :: l1.drop (j + 1)) := ⟨by rw [List.drop_eq_getElem_cons hltj, hx]⟩
                  have HADL : Aside0 ((ad.add (j * 4)).block < w.heap.size) := ⟨World.block_lt_of_cell? _ _ q0'⟩
                  have HQ0 := Aside0.mk q0'
                  have HQ1 := Aside0.mk q1'
                  have HQ2 := Aside0.mk q2'
                  have HQ3 := Aside0.mk q3'
                  have b2 : decide ((j : Int) < (l1.length : Int)) = true := decide_eq_true (by omega)
                  have b2' : decide (j < l1.length) = true := decide_eq_true hltj
                  have HJ := Aside0.mk hj
                  have HBW := Aside0.mk HI.out.bel
                  have B42 := Aside0.mk HI.out.b
                  have RR2 := Aside0.mk HI.out.rr
                  have RS2 := Aside0.mk HI.out.res
                  have HGB : Aside0 (w.heap.size ≤ gb) := ⟨Kd.R_base RR2.out.1 gb rfl⟩
                  have HOS : Aside0 (∀ q, OneS gb (.slice Al s.2.length cl) q → w.heap.size ≤ q) := ⟨fun q hq => by
                    rcases hq with h | h
                    · have := HGB.out; omega
                    · exact Kd.R_base RR2.out.2 _ h.symm⟩
                  have HNB : ∀ {q T cs}, wr.heap[q]? = some (.cells cs T (0, 0)) → T ≠ 3 → T ≠ 44 → ¬ OneS gb (.slice Al s.2.length cl) q := fun hq h1 h2 hs => by
                    rcases hs with h | h
                    · exact Kd.R_ne RR2.out.1 hq (Ne.symm h1) (by rw [h]; rfl)
                    · exact Kd.R_ne RR2.out.2 hq (Ne.symm h2) h
                  have HN4 : Aside0 (¬ OneS gb (.slice Al s.2.length cl) w4.heap.size) := ⟨HNB B42.out (by decide) (by decide)⟩
                  have HN0 : Aside0 (¬ OneS gb (.slice Al s.2.length cl) (w.heap.size + 1)) := ⟨HNB RS2.out (by decide) (by decide)⟩
                  have HNA : Aside0 (¬ OneS gb (.slice Al s.2.length cl) (ad.add (j * 4)).block) := ⟨fun h => by have := HOS.out _ h; have := HADL.out; omega⟩
                  have CLO : Aside0 (Clo (fun W => Moved wr W (OneS gb (.slice Al s.2.length cl))) (fun W => RepRows W w.heap.size gb s.1.length c s (.slice Al s.2.length cl)) wr.heap.size (.cells #[.slice none 0 0, .slice none 0 0] 25 (0, 0)) (.cells #[.int .i64 0, .int .i64 0, .int .i64 0] 37 (0, 0))) := ⟨⟨fun W W' hb h => h.then hb, fun W q us hq _ h => h.sto hq us, fun W W' hb h => h.below hb, fun W q us hq hz h => by
                    rcases hz with hz | hz
                    · exact h.cells hz (by decide) (by decide) us
                    · exact h.cells hz (by decide) (by decide) us⟩⟩
                  subst e1
                  clear q0' q1' q2' q3' hrd hx hx0 hgl HNB
                  go_upto_region 22 with fail
                  refine region_ghost2 (γ := (Nat×Nat)) (fun i g g' w1 w2 => if i = 5 then RCall (fun W => Moved wr W (OneS gb (.slice Al s.2.length cl))) wr.heap.size (.cells #[.slice none 0 0, .slice none 0 0] 25 (0, 0)) (.cells #[.int .i64 0, .int .i64 0, .int .i64 0] 37 (0, 0)) g g' w1 w2 else if i = 9 then RAlloc1 (.cells #[.slice none 0 0, .slice none 0 0] 25 (0, 0)) g g' w1 w2 else if i = 10 then RAlloc2 (.cells #[.int .i64 0, .int .i64 0, .int .i64 0] 37 (0, 0)) g g' w1 w2 else if i = 11 then RStore1 (wr.heap.size) (.cells #[.slice none 0 0, .slice none 0 0] 25 (0, 0)) g g' w1 w2 else if i = 12 then RStore2 (wr.heap.size) (.cells #[.int .i64 0, .int .i64 0, .int .i64 0] 37 (0, 0)) g g' w1 w2 else RSame g g' w1 w2) (fun g f W => TrC (fun W => Moved wr W (OneS gb (.slice Al s.2.length cl))) (fun W => RepRows W w.heap.size gb s.1.length c s (.slice Al s.2.length cl)) wr.heap.size 5 9 11 10 12 (.cells #[.slice none 0 0, .slice none 0 0] 25 (0, 0)) (.cells #[.int .i64 0, .int .i64 0, .int .i64 0] 37 (0, 0)) g f W) (0,0) [(some 64, (fun g v W => v = .agg #[(.slice (some ⟨gb, 0, none⟩) s.1.length c), .slice Al s.2.length cl])), (some 65, (fun _ v _ => v = .slice (some ad) l1.length c1)), (some 66, (fun _ v _ => v = .int .i64 j)), (some 67, (fun _ v _ => v = .pointer (some (ad.add (j * 4))))), (some 68, (fun g v W => v = .agg #[.int .i64 x.f0, .int .i64 x.f1, .int .i64 x.f2, .int .i64 x.f3])), (some 69, (fun g v W => ∃ vl', v = .tuple #[.agg #[(.slice (some ⟨gb, 0, none⟩) s.1.length c), vl'], .agg #[.int .i64 (doL s x).2.f0, .int .i64 (doL s x).2.f1, .int .i64 (doL s x).2.f2]] ∧ RepRows W w.heap.size gb s.1.length c (doL s x).1 vl')), (some 63, (fun g v W => ∃ vl', v = .tuple #[.agg #[(.slice (some ⟨gb, 0, none⟩) s.1.length c), vl'], .agg #[.int .i64 (doL s x).2.f0, .int .i64 (doL s x).2.f1, .int .i64 (doL s x).2.f2]] ∧ RepRows W w.heap.size gb s.1.length c (doL s x).1 vl')), (some 70, (fun g v W => ∃ vl', v = .agg #[(.slice (some ⟨gb, 0, none⟩) s.1.length c), vl'] ∧ RepRows W w.heap.size gb s.1.length c (doL s x).1 vl')), (some 71, (fun g v W => v = .agg #[.int .i64 (doL s x).2.f0, .int .i64 (doL s x).2.f1, .int .i64 (doL s x).2.f2])), (some 14, (fun g v _ => v = .pointer (some ⟨g.1, 0, none⟩))), (some 15, (fun g v _ => v = .pointer (some ⟨g.2, 0, none⟩))), (none, (fun g v W => ∃ vl', W.heap[g.1]? = some (.cells #[(.slice (some ⟨gb, 0, none⟩) s.1.length c), vl'] 25 (0, 0)) ∧ RepRows W w.heap.size gb s.1.length c (doL s x).1 vl')), (none, (fun g v W => W.heap[g.2]? = some (.cells #[.int .i64 (doL s x).2.f0, .int .i64 (doL s x).2.f1, .int .i64 (doL s x).2.f2] 37 (0, 0))))] (by kernel_rfl) (by kernel_rfl) [64, 65, 66, 67, 68, 69, 63, 70, 71, 14, 15] (by rfl) (by rfl) (by decide) ?hsz ?hst ?hT0 ?hT ?step ?fin
                  case hsz => exact show ∀ t ∈ ([64, 65, 66, 67, 68, 69, 63, 70, 71, 14, 15] : List Nat), t < 79 from List.forall_mem_cons.2 ⟨(show 64 < 79 by decide), List.forall_mem_cons.2 ⟨(show 65 < 79 by decide), List.forall_mem_cons.2 ⟨(show 66 < 79 by decide), List.forall_mem_cons.2 ⟨(show 67 < 79 by decide), List.forall_mem_cons.2 ⟨(show 68 < 79 by decide), List.forall_mem_cons.2 ⟨(show 69 < 79 by decide), List.forall_mem_cons.2 ⟨(show 63 < 79 by decide), List.forall_mem_cons.2 ⟨(show 70 < 79 by decide), List.forall_mem_cons.2 ⟨(show 71 < 79 by decide), List.forall_mem_cons.2 ⟨(show 14 < 79 by decide), List.forall_mem_cons.2 ⟨(show 15 < 79 by decide), fun _ h => nomatch h⟩⟩⟩⟩⟩⟩⟩⟩⟩⟩⟩
                  case hT0 => exact TrC.start CLO.out ⟨rfl, rfl, rfl, Nat.le_refl _, fun _ _ _ => rfl⟩ RR2.out (Nat.le_refl _) 13 (by decide) (by decide) _
                  case hT =>
                    intro f i_ g g' w1 w2 hi hfi ht hr
                    match i_, hi with
                    | 0, _ => exact TrC.same (i := 0) ht hr (by decide)
                    | 1, _ => exact TrC.same (i := 1) ht hr (by decide)
                    | 2, _ => exact TrC.same (i := 2) ht hr (by decide)
                    | 3, _ => exact TrC.same (i := 3) ht hr (by decide)
                    | 4, _ => exact TrC.same (i := 4) ht hr (by decide)
                    | 5, _ => exact TrC.call ht hr (by decide)
                    | 6, _ => exact TrC.same (i := 6) ht hr (by decide)
                    | 7, _ => exact TrC.same (i := 7) ht hr (by decide)
                    | 8, _ => exact TrC.same (i := 8) ht hr (by decide)
                    | 9, _ => exact TrC.alloc1 ht hr (by decide)
                    | 10, _ => exact TrC.alloc2 ht hr (by decide)
                    | 11, _ => exact TrC.store1 ht hr (by decide)
                    | 12, _ => exact TrC.store2 ht hr (by decide)
                    | n_ + 13, hi => exact absurd hi (by show ¬ n_ + 13 < 13; omega)
                  case hst =>
                    intro i_ j_ q_ hq hij hin
                    match i_, hin with
                    | 0, _ => exact .inr fun f g g' v w1 w2 _ hr h => RSame.keep (q := q_.2) hr h
                    | 1, _ => exact .inr fun f g g' v w1 w2 _ hr h => RSame.keep (q := q_.2) hr h
                    | 2, _ => exact .inr fun f g g' v w1 w2 _ hr h => RSame.keep (q := q_.2) hr h
                    | 3, _ => exact .inr fun f g g' v w1 w2 _ hr h => RSame.keep (q := q_.2) hr h
                    | 4, _ => exact .inr fun f g g' v w1 w2 _ hr h => RSame.keep (q := q_.2) hr h
                    | 5, _ =>
                      match j_, hq with
                      | 0, hq => exact .inr (by obtain rfl := Option.some.inj hq; exact fun f g g' v w1 w2 ht hr h => h)
                      | 1, hq => exact .inr (by obtain rfl := Option.some.inj hq; exact fun f g g' v w1 w2 ht hr h => h)
                      | 2, hq => exact .inr (by obtain rfl := Option.some.inj hq; exact fun f g g' v w1 w2 ht hr h => h)
                      | 3, hq => exact .inr (by obtain rfl := Option.some.inj hq; exact fun f g g' v w1 w2 ht hr h => h)
                      | 4, hq => exact .inr (by obtain rfl := Option.some.inj hq; exact fun f g g' v w1 w2 ht hr h => h)
                      | 5, hq => exact absurd rfl hij
                      | 6, hq => exact .inl (by kernel_rfl)
                      | 7, hq => exact .inl (by kernel_rfl)
                      | 8, hq => exact .inl (by kernel_rfl)
                      | 9, hq => exact .inr (by obtain rfl := Option.some.inj hq; exact fun f g g' v w1 w2 ht hr h => h.trans (by rw [show g'.1 = g.1 from congrArg (·.1) hr.e]))
                      | 10, hq => exact .inr (by obtain rfl := Option.some.inj hq; exact fun f g g' v w1 w2 ht hr h => h.trans (by rw [show g'.2 = g.2 from congrArg (·.2) hr.e]))
                      | 11, hq => exact .inl (by kernel_rfl)
                      | 12, hq => exact .inl (by kernel_rfl)
                      | n_ + 13, hq => simp at hq
                    | 6, _ => exact .inr fun f g g' v w1 w2 _ hr h => RSame.keep (q := q_.2) hr h
                    | 7, _ => exact .inr fun f g g' v w1 w2 _ hr h => RSame.keep (q := q_.2) hr h
                    | 8, _ => exact .inr fun f g g' v w1 w2 _ hr h => RSame.keep (q := q_.2) hr h
                    | 9, _ =>
                      match j_, hq with
                      | 0, hq => exact .inr (by obtain rfl := Option.some.inj hq; exact fun f g g' v w1 w2 ht hr h => h)
                      | 1, hq => exact .inr (by obtain rfl := Option.some.inj hq; exact fun f g g' v w1 w2 ht hr h => h)
                      | 2, hq => exact .inr (by obtain rfl := Option.some.inj hq; exact fun f g g' v w1 w2 ht hr h => h)
                      | 3, hq => exact .inr (by obtain rfl := Option.some.inj hq; exact fun f g g' v w1 w2 ht hr h => h)
                      | 4, hq => exact .inr (by obtain rfl := Option.some.inj hq; exact fun f g g' v w1 w2 ht hr h => h)
                      | 5, hq => exact .inr (by obtain rfl := Option.some.inj hq; exact fun f g g' v w1 w2 ht hr h => h.imp fun _ h => ⟨h.1, h.2.below hr.b⟩)
                      | 6, hq => exact .inr (by obtain rfl := Option.some.inj hq; exact fun f g g' v w1 w2 ht hr h => h.imp fun _ h => ⟨h.1, h.2.below hr.b⟩)
                      | 7, hq => exact .inr (by obtain rfl := Option.some.inj hq; exact fun f g g' v w1 w2 ht hr h => h.imp fun _ h => ⟨h.1, h.2.below hr.b⟩)
                      | 8, hq => exact .inr (by obtain rfl := Option.some.inj hq; exact fun f g g' v w1 w2 ht hr h => h)
                      | 9, hq => exact absurd rfl hij
                      | 10, hq => exact .inr (by obtain rfl := Option.some.inj hq; exact fun f g g' v w1 w2 ht hr h => h.trans (by rw [show g'.2 = g.2 from hr.e2]))
                      | 11, hq => exact .inl (by kernel_rfl)
                      | 12, hq => exact .inl (by kernel_rfl)
                      | n_ + 13, hq => simp at hq
                    | 10, _ =>
                      match j_, hq with
                      | 0, hq => exact .inr (by obtain rfl := Option.some.inj hq; exact fun f g g' v w1 w2 ht hr h => h)
                      | 1, hq => exact .inr (by obtain rfl := Option.some.inj hq; exact fun f g g' v w1 w2 ht hr h => h)
                      | 2, hq => exact .inr (by obtain rfl := Option.some.inj hq; exact fun f g g' v w1 w2 ht hr h => h)
                      | 3, hq => exact .inr (by obtain rfl := Option.some.inj hq; exact fun f g g' v w1 w2 ht hr h => h)
                      | 4, hq => exact .inr (by obtain rfl := Option.some.inj hq; exact fun f g g' v w1 w2 ht hr h => h)
                      | 5, hq => exact .inr (by obtain rfl := Option.some.inj hq; exact fun f g g' v w1 w2 ht hr h => h.imp fun _ h => ⟨h.1, h.2.below hr.b⟩)
                      | 6, hq => exact .inr (by obtain rfl := Option.some.inj hq; exact fun f g g' v w1 w2 ht hr h => h.imp fun _ h => ⟨h.1, h.2.below hr.b⟩)
                      | 7, hq => exact .inr (by obtain rfl := Option.some.inj hq; exact fun f g g' v w1 w2 ht hr h => h.imp fun _ h => ⟨h.1, h.2.below hr.b⟩)
                      | 8, hq => exact .inr (by obtain rfl := Option.some.inj hq; exact fun f g g' v w1 w2 ht hr h => h)
                      | 9, hq => exact .inr (by obtain rfl := Option.some.inj hq; exact fun f g g' v w1 w2 ht hr h => h.trans (by rw [show g'.1 = g.1 from hr.e1]))
                      | 10, hq => exact absurd rfl hij
                      | 11, hq => exact .inl (by kernel_rfl)
                      | 12, hq => exact .inl (by kernel_rfl)
                      | n_ + 13, hq => simp at hq
                    | 11, _ =>
                      match j_, hq with
                      | 0, hq => exact .inr (by obtain rfl := Option.some.inj hq; exact fun f g g' v w1 w2 ht hr h => h)
                      | 1, hq => exact .inr (by obtain rfl := Option.some.inj hq; exact fun f g g' v w1 w2 ht hr h => h)
                      | 2, hq => exact .inr (by obtain rfl := Option.some.inj hq; exact fun f g g' v w1 w2 ht hr h => h)
                      | 3, hq => exact .inr (by obtain rfl := Option.some.inj hq; exact fun f g g' v w1 w2 ht hr h => h)
                      | 4, hq => exact .inr (by obtain rfl := Option.some.inj hq; exact fun f g g' v w1 w2 ht hr h => h)
                      | 5, hq => exact .inr (by obtain rfl := Option.some.inj hq; exact fun f g g' v w1 w2 ht hr h => h.imp fun _ h => ⟨h.1, h.2.sto hr.s (by decide) (by decide)⟩)
                      | 6, hq => exact .inr (by obtain rfl := Option.some.inj hq; exact fun f g g' v w1 w2 ht hr h => h.imp fun _ h => ⟨h.1, h.2.sto hr.s (by decide) (by decide)⟩)
                      | 7, hq => exact .inr (by obtain rfl := Option.some.inj hq; exact fun f g g' v w1 w2 ht hr h => h.imp fun _ h => ⟨h.1, h.2.sto hr.s (by decide) (by decide)⟩)
                      | 8, hq => exact .inr (by obtain rfl := Option.some.inj hq; exact fun f g g' v w1 w2 ht hr h => h)
                      | 9, hq => exact .inr (by obtain rfl := Option.some.inj hq; exact fun f g g' v w1 w2 ht hr h => h.trans (by rw [show g'.1 = g.1 from hr.s.e]))
                      | 10, hq => exact .inr (by obtain rfl := Option.some.inj hq; exact fun f g g' v w1 w2 ht hr h => h.trans (by rw [show g'.2 = g.2 from hr.e2]))
                      | 11, hq => exact absurd rfl hij
                      | 12, hq => exact .inl (by kernel_rfl)
                      | n_ + 13, hq => simp at hq
                    | 12, _ =>
                      match j_, hq with
                      | 0, hq => exact .inr (by obtain rfl := Option.some.inj hq; exact fun f g g' v w1 w2 ht hr h => h)
                      | 1, hq => exact .inr (by obtain rfl := Option.some.inj hq; exact fun f g g' v w1 w2 ht hr h => h)
                      | 2, hq => exact .inr (by obtain rfl := Option.some.inj hq; exact fun f g g' v w1 w2 ht hr h => h)
                      | 3, hq => exact .inr (by obtain rfl := Option.some.inj hq; exact fun f g g' v w1 w2 ht hr h => h)
                      | 4, hq => exact .inr (by obtain rfl := Option.some.inj hq; exact fun f g g' v w1 w2 ht hr h => h)
                      | 5, hq => exact .inr (by obtain rfl := Option.some.inj hq; exact fun f g g' v w1 w2 ht hr h => h.imp fun _ h => ⟨h.1, h.2.sto hr.s (by decide) (by decide)⟩)
                      | 6, hq => exact .inr (by obtain rfl := Option.some.inj hq; exact fun f g g' v w1 w2 ht hr h => h.imp fun _ h => ⟨h.1, h.2.sto hr.s (by decide) (by decide)⟩)
                      | 7, hq => exact .inr (by obtain rfl := Option.some.inj hq; exact fun f g g' v w1 w2 ht hr h => h.imp fun _ h => ⟨h.1, h.2.sto hr.s (by decide) (by decide)⟩)
                      | 8, hq => exact .inr (by obtain rfl := Option.some.inj hq; exact fun f g g' v w1 w2 ht hr h => h)
                      | 9, hq => exact .inr (by obtain rfl := Option.some.inj hq; exact fun f g g' v w1 w2 ht hr h => h.trans (by rw [show g'.1 = g.1 from hr.e1]))
                      | 10, hq => exact .inr (by obtain rfl := Option.some.inj hq; exact fun f g g' v w1 w2 ht hr h => h.trans (by rw [show g'.2 = g.2 from hr.s.e]))
                      | 11, hq => exact .inr (by obtain rfl := Option.some.inj hq; exact fun f g g' v w1 w2 ht hr h => h.imp fun _ h => ⟨by rw [hr.e1]; exact hr.s.blk h.1 (by decide), h.2.sto hr.s (by decide) (by decide)⟩)
                      | 12, hq => exact absurd rfl hij
                      | n_ + 13, hq => simp at hq
                    | n_ + 13, hin => exact absurd hin (by show ¬ n_ + 13 < 13; omega)
                  case step =>
                    intro i_ o_ e_ ho he f g a w1_ hfi hs hdf hfr htr hpre
                    try dsimp only
                    match i_, ho, he, hfi with
                    | 0, ho, he, hfi => obtain rfl : o_ = ⟨_, _, _, _, _, _⟩ := (Option.some.inj ho).symm; obtain rfl := Option.some.inj he; clear he; have f11 : a.tmps.getD 11 undef = .pointer (some ⟨w4.heap.size, 0, none⟩) := (by rw [Array.getD_eq_getD_getElem?, hfr 11 (show ¬ 11 ∈ ([64, 65, 66, 67, 68, 69, 63, 70, 71, 14, 15] : List Nat) by decide)]; rfl); clear hpre hfr; have k0 : w1_.cell? ⟨w4.heap.size, 0, none⟩ = some (.slice (some ⟨gb, 0, none⟩) s.1.length c) := (blk_cell (htr.com.blk B42.out HN4.out) 0).trans rfl; have k1 : w1_.cell? ⟨w4.heap.size, 1, none⟩ = some (.slice Al s.2.length cl) := (blk_cell (htr.com.blk B42.out HN4.out) 1).trans rfl; refine wpOp_value (v := .agg #[(.slice (some ⟨gb, 0, none⟩) s.1.length c), .slice Al s.2.length cl]) ho rfl ?_ ⟨_, g, rfl, rfl, RSame.mk rfl rfl⟩; simp only [execOp, Act.eval, List.map_toArray, List.map_cons, List.map_nil, f11]; first | rfl | (go_simp; done) | (go_simp; rfl)
                    | 1, ho, he, hfi => obtain rfl : o_ = ⟨_, _, _, _, _, _⟩ := (Option.some.inj ho).symm; obtain rfl := Option.some.inj he; clear he; have f1 : a.tmps.getD 1 undef = .slice (some ad) l1.length c1 := (by rw [Array.getD_eq_getD_getElem?, hfr 1 (show ¬ 1 ∈ ([64, 65, 66, 67, 68, 69, 63, 70, 71, 14, 15] : List Nat) by decide)]; rfl); clear hpre hfr; refine wpOp_value (v := .slice (some ad) l1.length c1) ho rfl ?_ ⟨_, g, rfl, rfl, RSame.mk rfl rfl⟩; simp only [execOp, Act.eval, List.map_toArray, List.map_cons, List.map_nil, f1]; first | rfl | (go_simp; done) | (go_simp; rfl) | (go_simp; intro h_; exfalso; omega)
                    | 2, ho, he, hfi => obtain rfl : o_ = ⟨_, _, _, _, _, _⟩ := (Option.some.inj ho).symm; obtain rfl := Option.some.inj he; clear he; have f13 : a.tmps.getD 13 undef = .int .i64 j := (by rw [Array.getD_eq_getD_getElem?, hfr 13 (show ¬ 13 ∈ ([64, 65, 66, 67, 68, 69, 63, 70, 71, 14, 15] : List Nat) by decide)]; rfl); clear hpre hfr; refine wpOp_value (v := .int .i64 j) ho rfl ?_ ⟨_, g, rfl, rfl, RSame.mk rfl rfl⟩; simp only [execOp, Act.eval, List.map_toArray, List.map_cons, List.map_nil, f13]; first | rfl | (go_simp; done) | (go_simp; rfl) | (go_simp; intro h_; exfalso; omega)
                    | 3, ho, he, hfi => obtain rfl : o_ = ⟨_, _, _, _, _, _⟩ := (Option.some.inj ho).symm; obtain rfl := Option.some.inj he; clear he; obtain ⟨ef65, v65_, e65, ev65⟩ := hpre ⟨1, .data⟩ (by simp) rfl _ rfl; replace ev65 := ev65 _ rfl; subst ev65; have e65 : a.tmps.getD 65 undef = .slice (some ad) l1.length c1 := e65; obtain ⟨ef66, v66_, e66, ev66⟩ := hpre ⟨2, .data⟩ (by simp) rfl _ rfl; replace ev66 := ev66 _ rfl; subst ev66; have e66 : a.tmps.getD 66 undef = .int .i64 j := e66; clear hpre hfr; refine wpOp_value (v := .pointer (some (ad.add (j * 4)))) ho rfl ?_ ⟨_, g, rfl, rfl, RSame.mk rfl rfl⟩; simp only [execOp, Act.eval, List.map_toArray, List.map_cons, List.map_nil, e65, e66]; first | rfl | (go_simp; done) | (go_simp; rfl) | (go_simp; intro h_; exfalso; omega)
                    | 4, ho, he, hfi => obtain rfl : o_ = ⟨_, _, _, _, _, _⟩ := (Option.some.inj ho).symm; obtain rfl := Option.some.inj he; clear he; obtain ⟨ef67, v67_, e67, ev67⟩ := hpre ⟨3, .data⟩ (by simp) rfl _ rfl; replace ev67 := ev67 _ rfl; subst ev67; have e67 : a.tmps.getD 67 undef = .pointer (some (ad.add (j * 4))) := e67; clear hpre hfr; have k0 := htr.com.cell ((HBW.out.cell HADL.out).trans HQ0.out) HNA.out; have k1 := htr.com.cell ((HBW.out.cell (show (⟨(ad.add (j * 4)).block, _, none⟩ : Addr).block < _ from HADL.out)).trans HQ1.out) HNA.out; have k2 := htr.com.cell ((HBW.out.cell (show (⟨(ad.add (j * 4)).block, _, none⟩ : Addr).block < _ from HADL.out)).trans HQ2.out) HNA.out; have k3 := htr.com.cell ((HBW.out.cell (show (⟨(ad.add (j * 4)).block, _, none⟩ : Addr).block < _ from HADL.out)).trans HQ3.out) HNA.out; refine wpOp_value (v := .agg #[.int .i64 x.f0, .int .i64 x.f1, .int .i64 x.f2, .int .i64 x.f3]) ho rfl ?_ ⟨_, g, rfl, rfl, RSame.mk rfl rfl⟩; simp only [execOp, Act.eval, List.map_toArray, List.map_cons, List.map_nil, e67]; first | rfl | (go_simp; done) | (go_simp; rfl)
                    | 5, ho, he, hfi =>
                      obtain rfl : o_ = ⟨_, _, _, _, _, _⟩ := (Option.some.inj ho).symm
                      obtain rfl := Option.some.inj he; clear he
                      obtain ⟨ef64, v64_, e64, ev64⟩ := hpre ⟨0, .data⟩ (by simp) rfl _ rfl
                      replace ev64 := ev64 _ rfl; subst ev64
                      try dsimp only at e64
                      obtain ⟨ef68, v68_, e68, ev68⟩ := hpre ⟨4, .data⟩ (by simp) rfl _ rfl
                      replace ev68 := ev68 _ rfl; subst ev68
                      try dsimp only at e68
                      clear hpre hfr
                      refine wpOp_call (fn := Try.f26) ho rfl rfl rfl rfl #[.agg #[(.slice (some ⟨gb, 0, none⟩) s.1.length c), .slice Al s.2.length cl], .agg #[.int .i64 x.f0, .int .i64 x.f1, .int .i64 x.f2, .int .i64 x.f3]] rfl (by simp only [List.map_toArray, List.map_cons, List.map_nil, Act.eval, e64, e68]) ?_
                      refine (ref_one w.heap.size gb c cl Al s.1 s.2 x _ (htr.pre hfi).1 (htr.pre hfi).2 HXO.out HAM.out HI.out.ok (by have := HI.out.ll; omega) (by have := htr.com.size; have := HBW.out.size; omega)).mono ?_
                      rintro e w3 ⟨vl', rfl, hb', hl', hat, hm⟩
                      refine ⟨_, rfl, _, g, rfl, ⟨vl', rfl, hb', hl'⟩, ⟨rfl, htr.com.trans hm, hm.size, fun q hq hz => ?_⟩⟩
                      have hn : ¬ OneS gb (.slice Al s.2.length cl) q := fun hs => by
                        rcases hz with hz | hz
                        · rcases hs with h | h
                          · exact Kd.R_ne (htr.pre hfi).1 hz (by decide) (by rw [h]; rfl)
                          · exact Kd.R_ne (htr.pre hfi).2 hz (by decide) h
                        · rcases hs with h | h
                          · exact Kd.R_ne (htr.pre hfi).1 hz (by decide) (by rw [h]; rfl)
                          · exact Kd.R_ne (htr.pre hfi).2 hz (by decide) h
                      exact hm.block q (by rcases hz with hz | hz <;> exact blk_lt hz) hn
                    | 6, ho, he, hfi => obtain rfl : o_ = ⟨_, _, _, _, _, _⟩ := (Option.some.inj ho).symm; obtain rfl := Option.some.inj he; clear he; obtain ⟨ef69, v69_, e69, ev69⟩ := hpre ⟨5, .data⟩ (by simp) rfl _ rfl; replace ev69 := ev69 _ rfl; subst ev69; try dsimp only at e69; clear hpre hfr; obtain ⟨v_, hv_⟩ : ∃ v_, v_ = a.tmps.getD 69 undef := ⟨_, rfl⟩; rw [← hv_] at e69; refine wpOp_value (v := v_) ho rfl ?_ ⟨v_, g, rfl, e69, RSame.mk rfl rfl⟩; simp only [execOp, Act.eval, List.map_toArray, List.map_cons, List.map_nil, ← hv_]; first | rfl | (go_simp; done) | (go_simp; rfl)
                    | 7, ho, he, hfi => obtain rfl : o_ = ⟨_, _, _, _, _, _⟩ := (Option.some.inj ho).symm; obtain rfl := Option.some.inj he; clear he; obtain ⟨ef63, v63_, e63, ev63⟩ := hpre ⟨6, .data⟩ (by simp) rfl _ rfl; replace ev63 := ev63 _ rfl; subst ev63; try dsimp only at e63; clear hpre hfr; obtain ⟨v1, e1, e3⟩ := e63; refine wpOp_value (v := .agg #[(.slice (some ⟨gb, 0, none⟩) s.1.length c), v1]) ho rfl ?_ ⟨_, g, rfl, ⟨v1, rfl, e3⟩, RSame.mk rfl rfl⟩; simp only [execOp, Act.eval, List.map_toArray, List.map_cons, List.map_nil, e1]; first | rfl | (go_simp; done) | (go_simp; rfl)
                    | 8, ho, he, hfi => obtain rfl : o_ = ⟨_, _, _, _, _, _⟩ := (Option.some.inj ho).symm; obtain rfl := Option.some.inj he; clear he; obtain ⟨ef63, v63_, e63, ev63⟩ := hpre ⟨6, .data⟩ (by simp) rfl _ rfl; replace ev63 := ev63 _ rfl; subst ev63; try dsimp only at e63; clear hpre hfr; obtain ⟨v1, e1, e3⟩ := e63; refine wpOp_value (v := .agg #[.int .i64 (doL s x).2.f0, .int .i64 (doL s x).2.f1, .int .i64 (doL s x).2.f2]) ho rfl ?_ ⟨_, g, rfl, rfl, RSame.mk rfl rfl⟩; simp only [execOp, Act.eval, List.map_toArray, List.map_cons, List.map_nil, e1]; first | rfl | (go_simp; done) | (go_simp; rfl)
                    | 9, ho, he, hfi => obtain rfl : o_ = ⟨_, _, _, _, _, _⟩ := (Option.some.inj ho).symm; obtain rfl := Option.some.inj he; clear he; clear hpre hfr; refine wpOp_value (w1 := w1_.alloc (.cells #[.slice none 0 0, .slice none 0 0] 25 (0, 0))) (v := .pointer (some ⟨w1_.heap.size, 0, none⟩)) ho rfl ?_ ⟨_, (w1_.heap.size, g.2), rfl, rfl, RAlloc1.mk rfl rfl rfl⟩; simp only [execOp, Act.eval, List.map_toArray, List.map_cons, List.map_nil]; first | rfl | (go_simp; done) | (go_simp; rfl)
                    | 10, ho, he, hfi => obtain rfl : o_ = ⟨_, _, _, _, _, _⟩ := (Option.some.inj ho).symm; obtain rfl := Option.some.inj he; clear he; clear hpre hfr; refine wpOp_value (w1 := w1_.alloc (.cells #[.int .i64 0, .int .i64 0, .int .i64 0] 37 (0, 0))) (v := .pointer (some ⟨w1_.heap.size, 0, none⟩)) ho rfl ?_ ⟨_, (g.1, w1_.heap.size), rfl, rfl, RAlloc2.mk rfl rfl rfl⟩; simp only [execOp, Act.eval, List.map_toArray, List.map_cons, List.map_nil]; first | rfl | (go_simp; done) | (go_simp; rfl)
                    | 11, ho, he, hfi =>
                      obtain rfl : o_ = ⟨_, _, _, _, _, _⟩ := (Option.some.inj ho).symm
                      obtain rfl := Option.some.inj he; clear he
                      obtain ⟨ef14, v14_, e14, ev14⟩ := hpre ⟨9, .data⟩ (by simp) rfl _ rfl
                      replace ev14 := ev14 _ rfl; subst ev14
                      have e14 : a.tmps.getD 14 undef = .pointer (some ⟨g.1, 0, none⟩) := e14
                      obtain ⟨ef70, v70_, e70, ev70⟩ := hpre ⟨7, .data⟩ (by simp) rfl _ rfl
                      replace ev70 := ev70 _ rfl; subst ev70
                      try dsimp only at e70
                      obtain ⟨ef69, v69_, e69, ev69⟩ := hpre ⟨5, .chain⟩ (by simp) rfl _ rfl
                      replace ev69 := ev69 _ rfl; subst ev69
                      try dsimp only at e69
                      clear hpre hfr
                      obtain ⟨v1, e1, e3⟩ := e70
                      obtain ⟨Ay, cy, rfl⟩ := Kd.R_slice e3.2
                      have hz := htr.zero1 ef14 hfi
                      have hz0 : w1_.cell? ⟨g.1, 0, none⟩ = some (.slice none 0 0) := (blk_cell hz 0).trans rfl
                      have hz1 : w1_.cell? ⟨g.1, 1, none⟩ = some (.slice none 0 0) := (blk_cell hz 1).trans rfl
                      have hf0 := blk_frozen hz 0
                      have hf1 := blk_frozen hz 1
                      refine wpOp_skip (w1 := (w1_.setCell ⟨g.1, 0, none⟩ (.slice (some ⟨gb, 0, none⟩) s.1.length c)).setCell ⟨g.1, 1, none⟩ (.slice Ay (doL s x).1.2.length cy)) ho rfl ?_ ⟨undef, g, rfl, ⟨_, blk_put (blk_put hz 0 _ rfl) 1 _ rfl, ?_⟩, RStore1.mk (RStore.mk rfl (htr.ge1 ef14).1 hz ⟨[_, _], rfl⟩) rfl⟩
                      · simp only [execOp, Act.eval, List.map_toArray, List.map_cons, List.map_nil, e1, e14]
                        first | rfl | (go_simp; done) | (go_simp; rfl)
                      · exact e3.cells hz (by decide) (by decide) [_, _]
                    | 12, ho, he, hfi => obtain rfl : o_ = ⟨_, _, _, _, _, _⟩ := (Option.some.inj ho).symm; obtain rfl := Option.some.inj he; clear he; obtain ⟨ef15, v15_, e15, ev15⟩ := hpre ⟨10, .data⟩ (by simp) rfl _ rfl; replace ev15 := ev15 _ rfl; subst ev15; have e15 : a.tmps.getD 15 undef = .pointer (some ⟨g.2, 0, none⟩) := e15; obtain ⟨ef71, v71_, e71, ev71⟩ := hpre ⟨8, .data⟩ (by simp) rfl _ rfl; replace ev71 := ev71 _ rfl; subst ev71; try dsimp only at e71; clear hpre hfr; have hz := htr.zero2 ef15 hfi; have hz0 : w1_.cell? ⟨g.2, 0, none⟩ = some (.int .i64 0) := (blk_cell hz 0).trans rfl; have hz1 : w1_.cell? ⟨g.2, 1, none⟩ = some (.int .i64 0) := (blk_cell hz 1).trans rfl; have hz2 : w1_.cell? ⟨g.2, 2, none⟩ = some (.int .i64 0) := (blk_cell hz 2).trans rfl; have hf0 := blk_frozen hz 0; have hf1 := blk_frozen hz 1; have hf2 := blk_frozen hz 2; refine wpOp_skip (w1 := ((w1_.setCell ⟨g.2, 0, none⟩ (.int .i64 (doL s x).2.f0)).setCell ⟨g.2, 1, none⟩ (.int .i64 (doL s x).2.f1)).setCell ⟨g.2, 2, none⟩ (.int .i64 (doL s x).2.f2)) ho rfl ?_ ⟨undef, g, rfl, blk_put (blk_put (blk_put hz 0 _ rfl) 1 _ rfl) 2 _ rfl, RStore2.mk (RStore.mk rfl (htr.ge2 ef15).1 hz ⟨[_, _, _], rfl⟩) rfl⟩; simp only [execOp, Act.eval, List.map_toArray, List.map_cons, List.map_nil, e71, e15]; first | rfl | (go_simp; done) | (go_simp; rfl)
                    | n_ + 13, ho, he, hfi => simp at he
                  case fin =>
                    intro xv_ gz f_ w1_ hall htr hx
                    simp only [List.forall_mem_cons] at hx
                    obtain ⟨⟨z64_, z64, y64⟩, ⟨z65_, z65, y65⟩, ⟨z66_, z66, y66⟩, ⟨z67_, z67, y67⟩, ⟨z68_, z68, y68⟩, ⟨z69_, z69, y69⟩, ⟨z63_, z63, y63⟩, ⟨z70_, z70, y70⟩, ⟨z71_, z71, y71⟩, ⟨z14_, z14, y14⟩, ⟨z15_, z15, y15⟩, ⟨_, w11, _⟩, ⟨_, w12, _⟩, _⟩ := hx
                    replace y64 := y64 _ rfl; subst y64
                    have x64 := z64; try dsimp only at x64
                    replace y65 := y65 _ rfl; subst y65
                    have x65 : xv_ 65 = .slice (some ad) l1.length c1 := z65
                    replace y66 := y66 _ rfl; subst y66
                    have x66 : xv_ 66 = .int .i64 j := z66
                    replace y67 := y67 _ rfl; subst y67
                    have x67 : xv_ 67 = .pointer (some (ad.add (j * 4))) := z67
                    replace y68 := y68 _ rfl; subst y68
                    have x68 := z68; try dsimp only at x68
                    replace y69 := y69 _ rfl; subst y69
                    obtain ⟨v69, x69, _⟩ := z69
                    replace y63 := y63 _ rfl; subst y63
                    obtain ⟨x_63, x63⟩ : ∃ x, xv_ 63 = x := ⟨_, rfl⟩
                    replace y70 := y70 _ rfl; subst y70
                    obtain ⟨v70, x70, _⟩ := z70
                    replace y71 := y71 _ rfl; subst y71
                    have x71 := z71; try dsimp only at x71
                    replace y14 := y14 _ rfl; subst y14
                    have x14 : xv_ 14 = .pointer (some ⟨gz.1, 0, none⟩) := z14
                    replace y15 := y15 _ rfl; subst y15
                    have x15 : xv_ 15 = .pointer (some ⟨gz.2, 0, none⟩) := z15
                    obtain ⟨vq, hbq, hRq⟩ := w11
                    obtain hbr := w12
                    simp only [List.map_cons, List.map_nil, putL, Act.put, List.setIfInBounds_toArray, List.set_cons_zero, List.set_cons_succ, x64, x65, x66, x67, x68, x69, x63, x70, x71, x14, x15]
                    clear x64 x65 x66 x67 x68 x69 x63 x70 x71 x14 x15 z64 z65 z66 z67 z68 z63 z71 z14 z15
                    obtain ⟨w3, hw3⟩ : ∃ w3, w3 = w1_ := ⟨_, rfl⟩
                    subst hw3
                    obtain ⟨d, hd⟩ : ∃ d, d = (doL s x).2 := ⟨_, rfl⟩
                    obtain ⟨s', hs'⟩ : ∃ s', s' = (doL s x).1 := ⟨_, rfl⟩
                    have HLEN : Aside0 (s'.1.length = s.1.length) := ⟨by rw [hs']; exact (change_ok HI.out.ok x).1.trans HI.out.ok.1.symm⟩
                    have HDA : Aside0 (s' = (doL s x).1 ∧ d = (doL s x).2) := ⟨hs', hd⟩
                    have HOK1 : Aside0 (BalOk (doL s x).1.1 ∧ (doL s x).1.2.length + nChg (l1.drop (j + 1)) ≤ 1024) := ⟨doL_bal HI.out.ok x, by
                      have hll := HI.out.ll
                      rw [HDR.out, nChg_cons] at hll
                      simp only [doL]; split <;> rename_i hh
                      · rw [if_pos hh] at hll; simp; omega
                      · rw [if_neg hh] at hll; omega⟩
                    obtain ⟨Aq, cq, hvq⟩ := Kd.R_slice hRq.2
                    subst hvq
                    have HRO := Aside0.mk (Kd.R_moved HI.out.ro htr.com (fun q hq => by
                      rcases hq with h | h
                      · obtain ⟨cells, hc⟩ := Kd.R_typed RR2.out.1 gb rfl; exact ⟨_, cells, by rw [h]; exact hc, by decide⟩
                      · obtain ⟨cells, hc⟩ := Kd.R_typed RR2.out.2 _ h.symm; exact ⟨_, cells, hc, by decide⟩))
                    have RS3 := Aside0.mk (htr.com.blk RS2.out HN0.out)
                    have B43 := Aside0.mk (htr.com.blk B42.out HN4.out)
                    have HBL3 : Aside0 (Below w.heap.size w w3) := ⟨htr.com.below HBW.out HBW.out.size HOS.out⟩
                    have HGE : Aside0 (w.heap.size ≤ w3.heap.size) := ⟨HBL3.out.size⟩
                    rw [← hs'] at hRq hbq HOK1
                    rw [← hd] at w12
                    have HBQ := Aside0.mk hbq
                    have HBR := Aside0.mk w12
                    have HRQ := Aside0.mk hRq
                    have nQ := Kd.R_ne HRO.out HBQ.out (by decide)
                    have nR : some gz.2 ≠ (Value.slice Ar outs.length cr).ownBlock := fun he => by have := Kd.R_lt HI.out.ro gz.2 he.symm; have := (htr.ge2 (hall _)).1; omega
                    have nG := Kd.R_ne HRO.out B43.out (by decide)
                    have HOL : Aside0 (outs.length < 5000000000000) := ⟨by rw [HI.out.ol]; have := HL1.out; omega⟩
                    clear htr hd hs' hRq hbq w12 hzl
                    go_upto_region 23 with fail
                    have p0 : ∀ f W, ResTr w3 w.heap.size (.slice Ar outs.length cr) outs f W → W.cell? ⟨gz.1, 0, none⟩ = some (.slice (some ⟨gb, 0, none⟩) s.1.length c) := fun f W h => (blk_cell (blk_grown HBQ.out h.mv nQ) 0).trans rfl
                    have p1 : ∀ f W, ResTr w3 w.heap.size (.slice Ar outs.length cr) outs f W → W.cell? ⟨gz.1, 1, none⟩ = some (.slice Aq s'.2.length cq) := fun f W h => (blk_cell (blk_grown HBQ.out h.mv nQ) 1).trans rfl
                    have d0 : ∀ f W, ResTr w3 w.heap.size (.slice Ar outs.length cr) outs f W → W.cell? ⟨gz.2, 0, none⟩ = some (.int .i64 d.f0) := fun f W h => (blk_cell (blk_grown HBR.out h.mv nR) 0).trans rfl
                    have d1 : ∀ f W, ResTr w3 w.heap.size (.slice Ar outs.length cr) outs f W → W.cell? ⟨gz.2, 1, none⟩ = some (.int .i64 d.f1) := fun f W h => (blk_cell (blk_grown HBR.out h.mv nR) 1).trans rfl
                    have d2 : ∀ f W, ResTr w3 w.heap.size (.slice Ar outs.length cr) outs f W → W.cell? ⟨gz.2, 2, none⟩ = some (.int .i64 d.f2) := fun f W h => (blk_cell (blk_grown HBR.out h.mv nR) 2).trans rfl
                    refine region_moves 5 (fun i => if i = 3 then (fun w1 w2 => Below w1.heap.size w1 w2) else if i = 4 then (fun w1 w2 => w1.grownBy w2 (Value.slice Ar outs.length cr).ownBlock) else fun w1 w2 => w2 = w1) (ResTr w3 w.heap.size (.slice Ar outs.length cr) outs) [(72, (fun v _ => v = .agg #[.slice (some ⟨gb, 0, none⟩) s.1.length c, .slice Aq s'.2.length cq])), (73, (fun v _ => v = .slice Ar outs.length cr)), (74, (fun v _ => v = .agg #[.int .i64 d.f0, .int .i64 d.f1, .int .i64 d.f2])), (75, (fun v W => ∃ g7, v = .slice (some ⟨g7, 0, none⟩) 1 1 ∧ w3.heap.size ≤ g7 ∧ W.heap[g7]? = some (.cells #[.int .i64 d.f0, .int .i64 d.f1, .int .i64 d.f2] 37 (0, 0)))), (76, (fun v W => ∃ Ao co, v = .slice Ao (outs.length + 1) co ∧ Kd.R k37 37 W w.heap.size (fun _ => True) (.slice Ao (outs.length + 1) co) (outs ++ [d])))] (by kernel_rfl) (by kernel_rfl) (by decide) (by kernel_rfl) (by kernel_rfl) (by rfl) (show ([72, 73, 74, 75, 76] : List Nat).Nodup by decide) ?hsz ?hst ?hT0 ?hT ?step ?fin
                    case hsz => exact List.forall_mem_cons.2 ⟨(show 72 < 79 by decide), List.forall_mem_cons.2 ⟨(show 73 < 79 by decide), List.forall_mem_cons.2 ⟨(show 74 < 79 by decide), List.forall_mem_cons.2 ⟨(show 75 < 79 by decide), List.forall_mem_cons.2 ⟨(show 76 < 79 by decide), fun _ h => nomatch h⟩⟩⟩⟩⟩
                    case hT0 => exact fun f _ => ⟨grown_drew (World.grownBy.refl _ _), fun _ => Kd.R_drew HRO.out⟩
                    case hT =>
                      intro f i_ w1 w2 hfi ht hr
                      try dsimp only at hr
                      by_cases hi75 : i_ = 3
                      · subst hi75; simp only [if_true, reduceIte, Nat.reduceEqDiff] at hr; exact ht.made _ hr
                      by_cases hi76 : i_ = 4
                      · subst hi76; simp only [if_true, reduceIte, Nat.reduceEqDiff] at hr; exact ht.grew hr
                      simp only [if_neg hi75, if_neg hi76] at hr
                      subst hr
                      exact ht.up _
                    case hst =>
                      intro i_ j_ q_ hq hij hin
                      by_cases hi75 : i_ = 3
                      · subst hi75; simp only [if_true, reduceIte, Nat.reduceEqDiff]
                        match j_, hq with
                        | 0, hq => exact .inr (by obtain rfl := Option.some.inj hq; exact fun f v w1 w2 ht hr h => h)
                        | 1, hq => exact .inr (by obtain rfl := Option.some.inj hq; exact fun f v w1 w2 ht hr h => h)
                        | 2, hq => exact .inr (by obtain rfl := Option.some.inj hq; exact fun f v w1 w2 ht hr h => h)
                        | 3, hq => exact absurd rfl hij
                        | 4, hq => exact .inl (by kernel_rfl)
                        | n_ + 5, hq => simp at hq
                      by_cases hi76 : i_ = 4
                      · subst hi76; simp only [if_true, reduceIte, Nat.reduceEqDiff]
                        match j_, hq with
                        | 0, hq => exact .inr (by obtain rfl := Option.some.inj hq; exact fun f v w1 w2 ht hr h => h)
                        | 1, hq => exact .inr (by obtain rfl := Option.some.inj hq; exact fun f v w1 w2 ht hr h => h)
                        | 2, hq => exact .inr (by obtain rfl := Option.some.inj hq; exact fun f v w1 w2 ht hr h => h)
                        | 3, hq => exact .inr (by obtain rfl := Option.some.inj hq; exact fun f v w1 w2 ht hr h => h.imp fun g7 h => ⟨h.1, h.2.1, blk_grown h.2.2 hr (fun he => by have := Kd.R_lt HRO.out g7 he.symm; omega)⟩)
                        | 4, hq => exact absurd rfl hij
                        | n_ + 5, hq => simp at hq
                      simp only [if_neg hi75, if_neg hi76]
                      exact .inr fun f v w1 w2 _ hr h => hr ▸ h
                    case step =>
                      intro i_ o_ e_ ho he f a w1_ hfi hs hdf hfr htr hpre
                      try dsimp only
                      match i_, ho, he, hfi with
                      | 0, ho, he, hfi => obtain rfl : o_ = ⟨_, _, _, _, _, _⟩ := (Option.some.inj ho).symm; obtain rfl := Option.some.inj he; clear he; have f14 : a.tmps.getD 14 undef = .pointer (some ⟨gz.1, 0, none⟩) := (by rw [Array.getD_eq_getD_getElem?, hfr 14 (show ¬ 14 ∈ ([72, 73, 74, 75, 76] : List Nat) by decide)]; rfl); clear hpre hfr; have k_p0 := p0 _ _ htr; have k_p1 := p1 _ _ htr; refine wpOp_value (v := .agg #[.slice (some ⟨gb, 0, none⟩) s.1.length c, .slice Aq s'.2.length cq]) ho rfl ?_ ⟨_, rfl, rfl, rfl⟩; simp only [execOp, Act.eval, List.map_toArray, List.map_cons, List.map_nil, f14]; first | rfl | (go_simp; done) | (go_simp; rfl) | (go_simp; intro h_; exfalso; omega)
                      | 1, ho, he, hfi => obtain rfl : o_ = ⟨_, _, _, _, _, _⟩ := (Option.some.inj ho).symm; obtain rfl := Option.some.inj he; clear he; have f12 : a.tmps.getD 12 undef = .slice Ar outs.length cr := (by rw [Array.getD_eq_getD_getElem?, hfr 12 (show ¬ 12 ∈ ([72, 73, 74, 75, 76] : List Nat) by decide)]; rfl); clear hpre hfr; refine wpOp_value (v := .slice Ar outs.length cr) ho rfl ?_ ⟨_, rfl, rfl, rfl⟩; simp only [execOp, Act.eval, List.map_toArray, List.map_cons, List.map_nil, f12]; first | rfl | (go_simp; done) | (go_simp; rfl) | (go_simp; intro h_; exfalso; omega)
                      | 2, ho, he, hfi => obtain rfl : o_ = ⟨_, _, _, _, _, _⟩ := (Option.some.inj ho).symm; obtain rfl := Option.some.inj he; clear he; have f15 : a.tmps.getD 15 undef = .pointer (some ⟨gz.2, 0, none⟩) := (by rw [Array.getD_eq_getD_getElem?, hfr 15 (show ¬ 15 ∈ ([72, 73, 74, 75, 76] : List Nat) by decide)]; rfl); clear hpre hfr; have k_d0 := d0 _ _ htr; have k_d1 := d1 _ _ htr; have k_d2 := d2 _ _ htr; refine wpOp_value (v := .agg #[.int .i64 d.f0, .int .i64 d.f1, .int .i64 d.f2]) ho rfl ?_ ⟨_, rfl, rfl, rfl⟩; simp only [execOp, Act.eval, List.map_toArray, List.map_cons, List.map_nil, f15]; first | rfl | (go_simp; done) | (go_simp; rfl) | (go_simp; intro h_; exfalso; omega)
                      | 3, ho, he, hfi => obtain rfl : o_ = ⟨_, _, _, _, _, _⟩ := (Option.some.inj ho).symm; obtain rfl := Option.some.inj he; clear he; have e74 : a.tmps.getD 74 undef = .agg #[.int .i64 d.f0, .int .i64 d.f1, .int .i64 d.f2] := hpre ⟨2, .data⟩ (by simp) rfl _ rfl; clear hpre hfr; refine wpOp_value (w1 := w1_.alloc (.cells #[.int .i64 d.f0, .int .i64 d.f1, .int .i64 d.f2] 37)) (v := .slice (some ⟨w1_.heap.size, 0, none⟩) 1 1) ho rfl ?_ ⟨_, rfl, ⟨_, rfl, htr.mv.size, heap_new1 _ _⟩, below_alloc (Below.refl _ _) _⟩; simp only [execOp, Act.eval, List.map_toArray, List.map_cons, List.map_nil, e74]; first | rfl | (go_simp; done) | (go_simp; rfl)
                      | 4, ho, he, hfi =>
                        obtain rfl : o_ = ⟨_, _, _, _, _, _⟩ := (Option.some.inj ho).symm
                        obtain rfl := Option.some.inj he; clear he
                        have e73 : a.tmps.getD 73 undef = .slice Ar outs.length cr := hpre ⟨1, .data⟩ (by simp) rfl _ rfl
                        have e75 := hpre ⟨3, .data⟩ (by simp) rfl _ rfl; dsimp only at e75
                        clear hpre hfr
                        obtain ⟨g7, e75, hg7, hr7⟩ := e75
                        show wpOp _ _ _ _ (fun a' w2 => ∃ v, a' = a.put (some 76) v ∧ (∃ Ao co, v = .slice Ao (outs.length + 1) co ∧ Kd.R k37 37 w2 w.heap.size (fun _ => True) (.slice Ao (outs.length + 1) co) (outs ++ [d])) ∧ w1_.grownBy w2 (Value.slice Ar outs.length cr).ownBlock) _ _
                        refine wpOp_step ho fun K' hK => ?_
                        refine Kd.R_append_rows_step k37 (w0 := w1_) (W := w1_) w.heap.size rfl (.tmp 73) (.tmp 75) 28 37 (.agg #[.int .i64 0, .int .i64 0, .int .i64 0]) 24 rfl Try.underlying28 info37 rfl (by decide) (by omega) (.slice Ar outs.length cr) outs [d] (some ⟨g7, 0, none⟩) 1 1 (fun _ => True) (fun _ => False) e73 e75 (htr.rl hfi) (C_one hr7 (k37_mk _ d)) (fun _ _ h => h) (fun _ h => h.elim) (fun _ _ => trivial) (Below.refl _ _) ?hbs ?hl ?_
                        case hbs => have := HGE.out; have := htr.mv.size; omega
                        case hl => have := HOL.out; simp; omega
                        intro v4 w4' ho4 hb4 hg4 hat4
                        obtain ⟨Ao, co, rfl⟩ := Kd.R_slice ho4
                        simp only [List.length_append, List.length_cons, List.length_nil] at ho4 ⊢
                        exact hK _ _ ⟨_, rfl, ⟨Ao, co, by simp, ho4⟩, hg4⟩
                      | n_ + 5, ho, he, hfi => simp at he
                    case fin =>
                      intro xv_ f_ w1_ htr hx
                      simp only [List.forall_mem_cons] at hx
                      obtain ⟨x72, x73, x74, ⟨g7, x75, hg7, hr7⟩, ⟨Ao, co, x76, ho4⟩, _⟩ := hx
                      simp only [List.map_cons, List.map_nil, putL, Act.put, List.setIfInBounds_toArray, List.set_cons_zero, List.set_cons_succ, x72, x73, x74, x75, x76]
                      simp only [List.drop_succ_cons, List.drop_zero]
                      clear x72 x73 x74 x75 x76
                      obtain ⟨hmv, _⟩ := htr
                      have B44 := Aside0.mk (blk_grown B43.out hmv nG)
                      have RS4 := Aside0.mk (blk_grown RS3.out hmv (Kd.R_ne HRO.out RS3.out (by decide)))
                      have g0 : w1_.cell? ⟨w4.heap.size, 0, none⟩ = some (.slice (some ⟨gb, 0, none⟩) s.1.length c) := (blk_cell B44.out 0).trans rfl
                      have g1 : w1_.cell? ⟨w4.heap.size, 1, none⟩ = some (.slice Al s.2.length cl) := (blk_cell B44.out 1).trans rfl
                      have fg0 := blk_frozen B44.out 0
                      have fg1 := blk_frozen B44.out 1
                      clear p0 p1 d0 d1 d2
                      have HMV := Aside0.mk hmv
                      have HO4 := Aside0.mk ho4
                      clear hmv ho4
                      go_wp2_with fail
                      go_roundw
                      case rel =>
                        have hp1 := blk_put (cs := #[.slice (some ⟨gb, 0, none⟩) s.1.length c, .slice Al s.2.length cl]) B44.out 0 (.slice (some ⟨gb, 0, none⟩) s.1.length c) rfl
                        have hp2 := blk_put (cs := #[.slice (some ⟨gb, 0, none⟩) s.1.length c, .slice Al s.2.length cl]) hp1 1 (.slice Aq s'.2.length cq) rfl
                        have hs4 : w.heap.size ≤ w4.heap.size := by have := HGZ.out; omega
                        have hu : ∀ k, (Value.slice Ar outs.length cr).ownBlock = some k → ∃ cells, w3.heap[k]? = some (.cells cells 37 (0, 0)) := Kd.R_typed HRO.out
                        have hr0 : Kd.R (Kd.int .i64) 3 w1_ w.heap.size (fun _ => True) (.slice (some ⟨gb, 0, none⟩) s.1.length c) s'.1 := Kd.R_over HRQ.out.1 HRO.out (by decide) HMV.out
                        have hr1 : Kd.R k44 44 w1_ w.heap.size (fun _ => True) (.slice Aq s'.2.length cq) s'.2 := Kd.R_over HRQ.out.2 HRO.out (by decide) HMV.out
                        refine ⟨j + 1, c, .slice Aq s'.2.length cq, s', outs ++ [d], by go_num, by omega, ⟨⟨?_, ?_, ?_, ?_, ?_, by rw [List.length_append, HI.out.ol]; rfl, ?_, ?_, ?_⟩⟩⟩
                        · rw [HLEN.out]; exact hp2
                        · rw [HLEN.out]; exact ⟨Kd.R_set (Kd.R_set hr0 B44.out (by decide) 0 _) hp1 (by decide) 1 _, Kd.R_set (Kd.R_set hr1 B44.out (by decide) 0 _) hp1 (by decide) 1 _⟩
                        · exact HOK1.out.1
                        · exact HOK1.out.2
                        · have hst := HI.out.st
                          rw [HDR.out] at hst
                          rw [← hst]; simp only [doAll]; rw [HDA.out.1, HDA.out.2, List.append_assoc]; rfl
                        · exact Kd.R_set (Kd.R_set HO4.out B44.out (by decide) 0 _) hp1 (by decide) 1 _
                        · exact (setCells_far [_, _] 0 _ (by have := HGZ.out; omega)).trans RS4.out
                        · exact below_set (below_set (pw_below_grown HBL3.out _ HGE.out HMV.out (Kd.R_base HRO.out)) hs4) hs4
                      case measure => simp [intOf]; omega
                · have b2 : decide ((j : Int) < (l1.length : Int)) = false := decide_eq_false (by omega)
                  have b2' : decide (j < l1.length) = false := decide_eq_false hltj
                  have hst := HI.out.st
                  rw [List.drop_of_length_le (by omega)] at hst
                  simp only [doAll, List.append_nil] at hst
                  obtain ⟨⟨⟩⟩ := Aside0.mk hst
                  have g0 : wr.cell? ⟨w4.heap.size, 0, none⟩ = some (.slice (some ⟨gb, 0, none⟩) s.1.length c) := (blk_cell HI.out.b 0).trans rfl
                  have g1 : wr.cell? ⟨w4.heap.size, 1, none⟩ = some (.slice Al s.2.length cl) := (blk_cell HI.out.b 1).trans rfl
                  have z0 : wr.cell? ⟨w.heap.size + 1, 0, none⟩ = some (.slice none 0 0) := (blk_cell HI.out.res 0).trans rfl
                  have z1 : wr.cell? ⟨w.heap.size + 1, 1, none⟩ = some (.slice none 0 0) := (blk_cell HI.out.res 1).trans rfl
                  have fz0 := blk_frozen HI.out.res 0
                  have fz1 := blk_frozen HI.out.res 1
                  go_wp2
                  have hp1 := blk_put (cs := #[.slice none 0 0, .slice none 0 0]) HI.out.res 0 (.slice (some ⟨gb, 0, none⟩) s.1.length c) rfl
                  refine bodyPost_ret (results_list (rs := [.cell 4 25, .tmp 5, .tmp 6]) rfl (by simp) (.cell (w.heap.size + 1) 25 #[.slice (some ⟨gb, 0, none⟩) s.1.length c, .slice Al s.2.length cl] (0, 0) _ rfl (blk_put (cs := #[.slice (some ⟨gb, 0, none⟩) s.1.length c, .slice none 0 0]) hp1 1 _ rfl) Try.underlying25 rfl (by kernel_rfl) (.tmp (.tmp .nil)))) rfl ?_
                  exact ⟨_, _, _, rfl, Kd.R_set (Kd.R_set HI.out.rr.1 HI.out.res (by decide) 0 _) hp1 (by decide) 1 _, Kd.R_set (Kd.R_set HI.out.rr.2 HI.out.res (by decide) 0 _) hp1 (by decide) 1 _, Kd.R_set (Kd.R_set HI.out.ro HI.out.res (by decide) 0 _) hp1 (by decide) 1 _, below_set (below_set HI.out.bel (by simp)) (by simp)⟩
  · have t1 : (wholeL l0_0 l0_1 == 0) = false := by simpa using hw0
    have HW9 : wholeL l0_0 l0_1 = 9 := by unfold wholeL at hw0 ⊢; split at hw0 <;> simp_all
    obtain ⟨⟨⟩⟩ : Aside0 ((([], [], [], 9) : List Int × List S44 × List S37 × Int) = (r1, r2, r3, r4)) := ⟨by rw [← HH.out]; unfold doF; rw [if_pos hw0, HW9]⟩
    go_wp2
    refine bodyPost_ret (results_list (rs := [.cell 4 25, .tmp 5, .tmp 6]) rfl (by simp) (.cell (w.heap.size + 1) 25 #[.slice none 0 0, .slice none 0 0] (0, 0) _ rfl (blk_put (cs := #[.slice none 0 0, .slice none 0 0]) (blk_put (cs := #[.slice none 0 0, .slice none 0 0]) BR0.out 0 _ rfl) 1 _ rfl) Try.underlying25 rfl (by kernel_rfl) (.tmp (.tmp .nil)))) rfl ?_
    exact ⟨_, _, _, rfl, Kd.R_nil _ _ _ _ _, Kd.R_nil _ _ _ _ _, Kd.R_nil _ _ _ _ _, below_set (below_set HB1.out (by simp)) (by simp)⟩
end Go.Proofs.Ytbegdgdghiigpaa.G
end
