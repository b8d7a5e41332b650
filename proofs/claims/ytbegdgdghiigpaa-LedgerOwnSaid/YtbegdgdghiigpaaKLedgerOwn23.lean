/- LedgerOwn: texts of this claim, packed: what the kit's print has written for it and own texts, without what its proof does not reach. -/
import Derived.Test.YtbegdgdghiigpaaKLedgerOwn12
import Derived.Test.YtbegdgdghiigpaaKLedgerOwn13
import Derived.Test.YtbegdgdghiigpaaKLedgerOwn14
import Derived.Test.YtbegdgdghiigpaaKLedgerOwn15
import Derived.Test.YtbegdgdghiigpaaKLedgerOwn21
import Derived.Test.YtbegdgdghiigpaaKLedgerOwn22
set_option linter.unusedVariables false
set_option linter.unusedSimpArgs false
set_option linter.unusedSectionVars false
section
namespace Go.Proofs.Ytbegdgdghiigpaa.G
open WB Go.RowKit Go.Proofs.YtbegdgdghiigpaaW.PrintWords Go.Proofs.YtbegdgdghiigpaaW.PrintLast Go.Proofs.YtbegdgdghiigpaaW.PrintMore
attribute [local go_sem] max2_int min2_int max_two min_two max_three min_three max_four min_four   -- for this text's walks alone
set_option linter.unusedVariables false
set_option linter.unusedSimpArgs false
def waybillref24_New.f  : Option (List Int × (List (S44))) := some ((List.replicate 16 0), ([] : List (S44)))
set_option maxHeartbeats 8000000 in
set_option maxRecDepth 100000 in
theorem waybillref24_New.calls  (r1 : List Int) (r2 : List (S44)) (w : World) (h : waybillref24_New.f  = some (r1, r2)) :
    Calls Try.prog 34 #[] w fun e w' => ∃ v0_ v1_ : Value, e = .returned (.agg #[v0_, v1_]) ∧ Kd.R (Kd.int .i64) 3 w' w.heap.size (fun _ => True) v0_ r1 ∧ Kd.R k44 44 w' w.heap.size (fun _ => True) v1_ r2 ∧ Below w.heap.size w w' := by
  have hu25 := Try.underlying25
  have HB := Aside0.mk (Below.refl w.heap.size w)
  have H : (some ((List.replicate 16 0), ([] : List (S44)))) = some (r1, r2) := h
  clear h
  obtain ⟨y192, hy192⟩ : ∃ y_ : List Int, y_ = (List.replicate 16 0) := ⟨_, rfl⟩
  replace H : (some (y192, ([] : List (S44)))) = some (r1, r2) := by first | (rw [hy192]; with_reducible exact H) | (have H2_ := (Option.bind_some _ _).symm.trans H; rw [hy192]; with_reducible exact H2_) | (have H2_ := (Option.bind_some _ _).symm.trans H; with_reducible exact H2_) | with_reducible exact H | (rw [hy192]; exact H) | exact H
  have Ny192 := Aside0.mk hy192
  clear hy192
  simp only [Option.some.injEq, Prod.mk.injEq] at H
  obtain ⟨rfl, rfl⟩ := H
  go_enter Try.func34, Try.ntmps34
  go_wp2_with (first | ((with_reducible refine gate_dst (N := 0) rfl ?_); refine box_event ?hg (N := 0) ?hd (cs := #[.slice none 0 0, .slice none 0 0]) (t := 25) ?hr ?_; (case hd => rfl); (case hg => rfl); (case hr => first | (go_simp; done) | (go_simp; rfl)); intro gb191 hg w1 hbox hb; have n0_ := Aside0.mk (below_step (by repeat (first | (with_reducible first | exact HB.out | apply below_alloc | apply pw_below_drewN | apply below_drew1) | exact HB.out)) hb); have n1_ := Aside0.mk (hbox); have n2_ := Aside0.mk ((by rw [hg]; exact (below_size (by repeat (first | (with_reducible first | exact HB.out | apply below_alloc | apply pw_below_drewN | apply below_drew1) | exact HB.out))) : w.heap.size ≤ gb191)); have n3_ := Aside0.mk ((by rw [hg]; exact (below_size (by repeat (first | (with_reducible first | exact HB.out | apply below_alloc | apply pw_below_drewN | apply below_drew1) | exact HB.out))) : w.heap.size ≤ gb191)); clear HB; have HB := n0_; have BK191 := n1_; have GW191 := n2_; have GE191 := n3_; clear n0_ n1_ n2_ n3_; clear hb hbox hg) | ((with_reducible refine gate_dst (N := 1) rfl ?_); refine Kd.R_make (Kd.int .i64) _ 3 rfl (N := 1) rfl 22 _ _ rfl 16 rfl rfl Try.underlying22 (.int .i64 0) 8 info3 rfl (by decide) (by omega) 0 (ok := fun _ => True) (okp := fun _ => True) rfl (fun _ hk => hk) trivial (by omega) (by omega) (Below.refl _ _) (Nat.le_refl _) ?_; intro v193 w2 ho3 hb hg_ hnew_; clear hg_ hnew_; (first | rw [← Ny192.out] at ho3 | (simp only [Int.reduceToNat] at ho3; rw [← Ny192.out] at ho3)); have n0_ := Aside0.mk (Kd.R_lower ho3 (below_size (by repeat (first | (with_reducible first | exact HB.out | apply below_alloc | apply pw_below_drewN | apply below_drew1 | refine below_set ?_ GE191.out) | exact HB.out)))); have n1_ := Aside0.mk (blk_below (g := gb191) (o := .cells #[.slice none 0 0, .slice none 0 0] 25 (0, 0)) (by (with_reducible repeat (first | refine blk_drewN ?_ _ | refine blk_drew ?_ | refine blk_alloc ?_ _)); exact BK191.out) hb); have n2_ := Aside0.mk (below_step (by repeat (first | (with_reducible first | exact HB.out | apply below_alloc | apply pw_below_drewN | apply below_drew1 | refine below_set ?_ GE191.out) | exact HB.out)) hb); clear BK191; clear HB; have HO194 := n0_; have BK191 := n1_; have HB := n2_; clear n0_ n1_ n2_; clear hb ho3; obtain ⟨Ao4, co4, eo4⟩ := Kd.R_slice HO194.out; subst eo4; have hcz5_0 : w2.cell? ⟨gb191, 0, none⟩ = some (.slice none 0 0) := (blk_cell BK191.out 0).trans rfl; have hcz5_1 : w2.cell? ⟨gb191, 1, none⟩ = some (.slice none 0 0) := (blk_cell BK191.out 1).trans rfl; have hfz5_0 := blk_frozen BK191.out 0; have hfz5_1 := blk_frozen BK191.out 1))
  refine bodyPost_ret (results_cell_row rfl _ _ gb191 25 #[.slice Ao4 y192.length co4, .slice none 0 0] (0, 0) _ rfl (by (with_reducible repeat (first | refine blk_drewN ?_ _ | refine blk_drew ?_ | refine blk_alloc ?_ _)); refine blk_put (cs := #[.slice Ao4 y192.length co4, .slice none 0 0]) ?_ 1 _ rfl; (with_reducible repeat (first | refine blk_drewN ?_ _ | refine blk_drew ?_ | refine blk_alloc ?_ _)); refine blk_put (cs := #[.slice none 0 0, .slice none 0 0]) ?_ 0 _ rfl; (with_reducible repeat (first | refine blk_drewN ?_ _ | refine blk_drew ?_ | refine blk_alloc ?_ _)); exact BK191.out) Try.underlying25 rfl (by kernel_rfl)) rfl ?_
  exact ⟨_, _, by first | rfl | (simp [errW_none, errW_some] <;> rfl) | (simp [*, errW_none, errW_some] <;> rfl), by (with_reducible repeat (first | apply Kd.R_alloc | apply Kd.R_drewN | apply Kd.R_drew)); exact Kd.R_mono (Kd.R_far (p := ⟨gb191, 1, none⟩) (Kd.R_far (p := ⟨gb191, 0, none⟩) (Kd.R_types HO194.out BK191.out (by decide)) (fun _ hk => hk.2) (.slice Ao4 y192.length co4)) (fun _ hk => hk.2) (.slice none 0 0)) (fun _ hk => trivial), by first | exact Kd.R_nil _ _ _ _ _ | exact Kd.N_nil _ _ _ _ _ | exact Kd.V_nil _ _ _ _ _ | exact Kd.Q_nil _ _ _ _ _ | exact Kd.S_nil _ _ _ _ _, by repeat (first | (with_reducible first | exact HB.out | apply below_alloc | apply pw_below_drewN | apply below_drew1 | refine below_set ?_ GE191.out) | exact HB.out)⟩
end Go.Proofs.Ytbegdgdghiigpaa.G
end

section
namespace Go.Proofs.Ytbegdgdghiigpaa.G
open WB Go.RowKit Go.Proofs.YtbegdgdghiigpaaW.PrintWords Go.Proofs.YtbegdgdghiigpaaW.PrintLast Go.Proofs.YtbegdgdghiigpaaW.PrintMore
attribute [local go_sem] max2_int min2_int max_two min_two max_three min_three max_four min_four   -- for this text's walks alone
set_option linter.unusedVariables false
set_option linter.unusedSimpArgs false
theorem rchk_f (o : S35) : waybillref24_Check.f 2 o.f0 o.f1 o.f2 o.f3 = some (chkL o) ∧ (chkL o = 0 → o.f0 = 2 → 0 ≤ o.f3) := by
  obtain ⟨x0, x1, x2, x3⟩ := o
  have key : waybillref24_Check.f 2 x0 x1 x2 x3 = ledger_Check.f 2 x0 x1 x2 x3 ∧ (ledger_Check.f 2 x0 x1 x2 x3 = some 0 → x0 = 2 → 0 ≤ x3) := by
    unfold waybillref24_Check.f ledger_Check.f ledger_Once.f
    simp only [waybillref24_Check.j0, waybillref24_Check.j1, ledger_Check.j0, ledger_Check.j1]
    by_cases h1 : x0 < 1
    · simp [h1]
    by_cases h2 : x0 > 4
    · simp [h1, h2]
    have hx : x0 = 1 ∨ x0 = 2 ∨ x0 = 3 ∨ x0 = 4 := by omega
    have mn1 : mn x1 x2 < 0 ↔ x1 < 0 ∨ x2 < 0 := by unfold mn; split <;> omega
    have mx1 : mx x1 x2 ≥ 16 ↔ x1 ≥ 16 ∨ x2 ≥ 16 := by unfold mx; split <;> omega
    clear h1 h2
    by_cases a1 : x1 < 0
    · rcases hx with rfl | rfl | rfl | rfl <;> simp [a1, mn1]
    by_cases a2 : x2 < 0
    · rcases hx with rfl | rfl | rfl | rfl <;> simp [a1, a2, mn1, show ¬ 16 ≤ x1 ∨ 16 ≤ x1 by omega] <;> split <;> simp
    by_cases a3 : 16 ≤ x1
    · rcases hx with rfl | rfl | rfl | rfl <;> simp [a1, a2, a3, mn1, mx1]
    by_cases a4 : 16 ≤ x2
    · rcases hx with rfl | rfl | rfl | rfl <;> simp [a1, a2, a3, a4, mn1, mx1]
    by_cases a6 : 1073741824 < x3
    · rcases hx with rfl | rfl | rfl | rfl <;> simp [a1, a2, a3, a4, a6, mn1, mx1, show ¬ x3 < -1073741824 by omega, show ¬ x3 < 0 by omega]
    by_cases a5 : x3 < -1073741824
    · rcases hx with rfl | rfl | rfl | rfl <;> simp [a1, a2, a3, a4, a5, a6, mn1, mx1, show x3 < 0 by omega]
    rcases hx with rfl | rfl | rfl | rfl
    · simp [a1, a2, a3, a4, a5, a6, mn1, mx1, ledger_used.f]
    · by_cases a7 : x3 < 0
      · simp [a1, a2, a3, a4, a5, a6, a7, mn1, mx1, ledger_used.f]
      · simp [a1, a2, a3, a4, a5, a6, a7, mn1, mx1, ledger_used.f]
        omega
    · simp [a1, a2, a3, a4, a5, a6, mn1, mx1, ledger_used.f]
      by_cases b1 : x2 = 0 <;> by_cases b2 : x3 = 0 <;> simp_all
    · simp [a1, a2, a3, a4, a5, a6, mn1, mx1, ledger_used.f]
      by_cases b1 : x2 = 0 <;> by_cases b2 : x3 = 0 <;> by_cases b3 : x1 = 0 <;> simp_all
  have h2 := chkL_f ⟨x0, x1, x2, x3⟩
  dsimp only at h2 ⊢
  refine ⟨key.1.trans h2, fun h => key.2 (by rw [h2, h])⟩
theorem Moved.cell {w w' : World} {S : Nat → Prop} {a : Addr} {v : Value} (h : Moved w w' S) (hc : w.cell? a = some v) (hn : ¬ S a.block) : w'.cell? a = some v := by
  have hb := h.block a.block (World.block_lt_of_cell? _ _ hc) hn
  unfold World.cell? at hc ⊢
  rw [hb]
  exact hc
theorem Moved.sto {w w' : World} {S : Nat → Prop} (h : Moved w w' S) {q : Nat} (hq : w.heap.size ≤ q) (us : List Value) : Moved w (w'.setCells q 0 us) S := by
  obtain ⟨h1, h2, h3, h4⟩ := setCells_same q us 0 w'
  exact ⟨h1.trans h.os, h2.trans h.tape, h3.trans h.output, by rw [h4]; exact h.size, fun k hk hn => (setCells_far us 0 k (by omega)).trans (h.block k hk hn)⟩
/-- Both rows of a ledger. -/
def RepRows (W : World) (base gb n c : Nat) (s : List Int × List S44) (vl : Value) : Prop :=
  Kd.R (Kd.int .i64) 3 W base (fun _ => True) (.slice (some ⟨gb, 0, none⟩) n c) s.1 ∧ Kd.R k44 44 W base (fun _ => True) vl s.2
section
variable {W W' : World} {base gb n c : Nat} {s : List Int × List S44} {vl : Value}
theorem RepRows.below (h : RepRows W base gb n c s vl) (hb : Below W.heap.size W W') : RepRows W' base gb n c s vl := ⟨Kd.R_below h.1 hb, Kd.R_below h.2 hb⟩
theorem RepRows.cells (h : RepRows W base gb n c s vl) {q T : Nat} {cs : Array Value} (hq : W.heap[q]? = some (.cells cs T (0, 0))) (h1 : 3 ≠ T) (h2 : 44 ≠ T) (us : List Value) : RepRows (W.setCells q 0 us) base gb n c s vl :=
  ⟨R_cells us 0 h.1 hq (by intro q hq'; have : q = 3 := List.mem_singleton.1 (show q ∈ [3] from hq'); rw [this]; exact h1), R_cells us 0 h.2 hq (by intro q hq'; have : q = 44 := List.mem_singleton.1 (show q ∈ [44] from hq'); rw [this]; exact h2)⟩
theorem RepRows.sto {B a b T : Nat} {cs : Array Value} (h : RepRows W base gb n c s vl) (hr : RStore B (.cells cs T (0, 0)) a b W W') (h1 : 3 ≠ T) (h2 : 44 ≠ T) : RepRows W' base gb n c s vl := by
  obtain ⟨_, _, hz, us, rfl⟩ := hr
  exact h.cells hz h1 h2 us
end
/-- Where a replay stands. -/
structure RReplInv (w0 : World) (g k : Nat) (tot : List Int × List S44 × Int) (l : List S44) (wr : World) (gb c : Nat) (vl : Value) (s : List Int × List S44) : Prop where
  b4 : wr.heap[g]? = some (.cells #[.slice (some ⟨gb, 0, none⟩) s.1.length c, vl] 25 (0, 0))
  rr : RepRows wr w0.heap.size gb s.1.length c s vl
  ok : BalOk s.1
  ll : s.2.length ≤ k
  st : replF s (l.drop k) = tot
  res : wr.heap[w0.heap.size]? = some (.cells #[.slice none 0 0, .slice none 0 0] 25 (0, 0))
  bel : Below w0.heap.size w0 wr
def waybillref24_Replay.f (l0 : List (S44)) : Option (List Int × (List (S44)) × Int) := some (replL l0)
set_option maxHeartbeats 4000000 in
set_option maxRecDepth 100000 in
theorem waybillref24_Replay.calls (A0 : Option Addr) (c0 : Nat) (l0 : List (S44)) (r1 : List Int) (r2 : List (S44)) (r3 : Int) (w : World) (hr0 : Kd.C k44 w A0 l0.length l0) (hc0 : l0.length ≤ c0) (h : waybillref24_Replay.f l0 = some (r1, r2, r3)) :
    Calls Try.prog 32 #[.slice A0 l0.length c0] w fun e w' => ∃ v0_ v1_ : Value, e = .returned (.tuple #[.agg #[v0_, v1_], .int .i64 r3]) ∧ Kd.R (Kd.int .i64) 3 w' w.heap.size (fun _ => True) v0_ r1 ∧ Kd.R k44 44 w' w.heap.size (fun _ => True) v1_ r2 ∧ Below w.heap.size w w' := by
  unfold waybillref24_Replay.f at h
  replace h := Option.some.inj h
  have HH := Aside0.mk h
  have HR := Aside0.mk hr0
  have HC := Aside0.mk hc0
  have hm0 : l0.length ≤ 9223372036854775807 := hr0.2.1
  clear h hr0 hc0
  have HRES := Aside0.mk (heap_new1 w (.cells #[.slice none 0 0, .slice none 0 0] 25))
  by_cases hbig : 1024 < l0.length
  · have t1 : decide (1024 < l0.length) = true := decide_eq_true hbig
    have HE : Aside0 (replL l0 = ([], [], 3)) := ⟨by unfold replL; rw [if_pos hbig]⟩
    rw [HE.out] at HH
    obtain ⟨⟨⟩⟩ := HH
    go_enter Try.func32, Try.ntmps32
    go_wp2
    refine bodyPost_ret (results_list (rs := [.cell 2 25, .tmp 3]) rfl (by simp) (.cell (w.heap.size) 25 #[.slice none 0 0, .slice none 0 0] (0, 0) _ rfl HRES.out Try.underlying25 rfl (by kernel_rfl) (.tmp .nil))) rfl ?_
    exact ⟨_, _, rfl, Kd.R_nil _ _ _ _ _, Kd.R_nil _ _ _ _ _, below_alloc (Below.refl _ _) _⟩
  · have t1 : decide (1024 < l0.length) = false := decide_eq_false hbig
    have HE : Aside0 (replL l0 = replF (List.replicate 16 0, []) l0) := ⟨by unfold replL; rw [if_neg hbig]⟩
    rw [HE.out] at HH
    clear HE
    go_enter Try.func32, Try.ntmps32
    go_wp2_with fail
    go_at_call 34
    with_reducible refine (waybillref24_New.calls (List.replicate 16 0) [] _ rfl).mono ?_
    rintro e w1 ⟨v0, v1, rfl, hr0, hr1, hb⟩
    obtain ⟨Ab, cb, rfl⟩ := Kd.R_slice hr0
    obtain ⟨Al, cl, rfl⟩ := Kd.R_slice hr1
    obtain ⟨gb, rfl⟩ := R_some hr0 (by simp)
    have HI0 : Aside0 (RReplInv w w1.heap.size 0 (r1, r2, r3) l0 (w1.alloc (.cells #[.slice (some ⟨gb, 0, none⟩) (List.replicate 16 (0 : Int)).length cb, .slice Al 0 cl] 25)) gb cb (.slice Al 0 cl) (List.replicate 16 0, [])) := ⟨⟨heap_new1 _ _, ⟨Kd.R_alloc (Kd.R_lower hr0 (by simp)) _, Kd.R_alloc (Kd.R_lower hr1 (by simp)) _⟩, ⟨rfl, by intro x hx; rw [List.eq_of_mem_replicate hx]; omega⟩, Nat.zero_le _, by rw [List.drop_zero]; exact HH.out, blk_alloc (blk_below HRES.out hb) _, below_alloc (below_then (below_alloc (Below.refl _ _) _) (by simp) hb) _⟩⟩
    have HG0 : Aside0 (w.heap.size < w1.heap.size) := ⟨blk_lt (blk_below HRES.out hb)⟩
    clear hr0 hr1 hb
    go_wp2_with fail
    go_loopw [5] (fun v5 wr => ∃ (k c : Nat) (vl : Value) (s : List Int × List S44), v5 = .int .i64 k ∧ k ≤ l0.length ∧ Aside0 (RReplInv w w1.heap.size k (r1, r2, r3) l0 wr gb c vl s)) (fun v5 _ => l0.length - (intOf v5).toNat)
    case atStart => exact ⟨0, cb, _, _, rfl, by omega, HI0⟩
    case round =>
      obtain ⟨k, c, vl, s, rfl, hk, HI⟩ := hrel
      obtain ⟨Al, cl, rfl⟩ := Kd.R_slice HI.out.rr.2
      have z0 : wr.cell? ⟨w.heap.size, 0, none⟩ = some (.slice none 0 0) := (blk_cell HI.out.res 0).trans rfl
      have z1 : wr.cell? ⟨w.heap.size, 1, none⟩ = some (.slice none 0 0) := (blk_cell HI.out.res 1).trans rfl
      have fz0 := blk_frozen HI.out.res 0
      have fz1 := blk_frozen HI.out.res 1
      have hzl := blk_lt HI.out.res
      have hgl := blk_lt HI.out.b4
      by_cases hlt : k < l0.length
      · obtain ⟨ad, e1, q0', q1', q2', q3', q4', q5', q6'⟩ := at_T44 HR.out (k : Int) (by omega) (by omega)
        simp only [Int.toNat_natCast] at q0' q1' q2' q3' q4' q5' q6'
        have hrd : rd_T44 l0 (k : Int) = l0[k] := by simp [rd_T44, List.getElem?_eq_getElem hlt]
        rw [hrd] at q0' q1' q2' q3' q4' q5' q6'
        obtain ⟨x, hx⟩ : ∃ x, x = l0[k] := ⟨_, rfl⟩
        rw [← hx] at q0' q1' q2' q3' q4' q5' q6'
        have q0 := (HI.out.bel.cell (World.block_lt_of_cell? _ _ q0')).trans q0'
        have q1 := (HI.out.bel.cell (World.block_lt_of_cell? _ _ q1')).trans q1'
        have q2 := (HI.out.bel.cell (World.block_lt_of_cell? _ _ q2')).trans q2'
        have q3 := (HI.out.bel.cell (World.block_lt_of_cell? _ _ q3')).trans q3'
        have HADL : Aside0 ((ad.add (k * 7)).block < w.heap.size) := ⟨World.block_lt_of_cell? _ _ q0'⟩
        have HQ4 := Aside0.mk q4'
        have HQ5 := Aside0.mk q5'
        have HQ6 := Aside0.mk q6'
        have HQ0 := Aside0.mk q0'
        have HQ1 := Aside0.mk q1'
        have HQ2 := Aside0.mk q2'
        have HQ3 := Aside0.mk q3'
        have HST : Aside0 (replF s (x :: l0.drop (k + 1)) = (r1, r2, r3)) := ⟨by rw [← HI.out.st, List.drop_eq_getElem_cons hlt, hx]⟩
        have b1 : decide ((k : Int) < (l0.length : Int)) = true := decide_eq_true (by omega)
        have b1' : decide (k < l0.length) = true := decide_eq_true hlt
        have HK := Aside0.mk hk
        subst e1
        clear q0' q1' q2' q3' q4' q5' q6' hrd hx
        go_upto_region 8 with (go_at_call 25; (with_reducible refine (waybillref24_Check.calls 2 x.f0.f0 x.f0.f1 x.f0.f2 x.f0.f3 (chkL x.f0) _ (rchk_f x.f0).1).mono ?_); rintro e wB ⟨rfl, hb⟩; have HB2 := Aside0.mk hb; clear hb)
        have RS2 := Aside0.mk (blk_below HI.out.res HB2.out)
        clear z0 z1 fz0 fz1 q0 q1 q2 q3
        have z0 : wB.cell? ⟨w.heap.size, 0, none⟩ = some (.slice none 0 0) := (blk_cell RS2.out 0).trans rfl
        have z1 : wB.cell? ⟨w.heap.size, 1, none⟩ = some (.slice none 0 0) := (blk_cell RS2.out 1).trans rfl
        have fz0 := blk_frozen RS2.out 0
        have fz1 := blk_frozen RS2.out 1
        have HBW : Aside0 (Below w.heap.size w wB) := ⟨below_then HI.out.bel HI.out.bel.size HB2.out⟩
        have q0 := (HBW.out.cell HADL.out).trans HQ0.out
        by_cases hc0 : chkL x.f0 = 0
        · rw [hc0]
          by_cases hw2 : 2 < x.f0.f0
          · have t2 : decide (2 < x.f0.f0) = true := decide_eq_true hw2
            obtain ⟨⟨⟩⟩ : Aside0 ((([], [], 23) : List Int × List S44 × Int) = (r1, r2, r3)) := ⟨by rw [← HST.out, replF_kind _ hc0 hw2]⟩
            go_wp2
            refine bodyPost_ret (results_list (rs := [.cell 2 25, .tmp 3]) rfl (by simp) (.cell (w.heap.size) 25 #[.slice none 0 0, .slice none 0 0] (0, 0) _ rfl (blk_put (cs := #[.slice none 0 0, .slice none 0 0]) (blk_put (cs := #[.slice none 0 0, .slice none 0 0]) RS2.out 0 _ rfl) 1 _ rfl) Try.underlying25 rfl (by kernel_rfl) (.tmp .nil))) rfl ?_
            exact ⟨_, _, rfl, Kd.R_nil _ _ _ _ _, Kd.R_nil _ _ _ _ _, below_set (below_set HBW.out (by simp)) (by simp)⟩
          · have t2 : decide (2 < x.f0.f0) = false := decide_eq_false hw2
            have HOK : Aside0 (OpOk x.f0) := ⟨chkL_ok hc0⟩
            have HAM : Aside0 (x.f0.f0 = 2 → 0 ≤ x.f0.f3) := ⟨(rchk_f x.f0).2 hc0⟩
            have HST2 : Aside0 ((if (doL s x.f0).2.f0 = x.f1.f0 ∧ (doL s x.f0).2.f1 = x.f1.f1 ∧ (doL s x.f0).2.f2 = x.f1.f2 then replF (doL s x.f0).1 (l0.drop (k + 1)) else ([], [], 9)) = (r1, r2, r3)) := ⟨by rw [← HST.out, replF_go _ hc0 hw2]⟩
            have B42 := Aside0.mk (blk_below HI.out.b4 HB2.out)
            have RR2 := Aside0.mk (HI.out.rr.below HB2.out)
            have HGB : Aside0 (w.heap.size ≤ gb) := ⟨Kd.R_base RR2.out.1 gb rfl⟩
            have HOS : Aside0 (∀ q, OneS gb (.slice Al s.2.length cl) q → w.heap.size ≤ q) := ⟨fun q hq => by
              rcases hq with h | h
              · have := HGB.out; omega
              · exact Kd.R_base RR2.out.2 _ h.symm⟩
            have HNB : ∀ {q T cs}, wB.heap[q]? = some (.cells cs T (0, 0)) → T ≠ 3 → T ≠ 44 → ¬ OneS gb (.slice Al s.2.length cl) q := fun hq h1 h2 hs => by
              rcases hs with h | h
              · exact Kd.R_ne RR2.out.1 hq (Ne.symm h1) (by rw [h]; rfl)
              · exact Kd.R_ne RR2.out.2 hq (Ne.symm h2) h
            have HN4 : Aside0 (¬ OneS gb (.slice Al s.2.length cl) w1.heap.size) := ⟨HNB B42.out (by decide) (by decide)⟩
            have HN0 : Aside0 (¬ OneS gb (.slice Al s.2.length cl) w.heap.size) := ⟨HNB RS2.out (by decide) (by decide)⟩
            have HNA : Aside0 (¬ OneS gb (.slice Al s.2.length cl) (ad.add (k * 7)).block) := ⟨fun h => by have := HOS.out _ h; have := HADL.out; omega⟩
            have CLO : Aside0 (Clo (fun W => Moved wB W (OneS gb (.slice Al s.2.length cl))) (fun W => RepRows W w.heap.size gb s.1.length c s (.slice Al s.2.length cl)) wB.heap.size (.cells #[.slice none 0 0, .slice none 0 0] 25 (0, 0)) (.cells #[.int .i64 0, .int .i64 0, .int .i64 0] 37 (0, 0))) := ⟨⟨fun W W' hb h => h.then hb, fun W q us hq _ h => h.sto hq us, fun W W' hb h => h.below hb, fun W q us hq hz h => by
              rcases hz with hz | hz
              · exact h.cells hz (by decide) (by decide) us
              · exact h.cells hz (by decide) (by decide) us⟩⟩
            clear hgl HNB
            go_upto_region 12 with fail
            clear z0 z1 fz0 fz1 q0
            refine region_ghost2 (γ := (Nat×Nat)) (fun i g g' w1 w2 => if i = 6 then RCall (fun W => Moved wB W (OneS gb (.slice Al s.2.length cl))) wB.heap.size (.cells #[.slice none 0 0, .slice none 0 0] 25 (0, 0)) (.cells #[.int .i64 0, .int .i64 0, .int .i64 0] 37 (0, 0)) g g' w1 w2 else if i = 10 then RAlloc1 (.cells #[.slice none 0 0, .slice none 0 0] 25 (0, 0)) g g' w1 w2 else if i = 11 then RAlloc2 (.cells #[.int .i64 0, .int .i64 0, .int .i64 0] 37 (0, 0)) g g' w1 w2 else if i = 12 then RStore1 (wB.heap.size) (.cells #[.slice none 0 0, .slice none 0 0] 25 (0, 0)) g g' w1 w2 else if i = 13 then RStore2 (wB.heap.size) (.cells #[.int .i64 0, .int .i64 0, .int .i64 0] 37 (0, 0)) g g' w1 w2 else RSame g g' w1 w2) (fun g f W => TrC (fun W => Moved wB W (OneS gb (.slice Al s.2.length cl))) (fun W => RepRows W w.heap.size gb s.1.length c s (.slice Al s.2.length cl)) wB.heap.size 6 10 12 11 13 (.cells #[.slice none 0 0, .slice none 0 0] 25 (0, 0)) (.cells #[.int .i64 0, .int .i64 0, .int .i64 0] 37 (0, 0)) g f W) (0,0) [(some 41, (fun g v W => v = .agg #[(.slice (some ⟨gb, 0, none⟩) s.1.length c), .slice Al s.2.length cl])), (some 42, (fun _ v _ => v = .slice (some ad) l0.length c0)), (some 43, (fun _ v _ => v = .int .i64 k)), (some 44, (fun _ v _ => v = .pointer (some (ad.add (k * 7))))), (some 45, (fun _ v _ => v = .pointer (some (ad.add (k * 7))))), (some 46, (fun g v W => v = .agg #[.int .i64 x.f0.f0, .int .i64 x.f0.f1, .int .i64 x.f0.f2, .int .i64 x.f0.f3])), (some 47, (fun g v W => ∃ vl', v = .tuple #[.agg #[(.slice (some ⟨gb, 0, none⟩) s.1.length c), vl'], .agg #[.int .i64 (doL s x.f0).2.f0, .int .i64 (doL s x.f0).2.f1, .int .i64 (doL s x.f0).2.f2]] ∧ RepRows W w.heap.size gb s.1.length c (doL s x.f0).1 vl')), (some 40, (fun g v W => ∃ vl', v = .tuple #[.agg #[(.slice (some ⟨gb, 0, none⟩) s.1.length c), vl'], .agg #[.int .i64 (doL s x.f0).2.f0, .int .i64 (doL s x.f0).2.f1, .int .i64 (doL s x.f0).2.f2]] ∧ RepRows W w.heap.size gb s.1.length c (doL s x.f0).1 vl')), (some 48, (fun g v W => ∃ vl', v = .agg #[(.slice (some ⟨gb, 0, none⟩) s.1.length c), vl'] ∧ RepRows W w.heap.size gb s.1.length c (doL s x.f0).1 vl')), (some 49, (fun g v W => v = .agg #[.int .i64 (doL s x.f0).2.f0, .int .i64 (doL s x.f0).2.f1, .int .i64 (doL s x.f0).2.f2])), (some 7, (fun g v _ => v = .pointer (some ⟨g.1, 0, none⟩))), (some 8, (fun g v _ => v = .pointer (some ⟨g.2, 0, none⟩))), (none, (fun g v W => ∃ vl', W.heap[g.1]? = some (.cells #[(.slice (some ⟨gb, 0, none⟩) s.1.length c), vl'] 25 (0, 0)) ∧ RepRows W w.heap.size gb s.1.length c (doL s x.f0).1 vl')), (none, (fun g v W => W.heap[g.2]? = some (.cells #[.int .i64 (doL s x.f0).2.f0, .int .i64 (doL s x.f0).2.f1, .int .i64 (doL s x.f0).2.f2] 37 (0, 0))))] (by kernel_rfl) (by kernel_rfl) [41, 42, 43, 44, 45, 46, 47, 40, 48, 49, 7, 8] (by rfl) (by rfl) (by decide) ?hsz ?hst ?hT0 ?hT ?step ?fin
            case hsz => exact show ∀ t ∈ ([41, 42, 43, 44, 45, 46, 47, 40, 48, 49, 7, 8] : List Nat), t < 60 from List.forall_mem_cons.2 ⟨(show 41 < 60 by decide), List.forall_mem_cons.2 ⟨(show 42 < 60 by decide), List.forall_mem_cons.2 ⟨(show 43 < 60 by decide), List.forall_mem_cons.2 ⟨(show 44 < 60 by decide), List.forall_mem_cons.2 ⟨(show 45 < 60 by decide), List.forall_mem_cons.2 ⟨(show 46 < 60 by decide), List.forall_mem_cons.2 ⟨(show 47 < 60 by decide), List.forall_mem_cons.2 ⟨(show 40 < 60 by decide), List.forall_mem_cons.2 ⟨(show 48 < 60 by decide), List.forall_mem_cons.2 ⟨(show 49 < 60 by decide), List.forall_mem_cons.2 ⟨(show 7 < 60 by decide), List.forall_mem_cons.2 ⟨(show 8 < 60 by decide), fun _ h => nomatch h⟩⟩⟩⟩⟩⟩⟩⟩⟩⟩⟩⟩
            case hT0 => exact TrC.start CLO.out ⟨rfl, rfl, rfl, Nat.le_refl _, fun _ _ _ => rfl⟩ RR2.out (Nat.le_refl _) 14 (by decide) (by decide) _
            case hT =>
              intro f i_ g g' w1 w2 hi hfi ht hr
              match i_, hi with
              | 0, _ => exact TrC.same (i := 0) ht hr (by decide)
              | 1, _ => exact TrC.same (i := 1) ht hr (by decide)
              | 2, _ => exact TrC.same (i := 2) ht hr (by decide)
              | 3, _ => exact TrC.same (i := 3) ht hr (by decide)
              | 4, _ => exact TrC.same (i := 4) ht hr (by decide)
              | 5, _ => exact TrC.same (i := 5) ht hr (by decide)
              | 6, _ => exact TrC.call ht hr (by decide)
              | 7, _ => exact TrC.same (i := 7) ht hr (by decide)
              | 8, _ => exact TrC.same (i := 8) ht hr (by decide)
              | 9, _ => exact TrC.same (i := 9) ht hr (by decide)
              | 10, _ => exact TrC.alloc1 ht hr (by decide)
              | 11, _ => exact TrC.alloc2 ht hr (by decide)
              | 12, _ => exact TrC.store1 ht hr (by decide)
              | 13, _ => exact TrC.store2 ht hr (by decide)
              | n_ + 14, hi => exact absurd hi (by show ¬ n_ + 14 < 14; omega)
            case hst =>
              intro i_ j_ q_ hq hij hin
              match i_, hin with
              | 0, _ => exact .inr fun f g g' v w1 w2 _ hr h => RSame.keep (q := q_.2) hr h
              | 1, _ => exact .inr fun f g g' v w1 w2 _ hr h => RSame.keep (q := q_.2) hr h
              | 2, _ => exact .inr fun f g g' v w1 w2 _ hr h => RSame.keep (q := q_.2) hr h
              | 3, _ => exact .inr fun f g g' v w1 w2 _ hr h => RSame.keep (q := q_.2) hr h
              | 4, _ => exact .inr fun f g g' v w1 w2 _ hr h => RSame.keep (q := q_.2) hr h
              | 5, _ => exact .inr fun f g g' v w1 w2 _ hr h => RSame.keep (q := q_.2) hr h
              | 6, _ =>
                match j_, hq with
                | 0, hq => exact .inr (by obtain rfl := Option.some.inj hq; exact fun f g g' v w1 w2 ht hr h => h)
                | 1, hq => exact .inr (by obtain rfl := Option.some.inj hq; exact fun f g g' v w1 w2 ht hr h => h)
                | 2, hq => exact .inr (by obtain rfl := Option.some.inj hq; exact fun f g g' v w1 w2 ht hr h => h)
                | 3, hq => exact .inr (by obtain rfl := Option.some.inj hq; exact fun f g g' v w1 w2 ht hr h => h)
                | 4, hq => exact .inr (by obtain rfl := Option.some.inj hq; exact fun f g g' v w1 w2 ht hr h => h)
                | 5, hq => exact .inr (by obtain rfl := Option.some.inj hq; exact fun f g g' v w1 w2 ht hr h => h)
                | 6, hq => exact absurd rfl hij
                | 7, hq => exact .inl (by kernel_rfl)
                | 8, hq => exact .inl (by kernel_rfl)
                | 9, hq => exact .inl (by kernel_rfl)
                | 10, hq => exact .inr (by obtain rfl := Option.some.inj hq; exact fun f g g' v w1 w2 ht hr h => h.trans (by rw [show g'.1 = g.1 from congrArg (·.1) hr.e]))
                | 11, hq => exact .inr (by obtain rfl := Option.some.inj hq; exact fun f g g' v w1 w2 ht hr h => h.trans (by rw [show g'.2 = g.2 from congrArg (·.2) hr.e]))
                | 12, hq => exact .inl (by kernel_rfl)
                | 13, hq => exact .inl (by kernel_rfl)
                | n_ + 14, hq => simp at hq
              | 7, _ => exact .inr fun f g g' v w1 w2 _ hr h => RSame.keep (q := q_.2) hr h
              | 8, _ => exact .inr fun f g g' v w1 w2 _ hr h => RSame.keep (q := q_.2) hr h
              | 9, _ => exact .inr fun f g g' v w1 w2 _ hr h => RSame.keep (q := q_.2) hr h
              | 10, _ =>
                match j_, hq with
                | 0, hq => exact .inr (by obtain rfl := Option.some.inj hq; exact fun f g g' v w1 w2 ht hr h => h)
                | 1, hq => exact .inr (by obtain rfl := Option.some.inj hq; exact fun f g g' v w1 w2 ht hr h => h)
                | 2, hq => exact .inr (by obtain rfl := Option.some.inj hq; exact fun f g g' v w1 w2 ht hr h => h)
                | 3, hq => exact .inr (by obtain rfl := Option.some.inj hq; exact fun f g g' v w1 w2 ht hr h => h)
                | 4, hq => exact .inr (by obtain rfl := Option.some.inj hq; exact fun f g g' v w1 w2 ht hr h => h)
                | 5, hq => exact .inr (by obtain rfl := Option.some.inj hq; exact fun f g g' v w1 w2 ht hr h => h)
                | 6, hq => exact .inr (by obtain rfl := Option.some.inj hq; exact fun f g g' v w1 w2 ht hr h => h.imp fun _ h => ⟨h.1, h.2.below hr.b⟩)
                | 7, hq => exact .inr (by obtain rfl := Option.some.inj hq; exact fun f g g' v w1 w2 ht hr h => h.imp fun _ h => ⟨h.1, h.2.below hr.b⟩)
                | 8, hq => exact .inr (by obtain rfl := Option.some.inj hq; exact fun f g g' v w1 w2 ht hr h => h.imp fun _ h => ⟨h.1, h.2.below hr.b⟩)
                | 9, hq => exact .inr (by obtain rfl := Option.some.inj hq; exact fun f g g' v w1 w2 ht hr h => h)
                | 10, hq => exact absurd rfl hij
                | 11, hq => exact .inr (by obtain rfl := Option.some.inj hq; exact fun f g g' v w1 w2 ht hr h => h.trans (by rw [show g'.2 = g.2 from hr.e2]))
                | 12, hq => exact .inl (by kernel_rfl)
                | 13, hq => exact .inl (by kernel_rfl)
                | n_ + 14, hq => simp at hq
              | 11, _ =>
                match j_, hq with
                | 0, hq => exact .inr (by obtain rfl := Option.some.inj hq; exact fun f g g' v w1 w2 ht hr h => h)
                | 1, hq => exact .inr (by obtain rfl := Option.some.inj hq; exact fun f g g' v w1 w2 ht hr h => h)
                | 2, hq => exact .inr (by obtain rfl := Option.some.inj hq; exact fun f g g' v w1 w2 ht hr h => h)
                | 3, hq => exact .inr (by obtain rfl := Option.some.inj hq; exact fun f g g' v w1 w2 ht hr h => h)
                | 4, hq => exact .inr (by obtain rfl := Option.some.inj hq; exact fun f g g' v w1 w2 ht hr h => h)
                | 5, hq => exact .inr (by obtain rfl := Option.some.inj hq; exact fun f g g' v w1 w2 ht hr h => h)
                | 6, hq => exact .inr (by obtain rfl := Option.some.inj hq; exact fun f g g' v w1 w2 ht hr h => h.imp fun _ h => ⟨h.1, h.2.below hr.b⟩)
                | 7, hq => exact .inr (by obtain rfl := Option.some.inj hq; exact fun f g g' v w1 w2 ht hr h => h.imp fun _ h => ⟨h.1, h.2.below hr.b⟩)
                | 8, hq => exact .inr (by obtain rfl := Option.some.inj hq; exact fun f g g' v w1 w2 ht hr h => h.imp fun _ h => ⟨h.1, h.2.below hr.b⟩)
                | 9, hq => exact .inr (by obtain rfl := Option.some.inj hq; exact fun f g g' v w1 w2 ht hr h => h)
                | 10, hq => exact .inr (by obtain rfl := Option.some.inj hq; exact fun f g g' v w1 w2 ht hr h => h.trans (by rw [show g'.1 = g.1 from hr.e1]))
                | 11, hq => exact absurd rfl hij
                | 12, hq => exact .inl (by kernel_rfl)
                | 13, hq => exact .inl (by kernel_rfl)
                | n_ + 14, hq => simp at hq
              | 12, _ =>
                match j_, hq with
                | 0, hq => exact .inr (by obtain rfl := Option.some.inj hq; exact fun f g g' v w1 w2 ht hr h => h)
                | 1, hq => exact .inr (by obtain rfl := Option.some.inj hq; exact fun f g g' v w1 w2 ht hr h => h)
                | 2, hq => exact .inr (by obtain rfl := Option.some.inj hq; exact fun f g g' v w1 w2 ht hr h => h)
                | 3, hq => exact .inr (by obtain rfl := Option.some.inj hq; exact fun f g g' v w1 w2 ht hr h => h)
                | 4, hq => exact .inr (by obtain rfl := Option.some.inj hq; exact fun f g g' v w1 w2 ht hr h => h)
                | 5, hq => exact .inr (by obtain rfl := Option.some.inj hq; exact fun f g g' v w1 w2 ht hr h => h)
                | 6, hq => exact .inr (by obtain rfl := Option.some.inj hq; exact fun f g g' v w1 w2 ht hr h => h.imp fun _ h => ⟨h.1, h.2.sto hr.s (by decide) (by decide)⟩)
                | 7, hq => exact .inr (by obtain rfl := Option.some.inj hq; exact fun f g g' v w1 w2 ht hr h => h.imp fun _ h => ⟨h.1, h.2.sto hr.s (by decide) (by decide)⟩)
                | 8, hq => exact .inr (by obtain rfl := Option.some.inj hq; exact fun f g g' v w1 w2 ht hr h => h.imp fun _ h => ⟨h.1, h.2.sto hr.s (by decide) (by decide)⟩)
                | 9, hq => exact .inr (by obtain rfl := Option.some.inj hq; exact fun f g g' v w1 w2 ht hr h => h)
                | 10, hq => exact .inr (by obtain rfl := Option.some.inj hq; exact fun f g g' v w1 w2 ht hr h => h.trans (by rw [show g'.1 = g.1 from hr.s.e]))
                | 11, hq => exact .inr (by obtain rfl := Option.some.inj hq; exact fun f g g' v w1 w2 ht hr h => h.trans (by rw [show g'.2 = g.2 from hr.e2]))
                | 12, hq => exact absurd rfl hij
                | 13, hq => exact .inl (by kernel_rfl)
                | n_ + 14, hq => simp at hq
              | 13, _ =>
                match j_, hq with
                | 0, hq => exact .inr (by obtain rfl := Option.some.inj hq; exact fun f g g' v w1 w2 ht hr h => h)
                | 1, hq => exact .inr (by obtain rfl := Option.some.inj hq; exact fun f g g' v w1 w2 ht hr h => h)
                | 2, hq => exact .inr (by obtain rfl := Option.some.inj hq; exact fun f g g' v w1 w2 ht hr h => h)
                | 3, hq => exact .inr (by obtain rfl := Option.some.inj hq; exact fun f g g' v w1 w2 ht hr h => h)
                | 4, hq => exact .inr (by obtain rfl := Option.some.inj hq; exact fun f g g' v w1 w2 ht hr h => h)
                | 5, hq => exact .inr (by obtain rfl := Option.some.inj hq; exact fun f g g' v w1 w2 ht hr h => h)
                | 6, hq => exact .inr (by obtain rfl := Option.some.inj hq; exact fun f g g' v w1 w2 ht hr h => h.imp fun _ h => ⟨h.1, h.2.sto hr.s (by decide) (by decide)⟩)
                | 7, hq => exact .inr (by obtain rfl := Option.some.inj hq; exact fun f g g' v w1 w2 ht hr h => h.imp fun _ h => ⟨h.1, h.2.sto hr.s (by decide) (by decide)⟩)
                | 8, hq => exact .inr (by obtain rfl := Option.some.inj hq; exact fun f g g' v w1 w2 ht hr h => h.imp fun _ h => ⟨h.1, h.2.sto hr.s (by decide) (by decide)⟩)
                | 9, hq => exact .inr (by obtain rfl := Option.some.inj hq; exact fun f g g' v w1 w2 ht hr h => h)
                | 10, hq => exact .inr (by obtain rfl := Option.some.inj hq; exact fun f g g' v w1 w2 ht hr h => h.trans (by rw [show g'.1 = g.1 from hr.e1]))
                | 11, hq => exact .inr (by obtain rfl := Option.some.inj hq; exact fun f g g' v w1 w2 ht hr h => h.trans (by rw [show g'.2 = g.2 from hr.s.e]))
                | 12, hq => exact .inr (by obtain rfl := Option.some.inj hq; exact fun f g g' v w1 w2 ht hr h => h.imp fun _ h => ⟨by rw [hr.e1]; exact hr.s.blk h.1 (by decide), h.2.sto hr.s (by decide) (by decide)⟩)
                | 13, hq => exact absurd rfl hij
                | n_ + 14, hq => simp at hq
              | n_ + 14, hin => exact absurd hin (by show ¬ n_ + 14 < 14; omega)
            case step =>
              intro i_ o_ e_ ho he f g a w1_ hfi hs hdf hfr htr hpre
              try dsimp only
              match i_, ho, he, hfi with
              | 0, ho, he, hfi => obtain rfl : o_ = ⟨_, _, _, _, _, _⟩ := (Option.some.inj ho).symm; obtain rfl := Option.some.inj he; clear he; have f4 : a.tmps.getD 4 undef = .pointer (some ⟨w1.heap.size, 0, none⟩) := (by rw [Array.getD_eq_getD_getElem?, hfr 4 (show ¬ 4 ∈ ([41, 42, 43, 44, 45, 46, 47, 40, 48, 49, 7, 8] : List Nat) by decide)]; rfl); clear hpre hfr; have k0 : w1_.cell? ⟨w1.heap.size, 0, none⟩ = some (.slice (some ⟨gb, 0, none⟩) s.1.length c) := (blk_cell (htr.com.blk B42.out HN4.out) 0).trans rfl; have k1 : w1_.cell? ⟨w1.heap.size, 1, none⟩ = some (.slice Al s.2.length cl) := (blk_cell (htr.com.blk B42.out HN4.out) 1).trans rfl; refine wpOp_value (v := .agg #[(.slice (some ⟨gb, 0, none⟩) s.1.length c), .slice Al s.2.length cl]) ho rfl ?_ ⟨_, g, rfl, rfl, RSame.mk rfl rfl⟩; simp only [execOp, Act.eval, List.map_toArray, List.map_cons, List.map_nil, f4]; first | rfl | (go_simp; done) | (go_simp; rfl)
              | 1, ho, he, hfi => obtain rfl : o_ = ⟨_, _, _, _, _, _⟩ := (Option.some.inj ho).symm; obtain rfl := Option.some.inj he; clear he; have f0 : a.tmps.getD 0 undef = .slice (some ad) l0.length c0 := (by rw [Array.getD_eq_getD_getElem?, hfr 0 (show ¬ 0 ∈ ([41, 42, 43, 44, 45, 46, 47, 40, 48, 49, 7, 8] : List Nat) by decide)]; rfl); clear hpre hfr; refine wpOp_value (v := .slice (some ad) l0.length c0) ho rfl ?_ ⟨_, g, rfl, rfl, RSame.mk rfl rfl⟩; simp only [execOp, Act.eval, List.map_toArray, List.map_cons, List.map_nil, f0]; first | rfl | (go_simp; done) | (go_simp; rfl) | (go_simp; intro h_; exfalso; omega)
              | 2, ho, he, hfi => obtain rfl : o_ = ⟨_, _, _, _, _, _⟩ := (Option.some.inj ho).symm; obtain rfl := Option.some.inj he; clear he; have f5 : a.tmps.getD 5 undef = .int .i64 k := (by rw [Array.getD_eq_getD_getElem?, hfr 5 (show ¬ 5 ∈ ([41, 42, 43, 44, 45, 46, 47, 40, 48, 49, 7, 8] : List Nat) by decide)]; rfl); clear hpre hfr; refine wpOp_value (v := .int .i64 k) ho rfl ?_ ⟨_, g, rfl, rfl, RSame.mk rfl rfl⟩; simp only [execOp, Act.eval, List.map_toArray, List.map_cons, List.map_nil, f5]; first | rfl | (go_simp; done) | (go_simp; rfl) | (go_simp; intro h_; exfalso; omega)
              | 3, ho, he, hfi => obtain rfl : o_ = ⟨_, _, _, _, _, _⟩ := (Option.some.inj ho).symm; obtain rfl := Option.some.inj he; clear he; obtain ⟨ef42, v42_, e42, ev42⟩ := hpre ⟨1, .data⟩ (by simp) rfl _ rfl; replace ev42 := ev42 _ rfl; subst ev42; have e42 : a.tmps.getD 42 undef = .slice (some ad) l0.length c0 := e42; obtain ⟨ef43, v43_, e43, ev43⟩ := hpre ⟨2, .data⟩ (by simp) rfl _ rfl; replace ev43 := ev43 _ rfl; subst ev43; have e43 : a.tmps.getD 43 undef = .int .i64 k := e43; clear hpre hfr; refine wpOp_value (v := .pointer (some (ad.add (k * 7)))) ho rfl ?_ ⟨_, g, rfl, rfl, RSame.mk rfl rfl⟩; simp only [execOp, Act.eval, List.map_toArray, List.map_cons, List.map_nil, e42, e43]; first | rfl | (go_simp; done) | (go_simp; rfl) | (go_simp; intro h_; exfalso; omega)
              | 4, ho, he, hfi => obtain rfl : o_ = ⟨_, _, _, _, _, _⟩ := (Option.some.inj ho).symm; obtain rfl := Option.some.inj he; clear he; obtain ⟨ef44, v44_, e44, ev44⟩ := hpre ⟨3, .data⟩ (by simp) rfl _ rfl; replace ev44 := ev44 _ rfl; subst ev44; have e44 : a.tmps.getD 44 undef = .pointer (some (ad.add (k * 7))) := e44; clear hpre hfr; refine wpOp_value (v := .pointer (some (ad.add (k * 7)))) ho rfl ?_ ⟨_, g, rfl, rfl, RSame.mk rfl rfl⟩; simp only [execOp, Act.eval, List.map_toArray, List.map_cons, List.map_nil, e44]; first | rfl | (go_simp; done) | (go_simp; rfl) | (go_simp; intro h_; exfalso; omega)
              | 5, ho, he, hfi => obtain rfl : o_ = ⟨_, _, _, _, _, _⟩ := (Option.some.inj ho).symm; obtain rfl := Option.some.inj he; clear he; obtain ⟨ef45, v45_, e45, ev45⟩ := hpre ⟨4, .data⟩ (by simp) rfl _ rfl; replace ev45 := ev45 _ rfl; subst ev45; have e45 : a.tmps.getD 45 undef = .pointer (some (ad.add (k * 7))) := e45; clear hpre hfr; have k0 := htr.com.cell ((HBW.out.cell HADL.out).trans HQ0.out) HNA.out; have k1 := htr.com.cell ((HBW.out.cell (show (⟨(ad.add (k * 7)).block, _, none⟩ : Addr).block < _ from HADL.out)).trans HQ1.out) HNA.out; have k2 := htr.com.cell ((HBW.out.cell (show (⟨(ad.add (k * 7)).block, _, none⟩ : Addr).block < _ from HADL.out)).trans HQ2.out) HNA.out; have k3 := htr.com.cell ((HBW.out.cell (show (⟨(ad.add (k * 7)).block, _, none⟩ : Addr).block < _ from HADL.out)).trans HQ3.out) HNA.out; refine wpOp_value (v := .agg #[.int .i64 x.f0.f0, .int .i64 x.f0.f1, .int .i64 x.f0.f2, .int .i64 x.f0.f3]) ho rfl ?_ ⟨_, g, rfl, rfl, RSame.mk rfl rfl⟩; simp only [execOp, Act.eval, List.map_toArray, List.map_cons, List.map_nil, e45]; first | rfl | (go_simp; done) | (go_simp; rfl)
              | 6, ho, he, hfi =>
                obtain rfl : o_ = ⟨_, _, _, _, _, _⟩ := (Option.some.inj ho).symm
                obtain rfl := Option.some.inj he; clear he
                obtain ⟨ef41, v41_, e41, ev41⟩ := hpre ⟨0, .data⟩ (by simp) rfl _ rfl
                replace ev41 := ev41 _ rfl; subst ev41
                try dsimp only at e41
                obtain ⟨ef46, v46_, e46, ev46⟩ := hpre ⟨5, .data⟩ (by simp) rfl _ rfl
                replace ev46 := ev46 _ rfl; subst ev46
                try dsimp only at e46
                clear hpre hfr
                refine wpOp_call (fn := Try.f26) ho rfl rfl rfl rfl #[.agg #[(.slice (some ⟨gb, 0, none⟩) s.1.length c), .slice Al s.2.length cl], .agg #[.int .i64 x.f0.f0, .int .i64 x.f0.f1, .int .i64 x.f0.f2, .int .i64 x.f0.f3]] rfl (by simp only [List.map_toArray, List.map_cons, List.map_nil, Act.eval, e41, e46]) ?_
                refine (ref_one w.heap.size gb c cl Al s.1 s.2 x.f0 _ (htr.pre hfi).1 (htr.pre hfi).2 HOK.out HAM.out HI.out.ok (by have := HI.out.ll; omega) (by have := htr.com.size; have := HBW.out.size; omega)).mono ?_
                rintro e w3 ⟨vl', rfl, hb', hl', hat, hm⟩
                refine ⟨_, rfl, _, g, rfl, ⟨vl', rfl, hb', hl'⟩, ⟨rfl, htr.com.trans hm, hm.size, fun q hq hz => ?_⟩⟩
                have hn : ¬ OneS gb (.slice Al s.2.length cl) q := fun hs => by
                  rcases hz with hz | hz
                  · rcases hs with h | h
                    · exact Kd.R_ne (htr.pre hfi).1 hz (by decide) (by rw [h]; rfl)
                    · exact Kd.R_ne (htr.pre hfi).2 hz (by decide) h
                  · rcases hs with h | h
                    · exact Kd.R_ne (htr.pre hfi).1 hz (by decide) (by rw [h]; rfl)
                    · exact Kd.R_ne (htr.pre hfi).2 hz (by decide) h
                exact hm.block q (by rcases hz with hz | hz <;> exact blk_lt hz) hn
              | 7, ho, he, hfi => obtain rfl : o_ = ⟨_, _, _, _, _, _⟩ := (Option.some.inj ho).symm; obtain rfl := Option.some.inj he; clear he; obtain ⟨ef47, v47_, e47, ev47⟩ := hpre ⟨6, .data⟩ (by simp) rfl _ rfl; replace ev47 := ev47 _ rfl; subst ev47; try dsimp only at e47; clear hpre hfr; obtain ⟨v_, hv_⟩ : ∃ v_, v_ = a.tmps.getD 47 undef := ⟨_, rfl⟩; rw [← hv_] at e47; refine wpOp_value (v := v_) ho rfl ?_ ⟨v_, g, rfl, e47, RSame.mk rfl rfl⟩; simp only [execOp, Act.eval, List.map_toArray, List.map_cons, List.map_nil, ← hv_]; first | rfl | (go_simp; done) | (go_simp; rfl)
              | 8, ho, he, hfi => obtain rfl : o_ = ⟨_, _, _, _, _, _⟩ := (Option.some.inj ho).symm; obtain rfl := Option.some.inj he; clear he; obtain ⟨ef40, v40_, e40, ev40⟩ := hpre ⟨7, .data⟩ (by simp) rfl _ rfl; replace ev40 := ev40 _ rfl; subst ev40; try dsimp only at e40; clear hpre hfr; obtain ⟨v1, e1, e3⟩ := e40; refine wpOp_value (v := .agg #[(.slice (some ⟨gb, 0, none⟩) s.1.length c), v1]) ho rfl ?_ ⟨_, g, rfl, ⟨v1, rfl, e3⟩, RSame.mk rfl rfl⟩; simp only [execOp, Act.eval, List.map_toArray, List.map_cons, List.map_nil, e1]; first | rfl | (go_simp; done) | (go_simp; rfl)
              | 9, ho, he, hfi => obtain rfl : o_ = ⟨_, _, _, _, _, _⟩ := (Option.some.inj ho).symm; obtain rfl := Option.some.inj he; clear he; obtain ⟨ef40, v40_, e40, ev40⟩ := hpre ⟨7, .data⟩ (by simp) rfl _ rfl; replace ev40 := ev40 _ rfl; subst ev40; try dsimp only at e40; clear hpre hfr; obtain ⟨v1, e1, e3⟩ := e40; refine wpOp_value (v := .agg #[.int .i64 (doL s x.f0).2.f0, .int .i64 (doL s x.f0).2.f1, .int .i64 (doL s x.f0).2.f2]) ho rfl ?_ ⟨_, g, rfl, rfl, RSame.mk rfl rfl⟩; simp only [execOp, Act.eval, List.map_toArray, List.map_cons, List.map_nil, e1]; first | rfl | (go_simp; done) | (go_simp; rfl)
              | 10, ho, he, hfi => obtain rfl : o_ = ⟨_, _, _, _, _, _⟩ := (Option.some.inj ho).symm; obtain rfl := Option.some.inj he; clear he; clear hpre hfr; refine wpOp_value (w1 := w1_.alloc (.cells #[.slice none 0 0, .slice none 0 0] 25 (0, 0))) (v := .pointer (some ⟨w1_.heap.size, 0, none⟩)) ho rfl ?_ ⟨_, (w1_.heap.size, g.2), rfl, rfl, RAlloc1.mk rfl rfl rfl⟩; simp only [execOp, Act.eval, List.map_toArray, List.map_cons, List.map_nil]; first | rfl | (go_simp; done) | (go_simp; rfl)
              | 11, ho, he, hfi => obtain rfl : o_ = ⟨_, _, _, _, _, _⟩ := (Option.some.inj ho).symm; obtain rfl := Option.some.inj he; clear he; clear hpre hfr; refine wpOp_value (w1 := w1_.alloc (.cells #[.int .i64 0, .int .i64 0, .int .i64 0] 37 (0, 0))) (v := .pointer (some ⟨w1_.heap.size, 0, none⟩)) ho rfl ?_ ⟨_, (g.1, w1_.heap.size), rfl, rfl, RAlloc2.mk rfl rfl rfl⟩; simp only [execOp, Act.eval, List.map_toArray, List.map_cons, List.map_nil]; first | rfl | (go_simp; done) | (go_simp; rfl)
              | 12, ho, he, hfi =>
                obtain rfl : o_ = ⟨_, _, _, _, _, _⟩ := (Option.some.inj ho).symm
                obtain rfl := Option.some.inj he; clear he
                obtain ⟨ef7, v7_, e7, ev7⟩ := hpre ⟨10, .data⟩ (by simp) rfl _ rfl
                replace ev7 := ev7 _ rfl; subst ev7
                have e7 : a.tmps.getD 7 undef = .pointer (some ⟨g.1, 0, none⟩) := e7
                obtain ⟨ef48, v48_, e48, ev48⟩ := hpre ⟨8, .data⟩ (by simp) rfl _ rfl
                replace ev48 := ev48 _ rfl; subst ev48
                try dsimp only at e48
                obtain ⟨ef47, v47_, e47, ev47⟩ := hpre ⟨6, .chain⟩ (by simp) rfl _ rfl
                replace ev47 := ev47 _ rfl; subst ev47
                try dsimp only at e47
                clear hpre hfr
                obtain ⟨v1, e1, e3⟩ := e48
                obtain ⟨Ay, cy, rfl⟩ := Kd.R_slice e3.2
                have hz := htr.zero1 ef7 hfi
                have hz0 : w1_.cell? ⟨g.1, 0, none⟩ = some (.slice none 0 0) := (blk_cell hz 0).trans rfl
                have hz1 : w1_.cell? ⟨g.1, 1, none⟩ = some (.slice none 0 0) := (blk_cell hz 1).trans rfl
                have hf0 := blk_frozen hz 0
                have hf1 := blk_frozen hz 1
                refine wpOp_skip (w1 := (w1_.setCell ⟨g.1, 0, none⟩ (.slice (some ⟨gb, 0, none⟩) s.1.length c)).setCell ⟨g.1, 1, none⟩ (.slice Ay (doL s x.f0).1.2.length cy)) ho rfl ?_ ⟨undef, g, rfl, ⟨_, blk_put (blk_put hz 0 _ rfl) 1 _ rfl, ?_⟩, RStore1.mk (RStore.mk rfl (htr.ge1 ef7).1 hz ⟨[_, _], rfl⟩) rfl⟩
                · simp only [execOp, Act.eval, List.map_toArray, List.map_cons, List.map_nil, e1, e7]
                  first | rfl | (go_simp; done) | (go_simp; rfl)
                · exact e3.cells hz (by decide) (by decide) [_, _]
              | 13, ho, he, hfi => obtain rfl : o_ = ⟨_, _, _, _, _, _⟩ := (Option.some.inj ho).symm; obtain rfl := Option.some.inj he; clear he; obtain ⟨ef8, v8_, e8, ev8⟩ := hpre ⟨11, .data⟩ (by simp) rfl _ rfl; replace ev8 := ev8 _ rfl; subst ev8; have e8 : a.tmps.getD 8 undef = .pointer (some ⟨g.2, 0, none⟩) := e8; obtain ⟨ef49, v49_, e49, ev49⟩ := hpre ⟨9, .data⟩ (by simp) rfl _ rfl; replace ev49 := ev49 _ rfl; subst ev49; try dsimp only at e49; clear hpre hfr; have hz := htr.zero2 ef8 hfi; have hz0 : w1_.cell? ⟨g.2, 0, none⟩ = some (.int .i64 0) := (blk_cell hz 0).trans rfl; have hz1 : w1_.cell? ⟨g.2, 1, none⟩ = some (.int .i64 0) := (blk_cell hz 1).trans rfl; have hz2 : w1_.cell? ⟨g.2, 2, none⟩ = some (.int .i64 0) := (blk_cell hz 2).trans rfl; have hf0 := blk_frozen hz 0; have hf1 := blk_frozen hz 1; have hf2 := blk_frozen hz 2; refine wpOp_skip (w1 := ((w1_.setCell ⟨g.2, 0, none⟩ (.int .i64 (doL s x.f0).2.f0)).setCell ⟨g.2, 1, none⟩ (.int .i64 (doL s x.f0).2.f1)).setCell ⟨g.2, 2, none⟩ (.int .i64 (doL s x.f0).2.f2)) ho rfl ?_ ⟨undef, g, rfl, blk_put (blk_put (blk_put hz 0 _ rfl) 1 _ rfl) 2 _ rfl, RStore2.mk (RStore.mk rfl (htr.ge2 ef8).1 hz ⟨[_, _, _], rfl⟩) rfl⟩; simp only [execOp, Act.eval, List.map_toArray, List.map_cons, List.map_nil, e49, e8]; first | rfl | (go_simp; done) | (go_simp; rfl)
              | n_ + 14, ho, he, hfi => simp at he
            case fin =>
              intro xv_ gz f_ w1_ hall htr hx
              simp only [List.forall_mem_cons] at hx
              obtain ⟨⟨z41_, z41, y41⟩, ⟨z42_, z42, y42⟩, ⟨z43_, z43, y43⟩, ⟨z44_, z44, y44⟩, ⟨z45_, z45, y45⟩, ⟨z46_, z46, y46⟩, ⟨z47_, z47, y47⟩, ⟨z40_, z40, y40⟩, ⟨z48_, z48, y48⟩, ⟨z49_, z49, y49⟩, ⟨z7_, z7, y7⟩, ⟨z8_, z8, y8⟩, ⟨_, w12, _⟩, ⟨_, w13, _⟩, _⟩ := hx
              replace y41 := y41 _ rfl; subst y41
              have x41 := z41; try dsimp only at x41
              replace y42 := y42 _ rfl; subst y42
              have x42 : xv_ 42 = .slice (some ad) l0.length c0 := z42
              replace y43 := y43 _ rfl; subst y43
              have x43 : xv_ 43 = .int .i64 k := z43
              replace y44 := y44 _ rfl; subst y44
              have x44 : xv_ 44 = .pointer (some (ad.add (k * 7))) := z44
              replace y45 := y45 _ rfl; subst y45
              have x45 : xv_ 45 = .pointer (some (ad.add (k * 7))) := z45
              replace y46 := y46 _ rfl; subst y46
              have x46 := z46; try dsimp only at x46
              replace y47 := y47 _ rfl; subst y47
              obtain ⟨v47, x47, _⟩ := z47
              replace y40 := y40 _ rfl; subst y40
              obtain ⟨x_40, x40⟩ : ∃ x, xv_ 40 = x := ⟨_, rfl⟩
              replace y48 := y48 _ rfl; subst y48
              obtain ⟨v48, x48, _⟩ := z48
              replace y49 := y49 _ rfl; subst y49
              have x49 := z49; try dsimp only at x49
              replace y7 := y7 _ rfl; subst y7
              have x7 : xv_ 7 = .pointer (some ⟨gz.1, 0, none⟩) := z7
              replace y8 := y8 _ rfl; subst y8
              have x8 : xv_ 8 = .pointer (some ⟨gz.2, 0, none⟩) := z8
              obtain ⟨vq, hbq, hRq⟩ := w12
              obtain hbr := w13
              simp only [List.map_cons, List.map_nil, putL, Act.put, List.setIfInBounds_toArray, List.set_cons_zero, List.set_cons_succ, x41, x42, x43, x44, x45, x46, x47, x40, x48, x49, x7, x8]
              clear x41 x42 x43 x44 x45 x46 x47 x40 x48 x49 x7 x8 z41 z42 z43 z44 z45 z46 z40 z49 z7 z8
              obtain ⟨d, hd⟩ : ∃ d, d = (doL s x.f0).2 := ⟨_, rfl⟩
              obtain ⟨s', hs'⟩ : ∃ s', s' = (doL s x.f0).1 := ⟨_, rfl⟩
              have HLEN : Aside0 (s'.1.length = s.1.length) := ⟨by rw [hs']; exact (change_ok HI.out.ok x.f0).1.trans HI.out.ok.1.symm⟩
              obtain ⟨Aq, cq, hvq⟩ := Kd.R_slice hRq.2
              subst hvq
              have HBQ := Aside0.mk hbq
              have HBR := Aside0.mk w13
              have HRQ := Aside0.mk hRq
              have hsz := htr.com.size
              have RS3 := Aside0.mk (htr.com.blk RS2.out HN0.out)
              have B43 := Aside0.mk (htr.com.blk B42.out HN4.out)
              have HBL3 : Aside0 (Below w.heap.size w w1_) := ⟨htr.com.below HBW.out HBW.out.size HOS.out⟩
              have HGE : Aside0 (w.heap.size < gz.1) := ⟨by have := (htr.ge1 (hall _)).1; have := HBW.out.size; have := blk_lt RS2.out; omega⟩
              have q4 := htr.com.cell ((HBW.out.cell (show (⟨(ad.add (k * 7)).block, _, none⟩ : Addr).block < _ from HADL.out)).trans HQ4.out) HNA.out
              have q5 := htr.com.cell ((HBW.out.cell (show (⟨(ad.add (k * 7)).block, _, none⟩ : Addr).block < _ from HADL.out)).trans HQ5.out) HNA.out
              have q6 := htr.com.cell ((HBW.out.cell (show (⟨(ad.add (k * 7)).block, _, none⟩ : Addr).block < _ from HADL.out)).trans HQ6.out) HNA.out
              clear htr
              have z0 : w1_.cell? ⟨w.heap.size, 0, none⟩ = some (.slice none 0 0) := (blk_cell RS3.out 0).trans rfl
              have z1 : w1_.cell? ⟨w.heap.size, 1, none⟩ = some (.slice none 0 0) := (blk_cell RS3.out 1).trans rfl
              have fz0 := blk_frozen RS3.out 0
              have fz1 := blk_frozen RS3.out 1
              have m0 : w1_.cell? ⟨w1.heap.size, 0, none⟩ = some (.slice (some ⟨gb, 0, none⟩) s.1.length c) := (blk_cell B43.out 0).trans rfl
              have m1 : w1_.cell? ⟨w1.heap.size, 1, none⟩ = some (.slice Al s.2.length cl) := (blk_cell B43.out 1).trans rfl
              have fm0 := blk_frozen B43.out 0
              have fm1 := blk_frozen B43.out 1
              have p0 : w1_.cell? ⟨gz.1, 0, none⟩ = some (.slice (some ⟨gb, 0, none⟩) s.1.length c) := (blk_cell HBQ.out 0).trans rfl
              have p1 : w1_.cell? ⟨gz.1, 1, none⟩ = some (.slice Aq (doL s x.f0).1.2.length cq) := (blk_cell HBQ.out 1).trans rfl
              have d0 : w1_.cell? ⟨gz.2, 0, none⟩ = some (.int .i64 (doL s x.f0).2.f0) := (blk_cell HBR.out 0).trans rfl
              have d1 : w1_.cell? ⟨gz.2, 1, none⟩ = some (.int .i64 (doL s x.f0).2.f1) := (blk_cell HBR.out 1).trans rfl
              have d2 : w1_.cell? ⟨gz.2, 2, none⟩ = some (.int .i64 (doL s x.f0).2.f2) := (blk_cell HBR.out 2).trans rfl
              have HOK1 : Aside0 (BalOk (doL s x.f0).1.1 ∧ (doL s x.f0).1.2.length ≤ k + 1) := ⟨change_ok HI.out.ok x.f0, by have := HI.out.ll; simp only [doL]; split <;> simp <;> omega⟩
              rw [← hs'] at HRQ HBQ p1 HOK1 HST2
              rw [← hd] at HST2 d0 d1 d2
              rw [← hd]
              clear hd hs' hRq hbq w13
              by_cases h0 : d.f0 = x.f1.f0
              · by_cases h1 : d.f1 = x.f1.f1
                · by_cases h2 : d.f2 = x.f1.f2
                  · have HST3 : Aside0 (replF s' (l0.drop (k + 1)) = (r1, r2, r3)) := ⟨by rw [← HST2.out, if_pos ⟨h0, h1, h2⟩]⟩
                    have e0 : (d.f0 == x.f1.f0) = true := by simpa using h0
                    have e1 : (d.f1 == x.f1.f1) = true := by simpa using h1
                    have e2 : (d.f2 == x.f1.f2) = true := by simpa using h2
                    go_wp2_with fail
                    go_quiet (fail)
                    go_wp2_with fail
                    go_roundw
                    case rel =>
                      have hp1 := blk_put (cs := #[.slice (some ⟨gb, 0, none⟩) s.1.length c, .slice Al s.2.length cl]) B43.out 0 (.slice (some ⟨gb, 0, none⟩) s.1.length c) rfl
                      have hp2 := blk_put (cs := #[.slice (some ⟨gb, 0, none⟩) s.1.length c, .slice Al s.2.length cl]) hp1 1 (.slice Aq s'.2.length cq) rfl
                      refine ⟨k + 1, c, .slice Aq s'.2.length cq, s', by go_num, by omega, ⟨?_, ?_, HOK1.out.1, HOK1.out.2, HST3.out, ?_, ?_⟩⟩
                      · rw [HLEN.out]; exact hp2
                      · rw [HLEN.out]; exact ⟨Kd.R_set (Kd.R_set HRQ.out.1 B43.out (by decide) 0 _) hp1 (by decide) 1 _, Kd.R_set (Kd.R_set HRQ.out.2 B43.out (by decide) 0 _) hp1 (by decide) 1 _⟩
                      · exact (setCells_far [_, _] 0 _ (Nat.ne_of_lt HG0.out)).trans RS3.out
                      · exact below_set (below_set (by apply pw_below_drewN; exact HBL3.out) (Nat.le_of_lt HG0.out)) (Nat.le_of_lt HG0.out)
                    case measure => simp [intOf]; omega
                  · obtain ⟨⟨⟩⟩ : Aside0 ((([], [], 9) : List Int × List S44 × Int) = (r1, r2, r3)) := ⟨by rw [← HST2.out, if_neg (fun h => h2 h.2.2)]⟩
                    have e0 : (d.f0 == x.f1.f0) = true := by simpa using h0
                    have e1 : (d.f1 == x.f1.f1) = true := by simpa using h1
                    have e2 : (d.f2 == x.f1.f2) = false := by simpa using h2
                    go_wp2_with fail
                    go_quiet (fail)
                    go_wp2_with fail
                    refine bodyPost_ret (results_list (rs := [.cell 2 25, .tmp 3]) rfl (by simp) (.cell (w.heap.size) 25 #[.slice none 0 0, .slice none 0 0] (0, 0) _ rfl (blk_put (cs := #[.slice none 0 0, .slice none 0 0]) (blk_put (cs := #[.slice none 0 0, .slice none 0 0]) RS3.out 0 _ rfl) 1 _ rfl) Try.underlying25 rfl (by kernel_rfl) (.tmp .nil))) rfl ?_
                    exact ⟨_, _, rfl, Kd.R_nil _ _ _ _ _, Kd.R_nil _ _ _ _ _, below_set (below_set (by apply pw_below_drewN; exact HBL3.out) (by simp)) (by simp)⟩
                · obtain ⟨⟨⟩⟩ : Aside0 ((([], [], 9) : List Int × List S44 × Int) = (r1, r2, r3)) := ⟨by rw [← HST2.out, if_neg (fun h => h1 h.2.1)]⟩
                  have e0 : (d.f0 == x.f1.f0) = true := by simpa using h0
                  have e1 : (d.f1 == x.f1.f1) = false := by simpa using h1
                  go_wp2_with fail
                  go_quiet (fail)
                  go_wp2_with fail
                  refine bodyPost_ret (results_list (rs := [.cell 2 25, .tmp 3]) rfl (by simp) (.cell (w.heap.size) 25 #[.slice none 0 0, .slice none 0 0] (0, 0) _ rfl (blk_put (cs := #[.slice none 0 0, .slice none 0 0]) (blk_put (cs := #[.slice none 0 0, .slice none 0 0]) RS3.out 0 _ rfl) 1 _ rfl) Try.underlying25 rfl (by kernel_rfl) (.tmp .nil))) rfl ?_
                  exact ⟨_, _, rfl, Kd.R_nil _ _ _ _ _, Kd.R_nil _ _ _ _ _, below_set (below_set (by apply pw_below_drewN; exact HBL3.out) (by simp)) (by simp)⟩
              · obtain ⟨⟨⟩⟩ : Aside0 ((([], [], 9) : List Int × List S44 × Int) = (r1, r2, r3)) := ⟨by rw [← HST2.out, if_neg (fun h => h0 h.1)]⟩
                have e0 : (d.f0 == x.f1.f0) = false := by simpa using h0
                go_wp2_with fail
                go_quiet (fail)
                go_wp2_with fail
                refine bodyPost_ret (results_list (rs := [.cell 2 25, .tmp 3]) rfl (by simp) (.cell (w.heap.size) 25 #[.slice none 0 0, .slice none 0 0] (0, 0) _ rfl (blk_put (cs := #[.slice none 0 0, .slice none 0 0]) (blk_put (cs := #[.slice none 0 0, .slice none 0 0]) RS3.out 0 _ rfl) 1 _ rfl) Try.underlying25 rfl (by kernel_rfl) (.tmp .nil))) rfl ?_
                exact ⟨_, _, rfl, Kd.R_nil _ _ _ _ _, Kd.R_nil _ _ _ _ _, below_set (below_set (by apply pw_below_drewN; exact HBL3.out) (by simp)) (by simp)⟩
        · obtain ⟨⟨⟩⟩ : Aside0 ((([], [], chkL x.f0) : List Int × List S44 × Int) = (r1, r2, r3)) := ⟨by rw [← HST.out, replF_bad _ hc0]⟩
          have t3 : (chkL x.f0 == 0) = false := by simpa using hc0
          go_wp2
          refine bodyPost_ret (results_list (rs := [.cell 2 25, .tmp 3]) rfl (by simp) (.cell (w.heap.size) 25 #[.slice none 0 0, .slice none 0 0] (0, 0) _ rfl (blk_put (cs := #[.slice none 0 0, .slice none 0 0]) (blk_put (cs := #[.slice none 0 0, .slice none 0 0]) RS2.out 0 _ rfl) 1 _ rfl) Try.underlying25 rfl (by kernel_rfl) (.tmp .nil))) rfl ?_
          exact ⟨_, _, rfl, Kd.R_nil _ _ _ _ _, Kd.R_nil _ _ _ _ _, below_set (below_set HBW.out (by simp)) (by simp)⟩
      · have b1 : decide ((k : Int) < (l0.length : Int)) = false := decide_eq_false (by omega)
        have b1' : decide (k < l0.length) = false := decide_eq_false hlt
        have hst := HI.out.st
        rw [List.drop_of_length_le (by omega)] at hst
        obtain ⟨⟨⟩⟩ := Aside0.mk hst
        have g0 : wr.cell? ⟨w1.heap.size, 0, none⟩ = some (.slice (some ⟨gb, 0, none⟩) s.1.length c) := (blk_cell HI.out.b4 0).trans rfl
        have g1 : wr.cell? ⟨w1.heap.size, 1, none⟩ = some (.slice Al s.2.length cl) := (blk_cell HI.out.b4 1).trans rfl
        go_wp2
        have hp1 := blk_put (cs := #[.slice none 0 0, .slice none 0 0]) HI.out.res 0 (.slice (some ⟨gb, 0, none⟩) s.1.length c) rfl
        refine bodyPost_ret (results_list (rs := [.cell 2 25, .tmp 3]) rfl (by simp) (.cell (w.heap.size) 25 #[.slice (some ⟨gb, 0, none⟩) s.1.length c, .slice Al s.2.length cl] (0, 0) _ rfl (blk_put (cs := #[.slice (some ⟨gb, 0, none⟩) s.1.length c, .slice none 0 0]) hp1 1 _ rfl) Try.underlying25 rfl (by kernel_rfl) (.tmp .nil))) rfl ?_
        exact ⟨_, _, rfl, Kd.R_set (Kd.R_set HI.out.rr.1 HI.out.res (by decide) 0 _) hp1 (by decide) 1 _, Kd.R_set (Kd.R_set HI.out.rr.2 HI.out.res (by decide) 0 _) hp1 (by decide) 1 _, below_set (below_set HI.out.bel (by simp)) (by simp)⟩
end Go.Proofs.Ytbegdgdghiigpaa.G
end
