-- Made by wip/tools/xprint.py (over the kit's print program) for this claim.
import Derived.Maps.Own
import Derived.Maps.OwnOps
import Derived.Maps.OwnSet
import Derived.Maps.Views
import Derived.Test.YtaidadofkbagkaaGx0
import Derived.Test.YtaidadofkbagkaaGx3
namespace Go.Proofs.Ytaidadofkbagkaa.G
open WB Go.RowKit Go.Proofs.YtaidadofkbagkaaW.PrintWords Go.Proofs.YtaidadofkbagkaaW.PrintLast Go.Proofs.YtaidadofkbagkaaW.PrintMore
attribute [local go_sem] max2_int min2_int max_two min_two max_three min_three max_four min_four   -- for this text's walks alone
set_option linter.unusedVariables false
set_option linter.unusedSimpArgs false

/-! ### resolve_weights: function 31 -/
theorem law_id : Go.Maps.Keyed Try.prog 3 := Go.Maps.int_keyed Try.underlying3
theorem zero_id (w : World) : (zeroValue 3).run Try.prog w = .ok (.int .i64 0) w := by kernel_rfl
def mapD (l : List S36) : DataW Unit := l.foldl (fun m x => m.put (.int .i64 x.f0) (.lit (.int .i64 x.f1))) (.map [])
theorem mapD_snoc (l : List S36) (x : S36) : mapD (l ++ [x]) = (mapD l).put (.int .i64 x.f0) (.lit (.int .i64 x.f1)) := by
  unfold mapD
  rw [List.foldl_append]
  rfl
/-- What is kept of an ID. -/
def wOf (l : List S36) (id : Int) : Int × Bool := l.foldl (fun o x => if x.f0 = id then (x.f1, true) else o) (0, false)
theorem wOf_snoc (l : List S36) (x : S36) (id : Int) : wOf (l ++ [x]) id = if x.f0 = id then (x.f1, true) else wOf l id := by
  unfold wOf
  rw [List.foldl_append]
  rfl
theorem mapD_reads (l : List S36) (id : Int) : Go.Maps.IsMap (mapD l) ∧ (mapD l).atKey (.int .i64 id) (.lit (.int .i64 0)) = .lit (.int .i64 (wOf l id).1) ∧ Go.Maps.has (mapD l) (.int .i64 id) = (wOf l id).2 := by
  have key : ∀ r : List S36, (fun l => Go.Maps.IsMap (mapD l) ∧ (mapD l).atKey (.int .i64 id) (.lit (.int .i64 0)) = .lit (.int .i64 (wOf l id).1) ∧ Go.Maps.has (mapD l) (.int .i64 id) = (wOf l id).2) r.reverse := by
    intro r
    induction r with
    | nil => exact ⟨Go.Maps.isMap_empty, rfl, rfl⟩
    | cons x r ih =>
      obtain ⟨h1, h2, h3⟩ := ih
      rw [List.reverse_cons]
      rw [mapD_snoc, wOf_snoc]
      refine ⟨h1.put _ _, ?_, ?_⟩
      · by_cases he : x.f0 = id
        · rw [if_pos he, ← he]
          exact Go.Maps.atKey_put_same h1 (show WideAt.IsKeyLit (.int .i64 x.f0) from trivial) _ _
        · rw [if_neg he, ← h2]
          exact Go.Maps.atKey_put_other (fun h => he (by injection h with _ h; exact h.symm)) _ _
      · by_cases he : x.f0 = id
        · rw [if_pos he, ← he]
          exact Go.Maps.has_put_same h1 (show WideAt.IsKeyLit (.int .i64 x.f0) from trivial) _
        · rw [if_neg he, ← h3]
          exact Go.Maps.has_put_other (fun h => he (by injection h with _ h; exact h.symm)) _
  have := key l.reverse
  rwa [List.reverse_reverse] at this
theorem even_wf (b : S36) (h : oddB b = false) : (Lit.int .i64 b.f0).wf = true ∧ (Lit.int .i64 b.f1).wf = true := by
  simp only [oddB, Bool.or_eq_false_iff, decide_eq_false_iff_not] at h
  exact ⟨WalkArith.wf_i64 (by omega), WalkArith.wf_i64 (by omega)⟩
/-- Block b is the map of these backends. -/
def IsW (w : World) (b : Nat) (l : List S36) : Prop := w.ownsMap Try.prog 3 (plainElem Try.prog 3) b l.length (mapD l)
theorem IsW.below {w w1 : World} {b : Nat} {l : List S36} (h : IsW w b l) (hb : Below w.heap.size w w1) : IsW w1 b l := World.ownsMap.kept h (grown_of_below hb none) (by simp)
set_option maxHeartbeats 2000000 in
set_option maxRecDepth 100000 in
theorem weights_any (v : Int) (A : Option Addr) (c : Nat) (l : List S36) (w : World) (hr : Kd.C k36 w A l.length l) (hc : l.length ≤ c) (hod : ∀ x ∈ l, oddB x = false) (hle : l.length ≤ 32) :
    Calls Try.prog 31 #[.agg #[.int .i64 v, .slice A l.length c]] w fun e w' => ∃ b, e = .returned (.map (some b)) ∧ w.heap.size ≤ b ∧ IsW w' b l ∧ Below w.heap.size w w' := by
  have HR := Aside0.mk hr
  have HO := Aside0.mk hod
  clear hr hod
  have hmm := @run_makeMap Try.prog
  go_enter Try.func31, Try.ntmps31
  go_wp2
  clear hmm
  go_loopw [10] (fun v10 wr => ∃ k : Nat, v10 = .int .i64 k ∧ k ≤ l.length ∧ Aside0 (wr.ownsMap Try.prog 3 (plainElem Try.prog 3) (w.heap.size + 1) k (mapD (l.take k))) ∧ Aside0 (Below w.heap.size w wr)) (fun v10 _ => l.length - (intOf v10).toNat)
  case atStart =>
    refine ⟨0, rfl, by omega, ⟨?_⟩, ⟨below_alloc (below_alloc (Below.refl _ _) _) _⟩⟩
    have := World.ownsMap_made (w.alloc (.cells #[.int .i64 v, .slice A l.length c] 24)) Try.prog 3 (plainElem (H := Unit) Try.prog 3)
    rw [World.size_alloc] at this
    exact this
  case round =>
    obtain ⟨k, rfl, hk, HM, HB⟩ := hrel
    by_cases hlt : k < l.length
    · obtain ⟨ad, e1, q0, q1⟩ := at_T36 (Kd.C_below HR.out HB.out) (k : Int) (by omega) (by omega)
      simp only [Int.toNat_natCast] at q0 q1
      obtain ⟨d, hd⟩ : ∃ d, d = rd_T36 l (k : Int) := ⟨_, rfl⟩
      rw [← hd] at q0 q1
      have HD : Aside0 (l.take (k + 1) = l.take k ++ [d]) := ⟨by
        rw [List.take_succ_eq_append_getElem hlt, hd]; simp [rd_T36, List.getElem?_eq_getElem hlt]⟩
      have HDm : Aside0 (d ∈ l) := ⟨by rw [hd]; simp [rd_T36, List.getElem?_eq_getElem hlt]⟩
      have HW := Aside0.mk (even_wf d (HO.out d HDm.out))
      have HKEY := Aside0.mk (Go.Maps.keyOf_int_mk Try.underlying3 HW.out.1)
      have b1 : decide ((k : Int) < (l.length : Int)) = true := decide_eq_true (by omega)
      have b1' : decide (k < l.length) = true := decide_eq_true hlt
      clear hd
      subst e1
      have HM1 := Aside0.mk (World.ownsMap.alloc HM.out (.cells #[.int .i64 d.f0, .int .i64 d.f1] 36))
      go_wp2_with (at_mapUpdate; refine wpList_mapUpdate_own _ rfl _ _ _ 69 rfl 3 3 law_id Try.underlying69 _ (w.heap.size + 1) k _ rfl HM1.out (by unfold maxLen; omega) _ _ _ rfl rfl HKEY.out _ [] (plainElem_int Try.underlying3 HW.out.2) ?_; intro w1 hown1 hgrow1)
      go_roundw
      case rel =>
        refine ⟨k + 1, by go_num, by omega, ⟨?_⟩, ⟨below_grown_own (below_alloc HB.out (.cells #[.int .i64 d.f0, .int .i64 d.f1] 36)) hgrow1 (fun q hq => by injection hq with hq; omega) (by simp; have := HB.out.size; omega)⟩⟩
        rw [HD.out, mapD_snoc]
        exact hown1
      case measure => simp [intOf]; omega
    · have b1 : decide ((k : Int) < (l.length : Int)) = false := decide_eq_false (by omega)
      have b1' : decide (k < l.length) = false := decide_eq_false hlt
      obtain rfl : k = l.length := by omega
      go_wp2
      go_ret
      have h := HM.out
      rw [List.take_of_length_le (Nat.le_refl _)] at h
      exact ⟨_, rfl, by omega, h, HB.out⟩

/-! ### resolve_Diff: function 15 -/
def moreD (la lb : List S36) : List Int := (lb.filter fun x => !(wOf la x.f0).2).map (·.f0)
def otherD (la lb : List S36) : List Int := (lb.filter fun x => (wOf la x.f0).2 && decide ((wOf la x.f0).1 ≠ x.f1)).map (·.f0)
theorem moreD_snoc (la lb : List S36) (d : S36) : moreD la (lb ++ [d]) = moreD la lb ++ (if (wOf la d.f0).2 = false then [d.f0] else []) := by
  unfold moreD
  rw [List.filter_append, List.map_append]
  cases h : (wOf la d.f0).2 <;> simp [h]
theorem otherD_snoc (la lb : List S36) (d : S36) : otherD la (lb ++ [d]) = otherD la lb ++ (if (wOf la d.f0).2 = true ∧ ¬ (wOf la d.f0).1 = d.f1 then [d.f0] else []) := by
  unfold otherD
  rw [List.filter_append, List.map_append]
  cases h : (wOf la d.f0).2
  · simp [h]
  · by_cases h2 : (wOf la d.f0).1 = d.f1 <;> simp [h, h2]
theorem moreD_len (la lb : List S36) : (moreD la lb).length ≤ lb.length ∧ (otherD la lb).length ≤ lb.length := by
  unfold moreD otherD
  rw [List.length_map, List.length_map]
  exact ⟨List.length_filter_le _ _, List.length_filter_le _ _⟩
/-- The one's block is not the other's. -/
def NEv (u v : Value) : Prop := ∀ k, u.ownBlock = some k → some k ≠ v.ownBlock
theorem NEv.symm {u v : Value} (h : NEv u v) : NEv v u := fun k hk he => h k he.symm hk.symm
theorem NEv_nil (v : Value) : NEv (.slice none 0 0) v := fun k hk => by simp [Value.ownBlock] at hk
theorem NEv_after {u u' v : Value} {N : Nat} (h : NEv u v) (hat : u'.ownBlock = u.ownBlock ∨ ∃ b, u'.ownBlock = some b ∧ N ≤ b) (hlt : ∀ k, v.ownBlock = some k → k < N) : NEv u' v := fun k hk he => by
  rcases hat with hat | ⟨b, hb, hle⟩
  · exact h k (hat ▸ hk) he
  · rw [hb] at hk
    injection hk with hk
    have := hlt k he.symm
    omega
structure DiffInv (w3 : World) (v4 v6 : Value) (m o : List Int) (wr : World) : Prop where
  r4 : Kd.R (Kd.int .i64) 3 wr w3.heap.size (fun _ => True) v4 m
  r6 : Kd.R (Kd.int .i64) 3 wr w3.heap.size (fun _ => True) v6 o
  n46 : NEv v4 v6
  n64 : NEv v6 v4
  bel : Below w3.heap.size w3 wr
structure Diff2 (w3 : World) (v4 v6 v5 : Value) (m o g : List Int) (wr : World) : Prop where
  d : DiffInv w3 v4 v6 m o wr
  r5 : Kd.R (Kd.int .i64) 3 wr w3.heap.size (fun _ => True) v5 g
  n54 : NEv v5 v4
  n56 : NEv v5 v6
def diffS (va : Int) (la : List S36) (vb : Int) (lb : List S36) : List Int × List Int × List Int × Int :=
  if checksS [⟨va, la⟩, ⟨vb, lb⟩] ≠ 0 then ([], [], [], checksS [⟨va, la⟩, ⟨vb, lb⟩]) else (moreD la lb, moreD lb la, otherD la lb, 0)
def resolve_Diff.f (a0_0 : Int) (l0_1 : List (S36)) (a1_0 : Int) (l1_1 : List (S36)) : Option (List Int × List Int × List Int × Int) := some (diffS a0_0 l0_1 a1_0 l1_1)
set_option maxHeartbeats 4000000 in
set_option maxRecDepth 100000 in
theorem resolve_Diff.calls (a0_0 : Int) (A0_1 : Option Addr) (c0_1 : Nat) (l0_1 : List (S36)) (a1_0 : Int) (A1_1 : Option Addr) (c1_1 : Nat) (l1_1 : List (S36)) (r1 : List Int) (r2 : List Int) (r3 : List Int) (r4 : Int) (w : World) (hr0_1 : Kd.C k36 w A0_1 l0_1.length l0_1) (hc0_1 : l0_1.length ≤ c0_1) (hr1_1 : Kd.C k36 w A1_1 l1_1.length l1_1) (hc1_1 : l1_1.length ≤ c1_1) (h : resolve_Diff.f a0_0 l0_1 a1_0 l1_1 = some (r1, r2, r3, r4)) :
    Calls Try.prog 15 #[.agg #[.int .i64 a0_0, .slice A0_1 l0_1.length c0_1], .agg #[.int .i64 a1_0, .slice A1_1 l1_1.length c1_1]] w fun e w' => ∃ v0_ v1_ v2_ : Value, e = .returned (.tuple #[v0_, v1_, v2_, .int .i64 r4]) ∧ Kd.R (Kd.int .i64) 3 w' w.heap.size (fun k_ => some k_ ≠ (v1_ : Value).ownBlock ∧ some k_ ≠ (v2_ : Value).ownBlock) v0_ r1 ∧ Kd.R (Kd.int .i64) 3 w' w.heap.size (fun k_ => some k_ ≠ (v0_ : Value).ownBlock ∧ some k_ ≠ (v2_ : Value).ownBlock) v1_ r2 ∧ Kd.R (Kd.int .i64) 3 w' w.heap.size (fun k_ => some k_ ≠ (v0_ : Value).ownBlock ∧ some k_ ≠ (v1_ : Value).ownBlock) v2_ r3 ∧ Below w.heap.size w w' := by
  unfold resolve_Diff.f at h
  replace h := Option.some.inj h
  have HH := Aside0.mk h
  have HR := Aside0.mk hr0_1
  have HC := Aside0.mk hc0_1
  have HR1 := Aside0.mk hr1_1
  have HC1 := Aside0.mk hc1_1
  have hm0 : l0_1.length ≤ 9223372036854775807 := hr0_1.2.1
  have hm1 : l1_1.length ≤ 9223372036854775807 := hr1_1.2.1
  clear h hr0_1 hc0_1 hr1_1 hc1_1
  obtain ⟨E, hE⟩ : ∃ E, E = checksS [(⟨a0_0, l0_1⟩ : S24), ⟨a1_0, l1_1⟩] := ⟨_, rfl⟩
  have HCF : Aside0 (resolve_checks.f 3 [(⟨a0_0, l0_1⟩ : S24), ⟨a1_0, l1_1⟩] = some E) := ⟨by rw [hE]; exact checks_f _ (by simp)⟩
  by_cases h0 : E = 0
  · subst h0
    have HEV : Aside0 (l0_1.length ≤ 32 ∧ l1_1.length ≤ 32 ∧ (∀ x ∈ l0_1, oddB x = false) ∧ (∀ x ∈ l1_1, oddB x = false) ∧ ∀ x, x ∈ l0_1 ∨ x ∈ l1_1 → oddB x = false) := ⟨by
      have h1 := checkS_even _ _ (checksS_mem _ hE.symm ⟨a0_0, l0_1⟩ (by simp))
      have h2 := checkS_even _ _ (checksS_mem _ hE.symm ⟨a1_0, l1_1⟩ (by simp))
      exact ⟨h1.1, h2.1, h1.2, h2.2, fun x hx => hx.elim (h1.2 x) (h2.2 x)⟩⟩
    have HPS : Aside0 (diffS a0_0 l0_1 a1_0 l1_1 = (moreD l0_1 l1_1, moreD l1_1 l0_1, otherD l0_1 l1_1, 0)) := ⟨by unfold diffS; rw [← hE, if_neg (by simp)]⟩
    rw [HPS.out] at HH
    obtain ⟨⟨⟩⟩ := HH
    clear HPS hE
    go_enter Try.func15, Try.ntmps15
    go_wp2_with fail
    go_at_call 28
    refine calls_of_args (args' := #[.slice (some ⟨w.heap.size + 2, 0, none⟩) [(⟨a0_0, l0_1⟩ : S24), ⟨a1_0, l1_1⟩].length 2]) (by simp) ?_
    with_reducible refine (resolve_checks.calls 3 (some ⟨w.heap.size + 2, 0, none⟩) 2 [(⟨a0_0, l0_1⟩ : S24), ⟨a1_0, l1_1⟩] 0 _ ?hr (Nat.le_refl _) HCF.out).mono ?_
    case hr => exact C_cells (heap_new3 w _ _ _) (by simp) (Reps.c2 (k24_mk _ ⟨a0_0, l0_1⟩ HC.out (Kd.C_alloc (Kd.C_alloc (Kd.C_alloc HR.out _) _) _)) (Reps.c2 (k24_mk _ ⟨a1_0, l1_1⟩ HC1.out (Kd.C_alloc (Kd.C_alloc (Kd.C_alloc HR1.out _) _) _)) (Reps.none _ _)))
    rintro e w1 ⟨rfl, hb⟩
    have HB1 := Aside0.mk (below_then (below_alloc (below_alloc (below_alloc (Below.refl _ _) _) _) _) (by simp; omega) hb)
    have BK1 := Aside0.mk (blk_below (blk_alloc (heap_new2 w _ _) _) hb)
    have BK0 := Aside0.mk (blk_below (blk_alloc (blk_alloc (heap_new1 w _) _) _) hb)
    have hlt1 : w.heap.size + 1 < w1.heap.size := blk_lt BK1.out
    have hlt0 : w.heap.size < w1.heap.size := by omega
    have x0 : w1.cell? ⟨w.heap.size, 0, none⟩ = some (.int .i64 a0_0) := (blk_cell BK0.out 0).trans rfl
    have x1 : w1.cell? ⟨w.heap.size, 1, none⟩ = some (.slice A0_1 l0_1.length c0_1) := (blk_cell BK0.out 1).trans rfl
    have y0 : w1.cell? ⟨w.heap.size + 1, 0, none⟩ = some (.int .i64 a1_0) := (blk_cell BK1.out 0).trans rfl
    have y1 : w1.cell? ⟨w.heap.size + 1, 1, none⟩ = some (.slice A1_1 l1_1.length c1_1) := (blk_cell BK1.out 1).trans rfl
    clear hb
    have HRw := Aside0.mk (Kd.C_below HR.out HB1.out)
    have HR1w := Aside0.mk (Kd.C_below HR1.out HB1.out)
    go_wp2_with fail
    refine region_tail (B := _) (w0 := _) 4 [(26, (fun v _ => v = .agg #[.int .i64 a0_0, .slice A0_1 l0_1.length c0_1])), (27, (fun v W => ∃ mb, v = .map (some mb) ∧ IsW W mb l0_1)), (28, (fun v _ => v = .agg #[.int .i64 a1_0, .slice A1_1 l1_1.length c1_1])), (29, (fun v W => ∃ mb, v = .map (some mb) ∧ IsW W mb l1_1))] (by kernel_rfl) (by kernel_rfl) (by decide) (by kernel_rfl) (by kernel_rfl) (by rfl) (show ([26, 27, 28, 29] : List Nat).Nodup by decide) ?hsz ?hst (Below.refl _ _) (Nat.le_refl _) ?step ?fin
    case hsz => exact List.forall_mem_cons.2 ⟨(show 26 < 88 by decide), List.forall_mem_cons.2 ⟨(show 27 < 88 by decide), List.forall_mem_cons.2 ⟨(show 28 < 88 by decide), List.forall_mem_cons.2 ⟨(show 29 < 88 by decide), fun _ h => nomatch h⟩⟩⟩⟩
    case hst => exact List.forall_mem_cons.2 ⟨(fun v w1 w2 hb h => h), List.forall_mem_cons.2 ⟨(fun v w1 w2 hb h => h.imp fun g hg => ⟨hg.1, hg.2.below hb⟩), List.forall_mem_cons.2 ⟨(fun v w1 w2 hb h => h), List.forall_mem_cons.2 ⟨(fun v w1 w2 hb h => h.imp fun g hg => ⟨hg.1, hg.2.below hb⟩), fun _ h => nomatch h⟩⟩⟩⟩
    case step =>
      intro i_ o_ e_ ho he a w1_ hs hdf hfr hbl hbs hpre
      match i_, ho, he with
      | 0, ho, he =>
        obtain rfl : o_ = { dst := some 26, op := Go.Op.load 24 (Go.Operand.tmp 2), type := 24, pos := "resolve.go:84", after := #[], guard := none } := (Option.some.inj ho).symm
        obtain rfl := Option.some.inj he; clear he
        have f2 : a.tmps.getD 2 undef = .pointer (some ⟨w.heap.size, 0, none⟩) := by rw [Array.getD_eq_getD_getElem?, hfr 2 (show ¬ 2 ∈ ([26, 27, 28, 29] : List Nat) by decide)]; rfl
        clear hpre hfr
        have k_x0 := (hbl.cell (World.block_lt_of_cell? _ _ x0)).trans x0
        have k_x1 := (hbl.cell (World.block_lt_of_cell? _ _ x1)).trans x1
        refine wpOp_value (v := .agg #[.int .i64 a0_0, .slice A0_1 l0_1.length c0_1]) ho rfl ?_ ⟨_, rfl, rfl, Below.refl _ _⟩
        simp only [execOp, Act.eval, List.map_toArray, List.map_cons, List.map_nil, f2]
        first | rfl | (go_simp; done) | (go_simp; rfl)
      | 1, ho, he =>
        obtain rfl : o_ = { dst := some 27, op := Go.Op.call { callee := Go.Callee.value (Go.Operand.func 31), args := #[Go.Operand.tmp 26], argTypes := #[24] }, type := 69, pos := "resolve.go:84", after := #[{ on := 0, ground := Go.Ground.data }], guard := none } := (Option.some.inj ho).symm
        obtain rfl := Option.some.inj he; clear he
        have e26 : a.tmps.getD 26 undef = .agg #[.int .i64 a0_0, .slice A0_1 l0_1.length c0_1] := hpre ⟨0, .data⟩ (by simp) rfl _ rfl
        clear hpre hfr
        refine wpOp_call ho rfl Try.func31 (by kernel_rfl) rfl #[.agg #[.int .i64 a0_0, .slice A0_1 l0_1.length c0_1]] rfl (by simp only [List.map_toArray, List.map_cons, List.map_nil, Act.eval, e26]) ?_
        refine (weights_any a0_0 A0_1 c0_1 l0_1 w1_ (Kd.C_below HRw.out hbl) HC.out HEV.out.2.2.1 HEV.out.1).mono ?_
        rintro e w2 ⟨mb, rfl, hmb, hiw, hb⟩
        exact ⟨_, rfl, ⟨_, rfl, ⟨mb, rfl, hiw⟩, hb⟩⟩
      | 2, ho, he =>
        obtain rfl : o_ = { dst := some 28, op := Go.Op.load 24 (Go.Operand.tmp 3), type := 24, pos := "resolve.go:84", after := #[], guard := none } := (Option.some.inj ho).symm
        obtain rfl := Option.some.inj he; clear he
        have f3 : a.tmps.getD 3 undef = .pointer (some ⟨w.heap.size + 1, 0, none⟩) := by rw [Array.getD_eq_getD_getElem?, hfr 3 (show ¬ 3 ∈ ([26, 27, 28, 29] : List Nat) by decide)]; rfl
        clear hpre hfr
        have k_y0 := (hbl.cell (World.block_lt_of_cell? _ _ y0)).trans y0
        have k_y1 := (hbl.cell (World.block_lt_of_cell? _ _ y1)).trans y1
        refine wpOp_value (v := .agg #[.int .i64 a1_0, .slice A1_1 l1_1.length c1_1]) ho rfl ?_ ⟨_, rfl, rfl, Below.refl _ _⟩
        simp only [execOp, Act.eval, List.map_toArray, List.map_cons, List.map_nil, f3]
        first | rfl | (go_simp; done) | (go_simp; rfl)
      | 3, ho, he =>
        obtain rfl : o_ = { dst := some 29, op := Go.Op.call { callee := Go.Callee.value (Go.Operand.func 31), args := #[Go.Operand.tmp 28], argTypes := #[24] }, type := 69, pos := "resolve.go:84", after := #[{ on := 2, ground := Go.Ground.data }, { on := 1, ground := Go.Ground.chain }], guard := none } := (Option.some.inj ho).symm
        obtain rfl := Option.some.inj he; clear he
        have e28 : a.tmps.getD 28 undef = .agg #[.int .i64 a1_0, .slice A1_1 l1_1.length c1_1] := hpre ⟨2, .data⟩ (by simp) rfl _ rfl
        clear hpre hfr
        refine wpOp_call ho rfl Try.func31 (by kernel_rfl) rfl #[.agg #[.int .i64 a1_0, .slice A1_1 l1_1.length c1_1]] rfl (by simp only [List.map_toArray, List.map_cons, List.map_nil, Act.eval, e28]) ?_
        refine (weights_any a1_0 A1_1 c1_1 l1_1 w1_ (Kd.C_below HR1w.out hbl) HC1.out HEV.out.2.2.2.1 HEV.out.2.1).mono ?_
        rintro e w2 ⟨mb, rfl, hmb, hiw, hb⟩
        exact ⟨_, rfl, ⟨_, rfl, ⟨mb, rfl, hiw⟩, hb⟩⟩
      | n_ + 4, ho, he => simp at he
    case fin =>
      intro xv_ w1_ hbl hbs hx
      simp only [List.forall_mem_cons] at hx
      obtain ⟨x26, ⟨ma, x27, hma⟩, x28, ⟨mb, x29, hmb⟩, _⟩ := hx
      simp only [List.map_cons, List.map_nil, putL, Act.put, List.setIfInBounds_toArray, List.set_cons_zero, List.set_cons_succ, x26, x27, x28, x29]
      simp only [List.drop_succ_cons, List.drop_zero]
      clear x26 x27 x28 x29
      have HIA := Aside0.mk hma
      have HIB := Aside0.mk hmb
      have HB3 := Aside0.mk (below_then HB1.out HB1.out.size hbl)
      have BK3 := Aside0.mk (blk_below BK1.out hbl)
      have BK03 := Aside0.mk (blk_below BK0.out hbl)
      clear hma hmb hbs x0 x1 y0 y1 hlt1 hlt0
      obtain ⟨w3, hw3⟩ : ∃ w3, w3 = w1_ := ⟨_, rfl⟩
      rw [← hw3] at HIA HIB HB3 BK3 BK03 ⊢
      clear hw3 hbl
      have hlt1 : w.heap.size + 1 < w3.heap.size := blk_lt BK3.out
      have hlt0 : w.heap.size < w3.heap.size := by omega
      have x1 : w3.cell? ⟨w.heap.size, 1, none⟩ = some (.slice A0_1 l0_1.length c0_1) := (blk_cell BK03.out 1).trans rfl
      have y1 : w3.cell? ⟨w.heap.size + 1, 1, none⟩ = some (.slice A1_1 l1_1.length c1_1) := (blk_cell BK3.out 1).trans rfl
      go_wp2_with fail
      go_loopw [4, 6, 33] (fun v4 v6 v33 wr => ∃ k : Nat, v33 = .int .i64 k ∧ k ≤ l1_1.length ∧ Aside0 (DiffInv w3 v4 v6 (moreD l0_1 (l1_1.take k)) (otherD l0_1 (l1_1.take k)) wr)) (fun _ _ v33 _ => l1_1.length - (intOf v33).toNat)
      case atStart => exact ⟨0, rfl, by omega, ⟨Kd.R_nil _ _ _ _ _, Kd.R_nil _ _ _ _ _, NEv_nil _, NEv_nil _, Below.refl _ _⟩⟩
      case round =>
        obtain ⟨k, rfl, hk, HI⟩ := hrel
        have HB := Aside0.mk HI.out.bel
        have HBW := Aside0.mk (below_then HB3.out HB3.out.size HB.out)
        by_cases hlt : k < l1_1.length
        · obtain ⟨ad, e1, q0, q1⟩ := at_T36 (Kd.C_below HR1.out HBW.out) (k : Int) (by omega) (by omega)
          simp only [Int.toNat_natCast] at q0 q1
          have hrd : rd_T36 l1_1 (k : Int) = l1_1[k] := by simp [rd_T36, List.getElem?_eq_getElem hlt]
          rw [hrd] at q0 q1
          obtain ⟨d, hd⟩ : ∃ d, d = l1_1[k] := ⟨_, rfl⟩
          rw [← hd] at q0 q1
          have HS : Aside0 (l1_1.take (k + 1) = l1_1.take k ++ [d]) := ⟨by rw [List.take_succ_eq_append_getElem hlt, hd]⟩
          have HIN : Aside0 (d ∈ l1_1) := ⟨by rw [hd]; exact List.getElem_mem hlt⟩
          have HW := Aside0.mk (even_wf d (HEV.out.2.2.2.2 d (by first | exact .inl HIN.out | exact .inr HIN.out)))
          have HKEY := Aside0.mk (Go.Maps.keyOf_int_mk Try.underlying3 HW.out.1)
          have HRD := Aside0.mk (mapD_reads l0_1 d.f0)
          have HIWr := Aside0.mk (HIA.out.below HB.out)
          have b1 : decide ((k : Int) < (l1_1.length : Int)) = true := decide_eq_true (by omega)
          have b1' : decide (k < l1_1.length) = true := decide_eq_true hlt
          clear hrd hd
          subst e1
          have HLM : Aside0 ((moreD l0_1 (l1_1.take k)).length ≤ 32 ∧ (otherD l0_1 (l1_1.take k)).length ≤ 32) := ⟨by
            have h1 := HEV.out.2.1
            have h2 := moreD_len l0_1 (l1_1.take k)
            rw [List.length_take] at h2
            omega⟩
          cases hg : (wOf l0_1 d.f0).2 with
          | false =>
            have HG := Aside0.mk hg
            have HM : Aside0 (moreD l0_1 (l1_1.take (k + 1)) = moreD l0_1 (l1_1.take k) ++ [d.f0] ∧ otherD l0_1 (l1_1.take (k + 1)) = otherD l0_1 (l1_1.take k)) := ⟨by rw [HS.out, moreD_snoc, otherD_snoc, hg]; simp⟩
            clear hg
            go_wp2_with (first | (at_lookup; refine wpList_lookup_own_ok_int _ rfl _ _ 69 rfl 3 3 .i64 law_id Try.underlying69 Try.underlying3 (zero_id _) _ _ _ rfl (World.ownsMap.alloc HIWr.out _) _ _ rfl HKEY.out ?_; intro c hat hwc; rw [HRD.out.2.2, HG.out]; obtain rfl : (wOf l0_1 d.f0).1 = c := (by have := HRD.out.2.1.symm.trans hat; injection this with this; injection this); clear hat hwc) | ((with_reducible refine gate_builtin (b := .append) (xs := #[.tmp 47, .tmp 50]) rfl ?_); at_builtin; refine Kd.R_append_rows (Kd.int .i64) (w0 := w3) w3.heap.size rfl (.tmp 47) (.tmp 50) 39 3 (.int .i64 0) 8 rfl Try.underlying39 info3 rfl (by decide) (by omega) _ (moreD l0_1 (l1_1.take k)) [d.f0] _ _ _ (fun _ => True) (fun _ => False) rfl rfl (Kd.R_alloc (Kd.R_alloc HI.out.r4 _) _) (C_ints (k := .i64) (heap_new2 _ _ _) (by simp) rfl) (fun _ _ h => h) (fun _ h => h.elim) (fun _ _ => trivial) (below_alloc (below_alloc HB.out _) _) (by simp; have := HB.out.size; omega) (by have := HLM.out.1; omega) ?_; intro vn wn hon hbn hgn hatn; have HON := Aside0.mk hon; have HBN := Aside0.mk hbn; have HGN := Aside0.mk hgn; have HATN := Aside0.mk hatn; clear hon hbn hgn hatn) | fail)
            go_roundw
            case rel => exact ⟨k + 1, by go_num, by omega, ⟨by rw [HM.out.1]; exact HON.out, by rw [HM.out.2]; exact Kd.R_grown2 (Kd.R_alloc (Kd.R_alloc HI.out.r6 _) _) rfl HGN.out HI.out.n46, NEv_after HI.out.n46 HATN.out (fun q hq => by have := Kd.R_lt HI.out.r6 q hq; simp; omega), (NEv_after HI.out.n46 HATN.out (fun q hq => by have := Kd.R_lt HI.out.r6 q hq; simp; omega)).symm, HBN.out⟩⟩
            case measure => simp [intOf]; omega
          | true =>
            have HG := Aside0.mk hg
            by_cases hw : (wOf l0_1 d.f0).1 = d.f1
            · have HM : Aside0 (moreD l0_1 (l1_1.take (k + 1)) = moreD l0_1 (l1_1.take k) ∧ otherD l0_1 (l1_1.take (k + 1)) = otherD l0_1 (l1_1.take k)) := ⟨by rw [HS.out, moreD_snoc, otherD_snoc, hg, hw]; simp⟩
              have hne : ((wOf l0_1 d.f0).1 == d.f1) = true := by simpa using hw
              have hne' : ((wOf l0_1 d.f0).1 != d.f1) = false := by simpa using hw
              clear hg hw
              go_wp2_with (first | (at_lookup; refine wpList_lookup_own_ok_int _ rfl _ _ 69 rfl 3 3 .i64 law_id Try.underlying69 Try.underlying3 (zero_id _) _ _ _ rfl (World.ownsMap.alloc HIWr.out _) _ _ rfl HKEY.out ?_; intro c hat hwc; rw [HRD.out.2.2, HG.out]; obtain rfl : (wOf l0_1 d.f0).1 = c := (by have := HRD.out.2.1.symm.trans hat; injection this with this; injection this); clear hat hwc) | fail)
              go_roundw
              case rel => exact ⟨k + 1, by go_num, by omega, ⟨by rw [HM.out.1]; exact Kd.R_alloc HI.out.r4 _, by rw [HM.out.2]; exact Kd.R_alloc HI.out.r6 _, HI.out.n46, HI.out.n64, below_alloc HB.out _⟩⟩
              case measure => simp [intOf]; omega
            · have HM : Aside0 (moreD l0_1 (l1_1.take (k + 1)) = moreD l0_1 (l1_1.take k) ∧ otherD l0_1 (l1_1.take (k + 1)) = otherD l0_1 (l1_1.take k) ++ [d.f0]) := ⟨by rw [HS.out, moreD_snoc, otherD_snoc, hg]; simp [hw]⟩
              have hne : ((wOf l0_1 d.f0).1 == d.f1) = false := by simpa using hw
              have hne' : ((wOf l0_1 d.f0).1 != d.f1) = true := by simpa using hw
              clear hg hw
              go_wp2_with (first | (at_lookup; refine wpList_lookup_own_ok_int _ rfl _ _ 69 rfl 3 3 .i64 law_id Try.underlying69 Try.underlying3 (zero_id _) _ _ _ rfl (World.ownsMap.alloc HIWr.out _) _ _ rfl HKEY.out ?_; intro c hat hwc; rw [HRD.out.2.2, HG.out]; obtain rfl : (wOf l0_1 d.f0).1 = c := (by have := HRD.out.2.1.symm.trans hat; injection this with this; injection this); clear hat hwc) | ((with_reducible refine gate_builtin (b := .append) (xs := #[.tmp 57, .tmp 60]) rfl ?_); at_builtin; refine Kd.R_append_rows (Kd.int .i64) (w0 := w3) w3.heap.size rfl (.tmp 57) (.tmp 60) 39 3 (.int .i64 0) 8 rfl Try.underlying39 info3 rfl (by decide) (by omega) _ (otherD l0_1 (l1_1.take k)) [d.f0] _ _ _ (fun _ => True) (fun _ => False) rfl rfl (Kd.R_alloc (Kd.R_alloc HI.out.r6 _) _) (C_ints (k := .i64) (heap_new2 _ _ _) (by simp) rfl) (fun _ _ h => h) (fun _ h => h.elim) (fun _ _ => trivial) (below_alloc (below_alloc HB.out _) _) (by simp; have := HB.out.size; omega) (by have := HLM.out.2; omega) ?_; intro vn wn hon hbn hgn hatn; have HON := Aside0.mk hon; have HBN := Aside0.mk hbn; have HGN := Aside0.mk hgn; have HATN := Aside0.mk hatn; clear hon hbn hgn hatn) | fail)
              go_roundw
              case rel => exact ⟨k + 1, by go_num, by omega, ⟨by rw [HM.out.1]; exact Kd.R_grown2 (Kd.R_alloc (Kd.R_alloc HI.out.r4 _) _) rfl HGN.out HI.out.n64, by rw [HM.out.2]; exact HON.out, (NEv_after HI.out.n64 HATN.out (fun q hq => by have := Kd.R_lt HI.out.r4 q hq; simp; omega)).symm, NEv_after HI.out.n64 HATN.out (fun q hq => by have := Kd.R_lt HI.out.r4 q hq; simp; omega), HBN.out⟩⟩
              case measure => simp [intOf]; omega
        · have b1 : decide ((k : Int) < (l1_1.length : Int)) = false := decide_eq_false (by omega)
          have b1' : decide (k < l1_1.length) = false := decide_eq_false hlt
          have HJ : Aside0 (DiffInv w3 u4 u6 (moreD l0_1 l1_1) (otherD l0_1 l1_1) wr) := ⟨by have := HI.out; rwa [List.take_of_length_le (by omega)] at this⟩
          clear HI hk hlt
          have z1 : wr.cell? ⟨w.heap.size, 1, none⟩ = some (.slice A0_1 l0_1.length c0_1) := (HB.out.cell (p := ⟨w.heap.size, 1, none⟩) hlt0).trans x1
          go_wp2_with fail
          obtain ⟨wm, hwm⟩ : ∃ wm, wm = wr := ⟨_, rfl⟩
          rw [← hwm] at HJ HB HBW z1 ⊢
          clear hwm
          go_loopw [5, 66] (fun v5 v66 wz => ∃ k : Nat, v66 = .int .i64 k ∧ k ≤ l0_1.length ∧ Aside0 (Diff2 w3 u4 u6 v5 (moreD l0_1 l1_1) (otherD l0_1 l1_1) (moreD l1_1 (l0_1.take k)) wz)) (fun _ v66 _ => l0_1.length - (intOf v66).toNat)
          case atStart => exact ⟨0, rfl, by omega, ⟨HJ.out, Kd.R_nil _ _ _ _ _, NEv_nil _, NEv_nil _⟩⟩
          case round =>
            obtain ⟨k, rfl, hk, HI⟩ := hrel
            have HBY := Aside0.mk HI.out.d.bel
            have HBX := Aside0.mk (below_then HB3.out HB3.out.size HBY.out)
            by_cases hlt : k < l0_1.length
            · obtain ⟨ad, e1, q0, q1⟩ := at_T36 (Kd.C_below HR.out HBX.out) (k : Int) (by omega) (by omega)
              simp only [Int.toNat_natCast] at q0 q1
              have hrd : rd_T36 l0_1 (k : Int) = l0_1[k] := by simp [rd_T36, List.getElem?_eq_getElem hlt]
              rw [hrd] at q0 q1
              obtain ⟨d, hd⟩ : ∃ d, d = l0_1[k] := ⟨_, rfl⟩
              rw [← hd] at q0 q1
              have HS : Aside0 (l0_1.take (k + 1) = l0_1.take k ++ [d]) := ⟨by rw [List.take_succ_eq_append_getElem hlt, hd]⟩
              have HIN : Aside0 (d ∈ l0_1) := ⟨by rw [hd]; exact List.getElem_mem hlt⟩
              have HW := Aside0.mk (even_wf d (HEV.out.2.2.2.2 d (by first | exact .inl HIN.out | exact .inr HIN.out)))
              have HKEY := Aside0.mk (Go.Maps.keyOf_int_mk Try.underlying3 HW.out.1)
              have HRD := Aside0.mk (mapD_reads l1_1 d.f0)
              have HIWr := Aside0.mk (HIB.out.below HBY.out)
              have b1 : decide ((k : Int) < (l0_1.length : Int)) = true := decide_eq_true (by omega)
              have b1' : decide (k < l0_1.length) = true := decide_eq_true hlt
              clear hrd hd
              subst e1
              have HLM : Aside0 ((moreD l1_1 (l0_1.take k)).length ≤ 32) := ⟨by
                have h1 := HEV.out.1
                have h2 := (moreD_len l1_1 (l0_1.take k)).1
                rw [List.length_take] at h2
                omega⟩
              cases hg : (wOf l1_1 d.f0).2 with
              | false =>
                have HG := Aside0.mk hg
                have HM : Aside0 (moreD l1_1 (l0_1.take (k + 1)) = moreD l1_1 (l0_1.take k) ++ [d.f0]) := ⟨by rw [HS.out, moreD_snoc, hg]; simp⟩
                clear hg
                go_wp2_with (first | (at_lookup; refine wpList_lookup_own_ok_int _ rfl _ _ 69 rfl 3 3 .i64 law_id Try.underlying69 Try.underlying3 (zero_id _) _ _ _ rfl (World.ownsMap.alloc HIWr.out _) _ _ rfl HKEY.out ?_; intro c hat hwc; rw [HRD.out.2.2, HG.out]; obtain rfl : (wOf l1_1 d.f0).1 = c := (by have := HRD.out.2.1.symm.trans hat; injection this with this; injection this); clear hat hwc) | ((with_reducible refine gate_builtin (b := .append) (xs := #[.tmp 79, .tmp 82]) rfl ?_); at_builtin; refine Kd.R_append_rows (Kd.int .i64) (w0 := w3) w3.heap.size rfl (.tmp 79) (.tmp 82) 39 3 (.int .i64 0) 8 rfl Try.underlying39 info3 rfl (by decide) (by omega) _ (moreD l1_1 (l0_1.take k)) [d.f0] _ _ _ (fun _ => True) (fun _ => False) rfl rfl (Kd.R_alloc (Kd.R_alloc HI.out.r5 _) _) (C_ints (k := .i64) (heap_new2 _ _ _) (by simp) rfl) (fun _ _ h => h) (fun _ h => h.elim) (fun _ _ => trivial) (below_alloc (below_alloc HBY.out _) _) (by simp; have := HBY.out.size; omega) (by have := HLM.out; omega) ?_; intro vn wn hon hbn hgn hatn; have HON := Aside0.mk hon; have HBN := Aside0.mk hbn; have HGN := Aside0.mk hgn; have HATN := Aside0.mk hatn; clear hon hbn hgn hatn) | fail)
                go_roundw
                case rel =>
                  have n4 : NEv vn u4 := NEv_after HI.out.n54 HATN.out (fun q hq => by have := Kd.R_lt HI.out.d.r4 q hq; simp; omega)
                  have n6 : NEv vn u6 := NEv_after HI.out.n56 HATN.out (fun q hq => by have := Kd.R_lt HI.out.d.r6 q hq; simp; omega)
                  exact ⟨k + 1, by go_num, by omega, ⟨⟨Kd.R_grown2 (Kd.R_alloc (Kd.R_alloc HI.out.d.r4 _) _) rfl HGN.out HI.out.n54, Kd.R_grown2 (Kd.R_alloc (Kd.R_alloc HI.out.d.r6 _) _) rfl HGN.out HI.out.n56, HI.out.d.n46, HI.out.d.n64, HBN.out⟩, by rw [HM.out]; exact HON.out, n4, n6⟩⟩
                case measure => simp [intOf]; omega
              | true =>
                have HG := Aside0.mk hg
                have HM : Aside0 (moreD l1_1 (l0_1.take (k + 1)) = moreD l1_1 (l0_1.take k)) := ⟨by rw [HS.out, moreD_snoc, hg]; simp⟩
                clear hg
                go_wp2_with (first | (at_lookup; refine wpList_lookup_own_ok_int _ rfl _ _ 69 rfl 3 3 .i64 law_id Try.underlying69 Try.underlying3 (zero_id _) _ _ _ rfl (World.ownsMap.alloc HIWr.out _) _ _ rfl HKEY.out ?_; intro c hat hwc; rw [HRD.out.2.2, HG.out]; obtain rfl : (wOf l1_1 d.f0).1 = c := (by have := HRD.out.2.1.symm.trans hat; injection this with this; injection this); clear hat hwc) | fail)
                go_roundw
                case rel => exact ⟨k + 1, by go_num, by omega, ⟨⟨Kd.R_alloc HI.out.d.r4 _, Kd.R_alloc HI.out.d.r6 _, HI.out.d.n46, HI.out.d.n64, below_alloc HBY.out _⟩, by rw [HM.out]; exact Kd.R_alloc HI.out.r5 _, HI.out.n54, HI.out.n56⟩⟩
                case measure => simp [intOf]; omega
            · have b1 : decide ((k : Int) < (l0_1.length : Int)) = false := decide_eq_false (by omega)
              have b1' : decide (k < l0_1.length) = false := decide_eq_false hlt
              have HK : Aside0 (Diff2 w3 u4 u6 u5 (moreD l0_1 l1_1) (otherD l0_1 l1_1) (moreD l1_1 l0_1) wr) := ⟨by have := HI.out; rwa [List.take_of_length_le (by omega)] at this⟩
              clear HI hk hlt
              go_wp2
              refine bodyPost_ret (results_list (rs := [.tmp 4, .tmp 5, .tmp 6, .tmp 7]) rfl (by simp) (.tmp (.tmp (.tmp (.tmp .nil))))) rfl ?_
              exact ⟨_, _, _, rfl, Kd.R_lower (Kd.R_reok rfl HK.out.d.r4 (fun q hq => ⟨HK.out.n54.symm q hq, HK.out.d.n46 q hq⟩)) HB3.out.size, Kd.R_lower (Kd.R_reok rfl HK.out.r5 (fun q hq => ⟨HK.out.n54 q hq, HK.out.n56 q hq⟩)) HB3.out.size, Kd.R_lower (Kd.R_reok rfl HK.out.d.r6 (fun q hq => ⟨HK.out.d.n64 q hq, HK.out.n56.symm q hq⟩)) HB3.out.size, HBX.out⟩
  · obtain ⟨⟨⟩⟩ : Aside0 ((([] : List Int), ([] : List Int), ([] : List Int), E) = (r1, r2, r3, r4)) := ⟨by have := HH.out; unfold diffS at this; rw [← hE, if_pos h0] at this; exact this⟩
    have hne : (r4 == 0) = false := by simpa using h0
    clear HH hE
    go_enter Try.func15, Try.ntmps15
    go_wp2_with fail
    go_at_call 28
    refine calls_of_args (args' := #[.slice (some ⟨w.heap.size + 2, 0, none⟩) [(⟨a0_0, l0_1⟩ : S24), ⟨a1_0, l1_1⟩].length 2]) (by simp) ?_
    with_reducible refine (resolve_checks.calls 3 (some ⟨w.heap.size + 2, 0, none⟩) 2 [(⟨a0_0, l0_1⟩ : S24), ⟨a1_0, l1_1⟩] r4 _ ?hr (Nat.le_refl _) HCF.out).mono ?_
    case hr => exact C_cells (heap_new3 w _ _ _) (by simp) (Reps.c2 (k24_mk _ ⟨a0_0, l0_1⟩ HC.out (Kd.C_alloc (Kd.C_alloc (Kd.C_alloc HR.out _) _) _)) (Reps.c2 (k24_mk _ ⟨a1_0, l1_1⟩ HC1.out (Kd.C_alloc (Kd.C_alloc (Kd.C_alloc HR1.out _) _) _)) (Reps.none _ _)))
    rintro e w1 ⟨rfl, hb⟩
    have HB1 := Aside0.mk (below_then (below_alloc (below_alloc (below_alloc (Below.refl _ _) _) _) _) (by simp; omega) hb)
    clear hb
    go_wp2
    refine bodyPost_ret (results_list (rs := [.tmp 4, .tmp 5, .tmp 6, .tmp 7]) rfl (by simp) (.tmp (.tmp (.tmp (.tmp .nil))))) rfl ?_
    exact ⟨_, _, _, rfl, Kd.R_nil _ _ _ _ _, Kd.R_nil _ _ _ _ _, Kd.R_nil _ _ _ _ _, HB1.out⟩

end Go.Proofs.Ytaidadofkbagkaa.G
