-- Made by wip/tools/xprint.py (over the kit's print program) for this claim.
import Derived.Test.YtaidadofkbagkaaGx0
import Derived.Test.YtaidadofkbagkaaGx2
namespace Go.Proofs.Ytaidadofkbagkaa.G
open WB Go.RowKit Go.Proofs.YtaidadofkbagkaaW.PrintWords Go.Proofs.YtaidadofkbagkaaW.PrintLast Go.Proofs.YtaidadofkbagkaaW.PrintMore
attribute [local go_sem] max2_int min2_int max_two min_two max_three min_three max_four min_four   -- for this text's walks alone
set_option linter.unusedVariables false
set_option linter.unusedSimpArgs false

/-! ### resolve_checks: function 28 -/
def resolve_checks.l0 : Nat → List (S24) → Int → Int → Option (Int)
  | 0, _, _, _ => none
  | k + 1, x6, x7, x8 => if x8 < x7 then (if 0 ≤ x8 then (if x8 < (x6.length : Int) then ((resolve_Check.f ((rd_T24 x6 x8).f0) ((rd_T24 x6 x8).f1)).bind fun t106 => (if t106 = 0 then (resolve_checks.l0 k x6 x7 (wrap64 (x8 + 1))) else (some t106))) else (none)) else (none)) else (some 0)
def resolve_checks.f (k : Nat) (l0 : List (S24)) : Option (Int) := resolve_checks.l0 k l0 (l0.length : Int) 0
theorem resolve_checks.mono_l : ∀ k, (∀ y0 y1 y2, LeO (resolve_checks.l0 k y0 y1 y2) (resolve_checks.l0 (k + 1) y0 y1 y2))
  | 0 => fun _ _ _ r h => by simp [resolve_checks.l0] at h
  | k + 1 => by
    have ih0 := resolve_checks.mono_l k
    · intro y0 y1 y2
      unfold resolve_checks.l0
      repeat' first
      | (with_reducible exact ih0 _ _ _)
      | (with_reducible exact LeO.refl _)
      | (with_reducible exact LeO.none _)
      | (with_reducible refine LeO.ite ?_ ?_)
      | (with_reducible refine LeO.bind ?_ (fun _ => ?_))
      | exact ih0 _ _ _
      | exact LeO.none _
      | refine LeO.ite ?_ ?_
      | refine LeO.bind ?_ (fun _ => ?_)
theorem resolve_checks.mono : ∀ a0 k, LeO (resolve_checks.f k a0) (resolve_checks.f (k + 1) a0) := by
  intro a0 k
  have ih0 := resolve_checks.mono_l k
  unfold resolve_checks.f
  repeat' first
      | (with_reducible exact ih0 _ _ _)
      | (with_reducible exact LeO.refl _)
      | (with_reducible exact LeO.none _)
      | (with_reducible refine LeO.ite ?_ ?_)
      | (with_reducible refine LeO.bind ?_ (fun _ => ?_))
      | exact ih0 _ _ _
      | exact LeO.none _
      | refine LeO.ite ?_ ?_
      | refine LeO.bind ?_ (fun _ => ?_)
set_option maxHeartbeats 8000000 in
set_option maxRecDepth 100000 in
theorem resolve_checks.calls (k : Nat) (A0 : Option Addr) (c0 : Nat) (l0 : List (S24)) (r : Int) (w : World) (hr0 : Kd.C k24 w A0 l0.length l0) (hc0 : l0.length ≤ c0) (h : resolve_checks.f k l0 = some r) :
    Calls Try.prog 28 #[.slice A0 l0.length c0] w fun e w' => e = .returned (.int .i64 r) ∧ Below w.heap.size w w' := by
  have hu24 := Try.underlying24
  have HR0 := Aside0.mk hr0
  have HC0 := Aside0.mk hc0
  clear hr0 hc0
  have HB := Aside0.mk (Below.refl w.heap.size w)
  have H : (resolve_checks.l0 k l0 (l0.length : Int) 0) = some r := h
  clear h
  have H' := Aside0.mk H
  clear H
  go_enter Try.func28, Try.ntmps28
  go_wp2
  go_loopg [8] k (fun kq v8 w' => ∃ (x8_1 : Int), v8 = .int .i64 x8_1 ∧ Aside0 (resolve_checks.l0 kq l0 (l0.length : Int) x8_1 = some r) ∧ Aside0 (kq ≤ k) ∧ Aside0 (Below w.heap.size w w'))
  case atStart => exact ⟨(0), (by first | rfl | (simp; done) | (simp [*]; done)), H', ⟨Nat.le_refl _⟩, ⟨by repeat (first | (with_reducible first | exact HB.out | apply below_alloc | apply pw_below_drewN | apply below_drew1) | exact HB.out)⟩⟩
  case round =>
    clear H'
    obtain ⟨x8_1, rfl, HA, HK1, HB⟩ := hrel
    cases gk with
    | zero => exact absurd HA.out (by simp [resolve_checks.l0])
    | succ k1 =>
      have H := HA.out
      clear HA
      simp only [resolve_checks.l0] at H
      by_cases c2 : x8_1 < (l0.length : Int)
      · rw [if_pos c2] at H
        have c2b0 : decide (x8_1 < (l0.length : Int)) = true := decide_eq_true c2
        clear c2
        by_cases c3 : 0 ≤ x8_1
        · rw [if_pos c3] at H
          have c3b0 : decide (0 ≤ x8_1) = true := decide_eq_true c3
          clear c3
          by_cases c4 : x8_1 < (l0.length : Int)
          · rw [if_pos c4] at H
            have c4b0 : decide (x8_1 < (l0.length : Int)) = true := decide_eq_true c4
            clear c4
            replace H := Option.bind_eq_some_iff.mp H
            obtain ⟨t106, A50, H⟩ := H
            replace H : (if t106 = 0 then (resolve_checks.l0 k1 l0 (l0.length : Int) (wrap64 (x8_1 + 1))) else (some t106)) = some r := H
            have A5 := Aside0.mk A50
            clear A50
            by_cases c6 : t106 = 0
            · rw [if_pos c6] at H
              have c6b0 : (t106 == 0) = true := beq_iff_eq.mpr c6
              have c6b1 : (t106 != 0) = false := bne_eq_false_iff_eq.mpr c6
              clear c6
              have H' := Aside0.mk H
              clear H
              have p104 : 0 ≤ (x8_1 : Int) := of_decide_eq_true (by first | (with_reducible assumption) | assumption)
              have q104 : x8_1 < (l0.length : Int) := of_decide_eq_true (by first | (with_reducible assumption) | assumption)
              obtain ⟨ad104, A104_1, c104_1, e104, hx104_0, hx104_1, hl104_1, hi104_1⟩ := at_T24 HR0.out x8_1 p104 q104
              cases e104
              replace hx104_0 := (HB.out.cell (World.block_lt_of_cell? w _ hx104_0)).trans hx104_0
              replace hx104_1 := (HB.out.cell (World.block_lt_of_cell? w _ hx104_1)).trans hx104_1
              have HR104_1 := Aside0.mk hi104_1
              have HC104_1 := Aside0.mk hl104_1
              clear hi104_1 hl104_1
              replace p104 := eq_true p104
              replace q104 := eq_true q104
              go_wp2_with (first | ((with_reducible refine gate_dst (N := 4) rfl ?_); refine box_event ?hg (N := 4) ?hd (cs := #[.int .i64 0, .slice none 0 0]) (t := 24) ?hr ?_; (case hd => rfl); (case hg => rfl); (case hr => first | (go_simp; done) | (go_simp; rfl)); intro gb105 hg w7 hbox hb; have n0_ := Aside0.mk (below_step (by repeat (first | (with_reducible first | exact HB.out | apply below_alloc | apply pw_below_drewN | apply below_drew1) | exact HB.out)) hb); have n1_ := Aside0.mk (hbox); have n2_ := Aside0.mk ((by rw [hg]; exact (below_size (by repeat (first | (with_reducible first | exact HB.out | apply below_alloc | apply pw_below_drewN | apply below_drew1) | exact HB.out))) : w.heap.size ≤ gb105)); have n3_ := Aside0.mk ((by rw [hg]; exact (below_size (by repeat (first | (with_reducible first | exact HB.out | apply below_alloc | apply pw_below_drewN | apply below_drew1) | exact HB.out))) : w.heap.size ≤ gb105)); clear HB; have HB := n0_; have BK105 := n1_; have GW105 := n2_; have GE105 := n3_; clear n0_ n1_ n2_ n3_; clear hb hbox hg; have hcz8_0 : w7.cell? ⟨gb105, 0, none⟩ = some (.int .i64 0) := (blk_cell BK105.out 0).trans rfl; have hcz8_1 : w7.cell? ⟨gb105, 1, none⟩ = some (.slice none 0 0) := (blk_cell BK105.out 1).trans rfl; have hfz8_0 := blk_frozen BK105.out 0; have hfz8_1 := blk_frozen BK105.out 1) | ((with_reducible refine gate_callee (f := 25) rfl ?_); refine goesL_ (some 13) rfl rfl Try.func25 (by kernel_rfl) rfl #[.agg #[.int .i64 ((rd_T24 l0 x8_1).f0), .slice A104_1 ((rd_T24 l0 x8_1).f1).length c104_1]] rfl (by (try simp only [List.map_toArray, List.map_cons, List.map_nil]); first | done | rfl | (simp only [List.length_drop, List.length_take]; rfl)) ?_; (with_reducible refine (resolve_Check.calls ((rd_T24 l0 x8_1).f0) _ _ ((rd_T24 l0 x8_1).f1) t106 _ ?side1 ?side2 A5.out).mono ?_); (case side1 => exact Kd.C_below HR104_1.out (by repeat (first | (with_reducible first | exact HB.out | apply below_alloc | apply pw_below_drewN | apply below_drew1 | refine below_set ?_ GE105.out) | exact HB.out))); (case side2 => exact HC104_1.out); rintro e w9 ⟨rfl, hb⟩; refine ⟨_, rfl, ?_⟩; have n0_ := Aside0.mk (blk_below (g := gb105) (o := .cells #[.int .i64 ((rd_T24 l0 x8_1).f0), .slice A104_1 ((rd_T24 l0 x8_1).f1).length c104_1] 24 (0, 0)) (by (with_reducible repeat (first | refine blk_drewN ?_ _ | refine blk_drew ?_ | refine blk_alloc ?_ _)); refine blk_put (cs := #[.int .i64 ((rd_T24 l0 x8_1).f0), .slice none 0 0]) ?_ 1 _ rfl; (with_reducible repeat (first | refine blk_drewN ?_ _ | refine blk_drew ?_ | refine blk_alloc ?_ _)); refine blk_put (cs := #[.int .i64 0, .slice none 0 0]) ?_ 0 _ rfl; (with_reducible repeat (first | refine blk_drewN ?_ _ | refine blk_drew ?_ | refine blk_alloc ?_ _)); exact BK105.out) hb); have n1_ := Aside0.mk (below_step (by repeat (first | (with_reducible first | exact HB.out | apply below_alloc | apply pw_below_drewN | apply below_drew1 | refine below_set ?_ GE105.out) | exact HB.out)) hb); clear BK105; clear HB; have BK105 := n0_; have HB := n1_; clear n0_ n1_; (try clear hb); (try clear hb2); (try clear hk); (try clear hi)))
              go_roundg k1
              case measure => have := HK1.out; omega
              case rel => exact ⟨(wrap64 (x8_1 + 1)), (by first | rfl | (simp; done) | (simp [*]; done)), H', ⟨by have := HK1.out; omega⟩, ⟨by repeat (first | (with_reducible first | exact HB.out | apply below_alloc | apply pw_below_drewN | apply below_drew1 | refine below_set ?_ GE105.out) | exact HB.out)⟩⟩
            · rw [if_neg c6] at H
              have c6b0 : (t106 == 0) = false := beq_eq_false_iff_ne.mpr c6
              have c6b1 : (t106 != 0) = true := bne_iff_ne.mpr c6
              obtain rfl := Option.some.inj H
              simp only [Option.some.injEq, Prod.mk.injEq] at H
              obtain ⟨rfl⟩ := H
              have p104 : 0 ≤ (x8_1 : Int) := of_decide_eq_true (by first | (with_reducible assumption) | assumption)
              have q104 : x8_1 < (l0.length : Int) := of_decide_eq_true (by first | (with_reducible assumption) | assumption)
              obtain ⟨ad104, A104_1, c104_1, e104, hx104_0, hx104_1, hl104_1, hi104_1⟩ := at_T24 HR0.out x8_1 p104 q104
              cases e104
              replace hx104_0 := (HB.out.cell (World.block_lt_of_cell? w _ hx104_0)).trans hx104_0
              replace hx104_1 := (HB.out.cell (World.block_lt_of_cell? w _ hx104_1)).trans hx104_1
              have HR104_1 := Aside0.mk hi104_1
              have HC104_1 := Aside0.mk hl104_1
              clear hi104_1 hl104_1
              replace p104 := eq_true p104
              replace q104 := eq_true q104
              go_wp2_with (first | ((with_reducible refine gate_dst (N := 4) rfl ?_); refine box_event ?hg (N := 4) ?hd (cs := #[.int .i64 0, .slice none 0 0]) (t := 24) ?hr ?_; (case hd => rfl); (case hg => rfl); (case hr => first | (go_simp; done) | (go_simp; rfl)); intro gb105 hg w10 hbox hb; have n0_ := Aside0.mk (below_step (by repeat (first | (with_reducible first | exact HB.out | apply below_alloc | apply pw_below_drewN | apply below_drew1) | exact HB.out)) hb); have n1_ := Aside0.mk (hbox); have n2_ := Aside0.mk ((by rw [hg]; exact (below_size (by repeat (first | (with_reducible first | exact HB.out | apply below_alloc | apply pw_below_drewN | apply below_drew1) | exact HB.out))) : w.heap.size ≤ gb105)); have n3_ := Aside0.mk ((by rw [hg]; exact (below_size (by repeat (first | (with_reducible first | exact HB.out | apply below_alloc | apply pw_below_drewN | apply below_drew1) | exact HB.out))) : w.heap.size ≤ gb105)); clear HB; have HB := n0_; have BK105 := n1_; have GW105 := n2_; have GE105 := n3_; clear n0_ n1_ n2_ n3_; clear hb hbox hg; have hcz11_0 : w10.cell? ⟨gb105, 0, none⟩ = some (.int .i64 0) := (blk_cell BK105.out 0).trans rfl; have hcz11_1 : w10.cell? ⟨gb105, 1, none⟩ = some (.slice none 0 0) := (blk_cell BK105.out 1).trans rfl; have hfz11_0 := blk_frozen BK105.out 0; have hfz11_1 := blk_frozen BK105.out 1) | ((with_reducible refine gate_callee (f := 25) rfl ?_); refine goesL_ (some 13) rfl rfl Try.func25 (by kernel_rfl) rfl #[.agg #[.int .i64 ((rd_T24 l0 x8_1).f0), .slice A104_1 ((rd_T24 l0 x8_1).f1).length c104_1]] rfl (by (try simp only [List.map_toArray, List.map_cons, List.map_nil]); first | done | rfl | (simp only [List.length_drop, List.length_take]; rfl)) ?_; (with_reducible refine (resolve_Check.calls ((rd_T24 l0 x8_1).f0) _ _ ((rd_T24 l0 x8_1).f1) t106 _ ?side1 ?side2 A5.out).mono ?_); (case side1 => exact Kd.C_below HR104_1.out (by repeat (first | (with_reducible first | exact HB.out | apply below_alloc | apply pw_below_drewN | apply below_drew1 | refine below_set ?_ GE105.out) | exact HB.out))); (case side2 => exact HC104_1.out); rintro e w12 ⟨rfl, hb⟩; refine ⟨_, rfl, ?_⟩; have n0_ := Aside0.mk (blk_below (g := gb105) (o := .cells #[.int .i64 ((rd_T24 l0 x8_1).f0), .slice A104_1 ((rd_T24 l0 x8_1).f1).length c104_1] 24 (0, 0)) (by (with_reducible repeat (first | refine blk_drewN ?_ _ | refine blk_drew ?_ | refine blk_alloc ?_ _)); refine blk_put (cs := #[.int .i64 ((rd_T24 l0 x8_1).f0), .slice none 0 0]) ?_ 1 _ rfl; (with_reducible repeat (first | refine blk_drewN ?_ _ | refine blk_drew ?_ | refine blk_alloc ?_ _)); refine blk_put (cs := #[.int .i64 0, .slice none 0 0]) ?_ 0 _ rfl; (with_reducible repeat (first | refine blk_drewN ?_ _ | refine blk_drew ?_ | refine blk_alloc ?_ _)); exact BK105.out) hb); have n1_ := Aside0.mk (below_step (by repeat (first | (with_reducible first | exact HB.out | apply below_alloc | apply pw_below_drewN | apply below_drew1 | refine below_set ?_ GE105.out) | exact HB.out)) hb); clear BK105; clear HB; have BK105 := n0_; have HB := n1_; clear n0_ n1_; (try clear hb); (try clear hb2); (try clear hk); (try clear hi)))
              go_ret
              exact ⟨by first | rfl | (simp [errW_none, errW_some] <;> rfl) | (simp [*, errW_none, errW_some] <;> rfl), by repeat (first | (with_reducible first | exact HB.out | apply below_alloc | apply pw_below_drewN | apply below_drew1 | refine below_set ?_ GE105.out) | exact HB.out)⟩
          · rw [if_neg c4] at H
            exact absurd H (by simp)
        · rw [if_neg c3] at H
          exact absurd H (by simp)
      · rw [if_neg c2] at H
        have c2b0 : decide (x8_1 < (l0.length : Int)) = false := decide_eq_false c2
        clear c2
        obtain rfl := Option.some.inj H
        simp only [Option.some.injEq, Prod.mk.injEq] at H
        obtain ⟨rfl⟩ := H
        go_wp2
        go_ret
        exact ⟨by first | rfl | (simp [errW_none, errW_some] <;> rfl) | (simp [*, errW_none, errW_some] <;> rfl), by repeat (first | (with_reducible first | exact HB.out | apply below_alloc | apply pw_below_drewN | apply below_drew1) | exact HB.out)⟩

/-! ### resolve_feed_take: function 29 -/
set_option maxHeartbeats 2000000 in
set_option maxRecDepth 100000 in
theorem feed_take (g : Nat) (v n x : Int) (A B : Option Addr) (a c b d : Nat) (w : World) (hg : w.heap[g]? = some (.cells #[.int .i64 v, .slice A a c, .int .i64 n] 66 (0, 0))) (hn : 0 ≤ n ∧ n < 9223372036854775807) :
    Calls Try.prog 29 #[.pointer (some ⟨g, 0, none⟩), .agg #[.int .i64 x, .slice B b d]] w fun e w' => e = .returned (.tuple #[]) ∧ w'.heap[g]? = some (.cells (if v < x then #[.int .i64 x, .slice B b d, .int .i64 (n + 1)] else #[.int .i64 v, .slice A a c, .int .i64 n]) 66 (0, 0)) ∧ w.grownBy w' (some g) := by
  have b0 := blk_cell hg 0
  have b1 := blk_cell hg 1
  have b2 := blk_cell hg 2
  have f0 := blk_frozen hg 0
  have f1 := blk_frozen hg 1
  have f2 := blk_frozen hg 2
  have hlt := blk_lt hg
  have HG := Aside0.mk hg
  simp at b0 b1 b2
  clear hg
  have HB := fun (o : Obj) => Aside0.mk (grown_of_below (below_alloc (Below.refl w.heap.size w) o) (some g))
  have HB' := Aside0.mk HB
  clear HB
  by_cases h : v < x
  · have t0 : decide (v < x) = true := decide_eq_true h
    have HE : Aside0 ((if v < x then #[.int .i64 x, .slice B b d, .int .i64 (n + 1)] else #[.int .i64 v, .slice A a c, .int .i64 n]) = (#[.int .i64 x, .slice B b d, .int .i64 (n + 1)] : Array Value)) := ⟨if_pos h⟩
    rw [HE.out]
    clear h HE
    go_enter Try.func29, Try.ntmps29
    go_wp2
    go_quiet (fail)
    go_wp2
    go_end0
    exact ⟨rfl, blk_put (cs := #[.int .i64 x, .slice B b d, .int .i64 n]) (blk_put (cs := #[.int .i64 x, .slice A a c, .int .i64 n]) (blk_put (cs := #[.int .i64 v, .slice A a c, .int .i64 n]) (blk_drewN (blk_alloc HG.out _) _) 0 _ rfl) 1 _ rfl) 2 _ rfl, grown_set (grown_set (grown_set (grown_drewN (HB'.out _).out _)))⟩
  · have t0 : decide (v < x) = false := decide_eq_false h
    have HE : Aside0 ((if v < x then #[.int .i64 x, .slice B b d, .int .i64 (n + 1)] else #[.int .i64 v, .slice A a c, .int .i64 n]) = (#[.int .i64 v, .slice A a c, .int .i64 n] : Array Value)) := ⟨if_neg h⟩
    rw [HE.out]
    clear h HE
    go_enter Try.func29, Try.ntmps29
    go_wp2
    go_quiet (fail)
    go_wp2
    go_end0
    exact ⟨rfl, blk_drewN (blk_alloc HG.out _) _, grown_drewN (HB'.out _).out _⟩

/-! ### api_Backend: function 30 -/
def api_Backend.f (l0 : List S36) : Option (List S36) := if l0.length < 8796093022208 then some l0 else none
set_option maxHeartbeats 1000000 in
set_option maxRecDepth 100000 in
theorem api_Backend.calls (A0 : Option Addr) (c0 : Nat) (l0 : List S36) (r : List S36) (w : World) (hr0 : Kd.C k36 w A0 l0.length l0) (hc0 : l0.length ≤ c0) (h : api_Backend.f l0 = some r) :
    Calls Try.prog 30 #[.slice A0 l0.length c0] w fun e w' => ∃ v0_ : Value, e = .returned (v0_) ∧ Kd.R k36 36 w' w.heap.size (fun _ => True) v0_ r ∧ Below w.heap.size w w' := by
  unfold api_Backend.f at h
  split at h
  case isFalse => cases h
  case isTrue hl =>
  obtain rfl := Option.some.inj h
  clear h
  have HR0 := Aside0.mk hr0
  have HC0 := Aside0.mk hc0
  have HL := Aside0.mk hl
  clear hr0 hc0 hl
  rcases A0 with _ | ad
  · have hn : l0 = [] := by
      rcases Nat.eq_zero_or_pos l0.length with h0 | h0
      · exact List.eq_nil_of_length_eq_zero h0
      · obtain ⟨ad, h1, _⟩ := HR0.out.2.2 h0
        cases h1
    subst hn
    have heq : ∀ (W : World) (n c : Nat), (binOp .eql 22 (.slice none n c) (.slice none 0 0)).run Try.prog W = .ok (.bool true) W := fun W n c => Lib.run_eql_slice_nil W _ 36 none n c 0 0 Try.underlying22
    go_enter Try.func30, Try.ntmps30
    go_wp2
    go_ret
    exact ⟨_, rfl, Kd.R_nil _ _ _ _ _, Below.refl _ _⟩
  · have heq : ∀ (W : World) (a : Addr) (n c : Nat), (binOp .eql 22 (.slice (some a) n c) (.slice none 0 0)).run Try.prog W = .ok (.bool false) W := fun W a n c => Lib.run_eql_slice_nil W _ 36 (some a) n c 0 0 Try.underlying22
    go_enter Try.func30, Try.ntmps30
    go_wp2_with (first | ((with_reducible refine gate_dst (N := 5) rfl ?_); refine Kd.R_lit k36 (w0 := w) w.heap.size 36 ?hg (N := 5) ?hd (xs := ([] : List S36)) (inner := []) (ok := fun _ => True) (okp := fun _ => True) ?hr (Reps.none _ _) (fun _ hk => hk) trivial (Below.refl _ _) (Nat.le_refl _) (by simp) ?_; (case hd => rfl); (case hg => rfl); (case hr => first | (go_simp; done) | (go_simp; rfl)); intro v1 w1 ho hb hg_ hnew_; clear hg_ hnew_; have HO := Aside0.mk ho; have HB1 := Aside0.mk hb; clear ho hb; obtain ⟨Ao, co, eo⟩ := Kd.R_slice HO.out; subst eo) | ((with_reducible refine gate_builtin (b := .append) (xs := #[.tmp 5, .tmp 6]) rfl ?_); at_builtin; refine Kd.R_append_rows k36 (w0 := w) w.heap.size rfl (.tmp 5) (.tmp 6) 22 36 (.agg #[.int .i64 0, .int .i64 0]) 16 rfl Try.underlying22 info36 rfl (by decide) (by omega) _ ([] : List S36) l0 _ _ _ (fun _ => True) (fun _ => False) rfl rfl HO.out (Kd.C_below HR0.out HB1.out) (fun _ _ h => h) (fun _ h => h.elim) (fun _ _ => trivial) HB1.out HB1.out.size (by have := HL.out; simp; omega) ?_; intro v2 w2 ho2 hb2 hg2 hat2; rw [List.nil_append] at ho2; have HO2 := Aside0.mk ho2; have HB2 := Aside0.mk hb2; clear ho2 hb2 hg2 hat2))
    go_ret
    exact ⟨_, rfl, HO2.out, HB2.out⟩

/-! ### resolve_Apply: function 10 -/
theorem checkS_f (v : Int) (l : List S36) : resolve_Check.f v l = some (checkS v l) := by
  unfold resolve_Check.f checkS ring_Check.f
  split
  · rfl
  · split <;> rfl
theorem checks_l : ∀ (d i : Nat) (ss : List S24), i + d = ss.length → ss.length ≤ 9223372036854775807 → resolve_checks.l0 (d + 1) ss (ss.length : Int) (i : Int) = some (checksS (ss.drop i))
  | 0, i, ss, h, hm => by
    rw [resolve_checks.l0, if_neg (by omega), List.drop_of_length_le (by omega)]
    rfl
  | d + 1, i, ss, h, hm => by
    have hi : i < ss.length := by omega
    rw [resolve_checks.l0, if_pos (by omega), if_pos (by omega), if_pos (by omega), checkS_f, Option.bind_some]
    have hr : rd_T24 ss (i : Int) = ss[i] := by simp [rd_T24, List.getElem?_eq_getElem hi]
    rw [hr, List.drop_eq_getElem_cons hi, checksS]
    by_cases h0 : checkS ss[i].f0 ss[i].f1 = 0
    · rw [if_pos h0, if_pos h0, show wrap64 ((i : Int) + 1) = ((i + 1 : Nat) : Int) by unfold wrap64; omega]
      exact checks_l d (i + 1) ss (by omega) hm
    · rw [if_neg h0, if_neg h0]
theorem checks_f (ss : List S24) (hm : ss.length ≤ 9223372036854775807) : resolve_checks.f (ss.length + 1) ss = some (checksS ss) := checks_l ss.length 0 ss (by omega) hm
theorem or_f (a b : Int) : api_Errno.f 3 [a, b] = some (if a = 0 then b else a) := by
  unfold api_Errno.f
  rw [api_Errno.l0, if_pos (by simp), if_pos (by simp), if_pos (by simp)]
  have e0 : rd [a, b] 0 = a := rfl
  have w1 : wrap64 (0 + 1) = 1 := by unfold wrap64; rfl
  have e1 : rd [a, b] (wrap64 (0 + 1)) = b := by rw [w1]; rfl
  have w2 : wrap64 (1 + 1) = 2 := by unfold wrap64; rfl
  rw [e0]
  by_cases ha : a = 0
  · rw [if_pos ha, if_pos ha, api_Errno.l0, e1, w1, if_pos (by simp), if_pos (by simp), if_pos (by simp)]
    by_cases hb : b = 0
    · rw [if_pos hb, w2, api_Errno.l0, if_neg (by simp), hb]
    · rw [if_neg hb]
  · rw [if_neg ha, if_neg ha]
structure ApplyInv (w : World) (v : Int) (l : List S36) (ss : List S24) (gf k : Nat) (A : Option Addr) (c : Nat) (o : (Int × List S36) × Int) (wr : World) : Prop where
  st : takesS v l (ss.take k) = o
  b0 : wr.heap[gf]? = some (.cells #[.int .i64 o.1.1, .slice A o.1.2.length c, .int .i64 o.2] 66 (0, 0))
  b1 : wr.heap[w.heap.size + 1]? = some (.cells #[.int .i64 0, .slice none 0 0] 24 (0, 0))
  cc : Kd.C k36 w A o.1.2.length o.1.2 ∧ o.1.2.length ≤ c
  sm : o.1.2.length ≤ 32
  bel : Below w.heap.size w wr
def resolve_Apply.f (a0_0 : Int) (l0_1 : List (S36)) (l1 : List (S24)) : Option (Int × (List (S36)) × Int × Int) := some (applyS a0_0 l0_1 l1)
set_option maxHeartbeats 4000000 in
set_option maxRecDepth 100000 in
theorem resolve_Apply.calls (a0_0 : Int) (A0_1 : Option Addr) (c0_1 : Nat) (l0_1 : List (S36)) (A1 : Option Addr) (c1 : Nat) (l1 : List (S24)) (r1 : Int) (r2 : List (S36)) (r3 : Int) (r4 : Int) (w : World) (hr0_1 : Kd.C k36 w A0_1 l0_1.length l0_1) (hc0_1 : l0_1.length ≤ c0_1) (hr1 : Kd.C k24 w A1 l1.length l1) (hc1 : l1.length ≤ c1) (h : resolve_Apply.f a0_0 l0_1 l1 = some (r1, r2, r3, r4)) :
    Calls Try.prog 10 #[.agg #[.int .i64 a0_0, .slice A0_1 l0_1.length c0_1], .slice A1 l1.length c1] w fun e w' => ∃ v1_ : Value, e = .returned (.tuple #[.agg #[.int .i64 r1, v1_], .int .i64 r3, .int .i64 r4]) ∧ Kd.R k36 36 w' w.heap.size (fun _ => True) v1_ r2 ∧ Below w.heap.size w w' := by
  unfold resolve_Apply.f at h
  replace h := Option.some.inj h
  have HH := Aside0.mk h
  have HR := Aside0.mk hr0_1
  have HC := Aside0.mk hc0_1
  have HR1 := Aside0.mk hr1
  have HC1 := Aside0.mk hc1
  have hmax : l1.length ≤ 9223372036854775807 := hr1.2.1
  clear h hr0_1 hc0_1 hr1 hc1
  obtain ⟨E1, hE1⟩ : ∃ E, E = checkS a0_0 l0_1 := ⟨_, rfl⟩
  obtain ⟨E2, hE2⟩ : ∃ E, E = checksS l1 := ⟨_, rfl⟩
  obtain ⟨E, hE⟩ : ∃ E, E = if E1 = 0 then E2 else E1 := ⟨_, rfl⟩
  have HCF : Aside0 (resolve_Check.f a0_0 l0_1 = some E1) := ⟨by rw [checkS_f, hE1]⟩
  have HCS : Aside0 (resolve_checks.f (l1.length + 1) l1 = some E2) := ⟨by rw [checks_f l1 hmax, hE2]⟩
  have HOR : Aside0 (api_Errno.f 3 [E1, E2] = some E) := ⟨by rw [or_f, hE]⟩
  have HBO : Aside0 (bothS a0_0 l0_1 l1 = E) := ⟨by rw [hE, hE1, hE2]; rfl⟩
  clear hE hE1 hE2
  by_cases h0 : E = 0
  · subst h0
    have hz := bothS_zero HBO.out
    have HZ := Aside0.mk hz
    have HAP : Aside0 (applyS a0_0 l0_1 l1 = ((takesS a0_0 l0_1 l1).1.1, (takesS a0_0 l0_1 l1).1.2, (takesS a0_0 l0_1 l1).2, 0)) := ⟨by unfold applyS; rw [if_pos HBO.out]⟩
    rw [HAP.out] at HH
    clear hz HAP
    go_enter Try.func10, Try.ntmps10
    go_wp2_with (first | (go_at_call 25; (with_reducible refine (resolve_Check.calls a0_0 A0_1 c0_1 l0_1 E1 _ ?hr HC.out HCF.out).mono ?_); (case hr => exact Kd.C_alloc (Kd.C_alloc HR.out _) _); rintro e w1 ⟨rfl, hb⟩; have HB1 := Aside0.mk (below_then (below_alloc (below_alloc (Below.refl _ _) _) _) (by simp; omega) hb); have BK := Aside0.mk ((hb.block (w.heap.size + 1) (by simp)).trans (heap_new2 w _ _)); have BK0 := Aside0.mk ((hb.block w.heap.size (by simp; omega)).trans (blk_alloc (heap_new1 w _) _)); clear hb) | (go_at_call 28; (with_reducible refine (resolve_checks.calls (l1.length + 1) A1 c1 l1 E2 _ ?hr HC1.out HCS.out).mono ?_); (case hr => exact Kd.C_below HR1.out HB1.out); rintro e w2 ⟨rfl, hb⟩; have HB2 := Aside0.mk (below_then HB1.out HB1.out.size hb); have BK2 := Aside0.mk (blk_below BK.out hb); have BK02 := Aside0.mk (blk_below BK0.out hb); clear hb))
    go_at_call 27
    refine calls_of_args (args' := #[.slice (some ⟨w2.heap.size, 0, none⟩) [E1, E2].length 2]) rfl ?_
    with_reducible refine (api_Errno.calls 3 (some ⟨w2.heap.size, 0, none⟩) 2 [E1, E2] 0 _ ?hr (Nat.le_refl _) HOR.out).mono ?_
    case hr => exact C_ints (k := .i64) (heap_new1 _ _) (by simp) rfl
    rintro e w' ⟨rfl, ⟨nd, rfl⟩⟩
    have HB3 := Aside0.mk (pw_below_drewN (below_alloc HB2.out (.cells #[.int .i64 E1, .int .i64 E2] 26)) nd)
    have BK3 := Aside0.mk (blk_drewN (blk_alloc BK2.out (.cells #[.int .i64 E1, .int .i64 E2] 26)) nd)
    have BK03 := Aside0.mk (blk_drewN (blk_alloc BK02.out (.cells #[.int .i64 E1, .int .i64 E2] 26)) nd)
    obtain ⟨w3, hw3⟩ : ∃ w3, w3 = (w2.alloc (.cells #[.int .i64 E1, .int .i64 E2] 26)).drewN nd := ⟨_, rfl⟩
    rw [← hw3] at HB3 BK3 BK03 ⊢
    clear hw3
    have hlt3 : w.heap.size + 1 < w3.heap.size := blk_lt BK3.out
    have x0 : w3.cell? ⟨w.heap.size, 0, none⟩ = some (.int .i64 a0_0) := (blk_cell BK03.out 0).trans rfl
    have x1 : w3.cell? ⟨w.heap.size, 1, none⟩ = some (.slice A0_1 l0_1.length c0_1) := (blk_cell BK03.out 1).trans rfl
    go_wp2_with fail
    have BF := Aside0.mk (heap_new1 w3 (.cells #[.int .i64 a0_0, .slice A0_1 l0_1.length c0_1, .int .i64 0] 66))
    go_loopw [26] (fun v26 wr => ∃ (k : Nat) (A : Option Addr) (c : Nat) (o : (Int × List S36) × Int), v26 = .int .i64 k ∧ k ≤ l1.length ∧ Aside0 (ApplyInv w a0_0 l0_1 l1 w3.heap.size k A c o wr)) (fun v26 _ => l1.length - (intOf v26).toNat)
    case atStart =>
      exact ⟨0, A0_1, c0_1, ((a0_0, l0_1), 0), rfl, by omega, ⟨by simp [takesS], BF.out, blk_alloc BK3.out _, ⟨HR.out, HC.out⟩, checkS_len _ _ HZ.out.1, below_alloc HB3.out _⟩⟩
    case round =>
      obtain ⟨k, A, c, o, rfl, hk, HI⟩ := hrel
      have hw3 : w3.heap.size < wr.heap.size := blk_lt HI.out.b0
      by_cases hlt : k < l1.length
      · obtain ⟨ad, A2, c2, e1, q0', q1', q3, q4⟩ := at_T24 HR1.out (k : Int) (by omega) (by omega)
        have q0 := (HI.out.bel.cell (World.block_lt_of_cell? _ _ q0')).trans q0'
        have q1 := (HI.out.bel.cell (World.block_lt_of_cell? _ _ q1')).trans q1'
        simp only [Int.toNat_natCast] at q0 q1
        have hrd : rd_T24 l1 (k : Int) = l1[k] := by simp [rd_T24, List.getElem?_eq_getElem hlt]
        rw [hrd] at q0 q1 q3 q4
        obtain ⟨s, hs⟩ : ∃ s, s = l1[k] := ⟨_, rfl⟩
        rw [← hs] at q0 q1 q3 q4
        have HT : Aside0 (takesS a0_0 l0_1 (l1.take (k + 1)) = takeS o s) := ⟨by rw [List.take_succ_eq_append_getElem hlt, takes_snoc, HI.out.st, hs]⟩
        have HSL : Aside0 (s.f1.length ≤ 32) := ⟨checkS_len _ _ (checksS_mem l1 HZ.out.2 s (by rw [hs]; exact List.getElem_mem hlt))⟩
        have HON : Aside0 (0 ≤ o.2 ∧ o.2 < 9223372036854775807) := ⟨by
          have := takes_bound a0_0 l0_1 (l1.take k)
          rw [HI.out.st, List.length_take] at this
          omega⟩
        have b1 : decide ((k : Int) < (l1.length : Int)) = true := decide_eq_true (by omega)
        have b1' : decide (k < l1.length) = true := decide_eq_true hlt
        have Q3 := Aside0.mk q3
        have Q4 := Aside0.mk q4
        clear q0' q1' q3 q4 hrd hs
        subst e1
        go_wp2_with fail
        go_at_call 29
        with_reducible refine (feed_take w3.heap.size o.1.1 o.2 s.f0 A A2 o.1.2.length c s.f1.length c2 _ (blk_alloc HI.out.b0 _) HON.out).mono ?_
        rintro e w4 ⟨rfl, hg4, hgr⟩
        have HG4 := Aside0.mk hg4
        have HBW := Aside0.mk (below_grown_own (below_alloc HI.out.bel (.cells #[.int .i64 s.f0, .slice A2 s.f1.length c2] 24)) hgr (fun q hq => by injection hq with hq; have := HB3.out.size; omega) (by simp; have := HI.out.bel.size; omega))
        have BK4 := Aside0.mk ((hgr.block (w.heap.size + 1) (by simp; omega) (by simp; omega)).trans (blk_alloc HI.out.b1 _))
        clear hg4 hgr
        go_wp2
        go_roundw
        case rel =>
          by_cases hv : o.1.1 < s.f0
          · have h4 := HG4.out
            rw [if_pos hv] at h4
            exact ⟨k + 1, A2, c2, ((s.f0, s.f1), o.2 + 1), by go_num, by omega, ⟨by rw [HT.out]; unfold takeS; rw [if_pos hv], h4, BK4.out, ⟨Q4.out, Q3.out⟩, HSL.out, HBW.out⟩⟩
          · have h4 := HG4.out
            rw [if_neg hv] at h4
            exact ⟨k + 1, A, c, o, by go_num, by omega, ⟨by rw [HT.out]; unfold takeS; rw [if_neg hv], h4, BK4.out, HI.out.cc, HI.out.sm, HBW.out⟩⟩
        case measure => simp [intOf]; omega
      · have b1 : decide ((k : Int) < (l1.length : Int)) = false := decide_eq_false (by omega)
        have b1' : decide (k < l1.length) = false := decide_eq_false hlt
        have HT : Aside0 (takesS a0_0 l0_1 l1 = o) := ⟨by have := HI.out.st; rwa [List.take_of_length_le (by omega)] at this⟩
        rw [HT.out] at HH
        obtain ⟨⟨⟩⟩ := HH
        have y0 : wr.cell? ⟨w3.heap.size, 0, none⟩ = some (.int .i64 o.1.1) := (blk_cell HI.out.b0 0).trans rfl
        have y1 : wr.cell? ⟨w3.heap.size, 1, none⟩ = some (.slice A o.1.2.length c) := (blk_cell HI.out.b0 1).trans rfl
        have y2 : wr.cell? ⟨w3.heap.size, 2, none⟩ = some (.int .i64 o.2) := (blk_cell HI.out.b0 2).trans rfl
        have HCL : Aside0 (api_Backend.f o.1.2 = some o.1.2) := ⟨by unfold api_Backend.f; rw [if_pos (by have := HI.out.sm; omega)]⟩
        go_wp2_with fail
        go_at_call 30
        with_reducible refine (api_Backend.calls A c o.1.2 o.1.2 _ (Kd.C_below HI.out.cc.1 HI.out.bel) HI.out.cc.2 HCL.out).mono ?_
        rintro e w4 ⟨v0, rfl, hR, hb⟩
        obtain ⟨Ao, co, rfl⟩ := Kd.R_slice hR
        have HO := Aside0.mk hR
        have HB4 := Aside0.mk (below_then HI.out.bel HI.out.bel.size hb)
        have BF4 := Aside0.mk (blk_below HI.out.b0 hb)
        have BK4 := Aside0.mk (blk_below HI.out.b1 hb)
        clear hR hb y0 y1 y2
        have hw4 : w3.heap.size < w4.heap.size := blk_lt BF4.out
        have hw41 : w.heap.size + 1 < w4.heap.size := blk_lt BK4.out
        have y0 : w4.cell? ⟨w3.heap.size, 0, none⟩ = some (.int .i64 o.1.1) := (blk_cell BF4.out 0).trans rfl
        have y1 : w4.cell? ⟨w3.heap.size, 1, none⟩ = some (.slice A o.1.2.length c) := (blk_cell BF4.out 1).trans rfl
        have y2 : w4.cell? ⟨w3.heap.size, 2, none⟩ = some (.int .i64 o.2) := (blk_cell BF4.out 2).trans rfl
        have fz1 := blk_frozen BF4.out 1
        go_wp2_with fail
        have BF5 := Aside0.mk (blk_put (cs := #[.int .i64 o.1.1, .slice A o.1.2.length c, .int .i64 o.2]) BF4.out 1 (.slice Ao o.1.2.length co) rfl)
        have BK5 := Aside0.mk (blk_far BK4.out (p := ⟨w3.heap.size, 1, none⟩) (show w.heap.size + 1 ≠ w3.heap.size by omega) (.slice Ao o.1.2.length co))
        have HB5 := Aside0.mk (below_set (g := w3.heap.size) (j := 1) (v := .slice Ao o.1.2.length co) HB4.out (by omega))
        have HO5 := Aside0.mk (Kd.R_set HO.out BF4.out (by decide) 1 (.slice Ao o.1.2.length co))
        obtain ⟨W0, hW0⟩ : ∃ W0, W0 = w4.setCell ⟨w3.heap.size, 1, none⟩ (.slice Ao o.1.2.length co) := ⟨_, rfl⟩
        rw [← hW0] at BF5 BK5 HB5 HO5 ⊢
        clear hW0 y0 y1 y2 fz1
        have y0 : W0.cell? ⟨w3.heap.size, 0, none⟩ = some (.int .i64 o.1.1) := (blk_cell BF5.out 0).trans rfl
        have y1 : W0.cell? ⟨w3.heap.size, 1, none⟩ = some (.slice Ao o.1.2.length co) := (blk_cell BF5.out 1).trans rfl
        have y2 : W0.cell? ⟨w3.heap.size, 2, none⟩ = some (.int .i64 o.2) := (blk_cell BF5.out 2).trans rfl
        have z0 : W0.cell? ⟨w.heap.size + 1, 0, none⟩ = some (.int .i64 0) := (blk_cell BK5.out 0).trans rfl
        have z1 : W0.cell? ⟨w.heap.size + 1, 1, none⟩ = some (.slice none 0 0) := (blk_cell BK5.out 1).trans rfl
        have fz0 := blk_frozen BK5.out 0
        have fz1 := blk_frozen BK5.out 1
        have hne1 : w.heap.size + 1 ≠ w3.heap.size := by omega
        have hne2 : w3.heap.size ≠ w.heap.size + 1 := by omega
        go_region_held3 (fun w' => w'.cell? ⟨w3.heap.size, 0, none⟩ = some (.int .i64 o.1.1) ∧ w'.cell? ⟨w3.heap.size, 1, none⟩ = some (.slice Ao o.1.2.length co) ∧ w'.cell? ⟨w3.heap.size, 2, none⟩ = some (.int .i64 o.2)) (go_keep) (fail)
        all_goals
          go_wp2
          refine bodyPost_ret (results_list (rs := [.cell 4 24, .tmp 5, .tmp 6]) rfl (by simp) (.cell (w.heap.size + 1) 24 #[.int .i64 o.1.1, .slice Ao o.1.2.length co] (0, 0) _ rfl (blk_drew (blk_put (cs := #[.int .i64 o.1.1, .slice none 0 0]) (blk_put (cs := #[.int .i64 0, .slice none 0 0]) BK5.out 0 _ rfl) 1 _ rfl)) Try.underlying24 rfl (by kernel_rfl) (.tmp (.tmp .nil)))) rfl ?_
          exact ⟨_, rfl, Kd.R_lower (Kd.R_drew (Kd.R_set (Kd.R_set HO5.out BK5.out (by decide) 0 _) (blk_put (cs := #[.int .i64 0, .slice none 0 0]) BK5.out 0 _ rfl) (by decide) 1 _)) HI.out.bel.size, below_drew (below_set (below_set HB5.out (by simp)) (by simp))⟩
  · have HAP : Aside0 (applyS a0_0 l0_1 l1 = (0, [], 0, E)) := ⟨by unfold applyS; rw [HBO.out, if_neg h0]⟩
    rw [HAP.out] at HH
    obtain ⟨⟨⟩⟩ := HH
    have hne : (r4 == 0) = false := by simpa using h0
    go_enter Try.func10, Try.ntmps10
    go_wp2_with (first | (go_at_call 25; (with_reducible refine (resolve_Check.calls a0_0 A0_1 c0_1 l0_1 E1 _ ?hr HC.out HCF.out).mono ?_); (case hr => exact Kd.C_alloc (Kd.C_alloc HR.out _) _); rintro e w1 ⟨rfl, hb⟩; have HB1 := Aside0.mk (below_then (below_alloc (below_alloc (Below.refl _ _) _) _) (by simp; omega) hb); have BK := Aside0.mk ((hb.block (w.heap.size + 1) (by simp)).trans (heap_new2 w _ _)); have BK0 := Aside0.mk ((hb.block w.heap.size (by simp; omega)).trans (blk_alloc (heap_new1 w _) _)); clear hb) | (go_at_call 28; (with_reducible refine (resolve_checks.calls (l1.length + 1) A1 c1 l1 E2 _ ?hr HC1.out HCS.out).mono ?_); (case hr => exact Kd.C_below HR1.out HB1.out); rintro e w2 ⟨rfl, hb⟩; have HB2 := Aside0.mk (below_then HB1.out HB1.out.size hb); have BK2 := Aside0.mk (blk_below BK.out hb); have BK02 := Aside0.mk (blk_below BK0.out hb); clear hb))
    go_at_call 27
    refine calls_of_args (args' := #[.slice (some ⟨w2.heap.size, 0, none⟩) [E1, E2].length 2]) rfl ?_
    with_reducible refine (api_Errno.calls 3 (some ⟨w2.heap.size, 0, none⟩) 2 [E1, E2] r4 _ ?hr (Nat.le_refl _) HOR.out).mono ?_
    case hr => exact C_ints (k := .i64) (heap_new1 _ _) (by simp) rfl
    rintro e w' ⟨rfl, ⟨nd, rfl⟩⟩
    have HB3 := Aside0.mk (pw_below_drewN (below_alloc HB2.out (.cells #[.int .i64 E1, .int .i64 E2] 26)) nd)
    have BK3 := Aside0.mk (blk_drewN (blk_alloc BK2.out (.cells #[.int .i64 E1, .int .i64 E2] 26)) nd)
    have BK03 := Aside0.mk (blk_drewN (blk_alloc BK02.out (.cells #[.int .i64 E1, .int .i64 E2] 26)) nd)
    obtain ⟨w3, hw3⟩ : ∃ w3, w3 = (w2.alloc (.cells #[.int .i64 E1, .int .i64 E2] 26)).drewN nd := ⟨_, rfl⟩
    rw [← hw3] at HB3 BK3 BK03 ⊢
    clear hw3
    have hlt3 : w.heap.size + 1 < w3.heap.size := blk_lt BK3.out
    have z0 : w3.cell? ⟨w.heap.size + 1, 0, none⟩ = some (.int .i64 0) := (blk_cell BK3.out 0).trans rfl
    have z1 : w3.cell? ⟨w.heap.size + 1, 1, none⟩ = some (.slice none 0 0) := (blk_cell BK3.out 1).trans rfl
    have fz0 := blk_frozen BK3.out 0
    have fz1 := blk_frozen BK3.out 1
    go_wp2
    refine bodyPost_ret (results_list (rs := [.cell 4 24, .tmp 5, .tmp 6]) rfl (by simp) (.cell (w.heap.size + 1) 24 #[.int .i64 0, .slice none 0 0] (0, 0) _ rfl (blk_put (cs := #[.int .i64 0, .slice none 0 0]) (blk_put (cs := #[.int .i64 0, .slice none 0 0]) BK3.out 0 _ rfl) 1 _ rfl) Try.underlying24 rfl (by kernel_rfl) (.tmp (.tmp .nil)))) rfl ?_
    exact ⟨_, rfl, Kd.R_nil _ _ _ _ _, below_set (below_set HB3.out (by simp)) (by simp)⟩

end Go.Proofs.Ytaidadofkbagkaa.G
