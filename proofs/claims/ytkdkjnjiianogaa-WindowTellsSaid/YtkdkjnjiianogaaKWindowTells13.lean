/- WindowTells: texts of this claim, packed: what the kit's print has written for it and own texts, without what its proof does not reach. -/
import Derived.Test.YtkdkjnjiianogaaKWindowTells12
set_option linter.unusedVariables false
set_option linter.unusedSimpArgs false
set_option linter.unusedSectionVars false
section
namespace Go.Proofs.Ytkdkjnjiianogaa.G
open WB Go.RowKit Go.Proofs.YtkdkjnjiianogaaW.PrintWords Go.Proofs.YtkdkjnjiianogaaW.PrintLast Go.Proofs.YtkdkjnjiianogaaW.PrintMore
attribute [local go_sem] max2_int min2_int max_two min_two max_three min_three max_four min_four   -- for this text's walks alone
set_option linter.unusedVariables false
set_option linter.unusedSimpArgs false
set_option maxHeartbeats 2000000 in
set_option maxRecDepth 100000 in
theorem order_any (d : S32) (A2 : Value) (seq : Int) (w : World) (h0 : 0 ≤ d.f0) (h1 : d.f0 ≤ 2147483648) (h2 : 0 ≤ seq) (h3 : seq ≤ 2147483648) :
    Calls Try.prog 40 #[.agg #[.int .i64 d.f0, .int .i64 d.f1, A2], .int .i64 seq] w fun e w' => e = .returned (.int .i64 (d.f0 - seq)) ∧ Below w.heap.size w w' := by
  go_enter Try.func40, Try.ntmps40
  go_wp2
  go_ret
  exact ⟨rfl, by repeat (first | exact Below.refl _ _ | apply below_alloc | apply pw_below_drewN | apply below_drew1)⟩
set_option maxHeartbeats 2000000 in
set_option maxRecDepth 100000 in
theorem search_any (B : Option Addr) (c : Nat) (l : List S32) (seq : Int) (w : World) (hr : Kd.C k32 w B l.length l) (hc : l.length ≤ c) (hn : Neat l) (h2 : 0 ≤ seq) (h3 : seq ≤ 2147483648) (hsm : l.length ≤ 4294967296) :
    Calls Try.prog 39 #[.slice B l.length c, .int .i64 seq, .func (.func 40) #[] #[]] w
      fun e w' => Aside0 (∃ (i : Nat) (b : Bool), e = .returned (.tuple #[.int .i64 i, .bool b]) ∧ FoundAt l seq i b) ∧ Below w.heap.size w w' := by
  have HR := Aside0.mk hr
  have HN := Aside0.mk hn
  clear hr hc hn
  go_enter Try.func39, Try.ntmps39
  go_wp2
  go_loopw [9, 10] (fun v9 v10 wr => ∃ i j : Nat, v9 = .int .i64 i ∧ v10 = .int .i64 j ∧ i ≤ j ∧ j ≤ l.length ∧ Aside0 (∀ q, q < i → (l.getD q z32).f0 < seq) ∧ Aside0 (∀ q, j ≤ q → q < l.length → seq ≤ (l.getD q z32).f0) ∧ Aside0 (Below w.heap.size w wr)) (fun v9 v10 _ => (intOf v10).toNat - (intOf v9).toNat)
  case atStart => exact ⟨0, l.length, rfl, rfl, by omega, by omega, ⟨fun q h => by omega⟩, ⟨fun q h h' => by omega⟩, ⟨Below.refl _ _⟩⟩
  case round =>
    obtain ⟨i, j, rfl, rfl, hij, hj, HL, HH, HB⟩ := hrel
    by_cases hlt : i < j
    · obtain ⟨h, hh⟩ : ∃ h, h = (i + j) / 2 := ⟨_, rfl⟩
      have hhl : h < l.length := by omega
      obtain ⟨ad, A2, c2, e1, q0, q1, q2, q3, q4⟩ := at_T32 (Kd.C_below HR.out HB.out) (h : Int) (by omega) (by omega)
      simp only [Int.toNat_natCast] at q0 q1 q2
      have hrd : rd_T32 l (h : Int) = l.getD h z32 := by simp [rd_T32]
      rw [hrd] at q0 q1 q2
      obtain ⟨d, hd⟩ : ∃ d, d = l.getD h z32 := ⟨_, rfl⟩
      rw [← hd] at q0 q1 q2
      have HD := Aside0.mk hd
      have g0 : 0 ≤ d.f0 := by rw [hd]; exact (HN.out.bd h hhl).1
      have g1 : d.f0 ≤ 2147483648 := by rw [hd]; exact (HN.out.bd h hhl).2
      have b1 : decide ((i : Int) < j) = true := decide_eq_true (by omega)
      have b1' : decide (i < j) = true := decide_eq_true (by omega)
      clear q3 q4 hrd hd
      subst e1
      subst hh
      go_wp2_with fail
      go_at_call 40
      with_reducible refine (order_any d _ seq _ g0 g1 h2 h3).mono ?_
      rintro e wc ⟨rfl, hb⟩
      by_cases hlt2 : d.f0 < seq
      · have b2 : decide (d.f0 - seq < 0) = true := decide_eq_true (by omega)
        go_wp2
        go_roundw
        case rel =>
          refine ⟨(i + j) / 2 + 1, j, by simp, rfl, by omega, hj, ⟨fun q hq => ?_⟩, HH, ⟨below_then HB.out HB.out.size hb⟩⟩
          have := HN.out.up q ((i + j) / 2) (by omega) hhl
          have e := HD.out
          rw [e] at hlt2
          omega
        case measure => simp [intOf]; omega
      · have b2 : decide (d.f0 - seq < 0) = false := decide_eq_false (by omega)
        go_wp2
        go_roundw
        case rel =>
          refine ⟨i, (i + j) / 2, rfl, by simp, by omega, by omega, HL, ⟨fun q hq hq' => ?_⟩, ⟨below_then HB.out HB.out.size hb⟩⟩
          have := HN.out.up ((i + j) / 2) q hq hq'
          have e := HD.out
          rw [e] at hlt2
          omega
        case measure => simp [intOf]; omega
    · have b1 : decide ((i : Int) < j) = false := decide_eq_false (by omega)
      have b1' : decide (i < j) = false := decide_eq_false (by omega)
      by_cases hil : i < l.length
      · obtain ⟨ad, A2, c2, e1, q0, q1, q2, q3, q4⟩ := at_T32 (Kd.C_below HR.out HB.out) (i : Int) (by omega) (by omega)
        simp only [Int.toNat_natCast] at q0 q1 q2
        have hrd : rd_T32 l (i : Int) = l.getD i z32 := by simp [rd_T32]
        rw [hrd] at q0 q1 q2
        obtain ⟨d, hd⟩ : ∃ d, d = l.getD i z32 := ⟨_, rfl⟩
        rw [← hd] at q0 q1 q2
        have HD := Aside0.mk hd
        have g0 : 0 ≤ d.f0 := by rw [hd]; exact (HN.out.bd i hil).1
        have g1 : d.f0 ≤ 2147483648 := by rw [hd]; exact (HN.out.bd i hil).2
        have b3 : decide ((i : Int) < l.length) = true := decide_eq_true (by omega)
        have b3' : decide (i < l.length) = true := decide_eq_true (by omega)
        clear q3 q4 hrd hd
        subst e1
        go_wp2_with fail
        go_at_call 40
        with_reducible refine (order_any d _ seq _ g0 g1 h2 h3).mono ?_
        rintro e wc ⟨rfl, hb⟩
        go_wp2
        go_ret2
        refine ⟨⟨i, _, rfl, ?_⟩, below_then HB.out HB.out.size hb⟩
        have HF : FoundAt l seq i (d.f0 - seq == 0) := by
          refine ⟨by omega, HL.out, fun q h1 h2 => HH.out q (by omega) h2, ?_⟩
          rw [← HD.out, Bool.eq_iff_iff]
          simp only [beq_iff_eq, decide_eq_true_iff]
          omega
        exact HF
      · have b3 : decide ((i : Int) < l.length) = false := decide_eq_false (by omega)
        have b3' : decide (i < l.length) = false := decide_eq_false (by omega)
        go_wp2
        go_ret2
        refine ⟨⟨i, _, rfl, ⟨by omega, HL.out, fun q h1 h2 => HH.out q (by omega) h2, ?_⟩⟩, HB.out⟩
        simp [hil]
set_option maxHeartbeats 2000000 in
set_option maxRecDepth 100000 in
theorem window_at (g : Nat) (mark size : Int) (B : Option Addr) (c : Nat) (l : List S32) (seq : Int) (w : World) (hr : Kd.C k32 w B l.length l) (hc : l.length ≤ c) (hg : w.heap[g]? = some (.cells #[.int .i64 mark, .slice B l.length c, .int .i64 size] 65 (0, 0))) (hm : May mark size l) :
    Calls Try.prog 28 #[.pointer (some ⟨g, 0, none⟩), .int .i64 seq] w fun e w' => e = .returned (.tuple #[.int .i64 (whatD mark size l seq), .int .i64 (spotD mark size l seq)]) ∧ Below w.heap.size w w' := by
  have b0 := blk_cell hg 0
  have b1 := blk_cell hg 1
  have b2 := blk_cell hg 2
  have hlt := blk_lt hg
  simp at b0 b1 b2
  clear hg
  have HR := Aside0.mk hr
  have m1 := hm.m1
  have m2 := hm.m2
  have s1 := hm.s1
  have s2 := hm.s2
  have HM := Aside0.mk hm
  have HC := Aside0.mk hc
  clear hr hc hm
  go_enter Try.func28, Try.ntmps28
  by_cases h1 : seq < mark
  · have c1 : decide (seq < mark) = true := decide_eq_true h1
    have HW : Aside0 (whatD mark size l seq = 2 ∧ spotD mark size l seq = 0) := ⟨by unfold whatD spotD; rw [if_pos h1, if_pos (Or.inl h1)]; exact ⟨rfl, rfl⟩⟩
    clear h1
    go_wp2
    go_ret2
    exact ⟨by rw [HW.out.1, HW.out.2]; rfl, by repeat (first | exact Below.refl _ _ | apply below_alloc | apply pw_below_drewN | apply below_drew1)⟩
  · by_cases h2 : mark + size ≤ seq
    · have HW : Aside0 (whatD mark size l seq = 3 ∧ spotD mark size l seq = 0) := ⟨by unfold whatD spotD; rw [if_neg h1, if_pos h2, if_pos (Or.inr h2)]; exact ⟨rfl, rfl⟩⟩
      have c1 : decide (seq < mark) = false := decide_eq_false h1
      have c2 : decide (mark + size ≤ seq) = true := decide_eq_true h2
      clear h1 h2
      go_wp2
      go_quiet (fail)
      go_wp2
      go_ret2
      exact ⟨by rw [HW.out.1, HW.out.2]; rfl, by repeat (first | exact Below.refl _ _ | apply below_alloc | apply pw_below_drewN | apply below_drew1)⟩
    · have c1 : decide (seq < mark) = false := decide_eq_false h1
      have c2 : decide (mark + size ≤ seq) = false := decide_eq_false h2
      have g1 : 0 ≤ seq := by omega
      have g2 : seq ≤ 2147483648 := by omega
      have HS := fun W hr => Aside0.mk (search_any B c l seq W hr HC.out HM.out.neat g1 g2 (by have := HM.out.len; omega))
      have HS' := Aside0.mk HS
      have HW : Aside0 (whatD mark size l seq = (if (l.any fun d => d.f0 == seq) then 1 else 0) ∧ spotD mark size l seq = placeD l seq) := ⟨by unfold whatD spotD; exact ⟨by rw [if_neg h1, if_neg h2], if_neg (fun hx => hx.elim h1 h2)⟩⟩
      clear h1 h2 HS
      go_wp2
      go_quiet (fail)
      go_wp2_with fail
      go_at_call 39
      with_reducible refine ((HS'.out _ ?hr).out).mono ?_
      case hr => exact Kd.C_below HR.out (pw_below_drewN (Below.refl _ _) _)
      rintro e wc ⟨⟨⟨i, b, rfl, hf⟩⟩, hb⟩
      have HF := Aside0.mk hf
      have HB := Aside0.mk (below_then (pw_below_drewN (Below.refl w.heap.size w) _) (by simp) hb)
      clear hf hb
      rcases b with _ | _
      · go_wp2
        go_ret2
        exact ⟨by rw [HW.out.1, HW.out.2, HF.out.any HM.out.neat, HF.out.place]; rfl, HB.out⟩
      · go_wp2
        go_ret2
        exact ⟨by rw [HW.out.1, HW.out.2, HF.out.any HM.out.neat, HF.out.place]; rfl, HB.out⟩
def slices_Clone_byte_byte.f (l0 : List Int) : Option (List Int) := if l0.length < 140737488355328 then some l0 else none
set_option maxHeartbeats 1000000 in
set_option maxRecDepth 100000 in
theorem slices_Clone_byte_byte.calls (A0 : Option Addr) (c0 : Nat) (l0 : List Int) (r : List Int) (w : World) (hr0 : Kd.C (Kd.int .u8) w A0 l0.length l0) (hc0 : l0.length ≤ c0) (h : slices_Clone_byte_byte.f l0 = some r) :
    Calls Try.prog 41 #[.slice A0 l0.length c0] w fun e w' => ∃ v0_ : Value, e = .returned (v0_) ∧ Kd.R (Kd.int .u8) 5 w' w.heap.size (fun _ => True) v0_ r ∧ Below w.heap.size w w' := by
  unfold slices_Clone_byte_byte.f at h
  split at h
  case isFalse => cases h
  case isTrue hl =>
  obtain rfl := Option.some.inj h
  clear h
  have HR0 := Aside0.mk hr0
  have HC0 := Aside0.mk hc0
  have HL := Aside0.mk hl
  clear hr0 hc0 hl
  rcases A0 with _ | ad
  · have hn : l0 = [] := by
      rcases Nat.eq_zero_or_pos l0.length with h0 | h0
      · exact List.eq_nil_of_length_eq_zero h0
      · obtain ⟨ad, h1, _⟩ := HR0.out.2.2 h0
        cases h1
    subst hn
    have heq : ∀ (W : World) (n c : Nat), (binOp .eql 30 (.slice none n c) (.slice none 0 0)).run Try.prog W = .ok (.bool true) W := fun W n c => Lib.run_eql_slice_nil W _ 5 none n c 0 0 Try.underlying30
    go_enter Try.func41, Try.ntmps41
    go_wp2
    go_ret
    exact ⟨_, rfl, Kd.R_nil _ _ _ _ _, Below.refl _ _⟩
  · have heq : ∀ (W : World) (a : Addr) (n c : Nat), (binOp .eql 30 (.slice (some a) n c) (.slice none 0 0)).run Try.prog W = .ok (.bool false) W := fun W a n c => Lib.run_eql_slice_nil W _ 5 (some a) n c 0 0 Try.underlying30
    go_enter Try.func41, Try.ntmps41
    go_wp2_with (first | ((with_reducible refine gate_dst (N := 5) rfl ?_); refine Kd.R_lit (Kd.int .u8) (w0 := w) w.heap.size 5 ?hg (N := 5) ?hd (xs := ([] : List Int)) (inner := []) (ok := fun _ => True) (okp := fun _ => True) ?hr (Reps.none _ _) (fun _ hk => hk) trivial (Below.refl _ _) (Nat.le_refl _) (by simp) ?_; (case hd => rfl); (case hg => rfl); (case hr => first | (go_simp; done) | (go_simp; rfl)); intro v1 w1 ho hb hg_ hnew_; clear hg_ hnew_; have HO := Aside0.mk ho; have HB1 := Aside0.mk hb; clear ho hb; obtain ⟨Ao, co, eo⟩ := Kd.R_slice HO.out; subst eo) | ((with_reducible refine gate_builtin (b := .append) (xs := #[.tmp 5, .tmp 6]) rfl ?_); at_builtin; refine Kd.R_append_rows (Kd.int .u8) (w0 := w) w.heap.size rfl (.tmp 5) (.tmp 6) 30 5 (.int .u8 0) 1 rfl Try.underlying30 info5 rfl (by decide) (by omega) _ ([] : List Int) l0 _ _ _ (fun _ => True) (fun _ => False) rfl rfl HO.out (Kd.C_below HR0.out HB1.out) (fun _ _ h => h) (fun _ h => h.elim) (fun _ _ => trivial) HB1.out HB1.out.size (by have := HL.out; simp; omega) ?_; intro v2 w2 ho2 hb2 hg2 hat2; rw [List.nil_append] at ho2; have HO2 := Aside0.mk ho2; have HB2 := Aside0.mk hb2; clear ho2 hb2 hg2 hat2))
    go_ret
    exact ⟨_, rfl, HO2.out, HB2.out⟩
def window_clone.f (a0_0 : Int) (a0_1 : Int) (l0_2 : List Int) : Option (Int × Int × List Int) := (slices_Clone_byte_byte.f l0_2).bind fun t105 => (some (a0_0, a0_1, t105))
set_option maxHeartbeats 8000000 in
set_option maxRecDepth 100000 in
theorem window_clone.calls (a0_0 : Int) (a0_1 : Int) (A0_2 : Option Addr) (c0_2 : Nat) (l0_2 : List Int) (r1 : Int) (r2 : Int) (r3 : List Int) (w : World) (hr0_2 : Kd.C (Kd.int .u8) w A0_2 l0_2.length l0_2) (hc0_2 : l0_2.length ≤ c0_2) (h : window_clone.f a0_0 a0_1 l0_2 = some (r1, r2, r3)) :
    Calls Try.prog 29 #[.agg #[.int .i64 a0_0, .int .i64 a0_1, .slice A0_2 l0_2.length c0_2]] w fun e w' => ∃ v2_ : Value, e = .returned (.agg #[.int .i64 r1, .int .i64 r2, v2_]) ∧ Kd.R (Kd.int .u8) 5 w' w.heap.size (fun _ => True) v2_ r3 ∧ Below w.heap.size w w' := by
  have hu32 := Try.underlying32
  have HR0_2 := Aside0.mk hr0_2
  have HC0_2 := Aside0.mk hc0_2
  clear hr0_2 hc0_2
  have HB := Aside0.mk (Below.refl w.heap.size w)
  have H : ((slices_Clone_byte_byte.f l0_2).bind fun t105 => (some (a0_0, a0_1, t105))) = some (r1, r2, r3) := h
  clear h
  replace H := Option.bind_eq_some_iff.mp H
  obtain ⟨t105, A20, H⟩ := H
  replace H : (some (a0_0, a0_1, t105)) = some (r1, r2, r3) := H
  have A2 := Aside0.mk A20
  clear A20
  simp only [Option.some.injEq, Prod.mk.injEq] at H
  obtain ⟨rfl, rfl, rfl⟩ := H
  go_enter Try.func29, Try.ntmps29
  go_wp2_with (first | ((with_reducible refine gate_dst (N := 1) rfl ?_); refine box_event ?hg (N := 1) ?hd (cs := #[.int .i64 a0_0, .int .i64 a0_1, .slice A0_2 l0_2.length c0_2]) (t := 32) ?hr ?_; (case hd => rfl); (case hg => rfl); (case hr => first | (go_simp; done) | (go_simp; rfl)); intro gb103 hg w3 hbox hb; have n0_ := Aside0.mk (below_step (by repeat (first | (with_reducible first | exact HB.out | apply below_alloc | apply pw_below_drewN | apply below_drew1) | exact HB.out)) hb); have n1_ := Aside0.mk (hbox); have n2_ := Aside0.mk ((by rw [hg]; exact (below_size (by repeat (first | (with_reducible first | exact HB.out | apply below_alloc | apply pw_below_drewN | apply below_drew1) | exact HB.out))) : w.heap.size ≤ gb103)); have n3_ := Aside0.mk ((by rw [hg]; exact (below_size (by repeat (first | (with_reducible first | exact HB.out | apply below_alloc | apply pw_below_drewN | apply below_drew1) | exact HB.out))) : w.heap.size ≤ gb103)); clear HB; have HB := n0_; have BK103 := n1_; have GW103 := n2_; have GE103 := n3_; clear n0_ n1_ n2_ n3_; clear hb hbox hg) | ((with_reducible refine gate_dst (N := 2) rfl ?_); refine box_event ?hg (N := 2) ?hd (cs := #[.int .i64 0, .int .i64 0, .slice none 0 0]) (t := 32) ?hr ?_; (case hd => rfl); (case hg => rfl); (case hr => first | (go_simp; done) | (go_simp; rfl)); intro gb104 hg w4 hbox hb; have n0_ := Aside0.mk (blk_below (g := gb103) (o := .cells #[.int .i64 a0_0, .int .i64 a0_1, .slice A0_2 l0_2.length c0_2] 32 (0, 0)) (by (with_reducible repeat (first | refine blk_drewN ?_ _ | refine blk_drew ?_ | refine blk_alloc ?_ _)); exact BK103.out) hb); have n1_ := Aside0.mk (below_step (by repeat (first | (with_reducible first | exact HB.out | apply below_alloc | apply pw_below_drewN | apply below_drew1 | refine below_set ?_ GE103.out) | exact HB.out)) hb); have n2_ := Aside0.mk (hbox); have n3_ := Aside0.mk ((by rw [hg]; exact (below_size (by repeat (first | (with_reducible first | exact HB.out | apply below_alloc | apply pw_below_drewN | apply below_drew1 | refine below_set ?_ GE103.out) | exact HB.out))) : w.heap.size ≤ gb104)); have n4_ := Aside0.mk ((by rw [hg]; exact (below_size (by repeat (first | (with_reducible first | exact HB.out | apply below_alloc | apply pw_below_drewN | apply below_drew1 | refine below_set ?_ GE103.out) | exact HB.out))) : w.heap.size ≤ gb104)); have n5_ := Aside0.mk ((by rw [hg]; exact Nat.ne_of_lt (blk_lt (g := gb103) (o := .cells #[.int .i64 a0_0, .int .i64 a0_1, .slice A0_2 l0_2.length c0_2] 32 (0, 0)) (by (with_reducible repeat (first | refine blk_drewN ?_ _ | refine blk_drew ?_ | refine blk_alloc ?_ _)); exact BK103.out)) : gb103 ≠ gb104)); have n6_ := Aside0.mk ((by rw [hg]; exact Nat.ne_of_gt (blk_lt (g := gb103) (o := .cells #[.int .i64 a0_0, .int .i64 a0_1, .slice A0_2 l0_2.length c0_2] 32 (0, 0)) (by (with_reducible repeat (first | refine blk_drewN ?_ _ | refine blk_drew ?_ | refine blk_alloc ?_ _)); exact BK103.out)) : gb104 ≠ gb103)); clear BK103; clear HB; have BK103 := n0_; have HB := n1_; have BK104 := n2_; have GW104 := n3_; have GE104 := n4_; have NB103_104 := n5_; have NB104_103 := n6_; clear n0_ n1_ n2_ n3_ n4_ n5_ n6_; clear hb hbox hg; have hnb5 := NB103_104.out; have hnc5 := NB104_103.out; have hcz6_0 : w4.cell? ⟨gb103, 0, none⟩ = some (.int .i64 a0_0) := (blk_cell BK103.out 0).trans rfl; have hcz6_1 : w4.cell? ⟨gb103, 1, none⟩ = some (.int .i64 a0_1) := (blk_cell BK103.out 1).trans rfl; have hcz6_2 : w4.cell? ⟨gb103, 2, none⟩ = some (.slice A0_2 l0_2.length c0_2) := (blk_cell BK103.out 2).trans rfl; have hfz6_0 := blk_frozen BK103.out 0; have hfz6_1 := blk_frozen BK103.out 1; have hfz6_2 := blk_frozen BK103.out 2) | ((with_reducible refine gate_callee (f := 41) rfl ?_); refine goesL_ (some 5) rfl rfl Try.func41 (by kernel_rfl) rfl #[.slice A0_2 l0_2.length c0_2] rfl (by (try simp only [List.map_toArray, List.map_cons, List.map_nil]); first | done | rfl | (simp only [List.length_drop, List.length_take]; rfl)) ?_; (with_reducible refine (slices_Clone_byte_byte.calls _ _ l0_2 t105 _ ?side1 ?side2 A2.out).mono ?_); (case side1 => repeat (first | exact (Kd.C_below HR0_2.out HB.out) | (with_reducible refine Kd.C_alloc ?_ _) | (with_reducible refine Kd.C_drewN ?_ _) | (with_reducible refine Kd.C_drew ?_))); (case side2 => exact HC0_2.out); rintro e w7 ⟨v106, rfl, ho0, hb⟩; refine ⟨_, rfl, ?_⟩; have n0_ := Aside0.mk (Kd.R_lower ho0 (below_size (by repeat (first | (with_reducible first | exact HB.out | apply below_alloc | apply pw_below_drewN | apply below_drew1 | refine below_set ?_ GE103.out | refine below_set ?_ GE104.out) | exact HB.out)))); have n1_ := Aside0.mk (blk_below (g := gb103) (o := .cells #[.int .i64 a0_0, .int .i64 a0_1, .slice A0_2 l0_2.length c0_2] 32 (0, 0)) (by (with_reducible repeat (first | refine blk_drewN ?_ _ | refine blk_drew ?_ | refine blk_alloc ?_ _)); exact BK103.out) hb); have n2_ := Aside0.mk (blk_below (g := gb104) (o := .cells #[.int .i64 0, .int .i64 0, .slice none 0 0] 32 (0, 0)) (by (with_reducible repeat (first | refine blk_drewN ?_ _ | refine blk_drew ?_ | refine blk_alloc ?_ _)); exact BK104.out) hb); have n3_ := Aside0.mk (below_step (by repeat (first | (with_reducible first | exact HB.out | apply below_alloc | apply pw_below_drewN | apply below_drew1 | refine below_set ?_ GE103.out | refine below_set ?_ GE104.out) | exact HB.out)) hb); clear BK103; clear BK104; clear HB; have HO107 := n0_; have BK103 := n1_; have BK104 := n2_; have HB := n3_; clear n0_ n1_ n2_ n3_; (try clear hb); (try clear hb2); (try clear hk); (try clear hi); (try clear ho0); obtain ⟨Ao8, co8, eo8⟩ := Kd.R_slice HO107.out; subst eo8; have hcz9_0 : w7.cell? ⟨gb103, 0, none⟩ = some (.int .i64 a0_0) := (blk_cell BK103.out 0).trans rfl; have hcz9_1 : w7.cell? ⟨gb103, 1, none⟩ = some (.int .i64 a0_1) := (blk_cell BK103.out 1).trans rfl; have hcz9_2 : w7.cell? ⟨gb103, 2, none⟩ = some (.slice A0_2 l0_2.length c0_2) := (blk_cell BK103.out 2).trans rfl; have hfz9_0 := blk_frozen BK103.out 0; have hfz9_1 := blk_frozen BK103.out 1; have hfz9_2 := blk_frozen BK103.out 2; have hcz10_0 : w7.cell? ⟨gb104, 0, none⟩ = some (.int .i64 0) := (blk_cell BK104.out 0).trans rfl; have hcz10_1 : w7.cell? ⟨gb104, 1, none⟩ = some (.int .i64 0) := (blk_cell BK104.out 1).trans rfl; have hcz10_2 : w7.cell? ⟨gb104, 2, none⟩ = some (.slice none 0 0) := (blk_cell BK104.out 2).trans rfl; have hfz10_0 := blk_frozen BK104.out 0; have hfz10_1 := blk_frozen BK104.out 1; have hfz10_2 := blk_frozen BK104.out 2))
  refine bodyPost_ret (results_cell_row rfl _ _ gb104 32 #[.int .i64 a0_0, .int .i64 a0_1, .slice Ao8 t105.length co8] (0, 0) _ rfl (by (with_reducible repeat (first | refine blk_drewN ?_ _ | refine blk_drew ?_ | refine blk_alloc ?_ _)); refine blk_put (cs := #[.int .i64 a0_0, .int .i64 a0_1, .slice none 0 0]) ?_ 2 _ rfl; (with_reducible repeat (first | refine blk_drewN ?_ _ | refine blk_drew ?_ | refine blk_alloc ?_ _)); refine blk_put (cs := #[.int .i64 a0_0, .int .i64 0, .slice none 0 0]) ?_ 1 _ rfl; (with_reducible repeat (first | refine blk_drewN ?_ _ | refine blk_drew ?_ | refine blk_alloc ?_ _)); refine blk_put (cs := #[.int .i64 0, .int .i64 0, .slice none 0 0]) ?_ 0 _ rfl; (with_reducible repeat (first | refine blk_drewN ?_ _ | refine blk_drew ?_ | refine blk_alloc ?_ _)); refine blk_far ?_ NB104_103.out _; (with_reducible repeat (first | refine blk_drewN ?_ _ | refine blk_drew ?_ | refine blk_alloc ?_ _)); exact BK104.out) Try.underlying32 rfl (by kernel_rfl)) rfl ?_
  exact ⟨_, by first | rfl | (simp [errW_none, errW_some] <;> rfl) | (simp [*, errW_none, errW_some] <;> rfl), by (with_reducible repeat (first | apply Kd.R_alloc | apply Kd.R_drewN | apply Kd.R_drew)); exact Kd.R_mono (Kd.R_far (p := ⟨gb104, 2, none⟩) (Kd.R_far (p := ⟨gb104, 1, none⟩) (Kd.R_far (p := ⟨gb104, 0, none⟩) (Kd.R_far (p := ⟨gb103, 2, none⟩) (Kd.R_types (Kd.R_types HO107.out BK103.out (by decide)) BK104.out (by decide)) (fun _ hk => hk.1.2) (.slice Ao8 t105.length co8)) (fun _ hk => hk.2) (.int .i64 a0_0)) (fun _ hk => hk.2) (.int .i64 a0_1)) (fun _ hk => hk.2) (.slice Ao8 t105.length co8)) (fun _ hk => trivial), by repeat (first | (with_reducible first | exact HB.out | apply below_alloc | apply pw_below_drewN | apply below_drew1 | refine below_set ?_ GE103.out | refine below_set ?_ GE104.out) | exact HB.out)⟩
end Go.Proofs.Ytkdkjnjiianogaa.G
end
