-- Made by wip/tools/xprint.py (over the kit's print program) for this claim.
import Derived.Test.YtkdkjnjiianogaaGx0
namespace Go.Proofs.Ytkdkjnjiianogaa.G
open WB Go.RowKit Go.Proofs.YtkdkjnjiianogaaW.PrintWords Go.Proofs.YtkdkjnjiianogaaW.PrintLast Go.Proofs.YtkdkjnjiianogaaW.PrintMore
attribute [local go_sem] max2_int min2_int max_two min_two max_three min_three max_four min_four   -- for this text's walks alone
set_option linter.unusedVariables false
set_option linter.unusedSimpArgs false

/-! ### window_view_at: function 28 -/
set_option maxHeartbeats 2000000 in
set_option maxRecDepth 100000 in
theorem order_any (d : S32) (A2 : Value) (seq : Int) (w : World) (h0 : 0 ≤ d.f0) (h1 : d.f0 ≤ 2147483648) (h2 : 0 ≤ seq) (h3 : seq ≤ 2147483648) :
    Calls Try.prog 40 #[.agg #[.int .i64 d.f0, .int .i64 d.f1, A2], .int .i64 seq] w fun e w' => e = .returned (.int .i64 (d.f0 - seq)) ∧ Below w.heap.size w w' := by
  go_enter Try.func40, Try.ntmps40
  go_wp2
  go_ret
  exact ⟨rfl, by repeat (first | exact Below.refl _ _ | apply below_alloc | apply pw_below_drewN | apply below_drew1)⟩
set_option maxHeartbeats 2000000 in
set_option maxRecDepth 100000 in
theorem search_any (B : Option Addr) (c : Nat) (l : List S32) (seq : Int) (w : World) (hr : Kd.C k32 w B l.length l) (hc : l.length ≤ c) (hn : Neat l) (h2 : 0 ≤ seq) (h3 : seq ≤ 2147483648) (hsm : l.length ≤ 4294967296) :
    Calls Try.prog 39 #[.slice B l.length c, .int .i64 seq, .func (.func 40) #[] #[]] w
      fun e w' => Aside0 (∃ (i : Nat) (b : Bool), e = .returned (.tuple #[.int .i64 i, .bool b]) ∧ FoundAt l seq i b) ∧ Below w.heap.size w w' := by
  have HR := Aside0.mk hr
  have HN := Aside0.mk hn
  clear hr hc hn
  go_enter Try.func39, Try.ntmps39
  go_wp2
  go_loopw [9, 10] (fun v9 v10 wr => ∃ i j : Nat, v9 = .int .i64 i ∧ v10 = .int .i64 j ∧ i ≤ j ∧ j ≤ l.length ∧ Aside0 (∀ q, q < i → (l.getD q z32).f0 < seq) ∧ Aside0 (∀ q, j ≤ q → q < l.length → seq ≤ (l.getD q z32).f0) ∧ Aside0 (Below w.heap.size w wr)) (fun v9 v10 _ => (intOf v10).toNat - (intOf v9).toNat)
  case atStart => exact ⟨0, l.length, rfl, rfl, by omega, by omega, ⟨fun q h => by omega⟩, ⟨fun q h h' => by omega⟩, ⟨Below.refl _ _⟩⟩
  case round =>
    obtain ⟨i, j, rfl, rfl, hij, hj, HL, HH, HB⟩ := hrel
    by_cases hlt : i < j
    · obtain ⟨h, hh⟩ : ∃ h, h = (i + j) / 2 := ⟨_, rfl⟩
      have hhl : h < l.length := by omega
      obtain ⟨ad, A2, c2, e1, q0, q1, q2, q3, q4⟩ := at_T32 (Kd.C_below HR.out HB.out) (h : Int) (by omega) (by omega)
      simp only [Int.toNat_natCast] at q0 q1 q2
      have hrd : rd_T32 l (h : Int) = l.getD h z32 := by simp [rd_T32]
      rw [hrd] at q0 q1 q2
      obtain ⟨d, hd⟩ : ∃ d, d = l.getD h z32 := ⟨_, rfl⟩
      rw [← hd] at q0 q1 q2
      have HD := Aside0.mk hd
      have g0 : 0 ≤ d.f0 := by rw [hd]; exact (HN.out.bd h hhl).1
      have g1 : d.f0 ≤ 2147483648 := by rw [hd]; exact (HN.out.bd h hhl).2
      have b1 : decide ((i : Int) < j) = true := decide_eq_true (by omega)
      have b1' : decide (i < j) = true := decide_eq_true (by omega)
      clear q3 q4 hrd hd
      subst e1
      subst hh
      go_wp2_with fail
      go_at_call 40
      with_reducible refine (order_any d _ seq _ g0 g1 h2 h3).mono ?_
      rintro e wc ⟨rfl, hb⟩
      by_cases hlt2 : d.f0 < seq
      · have b2 : decide (d.f0 - seq < 0) = true := decide_eq_true (by omega)
        go_wp2
        go_roundw
        case rel =>
          refine ⟨(i + j) / 2 + 1, j, by simp, rfl, by omega, hj, ⟨fun q hq => ?_⟩, HH, ⟨below_then HB.out HB.out.size hb⟩⟩
          have := HN.out.up q ((i + j) / 2) (by omega) hhl
          have e := HD.out
          rw [e] at hlt2
          omega
        case measure => simp [intOf]; omega
      · have b2 : decide (d.f0 - seq < 0) = false := decide_eq_false (by omega)
        go_wp2
        go_roundw
        case rel =>
          refine ⟨i, (i + j) / 2, rfl, by simp, by omega, by omega, HL, ⟨fun q hq hq' => ?_⟩, ⟨below_then HB.out HB.out.size hb⟩⟩
          have := HN.out.up ((i + j) / 2) q hq hq'
          have e := HD.out
          rw [e] at hlt2
          omega
        case measure => simp [intOf]; omega
    · have b1 : decide ((i : Int) < j) = false := decide_eq_false (by omega)
      have b1' : decide (i < j) = false := decide_eq_false (by omega)
      by_cases hil : i < l.length
      · obtain ⟨ad, A2, c2, e1, q0, q1, q2, q3, q4⟩ := at_T32 (Kd.C_below HR.out HB.out) (i : Int) (by omega) (by omega)
        simp only [Int.toNat_natCast] at q0 q1 q2
        have hrd : rd_T32 l (i : Int) = l.getD i z32 := by simp [rd_T32]
        rw [hrd] at q0 q1 q2
        obtain ⟨d, hd⟩ : ∃ d, d = l.getD i z32 := ⟨_, rfl⟩
        rw [← hd] at q0 q1 q2
        have HD := Aside0.mk hd
        have g0 : 0 ≤ d.f0 := by rw [hd]; exact (HN.out.bd i hil).1
        have g1 : d.f0 ≤ 2147483648 := by rw [hd]; exact (HN.out.bd i hil).2
        have b3 : decide ((i : Int) < l.length) = true := decide_eq_true (by omega)
        have b3' : decide (i < l.length) = true := decide_eq_true (by omega)
        clear q3 q4 hrd hd
        subst e1
        go_wp2_with fail
        go_at_call 40
        with_reducible refine (order_any d _ seq _ g0 g1 h2 h3).mono ?_
        rintro e wc ⟨rfl, hb⟩
        go_wp2
        go_ret2
        refine ⟨⟨i, _, rfl, ?_⟩, below_then HB.out HB.out.size hb⟩
        have HF : FoundAt l seq i (d.f0 - seq == 0) := by
          refine ⟨by omega, HL.out, fun q h1 h2 => HH.out q (by omega) h2, ?_⟩
          rw [← HD.out, Bool.eq_iff_iff]
          simp only [beq_iff_eq, decide_eq_true_iff]
          omega
        exact HF
      · have b3 : decide ((i : Int) < l.length) = false := decide_eq_false (by omega)
        have b3' : decide (i < l.length) = false := decide_eq_false (by omega)
        go_wp2
        go_ret2
        refine ⟨⟨i, _, rfl, ⟨by omega, HL.out, fun q h1 h2 => HH.out q (by omega) h2, ?_⟩⟩, HB.out⟩
        simp [hil]
set_option maxHeartbeats 2000000 in
set_option maxRecDepth 100000 in
theorem window_at (g : Nat) (mark size : Int) (B : Option Addr) (c : Nat) (l : List S32) (seq : Int) (w : World) (hr : Kd.C k32 w B l.length l) (hc : l.length ≤ c) (hg : w.heap[g]? = some (.cells #[.int .i64 mark, .slice B l.length c, .int .i64 size] 65 (0, 0))) (hm : May mark size l) :
    Calls Try.prog 28 #[.pointer (some ⟨g, 0, none⟩), .int .i64 seq] w fun e w' => e = .returned (.tuple #[.int .i64 (whatD mark size l seq), .int .i64 (spotD mark size l seq)]) ∧ Below w.heap.size w w' := by
  have b0 := blk_cell hg 0
  have b1 := blk_cell hg 1
  have b2 := blk_cell hg 2
  have hlt := blk_lt hg
  simp at b0 b1 b2
  clear hg
  have HR := Aside0.mk hr
  have m1 := hm.m1
  have m2 := hm.m2
  have s1 := hm.s1
  have s2 := hm.s2
  have HM := Aside0.mk hm
  have HC := Aside0.mk hc
  clear hr hc hm
  go_enter Try.func28, Try.ntmps28
  by_cases h1 : seq < mark
  · have c1 : decide (seq < mark) = true := decide_eq_true h1
    have HW : Aside0 (whatD mark size l seq = 2 ∧ spotD mark size l seq = 0) := ⟨by unfold whatD spotD; rw [if_pos h1, if_pos (Or.inl h1)]; exact ⟨rfl, rfl⟩⟩
    clear h1
    go_wp2
    go_ret2
    exact ⟨by rw [HW.out.1, HW.out.2]; rfl, by repeat (first | exact Below.refl _ _ | apply below_alloc | apply pw_below_drewN | apply below_drew1)⟩
  · by_cases h2 : mark + size ≤ seq
    · have HW : Aside0 (whatD mark size l seq = 3 ∧ spotD mark size l seq = 0) := ⟨by unfold whatD spotD; rw [if_neg h1, if_pos h2, if_pos (Or.inr h2)]; exact ⟨rfl, rfl⟩⟩
      have c1 : decide (seq < mark) = false := decide_eq_false h1
      have c2 : decide (mark + size ≤ seq) = true := decide_eq_true h2
      clear h1 h2
      go_wp2
      go_quiet (fail)
      go_wp2
      go_ret2
      exact ⟨by rw [HW.out.1, HW.out.2]; rfl, by repeat (first | exact Below.refl _ _ | apply below_alloc | apply pw_below_drewN | apply below_drew1)⟩
    · have c1 : decide (seq < mark) = false := decide_eq_false h1
      have c2 : decide (mark + size ≤ seq) = false := decide_eq_false h2
      have g1 : 0 ≤ seq := by omega
      have g2 : seq ≤ 2147483648 := by omega
      have HS := fun W hr => Aside0.mk (search_any B c l seq W hr HC.out HM.out.neat g1 g2 (by have := HM.out.len; omega))
      have HS' := Aside0.mk HS
      have HW : Aside0 (whatD mark size l seq = (if (l.any fun d => d.f0 == seq) then 1 else 0) ∧ spotD mark size l seq = placeD l seq) := ⟨by unfold whatD spotD; exact ⟨by rw [if_neg h1, if_neg h2], if_neg (fun hx => hx.elim h1 h2)⟩⟩
      clear h1 h2 HS
      go_wp2
      go_quiet (fail)
      go_wp2_with fail
      go_at_call 39
      with_reducible refine ((HS'.out _ ?hr).out).mono ?_
      case hr => exact Kd.C_below HR.out (pw_below_drewN (Below.refl _ _) _)
      rintro e wc ⟨⟨⟨i, b, rfl, hf⟩⟩, hb⟩
      have HF := Aside0.mk hf
      have HB := Aside0.mk (below_then (pw_below_drewN (Below.refl w.heap.size w) _) (by simp) hb)
      clear hf hb
      rcases b with _ | _
      · go_wp2
        go_ret2
        exact ⟨by rw [HW.out.1, HW.out.2, HF.out.any HM.out.neat, HF.out.place]; rfl, HB.out⟩
      · go_wp2
        go_ret2
        exact ⟨by rw [HW.out.1, HW.out.2, HF.out.any HM.out.neat, HF.out.place]; rfl, HB.out⟩

end Go.Proofs.Ytkdkjnjiianogaa.G
