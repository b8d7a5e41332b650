/- SessionExpires: texts of this claim, packed: what the kit's print has written for it and own texts, without what its proof does not reach. -/
import Derived.Test.YthfjgfldmkdlnaaKSessionExpires11
set_option linter.unusedVariables false
set_option linter.unusedSimpArgs false
set_option linter.unusedSectionVars false
section
namespace Go.Proofs.Ythfjgfldmkdlnaa.G
open WB Go.RowKit Go.Proofs.YthfjgfldmkdlnaaW.PrintWords Go.Proofs.YthfjgfldmkdlnaaW.PrintLast Go.Proofs.YthfjgfldmkdlnaaW.PrintMore
attribute [local go_sem] max2_int min2_int max_two min_two max_three min_three max_four min_four   -- for this text's walks alone
set_option linter.unusedVariables false
set_option linter.unusedSimpArgs false
set_option maxHeartbeats 2000000 in
set_option maxRecDepth 100000 in
theorem window_odd (g : Nat) (mark size : Int) (A : Value) (d : S51) (A2 : Option Addr) (c2 : Nat) (w : World) (hg : w.heap[g]? = some (.cells #[.int .i64 mark, A, .int .i64 size] 89 (0, 0)))
    (hm : 1 ≤ mark ∧ mark ≤ 1073741824) (hs : 1 ≤ size ∧ size ≤ 64) :
    Calls Try.prog 48 #[.pointer (some ⟨g, 0, none⟩), .agg #[.int .i64 d.f0, .int .i64 d.f1, .slice A2 d.f2.length c2]] w fun e w' => e = .returned (.bool (oddD mark size d)) ∧ Below w.heap.size w w' := by
  obtain ⟨hm1, hm2⟩ := hm
  obtain ⟨hs1, hs2⟩ := hs
  have b0 := blk_cell hg 0
  have b2 := blk_cell hg 2
  have hlt := blk_lt hg
  simp at b0 b2
  clear hg
  have fin : ∀ b, oddD mark size d = b → ∀ (w' : World), Below w.heap.size w w' → (Ending.returned (.bool b) = .returned (.bool (oddD mark size d)) ∧ Below w.heap.size w w') := fun b hb w' h => ⟨by rw [hb], h⟩
  have fin' := Aside0.mk fin
  clear fin
  by_cases h0 : d.f0 < mark
  · have f0 : decide (d.f0 < mark) = true := decide_eq_true h0
    have HF : Aside0 (oddD mark size d = true) := ⟨by simp [oddD]; omega⟩
    clear h0
    go_enter Try.func48, Try.ntmps48
    go_wp2
    go_quiet (fail)
    go_wp2
    go_ret
    exact fin'.out _ HF.out _ (by repeat (first | exact Below.refl _ _ | apply below_alloc | apply pw_below_drewN | apply below_drew1))
  by_cases h1 : mark + size ≤ d.f0
  · have f0 : decide (d.f0 < mark) = false := decide_eq_false h0
    have f1 : decide (mark + size ≤ d.f0) = true := decide_eq_true h1
    have HF : Aside0 (oddD mark size d = true) := ⟨by simp [oddD]; omega⟩
    clear h0 h1
    go_enter Try.func48, Try.ntmps48
    go_wp2
    go_quiet (fail)
    go_wp2
    go_ret
    exact fin'.out _ HF.out _ (by repeat (first | exact Below.refl _ _ | apply below_alloc | apply pw_below_drewN | apply below_drew1))
  by_cases h2 : d.f1 < 0
  · have f0 : decide (d.f0 < mark) = false := decide_eq_false h0
    have f1 : decide (mark + size ≤ d.f0) = false := decide_eq_false h1
    have f2 : decide (d.f1 < 0) = true := decide_eq_true h2
    have HF : Aside0 (oddD mark size d = true) := ⟨by simp [oddD]; omega⟩
    clear h0 h1 h2
    go_enter Try.func48, Try.ntmps48
    go_wp2
    go_quiet (fail)
    go_wp2
    go_ret
    exact fin'.out _ HF.out _ (by repeat (first | exact Below.refl _ _ | apply below_alloc | apply pw_below_drewN | apply below_drew1))
  by_cases h3 : 1000 < d.f1
  · have f0 : decide (d.f0 < mark) = false := decide_eq_false h0
    have f1 : decide (mark + size ≤ d.f0) = false := decide_eq_false h1
    have f2 : decide (d.f1 < 0) = false := decide_eq_false h2
    have f3 : decide (1000 < d.f1) = true := decide_eq_true h3
    have HF : Aside0 (oddD mark size d = true) := ⟨by simp [oddD]; omega⟩
    clear h0 h1 h2 h3
    go_enter Try.func48, Try.ntmps48
    go_wp2
    go_quiet (fail)
    go_wp2
    go_ret
    exact fin'.out _ HF.out _ (by repeat (first | exact Below.refl _ _ | apply below_alloc | apply pw_below_drewN | apply below_drew1))
  by_cases h4 : (1024 : Int) < d.f2.length
  · have f0 : decide (d.f0 < mark) = false := decide_eq_false h0
    have f1 : decide (mark + size ≤ d.f0) = false := decide_eq_false h1
    have f2 : decide (d.f1 < 0) = false := decide_eq_false h2
    have f3 : decide (1000 < d.f1) = false := decide_eq_false h3
    have f4 : decide ((1024 : Int) < d.f2.length) = true := decide_eq_true h4
    have f5 : decide (1024 < d.f2.length) = true := decide_eq_true (by omega)
    have HF : Aside0 (oddD mark size d = true) := ⟨by simp [oddD]; omega⟩
    clear h0 h1 h2 h3 h4
    go_enter Try.func48, Try.ntmps48
    go_wp2
    go_quiet (fail)
    go_wp2
    go_ret
    exact fin'.out _ HF.out _ (by repeat (first | exact Below.refl _ _ | apply below_alloc | apply pw_below_drewN | apply below_drew1))
  have f0 : decide (d.f0 < mark) = false := decide_eq_false h0
  have f1 : decide (mark + size ≤ d.f0) = false := decide_eq_false h1
  have f2 : decide (d.f1 < 0) = false := decide_eq_false h2
  have f3 : decide (1000 < d.f1) = false := decide_eq_false h3
  have f4 : decide ((1024 : Int) < d.f2.length) = false := decide_eq_false h4
  have f5 : decide (1024 < d.f2.length) = false := decide_eq_false (by omega)
  have HF : Aside0 (oddD mark size d = false) := ⟨by simp [oddD]; omega⟩
  clear h0 h1 h2 h3 h4
  go_enter Try.func48, Try.ntmps48
  go_wp2
  go_quiet (fail)
  go_wp2
  go_ret
  exact fin'.out _ HF.out _ (by repeat (first | exact Below.refl _ _ | apply below_alloc | apply pw_below_drewN | apply below_drew1))
set_option maxHeartbeats 2000000 in
set_option maxRecDepth 100000 in
theorem index_odd (g : Nat) (mark size : Int) (A : Value) (B : Option Addr) (c : Nat) (l : List S51) (w : World) (hr : Kd.C k51 w B l.length l) (hc : l.length ≤ c) (hg : w.heap[g]? = some (.cells #[.int .i64 mark, A, .int .i64 size] 89 (0, 0)))
    (hm : 1 ≤ mark ∧ mark ≤ 1073741824) (hs : 1 ≤ size ∧ size ≤ 64) :
    Calls Try.prog 54 #[.slice B l.length c, .func (.func 48) #[.pointer (some ⟨g, 0, none⟩)] #[]] w
      fun e w' => Aside0 (∃ i : Int, e = .returned (.int .i64 i) ∧ decide (0 ≤ i) = l.any (oddD mark size)) ∧ Below w.heap.size w w' := by
  have HR := Aside0.mk hr
  have HC := Aside0.mk hc
  have HG := Aside0.mk hg
  have HM := Aside0.mk hm
  have HS := Aside0.mk hs
  have hlen : l.length ≤ 9223372036854775807 := hr.2.1
  clear hr hc hg hm hs
  go_enter Try.func54, Try.ntmps54
  go_wp2
  go_loopw [8] (fun v8 wr => ∃ k : Nat, v8 = .int .i64 k ∧ k ≤ l.length ∧ Aside0 ((l.take k).any (oddD mark size) = false) ∧ Aside0 (Below w.heap.size w wr)) (fun v8 _ => l.length - (intOf v8).toNat)
  case atStart => exact ⟨0, rfl, by omega, ⟨by simp⟩, ⟨Below.refl _ _⟩⟩
  case round =>
    obtain ⟨k, rfl, hk, HT, HB⟩ := hrel
    by_cases hlt : k < l.length
    · obtain ⟨ad, A2, c2, e1, q0, q1, q2, q3, q4⟩ := at_T51 (Kd.C_below HR.out HB.out) (k : Int) (by omega) (by omega)
      simp only [Int.toNat_natCast] at q0 q1 q2
      obtain ⟨d, hd⟩ : ∃ d, d = rd_T51 l (k : Int) := ⟨_, rfl⟩
      rw [← hd] at q0 q1 q2
      have HD : Aside0 (l.take (k + 1) = l.take k ++ [d]) := ⟨by
        rw [List.take_succ_eq_append_getElem hlt, hd]; simp [rd_T51, List.getElem?_eq_getElem hlt]⟩
      have HDm : Aside0 (d ∈ l) := ⟨by rw [hd]; simp [rd_T51, List.getElem?_eq_getElem hlt]⟩
      have b1 : decide (k < l.length) = true := decide_eq_true hlt
      have hG := HB.out.block g (blk_lt HG.out)
      have HGr : Aside0 (wr.heap[g]? = some (.cells #[.int .i64 mark, A, .int .i64 size] 89 (0, 0))) := ⟨hG.trans HG.out⟩
      clear q3 q4 hG hd
      subst e1
      by_cases ho : oddD mark size d = true
      · go_wp2_with (go_at_call 48; (with_reducible refine (window_odd g mark size A d A2 _ _ HGr.out HM.out HS.out).mono ?_); rintro e w1 ⟨rfl, hb⟩; have HB1 := Aside0.mk hb; clear hb)
        have HA : Aside0 (l.any (oddD mark size) = true) := ⟨List.any_eq_true.2 ⟨d, HDm.out, ho⟩⟩
        go_ret
        exact ⟨⟨(k : Int), rfl, by rw [HA.out]; exact decide_eq_true (by omega)⟩, below_then HB.out HB.out.size HB1.out⟩
      · have ho' : oddD mark size d = false := by simpa using ho
        have HT' : Aside0 ((l.take (k + 1)).any (oddD mark size) = false) := ⟨by rw [HD.out, List.any_append, HT.out]; simp [ho']⟩
        clear ho
        go_wp2_with (go_at_call 48; (with_reducible refine (window_odd g mark size A d A2 _ _ HGr.out HM.out HS.out).mono ?_); rintro e w1 ⟨rfl, hb⟩; have HB1 := Aside0.mk hb; clear hb)
        go_roundw
        case rel => exact ⟨k + 1, by go_num, by omega, HT', ⟨below_then HB.out HB.out.size HB1.out⟩⟩
        case measure => simp [intOf]; omega
    · have b1 : decide (k < l.length) = false := decide_eq_false hlt
      have HA : Aside0 (l.any (oddD mark size) = false) := ⟨by have := HT.out; rwa [List.take_of_length_le (by omega)] at this⟩
      go_wp2
      go_ret
      exact ⟨⟨(-1 : Int), rfl, by rw [HA.out]; rfl⟩, HB.out⟩
set_option maxHeartbeats 2000000 in
set_option maxRecDepth 100000 in
theorem contains_odd (g : Nat) (mark size : Int) (A : Value) (B : Option Addr) (c : Nat) (l : List S51) (w : World) (hr : Kd.C k51 w B l.length l) (hc : l.length ≤ c) (hg : w.heap[g]? = some (.cells #[.int .i64 mark, A, .int .i64 size] 89 (0, 0)))
    (hm : 1 ≤ mark ∧ mark ≤ 1073741824) (hs : 1 ≤ size ∧ size ≤ 64) :
    Calls Try.prog 47 #[.slice B l.length c, .func (.func 48) #[.pointer (some ⟨g, 0, none⟩)] #[]] w
      fun e w' => e = .returned (.bool (l.any (oddD mark size))) ∧ Below w.heap.size w w' := by
  have H := fun W hr hg => index_odd g mark size A B c l W hr hc hg hm hs
  have H1 := Aside0.mk (H w hr hg)
  clear H hr hc hg hm hs
  go_enter Try.func47, Try.ntmps47
  go_wp2_with (go_at_call 54; (with_reducible refine (H1.out).mono ?_); rintro e w1 ⟨⟨i, rfl, hi⟩, hb⟩; have HI := Aside0.mk hi; have HB := Aside0.mk hb; clear hi hb)
  go_ret
  exact ⟨by simp [HI.out], HB.out⟩
set_option maxHeartbeats 2000000 in
set_option maxRecDepth 100000 in
theorem rises_any (B : Option Addr) (c : Nat) (l : List S51) (w : World) (hr : Kd.C k51 w B l.length l) (hc : l.length ≤ c) :
    Calls Try.prog 49 #[.slice B l.length c] w fun e w' => e = .returned (.bool (risesD l)) ∧ Drawn0 w w' := by
  have HR := Aside0.mk hr
  have hlen : l.length ≤ 9223372036854775807 := hr.2.1
  clear hr hc
  go_enter Try.func49, Try.ntmps49
  go_wp2
  go_loopw [6] (fun v6 wr => ∃ k : Nat, v6 = .int .i64 k ∧ k ≤ l.length ∧ Aside0 (risesD (l.take k) = true) ∧ Drawn0 w wr) (fun v6 _ => l.length - (intOf v6).toNat)
  case atStart => exact ⟨0, rfl, by omega, ⟨by simp [risesD]⟩, Drawn0.refl _⟩
  case round =>
    obtain ⟨k, rfl, hk, HT, ⟨m, rfl⟩⟩ := hrel
    have HDr : Aside0 (Drawn0 w (w.drewN m)) := ⟨⟨m, rfl⟩⟩
    by_cases hlt : k < l.length
    · have b1 : decide (k < l.length) = true := decide_eq_true hlt
      rcases Nat.eq_zero_or_pos k with h0 | h0
      · subst h0
        have HT' : Aside0 (risesD (l.take (0 + 1)) = true) := ⟨by
          rw [List.take_succ_eq_append_getElem hlt]; simp [risesD]⟩
        go_wp2
        go_quiet (fail)
        go_wp2
        go_roundw
        case rel => exact ⟨1, rfl, by omega, HT', (by first | exact ⟨⟨_, rfl⟩⟩ | exact HDr.out.step nq)⟩
        case measure => simp [intOf]; omega
      · obtain ⟨ad, A2, c2, e1, q0, q1, q2, q3, q4⟩ := at_T51 HR.out (k : Int) (by omega) (by omega)
        obtain ⟨ad', A3, c3, e2, p0, p1, p2, p3, p4⟩ := at_T51 HR.out ((k : Int) - 1) (by omega) (by omega)
        have HS := Aside0.mk (rises_step l k h0 hlt)
        have f1 : (rd_T51 l (k : Int)).f0 = (l.getD k z51).f0 := by simp [rd_T51]
        have f2 : (rd_T51 l ((k : Int) - 1)).f0 = (l.getD (k - 1) z51).f0 := by
          have : ((k : Int) - 1).toNat = k - 1 := by omega
          simp [rd_T51, this]
        rw [e1] at e2
        obtain rfl := Option.some.inj e2
        rw [f1] at q0
        rw [f2] at p0
        have n1 : ((k : Int) - 1).toNat = k - 1 := by omega
        simp only [Int.toNat_natCast] at q0
        rw [n1] at p0
        clear q1 q2 q3 q4 p1 p2 p3 p4 f1 f2 e2
        obtain ⟨x, hx⟩ : ∃ x, x = (l.getD k z51).f0 := ⟨_, rfl⟩
        obtain ⟨y, hy⟩ : ∃ y, y = (l.getD (k - 1) z51).f0 := ⟨_, rfl⟩
        rw [← hx] at q0
        rw [← hy] at p0
        have HS' : Aside0 (risesD (l.take (k + 1)) = decide (y < x)) := ⟨by rw [HS.out, HT.out, hx, hy]; rfl⟩
        clear HS hx hy
        have c0 : decide ((0 : Int) < k) = true := decide_eq_true (by omega)
        have c1 : (0 : Int) ≤ (k : Int) - 1 := by omega
        have cw : IntKind.i64.wrap ((k : Int) - 1) = (k : Int) - 1 := by rw [IntKind.wrap_i64]; omega
        have c2' : (k : Int) - 1 < (l.length : Int) := by omega
        subst e1
        by_cases hxy : x ≤ y
        · have d1 : decide (x ≤ y) = true := decide_eq_true hxy
          have HA : Aside0 (risesD l = false) := ⟨rises_false l (k + 1) (by rw [HS'.out]; exact decide_eq_false (by omega))⟩
          clear hxy
          go_wp2
          go_quiet (fail)
          go_wp2
          go_ret
          exact ⟨by rw [HA.out]; rfl, (by first | exact ⟨⟨_, rfl⟩⟩ | exact HDr.out.step nq)⟩
        · have d1 : decide (x ≤ y) = false := decide_eq_false hxy
          have HT' : Aside0 (risesD (l.take (k + 1)) = true) := ⟨by rw [HS'.out]; exact decide_eq_true (by omega)⟩
          clear hxy
          go_wp2
          go_quiet (fail)
          go_wp2
          go_roundw
          case rel => exact ⟨k + 1, by go_num, by omega, HT', (by first | exact ⟨⟨_, rfl⟩⟩ | exact HDr.out.step nq)⟩
          case measure => simp [intOf]; omega
    · have b1 : decide (k < l.length) = false := decide_eq_false hlt
      have HA : Aside0 (risesD l = true) := ⟨by have := HT.out; rwa [List.take_of_length_le (by omega)] at this⟩
      go_wp2
      go_ret
      exact ⟨by rw [HA.out]; rfl, HDr.out⟩
def window_Check.f (a0_0 : Int) (l0_1 : List (S51)) (a1 : Int) : Option (Int) := some (checkW a0_0 l0_1 a1)
set_option maxHeartbeats 2000000 in
set_option maxRecDepth 100000 in
theorem window_Check.calls (a0_0 : Int) (A0_1 : Option Addr) (c0_1 : Nat) (l0_1 : List (S51)) (a1 : Int) (r : Int) (w : World) (hr0_1 : Kd.C k51 w A0_1 l0_1.length l0_1) (hc0_1 : l0_1.length ≤ c0_1) (h : window_Check.f a0_0 l0_1 a1 = some r) :
    Calls Try.prog 35 #[.agg #[.int .i64 a0_0, .slice A0_1 l0_1.length c0_1], .int .i64 a1] w fun e w' => e = .returned (.int .i64 r) ∧ Below w.heap.size w w' := by
  unfold window_Check.f at h
  obtain rfl := Option.some.inj h
  clear h
  have HR := Aside0.mk hr0_1
  have HC := Aside0.mk hc0_1
  clear hr0_1 hc0_1
  have HODD := fun (W : World) (g : Nat) hg hm hs hr => Aside0.mk (contains_odd g a0_0 a1 (.slice A0_1 l0_1.length c0_1) A0_1 c0_1 l0_1 W hr HC.out hg hm hs)
  have HRI := fun (W : World) hr => Aside0.mk (rises_any A0_1 c0_1 l0_1 W hr HC.out)
  have HO' := Aside0.mk HODD
  have HI' := Aside0.mk HRI
  clear HODD HRI
  by_cases h0 : a1 < 1 ∨ 64 < a1
  · have HE : Aside0 (checkW a0_0 l0_1 a1 = 4) := ⟨by unfold checkW; rw [if_pos h0]⟩
    rw [HE.out]
    rcases h0 with h0 | h0
    · have b0 : decide (a1 < 1) = true := decide_eq_true h0
      clear h0
      go_enter Try.func35, Try.ntmps35
      go_wp2
      go_ret
      exact ⟨rfl, by repeat (first | exact Below.refl _ _ | apply below_alloc | apply pw_below_drewN | apply below_drew1)⟩
    · have b0 : decide (a1 < 1) = false := decide_eq_false (by omega)
      have b1 : decide (64 < a1) = true := decide_eq_true h0
      clear h0
      go_enter Try.func35, Try.ntmps35
      go_wp2
      go_ret
      exact ⟨rfl, by repeat (first | exact Below.refl _ _ | apply below_alloc | apply pw_below_drewN | apply below_drew1)⟩
  · have b0 : decide (a1 < 1) = false := decide_eq_false (by omega)
    have b1 : decide (64 < a1) = false := decide_eq_false (by omega)
    by_cases hm : a0_0 < 1 ∨ 1073741824 < a0_0
    · have HE : Aside0 (checkW a0_0 l0_1 a1 = 9) := ⟨by unfold checkW; rw [if_neg h0, if_pos (Or.inl hm)]⟩
      rw [HE.out]
      clear h0
      rcases hm with hm | hm
      · have b2 : decide (a0_0 < 1) = true := decide_eq_true hm
        clear hm
        go_enter Try.func35, Try.ntmps35
        go_wp2
        go_ret
        exact ⟨rfl, by repeat (first | exact Below.refl _ _ | apply below_alloc | apply pw_below_drewN | apply below_drew1)⟩
      · have b2 : decide (a0_0 < 1) = false := decide_eq_false (by omega)
        have b3 : decide (1073741824 < a0_0) = true := decide_eq_true hm
        clear hm
        go_enter Try.func35, Try.ntmps35
        go_wp2
        go_ret
        exact ⟨rfl, by repeat (first | exact Below.refl _ _ | apply below_alloc | apply pw_below_drewN | apply below_drew1)⟩
    · have b2 : decide (a0_0 < 1) = false := decide_eq_false (by omega)
      have b3 : decide (1073741824 < a0_0) = false := decide_eq_false (by omega)
      have HM : Aside0 (1 ≤ a0_0 ∧ a0_0 ≤ 1073741824) := ⟨by omega⟩
      have HS : Aside0 (1 ≤ a1 ∧ a1 ≤ 64) := ⟨by omega⟩
      by_cases ha : l0_1.any (oddD a0_0 a1) = true
      · have HE : Aside0 (checkW a0_0 l0_1 a1 = 9) := ⟨by unfold checkW; rw [if_neg h0, if_pos (Or.inr (Or.inl ha))]⟩
        rw [HE.out]
        clear h0 hm
        go_enter Try.func35, Try.ntmps35
        go_wp2_with (go_at_call 47; (with_reducible refine ((HO'.out _ (w.heap.size + 1) ?hg HM.out HS.out ?hr).out).mono ?_); (case hg => exact heap_new2 _ _ _); (case hr => exact Kd.C_alloc (Kd.C_alloc HR.out _) _); rintro e w1 ⟨rfl, hb⟩; have HB1 := Aside0.mk (below_then (below_alloc (below_alloc (Below.refl _ _) _) _) (by simp; omega) hb); have hcell1 : w1.cell? ⟨w.heap.size, 1, none⟩ = some (.slice A0_1 l0_1.length c0_1) := (hb.cell (p := ⟨w.heap.size, 1, none⟩) (by simp; omega)).trans (cell_in2 _ _ _ _ 1); clear hb)
        go_ret
        exact ⟨rfl, HB1.out⟩
      · have ha' : l0_1.any (oddD a0_0 a1) = false := by simpa using ha
        by_cases hri : risesD l0_1 = true
        · have HE : Aside0 (checkW a0_0 l0_1 a1 = 0) := ⟨by unfold checkW; rw [if_neg h0, if_neg (by rintro (hx | hx | hx); exact absurd hx hm; rw [ha'] at hx; cases hx; rw [hri] at hx; cases hx)]⟩
          rw [HE.out]
          clear h0 hm ha
          go_enter Try.func35, Try.ntmps35
          go_wp2_with (first | (go_at_call 47; (with_reducible refine ((HO'.out _ (w.heap.size + 1) ?hg HM.out HS.out ?hr).out).mono ?_); (case hg => exact heap_new2 _ _ _); (case hr => exact Kd.C_alloc (Kd.C_alloc HR.out _) _); rintro e w1 ⟨rfl, hb⟩; have HB1 := Aside0.mk (below_then (below_alloc (below_alloc (Below.refl _ _) _) _) (by simp; omega) hb); have hcell1 : w1.cell? ⟨w.heap.size, 1, none⟩ = some (.slice A0_1 l0_1.length c0_1) := (hb.cell (p := ⟨w.heap.size, 1, none⟩) (by simp; omega)).trans (cell_in2 _ _ _ _ 1); clear hb) | (go_at_call 49; (with_reducible refine ((HI'.out _ ?hr2).out).mono ?_); (case hr2 => exact Kd.C_below HR.out HB1.out); rintro e w2 ⟨rfl, ⟨nd, rfl⟩⟩))
          go_ret
          exact ⟨rfl, pw_below_drewN HB1.out _⟩
        · have hri' : risesD l0_1 = false := by simpa using hri
          have HE : Aside0 (checkW a0_0 l0_1 a1 = 9) := ⟨by unfold checkW; rw [if_neg h0, if_pos (Or.inr (Or.inr hri'))]⟩
          rw [HE.out]
          clear h0 hm ha hri
          go_enter Try.func35, Try.ntmps35
          go_wp2_with (first | (go_at_call 47; (with_reducible refine ((HO'.out _ (w.heap.size + 1) ?hg HM.out HS.out ?hr).out).mono ?_); (case hg => exact heap_new2 _ _ _); (case hr => exact Kd.C_alloc (Kd.C_alloc HR.out _) _); rintro e w1 ⟨rfl, hb⟩; have HB1 := Aside0.mk (below_then (below_alloc (below_alloc (Below.refl _ _) _) _) (by simp; omega) hb); have hcell1 : w1.cell? ⟨w.heap.size, 1, none⟩ = some (.slice A0_1 l0_1.length c0_1) := (hb.cell (p := ⟨w.heap.size, 1, none⟩) (by simp; omega)).trans (cell_in2 _ _ _ _ 1); clear hb) | (go_at_call 49; (with_reducible refine ((HI'.out _ ?hr2).out).mono ?_); (case hr2 => exact Kd.C_below HR.out HB1.out); rintro e w2 ⟨rfl, ⟨nd, rfl⟩⟩))
          go_ret
          exact ⟨rfl, pw_below_drewN HB1.out _⟩
end Go.Proofs.Ythfjgfldmkdlnaa.G
end
