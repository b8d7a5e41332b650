/- SessionOwn: texts of this claim, packed: what the kit's print has written for it and own texts, without what its proof does not reach. -/
import Derived.Test.YthfjgfldmkdlnaaKSessionOwn11
import Derived.Test.YthfjgfldmkdlnaaKSessionOwn12
set_option linter.unusedVariables false
set_option linter.unusedSimpArgs false
set_option linter.unusedSectionVars false
section
namespace Go.Proofs.Ythfjgfldmkdlnaa.G
open WB Go.RowKit Go.Proofs.YthfjgfldmkdlnaaW.PrintWords Go.Proofs.YthfjgfldmkdlnaaW.PrintLast Go.Proofs.YthfjgfldmkdlnaaW.PrintMore
attribute [local go_sem] max2_int min2_int max_two min_two max_three min_three max_four min_four   -- for this text's walks alone
set_option linter.unusedVariables false
set_option linter.unusedSimpArgs false
def session_rises.l0 : Nat → List (S38) → Int → Int → Option (Bool)
  | 0, _, _, _ => none
  | k + 1, x0, x5, x6 => if x6 < x5 then (if x6 > 0 then (if 0 ≤ x6 then (if x6 < (x0.length : Int) then (if 0 ≤ (wrap64 (x6 - 1)) then (if (wrap64 (x6 - 1)) < (x0.length : Int) then (if ((rd_T38 x0 x6).f0) ≤ ((rd_T38 x0 (wrap64 (x6 - 1))).f0) then (some false) else (session_rises.l0 k x0 x5 (wrap64 (x6 + 1)))) else (none)) else (none)) else (none)) else (none)) else (session_rises.l0 k x0 x5 (wrap64 (x6 + 1)))) else (some true)
def session_rises.f (k : Nat) (l0 : List (S38)) : Option (Bool) := session_rises.l0 k l0 (l0.length : Int) 0
theorem session_rises.mono_l : ∀ k, (∀ y0 y1 y2, LeO (session_rises.l0 k y0 y1 y2) (session_rises.l0 (k + 1) y0 y1 y2))
  | 0 => fun _ _ _ r h => by simp [session_rises.l0] at h
  | k + 1 => by
    have ih0 := session_rises.mono_l k
    · intro y0 y1 y2
      unfold session_rises.l0
      repeat' first
      | (with_reducible exact ih0 _ _ _)
      | (with_reducible exact LeO.refl _)
      | (with_reducible exact LeO.none _)
      | (with_reducible refine LeO.ite ?_ ?_)
      | (with_reducible refine LeO.bind ?_ (fun _ => ?_))
      | exact ih0 _ _ _
      | exact LeO.none _
      | refine LeO.ite ?_ ?_
      | refine LeO.bind ?_ (fun _ => ?_)
theorem session_rises.mono : ∀ a0 k, LeO (session_rises.f k a0) (session_rises.f (k + 1) a0) := by
  intro a0 k
  have ih0 := session_rises.mono_l k
  unfold session_rises.f
  repeat' first
      | (with_reducible exact ih0 _ _ _)
      | (with_reducible exact LeO.refl _)
      | (with_reducible exact LeO.none _)
      | (with_reducible refine LeO.ite ?_ ?_)
      | (with_reducible refine LeO.bind ?_ (fun _ => ?_))
      | exact ih0 _ _ _
      | exact LeO.none _
      | refine LeO.ite ?_ ?_
      | refine LeO.bind ?_ (fun _ => ?_)
set_option maxHeartbeats 8000000 in
set_option maxRecDepth 100000 in
theorem session_rises.calls (k : Nat) (A0 : Option Addr) (c0 : Nat) (l0 : List (S38)) (r : Bool) (w : World) (hr0 : Kd.C k38 w A0 l0.length l0) (hc0 : l0.length ≤ c0) (h : session_rises.f k l0 = some r) :
    Calls Try.prog 45 #[.slice A0 l0.length c0] w fun e w' => e = .returned (.bool r) ∧ Drawn0 w w' := by
  have HR0 := Aside0.mk hr0
  have HC0 := Aside0.mk hc0
  clear hr0 hc0
  have H : (session_rises.l0 k l0 (l0.length : Int) 0) = some r := h
  clear h
  have H' := Aside0.mk H
  clear H
  go_enter Try.func45, Try.ntmps45
  go_wp2
  repeat (go_quiet (fail); try go_wp2)
  go_loopg [6] k (fun kq v6 w' => ∃ (x6_1 : Int), v6 = .int .i64 x6_1 ∧ Aside0 (session_rises.l0 kq l0 (l0.length : Int) x6_1 = some r) ∧ Aside0 (kq ≤ k) ∧ Drawn0 w w')
  case atStart => exact ⟨(0), (by first | rfl | (simp; done) | (simp [*]; done)), H', ⟨Nat.le_refl _⟩, by repeat (first | exact Drawn0.refl _ | apply Drawn0.step)⟩
  case round =>
    clear H'
    obtain ⟨x6_1, rfl, HA, HK1, ⟨m1, rfl⟩⟩ := hrel
    cases gk with
    | zero => exact absurd HA.out (by simp [session_rises.l0])
    | succ k1 =>
      have H := HA.out
      clear HA
      simp only [session_rises.l0] at H
      by_cases c2 : x6_1 < (l0.length : Int)
      · rw [if_pos c2] at H
        have c2b0 : decide (x6_1 < (l0.length : Int)) = true := decide_eq_true c2
        clear c2
        by_cases c3 : x6_1 > 0
        · rw [if_pos c3] at H
          have c3b0 : decide (0 < x6_1) = true := decide_eq_true c3
          clear c3
          by_cases c4 : 0 ≤ x6_1
          · rw [if_pos c4] at H
            have c4b0 : decide (0 ≤ x6_1) = true := decide_eq_true c4
            clear c4
            by_cases c5 : x6_1 < (l0.length : Int)
            · rw [if_pos c5] at H
              have c5b0 : decide (x6_1 < (l0.length : Int)) = true := decide_eq_true c5
              clear c5
              obtain ⟨ji6, hji6⟩ : ∃ j_ : Int, (wrap64 (x6_1 - 1)) = j_ := ⟨_, rfl⟩
              replace H : (if 0 ≤ (ji6) then (if (ji6) < (l0.length : Int) then (if ((rd_T38 l0 x6_1).f0) ≤ ((rd_T38 l0 (ji6)).f0) then (some false) else (session_rises.l0 k1 l0 (l0.length : Int) (wrap64 (x6_1 + 1)))) else (none)) else (none)) = some r := by first | (rw [hji6] at H; exact H) | (simp only [hji6] at H ⊢; exact H)
              have hji6w : (IntKind.i64.wrap (x6_1 - 1)) = ji6 := (i64_w _).trans hji6
              by_cases c7 : 0 ≤ (ji6)
              · rw [if_pos c7] at H
                have c7b0 : decide (0 ≤ (ji6)) = true := decide_eq_true c7
                clear c7
                by_cases c8 : (ji6) < (l0.length : Int)
                · rw [if_pos c8] at H
                  have c8b0 : decide ((ji6) < (l0.length : Int)) = true := decide_eq_true c8
                  clear c8
                  by_cases c9 : ((rd_T38 l0 x6_1).f0) ≤ ((rd_T38 l0 (ji6)).f0)
                  · rw [if_pos c9] at H
                    have c9b0 : decide (((rd_T38 l0 x6_1).f0) ≤ ((rd_T38 l0 (ji6)).f0)) = true := decide_eq_true c9
                    clear c9
                    obtain rfl := Option.some.inj H
                    simp only [Option.some.injEq, Prod.mk.injEq] at H
                    obtain ⟨rfl⟩ := H
                    have p107 : 0 ≤ (x6_1 : Int) := of_decide_eq_true (by first | (with_reducible assumption) | assumption)
                    have q107 : x6_1 < (l0.length : Int) := of_decide_eq_true (by first | (with_reducible assumption) | assumption)
                    obtain ⟨ad107, A107_4, c107_4, e107, hx107_0, hx107_1, hx107_2, hx107_3, hx107_4, hl107_4, hi107_4⟩ := at_T38 HR0.out x6_1 p107 q107
                    cases e107
                    have HR107_4 := Aside0.mk hi107_4
                    have HC107_4 := Aside0.mk hl107_4
                    clear hi107_4 hl107_4
                    replace p107 := eq_true p107
                    replace q107 := eq_true q107
                    have p108 : 0 ≤ ((ji6) : Int) := of_decide_eq_true (by first | (with_reducible assumption) | assumption)
                    have q108 : (ji6) < (l0.length : Int) := of_decide_eq_true (by first | (with_reducible assumption) | assumption)
                    obtain ⟨ad108, A108_4, c108_4, e108, hx108_0, hx108_1, hx108_2, hx108_3, hx108_4, hl108_4, hi108_4⟩ := at_T38 HR0.out (ji6) p108 q108
                    obtain rfl : ad107 = ad108 := (by injection e108)
                    have HR108_4 := Aside0.mk hi108_4
                    have HC108_4 := Aside0.mk hl108_4
                    clear hi108_4 hl108_4
                    replace p108 := eq_true p108
                    replace q108 := eq_true q108
                    go_wp2
                    repeat (go_quiet (fail); try go_wp2)
                    go_ret
                    exact ⟨by first | rfl | (simp; done) | (simp only [← hji6] <;> (first | rfl | simp)) | (simp [*]; done), by repeat (first | exact Drawn0.refl _ | apply Drawn0.step)⟩
                  · rw [if_neg c9] at H
                    have c9b0 : decide (((rd_T38 l0 x6_1).f0) ≤ ((rd_T38 l0 (ji6)).f0)) = false := decide_eq_false c9
                    clear c9
                    have H' := Aside0.mk H
                    clear H
                    have p107 : 0 ≤ (x6_1 : Int) := of_decide_eq_true (by first | (with_reducible assumption) | assumption)
                    have q107 : x6_1 < (l0.length : Int) := of_decide_eq_true (by first | (with_reducible assumption) | assumption)
                    obtain ⟨ad107, A107_4, c107_4, e107, hx107_0, hx107_1, hx107_2, hx107_3, hx107_4, hl107_4, hi107_4⟩ := at_T38 HR0.out x6_1 p107 q107
                    cases e107
                    have HR107_4 := Aside0.mk hi107_4
                    have HC107_4 := Aside0.mk hl107_4
                    clear hi107_4 hl107_4
                    replace p107 := eq_true p107
                    replace q107 := eq_true q107
                    have p108 : 0 ≤ ((ji6) : Int) := of_decide_eq_true (by first | (with_reducible assumption) | assumption)
                    have q108 : (ji6) < (l0.length : Int) := of_decide_eq_true (by first | (with_reducible assumption) | assumption)
                    obtain ⟨ad108, A108_4, c108_4, e108, hx108_0, hx108_1, hx108_2, hx108_3, hx108_4, hl108_4, hi108_4⟩ := at_T38 HR0.out (ji6) p108 q108
                    obtain rfl : ad107 = ad108 := (by injection e108)
                    have HR108_4 := Aside0.mk hi108_4
                    have HC108_4 := Aside0.mk hl108_4
                    clear hi108_4 hl108_4
                    replace p108 := eq_true p108
                    replace q108 := eq_true q108
                    go_wp2
                    repeat (go_quiet (fail); try go_wp2)
                    go_roundg k1
                    case measure => have := HK1.out; omega
                    case rel => exact ⟨(wrap64 (x6_1 + 1)), (by first | rfl | (simp; done) | (simp [*]; done)), H', ⟨by have := HK1.out; omega⟩, by repeat (first | exact Drawn0.refl _ | apply Drawn0.step)⟩
                · rw [if_neg c8] at H
                  exact absurd H (by simp)
              · rw [if_neg c7] at H
                exact absurd H (by simp)
            · rw [if_neg c5] at H
              exact absurd H (by simp)
          · rw [if_neg c4] at H
            exact absurd H (by simp)
        · rw [if_neg c3] at H
          have c3b0 : decide (0 < x6_1) = false := decide_eq_false c3
          clear c3
          have H' := Aside0.mk H
          clear H
          go_wp2
          repeat (go_quiet (fail); try go_wp2)
          go_roundg k1
          case measure => have := HK1.out; omega
          case rel => exact ⟨(wrap64 (x6_1 + 1)), (by first | rfl | (simp; done) | (simp [*]; done)), H', ⟨by have := HK1.out; omega⟩, by repeat (first | exact Drawn0.refl _ | apply Drawn0.step)⟩
      · rw [if_neg c2] at H
        have c2b0 : decide (x6_1 < (l0.length : Int)) = false := decide_eq_false c2
        clear c2
        obtain rfl := Option.some.inj H
        simp only [Option.some.injEq, Prod.mk.injEq] at H
        obtain ⟨rfl⟩ := H
        go_wp2
        repeat (go_quiet (fail); try go_wp2)
        go_ret
        exact ⟨by first | rfl | (simp; done) | (simp [*]; done), by repeat (first | exact Drawn0.refl _ | apply Drawn0.step)⟩
end Go.Proofs.Ythfjgfldmkdlnaa.G
end

section
namespace Go.Proofs.Ythfjgfldmkdlnaa.G
open WB Go.RowKit Go.Proofs.YthfjgfldmkdlnaaW.PrintWords Go.Proofs.YthfjgfldmkdlnaaW.PrintLast Go.Proofs.YthfjgfldmkdlnaaW.PrintMore
attribute [local go_sem] max2_int min2_int max_two min_two max_three min_three max_four min_four   -- for this text's walks alone
set_option linter.unusedVariables false
set_option linter.unusedSimpArgs false
theorem risesS_l0 (l : List S38) (hl : l.length ≤ 1000000) : ∀ (m i : Nat), i ≤ l.length → l.length - i < m → risesS (l.take i) = true → session_rises.l0 m l (l.length : Int) (i : Int) = some (risesS l)
  | 0, i, h, hm, _ => by omega
  | m + 1, i, h, hm, hr => by
    simp only [session_rises.l0]
    by_cases hi : i < l.length
    · have w2 : wrap64 ((i : Int) + 1) = ((i + 1 : Nat) : Int) := by unfold wrap64; omega
      rw [if_pos (by omega)]
      by_cases h0 : i = 0
      · subst h0
        rw [if_neg (by omega), w2]
        refine risesS_l0 l hl m 1 (by omega) (by omega) ?_
        obtain ⟨x, l', rfl⟩ : ∃ x l', l = x :: l' := by
          cases l with
          | nil => simp at hi
          | cons x l' => exact ⟨x, l', rfl⟩
        simp [risesS]
      · have w3 : wrap64 ((i : Int) - 1) = ((i - 1 : Nat) : Int) := by unfold wrap64; omega
        have e1 : rd_T38 l (i : Int) = l.getD i z38 := by simp [rd_T38]
        have e2 : rd_T38 l ((i - 1 : Nat) : Int) = l.getD (i - 1) z38 := by simp [rd_T38]
        have hs := risesS_step l i (by omega) hi
        rw [if_pos (by omega), if_pos (by omega), if_pos (by omega), w3, if_pos (by omega), if_pos (by omega), e1, e2, w2]
        by_cases hle : (l.getD i z38).f0 ≤ (l.getD (i - 1) z38).f0
        · rw [if_pos hle]
          rw [hr, Bool.true_and, decide_eq_false (by omega)] at hs
          rw [risesS_false l _ hs]
        · rw [if_neg hle]
          exact risesS_l0 l hl m (i + 1) (by omega) (by omega) (by rw [hs, hr, Bool.true_and]; exact decide_eq_true (by omega))
    · rw [if_neg (by omega)]
      rw [List.take_of_length_le (by omega)] at hr
      rw [hr]
theorem risesS_f (l : List S38) (hl : l.length ≤ 1000000) : session_rises.f (l.length + 1) l = some (risesS l) := risesS_l0 l hl _ 0 (by omega) (by omega) (by simp [risesS])
theorem odd_tests (l : List S38) (g : Nat) (s0 s1 s2 next tick : Int) (L : Value) (hn : 1 ≤ next ∧ next ≤ 1073741824) : Tests l 44 Try.f44 #[.pointer (some ⟨g, 0, none⟩)] #[] (oddS s2 next tick) (fun W => W.heap[g]? = some (.cells #[.int .i64 s0, .int .i64 s1, .int .i64 s2, L, .int .i64 next, .int .i64 tick] 76 (0, 0))) :=
  ⟨rfl, rfl, rfl, fun _ _ hb h => blk_below h hb, fun x _ A2 c2 W hg hc hr => table_odd g s0 s1 s2 next tick L x A2 c2 W hg hr hc hn⟩
/-- What ask leaves: the table, and all else as it was. -/
structure Table (w : World) (g : Nat) (L : Value) (s0 s1 s2 next tick : Int) (W : World) : Prop where
  b : W.heap[g]? = some (.cells #[.int .i64 s0, .int .i64 s1, .int .i64 s2, L, .int .i64 next, .int .i64 tick] 76 (0, 0))
  ge : w.heap.size ≤ g
  bel : Below w.heap.size w W
theorem Table.below {w W W' : World} {g : Nat} {L : Value} {s0 s1 s2 next tick : Int} (h : Table w g L s0 s1 s2 next tick W) (hb : Below W.heap.size W W') : Table w g L s0 s1 s2 next tick W' := ⟨blk_below h.b hb, h.ge, below_then h.bel h.bel.size hb⟩
set_option maxHeartbeats 4000000 in
set_option maxRecDepth 100000 in
theorem session_ask (A : Option Addr) (c : Nat) (l : List S38) (s0 s1 s2 next tick : Int) (w : World) (hr : Kd.C k38 w A l.length l) (hc : l.length ≤ c) :
    Calls Try.prog 29 #[.slice A l.length c, .agg #[.int .i64 s0, .int .i64 s1, .int .i64 s2], .int .i64 next, .int .i64 tick] w fun e w' => ∃ g, e = .returned (.tuple #[.pointer (some ⟨g, 0, none⟩), .int .i64 (checkS l s0 s1 s2 next tick)]) ∧ Table w g (.slice A l.length c) s0 s1 s2 next tick w' := by
  have HR := Aside0.mk hr
  have HC := Aside0.mk hc
  have HT0 : Aside0 (Table w (w.heap.size + 1) (.slice A l.length c) s0 s1 s2 next tick ((w.alloc (.cells #[.int .i64 s0, .int .i64 s1, .int .i64 s2] 24)).alloc (.cells #[.int .i64 s0, .int .i64 s1, .int .i64 s2, .slice A l.length c, .int .i64 next, .int .i64 tick] 76))) := ⟨⟨heap_new2 _ _ _, by omega, below_alloc (below_alloc (Below.refl _ _) _) _⟩⟩
  have HS0 := Aside0.mk (blk_alloc (heap_new1 w (.cells #[.int .i64 s0, .int .i64 s1, .int .i64 s2] 24)) (.cells #[.int .i64 s0, .int .i64 s1, .int .i64 s2, .slice A l.length c, .int .i64 next, .int .i64 tick] 76))
  clear hr hc
  go_enter Try.func29, Try.ntmps29
  go_wp2_with fail
  go_at_call 42
  with_reducible refine (session_Sets.calls s0 s1 s2 (setsS s0 s1 s2) _ (sets_f s0 s1 s2)).mono ?_
  rintro e w1 ⟨rfl, hb⟩
  have HT1 := Aside0.mk (HT0.out.below hb)
  have HS1 := Aside0.mk (blk_below HS0.out hb)
  clear hb HT0 HS0
  by_cases h1 : setsS s0 s1 s2 = true
  · rw [h1]
    go_wp2_with fail
    go_at_call 30
    with_reducible refine (session_in.calls next 1 1073741824 (!outB next 1 1073741824) _ (in_f next 1 1073741824)).mono ?_
    rintro e w2 ⟨rfl, hd⟩
    have HT2 := Aside0.mk (HT1.out.below hd.below)
    have HS2 := Aside0.mk (blk_below HS1.out hd.below)
    clear hd HT1 HS1
    by_cases h2 : outB next 1 1073741824 = true
    · rw [h2]
      have HE : Aside0 (checkS l s0 s1 s2 next tick = 4) := ⟨by unfold checkS; rw [if_pos (.inr (.inl h2))]⟩
      go_wp2_with fail
      go_ret2
      exact ⟨_, by rw [HE.out]; rfl, HT2.out⟩
    · have h2' : outB next 1 1073741824 = false := Bool.of_not_eq_true h2
      have HN : Aside0 (1 ≤ next ∧ next ≤ 1073741824) := ⟨out_false.1 h2'⟩
      rw [h2']
      go_wp2_with fail
      go_at_call 30
      with_reducible refine (session_in.calls tick 0 536870912 (!outB tick 0 536870912) _ (in_f tick 0 536870912)).mono ?_
      rintro e w3 ⟨rfl, hd⟩
      have HT3 := Aside0.mk (HT2.out.below hd.below)
      have HS3 := Aside0.mk (blk_below HS2.out hd.below)
      clear hd HT2 HS2
      by_cases h3 : outB tick 0 536870912 = true
      · rw [h3]
        have HE : Aside0 (checkS l s0 s1 s2 next tick = 4) := ⟨by unfold checkS; rw [if_pos (.inr (.inr h3))]⟩
        go_wp2_with fail
        go_ret2
        exact ⟨_, by rw [HE.out]; rfl, HT3.out⟩
      · have h3' : outB tick 0 536870912 = false := Bool.of_not_eq_true h3
        rw [h3']
        have HE0 : Aside0 (checkS l s0 s1 s2 next tick = if (l.length : Int) > s0 ∨ l.any (oddS s2 next tick) = true ∨ risesS l = false then 9 else 0) := ⟨by unfold checkS; rw [if_neg (by rw [h1, h2', h3']; simp)]⟩
        have z0 : w3.cell? ⟨w.heap.size, 0, none⟩ = some (.int .i64 s0) := (blk_cell HS3.out 0).trans rfl
        have HSL : Aside0 (s0 ≤ 64) := ⟨(sets_true.1 h1).2.1⟩
        clear h1 h2 h2' h3 h3'
        by_cases h4 : s0 < (l.length : Int)
        · have d4 : decide (s0 < (l.length : Int)) = true := decide_eq_true h4
          have HE : Aside0 (checkS l s0 s1 s2 next tick = 9) := ⟨by rw [HE0.out, if_pos (.inl h4)]⟩
          clear h4
          go_wp2_with fail
          go_ret2
          exact ⟨_, by rw [HE.out]; rfl, HT3.out⟩
        · have d4 : decide (s0 < (l.length : Int)) = false := decide_eq_false h4
          have HL : Aside0 (l.length ≤ 1000000) := ⟨by have := HSL.out; omega⟩
          go_wp2_with fail
          go_at_call 43
          with_reducible refine (contains_sess A c l 44 Try.f44 #[.pointer (some ⟨w.heap.size + 1, 0, none⟩)] #[] (oddS s2 next tick) _ _ (odd_tests l _ s0 s1 s2 next tick (.slice A l.length c) HN.out) HT3.out.b (Kd.C_below HR.out HT3.out.bel) HC.out).mono ?_
          rintro e w4 ⟨rfl, hb⟩
          have HT4 := Aside0.mk (HT3.out.below hb)
          clear hb HT3 HS3 z0
          by_cases h5 : l.any (oddS s2 next tick) = true
          · have HE : Aside0 (checkS l s0 s1 s2 next tick = 9) := ⟨by rw [HE0.out, if_pos (.inr (.inl h5))]⟩
            rw [h5]
            go_wp2_with fail
            go_ret2
            exact ⟨_, by rw [HE.out]; rfl, HT4.out⟩
          · have h5' : l.any (oddS s2 next tick) = false := Bool.of_not_eq_true h5
            rw [h5']
            go_wp2_with fail
            go_at_call 45
            with_reducible refine (session_rises.calls (l.length + 1) A c l (risesS l) _ (Kd.C_below HR.out HT4.out.bel) HC.out (risesS_f l HL.out)).mono ?_
            rintro e w5 ⟨rfl, hd⟩
            have HT5 := Aside0.mk (HT4.out.below hd.below)
            clear hd HT4
            by_cases h6 : risesS l = true
            · have HE : Aside0 (checkS l s0 s1 s2 next tick = 0) := ⟨by rw [HE0.out, if_neg (by rw [h5', h6]; simp; omega)]⟩
              rw [h6]
              go_wp2_with fail
              go_ret2
              exact ⟨_, by rw [HE.out]; rfl, HT5.out⟩
            · have h6' : risesS l = false := Bool.of_not_eq_true h6
              have HE : Aside0 (checkS l s0 s1 s2 next tick = 9) := ⟨by rw [HE0.out, if_pos (.inr (.inr h6'))]⟩
              rw [h6']
              go_wp2_with fail
              go_ret2
              exact ⟨_, by rw [HE.out]; rfl, HT5.out⟩
  · have h1' : setsS s0 s1 s2 = false := Bool.of_not_eq_true h1
    have HE : Aside0 (checkS l s0 s1 s2 next tick = 4) := ⟨by unfold checkS; rw [if_pos (.inl h1')]⟩
    rw [h1']
    go_wp2_with fail
    go_ret2
    exact ⟨_, by rw [HE.out]; rfl, HT1.out⟩
end Go.Proofs.Ythfjgfldmkdlnaa.G
end

section
namespace Go.Proofs.Ythfjgfldmkdlnaa.G
open WB Go.RowKit Go.Proofs.YthfjgfldmkdlnaaW.PrintWords Go.Proofs.YthfjgfldmkdlnaaW.PrintLast Go.Proofs.YthfjgfldmkdlnaaW.PrintMore
attribute [local go_sem] max2_int min2_int max_two min_two max_three min_three max_four min_four   -- for this text's walks alone
set_option linter.unusedVariables false
set_option linter.unusedSimpArgs false
def slices_Clone_byte_byte.f (l0 : List Int) : Option (List Int) := if l0.length < 140737488355328 then some l0 else none
set_option maxHeartbeats 1000000 in
set_option maxRecDepth 100000 in
theorem slices_Clone_byte_byte.calls (A0 : Option Addr) (c0 : Nat) (l0 : List Int) (r : List Int) (w : World) (hr0 : Kd.C (Kd.int .u8) w A0 l0.length l0) (hc0 : l0.length ≤ c0) (h : slices_Clone_byte_byte.f l0 = some r) :
    Calls Try.prog 55 #[.slice A0 l0.length c0] w fun e w' => ∃ v0_ : Value, e = .returned (v0_) ∧ Kd.R (Kd.int .u8) 5 w' w.heap.size (fun _ => True) v0_ r ∧ Below w.heap.size w w' := by
  unfold slices_Clone_byte_byte.f at h
  split at h
  case isFalse => cases h
  case isTrue hl =>
  obtain rfl := Option.some.inj h
  clear h
  have HR0 := Aside0.mk hr0
  have HC0 := Aside0.mk hc0
  have HL := Aside0.mk hl
  clear hr0 hc0 hl
  rcases A0 with _ | ad
  · have hn : l0 = [] := by
      rcases Nat.eq_zero_or_pos l0.length with h0 | h0
      · exact List.eq_nil_of_length_eq_zero h0
      · obtain ⟨ad, h1, _⟩ := HR0.out.2.2 h0
        cases h1
    subst hn
    have heq : ∀ (W : World) (n c : Nat), (binOp .eql 49 (.slice none n c) (.slice none 0 0)).run Try.prog W = .ok (.bool true) W := fun W n c => Lib.run_eql_slice_nil W _ 5 none n c 0 0 Try.underlying49
    go_enter Try.func55, Try.ntmps55
    go_wp2
    go_ret
    exact ⟨_, rfl, Kd.R_nil _ _ _ _ _, Below.refl _ _⟩
  · have heq : ∀ (W : World) (a : Addr) (n c : Nat), (binOp .eql 49 (.slice (some a) n c) (.slice none 0 0)).run Try.prog W = .ok (.bool false) W := fun W a n c => Lib.run_eql_slice_nil W _ 5 (some a) n c 0 0 Try.underlying49
    go_enter Try.func55, Try.ntmps55
    go_wp2_with (first | ((with_reducible refine gate_dst (N := 5) rfl ?_); refine Kd.R_lit (Kd.int .u8) (w0 := w) w.heap.size 5 ?hg (N := 5) ?hd (xs := ([] : List Int)) (inner := []) (ok := fun _ => True) (okp := fun _ => True) ?hr (Reps.none _ _) (fun _ hk => hk) trivial (Below.refl _ _) (Nat.le_refl _) (by simp) ?_; (case hd => rfl); (case hg => rfl); (case hr => first | (go_simp; done) | (go_simp; rfl)); intro v1 w1 ho hb hg_ hnew_; clear hg_ hnew_; have HO := Aside0.mk ho; have HB1 := Aside0.mk hb; clear ho hb; obtain ⟨Ao, co, eo⟩ := Kd.R_slice HO.out; subst eo) | ((with_reducible refine gate_builtin (b := .append) (xs := #[.tmp 5, .tmp 6]) rfl ?_); at_builtin; refine Kd.R_append_rows (Kd.int .u8) (w0 := w) w.heap.size rfl (.tmp 5) (.tmp 6) 49 5 (.int .u8 0) 1 rfl Try.underlying49 info5 rfl (by decide) (by omega) _ ([] : List Int) l0 _ _ _ (fun _ => True) (fun _ => False) rfl rfl HO.out (Kd.C_below HR0.out HB1.out) (fun _ _ h => h) (fun _ h => h.elim) (fun _ _ => trivial) HB1.out HB1.out.size (by have := HL.out; simp; omega) ?_; intro v2 w2 ho2 hb2 hg2 hat2; rw [List.nil_append] at ho2; have HO2 := Aside0.mk ho2; have HB2 := Aside0.mk hb2; clear ho2 hb2 hg2 hat2))
    go_ret
    exact ⟨_, rfl, HO2.out, HB2.out⟩
end Go.Proofs.Ythfjgfldmkdlnaa.G
end

section
namespace Go.Proofs.Ythfjgfldmkdlnaa.G
open WB Go.RowKit Go.Proofs.YthfjgfldmkdlnaaW.PrintWords Go.Proofs.YthfjgfldmkdlnaaW.PrintLast Go.Proofs.YthfjgfldmkdlnaaW.PrintMore
attribute [local go_sem] max2_int min2_int max_two min_two max_three min_three max_four min_four   -- for this text's walks alone
set_option linter.unusedVariables false
set_option linter.unusedSimpArgs false
def window_clone.f (a0_0 : Int) (a0_1 : Int) (l0_2 : List Int) : Option (Int × Int × List Int) := (slices_Clone_byte_byte.f l0_2).bind fun t111 => (some (a0_0, a0_1, t111))
set_option maxHeartbeats 8000000 in
set_option maxRecDepth 100000 in
theorem window_clone.calls (a0_0 : Int) (a0_1 : Int) (A0_2 : Option Addr) (c0_2 : Nat) (l0_2 : List Int) (r1 : Int) (r2 : Int) (r3 : List Int) (w : World) (hr0_2 : Kd.C (Kd.int .u8) w A0_2 l0_2.length l0_2) (hc0_2 : l0_2.length ≤ c0_2) (h : window_clone.f a0_0 a0_1 l0_2 = some (r1, r2, r3)) :
    Calls Try.prog 51 #[.agg #[.int .i64 a0_0, .int .i64 a0_1, .slice A0_2 l0_2.length c0_2]] w fun e w' => ∃ v2_ : Value, e = .returned (.agg #[.int .i64 r1, .int .i64 r2, v2_]) ∧ Kd.R (Kd.int .u8) 5 w' w.heap.size (fun _ => True) v2_ r3 ∧ Below w.heap.size w w' := by
  have hu51 := Try.underlying51
  have HR0_2 := Aside0.mk hr0_2
  have HC0_2 := Aside0.mk hc0_2
  clear hr0_2 hc0_2
  have HB := Aside0.mk (Below.refl w.heap.size w)
  have H : ((slices_Clone_byte_byte.f l0_2).bind fun t111 => (some (a0_0, a0_1, t111))) = some (r1, r2, r3) := h
  clear h
  replace H := Option.bind_eq_some_iff.mp H
  obtain ⟨t111, A20, H⟩ := H
  replace H : (some (a0_0, a0_1, t111)) = some (r1, r2, r3) := H
  have A2 := Aside0.mk A20
  clear A20
  simp only [Option.some.injEq, Prod.mk.injEq] at H
  obtain ⟨rfl, rfl, rfl⟩ := H
  go_enter Try.func51, Try.ntmps51
  go_wp2_with (first | ((with_reducible refine gate_dst (N := 1) rfl ?_); refine box_event ?hg (N := 1) ?hd (cs := #[.int .i64 a0_0, .int .i64 a0_1, .slice A0_2 l0_2.length c0_2]) (t := 51) ?hr ?_; (case hd => rfl); (case hg => rfl); (case hr => first | (go_simp; done) | (go_simp; rfl)); intro gb109 hg w3 hbox hb; have n0_ := Aside0.mk (below_step (by repeat (first | (with_reducible first | exact HB.out | apply below_alloc | apply pw_below_drewN | apply below_drew1) | exact HB.out)) hb); have n1_ := Aside0.mk (hbox); have n2_ := Aside0.mk ((by rw [hg]; exact (below_size (by repeat (first | (with_reducible first | exact HB.out | apply below_alloc | apply pw_below_drewN | apply below_drew1) | exact HB.out))) : w.heap.size ≤ gb109)); have n3_ := Aside0.mk ((by rw [hg]; exact (below_size (by repeat (first | (with_reducible first | exact HB.out | apply below_alloc | apply pw_below_drewN | apply below_drew1) | exact HB.out))) : w.heap.size ≤ gb109)); clear HB; have HB := n0_; have BK109 := n1_; have GW109 := n2_; have GE109 := n3_; clear n0_ n1_ n2_ n3_; clear hb hbox hg) | ((with_reducible refine gate_dst (N := 2) rfl ?_); refine box_event ?hg (N := 2) ?hd (cs := #[.int .i64 0, .int .i64 0, .slice none 0 0]) (t := 51) ?hr ?_; (case hd => rfl); (case hg => rfl); (case hr => first | (go_simp; done) | (go_simp; rfl)); intro gb110 hg w4 hbox hb; have n0_ := Aside0.mk (blk_below (g := gb109) (o := .cells #[.int .i64 a0_0, .int .i64 a0_1, .slice A0_2 l0_2.length c0_2] 51 (0, 0)) (by (with_reducible repeat (first | refine blk_drewN ?_ _ | refine blk_drew ?_ | refine blk_alloc ?_ _)); exact BK109.out) hb); have n1_ := Aside0.mk (below_step (by repeat (first | (with_reducible first | exact HB.out | apply below_alloc | apply pw_below_drewN | apply below_drew1 | refine below_set ?_ GE109.out) | exact HB.out)) hb); have n2_ := Aside0.mk (hbox); have n3_ := Aside0.mk ((by rw [hg]; exact (below_size (by repeat (first | (with_reducible first | exact HB.out | apply below_alloc | apply pw_below_drewN | apply below_drew1 | refine below_set ?_ GE109.out) | exact HB.out))) : w.heap.size ≤ gb110)); have n4_ := Aside0.mk ((by rw [hg]; exact (below_size (by repeat (first | (with_reducible first | exact HB.out | apply below_alloc | apply pw_below_drewN | apply below_drew1 | refine below_set ?_ GE109.out) | exact HB.out))) : w.heap.size ≤ gb110)); have n5_ := Aside0.mk ((by rw [hg]; exact Nat.ne_of_lt (blk_lt (g := gb109) (o := .cells #[.int .i64 a0_0, .int .i64 a0_1, .slice A0_2 l0_2.length c0_2] 51 (0, 0)) (by (with_reducible repeat (first | refine blk_drewN ?_ _ | refine blk_drew ?_ | refine blk_alloc ?_ _)); exact BK109.out)) : gb109 ≠ gb110)); have n6_ := Aside0.mk ((by rw [hg]; exact Nat.ne_of_gt (blk_lt (g := gb109) (o := .cells #[.int .i64 a0_0, .int .i64 a0_1, .slice A0_2 l0_2.length c0_2] 51 (0, 0)) (by (with_reducible repeat (first | refine blk_drewN ?_ _ | refine blk_drew ?_ | refine blk_alloc ?_ _)); exact BK109.out)) : gb110 ≠ gb109)); clear BK109; clear HB; have BK109 := n0_; have HB := n1_; have BK110 := n2_; have GW110 := n3_; have GE110 := n4_; have NB109_110 := n5_; have NB110_109 := n6_; clear n0_ n1_ n2_ n3_ n4_ n5_ n6_; clear hb hbox hg; have hnb5 := NB109_110.out; have hnc5 := NB110_109.out; have hcz6_0 : w4.cell? ⟨gb109, 0, none⟩ = some (.int .i64 a0_0) := (blk_cell BK109.out 0).trans rfl; have hcz6_1 : w4.cell? ⟨gb109, 1, none⟩ = some (.int .i64 a0_1) := (blk_cell BK109.out 1).trans rfl; have hcz6_2 : w4.cell? ⟨gb109, 2, none⟩ = some (.slice A0_2 l0_2.length c0_2) := (blk_cell BK109.out 2).trans rfl; have hfz6_0 := blk_frozen BK109.out 0; have hfz6_1 := blk_frozen BK109.out 1; have hfz6_2 := blk_frozen BK109.out 2) | ((with_reducible refine gate_callee (f := 55) rfl ?_); refine goesL_ (some 5) rfl rfl Try.func55 (by kernel_rfl) rfl #[.slice A0_2 l0_2.length c0_2] rfl (by (try simp only [List.map_toArray, List.map_cons, List.map_nil]); first | done | rfl | (simp only [List.length_drop, List.length_take]; rfl)) ?_; (with_reducible refine (slices_Clone_byte_byte.calls _ _ l0_2 t111 _ ?side1 ?side2 A2.out).mono ?_); (case side1 => repeat (first | exact (Kd.C_below HR0_2.out HB.out) | (with_reducible refine Kd.C_alloc ?_ _) | (with_reducible refine Kd.C_drewN ?_ _) | (with_reducible refine Kd.C_drew ?_))); (case side2 => exact HC0_2.out); rintro e w7 ⟨v112, rfl, ho0, hb⟩; refine ⟨_, rfl, ?_⟩; have n0_ := Aside0.mk (Kd.R_lower ho0 (below_size (by repeat (first | (with_reducible first | exact HB.out | apply below_alloc | apply pw_below_drewN | apply below_drew1 | refine below_set ?_ GE109.out | refine below_set ?_ GE110.out) | exact HB.out)))); have n1_ := Aside0.mk (blk_below (g := gb109) (o := .cells #[.int .i64 a0_0, .int .i64 a0_1, .slice A0_2 l0_2.length c0_2] 51 (0, 0)) (by (with_reducible repeat (first | refine blk_drewN ?_ _ | refine blk_drew ?_ | refine blk_alloc ?_ _)); exact BK109.out) hb); have n2_ := Aside0.mk (blk_below (g := gb110) (o := .cells #[.int .i64 0, .int .i64 0, .slice none 0 0] 51 (0, 0)) (by (with_reducible repeat (first | refine blk_drewN ?_ _ | refine blk_drew ?_ | refine blk_alloc ?_ _)); exact BK110.out) hb); have n3_ := Aside0.mk (below_step (by repeat (first | (with_reducible first | exact HB.out | apply below_alloc | apply pw_below_drewN | apply below_drew1 | refine below_set ?_ GE109.out | refine below_set ?_ GE110.out) | exact HB.out)) hb); clear BK109; clear BK110; clear HB; have HO113 := n0_; have BK109 := n1_; have BK110 := n2_; have HB := n3_; clear n0_ n1_ n2_ n3_; (try clear hb); (try clear hb2); (try clear hk); (try clear hi); (try clear ho0); obtain ⟨Ao8, co8, eo8⟩ := Kd.R_slice HO113.out; subst eo8; have hcz9_0 : w7.cell? ⟨gb109, 0, none⟩ = some (.int .i64 a0_0) := (blk_cell BK109.out 0).trans rfl; have hcz9_1 : w7.cell? ⟨gb109, 1, none⟩ = some (.int .i64 a0_1) := (blk_cell BK109.out 1).trans rfl; have hcz9_2 : w7.cell? ⟨gb109, 2, none⟩ = some (.slice A0_2 l0_2.length c0_2) := (blk_cell BK109.out 2).trans rfl; have hfz9_0 := blk_frozen BK109.out 0; have hfz9_1 := blk_frozen BK109.out 1; have hfz9_2 := blk_frozen BK109.out 2; have hcz10_0 : w7.cell? ⟨gb110, 0, none⟩ = some (.int .i64 0) := (blk_cell BK110.out 0).trans rfl; have hcz10_1 : w7.cell? ⟨gb110, 1, none⟩ = some (.int .i64 0) := (blk_cell BK110.out 1).trans rfl; have hcz10_2 : w7.cell? ⟨gb110, 2, none⟩ = some (.slice none 0 0) := (blk_cell BK110.out 2).trans rfl; have hfz10_0 := blk_frozen BK110.out 0; have hfz10_1 := blk_frozen BK110.out 1; have hfz10_2 := blk_frozen BK110.out 2))
  refine bodyPost_ret (results_cell_row rfl _ _ gb110 51 #[.int .i64 a0_0, .int .i64 a0_1, .slice Ao8 t111.length co8] (0, 0) _ rfl (by (with_reducible repeat (first | refine blk_drewN ?_ _ | refine blk_drew ?_ | refine blk_alloc ?_ _)); refine blk_put (cs := #[.int .i64 a0_0, .int .i64 a0_1, .slice none 0 0]) ?_ 2 _ rfl; (with_reducible repeat (first | refine blk_drewN ?_ _ | refine blk_drew ?_ | refine blk_alloc ?_ _)); refine blk_put (cs := #[.int .i64 a0_0, .int .i64 0, .slice none 0 0]) ?_ 1 _ rfl; (with_reducible repeat (first | refine blk_drewN ?_ _ | refine blk_drew ?_ | refine blk_alloc ?_ _)); refine blk_put (cs := #[.int .i64 0, .int .i64 0, .slice none 0 0]) ?_ 0 _ rfl; (with_reducible repeat (first | refine blk_drewN ?_ _ | refine blk_drew ?_ | refine blk_alloc ?_ _)); refine blk_far ?_ NB110_109.out _; (with_reducible repeat (first | refine blk_drewN ?_ _ | refine blk_drew ?_ | refine blk_alloc ?_ _)); exact BK110.out) Try.underlying51 rfl (by kernel_rfl)) rfl ?_
  exact ⟨_, by first | rfl | (simp [errW_none, errW_some] <;> rfl) | (simp [*, errW_none, errW_some] <;> rfl), by (with_reducible repeat (first | apply Kd.R_alloc | apply Kd.R_drewN | apply Kd.R_drew)); exact Kd.R_mono (Kd.R_far (p := ⟨gb110, 2, none⟩) (Kd.R_far (p := ⟨gb110, 1, none⟩) (Kd.R_far (p := ⟨gb110, 0, none⟩) (Kd.R_far (p := ⟨gb109, 2, none⟩) (Kd.R_types (Kd.R_types HO113.out BK109.out (by decide)) BK110.out (by decide)) (fun _ hk => hk.1.2) (.slice Ao8 t111.length co8)) (fun _ hk => hk.2) (.int .i64 a0_0)) (fun _ hk => hk.2) (.int .i64 a0_1)) (fun _ hk => hk.2) (.slice Ao8 t111.length co8)) (fun _ hk => trivial), by repeat (first | (with_reducible first | exact HB.out | apply below_alloc | apply pw_below_drewN | apply below_drew1 | refine below_set ?_ GE109.out | refine below_set ?_ GE110.out) | exact HB.out)⟩
end Go.Proofs.Ythfjgfldmkdlnaa.G
end

section
namespace Go.Proofs.Ythfjgfldmkdlnaa.G
open WB Go.RowKit Go.Proofs.YthfjgfldmkdlnaaW.PrintWords Go.Proofs.YthfjgfldmkdlnaaW.PrintLast Go.Proofs.YthfjgfldmkdlnaaW.PrintMore
attribute [local go_sem] max2_int min2_int max_two min_two max_three min_three max_four min_four   -- for this text's walks alone
set_option linter.unusedVariables false
set_option linter.unusedSimpArgs false
def window_Clone.f (a0_0 : Int) (l0_1 : List (S51)) : Option (Int × (List (S51))) := if l0_1.length < 1000000000 ∧ ∀ d ∈ l0_1, d.f2.length < 140737488355328 then some (a0_0, l0_1) else none
set_option maxHeartbeats 2000000 in
set_option maxRecDepth 100000 in
/-- slices.Clone: the cells are the same ones. -/
theorem clone_done (B : Option Addr) (c n : Nat) (css : List (List Value)) (w : World) (hr : ReadsRow (fun x cs => cs = x ∧ cs.length = 3 ∧ ∀ u ∈ cs, u.oneCell' = true) 3 w B n css) (hc : n ≤ c) (hsm : n < 1000000000) :
    Calls Try.prog 50 #[.slice B n c] w fun e w' => ∃ (v : Value), e = .returned v ∧ (Kd.raw 3).R 51 w' w.heap.size (fun _ => True) v css ∧ Below w.heap.size w w' := by
  have HL := Aside0.mk hsm
  have HCL := Aside0.mk hr.1
  have HCR := Aside0.mk hr
  clear hr hc hsm
  rcases B with _ | ad
  · have hn : n = 0 := by
      rcases Nat.eq_zero_or_pos n with h0 | h0
      · exact h0
      · obtain ⟨ad, h1, _⟩ := HCR.out.2.2 h0
        cases h1
    subst hn
    have heq : ∀ (W : World) (n c : Nat), (binOp .eql 34 (.slice none n c) (.slice none 0 0)).run Try.prog W = .ok (.bool true) W := fun W n c => Lib.run_eql_slice_nil W _ 51 none n c 0 0 Try.underlying34
    have hn2 : css = [] := List.eq_nil_of_length_eq_zero HCL.out
    subst hn2
    go_enter Try.func50, Try.ntmps50
    go_wp2
    go_ret
    exact ⟨_, rfl, Kd.R_nil _ _ _ _ _, Below.refl _ _⟩
  · have heq : ∀ (W : World) (a : Addr) (n c : Nat), (binOp .eql 34 (.slice (some a) n c) (.slice none 0 0)).run Try.prog W = .ok (.bool false) W := fun W a n c => Lib.run_eql_slice_nil W _ 51 (some a) n c 0 0 Try.underlying34
    go_enter Try.func50, Try.ntmps50
    go_wp2_with (first | ((with_reducible refine gate_dst (N := 5) rfl ?_); refine Kd.R_lit (Kd.raw 3) (w0 := w) w.heap.size 51 ?hg (N := 5) ?hd (xs := ([] : List (List Value))) (inner := []) (ok := fun _ => True) (okp := fun _ => True) ?hr (Reps.none _ _) (fun _ hk => hk) trivial (Below.refl _ _) (Nat.le_refl _) (by simp) ?_; (case hd => rfl); (case hg => rfl); (case hr => first | (go_simp; done) | (go_simp; rfl)); intro v1 w1 ho hb hg_ hnew_; clear hg_ hnew_; have HO := Aside0.mk ho; have HB1 := Aside0.mk hb; have HCR1 := Aside0.mk (ReadsRow.imp_ HCR.out hb (fun _ _ hp => hp)); clear ho hb; obtain ⟨Ao, co, eo⟩ := Kd.R_slice HO.out; subst eo) | ((with_reducible refine gate_builtin (b := .append) (xs := #[.tmp 5, .tmp 6]) rfl ?_); at_builtin; refine Kd.R_append_rows (Kd.raw 3) (w0 := w) w.heap.size rfl (.tmp 5) (.tmp 6) 34 51 (.agg #[.int .i64 0, .int .i64 0, .slice none 0 0]) 40 rfl Try.underlying34 info51 rfl (by decide) (by omega) _ ([] : List (List Value)) css _ _ _ (fun _ => True) (fun _ => False) rfl rfl HO.out HCR1.out (fun _ _ h => h) (fun _ h => h.elim) (fun _ _ => trivial) HB1.out HB1.out.size (by have := HL.out; simp; omega) ?_; intro v2 w2 ho2 hb2 hg2 hat2; rw [List.nil_append] at ho2; have HO2 := Aside0.mk ho2; have HB2 := Aside0.mk hb2; clear ho2 hb2 hg2 hat2))
    go_ret
    exact ⟨_, rfl, HO2.out, HB2.out⟩
structure CloneInv (w : World) (mark : Int) (l : List S51) (A : Option Addr) (c k : Nat) (rows : List (List Value)) (f : Nat → Nat) (wr : World) : Prop where
  len : rows.length = l.length
  raw : (Kd.raw 3).R 51 wr w.heap.size (fun _ => True) (.slice A l.length c) rows
  new : ∀ (j : Nat) x cs, j < k → l[j]? = some x → rows[j]? = some cs → k51.M wr w.heap.size (fun q => (True ∧ some q ≠ (Value.slice A l.length c).ownBlock) ∧ f q = j) x cs
  old : ∀ (j : Nat) x cs, k ≤ j → l[j]? = some x → rows[j]? = some cs → k51.K w x cs
  b0 : wr.heap[w.heap.size]? = some (.cells #[.int .i64 mark, .slice A l.length c] 36 (0, 0))
  b1 : wr.heap[w.heap.size + 1]? = some (.cells #[.int .i64 0, .slice none 0 0] 36 (0, 0))
  bel : Below w.heap.size w wr
set_option maxHeartbeats 2000000 in
set_option maxRecDepth 100000 in
theorem window_Clone.calls (a0_0 : Int) (A0_1 : Option Addr) (c0_1 : Nat) (l0_1 : List (S51)) (r1 : Int) (r2 : List (S51)) (w : World) (hr0_1 : Kd.C k51 w A0_1 l0_1.length l0_1) (hc0_1 : l0_1.length ≤ c0_1) (h : window_Clone.f a0_0 l0_1 = some (r1, r2)) :
    Calls Try.prog 36 #[.agg #[.int .i64 a0_0, .slice A0_1 l0_1.length c0_1]] w fun e w' => ∃ v1_ : Value, e = .returned (.agg #[.int .i64 r1, v1_]) ∧ Kd.S k51 51 w' w.heap.size (fun _ => True) v1_ r2 ∧ Below w.heap.size w w' := by
  unfold window_Clone.f at h
  split at h
  case isFalse => cases h
  case isTrue hl =>
  obtain ⟨⟨⟩⟩ := h
  have HL := Aside0.mk hl.1
  have HDA := Aside0.mk hl.2
  obtain ⟨css, hcl, hcr, hK⟩ := Kd.reads_raw hr0_1 (fun y c hk => ⟨k51.K_len hk, k51.K_one hk⟩)
  have HCL := Aside0.mk hcl
  have HCR := Aside0.mk hcr
  have HK := Aside0.mk hK
  have HC := Aside0.mk hc0_1
  clear hr0_1 hc0_1 hl hcl hcr hK
  go_enter Try.func36, Try.ntmps36
  go_wp2_with (go_at_call 50; (with_reducible refine (clone_done A0_1 c0_1 l0_1.length css _ ?hr1 HC.out HL.out).mono ?_); (case hr1 => exact ReadsRow.imp_ HCR.out (below_alloc (below_alloc (Below.refl _ _) _) _) (fun _ _ hp => hp)); rintro e w1 ⟨v1, rfl, hR, hb⟩; obtain ⟨A1, c1, rfl⟩ := Kd.R_slice hR; rw [HCL.out] at hR ⊢; have HRW := Aside0.mk (Kd.R_lower hR (show w.heap.size ≤ _ by simp; omega)); have HB1 := Aside0.mk (below_then (below_alloc (below_alloc (Below.refl _ _) _) _) (by simp; omega) hb); have BK1 := Aside0.mk ((hb.block (w.heap.size + 1) (by simp)).trans (heap_new2 w _ _)); have BK0 := Aside0.mk ((hb.block w.heap.size (by simp; omega)).trans (blk_alloc (heap_new1 w _) _)); have hcz0 : w1.cell? ⟨w.heap.size, 0, none⟩ = some (.int .i64 a0_0) := (blk_cell BK0.out 0).trans rfl; have hcz1 : w1.cell? ⟨w.heap.size, 1, none⟩ = some (.slice A0_1 l0_1.length c0_1) := (blk_cell BK0.out 1).trans rfl; have hfz1 := blk_frozen BK0.out 1; clear hR hb)
  go_loopw [12] (fun v12 wr => ∃ (k : Nat) (rows : List (List Value)) (f : Nat → Nat), v12 = .int .i64 k ∧ k ≤ l0_1.length ∧ Aside0 (CloneInv w a0_0 l0_1 A1 c1 k rows f wr)) (fun v12 _ => l0_1.length - (intOf v12).toNat)
  case atStart =>
    refine ⟨0, css, fun _ => 0, rfl, by omega, ⟨HCL.out, ?_, fun j x cs hj => by omega, fun j x cs _ hx hc => HK.out j x cs hx hc, ?_, ?_, below_set HB1.out (by simp)⟩⟩
    · exact Kd.R_set HRW.out BK0.out (by decide) 1 _
    · exact blk_put (cs := #[.int .i64 a0_0, .slice A0_1 l0_1.length c0_1]) BK0.out 1 _ rfl
    · exact blk_far BK1.out (by simp) _
  case round =>
    obtain ⟨k, rows, f, rfl, hk, HI⟩ := hrel
    by_cases hlt : k < l0_1.length
    · have b1 : decide ((k : Int) < (l0_1.length : Int)) = true := decide_eq_true (by omega)
      have b1' : decide (k < l0_1.length) = true := decide_eq_true hlt
      obtain ⟨g, rfl⟩ : ∃ g, A1 = some ⟨g, 0, none⟩ := by
        rcases A1 with _ | ad
        · obtain ⟨A, c, he, _, hC⟩ := Kd.R_reads HI.out.raw
          rw [HI.out.len] at he hC
          obtain ⟨ad, h1, _⟩ := hC.2.2 (by omega)
          injection he with he
          rw [h1] at he
          cases he
        · obtain ⟨g, rfl⟩ := Kd.R_head HI.out.raw
          exact ⟨g, rfl⟩
      obtain ⟨cs, hc1, hc2, hc3, hc4⟩ := Kd.R_elem HI.out.raw [] (k : Int) (by omega) (by omega)
      have hrk : rows[k]? = some cs := by
        have h5 : cs = rows.getD k [] := hc2.1
        rw [h5, List.getD_eq_getElem?_getD, List.getElem?_eq_getElem (by rw [HI.out.len]; exact hlt)]
        rfl
      obtain ⟨d, hd⟩ : ∃ d, l0_1[k]? = some d := ⟨_, List.getElem?_eq_getElem hlt⟩
      obtain ⟨A2, c2, rfl, l2, g2⟩ := k51_open (k51.K_below HI.out.bel (HI.out.old k d cs (Nat.le_refl _) hd hrk))
      have q0 : wr.cell? ⟨g, k * 3, none⟩ = some (.int .i64 d.f0) := hc3 0 _ rfl
      have q1 : wr.cell? ⟨g, k * 3 + 1, none⟩ = some (.int .i64 d.f1) := hc3 1 _ rfl
      have q2 : wr.cell? ⟨g, k * 3 + 2, none⟩ = some (.slice A2 d.f2.length c2) := hc3 2 _ rfl
      have z0 : wr.frozen? ⟨g, k * 3, none⟩ = false := hc4 0
      have z1 : wr.frozen? ⟨g, k * 3 + 1, none⟩ = false := hc4 1
      have z2 : wr.frozen? ⟨g, k * 3 + 2, none⟩ = false := hc4 2
      have y1 : wr.cell? ⟨w.heap.size, 1, none⟩ = some (.slice (some ⟨g, 0, none⟩) l0_1.length c1) := (blk_cell HI.out.b0 1).trans rfl
      have HD := Aside0.mk hd
      have L2 := Aside0.mk l2
      have G2 := Aside0.mk g2
      have HRK := Aside0.mk hrk
      clear hc1 hc2 hc3 hc4 hd l2 g2 hrk
      go_wp2
      have x0 := cell_in1 wr #[.int .i64 d.f0, .int .i64 d.f1, .slice A2 d.f2.length c2] 51 0
      have x1 := cell_in1 wr #[.int .i64 d.f0, .int .i64 d.f1, .slice A2 d.f2.length c2] 51 1
      have x2 := cell_in1 wr #[.int .i64 d.f0, .int .i64 d.f1, .slice A2 d.f2.length c2] 51 2
      have HW := Aside0.mk (below_alloc (Below.refl wr.heap.size wr) (.cells #[.int .i64 d.f0, .int .i64 d.f1, .slice A2 d.f2.length c2] 51))
      have hws : (wr.alloc (.cells #[.int .i64 d.f0, .int .i64 d.f1, .slice A2 d.f2.length c2] 51)).heap.size = wr.heap.size + 1 := by simp
      obtain ⟨W0, hW0⟩ : ∃ W0, W0 = wr.alloc (.cells #[.int .i64 d.f0, .int .i64 d.f1, .slice A2 d.f2.length c2] 51) := ⟨_, rfl⟩
      rw [← hW0] at x0 x1 x2 HW hws ⊢
      simp at x0 x1 x2
      have hsz : w.heap.size + 1 < wr.heap.size := blk_lt HI.out.b1
      have y1' : W0.cell? ⟨w.heap.size, 1, none⟩ = some (.slice (some ⟨g, 0, none⟩) l0_1.length c1) := (HW.out.cell (p := ⟨w.heap.size, 1, none⟩) (by simp; omega)).trans y1
      have hgl : g < wr.heap.size := Kd.R_lt HI.out.raw g (by simp [Value.ownBlock])
      have t0 : W0.cell? ⟨g, k * 3, none⟩ = some (.int .i64 d.f0) := (HW.out.cell (p := ⟨g, k * 3, none⟩) (by simpa using hgl)).trans q0
      have t1 : W0.cell? ⟨g, k * 3 + 1, none⟩ = some (.int .i64 d.f1) := (HW.out.cell (p := ⟨g, k * 3 + 1, none⟩) (by simpa using hgl)).trans q1
      have t2 : W0.cell? ⟨g, k * 3 + 2, none⟩ = some (.slice A2 d.f2.length c2) := (HW.out.cell (p := ⟨g, k * 3 + 2, none⟩) (by simpa using hgl)).trans q2
      have G0 := Aside0.mk (Kd.C_below G2.out HW.out)
      have HCD : Aside0 (window_clone.f d.f0 d.f1 d.f2 = some (d.f0, d.f1, d.f2)) := ⟨by unfold window_clone.f slices_Clone_byte_byte.f; rw [if_pos (HDA.out d (List.mem_of_getElem? HD.out))]; rfl⟩
      clear y1 q0 q1 q2 z0 z1 z2 hW0
      have hn1 : w.heap.size ≠ g := fun he => Kd.R_ne HI.out.raw HI.out.b0 (by decide) (by simp [Value.ownBlock, he])
      have hn1' : g ≠ w.heap.size := Ne.symm hn1
      have hn2 : wr.heap.size ≠ g := by omega
      have hn2' : g ≠ wr.heap.size := by omega
      go_region_held3 (fun w' => w'.cell? ⟨w.heap.size, 1, none⟩ = some (.slice (some ⟨g, 0, none⟩) l0_1.length c1) ∧ w'.cell? ⟨wr.heap.size, 0, none⟩ = some (.int .i64 d.f0) ∧ w'.cell? ⟨wr.heap.size, 1, none⟩ = some (.int .i64 d.f1) ∧ w'.cell? ⟨wr.heap.size, 2, none⟩ = some (.slice A2 d.f2.length c2)) (go_keep)
        ((go_at_call 51; (with_reducible refine (window_clone.calls d.f0 d.f1 A2 c2 d.f2 d.f0 d.f1 d.f2 _ ?hr L2.out HCD.out).mono ?_); (case hr => exact Kd.C_below G0.out (by repeat (first | exact Below.refl _ _ | apply below_drew1 | apply pw_below_drewN))); rintro e w2 ⟨v, rfl, ho, hb⟩; obtain ⟨Ao, co, rfl⟩ := Kd.R_slice ho; have hgl0 : g < W0.drew.heap.size := (by show g < W0.heap.size; omega); have r0 : w2.cell? ⟨g, k * 3, none⟩ = some (.int .i64 d.f0) := (hb.cell (p := ⟨g, k * 3, none⟩) hgl0).trans t0; have r1 : w2.cell? ⟨g, k * 3 + 1, none⟩ = some (.int .i64 d.f1) := (hb.cell (p := ⟨g, k * 3 + 1, none⟩) hgl0).trans t1; have r2 : w2.cell? ⟨g, k * 3 + 2, none⟩ = some (.slice A2 d.f2.length c2) := (hb.cell (p := ⟨g, k * 3 + 2, none⟩) hgl0).trans t2; obtain ⟨csz, hz1, hz2, hz3, hz4⟩ := Kd.R_elem (Kd.R_below (Kd.R_drew (Kd.R_below HI.out.raw HW.out)) hb) [] (k : Int) (by omega) (by omega); have z0 : w2.frozen? ⟨g, k * 3, none⟩ = false := hz4 0; have z1 : w2.frozen? ⟨g, k * 3 + 1, none⟩ = false := hz4 1; have z2 : w2.frozen? ⟨g, k * 3 + 2, none⟩ = false := hz4 2; have hwl : w.heap.size < W0.drew.heap.size := (by show w.heap.size < W0.heap.size; omega); have hwr : wr.heap.size < W0.drew.heap.size := (by show wr.heap.size < W0.heap.size; omega); have s1 : w2.cell? ⟨w.heap.size, 1, none⟩ = some (.slice (some ⟨g, 0, none⟩) l0_1.length c1) := (hb.cell (p := ⟨w.heap.size, 1, none⟩) hwl).trans y1'; have s2 : w2.cell? ⟨wr.heap.size, 0, none⟩ = some (.int .i64 d.f0) := (hb.cell (p := ⟨wr.heap.size, 0, none⟩) hwr).trans x0; have s3 : w2.cell? ⟨wr.heap.size, 1, none⟩ = some (.int .i64 d.f1) := (hb.cell (p := ⟨wr.heap.size, 1, none⟩) hwr).trans x1; have s4 : w2.cell? ⟨wr.heap.size, 2, none⟩ = some (.slice A2 d.f2.length c2) := (hb.cell (p := ⟨wr.heap.size, 2, none⟩) hwr).trans x2; clear hz1 hz2 hz3 hz4))
      clear s1 s2 s3 s4 r0 r1 r2 t0 t1 t2 x0 x1 x2 y1' z0 z1 z2
      have HB := Aside0.mk hb
      have HO := Aside0.mk ho
      clear hb ho
      have hwk : wrap64 ((k : Int) + 1) = ((k + 1 : Nat) : Int) := by have := HL.out; unfold wrap64; omega
      go_wp2
      go_roundw
      case rel =>
        have RW2 := Kd.R_below (Kd.R_drew (Kd.R_below HI.out.raw HW.out)) HB.out
        obtain ⟨csz, hz1, hz2, hz3, hz4⟩ := Kd.R_elem RW2 [] (k : Int) (by omega) (by omega)
        have hgw : g < W0.drew.heap.size := by show g < W0.heap.size; omega
        have hone : ∀ u ∈ [Value.int .i64 d.f0, .int .i64 d.f1, .slice Ao d.f2.length co], u.oneCell' = true := by
          intro u hu
          simp at hu
          rcases hu with rfl | rfl | rfl <;> rfl
        have hseg := Kd.R_seg RW2 (k : Int) (by omega) (by omega) (c := csz) (seg := [.int .i64 d.f0, .int .i64 d.f1, .slice Ao d.f2.length co]) (j := 0) (x' := [.int .i64 d.f0, .int .i64 d.f1, .slice Ao d.f2.length co]) (okp := fun _ => False) hz1 hz3 (by show 0 + 3 ≤ 3; omega) (by
          have h6 : csz.drop (0 + [Value.int .i64 d.f0, .int .i64 d.f1, .slice Ao d.f2.length co].length) = [] := List.drop_of_length_le (by rw [hz1]; exact Nat.le_refl _)
          rw [h6, List.take_zero]
          exact ⟨rfl, rfl, hone⟩) (fun _ hk => hk.elim)
        obtain ⟨hraw, hgr⟩ := hseg
        have hBW : Below wr.heap.size wr w2 := below_then (below_drew HW.out) (by show wr.heap.size ≤ W0.heap.size; omega) HB.out
        have hmv : ∀ q, q < wr.heap.size → q ≠ g → (w2.setCells g ((k : Int).toNat * 3 + 0) [.int .i64 d.f0, .int .i64 d.f1, .slice Ao d.f2.length co]).heap[q]? = wr.heap[q]? := fun q hq hn => (hgr.block q (by have := hBW.size; omega) (by simpa using hn)).trans (hBW.block q hq)
        refine ⟨k + 1, rows.set k [.int .i64 d.f0, .int .i64 d.f1, .slice Ao d.f2.length co], fun q => if q < W0.heap.size then f q else k, by rw [hwk], by omega, ⟨?_⟩⟩
        refine ⟨by rw [List.length_set]; exact HI.out.len, hraw, fun j x cs hj hx hc => ?_, fun j x cs hj hx hc => ?_, ?_, ?_, ?_⟩
        · rcases Nat.lt_or_ge j k with hjk | hjk
          · rw [List.getElem?_set_ne (by omega)] at hc
            have h7 := k51.M_bound (HI.out.new j x cs hjk hx hc)
            have h8 := k51.M_move (w1 := w2.setCells g ((k : Int).toNat * 3 + 0) [.int .i64 d.f0, .int .i64 d.f1, .slice Ao d.f2.length co]) (fun q hq => hmv q hq.2.2.1 (fun he => hq.1.1.2 (by simp [Value.ownBlock, he]))) h7
            exact k51.M_mono (fun q hq => ⟨hq.1.1, by have h9 := hq.2.2.1; rw [if_pos (by omega)]; exact hq.1.2⟩) h8
          · obtain rfl : j = k := by omega
            rw [List.getElem?_set_self (by rw [HI.out.len]; exact hlt)] at hc
            rw [HD.out] at hx
            injection hc with hc
            injection hx with hx
            subst hc hx
            have h7 := Kd.R_step (Kd.R_mono (ok' := fun q => (True ∧ some q ≠ (Value.slice (some ⟨g, 0, none⟩) l0_1.length c1).ownBlock) ∧ (if q < W0.heap.size then f q else j) = j) (Kd.R_bound HO.out) (fun q hq => by
              have h9 : W0.heap.size ≤ q := hq.2.1
              exact ⟨⟨trivial, fun he => by simp [Value.ownBlock] at he; omega⟩, by rw [if_neg (by omega)]⟩)) (w1 := w2.setCells g ((j : Int).toNat * 3 + 0) [.int .i64 d.f0, .int .i64 d.f1, .slice Ao d.f2.length co]) (fun q hq hlt => hgr.block q hlt (fun he => hq.1.2 (by rw [he]; rfl)))
            exact k51_mkM _ _ _ d (Kd.R_lower h7 (by show w.heap.size ≤ W0.heap.size; omega))
        · rw [List.getElem?_set_ne (by omega)] at hc
          exact HI.out.old j x cs (by omega) hx hc
        · exact (hmv _ (by omega) hn1).trans HI.out.b0
        · exact (hmv _ (by omega) (fun he => Kd.R_ne HI.out.raw HI.out.b1 (by decide) (by simp [Value.ownBlock, he]))).trans HI.out.b1
        · have hbg : w.heap.size ≤ g := Kd.R_base HI.out.raw g (by simp [Value.ownBlock])
          exact below_set (below_set (below_set (below_then HI.out.bel HI.out.bel.size hBW) hbg) hbg) hbg
      case measure => rw [hwk]; simp [intOf]; omega
    · have b1 : decide ((k : Int) < (l0_1.length : Int)) = false := decide_eq_false (by omega)
      have b1' : decide (k < l0_1.length) = false := decide_eq_false hlt
      have y0 : wr.cell? ⟨w.heap.size, 0, none⟩ = some (.int .i64 a0_0) := (blk_cell HI.out.b0 0).trans rfl
      have y1 : wr.cell? ⟨w.heap.size, 1, none⟩ = some (.slice A1 l0_1.length c1) := (blk_cell HI.out.b0 1).trans rfl
      have hlt1 : w.heap.size + 1 < wr.heap.size := blk_lt HI.out.b1
      have hcz0 : wr.cell? ⟨w.heap.size + 1, 0, none⟩ = some (.int .i64 0) := (blk_cell HI.out.b1 0).trans rfl
      have hcz1 : wr.cell? ⟨w.heap.size + 1, 1, none⟩ = some (.slice none 0 0) := (blk_cell HI.out.b1 1).trans rfl
      have hfz0 := blk_frozen HI.out.b1 0
      have hfz1 := blk_frozen HI.out.b1 1
      go_wp2
      have hS : Kd.S k51 51 wr w.heap.size (fun _ => True) (.slice A1 l0_1.length c1) l0_1 := S_close (t := fun j => j) (fun _ _ => trivial) HI.out.len HI.out.raw (fun i j _ _ h => h) (fun j x cs hx hc => HI.out.new j x cs (by have := (List.getElem?_eq_some_iff.1 hx).1; omega) hx hc)
      refine bodyPost_ret (results_cell_row rfl _ _ (w.heap.size + 1) 36 #[.int .i64 a0_0, .slice A1 l0_1.length c1] (0, 0) _ rfl (blk_put (cs := #[.int .i64 a0_0, .slice none 0 0]) (blk_put (cs := #[.int .i64 0, .slice none 0 0]) HI.out.b1 0 _ rfl) 1 _ rfl) Try.underlying36 rfl (by kernel_rfl)) rfl ?_
      exact ⟨_, rfl, Kd.S_set (Kd.S_set hS HI.out.b1 (by decide) 0 _) (blk_put (cs := #[.int .i64 0, .slice none 0 0]) HI.out.b1 0 _ rfl) (by decide) 1 _, below_set (below_set HI.out.bel (by simp)) (by simp)⟩
end Go.Proofs.Ythfjgfldmkdlnaa.G
end

section
namespace Go.Proofs.Ythfjgfldmkdlnaa.G
open WB Go.RowKit Go.Proofs.YthfjgfldmkdlnaaW.PrintWords Go.Proofs.YthfjgfldmkdlnaaW.PrintLast Go.Proofs.YthfjgfldmkdlnaaW.PrintMore
attribute [local go_sem] max2_int min2_int max_two min_two max_three min_three max_four min_four   -- for this text's walks alone
set_option linter.unusedVariables false
set_option linter.unusedSimpArgs false
set_option maxHeartbeats 2000000 in
set_option maxRecDepth 100000 in
/-- slices.Clone: the cells are the same ones. -/
theorem clone_sess (B : Option Addr) (c n : Nat) (css : List (List Value)) (w : World) (hr : ReadsRow (fun x cs => cs = x ∧ cs.length = 5 ∧ ∀ u ∈ cs, u.oneCell' = true) 5 w B n css) (hc : n ≤ c) (hsm : n < 1000000000) :
    Calls Try.prog 46 #[.slice B n c] w fun e w' => ∃ (v : Value), e = .returned v ∧ (Kd.raw 5).R 38 w' w.heap.size (fun _ => True) v css ∧ Below w.heap.size w w' := by
  have HL := Aside0.mk hsm
  have HCL := Aside0.mk hr.1
  have HCR := Aside0.mk hr
  clear hr hc hsm
  rcases B with _ | ad
  · have hn : n = 0 := by
      rcases Nat.eq_zero_or_pos n with h0 | h0
      · exact h0
      · obtain ⟨ad, h1, _⟩ := HCR.out.2.2 h0
        cases h1
    subst hn
    have heq : ∀ (W : World) (n c : Nat), (binOp .eql 22 (.slice none n c) (.slice none 0 0)).run Try.prog W = .ok (.bool true) W := fun W n c => Lib.run_eql_slice_nil W _ 38 none n c 0 0 Try.underlying22
    have hn2 : css = [] := List.eq_nil_of_length_eq_zero HCL.out
    subst hn2
    go_enter Try.func46, Try.ntmps46
    go_wp2
    go_ret
    exact ⟨_, rfl, Kd.R_nil _ _ _ _ _, Below.refl _ _⟩
  · have heq : ∀ (W : World) (a : Addr) (n c : Nat), (binOp .eql 22 (.slice (some a) n c) (.slice none 0 0)).run Try.prog W = .ok (.bool false) W := fun W a n c => Lib.run_eql_slice_nil W _ 38 (some a) n c 0 0 Try.underlying22
    go_enter Try.func46, Try.ntmps46
    go_wp2_with (first | ((with_reducible refine gate_dst (N := 5) rfl ?_); refine Kd.R_lit (Kd.raw 5) (w0 := w) w.heap.size 38 ?hg (N := 5) ?hd (xs := ([] : List (List Value))) (inner := []) (ok := fun _ => True) (okp := fun _ => True) ?hr (Reps.none _ _) (fun _ hk => hk) trivial (Below.refl _ _) (Nat.le_refl _) (by simp) ?_; (case hd => rfl); (case hg => rfl); (case hr => first | (go_simp; done) | (go_simp; rfl)); intro v1 w1 ho hb hg_ hnew_; clear hg_ hnew_; have HO := Aside0.mk ho; have HB1 := Aside0.mk hb; have HCR1 := Aside0.mk (ReadsRow.imp_ HCR.out hb (fun _ _ hp => hp)); clear ho hb; obtain ⟨Ao, co, eo⟩ := Kd.R_slice HO.out; subst eo) | ((with_reducible refine gate_builtin (b := .append) (xs := #[.tmp 5, .tmp 6]) rfl ?_); at_builtin; refine Kd.R_append_rows (Kd.raw 5) (w0 := w) w.heap.size rfl (.tmp 5) (.tmp 6) 22 38 (.agg #[.int .i64 0, .int .i64 0, .int .i64 0, .int .i64 0, .slice none 0 0]) 56 rfl Try.underlying22 info38 rfl (by decide) (by omega) _ ([] : List (List Value)) css _ _ _ (fun _ => True) (fun _ => False) rfl rfl HO.out HCR1.out (fun _ _ h => h) (fun _ h => h.elim) (fun _ _ => trivial) HB1.out HB1.out.size (by have := HL.out; simp; omega) ?_; intro v2 w2 ho2 hb2 hg2 hat2; rw [List.nil_append] at ho2; have HO2 := Aside0.mk ho2; have HB2 := Aside0.mk hb2; clear ho2 hb2 hg2 hat2))
    go_ret
    exact ⟨_, rfl, HO2.out, HB2.out⟩
end Go.Proofs.Ythfjgfldmkdlnaa.G
end
