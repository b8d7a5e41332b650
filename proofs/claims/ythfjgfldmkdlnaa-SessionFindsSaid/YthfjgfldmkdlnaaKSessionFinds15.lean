/- SessionFinds: texts of this claim, packed: what the kit's print has written for it and own texts, without what its proof does not reach. -/
import Derived.Test.YthfjgfldmkdlnaaKSessionFinds11
import Derived.Test.YthfjgfldmkdlnaaKSessionFinds12
import Derived.Test.YthfjgfldmkdlnaaKSessionFinds13
import Derived.Test.YthfjgfldmkdlnaaKSessionFinds14
set_option linter.unusedVariables false
set_option linter.unusedSimpArgs false
set_option linter.unusedSectionVars false
section
namespace Go.Proofs.Ythfjgfldmkdlnaa.G
open WB Go.RowKit Go.Proofs.YthfjgfldmkdlnaaW.PrintWords Go.Proofs.YthfjgfldmkdlnaaW.PrintLast Go.Proofs.YthfjgfldmkdlnaaW.PrintMore
attribute [local go_sem] max2_int min2_int max_two min_two max_three min_three max_four min_four   -- for this text's walks alone
set_option linter.unusedVariables false
set_option linter.unusedSimpArgs false
def isS (number client : Int) (x : S38) : Bool := x.f0 == number && x.f1 == client
def findS (l : List S38) (s0 s1 s2 next tick number client : Int) : Int × Int :=
  if checkS l s0 s1 s2 next tick ≠ 0 then (0, checkS l s0 s1 s2 next tick) else if firstP (isS number client) l < 0 then (0, 71) else (firstP (isS number client) l, 0)
set_option maxHeartbeats 4000000 in
set_option maxRecDepth 100000 in
theorem find_is (gn gc : Nat) (number client : Int) (x : S38) (A2 : Option Addr) (n2 c2 : Nat) (w : World) (hn : w.heap[gn]? = some (.cells #[.int .i64 number] 3 (0, 0))) (hc : w.heap[gc]? = some (.cells #[.int .i64 client] 3 (0, 0))) :
    Calls Try.prog 34 #[.agg #[.int .i64 x.f0, .int .i64 x.f1, .int .i64 x.f2, .int .i64 x.f3.f0, .slice A2 n2 c2], .pointer (some ⟨gn, 0, none⟩), .pointer (some ⟨gc, 0, none⟩)] w fun e w' => e = .returned (.bool (isS number client x)) ∧ Below w.heap.size w w' := by
  have n0 := blk_cell hn 0
  have c0 := blk_cell hc 0
  have hln := blk_lt hn
  have hlc := blk_lt hc
  have HBW := Aside0.mk (below_alloc (Below.refl w.heap.size w) (.cells #[.int .i64 x.f0, .int .i64 x.f1, .int .i64 x.f2, .int .i64 x.f3.f0, .slice A2 n2 c2] 38))
  simp at n0 c0
  clear hn hc
  have h1 : w.heap.size ≠ gn := by omega
  have h2 : w.heap.size ≠ gc := by omega
  have h3 : gn ≠ w.heap.size := by omega
  have h4 : gc ≠ w.heap.size := by omega
  by_cases he : x.f0 = number
  · have e1 : (x.f0 == number) = true := by simpa using he
    have HE : Aside0 (isS number client x = (x.f1 == client)) := ⟨by unfold isS; rw [e1, Bool.true_and]⟩
    clear he
    go_enter Try.func34, Try.ntmps34
    go_wp2
    go_ret
    exact ⟨by rw [HE.out]; rfl, HBW.out⟩
  · have e1 : (x.f0 == number) = false := by simpa using he
    have HE : Aside0 (isS number client x = false) := ⟨by unfold isS; rw [e1, Bool.false_and]⟩
    clear he
    go_enter Try.func34, Try.ntmps34
    go_wp2
    go_ret
    exact ⟨by rw [HE.out]; rfl, HBW.out⟩
theorem find_tests (l : List S38) (gn gc : Nat) (number client : Int) : Tests l 34 Try.f34 #[] #[.pointer (some ⟨gn, 0, none⟩), .pointer (some ⟨gc, 0, none⟩)] (isS number client) (fun W => W.heap[gn]? = some (.cells #[.int .i64 number] 3 (0, 0)) ∧ W.heap[gc]? = some (.cells #[.int .i64 client] 3 (0, 0))) :=
  ⟨rfl, rfl, rfl, fun _ _ hb h => ⟨blk_below h.1 hb, blk_below h.2 hb⟩, fun x _ A2 c2 W h _ _ => find_is gn gc number client x A2 _ c2 W h.1 h.2⟩
def session_Find.f (l0 : List (S38)) (a1_0 : Int) (a1_1 : Int) (a1_2 : Int) (a2 : Int) (a3 : Int) (a4 : Int) (a5 : Int) : Option (Int × Int) := some (findS l0 a1_0 a1_1 a1_2 a2 a3 a4 a5)
set_option maxHeartbeats 4000000 in
set_option maxRecDepth 100000 in
theorem session_Find.calls (A0 : Option Addr) (c0 : Nat) (l0 : List (S38)) (a1_0 : Int) (a1_1 : Int) (a1_2 : Int) (a2 : Int) (a3 : Int) (a4 : Int) (a5 : Int) (r1 : Int) (r2 : Int) (w : World) (hr0 : Kd.C k38 w A0 l0.length l0) (hc0 : l0.length ≤ c0) (h : session_Find.f l0 a1_0 a1_1 a1_2 a2 a3 a4 a5 = some (r1, r2)) :
    Calls Try.prog 12 #[.slice A0 l0.length c0, .agg #[.int .i64 a1_0, .int .i64 a1_1, .int .i64 a1_2], .int .i64 a2, .int .i64 a3, .int .i64 a4, .int .i64 a5] w fun e w' => e = .returned (.tuple #[.int .i64 r1, .int .i64 r2]) ∧ Below w.heap.size w w' := by
  replace h := Option.some.inj h
  have HH := Aside0.mk h
  have HR := Aside0.mk hr0
  have HC := Aside0.mk hc0
  have HBW := Aside0.mk (below_alloc (below_alloc (below_alloc (Below.refl w.heap.size w) (.cells #[.int .i64 a1_0, .int .i64 a1_1, .int .i64 a1_2] 24)) (.cells #[.int .i64 a4] 3)) (.cells #[.int .i64 a5] 3))
  have BN := Aside0.mk (blk_alloc (heap_new2 w (.cells #[.int .i64 a1_0, .int .i64 a1_1, .int .i64 a1_2] 24) (.cells #[.int .i64 a4] 3)) (.cells #[.int .i64 a5] 3))
  have BC := Aside0.mk (heap_new3 w (.cells #[.int .i64 a1_0, .int .i64 a1_1, .int .i64 a1_2] 24) (.cells #[.int .i64 a4] 3) (.cells #[.int .i64 a5] 3))
  have hm0 : l0.length ≤ 9223372036854775807 := hr0.2.1
  clear h hr0 hc0
  go_enter Try.func12, Try.ntmps12
  go_wp2_with fail
  go_at_call 22
  with_reducible refine (session_Check.calls A0 c0 l0 a1_0 a1_1 a1_2 a2 a3 (checkS l0 a1_0 a1_1 a1_2 a2 a3) _ (Kd.C_alloc (Kd.C_alloc (Kd.C_alloc HR.out _) _) _) HC.out rfl).mono ?_
  rintro e w1 ⟨rfl, hb⟩
  have HB1 := Aside0.mk (below_then HBW.out HBW.out.size hb)
  have BN1 := Aside0.mk (blk_below BN.out hb)
  have BC1 := Aside0.mk (blk_below BC.out hb)
  clear hb
  by_cases hc0 : checkS l0 a1_0 a1_1 a1_2 a2 a3 = 0
  · rw [hc0]
    have HH1 : Aside0 ((if firstP (isS a4 a5) l0 < 0 then (0, 71) else (firstP (isS a4 a5) l0, 0)) = (r1, r2)) := ⟨by have h := HH.out; unfold findS at h; rwa [if_neg (show ¬ checkS l0 a1_0 a1_1 a1_2 a2 a3 ≠ 0 by rw [hc0]; simp)] at h⟩
    clear hc0
    go_wp2_with fail
    go_at_call 33
    with_reducible refine (index_sess A0 c0 l0 34 Try.f34 #[] #[.pointer (some ⟨w.heap.size + 1, 0, none⟩), .pointer (some ⟨w.heap.size + 2, 0, none⟩)] (isS a4 a5) _ _ (find_tests l0 _ _ a4 a5) ⟨BN1.out, BC1.out⟩ (Kd.C_below HR.out HB1.out) HC.out).mono ?_
    rintro e w2 ⟨rfl, hb⟩
    have HB2 := Aside0.mk (below_then HB1.out HB1.out.size hb)
    clear hb
    obtain ⟨q, hq⟩ : ∃ q, q = firstP (isS a4 a5) l0 := ⟨_, rfl⟩
    rw [← hq] at HH1 ⊢
    clear hq
    by_cases hn : q < 0
    · have t2 : decide (q < 0) = true := decide_eq_true hn
      obtain ⟨⟨⟩⟩ : Aside0 (((0, 71) : Int × Int) = (r1, r2)) := ⟨by rw [← HH1.out, if_pos hn]⟩
      clear hn
      go_wp2_with fail
      go_ret2
      exact ⟨rfl, HB2.out⟩
    · have t2 : decide (q < 0) = false := decide_eq_false hn
      obtain ⟨⟨⟩⟩ : Aside0 (((q, 0) : Int × Int) = (r1, r2)) := ⟨by rw [← HH1.out, if_neg hn]⟩
      clear hn
      go_wp2_with fail
      go_ret2
      exact ⟨rfl, HB2.out⟩
  · have t1 : (checkS l0 a1_0 a1_1 a1_2 a2 a3 == 0) = false := by simpa using hc0
    obtain ⟨⟨⟩⟩ : Aside0 (((0, checkS l0 a1_0 a1_1 a1_2 a2 a3) : Int × Int) = (r1, r2)) := ⟨by rw [← HH.out]; unfold findS; rw [if_pos hc0]⟩
    go_wp2_with fail
    go_ret2
    exact ⟨rfl, HB1.out⟩
end Go.Proofs.Ythfjgfldmkdlnaa.G
end

section
namespace Go.Proofs.Ythfjgfldmkdlnaa.G
open WB Go.RowKit Go.Proofs.YthfjgfldmkdlnaaW.PrintWords Go.Proofs.YthfjgfldmkdlnaaW.PrintLast Go.Proofs.YthfjgfldmkdlnaaW.PrintMore
attribute [local go_sem] max2_int min2_int max_two min_two max_three min_three max_four min_four   -- for this text's walks alone
set_option linter.unusedVariables false
set_option linter.unusedSimpArgs false
def touchS (l : List S38) (s0 s1 s2 next tick at_ wm : Int) (wl : List S51) : List S38 × Int :=
  if checkS l s0 s1 s2 next tick ≠ 0 then ([], checkS l s0 s1 s2 next tick) else if at_ < 0 ∨ (l.length : Int) ≤ at_ then ([], 71) else if checkW wm wl s2 ≠ 0 then ([], 9) else (l.set at_.toNat ⟨(l.getD at_.toNat z38).f0, (l.getD at_.toNat z38).f1, tick, ⟨wm, wl⟩⟩, 0)
theorem small_of {m size : Int} {l : List S51} (h : checkW m l size = 0) : l.length < 1000000000 ∧ ∀ d ∈ l, d.f2.length < 140737488355328 := by
  have h3 := may_of _ _ _ h
  have h4 := h3.len
  have h6 := h3.s2
  refine ⟨by omega, fun d hd => ?_⟩
  obtain ⟨i, hi, rfl⟩ := List.mem_iff_getElem.1 hd
  have h5 := (h3.bds i hi).2.2.2.2
  rw [List.getD_eq_getElem?_getD, List.getElem?_eq_getElem hi] at h5
  simp only [Option.getD_some] at h5
  omega
def session_Touch.f (l0 : List (S38)) (a1_0 : Int) (a1_1 : Int) (a1_2 : Int) (a2 : Int) (a3 : Int) (a4 : Int) (a5_0 : Int) (l5_1 : List (S51)) : Option ((List (S38)) × Int) := some (touchS l0 a1_0 a1_1 a1_2 a2 a3 a4 a5_0 l5_1)
set_option maxHeartbeats 4000000 in
set_option maxRecDepth 100000 in
theorem session_Touch.calls (A0 : Option Addr) (c0 : Nat) (l0 : List (S38)) (a1_0 : Int) (a1_1 : Int) (a1_2 : Int) (a2 : Int) (a3 : Int) (a4 : Int) (a5_0 : Int) (A5_1 : Option Addr) (c5_1 : Nat) (l5_1 : List (S51)) (r1 : List (S38)) (r2 : Int) (w : World) (hr0 : Kd.C k38 w A0 l0.length l0) (hc0 : l0.length ≤ c0) (hr5_1 : Kd.C k51 w A5_1 l5_1.length l5_1) (hc5_1 : l5_1.length ≤ c5_1) (h : session_Touch.f l0 a1_0 a1_1 a1_2 a2 a3 a4 a5_0 l5_1 = some (r1, r2)) :
    Calls Try.prog 13 #[.slice A0 l0.length c0, .agg #[.int .i64 a1_0, .int .i64 a1_1, .int .i64 a1_2], .int .i64 a2, .int .i64 a3, .int .i64 a4, .agg #[.int .i64 a5_0, .slice A5_1 l5_1.length c5_1]] w fun e w' => ∃ v0_ : Value, e = .returned (.tuple #[v0_, .int .i64 r2]) ∧ Kd.R k38 38 w' w.heap.size (fun _ => True) v0_ r1 ∧ Below w.heap.size w w' := by
  replace h := Option.some.inj h
  have HH := Aside0.mk h
  have HR := Aside0.mk hr0
  have HC := Aside0.mk hc0
  have HR5 := Aside0.mk hr5_1
  have HC5 := Aside0.mk hc5_1
  have HBW := Aside0.mk (below_alloc (below_alloc (Below.refl w.heap.size w) (.cells #[.int .i64 a1_0, .int .i64 a1_1, .int .i64 a1_2] 24)) (.cells #[.int .i64 a5_0, .slice A5_1 l5_1.length c5_1] 36))
  have BS := Aside0.mk (blk_alloc (heap_new1 w (.cells #[.int .i64 a1_0, .int .i64 a1_1, .int .i64 a1_2] 24)) (.cells #[.int .i64 a5_0, .slice A5_1 l5_1.length c5_1] 36))
  have BV := Aside0.mk (heap_new2 w (.cells #[.int .i64 a1_0, .int .i64 a1_1, .int .i64 a1_2] 24) (.cells #[.int .i64 a5_0, .slice A5_1 l5_1.length c5_1] 36))
  have hm0 : l0.length ≤ 9223372036854775807 := hr0.2.1
  have hm5 : l5_1.length ≤ 9223372036854775807 := hr5_1.2.1
  clear h hr0 hc0 hr5_1 hc5_1
  go_enter Try.func13, Try.ntmps13
  go_wp2_with fail
  go_at_call 22
  with_reducible refine (session_Check.calls A0 c0 l0 a1_0 a1_1 a1_2 a2 a3 (checkS l0 a1_0 a1_1 a1_2 a2 a3) _ (Kd.C_alloc (Kd.C_alloc HR.out _) _) HC.out rfl).mono ?_
  rintro e w1 ⟨rfl, hb⟩
  have HB1 := Aside0.mk (below_then HBW.out HBW.out.size hb)
  have BS1 := Aside0.mk (blk_below BS.out hb)
  have BV1 := Aside0.mk (blk_below BV.out hb)
  clear hb
  by_cases hc0 : checkS l0 a1_0 a1_1 a1_2 a2 a3 = 0
  · rw [hc0]
    have HM := Aside0.mk (mayS_of hc0)
    have HH1 : Aside0 ((if a4 < 0 ∨ (l0.length : Int) ≤ a4 then ([], 71) else if checkW a5_0 l5_1 a1_2 ≠ 0 then ([], 9) else (l0.set a4.toNat ⟨(l0.getD a4.toNat z38).f0, (l0.getD a4.toNat z38).f1, a3, ⟨a5_0, l5_1⟩⟩, 0)) = (r1, r2)) := ⟨by have h := HH.out; unfold touchS at h; rwa [if_neg (show ¬ checkS l0 a1_0 a1_1 a1_2 a2 a3 ≠ 0 by rw [hc0]; simp)] at h⟩
    clear hc0
    by_cases h1 : a4 < 0
    · have t2 : decide (a4 < 0) = true := decide_eq_true h1
      obtain ⟨⟨⟩⟩ : Aside0 ((([], 71) : List S38 × Int) = (r1, r2)) := ⟨by rw [← HH1.out, if_pos (.inl h1)]⟩
      clear h1
      go_wp2_with fail
      go_ret2
      exact ⟨_, rfl, Kd.R_nil _ _ _ _ _, HB1.out⟩
    · have t2 : decide (a4 < 0) = false := decide_eq_false h1
      by_cases h2 : (l0.length : Int) ≤ a4
      · have t3 : decide ((l0.length : Int) ≤ a4) = true := decide_eq_true h2
        obtain ⟨⟨⟩⟩ : Aside0 ((([], 71) : List S38 × Int) = (r1, r2)) := ⟨by rw [← HH1.out, if_pos (.inr h2)]⟩
        clear h1 h2
        go_wp2_with fail
        go_ret2
        exact ⟨_, rfl, Kd.R_nil _ _ _ _ _, HB1.out⟩
      · have t3 : decide ((l0.length : Int) ≤ a4) = false := decide_eq_false h2
        obtain ⟨k, rfl⟩ : ∃ k : Nat, a4 = (k : Int) := ⟨a4.toNat, by omega⟩
        have HH2 : Aside0 ((if checkW a5_0 l5_1 a1_2 ≠ 0 then ([], 9) else (l0.set k ⟨(l0.getD k z38).f0, (l0.getD k z38).f1, a3, ⟨a5_0, l5_1⟩⟩, 0)) = (r1, r2)) := ⟨by have h := HH1.out; rwa [if_neg (show ¬ ((k : Int) < 0 ∨ (l0.length : Int) ≤ (k : Int)) by rw [not_or]; exact ⟨h1, h2⟩), Int.toNat_natCast] at h⟩
        have hk : k < l0.length := by omega
        have y0 : w1.cell? ⟨w.heap.size, 2, none⟩ = some (.int .i64 a1_2) := (blk_cell BS1.out 2).trans rfl
        have y1 : w1.cell? ⟨w.heap.size + 1, 0, none⟩ = some (.int .i64 a5_0) := (blk_cell BV1.out 0).trans rfl
        have y2 : w1.cell? ⟨w.heap.size + 1, 1, none⟩ = some (.slice A5_1 l5_1.length c5_1) := (blk_cell BV1.out 1).trans rfl
        have t3' : decide (l0.length ≤ k) = false := decide_eq_false (by omega)
        clear h1 h2 HH1
        go_wp2_with fail
        go_at_call 35
        with_reducible refine (window_Check.calls a5_0 A5_1 c5_1 l5_1 a1_2 (checkW a5_0 l5_1 a1_2) _ (Kd.C_below HR5.out HB1.out) HC5.out rfl).mono ?_
        rintro e w2 ⟨rfl, hb⟩
        have HB2 := Aside0.mk (below_then HB1.out HB1.out.size hb)
        have BV2 := Aside0.mk (blk_below BV1.out hb)
        clear hb y0 y1 y2
        by_cases hcw : checkW a5_0 l5_1 a1_2 = 0
        · rw [hcw]
          obtain ⟨⟨⟩⟩ : Aside0 (((l0.set k ⟨(l0.getD k z38).f0, (l0.getD k z38).f1, a3, ⟨a5_0, l5_1⟩⟩, 0) : List S38 × Int) = (r1, r2)) := ⟨by rw [← HH2.out, if_neg (by rw [hcw]; simp)]⟩
          have HSW := Aside0.mk (small_of hcw)
          clear hcw
          go_wp2_with fail
          go_at_call 31
          with_reducible refine (session_Clone.calls A0 c0 l0 l0 _ (Kd.C_below HR.out HB2.out) HC.out (session_Clone.ok HM.out.small)).mono ?_
          rintro e w3 ⟨v3, rfl, hr3, hb3⟩
          obtain ⟨A3, c3, rfl⟩ := Kd.R_slice hr3
          obtain ⟨g, rfl⟩ : ∃ g, A3 = some ⟨g, 0, none⟩ := by
            rcases A3 with _ | ad
            · obtain ⟨A, c, he, _, hC⟩ := Kd.R_reads hr3
              obtain ⟨ad, h1, _⟩ := hC.2.2 (by omega)
              injection he with he
              rw [h1] at he
              cases he
            · obtain ⟨g, rfl⟩ := Kd.R_head hr3
              exact ⟨g, rfl⟩
          have HR3 := Aside0.mk hr3
          have HB3 := Aside0.mk hb3
          have BV3 := Aside0.mk (blk_below BV2.out hb3)
          have y1 : w3.cell? ⟨w.heap.size + 1, 0, none⟩ = some (.int .i64 a5_0) := (blk_cell BV3.out 0).trans rfl
          have y2 : w3.cell? ⟨w.heap.size + 1, 1, none⟩ = some (.slice A5_1 l5_1.length c5_1) := (blk_cell BV3.out 1).trans rfl
          have HCD : Aside0 (window_Clone.f a5_0 l5_1 = some (a5_0, l5_1)) := ⟨by unfold window_Clone.f; rw [if_pos HSW.out]⟩
          clear hr3 hb3
          go_wp2_with fail
          go_at_call 36
          with_reducible refine (window_Clone.calls a5_0 A5_1 c5_1 l5_1 a5_0 l5_1 _ (Kd.C_below (Kd.C_below HR5.out HB2.out) HB3.out) HC5.out HCD.out).mono ?_
          rintro e w4 ⟨v4, rfl, hS, hb4⟩
          have hR4 := Kd.S_R hS
          obtain ⟨A4, c4, rfl⟩ := Kd.R_slice hR4
          have RW := Aside0.mk (Kd.R_below HR3.out hb4)
          have HR4 : Aside0 (Kd.R k51 51 w4 w2.heap.size (fun q => True ∧ q ≠ g) (.slice A4 l5_1.length c4) l5_1) := ⟨Kd.R_lower (Kd.R_mono (Kd.R_bound hR4) (fun q hq => ⟨trivial, fun he => by have := Kd.R_lt HR3.out g rfl; have := hq.2.1; omega⟩)) HB3.out.size⟩
          have HB4 := Aside0.mk (below_then HB3.out HB3.out.size hb4)
          obtain ⟨cs, hz1, hz2, hz3, hz4⟩ := Kd.R_elem RW.out z38 (k : Int) (by omega) (by omega)
          simp only [Int.toNat_natCast] at hz2 hz3 hz4
          obtain ⟨v5, rfl, hM5⟩ := k38_openM hz2
          have x2 : w4.cell? ⟨g, k * 5 + 2, none⟩ = some (.int .i64 (l0.getD k z38).f2) := hz3 2 _ rfl
          have x3 : w4.cell? ⟨g, k * 5 + 3, none⟩ = some (.int .i64 (l0.getD k z38).f3.f0) := hz3 3 _ rfl
          have x4 : w4.cell? ⟨g, k * 5 + 4, none⟩ = some v5 := hz3 4 _ rfl
          have f2 : w4.frozen? ⟨g, k * 5 + 2, none⟩ = false := hz4 2
          have f3 : w4.frozen? ⟨g, k * 5 + 3, none⟩ = false := hz4 3
          have f4 : w4.frozen? ⟨g, k * 5 + 4, none⟩ = false := hz4 4
          have HZ1 := Aside0.mk hz1
          have HZ3 := Aside0.mk hz3
          clear hS hR4 hb4 hz1 hz2 hz3 hz4 hM5 y1 y2
          go_wp2_with fail
          go_ret2
          obtain ⟨hseg, hgr⟩ := Kd.R_seg RW.out (k : Int) (by omega) (by omega) (seg := [.int .i64 a3, .int .i64 a5_0, .slice A4 l5_1.length c4]) (j := 2) (x' := ⟨(l0.getD k z38).f0, (l0.getD k z38).f1, a3, ⟨a5_0, l5_1⟩⟩) (okp := fun q => True ∧ q ≠ g) HZ1.out HZ3.out (by show 2 + 3 ≤ 5; omega) (k38_mkM _ _ _ (⟨(l0.getD k z38).f0, (l0.getD k z38).f1, a3, ⟨a5_0, l5_1⟩⟩ : S38) HR4.out) (fun _ h => h)
          have hbg : w.heap.size ≤ g := Nat.le_trans HB2.out.size (Kd.R_base RW.out g rfl)
          exact ⟨_, rfl, Kd.R_lower hseg HB2.out.size, below_set (below_set (below_set (below_then HB2.out HB2.out.size HB4.out) hbg) hbg) hbg⟩
        · have t4 : (checkW a5_0 l5_1 a1_2 == 0) = false := by simpa using hcw
          obtain ⟨⟨⟩⟩ : Aside0 ((([], 9) : List S38 × Int) = (r1, r2)) := ⟨by rw [← HH2.out, if_pos hcw]⟩
          clear hcw
          go_wp2_with fail
          go_ret2
          exact ⟨_, rfl, Kd.R_nil _ _ _ _ _, HB2.out⟩
  · have t1 : (checkS l0 a1_0 a1_1 a1_2 a2 a3 == 0) = false := by simpa using hc0
    obtain ⟨⟨⟩⟩ : Aside0 ((([], checkS l0 a1_0 a1_1 a1_2 a2 a3) : List S38 × Int) = (r1, r2)) := ⟨by rw [← HH.out]; unfold touchS; rw [if_pos hc0]⟩
    go_wp2_with fail
    go_ret2
    exact ⟨_, rfl, Kd.R_nil _ _ _ _ _, HB1.out⟩
end Go.Proofs.Ythfjgfldmkdlnaa.G
end
