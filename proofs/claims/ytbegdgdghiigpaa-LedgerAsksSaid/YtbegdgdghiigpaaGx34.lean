-- Made by wip/tools/xprint.py (over the kit's print program) for this claim.
import Derived.Test.YtbegdgdghiigpaaGx0
import Derived.Test.YtbegdgdghiigpaaGx7
import Derived.Test.YtbegdgdghiigpaaGx8
import Derived.Test.YtbegdgdghiigpaaGx10
import Derived.Test.YtbegdgdghiigpaaGx13
import Derived.Test.YtbegdgdghiigpaaGx14
import Derived.Test.YtbegdgdghiigpaaGx18
namespace Go.Proofs.Ytbegdgdghiigpaa.G
open WB Go.RowKit Go.Proofs.YtbegdgdghiigpaaW.PrintWords Go.Proofs.YtbegdgdghiigpaaW.PrintLast Go.Proofs.YtbegdgdghiigpaaW.PrintMore
attribute [local go_sem] max2_int min2_int max_two min_two max_three min_three max_four min_four   -- for this text's walks alone
set_option linter.unusedVariables false
set_option linter.unusedSimpArgs false

/-! ### ledger_Ask: function 17 -/
theorem replF_take : ∀ (l : List S44) (s : List Int × List S44) (p : Nat), (replF s l).2.2 = 0 → (replF s (l.take p)).2.2 = 0
  | _, s, 0, _ => by rw [List.take_zero]; rfl
  | [], s, p + 1, _ => by rw [List.take_nil]; rfl
  | x :: r, s, p + 1, h0 => by
    rw [List.take_succ_cons]
    by_cases h1 : chkL x.f0 = 0
    · by_cases h2 : 2 < x.f0.f0
      · rw [replF_kind r h1 h2] at h0; cases h0
      · rw [replF_go r h1 h2] at h0
        rw [replF_go _ h1 h2]
        split at h0
        · rename_i hh; rw [if_pos hh]; exact replF_take r _ p h0
        · cases h0
    · rw [replF_bad r h1] at h0; exact absurd h0 h1
theorem replL_take (l : List S44) (p : Nat) (h : (replL l).2.2 = 0) : (replL (l.take p)).2.2 = 0 := by
  have hl := (replL_bal l h).2.2
  unfold replL at h ⊢
  rw [if_neg (by omega)] at h
  rw [if_neg (by rw [List.length_take]; omega)]
  exact replF_take l _ p h
def askF (log : List S44) (place : Int) (o : S35) : S37 × Int :=
  if (replL log).2.2 ≠ 0 then (⟨0, 0, 0⟩, (replL log).2.2) else if chkL o ≠ 0 then (⟨0, 0, 0⟩, chkL o) else if place < 0 ∨ (log.length : Int) < place then (⟨0, 0, 0⟩, 4)
  else ((doL ((replL (log.take place.toNat)).1, (replL (log.take place.toNat)).2.1) o).2, 0)
theorem C_takeN {α : Type} {d : Kd α} {w : World} {A : Option Addr} {xs : List α} (h : d.C w A xs.length xs) (p : Nat) (hp : p ≤ xs.length) : d.C w A (xs.take p).length (xs.take p) := Kd.C_take h hp
def ledger_Ask.f (l0 : List (S44)) (a1 : Int) (a2_0 : Int) (a2_1 : Int) (a2_2 : Int) (a2_3 : Int) : Option (Int × Int × Int × Int) := some ((askF l0 a1 ⟨a2_0, a2_1, a2_2, a2_3⟩).1.f0, (askF l0 a1 ⟨a2_0, a2_1, a2_2, a2_3⟩).1.f1, (askF l0 a1 ⟨a2_0, a2_1, a2_2, a2_3⟩).1.f2, (askF l0 a1 ⟨a2_0, a2_1, a2_2, a2_3⟩).2)
set_option maxHeartbeats 4000000 in
set_option maxRecDepth 100000 in
theorem ledger_Ask.calls (A0 : Option Addr) (c0 : Nat) (l0 : List (S44)) (a1 : Int) (a2_0 : Int) (a2_1 : Int) (a2_2 : Int) (a2_3 : Int) (r1 : Int) (r2 : Int) (r3 : Int) (r4 : Int) (w : World) (hr0 : Kd.C k44 w A0 l0.length l0) (hc0 : l0.length ≤ c0) (h : ledger_Ask.f l0 a1 a2_0 a2_1 a2_2 a2_3 = some (r1, r2, r3, r4)) :
    Calls Try.prog 17 #[.slice A0 l0.length c0, .int .i64 a1, .agg #[.int .i64 a2_0, .int .i64 a2_1, .int .i64 a2_2, .int .i64 a2_3]] w fun e w' => e = .returned (.tuple #[.agg #[.int .i64 r1, .int .i64 r2, .int .i64 r3], .int .i64 r4]) ∧ Below w.heap.size w w' := by
  unfold ledger_Ask.f at h
  replace h := Option.some.inj h
  obtain ⟨o, ho⟩ : ∃ o : S35, o = ⟨a2_0, a2_1, a2_2, a2_3⟩ := ⟨_, rfl⟩
  have HO := Aside0.mk ho
  rw [← ho] at h
  simp only [Prod.mk.injEq] at h
  have HH := Aside0.mk h
  have H0 := Aside0.mk hr0
  have C0 := Aside0.mk hc0
  have hm0 : l0.length ≤ 9223372036854775807 := hr0.2.1
  clear h hr0 hc0 ho
  have hws : w.heap.size ≤ ((w.alloc (.cells #[.int .i64 a2_0, .int .i64 a2_1, .int .i64 a2_2, .int .i64 a2_3] 35)).alloc (.cells #[.int .i64 0, .int .i64 0, .int .i64 0] 37)).heap.size := by simp; omega
  have HWS := Aside0.mk hws
  clear hws
  have e0 : o.f0 = a2_0 := by rw [HO.out]
  have e1 : o.f1 = a2_1 := by rw [HO.out]
  have e2 : o.f2 = a2_2 := by rw [HO.out]
  have e3 : o.f3 = a2_3 := by rw [HO.out]
  have HOE := Aside0.mk (And.intro e0 (And.intro e1 (And.intro e2 e3)))
  clear e0 e1 e2 e3
  go_enter Try.func17, Try.ntmps17
  go_wp2_with fail
  go_at_call 22
  with_reducible refine (ledger_Replay.calls A0 c0 l0 (replL l0).1 (replL l0).2.1 (replL l0).2.2 _ (Kd.C_alloc (Kd.C_alloc H0.out _) _) C0.out rfl).mono ?_
  rintro e w1 ⟨v0, v1, rfl, hr0, hr1, hb⟩
  obtain ⟨Ab, cb, rfl⟩ := Kd.R_slice hr0
  obtain ⟨Al, cl, rfl⟩ := Kd.R_slice hr1
  have HB1 := Aside0.mk (below_then (below_alloc (below_alloc (Below.refl _ _) _) _) HWS.out hb)
  have BO1 := Aside0.mk (blk_below (blk_alloc (heap_new1 w (.cells #[.int .i64 a2_0, .int .i64 a2_1, .int .i64 a2_2, .int .i64 a2_3] 35)) _) hb)
  have BR1 := Aside0.mk (blk_below (heap_new2 w (.cells #[.int .i64 a2_0, .int .i64 a2_1, .int .i64 a2_2, .int .i64 a2_3] 35) (.cells #[.int .i64 0, .int .i64 0, .int .i64 0] 37)) hb)
  clear hb hr0 hr1
  have hlt1 : w.heap.size + 1 < w1.heap.size := blk_lt BR1.out
  by_cases hrep : (replL l0).2.2 = 0
  · rw [hrep]
    have s0 : w1.cell? ⟨w.heap.size, 0, none⟩ = some (.int .i64 a2_0) := (blk_cell BO1.out 0).trans rfl
    have s1 : w1.cell? ⟨w.heap.size, 1, none⟩ = some (.int .i64 a2_1) := (blk_cell BO1.out 1).trans rfl
    have s2 : w1.cell? ⟨w.heap.size, 2, none⟩ = some (.int .i64 a2_2) := (blk_cell BO1.out 2).trans rfl
    have s3 : w1.cell? ⟨w.heap.size, 3, none⟩ = some (.int .i64 a2_3) := (blk_cell BO1.out 3).trans rfl
    have hls := blk_lt BO1.out
    go_wp2_with fail
    go_at_call 18
    with_reducible refine (ledger_Check.calls 2 a2_0 a2_1 a2_2 a2_3 (chkL o) _ (by have := chkL_f o; rwa [HOE.out.1, HOE.out.2.1, HOE.out.2.2.1, HOE.out.2.2.2] at this)).mono ?_
    rintro e w2 ⟨rfl, hb⟩
    clear s0 s1 s2 s3
    have hbx := below_alloc (Below.refl w1.heap.size w1) (.cells #[.slice Ab (replL l0).1.length cb, .slice Al (replL l0).2.1.length cl] 25)
    have HB2 := Aside0.mk (below_then HB1.out HB1.out.size (below_then hbx (by simp) hb))
    have BO2 := Aside0.mk (blk_below (blk_below BO1.out hbx) hb)
    have BR2 := Aside0.mk (blk_below (blk_below BR1.out hbx) hb)
    clear hb hbx
    by_cases hchk : chkL o = 0
    · rw [hchk]
      by_cases hpl : a1 < 0 ∨ (l0.length : Int) < a1
      · have HAS : Aside0 (askF l0 a1 o = (⟨0, 0, 0⟩, 4)) := ⟨by unfold askF; rw [if_neg (fun hh => hh hrep), if_neg (fun hh => hh hchk), if_pos hpl]⟩
        have z0 : w2.cell? ⟨w.heap.size + 1, 0, none⟩ = some (.int .i64 0) := (blk_cell BR2.out 0).trans rfl
        have z1 : w2.cell? ⟨w.heap.size + 1, 1, none⟩ = some (.int .i64 0) := (blk_cell BR2.out 1).trans rfl
        have z2 : w2.cell? ⟨w.heap.size + 1, 2, none⟩ = some (.int .i64 0) := (blk_cell BR2.out 2).trans rfl
        have fz0 := blk_frozen BR2.out 0
        have fz1 := blk_frozen BR2.out 1
        have fz2 := blk_frozen BR2.out 2
        have hlz := blk_lt BR2.out
        by_cases hneg : a1 < 0
        · have t1 : decide (a1 < 0) = true := decide_eq_true hneg
          go_wp2
          refine bodyPost_ret (results_list (rs := [.cell 6 37, .tmp 7]) rfl (by simp) (.cell (w.heap.size + 1) 37 #[.int .i64 0, .int .i64 0, .int .i64 0] (0, 0) _ rfl (blk_put (cs := #[.int .i64 0, .int .i64 0, .int .i64 0]) (blk_put (cs := #[.int .i64 0, .int .i64 0, .int .i64 0]) (blk_put (cs := #[.int .i64 0, .int .i64 0, .int .i64 0]) BR2.out 0 _ rfl) 1 _ rfl) 2 _ rfl) Try.underlying37 rfl (by kernel_rfl) (.tmp .nil))) rfl ?_
          exact ⟨by rw [← HH.out.1, ← HH.out.2.1, ← HH.out.2.2.1, ← HH.out.2.2.2, HAS.out] <;> rfl, below_set (below_set (below_set HB2.out (by simp)) (by simp)) (by simp)⟩
        · have t1 : decide (a1 < 0) = false := decide_eq_false hneg
          have t2 : decide ((l0.length : Int) < a1) = true := decide_eq_true (by omega)
          go_wp2
          refine bodyPost_ret (results_list (rs := [.cell 6 37, .tmp 7]) rfl (by simp) (.cell (w.heap.size + 1) 37 #[.int .i64 0, .int .i64 0, .int .i64 0] (0, 0) _ rfl (blk_put (cs := #[.int .i64 0, .int .i64 0, .int .i64 0]) (blk_put (cs := #[.int .i64 0, .int .i64 0, .int .i64 0]) (blk_put (cs := #[.int .i64 0, .int .i64 0, .int .i64 0]) BR2.out 0 _ rfl) 1 _ rfl) 2 _ rfl) Try.underlying37 rfl (by kernel_rfl) (.tmp .nil))) rfl ?_
          exact ⟨by rw [← HH.out.1, ← HH.out.2.1, ← HH.out.2.2.1, ← HH.out.2.2.2, HAS.out] <;> rfl, below_set (below_set (below_set HB2.out (by simp)) (by simp)) (by simp)⟩
      · have t1 : decide (a1 < 0) = false := decide_eq_false (by omega)
        have t2 : decide ((l0.length : Int) < a1) = false := decide_eq_false (by omega)
        obtain ⟨p, rfl⟩ := Int.eq_ofNat_of_zero_le (show 0 ≤ a1 by omega)
        have hpn : p ≤ l0.length := by omega
        have HAS : Aside0 (askF l0 p o = ((doL ((replL (l0.take p)).1, (replL (l0.take p)).2.1) o).2, 0)) := ⟨by unfold askF; rw [if_neg (fun hh => hh hrep), if_neg (fun hh => hh hchk), if_neg hpl, Int.toNat_natCast]⟩
        have HRT := Aside0.mk (replL_take l0 p hrep)
        have HC2 := Aside0.mk (C_takeN (Kd.C_below H0.out HB2.out) p hpn)
        have hplen : (l0.take p).length = p := by rw [List.length_take]; omega
        have HPL := Aside0.mk hplen
        obtain ⟨i44, hi44, _⟩ := Option.map_eq_some_iff.1 info44
        have hcut := cut_to 23 44 .i64 Try.underlying23 hi44 A0 l0.length c0 (p : Int) (by omega) (by omega) C0.out
        simp only [Int.toNat_natCast] at hcut
        clear hplen hi44
        go_wp2_with fail
        go_at_call 22
        refine calls_of_args (args' := #[.slice A0 (l0.take p).length c0]) (by rw [HPL.out]) ?_
        with_reducible refine (ledger_Replay.calls A0 c0 (l0.take p) (replL (l0.take p)).1 (replL (l0.take p)).2.1 (replL (l0.take p)).2.2 _ HC2.out (by rw [HPL.out]; have := C0.out; omega) rfl).mono ?_
        rintro e w3 ⟨v0, v1, rfl, hr0, hr1, hb3⟩
        clear hcut
        obtain ⟨bs, hbs⟩ : ∃ bs, bs = (replL (l0.take p)).1 := ⟨_, rfl⟩
        obtain ⟨L, hL⟩ : ∃ L, L = (replL (l0.take p)).2.1 := ⟨_, rfl⟩
        have HOK : Aside0 (BalOk bs ∧ L.length ≤ 1024) := ⟨by have := replL_bal _ HRT.out; rw [hbs, hL]; exact ⟨this.1, by rw [this.2.1]; exact this.2.2⟩⟩
        rw [← hbs, ← hL] at HAS
        rw [← hbs] at hr0
        rw [← hL] at hr1
        clear hbs hL
        obtain ⟨Ac, cc, rfl⟩ := Kd.R_slice hr0
        obtain ⟨Ad, cd, rfl⟩ := Kd.R_slice hr1
        obtain ⟨gb, rfl⟩ := R_some hr0 (by rw [HOK.out.1.len]; omega)
        have hsz : w.heap.size ≤ w2.heap.size := HB2.out.size
        have hl21 : (.cells #[.slice (some ⟨gb, 0, none⟩) bs.length cc, .slice Ad L.length cd] 25 : Obj) = .cells #[.slice (some ⟨gb, 0, none⟩) bs.length cc, .slice Ad L.length cd] 25 := rfl
        have HB3 := Aside0.mk (below_alloc (below_then HB2.out HB2.out.size hb3) (.cells #[.slice (some ⟨gb, 0, none⟩) bs.length cc, .slice Ad L.length cd] 25))
        have BO3 := Aside0.mk (blk_alloc (blk_alloc (blk_below BO2.out hb3) (.cells #[.slice (some ⟨gb, 0, none⟩) bs.length cc, .slice Ad L.length cd] 25)) (.cells #[.slice (some ⟨gb, 0, none⟩) bs.length cc, .slice Ad L.length cd] 57))
        have BR3 := Aside0.mk (blk_alloc (blk_alloc (blk_below BR2.out hb3) (.cells #[.slice (some ⟨gb, 0, none⟩) bs.length cc, .slice Ad L.length cd] 25)) (.cells #[.slice (some ⟨gb, 0, none⟩) bs.length cc, .slice Ad L.length cd] 57))
        have HBK : Aside0 (Book ((w3.alloc (.cells #[.slice (some ⟨gb, 0, none⟩) bs.length cc, .slice Ad L.length cd] 25)).alloc (.cells #[.slice (some ⟨gb, 0, none⟩) bs.length cc, .slice Ad L.length cd] 57)) w.heap.size (w3.heap.size + 1) gb cc (.slice Ad L.length cd) bs L) := ⟨⟨heap_new2 _ _ _, Kd.R_alloc (Kd.R_alloc (Kd.R_lower hr0 hsz) _) _, Kd.R_alloc (Kd.R_alloc (Kd.R_lower hr1 hsz) _) _⟩⟩
        have hsz3 := hb3.size
        have BOw := Aside0.mk (blk_below BO2.out hb3)
        clear hb3 hr0 hr1 hl21
        have s0 : w3.cell? ⟨w.heap.size, 0, none⟩ = some (.int .i64 a2_0) := (blk_cell BOw.out 0).trans rfl
        have s1 : w3.cell? ⟨w.heap.size, 1, none⟩ = some (.int .i64 a2_1) := (blk_cell BOw.out 1).trans rfl
        have s2 : w3.cell? ⟨w.heap.size, 2, none⟩ = some (.int .i64 a2_2) := (blk_cell BOw.out 2).trans rfl
        have s3 : w3.cell? ⟨w.heap.size, 3, none⟩ = some (.int .i64 a2_3) := (blk_cell BOw.out 3).trans rfl
        have hls := blk_lt BOw.out
        have HSL := Aside0.mk (chkL_ok hchk)
        go_wp2_with fail
        go_at_call 21
        refine calls_of_args (args' := #[.pointer (some ⟨w3.heap.size + 1, 0, none⟩), .agg #[.int .i64 o.f0, .int .i64 o.f1, .int .i64 o.f2, .int .i64 o.f3]]) (by rw [HOE.out.1, HOE.out.2.1, HOE.out.2.2.1, HOE.out.2.2.2]) ?_
        with_reducible refine (book_do w.heap.size (w3.heap.size + 1) gb cc cd Ad bs L o _ HBK.out HSL.out HOK.out.1 (by have := HOK.out.2; omega) (by simp; omega)).mono ?_
        rintro e w4 ⟨rfl, ⟨vl', hbk', hat⟩, hm⟩
        have HB4 := Aside0.mk (hm.below (below_alloc HB3.out _) (by simp; omega) (fun q hq => by
          rcases hq with rfl | rfl | hq
          · omega
          · exact Kd.R_base HBK.out.rb _ rfl
          · exact Kd.R_base HBK.out.rl _ hq.symm))
        have BR4 := Aside0.mk (hm.blk BR3.out (fun hq => by
          rcases hq with h | h | h
          · exact blk_ne BR3.out HBK.out.b0 (by decide) h
          · exact Kd.R_ne HBK.out.rb BR3.out (by decide) (by rw [h]; rfl)
          · exact Kd.R_ne HBK.out.rl BR3.out (by decide) h))
        clear hbk' hat hm s0 s1 s2 s3
        obtain ⟨d, hd⟩ : ∃ d, d = (doL (bs, L) o).2 := ⟨_, rfl⟩
        rw [← hd] at HAS ⊢
        clear hd
        have z0 : w4.cell? ⟨w.heap.size + 1, 0, none⟩ = some (.int .i64 0) := (blk_cell BR4.out 0).trans rfl
        have z1 : w4.cell? ⟨w.heap.size + 1, 1, none⟩ = some (.int .i64 0) := (blk_cell BR4.out 1).trans rfl
        have z2 : w4.cell? ⟨w.heap.size + 1, 2, none⟩ = some (.int .i64 0) := (blk_cell BR4.out 2).trans rfl
        have fz0 := blk_frozen BR4.out 0
        have fz1 := blk_frozen BR4.out 1
        have fz2 := blk_frozen BR4.out 2
        have hlz := blk_lt BR4.out
        go_wp2
        refine bodyPost_ret (results_list (rs := [.cell 6 37, .tmp 7]) rfl (by simp) (.cell (w.heap.size + 1) 37 #[.int .i64 d.f0, .int .i64 d.f1, .int .i64 d.f2] (0, 0) _ rfl (blk_put (cs := #[.int .i64 d.f0, .int .i64 d.f1, .int .i64 0]) (blk_put (cs := #[.int .i64 d.f0, .int .i64 0, .int .i64 0]) (blk_put (cs := #[.int .i64 0, .int .i64 0, .int .i64 0]) BR4.out 0 _ rfl) 1 _ rfl) 2 _ rfl) Try.underlying37 rfl (by kernel_rfl) (.tmp .nil))) rfl ?_
        exact ⟨by rw [← HH.out.1, ← HH.out.2.1, ← HH.out.2.2.1, ← HH.out.2.2.2, HAS.out] <;> rfl, below_set (below_set (below_set HB4.out (by simp)) (by simp)) (by simp)⟩
    · have HAS : Aside0 (askF l0 a1 o = (⟨0, 0, 0⟩, chkL o)) := ⟨by unfold askF; rw [if_neg (fun hh => hh hrep), if_pos hchk]⟩
      have t3 : (chkL o == 0) = false := by simpa using hchk
      have z0 : w2.cell? ⟨w.heap.size + 1, 0, none⟩ = some (.int .i64 0) := (blk_cell BR2.out 0).trans rfl
      have z1 : w2.cell? ⟨w.heap.size + 1, 1, none⟩ = some (.int .i64 0) := (blk_cell BR2.out 1).trans rfl
      have z2 : w2.cell? ⟨w.heap.size + 1, 2, none⟩ = some (.int .i64 0) := (blk_cell BR2.out 2).trans rfl
      have fz0 := blk_frozen BR2.out 0
      have fz1 := blk_frozen BR2.out 1
      have fz2 := blk_frozen BR2.out 2
      have hlz := blk_lt BR2.out
      go_wp2
      refine bodyPost_ret (results_list (rs := [.cell 6 37, .tmp 7]) rfl (by simp) (.cell (w.heap.size + 1) 37 #[.int .i64 0, .int .i64 0, .int .i64 0] (0, 0) _ rfl (blk_put (cs := #[.int .i64 0, .int .i64 0, .int .i64 0]) (blk_put (cs := #[.int .i64 0, .int .i64 0, .int .i64 0]) (blk_put (cs := #[.int .i64 0, .int .i64 0, .int .i64 0]) BR2.out 0 _ rfl) 1 _ rfl) 2 _ rfl) Try.underlying37 rfl (by kernel_rfl) (.tmp .nil))) rfl ?_
      exact ⟨by rw [← HH.out.1, ← HH.out.2.1, ← HH.out.2.2.1, ← HH.out.2.2.2, HAS.out] <;> rfl, below_set (below_set (below_set HB2.out (by simp)) (by simp)) (by simp)⟩
  · have HAS : Aside0 (askF l0 a1 o = (⟨0, 0, 0⟩, (replL l0).2.2)) := ⟨by unfold askF; rw [if_pos hrep]⟩
    have t3 : ((replL l0).2.2 == 0) = false := by simpa using hrep
    have z0 : w1.cell? ⟨w.heap.size + 1, 0, none⟩ = some (.int .i64 0) := (blk_cell BR1.out 0).trans rfl
    have z1 : w1.cell? ⟨w.heap.size + 1, 1, none⟩ = some (.int .i64 0) := (blk_cell BR1.out 1).trans rfl
    have z2 : w1.cell? ⟨w.heap.size + 1, 2, none⟩ = some (.int .i64 0) := (blk_cell BR1.out 2).trans rfl
    have fz0 := blk_frozen BR1.out 0
    have fz1 := blk_frozen BR1.out 1
    have fz2 := blk_frozen BR1.out 2
    have hlz := blk_lt BR1.out
    go_wp2
    refine bodyPost_ret (results_list (rs := [.cell 6 37, .tmp 7]) rfl (by simp) (.cell (w.heap.size + 1) 37 #[.int .i64 0, .int .i64 0, .int .i64 0] (0, 0) _ rfl (blk_alloc (blk_put (cs := #[.int .i64 0, .int .i64 0, .int .i64 0]) (blk_put (cs := #[.int .i64 0, .int .i64 0, .int .i64 0]) (blk_put (cs := #[.int .i64 0, .int .i64 0, .int .i64 0]) BR1.out 0 _ rfl) 1 _ rfl) 2 _ rfl) _) Try.underlying37 rfl (by kernel_rfl) (.tmp .nil))) rfl ?_
    exact ⟨by rw [← HH.out.1, ← HH.out.2.1, ← HH.out.2.2.1, ← HH.out.2.2.2, HAS.out] <;> rfl, below_alloc (below_set (below_set (below_set HB1.out (by simp)) (by simp)) (by simp)) _⟩

end Go.Proofs.Ytbegdgdghiigpaa.G
