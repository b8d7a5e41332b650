/- SessionOwn: texts of this claim, packed: what the kit's print has written for it and own texts, without what its proof does not reach. -/
import Derived.Test.YthfjgfldmkdlnaaKSessionOwn1
import Derived.Test.YthfjgfldmkdlnaaKSessionOwn11
import Derived.Test.YthfjgfldmkdlnaaKSessionOwn14
import Derived.Test.YthfjgfldmkdlnaaKSessionOwn15
import Derived.Test.YthfjgfldmkdlnaaKSessionOwn16
import Derived.Test.YthfjgfldmkdlnaaKSessionOwn19
import Derived.Test.YthfjgfldmkdlnaaKSessionOwn20
import Derived.Test.YthfjgfldmkdlnaaKSessionOwn22
import Derived.Laws.BitsAllLaws
import Derived.Laws.BitsLemmas
import Derived.WalkKit
set_option linter.unusedVariables false
set_option linter.unusedSimpArgs false
set_option linter.unusedSectionVars false
section
namespace Go.Proofs.Ythfjgfldmkdlnaa.G
open WB Go.RowKit Go.Proofs.YthfjgfldmkdlnaaW.PrintWords Go.Proofs.YthfjgfldmkdlnaaW.PrintLast Go.Proofs.YthfjgfldmkdlnaaW.PrintMore
attribute [local go_sem] max2_int min2_int max_two min_two max_three min_three max_four min_four   -- for this text's walks alone
set_option linter.unusedVariables false
set_option linter.unusedSimpArgs false
theorem g_ropen (l : List S38) (a b c n t cl : Int) (k : Nat) (hk : 200 < k) : waybillref23_Open.f k l a b c n t cl = some (openS l a b c n t cl) := by
  obtain ⟨k, rfl⟩ : ∃ q, k = q + 1 := ⟨k - 1, by omega⟩
  unfold waybillref23_Open.f openS
  rw [show waybillref23_Check.f l a b c n t = some (checkS l a b c n t) from rfl, Option.bind_some]
  by_cases h0 : checkS l a b c n t = 0
  · have hM := mayS_of h0
    have h64 := hM.s
    have hlen := hM.len
    have hnn := hM.n
    have four : waybillref23_Open.j0 (k + 1) l n t cl true a b c = some ([], 0, 4) := by
      simp only [waybillref23_Open.j0]
      rw [if_pos trivial]
    rw [if_pos h0, if_neg (show ¬ checkS l a b c n t ≠ 0 by rw [h0]; simp)]
    by_cases h1 : cl < 0
    · rw [if_pos h1, four, if_pos (out_true.2 (.inl h1))]
    · rw [if_neg h1]
      by_cases h2 : cl > 2147483647
      · rw [decide_eq_true h2, four, if_pos (out_true.2 (.inr h2))]
      · rw [decide_eq_false h2, if_neg (show ¬ outB cl 0 2147483647 = true by rw [out_false.2 ⟨by omega, by omega⟩]; simp)]
        simp only [waybillref23_Open.j0]
        rw [if_neg (by simp)]
        by_cases h3 : (l.length : Int) = a
        · rw [if_pos h3, if_pos (.inl h3)]
        · rw [if_neg h3]
          by_cases h4 : n = 1073741824
          · rw [if_pos h4, if_pos (.inr h4)]
          · rw [if_neg h4, if_neg (show ¬ ((l.length : Int) = a ∨ n = 1073741824) by rw [not_or]; exact ⟨h3, h4⟩), own23 l 64 (fit_may hM) k (by omega), Option.bind_some, if_pos (by omega), show wrap64 (n + 1) = n + 1 by unfold wrap64; omega]
  · rw [if_neg h0, if_pos h0]
/-- What writing over octets leaves. -/
structure Spoilt (b n : Nat) (w W : World) : Prop where
  os : W.os = w.os
  tape : W.tape = w.tape
  output : W.output = w.output
  size : W.heap.size = w.heap.size
  oth : ∀ q, q ≠ b ∨ n = 0 → W.heap[q]? = w.heap[q]?
  blk : ∀ (cs : Array Value) (t : Nat), w.heap[b]? = some (.cells cs t (0, 0)) → ∃ cs', W.heap[b]? = some (.cells cs' t (0, 0)) ∧ cs'.size = cs.size
theorem Spoilt.set {b n i : Nat} {u : Value} {w W : World} (h : Spoilt b n w W) (hn : 0 < n) : Spoilt b n w (W.setCell ⟨b, i, none⟩ u) := by
  obtain ⟨h1, h2, h3, h4⟩ := setCells_same b [u] i W
  refine ⟨h1.trans h.os, h2.trans h.tape, h3.trans h.output, h4.trans h.size, fun q hq => (setCells_far [u] i q (hq.elim id (fun h => by omega))).trans (h.oth q hq), fun cs t hc => ?_⟩
  obtain ⟨cs', hb, hs⟩ := h.blk cs t hc
  exact ⟨_, blk_set hb i u, by rw [Array.size_setIfInBounds]; exact hs⟩
set_option maxHeartbeats 2000000 in
set_option maxRecDepth 100000 in
theorem spoil_any (A : Option Addr) (n c b : Nat) (w : World) (hn : n ≤ 9223372036854775807) (hA : 0 < n → A = some ⟨b, 0, none⟩ ∧ ∃ cs : Array Value, w.heap[b]? = some (.cells cs 5 (0, 0)) ∧ n ≤ cs.size) :
    Calls Try.prog 18 #[.slice A n c] w fun e w' => e = .returned (.tuple #[]) ∧ Spoilt b n w w' := by
  have HA := Aside0.mk hA
  clear hA
  go_enter Try.func18, Try.ntmps18
  go_wp2_with fail
  go_loopw [2] (fun v2 wr => ∃ k : Nat, v2 = .int .i64 k ∧ k ≤ n ∧ Aside0 (Spoilt b n w wr)) (fun v2 _ => n - (intOf v2).toNat)
  case atStart => exact ⟨0, rfl, by omega, ⟨⟨rfl, rfl, rfl, rfl, fun _ _ => rfl, fun cs _ h => ⟨cs, h, rfl⟩⟩⟩⟩
  case round =>
    obtain ⟨k, rfl, hk, HS⟩ := hrel
    by_cases hlt : k < n
    · have b1 : decide ((k : Int) < (n : Int)) = true := decide_eq_true (by omega)
      have b1' : decide (k < n) = true := decide_eq_true hlt
      obtain ⟨rfl, cs, hc, hcs⟩ := HA.out (by omega)
      obtain ⟨cs', hb, hs⟩ := HS.out.blk cs _ hc
      obtain ⟨u, x0⟩ : ∃ u, wr.cell? ⟨b, k, none⟩ = some u := ⟨_, by rw [blk_cell hb k]; exact Array.getElem?_eq_getElem (show k < cs'.size by omega)⟩
      have f0 := blk_frozen hb k
      have hlb := blk_lt hb
      clear hc hcs hb hs
      go_wp2_with fail
      go_roundw
      case rel => exact ⟨k + 1, by go_num, by omega, ⟨HS.out.set (by omega)⟩⟩
      case measure => simp [intOf]; omega
    · have b1 : decide ((k : Int) < (n : Int)) = false := decide_eq_false (by omega)
      have b1' : decide (k < n) = false := decide_eq_false hlt
      go_wp2_with fail
      first | go_end0 | ((try simp only [Exit.inBlock, Exit.then]); refine bodyPost_ret (results_none rfl _ _ _) rfl ?_)
      exact ⟨rfl, HS.out⟩
/-- What is written over: in the blocks of B .. N alone; replies keep their octets' places. -/
structure Shp (B N : Nat) (w5 W : World) : Prop where
  os : W.os = w5.os
  tape : W.tape = w5.tape
  output : W.output = w5.output
  size : W.heap.size = w5.heap.size
  oth : ∀ q, ¬ (B ≤ q ∧ q < N) → W.heap[q]? = w5.heap[q]?
  ses : ∀ (q : Nat) (cs : Array Value), w5.heap[q]? = some (.cells cs 38 (0, 0)) → W.heap[q]? = some (.cells cs 38 (0, 0))
  don : ∀ (q : Nat) (cs : Array Value), w5.heap[q]? = some (.cells cs 51 (0, 0)) → ∃ cs', W.heap[q]? = some (.cells cs' 51 (0, 0)) ∧ cs'.size = cs.size ∧ ∀ i, i % 3 ≠ 0 → cs'[i]? = cs[i]?
  oct : ∀ (q : Nat) (cs : Array Value), w5.heap[q]? = some (.cells cs 5 (0, 0)) → ∃ cs', W.heap[q]? = some (.cells cs' 5 (0, 0)) ∧ cs'.size = cs.size
theorem Shp.refl (B N : Nat) (w : World) : Shp B N w w := ⟨rfl, rfl, rfl, rfl, fun _ _ => rfl, fun _ _ h => h, fun _ cs h => ⟨cs, h, rfl, fun _ _ => rfl⟩, fun _ cs h => ⟨cs, h, rfl⟩⟩
theorem cells_inj {cs cs' : Array Value} {t t' : Nat} {x : Option Obj} (h : x = some (.cells cs t (0, 0))) (h' : x = some (.cells cs' t' (0, 0))) : t = t' := by
  rw [h] at h'
  injection h' with h'
  injection h' with _ h'
theorem Shp.spoil {B N b : Nat} {w5 W W' : World} (h : Shp B N w5 W) {n : Nat} (hs : Spoilt b n W W') (hb : 0 < n → (B ≤ b ∧ b < N) ∧ ∃ cs : Array Value, w5.heap[b]? = some (.cells cs 5 (0, 0))) : Shp B N w5 W' := by
  rcases Nat.eq_zero_or_pos n with h0 | h0
  · have e : ∀ q, W'.heap[q]? = W.heap[q]? := fun q => hs.oth q (.inr h0)
    exact ⟨hs.os.trans h.os, hs.tape.trans h.tape, hs.output.trans h.output, hs.size.trans h.size, fun q hq => (e q).trans (h.oth q hq), fun q cs hq => (e q).trans (h.ses q cs hq), fun q cs hq => by rw [e q]; exact h.don q cs hq, fun q cs hq => by rw [e q]; exact h.oct q cs hq⟩
  obtain ⟨hb, cs, hc⟩ := hb h0
  refine ⟨hs.os.trans h.os, hs.tape.trans h.tape, hs.output.trans h.output, hs.size.trans h.size, fun q hq => (hs.oth q (.inl (fun he => hq (he ▸ hb)))).trans (h.oth q hq), fun q cs' hq => ?_, fun q cs' hq => ?_, fun q cs' hq => ?_⟩
  · rw [hs.oth q (.inl (fun he => by subst he; exact absurd (cells_inj hc hq) (by decide)))]
    exact h.ses q cs' hq
  · rw [hs.oth q (.inl (fun he => by subst he; exact absurd (cells_inj hc hq) (by decide)))]
    exact h.don q cs' hq
  · by_cases he : q = b
    · subst he
      obtain ⟨c1, h1, h2⟩ := h.oct q cs' hq
      obtain ⟨c2, h3, h4⟩ := hs.blk c1 _ h1
      exact ⟨c2, h3, h4.trans h2⟩
    · rw [hs.oth q (.inl he)]
      exact h.oct q cs' hq
theorem Shp.seq {B N b k : Nat} {u : Value} {w5 W : World} (h : Shp B N w5 W) (hb : B ≤ b ∧ b < N) {cs : Array Value} (hc : w5.heap[b]? = some (.cells cs 51 (0, 0))) : Shp B N w5 (W.setCell ⟨b, k * 3, none⟩ u) := by
  obtain ⟨h1, h2, h3, h4⟩ := setCells_same b [u] (k * 3) W
  have far : ∀ q, q ≠ b → (W.setCell ⟨b, k * 3, none⟩ u).heap[q]? = W.heap[q]? := fun q hq => setCells_far [u] (k * 3) q hq
  refine ⟨h1.trans h.os, h2.trans h.tape, h3.trans h.output, h4.trans h.size, fun q hq => (far q (fun he => hq (he ▸ hb))).trans (h.oth q hq), fun q cs' hq => ?_, fun q cs' hq => ?_, fun q cs' hq => ?_⟩
  · rw [far q (fun he => by subst he; exact absurd (cells_inj hc hq) (by decide))]
    exact h.ses q cs' hq
  · by_cases he : q = b
    · subst he
      obtain ⟨c1, g1, g2, g3⟩ := h.don q cs' hq
      refine ⟨_, blk_set g1 (k * 3) u, by rw [Array.size_setIfInBounds]; exact g2, fun i hi => ?_⟩
      rw [Array.getElem?_setIfInBounds_ne (by intro hh; rw [← hh] at hi; omega)]
      exact g3 i hi
    · rw [far q he]
      exact h.don q cs' hq
  · rw [far q (fun he => by subst he; exact absurd (cells_inj hc hq) (by decide))]
    exact h.oct q cs' hq
theorem Shp.below {B N B0 : Nat} {w0 w5 W : World} (h : Shp B N w5 W) (hb : Below B0 w0 w5) (hB : B0 ≤ B) (hs : B0 ≤ w0.heap.size) : Below B0 w0 W :=
  ⟨h.os.trans hb.os, h.tape.trans hb.tape, h.output.trans hb.output, by rw [h.size]; exact hb.size, fun k hk => (h.oth k (by omega)).trans (hb.block k hk)⟩
theorem Shp.newer {α : Type} {d : Kd α} {e B N base : Nat} {w5 W : World} {ok : Nat → Prop} {v : Value} {xs : List α} (h : Shp B N w5 W) (hr : d.R e w5 base ok v xs) (hN : N ≤ base) : d.R e W base ok v xs :=
  Kd.R_mono (Kd.R_move (Kd.R_bound hr) (fun k hk => h.oth k (by have := hk.2.1; omega))) (fun k hk => hk.1)
def fitL (l : List S38) : Bool := decide (l.length ≤ 2513169434915) && l.all fun x => decide (x.f3.f1.length ≤ 3518437208800) && x.f3.f1.all fun d => decide (d.f2.length ≤ 140737488351232)
theorem fit_of {l : List S38} (h : fitL l = true) : ∃ M, FitS l M := by
  simp only [fitL, Bool.and_eq_true, decide_eq_true_eq, List.all_eq_true] at h
  obtain ⟨M, hM⟩ := bound_of (fun x : S38 => x.f3.f1.length) l
  exact ⟨M, h.1, fun x hx => ⟨h.2 x hx, hM x hx⟩⟩
theorem own_sameS (l : List S38) : sameS l l = true := by
  refine sameS_yes rfl (fun j hj => ?_)
  have h1 : ∀ d : S51, oneD d d = true := fun d => by unfold oneD; simp
  unfold oneS sameW
  simp [h1]
theorem own_alive : waybilllaw23_alive.f = some true := by
  unfold waybilllaw23_alive.f
  rw [show session_Open.f [] 2 3 4 1 5 6 = some (openS [] 2 3 4 1 5 6) from rfl, Option.bind_some]
  kernel_rfl
def waybilllaw23_SessionOwn.f (l0 : List (S38)) (a1_0 : Int) (a1_1 : Int) (a1_2 : Int) (a2 : Int) (a3 : Int) (a4 : Int) : Option (Bool) := if fitL l0 = true then some true else none
set_option maxHeartbeats 8000000 in
set_option maxRecDepth 100000 in
theorem waybilllaw23_SessionOwn.calls (A0 : Option Addr) (c0 : Nat) (l0 : List (S38)) (a1_0 : Int) (a1_1 : Int) (a1_2 : Int) (a2 : Int) (a3 : Int) (a4 : Int) (r : Bool) (w : World) (hr0 : Kd.C k38 w A0 l0.length l0) (hc0 : l0.length ≤ c0) (h : waybilllaw23_SessionOwn.f l0 a1_0 a1_1 a1_2 a2 a3 a4 = some r) :
    Calls Try.prog 6 #[.slice A0 l0.length c0, .agg #[.int .i64 a1_0, .int .i64 a1_1, .int .i64 a1_2], .int .i64 a2, .int .i64 a3, .int .i64 a4] w fun e w' => e = .returned (.bool r) ∧ Below w.heap.size w w' := by
  unfold waybilllaw23_SessionOwn.f at h
  split at h
  case isFalse => cases h
  case isTrue hfit =>
  obtain rfl := Option.some.inj h
  obtain ⟨M, hM⟩ := fit_of hfit
  have HF := Aside0.mk hM
  have HR := Aside0.mk hr0
  have HC := Aside0.mk hc0
  have HLM : Aside0 (l0.length ≤ 2513169434915) := ⟨hM.len⟩
  have hm0 : l0.length ≤ 9223372036854775807 := hr0.2.1
  have HBW := Aside0.mk (below_alloc (Below.refl w.heap.size w) (.cells #[.int .i64 a1_0, .int .i64 a1_1, .int .i64 a1_2] 24))
  have BS := Aside0.mk (heap_new1 w (.cells #[.int .i64 a1_0, .int .i64 a1_1, .int .i64 a1_2] 24))
  clear h hfit hM hr0 hc0
  go_enter Try.func6, Try.ntmps6
  go_wp2_with fail
  go_at_call 9
  with_reducible refine (waybilllaw23_alive.calls true _ own_alive).mono ?_
  rintro e w1 ⟨rfl, hb⟩
  have HB1 := Aside0.mk (below_then HBW.out HBW.out.size hb)
  have BS1 := Aside0.mk (blk_below BS.out hb)
  clear hb HBW BS
  go_wp2_with fail
  go_at_call 17
  with_reducible refine (waybillref23_Own.calls (l0.length + M + 1) A0 c0 l0 l0 _ (Kd.C_below HR.out HB1.out) HC.out (own23 l0 M HF.out _ (Nat.lt_succ_self _))).mono ?_
  rintro e w3 ⟨v3, rfl, hr3, hb3⟩
  obtain ⟨A3, c3, rfl⟩ := Kd.R_slice hr3
  have HR3 := Aside0.mk hr3
  have HB3 := Aside0.mk (below_then HB1.out HB1.out.size hb3)
  have BS3 := Aside0.mk (blk_below BS1.out hb3)
  have HS3 : Aside0 (w.heap.size < w1.heap.size ∧ w1.heap.size ≤ w3.heap.size) := ⟨blk_lt BS1.out, hb3.size⟩
  clear hr3 hb3 BS1
  have hin := Kd.R_reads' HR3.out
  have HIN := Aside0.mk hin.2
  clear hin
  have z0 : w3.cell? ⟨w.heap.size, 0, none⟩ = some (.int .i64 a1_0) := (blk_cell BS3.out 0).trans rfl
  have z1 : w3.cell? ⟨w.heap.size, 1, none⟩ = some (.int .i64 a1_1) := (blk_cell BS3.out 1).trans rfl
  have z2 : w3.cell? ⟨w.heap.size, 2, none⟩ = some (.int .i64 a1_2) := (blk_cell BS3.out 2).trans rfl
  go_wp2_with fail
  go_at_call 10
  with_reducible refine (session_Open.calls A3 c3 l0 a1_0 a1_1 a1_2 a2 a3 a4 (openS l0 a1_0 a1_1 a1_2 a2 a3 a4).1 (openS l0 a1_0 a1_1 a1_2 a2 a3 a4).2.1 (openS l0 a1_0 a1_1 a1_2 a2 a3 a4).2.2 _ HIN.out.2 HIN.out.1 rfl).mono ?_
  rintro e w4 ⟨v4, rfl, hr4, hb4⟩
  obtain ⟨A4, c4, rfl⟩ := Kd.R_slice hr4
  have HR4 := Aside0.mk hr4
  have HB4 := Aside0.mk hb4
  have BS4 := Aside0.mk (blk_below BS3.out hb4)
  clear hr4 hb4 BS3 z0 z1 z2
  have z0 : w4.cell? ⟨w.heap.size, 0, none⟩ = some (.int .i64 a1_0) := (blk_cell BS4.out 0).trans rfl
  have z1 : w4.cell? ⟨w.heap.size, 1, none⟩ = some (.int .i64 a1_1) := (blk_cell BS4.out 1).trans rfl
  have z2 : w4.cell? ⟨w.heap.size, 2, none⟩ = some (.int .i64 a1_2) := (blk_cell BS4.out 2).trans rfl
  go_wp2_with fail
  go_at_call 14
  with_reducible refine (session_Expire.calls A3 c3 l0 a1_0 a1_1 a1_2 a2 a3 (expireS l0 a1_0 a1_1 a1_2 a2 a3).1 (expireS l0 a1_0 a1_1 a1_2 a2 a3).2.1 (expireS l0 a1_0 a1_1 a1_2 a2 a3).2.2 _ (Kd.C_below HIN.out.2 HB4.out) HIN.out.1 rfl).mono ?_
  rintro e w5 ⟨v5, v5b, rfl, hr5, hr5b, hb5⟩
  obtain ⟨A5, c5, rfl⟩ := Kd.R_slice hr5
  have HR5 := Aside0.mk (Kd.R_lower hr5 HB4.out.size)
  have HR45 := Aside0.mk (Kd.R_below HR4.out hb5)
  have HB35 := Aside0.mk (below_then HB4.out HB4.out.size hb5)
  have BS5 := Aside0.mk (blk_below BS4.out hb5)
  have HR35 := Aside0.mk (Kd.R_below (Kd.R_bound HR3.out) HB35.out)
  have HB5 := Aside0.mk (below_then HB3.out HB3.out.size HB35.out)
  clear hr5 hr5b hb5 BS4 HR4 HB4 z0 z1 z2
  obtain ⟨x, hx⟩ : ∃ x, x = openS l0 a1_0 a1_1 a1_2 a2 a3 a4 := ⟨_, rfl⟩
  obtain ⟨y, hy⟩ : ∃ y, y = expireS l0 a1_0 a1_1 a1_2 a2 a3 := ⟨_, rfl⟩
  have HX := Aside0.mk hx
  have HY := Aside0.mk hy
  rw [← hx] at HR45
  rw [← hy] at HR5
  rw [← hx, ← hy]
  clear hx hy
  go_wp2_with fail
  go_loopw [18] (fun v18 wr => ∃ i : Nat, v18 = .int .i64 i ∧ i ≤ l0.length ∧ Aside0 (Shp w1.heap.size w3.heap.size w5 wr)) (fun v18 _ => l0.length - (intOf v18).toNat)
  case atStart => exact ⟨0, rfl, by omega, ⟨Shp.refl _ _ _⟩⟩
  case round =>
    obtain ⟨i, rfl, hi, HP⟩ := hrel
    by_cases hlt : i < l0.length
    · have b1 : decide ((i : Int) < (l0.length : Int)) = true := decide_eq_true (by omega)
      have b1' : decide (i < l0.length) = true := decide_eq_true hlt
      obtain ⟨g, rfl⟩ : ∃ g, A3 = some ⟨g, 0, none⟩ := by
        rcases A3 with _ | ad
        · obtain ⟨A, c, he, _, hC⟩ := Kd.R_reads HR35.out
          obtain ⟨ad, h1, _⟩ := hC.2.2 (by omega)
          injection he with he
          rw [h1] at he
          cases he
        · obtain ⟨g, rfl⟩ := Kd.R_head HR35.out
          exact ⟨g, rfl⟩
      obtain ⟨gcs, hgc⟩ := Kd.R_typed HR35.out g rfl
      obtain ⟨cs, hz1, hz2, hz3, hz4⟩ := Kd.R_elem HR35.out z38 (i : Int) (by omega) (by omega)
      simp only [Int.toNat_natCast] at hz2 hz3
      obtain ⟨s, hs⟩ : ∃ s, s = l0.getD i z38 := ⟨_, rfl⟩
      rw [← hs] at hz2
      have hsm : s ∈ l0 := by rw [hs, List.getD_eq_getElem?_getD, List.getElem?_eq_getElem hlt]; exact List.getElem_mem hlt
      have HSL : Aside0 (s.f3.f1.length ≤ 3518437208800) := ⟨((HF.out.fit s hsm).1).1⟩
      obtain ⟨v6, rfl, hD⟩ := k38_openM hz2
      obtain ⟨A6, c6, rfl⟩ := Kd.R_slice hD
      have HDD := Aside0.mk hD
      have hg4 := (blk_cell hgc (i * 5 + 4)).symm.trans (hz3 4 _ rfl)
      have HG4 : Aside0 (gcs[i * 5 + 4]? = some (.slice A6 s.f3.f1.length c6)) := ⟨hg4⟩
      have HGC := Aside0.mk hgc
      have hml : s.f3.f1.length ≤ 9223372036854775807 := by have := HSL.out; omega
      clear hz1 hz2 hz3 hz4 hs hsm hD hg4 hgc
      go_wp2_with fail
      go_loopw [19] (fun v19 wr => ∃ k : Nat, v19 = .int .i64 k ∧ k ≤ s.f3.f1.length ∧ Aside0 (Shp w1.heap.size w3.heap.size w5 wr)) (fun v19 _ => s.f3.f1.length - (intOf v19).toNat)
      case atStart => exact ⟨0, rfl, by omega, HP⟩
      case round =>
        obtain ⟨k, rfl, hk, HQ⟩ := hrel
        have BG := Aside0.mk (HQ.out.ses g gcs HGC.out)
        have q4 : wr.cell? ⟨g, i * 5 + 4, none⟩ = some (.slice A6 s.f3.f1.length c6) := (blk_cell BG.out _).trans HG4.out
        by_cases hltk : k < s.f3.f1.length
        · have b2 : decide ((k : Int) < (s.f3.f1.length : Int)) = true := decide_eq_true (by omega)
          have b2' : decide (k < s.f3.f1.length) = true := decide_eq_true hltk
          obtain ⟨qb, rfl⟩ : ∃ g, A6 = some ⟨g, 0, none⟩ := by
            rcases A6 with _ | ad
            · obtain ⟨A, c, he, _, hC⟩ := Kd.R_reads HDD.out
              obtain ⟨ad, h1, _⟩ := hC.2.2 (by omega)
              injection he with he
              rw [h1] at he
              cases he
            · obtain ⟨g, rfl⟩ := Kd.R_head HDD.out
              exact ⟨g, rfl⟩
          obtain ⟨qcs, hqc⟩ := Kd.R_typed HDD.out qb rfl
          have hqb := HDD.out.1 qb rfl
          obtain ⟨es, hy1, hy2, hy3, _⟩ := Kd.R_elem HDD.out z51 (k : Int) (by omega) (by omega)
          simp only [Int.toNat_natCast] at hy2 hy3
          obtain ⟨d, hd⟩ : ∃ d, d = s.f3.f1.getD k z51 := ⟨_, rfl⟩
          rw [← hd] at hy2
          clear hd
          obtain ⟨v7, rfl, hU⟩ := k51_openM hy2
          obtain ⟨A7, c7, rfl⟩ := Kd.R_slice hU
          have g0 : qcs[k * 3]? = some (.int .i64 d.f0) := (blk_cell hqc (k * 3)).symm.trans (hy3 0 _ rfl)
          have g2 : qcs[k * 3 + 2]? = some (.slice A7 d.f2.length c7) := (blk_cell hqc (k * 3 + 2)).symm.trans (hy3 2 _ rfl)
          obtain ⟨qcs', hqc', hqs, hqe⟩ := HQ.out.don qb qcs hqc
          have q6 : wr.cell? ⟨qb, k * 3 + 2, none⟩ = some (.slice A7 d.f2.length c7) := (blk_cell hqc' _).trans ((hqe _ (by omega)).trans g2)
          have HQB : Aside0 ((w1.heap.size ≤ qb ∧ qb < w3.heap.size) ∧ w5.heap[qb]? = some (.cells qcs 51 (0, 0)) ∧ k * 3 < qcs.size) := ⟨⟨hqb.1.2.1, hqb.1.2.2.1⟩, hqc, (Array.getElem?_eq_some_iff.1 g0).1⟩
          obtain ⟨b, hbb⟩ : ∃ b, 0 < d.f2.length → A7 = some ⟨b, 0, none⟩ ∧ (w1.heap.size ≤ b ∧ b < w3.heap.size) ∧ ∃ cs : Array Value, w5.heap[b]? = some (.cells cs 5 (0, 0)) ∧ d.f2.length ≤ cs.size := by
            rcases Nat.eq_zero_or_pos d.f2.length with h0 | h0
            · exact ⟨0, fun h => by omega⟩
            · rcases A7 with _ | ad
              · obtain ⟨A, c, he, _, hC⟩ := Kd.R_reads hU
                obtain ⟨ad, h1, _⟩ := hC.2.2 h0
                injection he with he
                rw [h1] at he
                cases he
              · obtain ⟨b, rfl⟩ := Kd.R_head hU
                obtain ⟨bcs, hbc⟩ := Kd.R_typed hU b rfl
                have hbo := hU.1 b rfl
                have hce := (Kd.R_celln 0 hU ((d.f2.length - 1 : Nat) : Int) (by omega) (by omega)).1
                rw [Int.toNat_natCast, blk_cell hbc] at hce
                have := (Array.getElem?_eq_some_iff.1 hce).1
                exact ⟨b, fun _ => ⟨rfl, ⟨hbo.1.1.2.1, hbo.1.1.2.2.1⟩, bcs, hbc, by omega⟩⟩
          have HBB := Aside0.mk hbb
          have HLD : Aside0 (d.f2.length ≤ 9223372036854775807) := ⟨(Kd.R_reads' hU).2.2.2.1⟩
          clear hy1 hy2 hy3 hU hqc hqb g0 g2 hqc' hqs hqe hbb
          go_wp2_with fail
          go_at_call 18
          with_reducible refine (spoil_any A7 d.f2.length c7 b _ HLD.out (fun h => by
            obtain ⟨h1, _, cs, h2, h3⟩ := HBB.out h
            obtain ⟨cs', h4, h5⟩ := HQ.out.oct b cs h2
            exact ⟨h1, cs', h4, by rw [h5]; exact h3⟩)).mono ?_
          rintro e w6 ⟨rfl, hsp⟩
          have HQ6 := Aside0.mk (HQ.out.spoil hsp (fun h => ⟨(HBB.out h).2.1, by obtain ⟨_, _, cs, h2, _⟩ := HBB.out h; exact ⟨cs, h2⟩⟩))
          clear hsp q4 q6
          have BG6 := Aside0.mk (HQ6.out.ses g gcs HGC.out)
          have q4 : w6.cell? ⟨g, i * 5 + 4, none⟩ = some (.slice (some ⟨qb, 0, none⟩) s.f3.f1.length c6) := (blk_cell BG6.out _).trans HG4.out
          obtain ⟨q6c, hq6, hq7, _⟩ := HQ6.out.don qb qcs HQB.out.2.1
          obtain ⟨u0, q0⟩ : ∃ u, w6.cell? ⟨qb, k * 3, none⟩ = some u := ⟨_, by rw [blk_cell hq6]; exact Array.getElem?_eq_getElem (show k * 3 < q6c.size by rw [hq7]; exact HQB.out.2.2)⟩
          have f0 := blk_frozen hq6 (k * 3)
          clear hq6 hq7
          go_wp2_with fail
          go_roundw
          case rel => exact ⟨k + 1, by go_num, by omega, ⟨HQ6.out.seq HQB.out.1 HQB.out.2.1⟩⟩
          case measure => simp [intOf]; omega
        · have b2 : decide ((k : Int) < (s.f3.f1.length : Int)) = false := decide_eq_false (by omega)
          have b2' : decide (k < s.f3.f1.length) = false := decide_eq_false hltk
          go_wp2_with fail
          go_roundw
          case rel => exact ⟨i + 1, by go_num, by omega, HQ⟩
          case measure => simp [intOf]; omega
    · have b1 : decide ((i : Int) < (l0.length : Int)) = false := decide_eq_false (by omega)
      have b1' : decide (i < l0.length) = false := decide_eq_false hlt
      have EXF : Aside0 (waybillref23_Expire.f l0 a1_0 a1_1 a1_2 a2 a3 = some (y.1, y.2.1, y.2.2)) := ⟨by rw [HY.out]; rfl⟩
      have OPF : Aside0 (waybillref23_Open.f 300 l0 a1_0 a1_1 a1_2 a2 a3 a4 = some (x.1, x.2.1, x.2.2)) := ⟨by rw [HX.out]; exact g_ropen _ _ _ _ _ _ _ _ (by omega)⟩
      have SXF : Aside0 (waybillref23_Same.f x.1 x.1 = some true) := ⟨congrArg some (own_sameS _)⟩
      have SYF : Aside0 (waybillref23_Same.f y.1 y.1 = some true) := ⟨congrArg some (own_sameS _)⟩
      have HBR := Aside0.mk (HP.out.below HB5.out (by have := HS3.out; omega) (Nat.le_refl _))
      have BSR := Aside0.mk ((HP.out.oth w.heap.size (by have := HS3.out; omega)).trans BS5.out)
      have HXR := Aside0.mk (HP.out.newer HR45.out (Nat.le_refl _))
      have HYR := Aside0.mk (HP.out.newer HR5.out (Nat.le_refl _))
      have z0 : wr.cell? ⟨w.heap.size, 0, none⟩ = some (.int .i64 a1_0) := (blk_cell BSR.out 0).trans rfl
      have z1 : wr.cell? ⟨w.heap.size, 1, none⟩ = some (.int .i64 a1_1) := (blk_cell BSR.out 1).trans rfl
      have z2 : wr.cell? ⟨w.heap.size, 2, none⟩ = some (.int .i64 a1_2) := (blk_cell BSR.out 2).trans rfl
      go_wp2_with fail
      go_at_call 19
      with_reducible refine (waybillref23_Open.calls 300 A0 c0 l0 a1_0 a1_1 a1_2 a2 a3 a4 x.1 x.2.1 x.2.2 _ (Kd.C_below HR.out HBR.out) HC.out OPF.out).mono ?_
      rintro e w6 ⟨v6, rfl, hr6, hb6⟩
      obtain ⟨A6, c6, rfl⟩ := Kd.R_slice hr6
      have HR6 := Aside0.mk hr6
      have HB6 := Aside0.mk hb6
      have BS6 := Aside0.mk (blk_below BSR.out hb6)
      have HX6 := Aside0.mk (Kd.R_below HXR.out hb6)
      have HY6 := Aside0.mk (Kd.R_below HYR.out hb6)
      have HBR6 := Aside0.mk (below_then HBR.out HBR.out.size hb6)
      clear hr6 hb6 z0 z1 z2
      have z0 : w6.cell? ⟨w.heap.size, 0, none⟩ = some (.int .i64 a1_0) := (blk_cell BS6.out 0).trans rfl
      have z1 : w6.cell? ⟨w.heap.size, 1, none⟩ = some (.int .i64 a1_1) := (blk_cell BS6.out 1).trans rfl
      have z2 : w6.cell? ⟨w.heap.size, 2, none⟩ = some (.int .i64 a1_2) := (blk_cell BS6.out 2).trans rfl
      go_wp2_with fail
      go_at_call 20
      with_reducible refine (waybillref23_Expire.calls A0 c0 l0 a1_0 a1_1 a1_2 a2 a3 y.1 y.2.1 y.2.2 _ (Kd.C_below HR.out HBR6.out) HC.out EXF.out).mono ?_
      rintro e w7 ⟨v7, v7b, rfl, hr7, hr7b, hb7⟩
      obtain ⟨A7, c7, rfl⟩ := Kd.R_slice hr7
      obtain ⟨A8, c8, rfl⟩ := Kd.R_slice hr7b
      have HR7 := Aside0.mk (Kd.R_reads' hr7).2
      have HR67 := Aside0.mk (Kd.R_reads' (Kd.R_below HR6.out hb7)).2
      have HX7 := Aside0.mk (Kd.R_reads' (Kd.R_below HX6.out hb7)).2
      have HY7 := Aside0.mk (Kd.R_reads' (Kd.R_below HY6.out hb7)).2
      have HBR7 := Aside0.mk (below_then HBR6.out HBR6.out.size hb7)
      clear hr7 hr7b hb7 z0 z1 z2 HR6 HX6 HY6 HXR HYR
      have e1 : (x.2.1 == x.2.1) = true := beq_self_eq_true _
      have e2 : (x.2.2 == x.2.2) = true := beq_self_eq_true _
      have e3 : (y.2.2 == y.2.2) = true := beq_self_eq_true _
      go_wp2_with fail
      go_at_call 21
      with_reducible refine (waybillref23_Same.calls _ _ x.1 _ _ x.1 true _ HX7.out.2 HX7.out.1 HR67.out.2 HR67.out.1 SXF.out).mono ?_
      rintro e w8 ⟨rfl, hb8⟩
      have HB8 := Aside0.mk hb8
      clear hb8
      go_wp2_with fail
      go_at_call 11
      with_reducible refine (waybilllaw23_num.calls x.2.2 x.2.2 _ rfl).mono ?_
      rintro e w9 ⟨rfl, hd9⟩
      have HB9 := Aside0.mk (below_then HB8.out HB8.out.size hd9.below)
      clear hd9
      go_wp2_with fail
      go_at_call 21
      with_reducible refine (waybillref23_Same.calls _ _ y.1 _ _ y.1 true _ (Kd.C_below HY7.out.2 HB9.out) HY7.out.1 (Kd.C_below HR7.out.2 HB9.out) HR7.out.1 SYF.out).mono ?_
      rintro e w10 ⟨rfl, hb10⟩
      have HB10 := Aside0.mk (below_then HB9.out HB9.out.size hb10)
      clear hb10
      go_wp2_with fail
      go_at_call 11
      with_reducible refine (waybilllaw23_num.calls y.2.2 y.2.2 _ rfl).mono ?_
      rintro e w11 ⟨rfl, hd11⟩
      have HB11 := Aside0.mk (below_then HB10.out HB10.out.size hd11.below)
      clear hd11
      go_wp2_with fail
      go_ret
      exact ⟨rfl, below_then HBR7.out HBR7.out.size HB11.out⟩
end Go.Proofs.Ythfjgfldmkdlnaa.G
end

section
set_option linter.unusedVariables false
set_option linter.unusedSimpArgs false
namespace Go.Proofs.Ythfjgfldmkdlnaa.Pure
open WB Go Go.RowKit Go.Proofs.Ythfjgfldmkdlnaa.G Go.Proofs.YthfjgfldmkdlnaaW.PrintWords Go.Proofs.YthfjgfldmkdlnaaW.PrintLast Go.Proofs.YthfjgfldmkdlnaaW.PrintMore
theorem SessionOwn (x0 : List S38) (x1 : S24) (x2 x3 x4 : Int) {p0 p1 p2 p3 p4 q1 q2 q3 q4 : Prop} (_ : p0) (_ : p1) (_ : p2) (_ : p3) (_ : p4) (hs0 : x0.length * 56 ≤ reachBytes ∧ ∀ x ∈ x0, True ∧ True ∧ True ∧ True ∧ x.f3.f1.length * 40 ≤ reachBytes ∧ ∀ d ∈ x.f3.f1, True ∧ True ∧ d.f2.length * 1 ≤ reachBytes ∧ ∀ u ∈ d.f2, True) (_ : q1) (_ : q2) (_ : q3) (_ : q4) : waybilllaw23_SessionOwn.f x0 x1.f0 x1.f1 x1.f2 x2 x3 x4 = some true := by
  unfold waybilllaw23_SessionOwn.f
  rw [if_pos]
  simp only [reachBytes] at hs0
  simp only [fitL, Bool.and_eq_true, decide_eq_true_eq, List.all_eq_true]
  refine ⟨by have := hs0.1; omega, fun x hx => ⟨by have := (hs0.2 x hx).2.2.2.2.1; omega, fun d hd => ?_⟩⟩
  have := ((hs0.2 x hx).2.2.2.2.2 d hd).2.2.1
  omega
end Go.Proofs.Ythfjgfldmkdlnaa.Pure
end
