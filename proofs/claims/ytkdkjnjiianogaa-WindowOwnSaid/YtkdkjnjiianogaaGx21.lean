-- Made by wip/tools/xprint.py (over the kit's print program) for this claim.
import Derived.Test.YtkdkjnjiianogaaGx0
import Derived.Test.YtkdkjnjiianogaaGx7
import Derived.Test.YtkdkjnjiianogaaGx9
import Derived.Test.YtkdkjnjiianogaaGx12
import Derived.Test.YtkdkjnjiianogaaGx13
import Derived.Test.YtkdkjnjiianogaaGx14
import Derived.Test.YtkdkjnjiianogaaGx15
import Derived.Test.YtkdkjnjiianogaaGx16
import Derived.Test.YtkdkjnjiianogaaGx19
import Derived.Test.YtkdkjnjiianogaaGx20
namespace Go.Proofs.Ytkdkjnjiianogaa.G
open WB Go.RowKit Go.Proofs.YtkdkjnjiianogaaW.PrintWords Go.Proofs.YtkdkjnjiianogaaW.PrintLast Go.Proofs.YtkdkjnjiianogaaW.PrintMore
attribute [local go_sem] max2_int min2_int max_two min_two max_three min_three max_four min_four   -- for this text's walks alone
set_option linter.unusedVariables false
set_option linter.unusedSimpArgs false

/-! ### waybilllaw22_WindowOwn: function 6 -/
structure RN (g g' : Nat × Nat × Nat) (w1 w2 : World) : Prop where
  e1 : g'.1 = g.1
  e2 : g'.2.1 = g.2.1
  e3 : g'.2.2 = w2.heap.size
  b : Below w1.heap.size w1 w2
structure RM (g g' : Nat × Nat × Nat) (w1 w2 : World) : Prop where
  e : g' = g
  b : Below w1.heap.size w1 w2
structure RA1 (z : Obj) (g g' : Nat × Nat × Nat) (w1 w2 : World) : Prop where
  e1 : g'.1 = w1.heap.size
  e2 : g'.2 = g.2
  w : w2 = w1.alloc z
structure RA2 (z : Obj) (g g' : Nat × Nat × Nat) (w1 w2 : World) : Prop where
  e1 : g'.1 = g.1
  e2 : g'.2.1 = w1.heap.size
  e3 : g'.2.2 = g.2.2
  w : w2 = w1.alloc z
structure RS1 (B : Nat) (z : Obj) (g g' : Nat × Nat × Nat) (w1 w2 : World) : Prop where
  e : g' = g
  s : RStore B z g.1 g.1 w1 w2
structure RS2 (B : Nat) (z : Obj) (g g' : Nat × Nat × Nat) (w1 w2 : World) : Prop where
  e : g' = g
  s : RStore B z g.2.1 g.2.1 w1 w2
theorem RA1.b {z : Obj} {g g' : Nat × Nat × Nat} {w1 w2 : World} (hr : RA1 z g g' w1 w2) : Below w1.heap.size w1 w2 := by rw [hr.w]; exact below_alloc (Below.refl _ _) _
theorem RA2.b {z : Obj} {g g' : Nat × Nat × Nat} {w1 w2 : World} (hr : RA2 z g g' w1 w2) : Below w1.heap.size w1 w2 := by rw [hr.w]; exact below_alloc (Below.refl _ _) _
structure TrO (w : World) (B i1 s1 i2 s2 i0 : Nat) (z1 z2 : Obj) (g : Nat × Nat × Nat) (f : Nat → Bool) (W : World) : Prop where
  t : Tr2 w B i1 s1 i2 s2 z1 z2 (g.1, g.2.1) f W
  n : f i0 = true → g.2.2 ≤ W.heap.size ∧ B ≤ g.2.2
  bel : Below B w W
  lt : g.2.1 < W.heap.size
section
variable {w W W2 : World} {B i1 s1 i2 s2 i0 i : Nat} {z1 z2 : Obj} {g g' : Nat × Nat × Nat} {f : Nat → Bool}
theorem TrO.same (ht : TrO w B i1 s1 i2 s2 i0 z1 z2 g f W) (hr : RSame g g' W W2) (hi : (i1 ≠ i ∧ s1 ≠ i ∧ i2 ≠ i ∧ s2 ≠ i) ∧ i0 ≠ i) : TrO w B i1 s1 i2 s2 i0 z1 z2 g' (fun j => if j = i then true else f j) W2 := by
  obtain ⟨rfl, rfl⟩ := hr
  exact ⟨ht.t.same ⟨rfl, rfl⟩ hi.1, by rw [if_neg hi.2]; exact ht.n, ht.bel, ht.lt⟩
theorem TrO.make (ht : TrO w B i1 s1 i2 s2 i0 z1 z2 g f W) (hr : RM g g' W W2) (hi : (i1 ≠ i ∧ s1 ≠ i ∧ i2 ≠ i ∧ s2 ≠ i) ∧ i0 ≠ i) : TrO w B i1 s1 i2 s2 i0 z1 z2 g' (fun j => if j = i then true else f j) W2 := by
  obtain ⟨rfl, hb⟩ := hr
  have t2 := ht.t.make (g' := (g'.1, g'.2.1)) ⟨rfl, hb⟩ hi.1
  exact ⟨t2, by rw [if_neg hi.2]; exact fun h => ⟨Nat.le_trans (ht.n h).1 hb.size, (ht.n h).2⟩, t2.bel, Nat.lt_of_lt_of_le ht.lt hb.size⟩
theorem TrO.mkN (ht : TrO w B i1 s1 i2 s2 i0 z1 z2 g f W) (hr : RN g g' W W2) (hi : i1 ≠ i0 ∧ s1 ≠ i0 ∧ i2 ≠ i0 ∧ s2 ≠ i0) : TrO w B i1 s1 i2 s2 i0 z1 z2 g' (fun j => if j = i0 then true else f j) W2 := by
  obtain ⟨e1, e2, e3, hb⟩ := hr
  have t2 := ht.t.make (g' := (g'.1, g'.2.1)) ⟨by rw [e1, e2], hb⟩ hi
  exact ⟨t2, fun _ => ⟨by omega, by have := ht.t.siz; have := hb.size; omega⟩, t2.bel, by rw [e2]; exact Nat.lt_of_lt_of_le ht.lt hb.size⟩
theorem TrO.al1 (ht : TrO w B i1 s1 i2 s2 i0 z1 z2 g f W) (hr : RA1 z1 g g' W W2) (hi : (s1 ≠ i1 ∧ i2 ≠ i1 ∧ s2 ≠ i1) ∧ i0 ≠ i1) : TrO w B i1 s1 i2 s2 i0 z1 z2 g' (fun j => if j = i1 then true else f j) W2 := by
  have hb := hr.b
  obtain ⟨e1, e2, rfl⟩ := hr
  have t2 := ht.t.alloc1 (g' := (g'.1, g'.2.1)) ⟨e1, by rw [e2], rfl⟩ hi.1
  exact ⟨t2, by rw [if_neg hi.2, e2]; exact fun h => ⟨Nat.le_trans (ht.n h).1 hb.size, (ht.n h).2⟩, t2.bel, by rw [e2]; exact Nat.lt_of_lt_of_le ht.lt hb.size⟩
theorem TrO.al2 (ht : TrO w B i1 s1 i2 s2 i0 z1 z2 g f W) (hr : RA2 z2 g g' W W2) (hi : (s1 ≠ i2 ∧ i1 ≠ i2 ∧ s2 ≠ i2) ∧ i0 ≠ i2) : TrO w B i1 s1 i2 s2 i0 z1 z2 g' (fun j => if j = i2 then true else f j) W2 := by
  have hb := hr.b
  obtain ⟨e1, e2, e3, rfl⟩ := hr
  have t2 := ht.t.alloc2 (g' := (g'.1, g'.2.1)) ⟨e1, e2, rfl⟩ hi.1
  exact ⟨t2, by rw [if_neg hi.2, e3]; exact fun h => ⟨Nat.le_trans (ht.n h).1 hb.size, (ht.n h).2⟩, t2.bel, by rw [e2, World.size_alloc]; omega⟩
theorem store_size {B : Nat} {z : Obj} {a b : Nat} {w1 w2 : World} (hr : RStore B z a b w1 w2) : w2.heap.size = w1.heap.size := by
  obtain ⟨_, _, _, us, rfl⟩ := hr
  exact (setCells_same a us 0 w1).2.2.2
theorem store_ne {B : Nat} {z : Obj} {a b : Nat} {w1 w2 : World} {α : Type} {d : Kd α} {e base : Nat} {ok : Nat → Prop} {v : Value} {xs : List α} (hr : RStore B z a b w1 w2) (h : Kd.S d e w1 base ok v xs) (hok : ∀ k, ok k → k ≠ a) : Kd.S d e w2 base ok v xs := by
  obtain ⟨_, _, _, us, rfl⟩ := hr
  exact Kd.S_step h (fun k ho _ => setCells_far us 0 k (hok k ho))
theorem TrO.st1 (ht : TrO w B i1 s1 i2 s2 i0 z1 z2 g f W) (hr : RS1 B z1 g g' W W2) (hi : (i1 ≠ s1 ∧ i2 ≠ s1 ∧ s2 ≠ s1) ∧ i0 ≠ s1) (hx : z1 ≠ z2 := by (intro h; injection h with _ h; exact absurd h (by decide))) : TrO w B i1 s1 i2 s2 i0 z1 z2 g' (fun j => if j = s1 then true else f j) W2 := by
  obtain ⟨rfl, hs⟩ := hr
  have t2 := ht.t.store1 (g' := (g'.1, g'.2.1)) ⟨hs, rfl⟩ hi.1 hx
  exact ⟨t2, by rw [if_neg hi.2, store_size hs]; exact ht.n, t2.bel, by rw [store_size hs]; exact ht.lt⟩
theorem TrO.st2 (ht : TrO w B i1 s1 i2 s2 i0 z1 z2 g f W) (hr : RS2 B z2 g g' W W2) (hi : (i2 ≠ s2 ∧ i1 ≠ s2 ∧ s1 ≠ s2) ∧ i0 ≠ s2) (hx : z1 ≠ z2 := by (intro h; injection h with _ h; exact absurd h (by decide))) : TrO w B i1 s1 i2 s2 i0 z1 z2 g' (fun j => if j = s2 then true else f j) W2 := by
  obtain ⟨rfl, hs⟩ := hr
  have t2 := ht.t.store2 (g' := (g'.1, g'.2.1)) ⟨hs, rfl⟩ hi.1 hx
  exact ⟨t2, by rw [if_neg hi.2, store_size hs]; exact ht.n, t2.bel, by rw [store_size hs]; exact ht.lt⟩
end
theorem rown_big (m : Int) (l : List S32) (hl : l.length ≤ 3518437208800) (hd : ∀ d ∈ l, d.f2.length ≤ 140737488351232) : ∀ (n i : Nat), l.length - i = n → i ≤ l.length → ∀ k, n < k → waybillref22_Own.l0 k (i : Int) m l m (l.take i) = some (m, l) := by
  intro n
  induction n with
  | zero =>
    intro i hn hi k hk
    obtain ⟨k, rfl⟩ : ∃ q, k = q + 1 := ⟨k - 1, by omega⟩
    simp only [waybillref22_Own.l0]
    rw [if_neg (by omega), List.take_of_length_le (by omega)]
  | succ n ih =>
    intro i hn hi k hk
    obtain ⟨k, rfl⟩ : ∃ q, k = q + 1 := ⟨k - 1, by omega⟩
    have hlt : i < l.length := by omega
    have hxe : rd_T32 l (i : Int) = l[i] := by simp [rd_T32, List.getElem?_eq_getElem hlt]
    have hw2 : wrap64 ((i : Int) + 1) = ((i + 1 : Nat) : Int) := wrap_in (by omega) (by omega)
    have e := ih (i + 1) (by omega) (by omega) k (by omega)
    rw [List.take_succ_eq_append_getElem hlt] at e
    have hk2 : waybillref22_Kept.f l[i].f0 l[i].f1 l[i].f2 = some (l[i].f0, l[i].f1, l[i].f2) := by
      have := hd _ (List.getElem_mem hlt)
      unfold waybillref22_Kept.f waybillref01_Copied.f
      rw [if_pos (by simp; omega)]
      rfl
    simp only [waybillref22_Own.l0]
    rw [if_pos (by omega), if_pos (by omega), hxe, hk2, Option.bind_some, if_pos (by rw [List.length_take]; omega), hw2]
    exact e
theorem spoil_l0 : ∀ (n : Nat) (l : List Int) (i : Nat), l.length ≤ 9223372036854775807 → l.length - i = n → i ≤ l.length → ∀ k, n < k → ∃ r, waybillplain_Spoil.l0 k l (i : Int) = some r := by
  intro n
  induction n with
  | zero =>
    intro l i hl hn hi k hk
    obtain ⟨k, rfl⟩ : ∃ q, k = q + 1 := ⟨k - 1, by omega⟩
    simp only [waybillplain_Spoil.l0]
    exact ⟨l, by rw [if_neg (by omega)]⟩
  | succ n ih =>
    intro l i hl hn hi k hk
    obtain ⟨k, rfl⟩ : ∃ q, k = q + 1 := ⟨k - 1, by omega⟩
    have hw2 : wrap64 ((i : Int) + 1) = ((i + 1 : Nat) : Int) := wrap_in (by omega) (by omega)
    obtain ⟨r, hr⟩ := ih (l.set i 7) (i + 1) (by rw [List.length_set]; exact hl) (by rw [List.length_set]; omega) (by rw [List.length_set]; omega) k (by omega)
    refine ⟨r, ?_⟩
    simp only [waybillplain_Spoil.l0]
    rw [if_pos (by omega), if_pos (by omega), hw2, Int.toNat_natCast]
    exact hr
theorem spoil_ev (l : List Int) (hl : l.length ≤ 9223372036854775807) : ∃ K r, waybillplain_Spoil.f K l = some r := ⟨l.length + 1, spoil_l0 l.length l 0 hl (by omega) (by omega) _ (by omega)⟩
theorem same_self (m : Int) (l : List S32) : sameW m l m l = true := by
  unfold sameW
  simp [oneD]
/-- What may be written over: octets that were made between two places. -/
def DataAt (W3 : World) (a b : Nat) (q : Nat) : Prop := a ≤ q ∧ q < b ∧ ∃ cells, W3.heap[q]? = some (.cells cells 5 (0, 0))
structure OwnInv (w W3 W4 : World) (a b : Nat) (S : Nat → Prop) (wr : World) : Prop where
  siz : W4.heap.size ≤ wr.heap.size
  mv : ∀ q, q < W4.heap.size → ¬ (DataAt W3 a b q ∧ S q) → wr.heap[q]? = W4.heap[q]?
  bel : Below w.heap.size w wr
theorem OwnInv.blk {w W3 W4 wr : World} {a b : Nat} {S : Nat → Prop} (h : OwnInv w W3 W4 a b S wr) (h34 : Below W3.heap.size W3 W4) {q T : Nat} {cs : Array Value} (hq : W3.heap[q]? = some (.cells cs T (0, 0))) (hT : T ≠ 5) : wr.heap[q]? = some (.cells cs T (0, 0)) := by
  have h1 : W4.heap[q]? = some (.cells cs T (0, 0)) := blk_below hq h34
  refine (h.mv q (blk_lt h1) (fun hd => ?_)).trans h1
  obtain ⟨⟨_, _, cells, hc⟩, _⟩ := hd
  rw [hq] at hc
  injection hc with hc
  injection hc with _ hc
  exact hT hc
def waybilllaw22_WindowOwn.f (a0_0 : Int) (l0_1 : List (S32)) (a1 : Int) (a2_0 : Int) (a2_1 : Int) (l2_2 : List Int) : Option (Bool) := if l0_1.length ≤ 3518437208800 ∧ (∀ d ∈ l0_1, d.f2.length ≤ 140737488351232) ∧ l2_2.length ≤ 140737488351232 then some true else none
set_option maxHeartbeats 4000000 in
set_option maxRecDepth 100000 in
theorem waybilllaw22_WindowOwn.calls (a0_0 : Int) (A0_1 : Option Addr) (c0_1 : Nat) (l0_1 : List (S32)) (a1 : Int) (a2_0 : Int) (a2_1 : Int) (A2_2 : Option Addr) (c2_2 : Nat) (l2_2 : List Int) (r : Bool) (w : World) (hr0_1 : Kd.C k32 w A0_1 l0_1.length l0_1) (hc0_1 : l0_1.length ≤ c0_1) (hr2_2 : Kd.C (Kd.int .u8) w A2_2 l2_2.length l2_2) (hc2_2 : l2_2.length ≤ c2_2) (h : waybilllaw22_WindowOwn.f a0_0 l0_1 a1 a2_0 a2_1 l2_2 = some r) :
    Calls Try.prog 6 #[.agg #[.int .i64 a0_0, .slice A0_1 l0_1.length c0_1], .int .i64 a1, .agg #[.int .i64 a2_0, .int .i64 a2_1, .slice A2_2 l2_2.length c2_2]] w fun e w' => e = .returned (.bool r) ∧ Below w.heap.size w w' := by
  unfold waybilllaw22_WindowOwn.f at h
  split at h
  case isFalse => cases h
  case isTrue hl =>
  obtain rfl := Option.some.inj h
  clear h
  obtain ⟨hl1, hl2, hl3⟩ := hl
  have HR := Aside0.mk hr0_1
  have HC := Aside0.mk hc0_1
  have HR2 := Aside0.mk hr2_2
  have HC2 := Aside0.mk hc2_2
  have HKO : Aside0 (waybillref22_Own.f (l0_1.length + 1) a0_0 l0_1 = some (a0_0, l0_1)) := ⟨rown_big a0_0 l0_1 hl1 hl2 l0_1.length 0 (by omega) (by omega) _ (by omega)⟩
  have HKK : Aside0 (waybillref22_Kept.f a2_0 a2_1 l2_2 = some (a2_0, a2_1, l2_2)) := ⟨by
    unfold waybillref22_Kept.f waybillref01_Copied.f
    rw [if_pos (by simp; omega)]
    rfl⟩
  have HA : Aside0 (waybilllaw22_alive.f = some true) := ⟨by decide +kernel⟩
  have HL1 := Aside0.mk hl1
  have HL2 := Aside0.mk hl2
  clear hr0_1 hc0_1 hr2_2 hc2_2 hl1 hl2 hl3
  go_enter Try.func6, Try.ntmps6
  go_wp2_with (go_at_call 9; (refine (waybilllaw22_alive.calls true _ HA.out).mono ?_); rintro e u1 ⟨rfl, hb⟩; have HB1 := Aside0.mk (below_then (below_alloc (below_alloc (Below.refl _ _) _) _) (by simp; omega) hb); have BK := Aside0.mk ((hb.block w.heap.size (by simp; omega)).trans (blk_alloc (heap_new1 w _) _)); have BD := Aside0.mk ((hb.block (w.heap.size + 1) (by simp)).trans (heap_new2 w _ _)); clear hb)
  have hlt1 : w.heap.size + 1 < u1.heap.size := blk_lt BD.out
  have y0 : u1.cell? ⟨w.heap.size, 0, none⟩ = some (.int .i64 a0_0) := (blk_cell BK.out 0).trans rfl
  have y1 : u1.cell? ⟨w.heap.size, 1, none⟩ = some (.slice A0_1 l0_1.length c0_1) := (blk_cell BK.out 1).trans rfl
  have d0 : u1.cell? ⟨w.heap.size + 1, 0, none⟩ = some (.int .i64 a2_0) := (blk_cell BD.out 0).trans rfl
  have d1 : u1.cell? ⟨w.heap.size + 1, 1, none⟩ = some (.int .i64 a2_1) := (blk_cell BD.out 1).trans rfl
  have d2 : u1.cell? ⟨w.heap.size + 1, 2, none⟩ = some (.slice A2_2 l2_2.length c2_2) := (blk_cell BD.out 2).trans rfl
  have HR1 := Aside0.mk (Kd.C_below HR.out HB1.out)
  have HR21 := Aside0.mk (Kd.C_below HR2.out HB1.out)
  refine region_ghost (γ := (Nat×Nat×Nat)) (fun i g g' w1 w2 => if i = 1 then RN g g' w1 w2 else if i = 3 then RM g g' w1 w2 else if i = 4 then RA1 (.cells #[.int .i64 0, .slice none 0 0] 24 (0, 0)) g g' w1 w2 else if i = 5 then RA2 (.cells #[.int .i64 0, .int .i64 0, .slice none 0 0] 32 (0, 0)) g g' w1 w2 else if i = 6 then RS1 u1.heap.size (.cells #[.int .i64 0, .slice none 0 0] 24 (0, 0)) g g' w1 w2 else if i = 7 then RS2 u1.heap.size (.cells #[.int .i64 0, .int .i64 0, .slice none 0 0] 32 (0, 0)) g g' w1 w2 else RSame g g' w1 w2) (fun g f W => TrO u1 u1.heap.size 4 6 5 7 1 (.cells #[.int .i64 0, .slice none 0 0] 24 (0, 0)) (.cells #[.int .i64 0, .int .i64 0, .slice none 0 0] 32 (0, 0)) g f W) (0,0,0) [(some 16, (fun _ v _ => v = .agg #[.int .i64 a0_0, .slice A0_1 l0_1.length c0_1])), (some 17, (fun g v W => ∃ v1, v = .agg #[.int .i64 a0_0, v1] ∧ Kd.S k32 32 W u1.heap.size (fun k => k < g.2.2 ∧ k ≠ g.2.1) v1 l0_1)), (some 18, (fun _ v _ => v = .agg #[.int .i64 a2_0, .int .i64 a2_1, .slice A2_2 l2_2.length c2_2])), (some 19, (fun g v W => ∃ v2, v = .agg #[.int .i64 a2_0, .int .i64 a2_1, v2] ∧ Kd.R (Kd.int .u8) 5 W g.2.2 (fun _ => True) v2 l2_2)), (some 7, (fun g v W => v = .pointer (some ⟨g.1, 0, none⟩))), (some 8, (fun g v W => v = .pointer (some ⟨g.2.1, 0, none⟩))), (none, (fun g v W => ∃ v1, W.heap[g.1]? = some (.cells #[.int .i64 a0_0, v1] 24 (0, 0)) ∧ Kd.S k32 32 W u1.heap.size (fun k => k < g.2.2 ∧ k ≠ g.2.1) v1 l0_1)), (none, (fun g v W => ∃ v2, W.heap[g.2.1]? = some (.cells #[.int .i64 a2_0, .int .i64 a2_1, v2] 32 (0, 0)) ∧ Kd.R (Kd.int .u8) 5 W g.2.2 (fun _ => True) v2 l2_2))] (by kernel_rfl) (by kernel_rfl) [16, 17, 18, 19, 7, 8] (by rfl) (by rfl) (by decide) ?hsz ?hst ?hT0 ?hT ?step ?fin
  case hsz => exact show ∀ t ∈ ([16, 17, 18, 19, 7, 8] : List Nat), t < 62 from List.forall_mem_cons.2 ⟨(show 16 < 62 by decide), List.forall_mem_cons.2 ⟨(show 17 < 62 by decide), List.forall_mem_cons.2 ⟨(show 18 < 62 by decide), List.forall_mem_cons.2 ⟨(show 19 < 62 by decide), List.forall_mem_cons.2 ⟨(show 7 < 62 by decide), List.forall_mem_cons.2 ⟨(show 8 < 62 by decide), fun _ h => nomatch h⟩⟩⟩⟩⟩⟩
  case hT0 => exact fun f hf => ⟨Tr2.start _ _ _ _ _ _ _ _ _ _ 8 (by decide) (by decide) (Below.refl _ _) (Nat.le_refl _) f hf, fun h => absurd ((hf 1 (by decide)).symm.trans h) (by decide), below_drew (Below.refl _ _), by show 0 < u1.heap.size; omega⟩
  case hT =>
    intro f i_ g g' w1 w2 hi hfi ht hr
    match i_, hi with
    | 0, _ => exact TrO.same (i := 0) ht hr (by decide)
    | 1, _ => exact TrO.mkN ht hr (by decide)
    | 2, _ => exact TrO.same (i := 2) ht hr (by decide)
    | 3, _ => exact TrO.make (i := 3) ht hr (by decide)
    | 4, _ => exact TrO.al1 ht hr (by decide)
    | 5, _ => exact TrO.al2 ht hr (by decide)
    | 6, _ => exact TrO.st1 ht hr (by decide)
    | 7, _ => exact TrO.st2 ht hr (by decide)
    | n_ + 8, hi => exact absurd hi (by show ¬ n_ + 8 < 8; omega)
  case hst =>
    intro i_ j_ q_ hq hij hin
    match i_, hin with
    | 0, _ => exact .inr fun f g g' v w1 w2 _ hr h => RSame.keep (q := q_.2) hr h
    | 1, _ =>
      match j_, hq with
      | 0, hq => exact .inr (by obtain rfl := Option.some.inj hq; exact fun f g g' v w1 w2 ht hr h => h)
      | 1, hq => exact absurd rfl hij
      | 2, hq => exact .inr (by obtain rfl := Option.some.inj hq; exact fun f g g' v w1 w2 ht hr h => h)
      | 3, hq => exact .inl (by kernel_rfl)
      | 4, hq => exact .inr (by obtain rfl := Option.some.inj hq; exact fun f g g' v w1 w2 ht hr h => h.trans (by rw [hr.e1]))
      | 5, hq => exact .inr (by obtain rfl := Option.some.inj hq; exact fun f g g' v w1 w2 ht hr h => h.trans (by rw [hr.e2]))
      | 6, hq => exact .inl (by kernel_rfl)
      | 7, hq => exact .inl (by kernel_rfl)
      | n_ + 8, hq => simp at hq
    | 2, _ => exact .inr fun f g g' v w1 w2 _ hr h => RSame.keep (q := q_.2) hr h
    | 3, _ =>
      match j_, hq with
      | 0, hq => exact .inr (by obtain rfl := Option.some.inj hq; exact fun f g g' v w1 w2 ht hr h => h)
      | 1, hq => exact .inr (by obtain rfl := Option.some.inj hq; exact fun f g g' v w1 w2 ht hr h => h.imp fun _ h => ⟨h.1, by rw [hr.e]; exact Kd.S_below h.2 hr.b⟩)
      | 2, hq => exact .inr (by obtain rfl := Option.some.inj hq; exact fun f g g' v w1 w2 ht hr h => h)
      | 3, hq => exact absurd rfl hij
      | 4, hq => exact .inr (by obtain rfl := Option.some.inj hq; exact fun f g g' v w1 w2 ht hr h => h.trans (by rw [hr.e]))
      | 5, hq => exact .inr (by obtain rfl := Option.some.inj hq; exact fun f g g' v w1 w2 ht hr h => h.trans (by rw [hr.e]))
      | 6, hq => exact .inl (by kernel_rfl)
      | 7, hq => exact .inl (by kernel_rfl)
      | n_ + 8, hq => simp at hq
    | 4, _ =>
      match j_, hq with
      | 0, hq => exact .inr (by obtain rfl := Option.some.inj hq; exact fun f g g' v w1 w2 ht hr h => h)
      | 1, hq => exact .inr (by obtain rfl := Option.some.inj hq; exact fun f g g' v w1 w2 ht hr h => h.imp fun _ h => ⟨h.1, by rw [hr.e2]; exact Kd.S_below h.2 hr.b⟩)
      | 2, hq => exact .inr (by obtain rfl := Option.some.inj hq; exact fun f g g' v w1 w2 ht hr h => h)
      | 3, hq => exact .inr (by obtain rfl := Option.some.inj hq; exact fun f g g' v w1 w2 ht hr h => h.imp fun _ h => ⟨h.1, by rw [hr.e2]; exact Kd.R_below h.2 hr.b⟩)
      | 4, hq => exact absurd rfl hij
      | 5, hq => exact .inr (by obtain rfl := Option.some.inj hq; exact fun f g g' v w1 w2 ht hr h => h.trans (by rw [hr.e2]))
      | 6, hq => exact .inl (by kernel_rfl)
      | 7, hq => exact .inl (by kernel_rfl)
      | n_ + 8, hq => simp at hq
    | 5, _ =>
      match j_, hq with
      | 0, hq => exact .inr (by obtain rfl := Option.some.inj hq; exact fun f g g' v w1 w2 ht hr h => h)
      | 1, hq => exact .inr (by obtain rfl := Option.some.inj hq; exact fun f g g' v w1 w2 ht hr h => h.imp fun _ h => ⟨h.1, by rw [hr.e3, hr.e2]; exact Kd.S_mono (Kd.S_below (Kd.S_bound h.2) hr.b) (fun k hk => ⟨hk.1.1, by have := hk.2.2.1; omega⟩)⟩)
      | 2, hq => exact .inr (by obtain rfl := Option.some.inj hq; exact fun f g g' v w1 w2 ht hr h => h)
      | 3, hq => exact .inr (by obtain rfl := Option.some.inj hq; exact fun f g g' v w1 w2 ht hr h => h.imp fun _ h => ⟨h.1, by rw [hr.e3]; exact Kd.R_below h.2 hr.b⟩)
      | 4, hq => exact .inr (by obtain rfl := Option.some.inj hq; exact fun f g g' v w1 w2 ht hr h => h.trans (by rw [hr.e1]))
      | 5, hq => exact absurd rfl hij
      | 6, hq => exact .inl (by kernel_rfl)
      | 7, hq => exact .inl (by kernel_rfl)
      | n_ + 8, hq => simp at hq
    | 6, _ =>
      match j_, hq with
      | 0, hq => exact .inr (by obtain rfl := Option.some.inj hq; exact fun f g g' v w1 w2 ht hr h => h)
      | 1, hq => exact .inr (by obtain rfl := Option.some.inj hq; exact fun f g g' v w1 w2 ht hr h => h.imp fun _ h => ⟨h.1, by rw [hr.e]; exact hr.s.S h.2 (by decide)⟩)
      | 2, hq => exact .inr (by obtain rfl := Option.some.inj hq; exact fun f g g' v w1 w2 ht hr h => h)
      | 3, hq => exact .inr (by obtain rfl := Option.some.inj hq; exact fun f g g' v w1 w2 ht hr h => h.imp fun _ h => ⟨h.1, by rw [hr.e]; exact hr.s.R h.2 (by decide)⟩)
      | 4, hq => exact .inr (by obtain rfl := Option.some.inj hq; exact fun f g g' v w1 w2 ht hr h => h.trans (by rw [hr.e]))
      | 5, hq => exact .inr (by obtain rfl := Option.some.inj hq; exact fun f g g' v w1 w2 ht hr h => h.trans (by rw [hr.e]))
      | 6, hq => exact absurd rfl hij
      | 7, hq => exact .inl (by kernel_rfl)
      | n_ + 8, hq => simp at hq
    | 7, _ =>
      match j_, hq with
      | 0, hq => exact .inr (by obtain rfl := Option.some.inj hq; exact fun f g g' v w1 w2 ht hr h => h)
      | 1, hq => exact .inr (by obtain rfl := Option.some.inj hq; exact fun f g g' v w1 w2 ht hr h => h.imp fun _ h => ⟨h.1, by rw [hr.e]; exact store_ne hr.s h.2 (fun k hk => hk.2)⟩)
      | 2, hq => exact .inr (by obtain rfl := Option.some.inj hq; exact fun f g g' v w1 w2 ht hr h => h)
      | 3, hq => exact .inr (by obtain rfl := Option.some.inj hq; exact fun f g g' v w1 w2 ht hr h => h.imp fun _ h => ⟨h.1, by rw [hr.e]; exact hr.s.R h.2 (by decide)⟩)
      | 4, hq => exact .inr (by obtain rfl := Option.some.inj hq; exact fun f g g' v w1 w2 ht hr h => h.trans (by rw [hr.e]))
      | 5, hq => exact .inr (by obtain rfl := Option.some.inj hq; exact fun f g g' v w1 w2 ht hr h => h.trans (by rw [hr.e]))
      | 6, hq => exact .inr (by obtain rfl := Option.some.inj hq; exact fun f g g' v w1 w2 ht hr h => h.imp fun _ h => ⟨by rw [hr.e]; exact hr.s.blk h.1 (by decide), by rw [hr.e]; exact store_ne hr.s h.2 (fun k hk => hk.2)⟩)
      | 7, hq => exact absurd rfl hij
      | n_ + 8, hq => simp at hq
    | n_ + 8, hin => exact absurd hin (by show ¬ n_ + 8 < 8; omega)
  case step =>
    intro i_ o_ e_ ho he f g a w1_ hfi hs hdf hfr htr hpre
    try dsimp only
    match i_, ho, he, hfi with
    | 0, ho, he, hfi =>
      obtain rfl : o_ = { dst := some 16, op := Go.Op.load 24 (Go.Operand.tmp 3), type := 24, pos := "law.go:130", after := #[], guard := none } := (Option.some.inj ho).symm
      obtain rfl := Option.some.inj he; clear he
      have f3 : a.tmps.getD 3 undef = .pointer (some ⟨w.heap.size, 0, none⟩) := by rw [Array.getD_eq_getD_getElem?, hfr 3 (show ¬ 3 ∈ ([16, 17, 18, 19, 7, 8] : List Nat) by decide)]; rfl
      clear hpre hfr
      have k_y0 := (htr.bel.cell (World.block_lt_of_cell? _ _ y0)).trans y0
      have k_y1 := (htr.bel.cell (World.block_lt_of_cell? _ _ y1)).trans y1
      refine wpOp_value (v := .agg #[.int .i64 a0_0, .slice A0_1 l0_1.length c0_1]) ho rfl ?_ ⟨_, g, rfl, rfl, RSame.mk rfl rfl⟩
      simp only [execOp, Act.eval, List.map_toArray, List.map_cons, List.map_nil, f3]
      first | rfl | (go_simp; done) | (go_simp; rfl) | (go_simp; intro h_; exfalso; omega)
    | 1, ho, he, hfi =>
      obtain rfl : o_ = { dst := some 17, op := Go.Op.call { callee := Go.Callee.value (Go.Operand.func 17), args := #[Go.Operand.tmp 16], argTypes := #[24] }, type := 24, pos := "law.go:130", after := #[{ on := 0, ground := Go.Ground.data }], guard := none } := (Option.some.inj ho).symm
      obtain rfl := Option.some.inj he; clear he
      obtain ⟨ef16, v16_, e16, ev16⟩ := hpre ⟨0, .data⟩ (by simp) rfl _ rfl
      replace ev16 := ev16 _ rfl; subst ev16
      have e16 : a.tmps.getD 16 undef = .agg #[.int .i64 a0_0, .slice A0_1 l0_1.length c0_1] := e16
      clear hpre hfr
      refine wpOp_call (fn := Try.f17) ho rfl rfl rfl rfl #[.agg #[.int .i64 a0_0, .slice A0_1 l0_1.length c0_1]] rfl (by simp only [List.map_toArray, List.map_cons, List.map_nil, Act.eval, e16]) ?_
      refine (waybillref22_Own.calls (l0_1.length + 1) a0_0 A0_1 c0_1 l0_1 a0_0 l0_1 _ (Kd.C_below HR1.out htr.bel) HC.out HKO.out).mono ?_
      rintro e w2 ⟨v1, rfl, hS, hb2⟩
      exact ⟨_, rfl, _, (g.1, g.2.1, w2.heap.size), rfl, ⟨v1, rfl, Kd.S_lower (Kd.S_mono (Kd.S_bound hS) (fun k hk => ⟨hk.2.2.1, by have := hk.2.1; have := htr.lt; show k ≠ g.2.1; omega⟩)) htr.t.siz⟩, RN.mk rfl rfl rfl hb2⟩
    | 2, ho, he, hfi =>
      obtain rfl : o_ = { dst := some 18, op := Go.Op.load 32 (Go.Operand.tmp 5), type := 32, pos := "law.go:130", after := #[], guard := none } := (Option.some.inj ho).symm
      obtain rfl := Option.some.inj he; clear he
      have f5 : a.tmps.getD 5 undef = .pointer (some ⟨w.heap.size + 1, 0, none⟩) := by rw [Array.getD_eq_getD_getElem?, hfr 5 (show ¬ 5 ∈ ([16, 17, 18, 19, 7, 8] : List Nat) by decide)]; rfl
      clear hpre hfr
      have k_d0 := (htr.bel.cell (World.block_lt_of_cell? _ _ d0)).trans d0
      have k_d1 := (htr.bel.cell (World.block_lt_of_cell? _ _ d1)).trans d1
      have k_d2 := (htr.bel.cell (World.block_lt_of_cell? _ _ d2)).trans d2
      refine wpOp_value (v := .agg #[.int .i64 a2_0, .int .i64 a2_1, .slice A2_2 l2_2.length c2_2]) ho rfl ?_ ⟨_, g, rfl, rfl, RSame.mk rfl rfl⟩
      simp only [execOp, Act.eval, List.map_toArray, List.map_cons, List.map_nil, f5]
      first | rfl | (go_simp; done) | (go_simp; rfl) | (go_simp; intro h_; exfalso; omega)
    | 3, ho, he, hfi =>
      obtain rfl : o_ = { dst := some 19, op := Go.Op.call { callee := Go.Callee.value (Go.Operand.func 18), args := #[Go.Operand.tmp 18], argTypes := #[32] }, type := 32, pos := "law.go:130", after := #[{ on := 2, ground := Go.Ground.data }, { on := 1, ground := Go.Ground.chain }], guard := none } := (Option.some.inj ho).symm
      obtain rfl := Option.some.inj he; clear he
      obtain ⟨ef18, v18_, e18, ev18⟩ := hpre ⟨2, .data⟩ (by simp) rfl _ rfl
      replace ev18 := ev18 _ rfl; subst ev18
      have e18 : a.tmps.getD 18 undef = .agg #[.int .i64 a2_0, .int .i64 a2_1, .slice A2_2 l2_2.length c2_2] := e18
      obtain ⟨ef17, v17_, e17, ev17⟩ := hpre ⟨1, .chain⟩ (by simp) rfl _ rfl
      replace ev17 := ev17 _ rfl; subst ev17
      try dsimp only at e17
      clear hpre hfr
      refine wpOp_call (fn := Try.f18) ho rfl rfl rfl rfl #[.agg #[.int .i64 a2_0, .int .i64 a2_1, .slice A2_2 l2_2.length c2_2]] rfl (by simp only [List.map_toArray, List.map_cons, List.map_nil, Act.eval, e18]) ?_
      refine (waybillref22_Kept.calls a2_0 a2_1 A2_2 c2_2 l2_2 a2_0 a2_1 l2_2 _ (Kd.C_below HR21.out htr.bel) HC2.out HKK.out).mono ?_
      rintro e w2 ⟨v2, rfl, hR, hb2⟩
      exact ⟨_, rfl, _, g, rfl, ⟨v2, rfl, Kd.R_lower hR (htr.n ef17).1⟩, RM.mk rfl hb2⟩
    | 4, ho, he, hfi =>
      obtain rfl : o_ = { dst := some 7, op := Go.Op.alloc 24, type := 0, pos := "law.go:130", after := #[], guard := none } := (Option.some.inj ho).symm
      obtain rfl := Option.some.inj he; clear he
      clear hpre hfr
      refine wpOp_value (w1 := w1_.alloc (.cells #[.int .i64 0, .slice none 0 0] 24 (0, 0))) (v := .pointer (some ⟨w1_.heap.size, 0, none⟩)) ho rfl ?_ ⟨_, (w1_.heap.size, g.2), rfl, rfl, RA1.mk rfl rfl rfl⟩
      simp only [execOp, Act.eval, List.map_toArray, List.map_cons, List.map_nil]
      first | rfl | (go_simp; done) | (go_simp; rfl)
    | 5, ho, he, hfi =>
      obtain rfl : o_ = { dst := some 8, op := Go.Op.alloc 32, type := 0, pos := "law.go:130", after := #[], guard := none } := (Option.some.inj ho).symm
      obtain rfl := Option.some.inj he; clear he
      clear hpre hfr
      refine wpOp_value (w1 := w1_.alloc (.cells #[.int .i64 0, .int .i64 0, .slice none 0 0] 32 (0, 0))) (v := .pointer (some ⟨w1_.heap.size, 0, none⟩)) ho rfl ?_ ⟨_, (g.1, w1_.heap.size, g.2.2), rfl, rfl, RA2.mk rfl rfl rfl rfl⟩
      simp only [execOp, Act.eval, List.map_toArray, List.map_cons, List.map_nil]
      first | rfl | (go_simp; done) | (go_simp; rfl)
    | 6, ho, he, hfi =>
      obtain rfl : o_ = { dst := none, op := Go.Op.store 24 (Go.Operand.tmp 7) (Go.Operand.tmp 17), type := 0, pos := "law.go:130", after := #[{ on := 4, ground := Go.Ground.data }, { on := 1, ground := Go.Ground.data }, { on := 3, ground := Go.Ground.chain }, { on := 0, ground := Go.Ground.phase }, { on := 1, ground := Go.Ground.phase }, { on := 2, ground := Go.Ground.textOnly Go.Departure.lateStores }, { on := 3, ground := Go.Ground.textOnly Go.Departure.lateStoresUnsure }, { on := 4, ground := Go.Ground.phase }, { on := 5, ground := Go.Ground.phase }], guard := none } := (Option.some.inj ho).symm
      obtain rfl := Option.some.inj he; clear he
      obtain ⟨ef7, v7_, e7, ev7⟩ := hpre ⟨4, .data⟩ (by simp) rfl _ rfl
      replace ev7 := ev7 _ rfl; subst ev7
      try dsimp only at e7
      obtain ⟨ef17, v17_, e17, ev17⟩ := hpre ⟨1, .data⟩ (by simp) rfl _ rfl
      replace ev17 := ev17 _ rfl; subst ev17
      try dsimp only at e17
      obtain ⟨ef19, v19_, e19, ev19⟩ := hpre ⟨3, .chain⟩ (by simp) rfl _ rfl
      replace ev19 := ev19 _ rfl; subst ev19
      try dsimp only at e19
      clear hpre hfr
      obtain ⟨v1, e1, e3⟩ := e17
      obtain ⟨Ay, cy, rfl⟩ := Kd.R_slice (Kd.S_R e3)
      have hz := htr.t.zero1 ef7 hfi
      have hz0 : w1_.cell? ⟨g.1, 0, none⟩ = some (.int .i64 0) := (blk_cell hz 0).trans rfl
      have hz1 : w1_.cell? ⟨g.1, 1, none⟩ = some (.slice none 0 0) := (blk_cell hz 1).trans rfl
      have hf0 := blk_frozen hz 0
      have hf1 := blk_frozen hz 1
      refine wpOp_skip (w1 := (w1_.setCell ⟨g.1, 0, none⟩ (.int .i64 a0_0)).setCell ⟨g.1, 1, none⟩ (.slice Ay l0_1.length cy)) ho rfl ?_ ⟨undef, g, rfl, ⟨_, blk_put (blk_put hz 0 _ rfl) 1 _ rfl, ?_⟩, RS1.mk rfl (RStore.mk rfl (htr.t.ge1 ef7).1 hz ⟨[_, _], rfl⟩)⟩
      · simp only [execOp, Act.eval, List.map_toArray, List.map_cons, List.map_nil, e1, e7]
        first | rfl | (go_simp; done) | (go_simp; rfl)
      · exact Kd.S_set (Kd.S_set e3 hz (by decide) 0 _) (blk_set hz 0 _) (by decide) 1 _
    | 7, ho, he, hfi =>
      obtain rfl : o_ = { dst := none, op := Go.Op.store 32 (Go.Operand.tmp 8) (Go.Operand.tmp 19), type := 0, pos := "law.go:130", after := #[{ on := 5, ground := Go.Ground.data }, { on := 3, ground := Go.Ground.data }, { on := 6, ground := Go.Ground.chain }, { on := 0, ground := Go.Ground.phase }, { on := 1, ground := Go.Ground.phase }, { on := 2, ground := Go.Ground.phase }, { on := 3, ground := Go.Ground.phase }, { on := 4, ground := Go.Ground.phase }, { on := 5, ground := Go.Ground.phase }, { on := 6, ground := Go.Ground.phase }], guard := none } := (Option.some.inj ho).symm
      obtain rfl := Option.some.inj he; clear he
      obtain ⟨ef8, v8_, e8, ev8⟩ := hpre ⟨5, .data⟩ (by simp) rfl _ rfl
      replace ev8 := ev8 _ rfl; subst ev8
      try dsimp only at e8
      obtain ⟨ef19, v19_, e19, ev19⟩ := hpre ⟨3, .data⟩ (by simp) rfl _ rfl
      replace ev19 := ev19 _ rfl; subst ev19
      try dsimp only at e19
      clear hpre hfr
      obtain ⟨v2, e1, e3⟩ := e19
      obtain ⟨Ay, cy, rfl⟩ := Kd.R_slice e3
      have hz := htr.t.zero2 ef8 hfi
      have hz0 : w1_.cell? ⟨g.2.1, 0, none⟩ = some (.int .i64 0) := (blk_cell hz 0).trans rfl
      have hz1 : w1_.cell? ⟨g.2.1, 1, none⟩ = some (.int .i64 0) := (blk_cell hz 1).trans rfl
      have hz2 : w1_.cell? ⟨g.2.1, 2, none⟩ = some (.slice none 0 0) := (blk_cell hz 2).trans rfl
      have hf0 := blk_frozen hz 0
      have hf1 := blk_frozen hz 1
      have hf2 := blk_frozen hz 2
      refine wpOp_skip (w1 := ((w1_.setCell ⟨g.2.1, 0, none⟩ (.int .i64 a2_0)).setCell ⟨g.2.1, 1, none⟩ (.int .i64 a2_1)).setCell ⟨g.2.1, 2, none⟩ (.slice Ay l2_2.length cy)) ho rfl ?_ ⟨undef, g, rfl, ⟨_, blk_put (blk_put (blk_put hz 0 _ rfl) 1 _ rfl) 2 _ rfl, ?_⟩, RS2.mk rfl (RStore.mk rfl (htr.t.ge2 ef8).1 hz ⟨[_, _, _], rfl⟩)⟩
      · simp only [execOp, Act.eval, List.map_toArray, List.map_cons, List.map_nil, e1, e8]
        first | rfl | (go_simp; done) | (go_simp; rfl)
      · exact Kd.R_set (Kd.R_set (Kd.R_set e3 hz (by decide) 0 _) (blk_set hz 0 _) (by decide) 1 _) (blk_set (blk_set hz 0 _) 1 _) (by decide) 2 _
    | n_ + 8, ho, he, hfi => simp at he
  case fin =>
    intro xv_ gz f_ w1_ hall htr hx
    simp only [List.forall_mem_cons] at hx
    obtain ⟨⟨z16_, z16, y16⟩, ⟨z17_, z17, y17⟩, ⟨z18_, z18, y18⟩, ⟨z19_, z19, y19⟩, ⟨z7_, z7, y7⟩, ⟨z8_, z8, y8⟩, ⟨_, w6, _⟩, ⟨_, w7, _⟩, _⟩ := hx
    replace y16 := y16 _ rfl; subst y16
    have x16 : xv_ 16 = .agg #[.int .i64 a0_0, .slice A0_1 l0_1.length c0_1] := z16
    replace y17 := y17 _ rfl; subst y17
    obtain ⟨v17, x17, _⟩ := z17
    replace y18 := y18 _ rfl; subst y18
    have x18 : xv_ 18 = .agg #[.int .i64 a2_0, .int .i64 a2_1, .slice A2_2 l2_2.length c2_2] := z18
    replace y19 := y19 _ rfl; subst y19
    obtain ⟨v19, x19, _⟩ := z19
    replace y7 := y7 _ rfl; subst y7
    have x7 := z7; try dsimp only at x7
    replace y8 := y8 _ rfl; subst y8
    have x8 := z8; try dsimp only at x8
    obtain ⟨vi, hbi, hSi⟩ := w6
    obtain ⟨vo, hbo, hRo⟩ := w7
    simp only [List.map_cons, List.map_nil, putL, Act.put, List.setIfInBounds_toArray, List.set_cons_zero, List.set_cons_succ, x16, x17, x18, x19, x7, x8]
    clear x16 x17 x18 x19 x7 x8 z16 z18 z7 z8
    obtain ⟨gi, go, N⟩ := gz
    dsimp only at hbi hSi hbo hRo htr ⊢
    have HG1 := Aside0.mk (htr.t.ge1 (hall 4))
    have HG2 := Aside0.mk (htr.t.ge2 (hall 5))
    have HNN := Aside0.mk (htr.n (hall 1))
    have HB3 := Aside0.mk htr.bel
    have HBI := Aside0.mk hbi
    have HBO := Aside0.mk hbo
    have HSI := Aside0.mk hSi
    have HRO := Aside0.mk hRo
    clear hall htr hbi hbo hSi hRo y0 y1 d0 d1 d2
    obtain ⟨A1, c1, rfl⟩ := Kd.S_slice HSI.out
    obtain ⟨A4, c4, rfl⟩ := Kd.R_slice HRO.out
    have y0 : w1_.cell? ⟨gi, 0, none⟩ = some (.int .i64 a0_0) := (blk_cell HBI.out 0).trans rfl
    have y1 : w1_.cell? ⟨gi, 1, none⟩ = some (.slice A1 l0_1.length c1) := (blk_cell HBI.out 1).trans rfl
    have d0 : w1_.cell? ⟨go, 0, none⟩ = some (.int .i64 a2_0) := (blk_cell HBO.out 0).trans rfl
    have d1 : w1_.cell? ⟨go, 1, none⟩ = some (.int .i64 a2_1) := (blk_cell HBO.out 1).trans rfl
    have d2 : w1_.cell? ⟨go, 2, none⟩ = some (.slice A4 l2_2.length c4) := (blk_cell HBO.out 2).trans rfl
    have hgi := HG1.out.2
    have hgo := HG2.out.2
    obtain ⟨r1, r2, r3, hpv⟩ : ∃ r1 r2 r3, putsW a0_0 l0_1 a1 [⟨a2_0, a2_1, l2_2⟩] = (r1, r2, r3) := ⟨_, _, _, rfl⟩
    have HPF : Aside0 (window_Put.f a0_0 l0_1 a1 [⟨a2_0, a2_1, l2_2⟩] = some (r1, r2, r3)) := ⟨by unfold window_Put.f; rw [hpv]⟩
    have HPR : Aside0 (waybillref22_Put.f a0_0 l0_1 a1 [⟨a2_0, a2_1, l2_2⟩] = some (r1, r2, r3)) := ⟨by unfold waybillref22_Put.f; rw [hpv]⟩
    have HCI : Aside0 (Kd.C k32 w1_ A1 l0_1.length l0_1 ∧ l0_1.length ≤ c1) := ⟨by obtain ⟨_, h2, h3⟩ := Kd.S_reads' HSI.out; exact ⟨h3, h2⟩⟩
    have HCO : Aside0 (Kd.C (Kd.int .u8) w1_ A4 l2_2.length l2_2 ∧ l2_2.length ≤ c4) := ⟨by obtain ⟨_, h2, h3⟩ := Kd.R_reads' HRO.out; exact ⟨h3, h2⟩⟩
    clear hpv
    go_wp2_with (go_at_call 16; (refine (window_Put.calls a0_0 A1 c1 l0_1 a1 (some ⟨w1_.heap.size, 0, none⟩) 1 [⟨a2_0, a2_1, l2_2⟩] r1 r2 r3 _ (Kd.C_alloc HCI.out.1 _) HCI.out.2 (C_done1 (d := ⟨a2_0, a2_1, l2_2⟩) (heap_new1 w1_ _) HCO.out.2 (Kd.C_alloc HCO.out.1 _)) (Nat.le_refl _) HPF.out).mono ?_); rintro e wp ⟨vx, rfl, hSx, hb⟩; obtain ⟨Ax, cx, rfl⟩ := Kd.S_slice hSx; have HSX := Aside0.mk (Kd.S_lower hSx (show w1_.heap.size ≤ _ by simp)); have HBP := Aside0.mk (show Below w1_.heap.size w1_ wp from below_then (below_alloc (Below.refl _ _) _) (by simp) hb); clear hSx hb)
    have HX4 := Aside0.mk (heap_new1 wp (.cells #[.int .i64 r1, .slice Ax r2.length cx] 24))
    have HB4 := Aside0.mk (below_alloc HBP.out (.cells #[.int .i64 r1, .slice Ax r2.length cx] 24))
    have HSX4 := Aside0.mk (Kd.S_alloc HSX.out (.cells #[.int .i64 r1, .slice Ax r2.length cx] 24))
    obtain ⟨W4, hW4⟩ : ∃ W4, W4 = wp.alloc (.cells #[.int .i64 r1, .slice Ax r2.length cx] 24) := ⟨_, rfl⟩
    rw [← hW4] at HX4 HB4 HSX4 ⊢
    have hw4 : W4.heap.size = wp.heap.size + 1 := by rw [hW4]; simp
    obtain ⟨W3, hW3⟩ : ∃ W3, W3 = w1_ := ⟨_, rfl⟩
    subst hW3
    clear hW4 y0 y1 d0 d1 d2
    obtain ⟨_, rows, ft, hrl, hrR, hrM⟩ := S_open HSI.out
    have HRL := Aside0.mk hrl
    have HRR := Aside0.mk hrR
    have HRM := Aside0.mk hrM
    have HBW : Aside0 (Below w.heap.size w W4) := ⟨below_then (below_then HB1.out HB1.out.size HB3.out) (by have := HB1.out.size; have := HB3.out.size; omega) HB4.out⟩
    have HU1 : Aside0 (w.heap.size + 1 < u1.heap.size) := ⟨hlt1⟩
    clear hrl hrR hrM
    go_loopw [11] (fun v11 wr => ∃ i : Nat, v11 = .int .i64 i ∧ i ≤ l0_1.length ∧ Aside0 (OwnInv w W3 W4 u1.heap.size N (fun q => ft q < i) wr)) (fun v11 _ => l0_1.length - (intOf v11).toNat)
    case atStart => exact ⟨0, rfl, Nat.zero_le _, ⟨Nat.le_refl _, fun _ _ _ => rfl, HBW.out⟩⟩
    case round =>
      obtain ⟨i, rfl, hi, HI⟩ := hrel
      have HBIr := Aside0.mk (HI.out.blk HB4.out HBI.out (by decide))
      have y0 : wr.cell? ⟨gi, 0, none⟩ = some (.int .i64 a0_0) := (blk_cell HBIr.out 0).trans rfl
      have y1 : wr.cell? ⟨gi, 1, none⟩ = some (.slice A1 l0_1.length c1) := (blk_cell HBIr.out 1).trans rfl
      have hmx : l0_1.length ≤ 9223372036854775807 := HCI.out.1.2.1
      by_cases hlt : i < l0_1.length
      · have b1 : decide ((i : Int) < (l0_1.length : Int)) = true := decide_eq_true (by omega)
        have b1' : decide (i < l0_1.length) = true := decide_eq_true hlt
        obtain ⟨x, hx⟩ : ∃ x, l0_1[i]? = some x := ⟨_, List.getElem?_eq_getElem hlt⟩
        obtain ⟨cs', hcs⟩ : ∃ cs', rows[i]? = some cs' := ⟨_, List.getElem?_eq_getElem (by rw [HRL.out]; exact hlt)⟩
        obtain ⟨vy, hvy, hRy⟩ := k32_openM (HRM.out i x cs' hx hcs)
        have hraw : (Kd.raw 3).R 32 wr u1.heap.size (fun k => some k = (Value.slice A1 l0_1.length c1).ownBlock) (.slice A1 l0_1.length c1) rows := Kd.R_step (Kd.R_bound HRR.out) (fun q hq hql => by
          obtain ⟨_, _, _, q', hq', cells, hc⟩ := hq
          have hq'' : q' = 32 := by simpa [Kd.raw] using hq'
          rw [hq''] at hc
          exact (HI.out.blk HB4.out hc (by decide)).trans hc.symm) |> fun h => Kd.R_mono h (fun _ hk => hk.1)
        obtain ⟨gA, rfl⟩ := R_addr hraw (by rw [HRL.out]; omega)
        obtain ⟨cq, a1', a2', a3', a4'⟩ := Kd.R_elem hraw [] (i : Int) (by omega) (by omega)
        have hcq : cq = [.int .i64 x.f0, .int .i64 x.f1, vy] := by
          have h5 : cq = rows.getD (i : Int).toNat [] := a2'.1
          rw [h5, Int.toNat_natCast, List.getD_eq_getElem?_getD, hcs, ← hvy]; rfl
        subst hcq
        have r2' : wr.cell? ⟨gA, i * 3 + 2, none⟩ = some vy := a3' 2 _ rfl
        have HRY : Aside0 (Kd.R (Kd.int .u8) 5 wr w.heap.size (fun q => DataAt W3 u1.heap.size N q ∧ ft q = i) vy x.f2) := ⟨by
          have h1 := Kd.R_mono (ok' := fun q => DataAt W3 u1.heap.size N q ∧ ft q = i) (Kd.R_bound hRy) (fun q hq => by
            obtain ⟨⟨⟨⟨q1, q2⟩, q3⟩, q4⟩, q5, q6, q', hq', hc⟩ := hq
            have hq'' : q' = 5 := by simpa [Kd.int, Kd.scalar] using hq'
            rw [hq''] at hc
            exact ⟨⟨q5, q1, hc⟩, q4⟩)
          refine Kd.R_lower (Kd.R_step h1 (fun q hq hql => ?_)) (by have := HU1.out; omega)
          exact (HI.out.mv q (by have := HB4.out.size; omega) (fun hd => by have h1 : ft q < i := hd.2; have h2 : ft q = i := hq.2; omega)).trans (HB4.out.block q hql)⟩
        obtain ⟨KS, rS, hKS⟩ := spoil_ev x.f2 (by obtain ⟨_, _, _, _, hC⟩ := Kd.R_reads hRy; exact hC.2.1)
        obtain ⟨Av, cv, hvv⟩ := Kd.R_slice hRy
        subst hvv
        have HKS := Aside0.mk hKS
        clear hraw a1' a2' a3' a4' hRy hvy hcs hx hKS
        go_wp2_with (go_at_call 19; (refine (waybillplain_Spoil.calls KS (fun q => DataAt W3 u1.heap.size N q ∧ ft q = i) _ x.f2 rS w _ HI.out.bel HRY.out HKS.out).mono ?_); rintro e wk ⟨rfl, hr9, hb9, hk9⟩; have HB9 := Aside0.mk hb9; have HK9 := Aside0.mk hk9; clear hr9 hb9 hk9)
        go_roundw
        case rel =>
          exact ⟨i + 1, by go_num, by omega, ⟨⟨Nat.le_trans HI.out.siz HK9.out.1, fun q hq hn => (HK9.out.2 q (by have := HI.out.siz; omega) (fun hP => hn ⟨hP.1, (show ft q < i + 1 from by have h2 : ft q = i := hP.2; omega)⟩)).trans (HI.out.mv q hq (fun hd => hn ⟨hd.1, (show ft q < i + 1 from by have h2 : ft q < i := hd.2; omega)⟩)), HB9.out⟩⟩⟩
        case measure => simp [intOf]; omega
      · have b1 : decide ((i : Int) < (l0_1.length : Int)) = false := decide_eq_false (by omega)
        have b1' : decide (i < l0_1.length) = false := decide_eq_false hlt
        have HBOr := Aside0.mk (HI.out.blk HB4.out HBO.out (by decide))
        have d2 : wr.cell? ⟨go, 2, none⟩ = some (.slice A4 l2_2.length c4) := (blk_cell HBOr.out 2).trans rfl
        have HRO2 : Aside0 (Kd.R (Kd.int .u8) 5 wr w.heap.size (fun q => DataAt W3 N W3.heap.size q) (.slice A4 l2_2.length c4) l2_2) := ⟨by
          have h1 := Kd.R_mono (ok' := fun q => DataAt W3 N W3.heap.size q) (Kd.R_bound HRO.out) (fun q hq => by
            obtain ⟨_, q5, q6, q', hq', hc⟩ := hq
            have hq'' : q' = 5 := by simpa [Kd.int, Kd.scalar] using hq'
            rw [hq''] at hc
            exact ⟨q5, q6, hc⟩)
          refine Kd.R_lower (Kd.R_step h1 (fun q hq hql => ?_)) (by have := HU1.out; have := HNN.out.2; omega)
          exact (HI.out.mv q (by have := HB4.out.size; omega) (fun hd => by have h1 := hd.1.2.1; have h2 := hq.1; omega)).trans (HB4.out.block q hql)⟩
        obtain ⟨KS, rS, hKS⟩ := spoil_ev l2_2 HCO.out.1.2.1
        have HKS := Aside0.mk hKS
        clear hKS
        go_upto_region 10 with (go_at_call 19; (refine (waybillplain_Spoil.calls KS (fun q => DataAt W3 N W3.heap.size q) _ l2_2 rS w _ HI.out.bel HRO2.out HKS.out).mono ?_); rintro e wk ⟨rfl, hr9, hb9, hk9⟩; have HB9 := Aside0.mk hb9; have HK9 := Aside0.mk hk9; clear hr9 hb9 hk9)
        have HF : Aside0 (OwnInv w W3 W4 u1.heap.size W3.heap.size (fun _ => True) wk) := ⟨⟨Nat.le_trans HI.out.siz HK9.out.1, fun q hq hn => (HK9.out.2 q (by have := HI.out.siz; omega) (fun hP => hn ⟨⟨by have := hP.1; have := HNN.out.2; omega, hP.2⟩, trivial⟩)).trans (HI.out.mv q hq (fun hd => hn ⟨⟨hd.1.1, by have h1 := hd.1.2.1; have := HNN.out.1; omega, hd.1.2.2⟩, trivial⟩)), HB9.out⟩⟩
        have KB := Aside0.mk (HF.out.blk HB4.out (blk_below BK.out HB3.out) (by decide))
        have KD := Aside0.mk (HF.out.blk HB4.out (blk_below BD.out HB3.out) (by decide))
        have hpw : W3.heap.size ≤ wp.heap.size := HBP.out.size
        have KX : Aside0 (wk.heap[wp.heap.size]? = some (.cells #[.int .i64 r1, .slice Ax r2.length cx] 24 (0, 0))) := ⟨(HF.out.mv wp.heap.size (by omega) (fun hd => by have := hd.1.2.1; omega)).trans HX4.out⟩
        have KS2 : Aside0 (Kd.S k32 32 wk W3.heap.size (fun _ => True) (.slice Ax r2.length cx) r2) := ⟨Kd.S_mono (Kd.S_step (Kd.S_bound HSX4.out) (fun q hq hql => HF.out.mv q hql (fun hd => by have h1 := hd.1.2.1; have h2 := hq.2.1; omega))) (fun _ _ => trivial)⟩
        clear d2 y0 y1 HB9 HK9 HKS HRO2 HBOr HBIr
        have y0 : wk.cell? ⟨w.heap.size, 0, none⟩ = some (.int .i64 a0_0) := (blk_cell KB.out 0).trans rfl
        have y1 : wk.cell? ⟨w.heap.size, 1, none⟩ = some (.slice A0_1 l0_1.length c0_1) := (blk_cell KB.out 1).trans rfl
        have d0 : wk.cell? ⟨w.heap.size + 1, 0, none⟩ = some (.int .i64 a2_0) := (blk_cell KD.out 0).trans rfl
        have d1 : wk.cell? ⟨w.heap.size + 1, 1, none⟩ = some (.int .i64 a2_1) := (blk_cell KD.out 1).trans rfl
        have d2 : wk.cell? ⟨w.heap.size + 1, 2, none⟩ = some (.slice A2_2 l2_2.length c2_2) := (blk_cell KD.out 2).trans rfl
        have hk1 : w.heap.size + 1 < wk.heap.size := blk_lt KD.out
        have HSF : Aside0 (waybillref22_Same.f r1 r2 r1 r2 = some true) := ⟨by unfold waybillref22_Same.f; rw [same_self]⟩
        have hrr : (r3 == r3) = true := by simp
        go_wp2_with (go_at_call 20; (refine (waybillref22_Put.calls a0_0 A0_1 c0_1 l0_1 a1 (some ⟨wk.heap.size, 0, none⟩) 1 [⟨a2_0, a2_1, l2_2⟩] r1 r2 r3 _ (Kd.C_alloc (Kd.C_below HR.out HF.out.bel) _) HC.out (C_done1 (d := ⟨a2_0, a2_1, l2_2⟩) (heap_new1 wk _) HC2.out (Kd.C_alloc (Kd.C_below HR2.out HF.out.bel) _)) (Nat.le_refl _) HPR.out).mono ?_); rintro e wq ⟨vq, rfl, hSq, hb⟩; obtain ⟨Aq, cq, rfl⟩ := Kd.S_slice hSq; have HSQ := Aside0.mk hSq; have HBQ := Aside0.mk (show Below wk.heap.size wk wq from below_then (below_alloc (Below.refl _ _) _) (by simp) hb); have KXQ := Aside0.mk (blk_below KX.out HBQ.out); have hxl : wp.heap.size < wq.heap.size := blk_lt KXQ.out; have x0 : wq.cell? ⟨wp.heap.size, 0, none⟩ = some (.int .i64 r1) := (blk_cell KXQ.out 0).trans rfl; have x1 : wq.cell? ⟨wp.heap.size, 1, none⟩ = some (.slice Ax r2.length cx) := (blk_cell KXQ.out 1).trans rfl; clear hSq hb)
        have HCX : Aside0 (Kd.C k32 (wq.alloc (.cells #[.int .i64 r1, .slice Aq r2.length cq] 24)) Ax r2.length r2 ∧ r2.length ≤ cx) := ⟨by obtain ⟨_, h2, h3⟩ := Kd.S_reads' (Kd.S_alloc (Kd.S_below KS2.out HBQ.out) (.cells #[.int .i64 r1, .slice Aq r2.length cq] 24)); exact ⟨h3, h2⟩⟩
        have HCY : Aside0 (Kd.C k32 (wq.alloc (.cells #[.int .i64 r1, .slice Aq r2.length cq] 24)) Aq r2.length r2 ∧ r2.length ≤ cq) := ⟨by obtain ⟨_, h2, h3⟩ := Kd.S_reads' (Kd.S_alloc HSQ.out (.cells #[.int .i64 r1, .slice Aq r2.length cq] 24)); exact ⟨h3, h2⟩⟩
        have HBZ := Aside0.mk (below_then HF.out.bel HF.out.bel.size (below_alloc HBQ.out (.cells #[.int .i64 r1, .slice Aq r2.length cq] 24)))
        go_at_call 21
        refine (waybillref22_Same.calls r1 Ax cx r2 r1 Aq cq r2 true _ HCX.out.1 HCX.out.2 HCY.out.1 HCY.out.2 HSF.out).mono ?_
        rintro e ws ⟨rfl, hb⟩
        have HBS := Aside0.mk (below_then HBZ.out HBZ.out.size hb)
        clear hb
        go_wp2_with (go_at_call 12; (with_reducible refine (waybilllaw22_num.calls r3 r3 _ rfl).mono ?_); rintro e w' ⟨rfl, ⟨nd, rfl⟩⟩)
        go_ret
        exact ⟨by simp, pw_below_drewN HBS.out _⟩

end Go.Proofs.Ytkdkjnjiianogaa.G
