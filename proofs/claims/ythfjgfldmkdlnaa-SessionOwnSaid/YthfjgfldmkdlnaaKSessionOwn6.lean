/- SessionOwn: texts of this claim, packed: what the kit's print has written for it and own texts, without what its proof does not reach. -/
import Derived.Test.YthfjgfldmkdlnaaKSessionOwn4
import Derived.Test.YthfjgfldmkdlnaaKSessionOwn5
import Derived.Deep.RegionLaw
import Derived.Laws.Externs
import Derived.Lib.AppendZeros
import Derived.Lib.AppendZerosOnto
import Derived.Lib.Overlaps
set_option linter.unusedVariables false
set_option linter.unusedSimpArgs false
set_option linter.unusedSectionVars false
section
set_option linter.unusedVariables false
namespace WB
open Go Go.RowKit Go.Proofs.YthfjgfldmkdlnaaW.PrintWords
section
variable {γ : Type} {w1 w2 : World}
structure RSame (g g' : γ) (w1 w2 : World) : Prop where
  e : g' = g
  w : w2 = w1
structure RMake (g g' : γ) (w1 w2 : World) : Prop where
  e : g' = g
  b : Below w1.heap.size w1 w2
structure RAlloc (zero : Obj) (g g' : Nat) (w1 w2 : World) : Prop where
  e : g' = w1.heap.size
  w : w2 = w1.alloc zero
structure RStore (B : Nat) (zero : Obj) (g g' : Nat) (w1 w2 : World) : Prop where
  e : g' = g
  ge : B ≤ g
  z : w1.heap[g]? = some zero
  w : ∃ us, w2 = w1.setCells g 0 us
theorem RSame.keep {q : γ → Value → World → Prop} {g g' : γ} {v : Value} (hr : RSame g g' w1 w2) (h : q g v w1) : q g' v w2 := by
  obtain ⟨rfl, rfl⟩ := hr
  exact h
theorem RAlloc.b {zero : Obj} {g g' : Nat} (hr : RAlloc zero g g' w1 w2) : Below w1.heap.size w1 w2 := by
  obtain ⟨_, rfl⟩ := hr
  exact below_alloc (Below.refl _ _) _
end
/-- What holds all along: below stays; the block lies there, empty, till it is filled. -/
structure TrAS (w : World) (B ia is : Nat) (zero : Obj) (g : Nat) (f : Nat → Bool) (W : World) : Prop where
  bel : Below B w W
  siz : B ≤ W.heap.size
  zero : f ia = true → f is = false → W.heap[g]? = some zero
  ge : f ia = true → B ≤ g ∧ g < W.heap.size
section
variable {w W W2 : World} {B ia is i n : Nat} {zero : Obj} {g g' : Nat} {f : Nat → Bool}
theorem TrAS.same (ht : TrAS w B ia is zero g f W) (hr : RSame g g' W W2) (h1 : ia ≠ i) (h2 : is ≠ i) : TrAS w B ia is zero g' (fun j => if j = i then true else f j) W2 := by
  obtain ⟨rfl, rfl⟩ := hr
  refine ⟨ht.bel, ht.siz, fun a b => ?_, fun a => ?_⟩
  · simp only [if_neg h1, if_neg h2] at a b
    exact ht.zero a b
  · simp only [if_neg h1] at a
    exact ht.ge a
theorem TrAS.make (ht : TrAS w B ia is zero g f W) (hr : RMake g g' W W2) (h1 : ia ≠ i) (h2 : is ≠ i) : TrAS w B ia is zero g' (fun j => if j = i then true else f j) W2 := by
  obtain ⟨rfl, hb⟩ := hr
  refine ⟨below_then ht.bel ht.siz hb, Nat.le_trans ht.siz hb.size, fun a b => ?_, fun a => ?_⟩
  · simp only [if_neg h1, if_neg h2] at a b
    have := ht.zero a b
    exact (hb.block _ (Array.getElem?_eq_some_iff.1 this).1).trans this
  · simp only [if_neg h1] at a
    have := ht.ge a
    have := hb.size
    omega
theorem TrAS.alloc (ht : TrAS w B ia is zero g f W) (hr : RAlloc zero g g' W W2) : TrAS w B ia is zero g' (fun j => if j = ia then true else f j) W2 := by
  obtain ⟨rfl, rfl⟩ := hr
  refine ⟨below_alloc0 ht.bel ht.siz _, ?_, fun _ _ => heap_alloc_new W zero, fun _ => ?_⟩
  · rw [World.size_alloc]; have := ht.siz; omega
  · rw [World.size_alloc]; have := ht.siz; omega
theorem TrAS.store (ht : TrAS w B ia is zero g f W) (hr : RStore B zero g g' W W2) (hne : ia ≠ is) : TrAS w B ia is zero g' (fun j => if j = is then true else f j) W2 := by
  obtain ⟨rfl, hg1, hz, us, rfl⟩ := hr
  obtain ⟨h1, h2, h3, h4⟩ := setCells_same g' us 0 W
  have hg : B ≤ g' ∧ g' < W.heap.size := ⟨hg1, (Array.getElem?_eq_some_iff.1 hz).1⟩
  refine ⟨⟨h1.trans ht.bel.os, h2.trans ht.bel.tape, h3.trans ht.bel.output, by rw [h4]; exact ht.bel.size, fun k hk => (setCells_far us 0 k (by omega)).trans (ht.bel.block k hk)⟩, (by rw [h4]; exact ht.siz), fun _ b => (by simp at b), fun _ => (by rw [h4]; exact hg)⟩
end
/-- Without a block of that kind. -/
structure TrB (w : World) (B : Nat) (g : Nat) (f : Nat → Bool) (W : World) : Prop where
  bel : Below B w W
  siz : B ≤ W.heap.size
section
variable {w W W2 : World} {B i n : Nat} {g g' : Nat} {f f' : Nat → Bool}
theorem TrB.same (ht : TrB w B g f W) (hr : RSame g g' W W2) : TrB w B g' f' W2 := by
  obtain ⟨rfl, rfl⟩ := hr
  exact ⟨ht.bel, ht.siz⟩
theorem TrB.make (ht : TrB w B g f W) (hr : RMake g g' W W2) : TrB w B g' f' W2 := by
  obtain ⟨rfl, hb⟩ := hr
  exact ⟨below_then ht.bel ht.siz hb, Nat.le_trans ht.siz hb.size⟩
end
section
variable {α : Type} {d : Kd α} {e base B : Nat} {ok : Nat → Prop} {v : Value} {xs : List α}
theorem R_cells : ∀ (us : List Value) (o : Nat) {w : World} {g t : Nat} {cs : Array Value}, d.R e w base ok v xs → w.heap[g]? = some (.cells cs t (0, 0)) → (∀ q, q ∈ e :: d.E → q ≠ t) → d.R e (w.setCells g o us) base ok v xs
  | [], _, _, _, _, _, h, _, _ => h
  | u :: us, o, _, _, _, _, h, hb, ht => R_cells us (o + 1) (Kd.R_set h hb ht o u) (blk_set hb o u) ht
theorem S_cells : ∀ (us : List Value) (o : Nat) {w : World} {g t : Nat} {cs : Array Value}, Kd.S d e w base ok v xs → w.heap[g]? = some (.cells cs t (0, 0)) → (∀ q, q ∈ e :: d.E → q ≠ t) → Kd.S d e (w.setCells g o us) base ok v xs
  | [], _, _, _, _, _, h, _, _ => h
  | u :: us, o, _, _, _, _, h, hb, ht => S_cells us (o + 1) (Kd.S_set h hb ht o u) (blk_set hb o u) ht
theorem RStore.R {cs : Array Value} {t : Nat} {g g' : Nat} {w1 w2 : World} (hr : RStore B (.cells cs t (0, 0)) g g' w1 w2) (h : d.R e w1 base ok v xs) (ht : ∀ q, q ∈ e :: d.E → q ≠ t) : d.R e w2 base ok v xs := by
  obtain ⟨_, _, hz, us, rfl⟩ := hr
  exact R_cells us 0 h hz ht
theorem RStore.S {cs : Array Value} {t : Nat} {g g' : Nat} {w1 w2 : World} (hr : RStore B (.cells cs t (0, 0)) g g' w1 w2) (h : Kd.S d e w1 base ok v xs) (ht : ∀ q, q ∈ e :: d.E → q ≠ t) : Kd.S d e w2 base ok v xs := by
  obtain ⟨_, _, hz, us, rfl⟩ := hr
  exact S_cells us 0 h hz ht
theorem RStore.blk {cs cs' : Array Value} {t t' : Nat} {g g' k : Nat} {w1 w2 : World} (hr : RStore B (.cells cs t (0, 0)) g g' w1 w2) (h : w1.heap[k]? = some (.cells cs' t' (0, 0))) (ht : t' ≠ t) : w2.heap[k]? = some (.cells cs' t' (0, 0)) := by
  obtain ⟨_, _, hz, us, rfl⟩ := hr
  rw [setCells_far us 0 k (blk_ne h hz ht)]
  exact h
end
end WB
namespace WB
open Go Go.RowKit Go.Proofs.YthfjgfldmkdlnaaW.PrintWords
structure RAlloc1 (z : Obj) (g g' : Nat × Nat) (w1 w2 : World) : Prop where
  e1 : g'.1 = w1.heap.size
  e2 : g'.2 = g.2
  w : w2 = w1.alloc z
structure RAlloc2 (z : Obj) (g g' : Nat × Nat) (w1 w2 : World) : Prop where
  e1 : g'.1 = g.1
  e2 : g'.2 = w1.heap.size
  w : w2 = w1.alloc z
theorem RAlloc1.b {z : Obj} {g g' : Nat × Nat} {w1 w2 : World} (hr : RAlloc1 z g g' w1 w2) : Below w1.heap.size w1 w2 := by rw [hr.w]; exact below_alloc (Below.refl _ _) _
theorem RAlloc2.b {z : Obj} {g g' : Nat × Nat} {w1 w2 : World} (hr : RAlloc2 z g g' w1 w2) : Below w1.heap.size w1 w2 := by rw [hr.w]; exact below_alloc (Below.refl _ _) _
structure Tr2 (w : World) (B i1 s1 i2 s2 : Nat) (z1 z2 : Obj) (g : Nat × Nat) (f : Nat → Bool) (W : World) : Prop where
  bel : Below B w W
  siz : B ≤ W.heap.size
  zero1 : f i1 = true → f s1 = false → W.heap[g.1]? = some z1
  ge1 : f i1 = true → B ≤ g.1 ∧ g.1 < W.heap.size
  zero2 : f i2 = true → f s2 = false → W.heap[g.2]? = some z2
  ge2 : f i2 = true → B ≤ g.2 ∧ g.2 < W.heap.size
  ne : f i1 = true → f i2 = true → g.1 ≠ g.2
section
variable {w W W2 : World} {B i1 s1 i2 s2 i n : Nat} {z1 z2 : Obj} {g g' : Nat × Nat} {f : Nat → Bool}
theorem Tr2.same (ht : Tr2 w B i1 s1 i2 s2 z1 z2 g f W) (hr : RSame g g' W W2) (hi : i1 ≠ i ∧ s1 ≠ i ∧ i2 ≠ i ∧ s2 ≠ i) : Tr2 w B i1 s1 i2 s2 z1 z2 g' (fun j => if j = i then true else f j) W2 := by
  obtain ⟨rfl, rfl⟩ := hr
  obtain ⟨a1, a2, a3, a4⟩ := hi
  refine ⟨ht.bel, ht.siz, ?_, ?_, ?_, ?_, ?_⟩
  all_goals simp only [if_neg a1, if_neg a2, if_neg a3, if_neg a4]
  · exact ht.zero1
  · exact ht.ge1
  · exact ht.zero2
  · exact ht.ge2
  · exact ht.ne
theorem Tr2.make (ht : Tr2 w B i1 s1 i2 s2 z1 z2 g f W) (hr : RMake g g' W W2) (hi : i1 ≠ i ∧ s1 ≠ i ∧ i2 ≠ i ∧ s2 ≠ i) : Tr2 w B i1 s1 i2 s2 z1 z2 g' (fun j => if j = i then true else f j) W2 := by
  obtain ⟨rfl, hb⟩ := hr
  obtain ⟨a1, a2, a3, a4⟩ := hi
  have hs := hb.size
  refine ⟨below_then ht.bel ht.siz hb, Nat.le_trans ht.siz hs, ?_, ?_, ?_, ?_, ?_⟩
  all_goals simp only [if_neg a1, if_neg a2, if_neg a3, if_neg a4]
  · exact fun x y => blk_below (ht.zero1 x y) hb
  · exact fun x => by have := ht.ge1 x; omega
  · exact fun x y => blk_below (ht.zero2 x y) hb
  · exact fun x => by have := ht.ge2 x; omega
  · exact ht.ne
end
end WB
end
