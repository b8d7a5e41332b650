/- MessageTellsUpto: texts of this claim, packed: what the kit's print has written for it and own texts, without what its proof does not reach. -/
import Derived.Test.YtkddlhcpplkpbaaKMessageTellsUpto7
import Derived.Test.YtkddlhcpplkpbaaKMessageTellsUpto8
import Derived.Deep.RegionLaw
import Derived.Laws.Externs
import Derived.Lib.AppendZeros
import Derived.Lib.AppendZerosOnto
import Derived.Lib.Overlaps
set_option linter.unusedVariables false
set_option linter.unusedSimpArgs false
set_option linter.unusedSectionVars false
section
namespace WB
open Go Go.RowKit Go.Proofs.YtkddlhcpplkpbaaW.PrintWords
abbrev GFact (γ : Type) := Option Tmp × (γ → Value → World → Prop)
section
variable {P : Program} {ops : Array Oper} {Q : Exit → Act → World → Prop} {γ : Type}
theorem some_mem {facts : List (GFact γ)} {i : Nat} {e : GFact γ} {t : Tmp} (he : facts[i]? = some e) (ht : e.1 = some t) : t ∈ facts.filterMap (·.1) := List.mem_filterMap.2 ⟨e, List.mem_of_getElem? he, ht⟩
theorem nodup_at : ∀ (facts : List (GFact γ)), (facts.filterMap (·.1)).Nodup → ∀ (i j : Nat) (e q : GFact γ) (t : Tmp), facts[i]? = some e → facts[j]? = some q → e.1 = some t → q.1 = some t → i = j
 | [], _, i, j, e, q, t, h, _, _, _ => by simp at h
 | x :: l, hn, 0, 0, e, q, t, _, _, _, _ => rfl
 | x :: l, hn, i + 1, 0, e, q, t, hi, hj, he, hq => by
  simp at hi hj
  subst hj
  rw [List.filterMap_cons_some hq, List.nodup_cons] at hn
  exact absurd (some_mem hi he) hn.1
 | x :: l, hn, 0, j + 1, e, q, t, hi, hj, he, hq => by
  simp at hi hj
  subst hi
  rw [List.filterMap_cons_some he, List.nodup_cons] at hn
  exact absurd (some_mem hj hq) hn.1
 | x :: l, hn, i + 1, j + 1, e, q, t, hi, hj, he, hq => by
  simp at hi hj
  have hn' : (l.filterMap (·.1)).Nodup := by
   cases hx : x.1 with
   | none => rwa [List.filterMap_cons_none hx] at hn
   | some y => rw [List.filterMap_cons_some hx, List.nodup_cons] at hn; exact hn.2
  rw [nodup_at l hn' i j e q t hi hj he hq]
theorem region_ghost {id : Nat} {a0 : Act} {w : World} (Rl : Nat → γ → γ → World → World → Prop) (Tr : γ → (Nat → Bool) → World → Prop) (g0 : γ) (facts : List (GFact γ)) (hm : P.follows .mixedOrders = true) (hb : backB ops = true)
   (ds : List Tmp) (hd : ops.toList.map (·.dst) = facts.map (·.1)) (hds : facts.filterMap (·.1) = ds) (hnd : ds.Nodup) (hsz : ∀ t ∈ ds, t < a0.tmps.size)
   (hst : ∀ i j q, facts[j]? = some q → i ≠ j → i < ops.size → Region.waitsFor .any ops j i = true ∨ ∀ f g g' v w1 w2, Tr g f w1 → Rl i g g' w1 w2 → q.2 g v w1 → q.2 g' v w2)
   (hT0 : ∀ f, (∀ j, j < ops.size → f j = false) → Tr g0 f w.drew) (hT : ∀ f i g g' w1 w2, i < ops.size → f i = false → Tr g f w1 → Rl i g g' w1 w2 → Tr g' (fun j => if j = i then true else f j) w2)
   (step : ∀ i o e, ops[i]? = some o → facts[i]? = some e → ∀ f g a w1, f i = false → a.tmps.size = a0.tmps.size → a.defers = a0.defers → (∀ t, t ∉ ds → a.tmps[t]? = a0.tmps[t]?) → Tr g f w1 →
     (∀ d ∈ o.after, Region.binds .any d = true → ∀ q, facts[d.on]? = some q → f d.on = true ∧ ∃ v, q.2 g v w1 ∧ ∀ t, q.1 = some t → v = a.tmps.getD t undef) →
     wpOp P ops Q i (fun a' w2 => ∃ v g', a' = a.put e.1 v ∧ e.2 g' v w2 ∧ Rl i g g' w1 w2) a w1)
   (fin : ∀ (x : Tmp → Value) g f w1, (∀ j, f j = true) → Tr g f w1 → (∀ e ∈ facts, ∃ v, e.2 g v w1 ∧ ∀ t, e.1 = some t → v = x t) → Q .normal (putL a0 (ds.map fun d => (d, x d))) w1) : (Code.region id ops true).wp P Q a0 w := by
 subst hds
 have hlen : facts.length = ops.size := by have := congrArg List.length hd; simpa using this.symm
 refine region_inv (fun f a w1 => (∀ j oj, ops[j]? = some oj → f j = true → ∀ e ∈ oj.after, Region.binds .any e = true → f e.on = true) ∧ (a.tmps.size = a0.tmps.size ∧ a.defers = a0.defers ∧ (∀ t, t ∉ facts.filterMap (·.1) → a.tmps[t]? = a0.tmps[t]?)) ∧ ∃ g, Tr g f w1 ∧ ∀ i e, facts[i]? = some e → f i = true → ∃ v, e.2 g v w1 ∧ ∀ t, e.1 = some t → v = a.tmps.getD t undef) hm hb ?_ ?_ ?_
 · refine ⟨fun j oj hj hfj => ?_, ⟨rfl, rfl, fun _ _ => rfl⟩, g0, hT0 _ (fun j hj => by simp; omega), fun i e he hf => ?_⟩
   · have := (Array.getElem?_eq_some_iff.1 hj).1
     simp only [decide_eq_true_eq] at hfj
     omega
   · have := (List.getElem?_eq_some_iff.1 he).1
     simp only [decide_eq_true_eq] at hf
     omega
 · intro f a w1 i o ⟨hc, ⟨hs, hdf, hfr⟩, g, htr, hfa⟩ ho hfi haf
   have hio := (Array.getElem?_eq_some_iff.1 ho).1
   have hi : i < facts.length := by omega
   have he : facts[i]? = some facts[i] := List.getElem?_eq_getElem hi
   obtain ⟨e, hee⟩ : ∃ e, e = facts[i] := ⟨_, rfl⟩
   rw [← hee] at he
   refine wpOp_mono ?_ (step i o e ho he f g a w1 hfi hs hdf hfr htr fun d hdm hbd q hq => ?_)
   · rintro a' w2 ⟨v, g', rfl, hp, hrl⟩
     refine ⟨fun j oj hj hfj d hdm hbd => ?_, ⟨?_, ?_, fun t ht => ?_⟩, g', hT _ _ _ _ _ _ hio hfi htr hrl, fun j q hq hj => ?_⟩
     · by_cases hei : d.on = i
       · simp [hei]
       · show (if d.on = i then true else f d.on) = true
         rw [if_neg hei]
         by_cases hji : j = i
         · subst hji
           rw [ho] at hj
           cases hj
           exact haf d hdm hbd
         · have : f j = true := by simpa [hji] using hfj
           exact hc j oj hj this d hdm hbd
     · cases h1 : e.1 with
       | none => simpa [Act.put] using hs
       | some t => simp [Act.put, hs]
     · cases h1 : e.1 with
       | none => simpa [Act.put] using hdf
       | some t => simp [Act.put, hdf]
     · rw [← hfr t ht]
       cases h1 : e.1 with
       | none => rfl
       | some y =>
         have : y ≠ t := fun h => ht (h ▸ some_mem he h1)
         simp [Act.put, Array.getElem?_setIfInBounds_ne this]
     · by_cases hji : j = i
       · subst hji
         rw [he] at hq
         cases hq
         refine ⟨v, hp, fun t h1 => ?_⟩
         have : t < a.tmps.size := by rw [hs]; exact hsz t (some_mem he h1)
         rw [h1]
         simp [Act.put, this]
       · have hj : f j = true := by simpa [hji] using hj
         obtain ⟨u, hu, hut⟩ := hfa j q hq hj
         refine ⟨u, ?_, fun t h1 => ?_⟩
         · rcases hst i j q hq (fun h => hji h.symm) hio with hw | hst'
           · obtain ⟨oj, hoj, d, hdm, hbd, hdo⟩ := Region.waitsFor_spec hw
             have := hc j oj hoj hj d hdm hbd
             rw [hdo, hfi] at this
             cases this
           · exact hst' f _ _ _ _ _ htr hrl hu
         · rw [hut t h1]
           cases h2 : e.1 with
           | none => rfl
           | some y =>
             have : y ≠ t := fun h => hji (nodup_at facts hnd j i q e t hq he h1 (h ▸ h2))
             simp [Act.put, Array.getD_eq_getD_getElem?, Array.getElem?_setIfInBounds_ne this]
   · have h1 := haf d hdm hbd
     exact ⟨h1, hfa _ q hq h1⟩
 · intro f a w1 ⟨hc, ⟨hs, hdf, hfr⟩, g, htr, hfa⟩ hall
   have h1 := fin (fun t => a.tmps.getD t undef) g f w1 hall htr (fun e he => by
     obtain ⟨i, hi, rfl⟩ := List.mem_iff_getElem.1 he
     exact hfa i _ (List.getElem?_eq_getElem hi) (hall i))
   have he : putL a0 ((facts.filterMap (·.1)).map fun d => (d, a.tmps.getD d undef)) = a := by
     have h2 : (putL a0 ((facts.filterMap (·.1)).map fun d => (d, a.tmps.getD d undef))).tmps = a.tmps := by
       apply Array.ext_getElem?
       intro t
       by_cases ht : t ∈ facts.filterMap (·.1)
       · have hlt := hsz t ht
         rw [putL_in _ _ _ _ ht hlt, Array.getD_eq_getD_getElem?, Array.getElem?_eq_getElem (show t < a.tmps.size by rw [hs]; exact hlt)]
         rfl
       · rw [hfr t ht]
         refine putL_out _ _ t fun q hq => ?_
         obtain ⟨d, hd', rfl⟩ := List.mem_map.1 hq
         exact fun h => ht (h ▸ hd')
     have h3 : (putL a0 ((facts.filterMap (·.1)).map fun d => (d, a.tmps.getD d undef))).defers = a.defers := by rw [putL_defers, hdf]
     cases hx : putL a0 ((facts.filterMap (·.1)).map fun d => (d, a.tmps.getD d undef))
     rw [hx] at h2 h3
     cases a
     simp only at h2 h3
     rw [h2, h3]
   rw [he] at h1
   exact h1
end
end WB
namespace WB
open Go Go.RowKit Go.Proofs.YtkddlhcpplkpbaaW.PrintWords
section
variable {γ : Type} {w1 w2 : World}
structure RSame (g g' : γ) (w1 w2 : World) : Prop where
 e : g' = g
 w : w2 = w1
structure RMake (g g' : γ) (w1 w2 : World) : Prop where
 e : g' = g
 b : Below w1.heap.size w1 w2
structure RAlloc (zero : Obj) (g g' : Nat) (w1 w2 : World) : Prop where
 e : g' = w1.heap.size
 w : w2 = w1.alloc zero
structure RStore (B : Nat) (zero : Obj) (g g' : Nat) (w1 w2 : World) : Prop where
 e : g' = g
 ge : B ≤ g
 z : w1.heap[g]? = some zero
 w : ∃ us, w2 = w1.setCells g 0 us
theorem RSame.keep {q : γ → Value → World → Prop} {g g' : γ} {v : Value} (hr : RSame g g' w1 w2) (h : q g v w1) : q g' v w2 := by
 obtain ⟨rfl, rfl⟩ := hr
 exact h
theorem RAlloc.b {zero : Obj} {g g' : Nat} (hr : RAlloc zero g g' w1 w2) : Below w1.heap.size w1 w2 := by
 obtain ⟨_, rfl⟩ := hr
 exact below_alloc (Below.refl _ _) _
end
/-- What holds all along: below stays; the block lies there, empty, till it is filled. -/
structure TrAS (w : World) (B ia is : Nat) (zero : Obj) (g : Nat) (f : Nat → Bool) (W : World) : Prop where
 bel : Below B w W
 siz : B ≤ W.heap.size
 zero : f ia = true → f is = false → W.heap[g]? = some zero
 ge : f ia = true → B ≤ g ∧ g < W.heap.size
section
variable {w W W2 : World} {B ia is i n : Nat} {zero : Obj} {g g' : Nat} {f : Nat → Bool}
theorem TrAS.same (ht : TrAS w B ia is zero g f W) (hr : RSame g g' W W2) (h1 : ia ≠ i) (h2 : is ≠ i) : TrAS w B ia is zero g' (fun j => if j = i then true else f j) W2 := by
 obtain ⟨rfl, rfl⟩ := hr
 refine ⟨ht.bel, ht.siz, fun a b => ?_, fun a => ?_⟩
 · simp only [if_neg h1, if_neg h2] at a b
   exact ht.zero a b
 · simp only [if_neg h1] at a
   exact ht.ge a
theorem TrAS.make (ht : TrAS w B ia is zero g f W) (hr : RMake g g' W W2) (h1 : ia ≠ i) (h2 : is ≠ i) : TrAS w B ia is zero g' (fun j => if j = i then true else f j) W2 := by
 obtain ⟨rfl, hb⟩ := hr
 refine ⟨below_then ht.bel ht.siz hb, Nat.le_trans ht.siz hb.size, fun a b => ?_, fun a => ?_⟩
 · simp only [if_neg h1, if_neg h2] at a b
   have := ht.zero a b
   exact (hb.block _ (Array.getElem?_eq_some_iff.1 this).1).trans this
 · simp only [if_neg h1] at a
   have := ht.ge a
   have := hb.size
   omega
theorem TrAS.alloc (ht : TrAS w B ia is zero g f W) (hr : RAlloc zero g g' W W2) : TrAS w B ia is zero g' (fun j => if j = ia then true else f j) W2 := by
 obtain ⟨rfl, rfl⟩ := hr
 refine ⟨below_alloc0 ht.bel ht.siz _, ?_, fun _ _ => heap_alloc_new W zero, fun _ => ?_⟩
 · rw [World.size_alloc]; have := ht.siz; omega
 · rw [World.size_alloc]; have := ht.siz; omega
theorem TrAS.store (ht : TrAS w B ia is zero g f W) (hr : RStore B zero g g' W W2) (hne : ia ≠ is) : TrAS w B ia is zero g' (fun j => if j = is then true else f j) W2 := by
 obtain ⟨rfl, hg1, hz, us, rfl⟩ := hr
 obtain ⟨h1, h2, h3, h4⟩ := setCells_same g' us 0 W
 have hg : B ≤ g' ∧ g' < W.heap.size := ⟨hg1, (Array.getElem?_eq_some_iff.1 hz).1⟩
 refine ⟨⟨h1.trans ht.bel.os, h2.trans ht.bel.tape, h3.trans ht.bel.output, by rw [h4]; exact ht.bel.size, fun k hk => (setCells_far us 0 k (by omega)).trans (ht.bel.block k hk)⟩, (by rw [h4]; exact ht.siz), fun _ b => (by simp at b), fun _ => (by rw [h4]; exact hg)⟩
end
/-- Without a block of that kind. -/
structure TrB (w : World) (B : Nat) (g : Nat) (f : Nat → Bool) (W : World) : Prop where
 bel : Below B w W
 siz : B ≤ W.heap.size
section
variable {w W W2 : World} {B i n : Nat} {g g' : Nat} {f f' : Nat → Bool}
theorem TrB.same (ht : TrB w B g f W) (hr : RSame g g' W W2) : TrB w B g' f' W2 := by
 obtain ⟨rfl, rfl⟩ := hr
 exact ⟨ht.bel, ht.siz⟩
theorem TrB.make (ht : TrB w B g f W) (hr : RMake g g' W W2) : TrB w B g' f' W2 := by
 obtain ⟨rfl, hb⟩ := hr
 exact ⟨below_then ht.bel ht.siz hb, Nat.le_trans ht.siz hb.size⟩
end
section
variable {α : Type} {d : Kd α} {e base B : Nat} {ok : Nat → Prop} {v : Value} {xs : List α}
theorem R_cells : ∀ (us : List Value) (o : Nat) {w : World} {g t : Nat} {cs : Array Value}, d.R e w base ok v xs → w.heap[g]? = some (.cells cs t (0, 0)) → (∀ q, q ∈ e :: d.E → q ≠ t) → d.R e (w.setCells g o us) base ok v xs
 | [], _, _, _, _, _, h, _, _ => h
 | u :: us, o, _, _, _, _, h, hb, ht => R_cells us (o + 1) (Kd.R_set h hb ht o u) (blk_set hb o u) ht
theorem S_cells : ∀ (us : List Value) (o : Nat) {w : World} {g t : Nat} {cs : Array Value}, Kd.S d e w base ok v xs → w.heap[g]? = some (.cells cs t (0, 0)) → (∀ q, q ∈ e :: d.E → q ≠ t) → Kd.S d e (w.setCells g o us) base ok v xs
 | [], _, _, _, _, _, h, _, _ => h
 | u :: us, o, _, _, _, _, h, hb, ht => S_cells us (o + 1) (Kd.S_set h hb ht o u) (blk_set hb o u) ht
theorem RStore.R {cs : Array Value} {t : Nat} {g g' : Nat} {w1 w2 : World} (hr : RStore B (.cells cs t (0, 0)) g g' w1 w2) (h : d.R e w1 base ok v xs) (ht : ∀ q, q ∈ e :: d.E → q ≠ t) : d.R e w2 base ok v xs := by
 obtain ⟨_, _, hz, us, rfl⟩ := hr
 exact R_cells us 0 h hz ht
theorem RStore.S {cs : Array Value} {t : Nat} {g g' : Nat} {w1 w2 : World} (hr : RStore B (.cells cs t (0, 0)) g g' w1 w2) (h : Kd.S d e w1 base ok v xs) (ht : ∀ q, q ∈ e :: d.E → q ≠ t) : Kd.S d e w2 base ok v xs := by
 obtain ⟨_, _, hz, us, rfl⟩ := hr
 exact S_cells us 0 h hz ht
theorem RStore.blk {cs cs' : Array Value} {t t' : Nat} {g g' k : Nat} {w1 w2 : World} (hr : RStore B (.cells cs t (0, 0)) g g' w1 w2) (h : w1.heap[k]? = some (.cells cs' t' (0, 0))) (ht : t' ≠ t) : w2.heap[k]? = some (.cells cs' t' (0, 0)) := by
 obtain ⟨_, _, hz, us, rfl⟩ := hr
 rw [setCells_far us 0 k (blk_ne h hz ht)]
 exact h
end
end WB
namespace WB
open Go Go.RowKit Go.Proofs.YtkddlhcpplkpbaaW.PrintWords
structure RAlloc1 (z : Obj) (g g' : Nat × Nat) (w1 w2 : World) : Prop where
 e1 : g'.1 = w1.heap.size
 e2 : g'.2 = g.2
 w : w2 = w1.alloc z
structure RAlloc2 (z : Obj) (g g' : Nat × Nat) (w1 w2 : World) : Prop where
 e1 : g'.1 = g.1
 e2 : g'.2 = w1.heap.size
 w : w2 = w1.alloc z
theorem RAlloc1.b {z : Obj} {g g' : Nat × Nat} {w1 w2 : World} (hr : RAlloc1 z g g' w1 w2) : Below w1.heap.size w1 w2 := by rw [hr.w]; exact below_alloc (Below.refl _ _) _
theorem RAlloc2.b {z : Obj} {g g' : Nat × Nat} {w1 w2 : World} (hr : RAlloc2 z g g' w1 w2) : Below w1.heap.size w1 w2 := by rw [hr.w]; exact below_alloc (Below.refl _ _) _
structure Tr2 (w : World) (B i1 s1 i2 s2 : Nat) (z1 z2 : Obj) (g : Nat × Nat) (f : Nat → Bool) (W : World) : Prop where
 bel : Below B w W
 siz : B ≤ W.heap.size
 zero1 : f i1 = true → f s1 = false → W.heap[g.1]? = some z1
 ge1 : f i1 = true → B ≤ g.1 ∧ g.1 < W.heap.size
 zero2 : f i2 = true → f s2 = false → W.heap[g.2]? = some z2
 ge2 : f i2 = true → B ≤ g.2 ∧ g.2 < W.heap.size
 ne : f i1 = true → f i2 = true → g.1 ≠ g.2
section
variable {w W W2 : World} {B i1 s1 i2 s2 i n : Nat} {z1 z2 : Obj} {g g' : Nat × Nat} {f : Nat → Bool}
theorem Tr2.same (ht : Tr2 w B i1 s1 i2 s2 z1 z2 g f W) (hr : RSame g g' W W2) (hi : i1 ≠ i ∧ s1 ≠ i ∧ i2 ≠ i ∧ s2 ≠ i) : Tr2 w B i1 s1 i2 s2 z1 z2 g' (fun j => if j = i then true else f j) W2 := by
 obtain ⟨rfl, rfl⟩ := hr
 obtain ⟨a1, a2, a3, a4⟩ := hi
 refine ⟨ht.bel, ht.siz, ?_, ?_, ?_, ?_, ?_⟩
 all_goals simp only [if_neg a1, if_neg a2, if_neg a3, if_neg a4]
 · exact ht.zero1
 · exact ht.ge1
 · exact ht.zero2
 · exact ht.ge2
 · exact ht.ne
theorem Tr2.make (ht : Tr2 w B i1 s1 i2 s2 z1 z2 g f W) (hr : RMake g g' W W2) (hi : i1 ≠ i ∧ s1 ≠ i ∧ i2 ≠ i ∧ s2 ≠ i) : Tr2 w B i1 s1 i2 s2 z1 z2 g' (fun j => if j = i then true else f j) W2 := by
 obtain ⟨rfl, hb⟩ := hr
 obtain ⟨a1, a2, a3, a4⟩ := hi
 have hs := hb.size
 refine ⟨below_then ht.bel ht.siz hb, Nat.le_trans ht.siz hs, ?_, ?_, ?_, ?_, ?_⟩
 all_goals simp only [if_neg a1, if_neg a2, if_neg a3, if_neg a4]
 · exact fun x y => blk_below (ht.zero1 x y) hb
 · exact fun x => by have := ht.ge1 x; omega
 · exact fun x y => blk_below (ht.zero2 x y) hb
 · exact fun x => by have := ht.ge2 x; omega
 · exact ht.ne
end
end WB
end
