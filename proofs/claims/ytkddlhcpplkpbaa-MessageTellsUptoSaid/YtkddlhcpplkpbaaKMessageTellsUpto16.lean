/- MessageTellsUpto: texts of this claim, packed: what the kit's print has written for it and own texts, without what its proof does not reach. -/
import Derived.Test.YtkddlhcpplkpbaaKMessageTellsUpto15
set_option linter.unusedVariables false
set_option linter.unusedSimpArgs false
set_option linter.unusedSectionVars false
section
namespace Go.Proofs.Ytkddlhcpplkpbaa.G
open WB Go.RowKit Go.Proofs.YtkddlhcpplkpbaaW.PrintWords Go.Proofs.YtkddlhcpplkpbaaW.PrintLast Go.Proofs.YtkddlhcpplkpbaaW.PrintMore
attribute [local go_sem] max2_int min2_int max_two min_two max_three min_three max_four min_four   -- for this text's walks alone
/-- A message's cells: its eleven numbers, then its octets. -/
def msgCells (n : List Int) (D : Value) : Array Value := ((n.map (Value.int .i64)) ++ [D]).toArray
/-- What stands of a message's numbers when those at these places are taken over. -/
def takeN (n : List Int) (o : List Int) : List Nat → List Int
 | [] => o
 | j :: l => takeN n (o.set j (n.getD j 0)) l
theorem takeN_app (n : List Int) (j : Nat) : ∀ (l : List Nat) (o : List Int), takeN n o (l ++ [j]) = (takeN n o l).set j (n.getD j 0)
 | [], _ => rfl
 | _ :: l, _ => takeN_app n j l _
theorem takeN_len (n : List Int) : ∀ (l : List Nat) (o : List Int), (takeN n o l).length = o.length
 | [], _ => rfl
 | _ :: l, o => (takeN_len n l _).trans (List.length_set ..)
theorem msg_get {n : List Int} {D : Value} {i : Nat} (h : i < n.length) : (msgCells n D)[i]? = some (.int .i64 (n.getD i 0)) := by
 unfold msgCells
 rw [List.getElem?_toArray, List.getElem?_append_left (by rw [List.length_map]; exact h), List.getElem?_map, List.getElem?_eq_getElem h]
 simp [List.getD_eq_getElem?_getD, h]
theorem msg_set {n : List Int} {D : Value} {i : Nat} (h : i < n.length) (x : Int) : (msgCells n D).setIfInBounds i (.int .i64 x) = msgCells (n.set i x) D := by
 unfold msgCells
 rw [List.setIfInBounds_toArray, List.set_append_left _ _ (by rw [List.length_map]; exact h), List.map_set]
theorem ix_get {g : Nat} {l : List Nat} {i : Nat} (h : i < l.length) : (ixCells g l)[i]? = some (.pointer (some ⟨g, l.getD i 0, none⟩)) := by
 unfold ixCells
 rw [List.getElem?_toArray, List.getElem?_map, List.getElem?_eq_getElem h]
 simp [List.getD_eq_getElem?_getD, h]
theorem heap_new2 (w : World) (o o' : Obj) : ((w.alloc o).alloc o').heap[w.heap.size + 1]? = some o' := by
 have h := heap_new1 (w.alloc o) o'
 rw [show (w.alloc o).heap.size = w.heap.size + 1 by simp] at h
 exact h
theorem heap_new3 (w : World) (o o' o2 : Obj) : (((w.alloc o).alloc o').alloc o2).heap[w.heap.size + 1 + 1]? = some o2 := by
 have h := heap_new2 (w.alloc o) o' o2
 rw [show (w.alloc o).heap.size = w.heap.size + 1 by simp] at h
 exact h
/-- What only keeps. -/
def onlyN (f0 f1 f2 f3 f4 f5 f6 f7 f8 f9 f10 : Int) : List Int := takeN [f0, f1, f2, f3, f4, f5, f6, f7, f8, f9, f10] [f0, 0, f2, 0, 0, 0, 0, 0, 0, 0, 0] (ixOf f0)
def onlyF (k : Int) (j : Nat) (x : Int) : Int := if j ∈ ixOf k then x else 0
theorem onlyN_is (f0 f1 f2 f3 f4 f5 f6 f7 f8 f9 f10 : Int) (h : ixOf f0 ≠ []) : onlyN f0 f1 f2 f3 f4 f5 f6 f7 f8 f9 f10 = [f0, onlyF f0 1 f1, f2, onlyF f0 3 f3, onlyF f0 4 f4, onlyF f0 5 f5, onlyF f0 6 f6, onlyF f0 7 f7, onlyF f0 8 f8, onlyF f0 9 f9, onlyF f0 10 f10] := by
 have hk : 1 ≤ f0 ∧ f0 ≤ 8 := by
  apply Classical.byContradiction
  intro hn
  exact h (ixOf_none hn)
 have hc : f0 = 1 ∨ f0 = 2 ∨ f0 = 3 ∨ f0 = 4 ∨ f0 = 5 ∨ f0 = 6 ∨ f0 = 7 ∨ f0 = 8 := by omega
 rcases hc with rfl | rfl | rfl | rfl | rfl | rfl | rfl | rfl <;> rfl
theorem msg_lit (a0 a1 a2 a3 a4 a5 a6 a7 a8 a9 a10 : Int) (D : Value) : msgCells [a0, a1, a2, a3, a4, a5, a6, a7, a8, a9, a10] D = #[.int .i64 a0, .int .i64 a1, .int .i64 a2, .int .i64 a3, .int .i64 a4, .int .i64 a5, .int .i64 a6, .int .i64 a7, .int .i64 a8, .int .i64 a9, .int .i64 a10, D] := rfl
theorem msg_setD {n : List Int} {D D' : Value} (h : n.length = 11) : (msgCells n D).setIfInBounds 11 D' = msgCells n D' := by
 unfold msgCells
 rw [List.setIfInBounds_toArray, List.set_append_right _ _ (by rw [List.length_map]; omega), List.length_map, h]
 rfl
/-- A message's cells, written one after the other. -/
def fillW (W : World) (g : Nat) (a0 a1 a2 a3 a4 a5 a6 a7 a8 a9 a10 : Int) (D : Value) : World := (((((((((((W.setCell ⟨g, 0, none⟩ (.int .i64 a0)).setCell ⟨g, 1, none⟩ (.int .i64 a1)).setCell ⟨g, 2, none⟩ (.int .i64 a2)).setCell ⟨g, 3, none⟩ (.int .i64 a3)).setCell ⟨g, 4, none⟩ (.int .i64 a4)).setCell ⟨g, 5, none⟩ (.int .i64 a5)).setCell ⟨g, 6, none⟩ (.int .i64 a6)).setCell ⟨g, 7, none⟩ (.int .i64 a7)).setCell ⟨g, 8, none⟩ (.int .i64 a8)).setCell ⟨g, 9, none⟩ (.int .i64 a9)).setCell ⟨g, 10, none⟩ (.int .i64 a10)).setCell ⟨g, 11, none⟩ D
theorem msg_fill {W : World} {g t : Nat} {D0 : Value} (h : W.heap[g]? = some (.cells (msgCells [0, 0, 0, 0, 0, 0, 0, 0, 0, 0, 0] D0) t (0, 0))) (a0 a1 a2 a3 a4 a5 a6 a7 a8 a9 a10 : Int) (D : Value) : (fillW W g a0 a1 a2 a3 a4 a5 a6 a7 a8 a9 a10 D).heap[g]? = some (.cells #[.int .i64 a0, .int .i64 a1, .int .i64 a2, .int .i64 a3, .int .i64 a4, .int .i64 a5, .int .i64 a6, .int .i64 a7, .int .i64 a8, .int .i64 a9, .int .i64 a10, D] t (0, 0)) := by
 have h := blk_put h 0 _ (msg_set (by simp) a0)
 have h := blk_put h 1 _ (msg_set (by simp) a1)
 have h := blk_put h 2 _ (msg_set (by simp) a2)
 have h := blk_put h 3 _ (msg_set (by simp) a3)
 have h := blk_put h 4 _ (msg_set (by simp) a4)
 have h := blk_put h 5 _ (msg_set (by simp) a5)
 have h := blk_put h 6 _ (msg_set (by simp) a6)
 have h := blk_put h 7 _ (msg_set (by simp) a7)
 have h := blk_put h 8 _ (msg_set (by simp) a8)
 have h := blk_put h 9 _ (msg_set (by simp) a9)
 have h := blk_put h 10 _ (msg_set (by simp) a10)
 have h := blk_put h 11 D (msg_setD (by simp))
 exact h
theorem msg_fillB {w W : World} {g : Nat} (h : Below w.heap.size w W) (hg : w.heap.size ≤ g) (a0 a1 a2 a3 a4 a5 a6 a7 a8 a9 a10 : Int) (D : Value) : Below w.heap.size w (fillW W g a0 a1 a2 a3 a4 a5 a6 a7 a8 a9 a10 D) := by
 unfold fillW
 exact below_set (below_set (below_set (below_set (below_set (below_set (below_set (below_set (below_set (below_set (below_set (below_set h hg) hg) hg) hg) hg) hg) hg) hg) hg) hg) hg) hg
/-- Where only is, ahead of round i. -/
structure OnlyI (w W : World) (h1 h2 : Nat) (n o : List Int) (D : Value) (ix : List Nat) (i : Nat) : Prop where
 bm : W.heap[w.heap.size]? = some (.cells (msgCells n D) 25 (0, 0))
 br : W.heap[w.heap.size + 1]? = some (.cells (msgCells [0, 0, 0, 0, 0, 0, 0, 0, 0, 0, 0] (.slice none 0 0)) 25 (0, 0))
 bo : W.heap[w.heap.size + 1 + 1]? = some (.cells (msgCells (takeN n o (ix.take i)) (.slice none 0 0)) 25 (0, 0))
 r1 : W.heap[h1]? = some (.cells (ixCells (w.heap.size + 1 + 1) ix) 66 (0, 0))
 r2 : W.heap[h2]? = some (.cells (ixCells w.heap.size ix) 66 (0, 0))
 bel : Below w.heap.size w W
theorem OnlyI.below {w W W1 : World} {h1 h2 : Nat} {n o : List Int} {D : Value} {ix : List Nat} {i : Nat} (h : OnlyI w W h1 h2 n o D ix i) (hb : Below W.heap.size W W1) : OnlyI w W1 h1 h2 n o D ix i :=
 ⟨blk_below h.bm hb, blk_below h.br hb, blk_below h.bo hb, blk_below h.r1 hb, blk_below h.r2 hb, below_then h.bel h.bel.size hb⟩
theorem OnlyI.put {w W : World} {h1 h2 : Nat} {n o : List Int} {D : Value} {ix : List Nat} {i : Nat} (h : OnlyI w W h1 h2 n o D ix i) (hi : i < ix.length) (hj : ix.getD i 0 < o.length) (n1 : w.heap.size + 1 + 1 < h1) (n2 : w.heap.size + 1 + 1 < h2) : OnlyI w (W.setCell ⟨w.heap.size + 1 + 1, ix.getD i 0, none⟩ (.int .i64 (n.getD (ix.getD i 0) 0))) h1 h2 n o D ix (i + 1) := by
 have he : ix.take (i + 1) = ix.take i ++ [ix.getD i 0] := by
  rw [List.take_succ_eq_append_getElem hi]
  simp [List.getD_eq_getElem?_getD, hi]
 refine ⟨blk_far h.bm (by simp; omega) _, blk_far h.br (by simp) _, ?_, blk_far h.r1 (by simp; omega) _, blk_far h.r2 (by simp; omega) _, below_set h.bel (by omega)⟩
 rw [he, takeN_app]
 exact blk_put h.bo _ _ (msg_set (by rw [takeN_len]; exact hj) _)
/-- The octets that only keeps. -/
def onlyD (k : Int) (A : Option Addr) (n c : Nat) : Value := if k = 3 ∨ k = 4 then .slice A n c else .slice none 0 0
set_option maxHeartbeats 4000000 in
set_option maxRecDepth 100000 in
theorem message_only (f0 f1 f2 f3 f4 f5 f6 f7 f8 f9 f10 : Int) (A : Option Addr) (c : Nat) (l : List Int) (w : World) (hr : Kd.C (Kd.int .u8) w A l.length l) (hc : l.length ≤ c) (hx : ixOf f0 ≠ []) :
   Calls Try.prog 38 #[.agg #[.int .i64 f0, .int .i64 f1, .int .i64 f2, .int .i64 f3, .int .i64 f4, .int .i64 f5, .int .i64 f6, .int .i64 f7, .int .i64 f8, .int .i64 f9, .int .i64 f10, .slice A l.length c]] w fun e w' => e = .returned (.agg #[.int .i64 f0, .int .i64 (onlyF f0 1 f1), .int .i64 f2, .int .i64 (onlyF f0 3 f3), .int .i64 (onlyF f0 4 f4), .int .i64 (onlyF f0 5 f5), .int .i64 (onlyF f0 6 f6), .int .i64 (onlyF f0 7 f7), .int .i64 (onlyF f0 8 f8), .int .i64 (onlyF f0 9 f9), .int .i64 (onlyF f0 10 f10), onlyD f0 A l.length c]) ∧ Below w.heap.size w w' := by
 have HR := Aside0.mk hr
 have HC := Aside0.mk hc
 have HX := Aside0.mk hx
 clear hr hc hx
 go_enter Try.func38, Try.ntmps38
 go_wp2_with fail
 go_at_call 31
 obtain ⟨n, hn⟩ : ∃ n : List Int, n = [f0, f1, f2, f3, f4, f5, f6, f7, f8, f9, f10] := ⟨_, rfl⟩
 obtain ⟨o, ho⟩ : ∃ o : List Int, o = [f0, 0, f2, 0, 0, 0, 0, 0, 0, 0, 0] := ⟨_, rfl⟩
 obtain ⟨W0, hW0⟩ : ∃ W, W = ((w.alloc (.cells #[.int .i64 f0, .int .i64 f1, .int .i64 f2, .int .i64 f3, .int .i64 f4, .int .i64 f5, .int .i64 f6, .int .i64 f7, .int .i64 f8, .int .i64 f9, .int .i64 f10, .slice A l.length c] 25)).alloc (.cells #[.int .i64 0, .int .i64 0, .int .i64 0, .int .i64 0, .int .i64 0, .int .i64 0, .int .i64 0, .int .i64 0, .int .i64 0, .int .i64 0, .int .i64 0, .slice none 0 0] 25)).alloc (.cells #[.int .i64 f0, .int .i64 0, .int .i64 f2, .int .i64 0, .int .i64 0, .int .i64 0, .int .i64 0, .int .i64 0, .int .i64 0, .int .i64 0, .int .i64 0, .slice none 0 0] 25) := ⟨_, rfl⟩
 rw [← hW0]
 have BM := Aside0.mk (show W0.heap[w.heap.size]? = some (.cells (msgCells n (.slice A l.length c)) 25 (0, 0)) by rw [hW0, hn, msg_lit]; exact blk_alloc (blk_alloc (heap_new1 _ _) _) _)
 have BR := Aside0.mk (show W0.heap[w.heap.size + 1]? = some (.cells (msgCells [0, 0, 0, 0, 0, 0, 0, 0, 0, 0, 0] (.slice none 0 0)) 25 (0, 0)) by rw [hW0, msg_lit]; exact blk_alloc (heap_new2 _ _ _) _)
 have BO := Aside0.mk (show W0.heap[w.heap.size + 1 + 1]? = some (.cells (msgCells o (.slice none 0 0)) 25 (0, 0)) by rw [hW0, ho, msg_lit]; exact heap_new3 _ _ _ _)
 have HB := Aside0.mk (show Below w.heap.size w W0 by rw [hW0]; exact below_alloc (below_alloc (below_alloc (Below.refl _ _) _) _) _)
 have HS := Aside0.mk (show W0.heap.size = w.heap.size + 1 + 1 + 1 by rw [hW0]; simp)
 have HN := Aside0.mk hn
 have HO := Aside0.mk ho
 have LN : Aside0 (n.length = 11) := ⟨by rw [hn]; rfl⟩
 have LO : Aside0 (o.length = 11) := ⟨by rw [ho]; rfl⟩
 have N0 : Aside0 (n.getD 0 0 = f0) := ⟨by rw [hn]; rfl⟩
 have O0 : Aside0 (o.getD 0 0 = f0) := ⟨by rw [ho]; rfl⟩
 clear hn ho hW0
 obtain ⟨ix, hix⟩ : ∃ ix, ix = ixOf f0 := ⟨_, rfl⟩
 have HIX := Aside0.mk hix
 with_reducible refine (message_fields (w.heap.size + 1 + 1) f0 _ ?hk).mono ?_
 case hk => rw [blk_cell BO.out 0, msg_get (by rw [LO.out]; omega), O0.out]
 rintro e w1 ⟨hf, hb⟩
 rw [← hix] at hf
 rcases hf with ⟨hz, _⟩ | ⟨_, h1, rfl, hs1, hr1⟩
 · exact absurd (hix.symm.trans hz) HX.out
 have HR1 := Aside0.mk hr1
 have H1 : Aside0 (w.heap.size + 1 + 1 < h1) := ⟨by have := HS.out; omega⟩
 have BM1 := Aside0.mk (blk_below BM.out hb)
 have BR1 := Aside0.mk (blk_below BR.out hb)
 have BO1 := Aside0.mk (blk_below BO.out hb)
 have HB1 := Aside0.mk (below_then HB.out HB.out.size hb)
 have HS1 := Aside0.mk hb.size
 clear hr1 hs1 hb hix BM BR BO
 go_wp2_with fail
 go_at_call 31
 with_reducible refine (message_fields w.heap.size f0 _ ?hk).mono ?_
 case hk => rw [blk_cell BM1.out 0, msg_get (by rw [LN.out]; omega), N0.out]
 rintro e w2 ⟨hf, hb⟩
 rw [← HIX.out] at hf
 rcases hf with ⟨hz, _⟩ | ⟨_, h2, rfl, hs2, hr2⟩
 · exact absurd (HIX.out.symm.trans hz) HX.out
 have H2 : Aside0 (w.heap.size + 1 + 1 < h2) := ⟨by have := HS.out; have := HS1.out; omega⟩
 have HI := Aside0.mk (show OnlyI w w2 h1 h2 n o (.slice A l.length c) ix 0 from ⟨blk_below BM1.out hb, blk_below BR1.out hb, blk_below BO1.out hb, blk_below HR1.out hb, hr2, below_then HB1.out HB1.out.size hb⟩)
 clear hr2 hs2 hb BM1 BR1 BO1 HR1 HB HB1
 go_wp2_with fail
 have HXL : Aside0 (∀ i, i < ix.length → 1 ≤ ix.getD i 0 ∧ ix.getD i 0 ≤ 10) := ⟨fun i hi => by
   have hm : ix.getD i 0 ∈ ixOf f0 := by
     rw [← HIX.out]
     have he : ix.getD i 0 = ix[i] := by simp [List.getD_eq_getElem?_getD, hi]
     rw [he]; exact List.getElem_mem hi
   exact ⟨(ixOf_lt _ hm).1, (ixOf_lt _ hm).2.1⟩⟩
 go_loopw [15] (fun v15 wr => ∃ i : Nat, v15 = .int .i64 i ∧ i ≤ ix.length ∧ Aside0 (OnlyI w wr h1 h2 n o (.slice A l.length c) ix i)) (fun v15 _ => ix.length - (intOf v15).toNat)
 case atStart => exact ⟨0, rfl, Nat.zero_le _, HI⟩
 case round =>
   obtain ⟨i, rfl, hi, HI⟩ := hrel
   have HLEN : Aside0 (ix.length ≤ 6) := ⟨by rw [HIX.out]; exact ixOf_len f0⟩
   by_cases hlt : i < ix.length
   · have b1 : decide ((i : Int) < (ix.length : Int)) = true := decide_eq_true (by omega)
     have b1' : decide (i < ix.length) = true := decide_eq_true hlt
     obtain ⟨j, hj⟩ : ∃ j, j = ix.getD i 0 := ⟨_, rfl⟩
     have q1 : wr.cell? ⟨h1, i, none⟩ = some (.pointer (some ⟨w.heap.size + 1 + 1, j, none⟩)) := by rw [blk_cell HI.out.r1, ix_get hlt, hj]
     have q2 : wr.cell? ⟨h2, i, none⟩ = some (.pointer (some ⟨w.heap.size, j, none⟩)) := by rw [blk_cell HI.out.r2, ix_get hlt, hj]
     have hj2 := HXL.out i hlt
     rw [← hj] at hj2
     have q3 : wr.cell? ⟨w.heap.size, j, none⟩ = some (.int .i64 (n.getD j 0)) := by rw [blk_cell HI.out.bm, msg_get (by rw [LN.out]; omega)]
     obtain ⟨x, hx⟩ : ∃ x, wr.cell? ⟨w.heap.size + 1 + 1, j, none⟩ = some (.int .i64 x) := ⟨_, by rw [blk_cell HI.out.bo, msg_get (by rw [takeN_len, LO.out]; omega)]⟩
     obtain ⟨y, hy⟩ : ∃ y, y = n.getD j 0 := ⟨_, rfl⟩
     rw [← hy] at q3
     have HJ2 := Aside0.mk hj2
     have HI1 : Aside0 (∀ W, Below wr.heap.size wr W → OnlyI w (W.setCell ⟨w.heap.size + 1 + 1, j, none⟩ (.int .i64 y)) h1 h2 n o (.slice A l.length c) ix (i + 1)) := ⟨fun W hb => by
       rw [hy, hj]
       exact (HI.out.below hb).put hlt (by rw [← hj, LO.out]; omega) H1.out H2.out⟩
     clear hj hj2 hy
     go_wp2_with fail
     refine region_tail (B := _) (w0 := _) 8 [(20, (fun v _ => v = .slice (some ⟨h1, 0, none⟩) ix.length ix.length)), (21, (fun v _ => v = .int .i64 i)), (22, (fun v _ => v = .pointer (some ⟨h1, i, none⟩))), (23, (fun v _ => v = .pointer (some ⟨w.heap.size + 1 + 1, j, none⟩))), (24, (fun v _ => v = .pointer (some ⟨w.heap.size, j, none⟩))), (25, (fun v _ => v = .pointer (some ⟨w.heap.size, j, none⟩))), (26, (fun v _ => v = .int .i64 y)), (27, (fun v _ => v = .pointer (some ⟨w.heap.size + 1 + 1, j, none⟩)))] (by kernel_rfl) (by kernel_rfl) (by decide) (by kernel_rfl) (by kernel_rfl) (by rfl) (show ([20, 21, 22, 23, 24, 25, 26, 27] : List Nat).Nodup by decide) ?hsz ?hst (Below.refl _ _) (Nat.le_refl _) ?step ?fin
     case hsz => exact List.forall_mem_cons.2 ⟨(show 20 < 35 by decide), List.forall_mem_cons.2 ⟨(show 21 < 35 by decide), List.forall_mem_cons.2 ⟨(show 22 < 35 by decide), List.forall_mem_cons.2 ⟨(show 23 < 35 by decide), List.forall_mem_cons.2 ⟨(show 24 < 35 by decide), List.forall_mem_cons.2 ⟨(show 25 < 35 by decide), List.forall_mem_cons.2 ⟨(show 26 < 35 by decide), List.forall_mem_cons.2 ⟨(show 27 < 35 by decide), fun _ h => nomatch h⟩⟩⟩⟩⟩⟩⟩⟩
     case hst => exact List.forall_mem_cons.2 ⟨(fun v w1 w2 hb h => h), List.forall_mem_cons.2 ⟨(fun v w1 w2 hb h => h), List.forall_mem_cons.2 ⟨(fun v w1 w2 hb h => h), List.forall_mem_cons.2 ⟨(fun v w1 w2 hb h => h), List.forall_mem_cons.2 ⟨(fun v w1 w2 hb h => h), List.forall_mem_cons.2 ⟨(fun v w1 w2 hb h => h), List.forall_mem_cons.2 ⟨(fun v w1 w2 hb h => h), List.forall_mem_cons.2 ⟨(fun v w1 w2 hb h => h), fun _ h => nomatch h⟩⟩⟩⟩⟩⟩⟩⟩
     case step =>
       intro i_ o_ e_ ho he a w1_ hs hdf hfr hbl hbs hpre
       match i_, ho, he with
       | 0, ho, he => obtain rfl : o_ = ⟨_, _, _, _, _, _⟩ := (Option.some.inj ho).symm; obtain rfl := Option.some.inj he; clear he; have f4 : a.tmps.getD 4 undef = .slice (some ⟨h1, 0, none⟩) ix.length ix.length := (by rw [Array.getD_eq_getD_getElem?, hfr 4 (show ¬ 4 ∈ ([20, 21, 22, 23, 24, 25, 26, 27] : List Nat) by decide)]; rfl); clear hpre hfr; refine wpOp_value (v := .slice (some ⟨h1, 0, none⟩) ix.length ix.length) ho rfl ?_ ⟨_, rfl, rfl, Below.refl _ _⟩; simp only [execOp, Act.eval, List.map_toArray, List.map_cons, List.map_nil, f4]; first | rfl | (go_simp; done) | (go_simp; rfl) | (go_simp; intro h_; exfalso; omega)
       | 1, ho, he => obtain rfl : o_ = ⟨_, _, _, _, _, _⟩ := (Option.some.inj ho).symm; obtain rfl := Option.some.inj he; clear he; have f5 : a.tmps.getD 5 undef = .int .i64 i := (by rw [Array.getD_eq_getD_getElem?, hfr 5 (show ¬ 5 ∈ ([20, 21, 22, 23, 24, 25, 26, 27] : List Nat) by decide)]; rfl); clear hpre hfr; refine wpOp_value (v := .int .i64 i) ho rfl ?_ ⟨_, rfl, rfl, Below.refl _ _⟩; simp only [execOp, Act.eval, List.map_toArray, List.map_cons, List.map_nil, f5]; first | rfl | (go_simp; done) | (go_simp; rfl) | (go_simp; intro h_; exfalso; omega)
       | 2, ho, he => obtain rfl : o_ = ⟨_, _, _, _, _, _⟩ := (Option.some.inj ho).symm; obtain rfl := Option.some.inj he; clear he; have e20 : a.tmps.getD 20 undef = .slice (some ⟨h1, 0, none⟩) ix.length ix.length := hpre ⟨0, .data⟩ (by simp) rfl _ rfl; have e21 : a.tmps.getD 21 undef = .int .i64 i := hpre ⟨1, .data⟩ (by simp) rfl _ rfl; clear hpre hfr; refine wpOp_value (v := .pointer (some ⟨h1, i, none⟩)) ho rfl ?_ ⟨_, rfl, rfl, Below.refl _ _⟩; simp only [execOp, Act.eval, List.map_toArray, List.map_cons, List.map_nil, e20, e21]; first | rfl | (go_simp; done) | (go_simp; rfl) | (go_simp; intro h_; exfalso; omega)
       | 3, ho, he => obtain rfl : o_ = ⟨_, _, _, _, _, _⟩ := (Option.some.inj ho).symm; obtain rfl := Option.some.inj he; clear he; have e22 : a.tmps.getD 22 undef = .pointer (some ⟨h1, i, none⟩) := hpre ⟨2, .data⟩ (by simp) rfl _ rfl; clear hpre hfr; have k_q1 := (hbl.cell (World.block_lt_of_cell? _ _ q1)).trans q1; refine wpOp_value (v := .pointer (some ⟨w.heap.size + 1 + 1, j, none⟩)) ho rfl ?_ ⟨_, rfl, rfl, Below.refl _ _⟩; simp only [execOp, Act.eval, List.map_toArray, List.map_cons, List.map_nil, e22]; first | rfl | (go_simp; done) | (go_simp; rfl) | (go_simp; intro h_; exfalso; omega)
       | 4, ho, he => obtain rfl : o_ = ⟨_, _, _, _, _, _⟩ := (Option.some.inj ho).symm; obtain rfl := Option.some.inj he; clear he; have f6 : a.tmps.getD 6 undef = .pointer (some ⟨w.heap.size, j, none⟩) := (by rw [Array.getD_eq_getD_getElem?, hfr 6 (show ¬ 6 ∈ ([20, 21, 22, 23, 24, 25, 26, 27] : List Nat) by decide)]; rfl); clear hpre hfr; refine wpOp_value (v := .pointer (some ⟨w.heap.size, j, none⟩)) ho rfl ?_ ⟨_, rfl, rfl, Below.refl _ _⟩; simp only [execOp, Act.eval, List.map_toArray, List.map_cons, List.map_nil, f6]; first | rfl | (go_simp; done) | (go_simp; rfl) | (go_simp; intro h_; exfalso; omega)
       | 5, ho, he => obtain rfl : o_ = ⟨_, _, _, _, _, _⟩ := (Option.some.inj ho).symm; obtain rfl := Option.some.inj he; clear he; have e24 : a.tmps.getD 24 undef = .pointer (some ⟨w.heap.size, j, none⟩) := hpre ⟨4, .data⟩ (by simp) rfl _ rfl; clear hpre hfr; refine wpOp_value (v := .pointer (some ⟨w.heap.size, j, none⟩)) ho rfl ?_ ⟨_, rfl, rfl, Below.refl _ _⟩; simp only [execOp, Act.eval, List.map_toArray, List.map_cons, List.map_nil, e24]; first | rfl | (go_simp; done) | (go_simp; rfl) | (go_simp; intro h_; exfalso; omega)
       | 6, ho, he => obtain rfl : o_ = ⟨_, _, _, _, _, _⟩ := (Option.some.inj ho).symm; obtain rfl := Option.some.inj he; clear he; have e25 : a.tmps.getD 25 undef = .pointer (some ⟨w.heap.size, j, none⟩) := hpre ⟨5, .data⟩ (by simp) rfl _ rfl; clear hpre hfr; have k_q3 := (hbl.cell (World.block_lt_of_cell? _ _ q3)).trans q3; refine wpOp_value (v := .int .i64 y) ho rfl ?_ ⟨_, rfl, rfl, Below.refl _ _⟩; simp only [execOp, Act.eval, List.map_toArray, List.map_cons, List.map_nil, e25]; first | rfl | (go_simp; done) | (go_simp; rfl) | (go_simp; intro h_; exfalso; omega)
       | 7, ho, he => obtain rfl : o_ = ⟨_, _, _, _, _, _⟩ := (Option.some.inj ho).symm; obtain rfl := Option.some.inj he; clear he; have e23 : a.tmps.getD 23 undef = .pointer (some ⟨w.heap.size + 1 + 1, j, none⟩) := hpre ⟨3, .data⟩ (by simp) rfl _ rfl; clear hpre hfr; refine wpOp_value (v := .pointer (some ⟨w.heap.size + 1 + 1, j, none⟩)) ho rfl ?_ ⟨_, rfl, rfl, Below.refl _ _⟩; simp only [execOp, Act.eval, List.map_toArray, List.map_cons, List.map_nil, e23]; first | rfl | (go_simp; done) | (go_simp; rfl) | (go_simp; intro h_; exfalso; omega)
       | n_ + 8, ho, he => simp at he
     case fin =>
       intro xv_ w1_ hbl hbs hx
       simp only [List.forall_mem_cons] at hx
       obtain ⟨x20, x21, x22, x23, x24, x25, x26, x27, _⟩ := hx
       simp only [List.map_cons, List.map_nil, putL, Act.put, List.setIfInBounds_toArray, List.set_cons_zero, List.set_cons_succ, x20, x21, x22, x23, x24, x25, x26, x27]
       simp only [List.drop_succ_cons, List.drop_zero]
       clear x20 x21 x22 x23 x24 x25 x26 x27
       have y4 : w1_.cell? ⟨w.heap.size + 1 + 1, j, none⟩ = some (.int .i64 x) := (hbl.cell (p := ⟨w.heap.size + 1 + 1, j, none⟩) (blk_lt HI.out.bo)).trans hx
       have z4 : w1_.frozen? ⟨w.heap.size + 1 + 1, j, none⟩ = false := blk_frozen (HI.out.below hbl).bo j
       have HI2 := Aside0.mk (HI1.out _ hbl)
       clear hbl
       have hl6 := HLEN.out
       go_wp2_with fail
       go_roundw
       case rel => exact ⟨i + 1, by go_num, by omega, HI2⟩
       case measure => simp [intOf]; omega
   · have b1 : decide ((i : Int) < (ix.length : Int)) = false := decide_eq_false (by omega)
     have b1' : decide (i < ix.length) = false := decide_eq_false hlt
     have hbm := HI.out.bm
     rw [HN.out, msg_lit] at hbm
     have q0 : wr.cell? ⟨w.heap.size, 0, none⟩ = some (.int .i64 f0) := (blk_cell hbm 0).trans rfl
     have q1 : wr.cell? ⟨w.heap.size, 1, none⟩ = some (.int .i64 f1) := (blk_cell hbm 1).trans rfl
     have q2 : wr.cell? ⟨w.heap.size, 2, none⟩ = some (.int .i64 f2) := (blk_cell hbm 2).trans rfl
     have q3 : wr.cell? ⟨w.heap.size, 3, none⟩ = some (.int .i64 f3) := (blk_cell hbm 3).trans rfl
     have q4 : wr.cell? ⟨w.heap.size, 4, none⟩ = some (.int .i64 f4) := (blk_cell hbm 4).trans rfl
     have q5 : wr.cell? ⟨w.heap.size, 5, none⟩ = some (.int .i64 f5) := (blk_cell hbm 5).trans rfl
     have q6 : wr.cell? ⟨w.heap.size, 6, none⟩ = some (.int .i64 f6) := (blk_cell hbm 6).trans rfl
     have q7 : wr.cell? ⟨w.heap.size, 7, none⟩ = some (.int .i64 f7) := (blk_cell hbm 7).trans rfl
     have q8 : wr.cell? ⟨w.heap.size, 8, none⟩ = some (.int .i64 f8) := (blk_cell hbm 8).trans rfl
     have q9 : wr.cell? ⟨w.heap.size, 9, none⟩ = some (.int .i64 f9) := (blk_cell hbm 9).trans rfl
     have q10 : wr.cell? ⟨w.heap.size, 10, none⟩ = some (.int .i64 f10) := (blk_cell hbm 10).trans rfl
     have q11 : wr.cell? ⟨w.heap.size, 11, none⟩ = some (.slice A l.length c) := (blk_cell hbm 11).trans rfl
     have HBO := Aside0.mk (show wr.heap[w.heap.size + 1 + 1]? = some (.cells (msgCells [f0, onlyF f0 1 f1, f2, onlyF f0 3 f3, onlyF f0 4 f4, onlyF f0 5 f5, onlyF f0 6 f6, onlyF f0 7 f7, onlyF f0 8 f8, onlyF f0 9 f9, onlyF f0 10 f10] (.slice none 0 0)) 25 (0, 0)) by
       have h := HI.out.bo
       rw [List.take_of_length_le (by omega), HIX.out, HN.out, HO.out] at h
       rw [← onlyN_is _ _ _ _ _ _ _ _ _ _ _ HX.out]
       exact h)
     have HBR := Aside0.mk HI.out.br
     have HBB := Aside0.mk HI.out.bel
     have HRR := Aside0.mk (Kd.C_below HR.out HI.out.bel)
     clear hbm HI
     go_wp2_with fail
     go_at_call 32
     with_reducible refine (message_data.calls f0 f1 f2 f3 f4 f5 f6 f7 f8 f9 f10 A c l (decide (f0 = 3 ∨ f0 = 4)) _ HRR.out HC.out ?hd).mono ?_
     case hd =>
       unfold message_data.f
       by_cases h3 : f0 = 3
       · simp [h3]
       · rw [if_neg h3]; congr 1; by_cases h4 : f0 = 4 <;> simp [h4, h3]
     rintro e w3 ⟨rfl, hb⟩
     have p11 : w3.cell? ⟨w.heap.size, 11, none⟩ = some (.slice A l.length c) := (hb.cell (p := ⟨w.heap.size, 11, none⟩) (by simp; have := HBB.out.size; have := blk_lt HBR.out; omega)).trans q11
     have HBO1 := Aside0.mk (blk_below HBO.out hb)
     have HBR1 := Aside0.mk (blk_below HBR.out hb)
     have HB3 := Aside0.mk (below_then HBB.out HBB.out.size hb)
     clear hb q0 q1 q2 q3 q4 q5 q6 q7 q8 q9 q10 q11 HRR
     by_cases hd : f0 = 3 ∨ f0 = 4
     · have d0 : decide (f0 = 3 ∨ f0 = 4) = true := decide_eq_true hd
       have ED : Aside0 (onlyD f0 A l.length c = .slice A l.length c) := ⟨if_pos hd⟩
       have p12 : w3.cell? ⟨w.heap.size + 1 + 1, 11, none⟩ = some (.slice none 0 0) := (blk_cell (msg_lit .. ▸ HBO1.out) 11).trans rfl
       have z12 : w3.frozen? ⟨w.heap.size + 1 + 1, 11, none⟩ = false := blk_frozen HBO1.out 11
       clear hd
       go_upto_region 10 with fail
       obtain ⟨w4, hw4⟩ : ∃ W, W = w3.setCell ⟨w.heap.size + 1 + 1, 11, none⟩ (.slice A l.length c) := ⟨_, rfl⟩
       rw [← hw4]
       have HBO4 := Aside0.mk (show w4.heap[w.heap.size + 1 + 1]? = some (.cells (msgCells [f0, (onlyF f0 1 f1), f2, (onlyF f0 3 f3), (onlyF f0 4 f4), (onlyF f0 5 f5), (onlyF f0 6 f6), (onlyF f0 7 f7), (onlyF f0 8 f8), (onlyF f0 9 f9), (onlyF f0 10 f10)] (.slice A l.length c)) 25 (0, 0)) by rw [hw4]; exact blk_put HBO1.out _ _ (msg_setD rfl))
       have HBR4 := Aside0.mk (show w4.heap[w.heap.size + 1]? = some (.cells (msgCells [0, 0, 0, 0, 0, 0, 0, 0, 0, 0, 0] (.slice none 0 0)) 25 (0, 0)) by rw [hw4]; exact blk_far HBR1.out (by simp) _)
       have HB4 := Aside0.mk (show Below w.heap.size w w4 by rw [hw4]; exact below_set HB3.out (by omega))
       clear hw4 p12 z12 p11 HBO1 HBR1 HB3 HBO HBR HBB
       have hbo4 := HBO4.out
       have hbr4 := HBR4.out
       rw [msg_lit] at hbo4 hbr4
       have r0 : w4.cell? ⟨w.heap.size + 1 + 1, 0, none⟩ = some (.int .i64 f0) := (blk_cell hbo4 0).trans rfl
       have r1 : w4.cell? ⟨w.heap.size + 1 + 1, 1, none⟩ = some (.int .i64 (onlyF f0 1 f1)) := (blk_cell hbo4 1).trans rfl
       have r2 : w4.cell? ⟨w.heap.size + 1 + 1, 2, none⟩ = some (.int .i64 f2) := (blk_cell hbo4 2).trans rfl
       have r3 : w4.cell? ⟨w.heap.size + 1 + 1, 3, none⟩ = some (.int .i64 (onlyF f0 3 f3)) := (blk_cell hbo4 3).trans rfl
       have r4 : w4.cell? ⟨w.heap.size + 1 + 1, 4, none⟩ = some (.int .i64 (onlyF f0 4 f4)) := (blk_cell hbo4 4).trans rfl
       have r5 : w4.cell? ⟨w.heap.size + 1 + 1, 5, none⟩ = some (.int .i64 (onlyF f0 5 f5)) := (blk_cell hbo4 5).trans rfl
       have r6 : w4.cell? ⟨w.heap.size + 1 + 1, 6, none⟩ = some (.int .i64 (onlyF f0 6 f6)) := (blk_cell hbo4 6).trans rfl
       have r7 : w4.cell? ⟨w.heap.size + 1 + 1, 7, none⟩ = some (.int .i64 (onlyF f0 7 f7)) := (blk_cell hbo4 7).trans rfl
       have r8 : w4.cell? ⟨w.heap.size + 1 + 1, 8, none⟩ = some (.int .i64 (onlyF f0 8 f8)) := (blk_cell hbo4 8).trans rfl
       have r9 : w4.cell? ⟨w.heap.size + 1 + 1, 9, none⟩ = some (.int .i64 (onlyF f0 9 f9)) := (blk_cell hbo4 9).trans rfl
       have r10 : w4.cell? ⟨w.heap.size + 1 + 1, 10, none⟩ = some (.int .i64 (onlyF f0 10 f10)) := (blk_cell hbo4 10).trans rfl
       have r11 : w4.cell? ⟨w.heap.size + 1 + 1, 11, none⟩ = some (.slice A l.length c) := (blk_cell hbo4 11).trans rfl
       have t0 : w4.cell? ⟨w.heap.size + 1, 0, none⟩ = some (.int .i64 0) := (blk_cell hbr4 0).trans rfl
       have u0_ : w4.frozen? ⟨w.heap.size + 1, 0, none⟩ = false := blk_frozen HBR4.out 0
       have t1 : w4.cell? ⟨w.heap.size + 1, 1, none⟩ = some (.int .i64 0) := (blk_cell hbr4 1).trans rfl
       have u1_ : w4.frozen? ⟨w.heap.size + 1, 1, none⟩ = false := blk_frozen HBR4.out 1
       have t2 : w4.cell? ⟨w.heap.size + 1, 2, none⟩ = some (.int .i64 0) := (blk_cell hbr4 2).trans rfl
       have u2_ : w4.frozen? ⟨w.heap.size + 1, 2, none⟩ = false := blk_frozen HBR4.out 2
       have t3 : w4.cell? ⟨w.heap.size + 1, 3, none⟩ = some (.int .i64 0) := (blk_cell hbr4 3).trans rfl
       have u3_ : w4.frozen? ⟨w.heap.size + 1, 3, none⟩ = false := blk_frozen HBR4.out 3
       have t4 : w4.cell? ⟨w.heap.size + 1, 4, none⟩ = some (.int .i64 0) := (blk_cell hbr4 4).trans rfl
       have u4_ : w4.frozen? ⟨w.heap.size + 1, 4, none⟩ = false := blk_frozen HBR4.out 4
       have t5 : w4.cell? ⟨w.heap.size + 1, 5, none⟩ = some (.int .i64 0) := (blk_cell hbr4 5).trans rfl
       have u5_ : w4.frozen? ⟨w.heap.size + 1, 5, none⟩ = false := blk_frozen HBR4.out 5
       have t6 : w4.cell? ⟨w.heap.size + 1, 6, none⟩ = some (.int .i64 0) := (blk_cell hbr4 6).trans rfl
       have u6_ : w4.frozen? ⟨w.heap.size + 1, 6, none⟩ = false := blk_frozen HBR4.out 6
       have t7 : w4.cell? ⟨w.heap.size + 1, 7, none⟩ = some (.int .i64 0) := (blk_cell hbr4 7).trans rfl
       have u7_ : w4.frozen? ⟨w.heap.size + 1, 7, none⟩ = false := blk_frozen HBR4.out 7
       have t8 : w4.cell? ⟨w.heap.size + 1, 8, none⟩ = some (.int .i64 0) := (blk_cell hbr4 8).trans rfl
       have u8_ : w4.frozen? ⟨w.heap.size + 1, 8, none⟩ = false := blk_frozen HBR4.out 8
       have t9 : w4.cell? ⟨w.heap.size + 1, 9, none⟩ = some (.int .i64 0) := (blk_cell hbr4 9).trans rfl
       have u9_ : w4.frozen? ⟨w.heap.size + 1, 9, none⟩ = false := blk_frozen HBR4.out 9
       have t10 : w4.cell? ⟨w.heap.size + 1, 10, none⟩ = some (.int .i64 0) := (blk_cell hbr4 10).trans rfl
       have u10_ : w4.frozen? ⟨w.heap.size + 1, 10, none⟩ = false := blk_frozen HBR4.out 10
       have t11 : w4.cell? ⟨w.heap.size + 1, 11, none⟩ = some (.slice none 0 0) := (blk_cell hbr4 11).trans rfl
       have u11_ : w4.frozen? ⟨w.heap.size + 1, 11, none⟩ = false := blk_frozen HBR4.out 11
       clear hbo4 hbr4
       go_wp2_with fail
       refine bodyPost_ret (results_cell_row rfl _ _ (w.heap.size + 1) 25 #[.int .i64 f0, .int .i64 (onlyF f0 1 f1), .int .i64 f2, .int .i64 (onlyF f0 3 f3), .int .i64 (onlyF f0 4 f4), .int .i64 (onlyF f0 5 f5), .int .i64 (onlyF f0 6 f6), .int .i64 (onlyF f0 7 f7), .int .i64 (onlyF f0 8 f8), .int .i64 (onlyF f0 9 f9), .int .i64 (onlyF f0 10 f10), .slice A l.length c] (0, 0) _ rfl (msg_fill HBR4.out f0 (onlyF f0 1 f1) f2 (onlyF f0 3 f3) (onlyF f0 4 f4) (onlyF f0 5 f5) (onlyF f0 6 f6) (onlyF f0 7 f7) (onlyF f0 8 f8) (onlyF f0 9 f9) (onlyF f0 10 f10) (.slice A l.length c)) Try.underlying25 rfl (by kernel_rfl)) rfl ?_
       rw [ED.out]
       exact ⟨rfl, msg_fillB HB4.out (by omega) f0 (onlyF f0 1 f1) f2 (onlyF f0 3 f3) (onlyF f0 4 f4) (onlyF f0 5 f5) (onlyF f0 6 f6) (onlyF f0 7 f7) (onlyF f0 8 f8) (onlyF f0 9 f9) (onlyF f0 10 f10) (.slice A l.length c)⟩
     · have d0 : decide (f0 = 3 ∨ f0 = 4) = false := decide_eq_false hd
       have ED : Aside0 (onlyD f0 A l.length c = .slice none 0 0) := ⟨if_neg hd⟩
       clear hd
       go_upto_region 10 with fail
       have HBO4 := HBO1
       have HBR4 := HBR1
       have HB4 := HB3
       obtain ⟨w4, hw4⟩ : ∃ W, W = w3 := ⟨_, rfl⟩
       subst hw4
       clear p11 HBO1 HBR1 HB3 HBO HBR HBB
       have hbo4 := HBO4.out
       have hbr4 := HBR4.out
       rw [msg_lit] at hbo4 hbr4
       have r0 : w4.cell? ⟨w.heap.size + 1 + 1, 0, none⟩ = some (.int .i64 f0) := (blk_cell hbo4 0).trans rfl
       have r1 : w4.cell? ⟨w.heap.size + 1 + 1, 1, none⟩ = some (.int .i64 (onlyF f0 1 f1)) := (blk_cell hbo4 1).trans rfl
       have r2 : w4.cell? ⟨w.heap.size + 1 + 1, 2, none⟩ = some (.int .i64 f2) := (blk_cell hbo4 2).trans rfl
       have r3 : w4.cell? ⟨w.heap.size + 1 + 1, 3, none⟩ = some (.int .i64 (onlyF f0 3 f3)) := (blk_cell hbo4 3).trans rfl
       have r4 : w4.cell? ⟨w.heap.size + 1 + 1, 4, none⟩ = some (.int .i64 (onlyF f0 4 f4)) := (blk_cell hbo4 4).trans rfl
       have r5 : w4.cell? ⟨w.heap.size + 1 + 1, 5, none⟩ = some (.int .i64 (onlyF f0 5 f5)) := (blk_cell hbo4 5).trans rfl
       have r6 : w4.cell? ⟨w.heap.size + 1 + 1, 6, none⟩ = some (.int .i64 (onlyF f0 6 f6)) := (blk_cell hbo4 6).trans rfl
       have r7 : w4.cell? ⟨w.heap.size + 1 + 1, 7, none⟩ = some (.int .i64 (onlyF f0 7 f7)) := (blk_cell hbo4 7).trans rfl
       have r8 : w4.cell? ⟨w.heap.size + 1 + 1, 8, none⟩ = some (.int .i64 (onlyF f0 8 f8)) := (blk_cell hbo4 8).trans rfl
       have r9 : w4.cell? ⟨w.heap.size + 1 + 1, 9, none⟩ = some (.int .i64 (onlyF f0 9 f9)) := (blk_cell hbo4 9).trans rfl
       have r10 : w4.cell? ⟨w.heap.size + 1 + 1, 10, none⟩ = some (.int .i64 (onlyF f0 10 f10)) := (blk_cell hbo4 10).trans rfl
       have r11 : w4.cell? ⟨w.heap.size + 1 + 1, 11, none⟩ = some (.slice none 0 0) := (blk_cell hbo4 11).trans rfl
       have t0 : w4.cell? ⟨w.heap.size + 1, 0, none⟩ = some (.int .i64 0) := (blk_cell hbr4 0).trans rfl
       have u0_ : w4.frozen? ⟨w.heap.size + 1, 0, none⟩ = false := blk_frozen HBR4.out 0
       have t1 : w4.cell? ⟨w.heap.size + 1, 1, none⟩ = some (.int .i64 0) := (blk_cell hbr4 1).trans rfl
       have u1_ : w4.frozen? ⟨w.heap.size + 1, 1, none⟩ = false := blk_frozen HBR4.out 1
       have t2 : w4.cell? ⟨w.heap.size + 1, 2, none⟩ = some (.int .i64 0) := (blk_cell hbr4 2).trans rfl
       have u2_ : w4.frozen? ⟨w.heap.size + 1, 2, none⟩ = false := blk_frozen HBR4.out 2
       have t3 : w4.cell? ⟨w.heap.size + 1, 3, none⟩ = some (.int .i64 0) := (blk_cell hbr4 3).trans rfl
       have u3_ : w4.frozen? ⟨w.heap.size + 1, 3, none⟩ = false := blk_frozen HBR4.out 3
       have t4 : w4.cell? ⟨w.heap.size + 1, 4, none⟩ = some (.int .i64 0) := (blk_cell hbr4 4).trans rfl
       have u4_ : w4.frozen? ⟨w.heap.size + 1, 4, none⟩ = false := blk_frozen HBR4.out 4
       have t5 : w4.cell? ⟨w.heap.size + 1, 5, none⟩ = some (.int .i64 0) := (blk_cell hbr4 5).trans rfl
       have u5_ : w4.frozen? ⟨w.heap.size + 1, 5, none⟩ = false := blk_frozen HBR4.out 5
       have t6 : w4.cell? ⟨w.heap.size + 1, 6, none⟩ = some (.int .i64 0) := (blk_cell hbr4 6).trans rfl
       have u6_ : w4.frozen? ⟨w.heap.size + 1, 6, none⟩ = false := blk_frozen HBR4.out 6
       have t7 : w4.cell? ⟨w.heap.size + 1, 7, none⟩ = some (.int .i64 0) := (blk_cell hbr4 7).trans rfl
       have u7_ : w4.frozen? ⟨w.heap.size + 1, 7, none⟩ = false := blk_frozen HBR4.out 7
       have t8 : w4.cell? ⟨w.heap.size + 1, 8, none⟩ = some (.int .i64 0) := (blk_cell hbr4 8).trans rfl
       have u8_ : w4.frozen? ⟨w.heap.size + 1, 8, none⟩ = false := blk_frozen HBR4.out 8
       have t9 : w4.cell? ⟨w.heap.size + 1, 9, none⟩ = some (.int .i64 0) := (blk_cell hbr4 9).trans rfl
       have u9_ : w4.frozen? ⟨w.heap.size + 1, 9, none⟩ = false := blk_frozen HBR4.out 9
       have t10 : w4.cell? ⟨w.heap.size + 1, 10, none⟩ = some (.int .i64 0) := (blk_cell hbr4 10).trans rfl
       have u10_ : w4.frozen? ⟨w.heap.size + 1, 10, none⟩ = false := blk_frozen HBR4.out 10
       have t11 : w4.cell? ⟨w.heap.size + 1, 11, none⟩ = some (.slice none 0 0) := (blk_cell hbr4 11).trans rfl
       have u11_ : w4.frozen? ⟨w.heap.size + 1, 11, none⟩ = false := blk_frozen HBR4.out 11
       clear hbo4 hbr4
       go_wp2_with fail
       refine bodyPost_ret (results_cell_row rfl _ _ (w.heap.size + 1) 25 #[.int .i64 f0, .int .i64 (onlyF f0 1 f1), .int .i64 f2, .int .i64 (onlyF f0 3 f3), .int .i64 (onlyF f0 4 f4), .int .i64 (onlyF f0 5 f5), .int .i64 (onlyF f0 6 f6), .int .i64 (onlyF f0 7 f7), .int .i64 (onlyF f0 8 f8), .int .i64 (onlyF f0 9 f9), .int .i64 (onlyF f0 10 f10), .slice none 0 0] (0, 0) _ rfl (msg_fill HBR4.out f0 (onlyF f0 1 f1) f2 (onlyF f0 3 f3) (onlyF f0 4 f4) (onlyF f0 5 f5) (onlyF f0 6 f6) (onlyF f0 7 f7) (onlyF f0 8 f8) (onlyF f0 9 f9) (onlyF f0 10 f10) (.slice none 0 0)) Try.underlying25 rfl (by kernel_rfl)) rfl ?_
       rw [ED.out]
       exact ⟨rfl, msg_fillB HB4.out (by omega) f0 (onlyF f0 1 f1) f2 (onlyF f0 3 f3) (onlyF f0 4 f4) (onlyF f0 5 f5) (onlyF f0 6 f6) (onlyF f0 7 f7) (onlyF f0 8 f8) (onlyF f0 9 f9) (onlyF f0 10 f10) (.slice none 0 0)⟩
end Go.Proofs.Ytkddlhcpplkpbaa.G
end
section
namespace Go.Proofs.Ytkddlhcpplkpbaa.G
open WB Go.RowKit Go.Proofs.YtkddlhcpplkpbaaW.PrintWords Go.Proofs.YtkddlhcpplkpbaaW.PrintLast Go.Proofs.YtkddlhcpplkpbaaW.PrintMore
attribute [local go_sem] max2_int min2_int max_two min_two max_three min_three max_four min_four   -- for this text's walks alone
def varint_Get.f (l0 : List Int) (a1 : Int) : Option (Int × Int × Int) := if octetsOk l0 = true then some (getAt l0 a1) else none
set_option maxHeartbeats 2000000 in
set_option maxRecDepth 100000 in
theorem varint_Get.calls (A0 : Option Addr) (c0 : Nat) (l0 : List Int) (a1 : Int) (r1 : Int) (r2 : Int) (r3 : Int) (w : World) (hr0 : Kd.C (Kd.int .u8) w A0 l0.length l0) (hc0 : l0.length ≤ c0) (h : varint_Get.f l0 a1 = some (r1, r2, r3)) :
   Calls Try.prog 52 #[.slice A0 l0.length c0, .int .i64 a1] w fun e w' => e = .returned (.tuple #[.int .u64 r1, .int .i64 r2, .int .i64 r3]) ∧ Drawn0 w w' := by
 unfold varint_Get.f at h
 split at h
 case isFalse => cases h
 case isTrue wf =>
 have hget := Option.some.inj h
 clear h
 by_cases hneg : a1 < 0
 · have e : getAt l0 a1 = (0, 0, 4) := by unfold getAt; rw [if_pos (Or.inl hneg)]
   rw [e] at hget
   obtain ⟨rfl, rfl, rfl⟩ : 0 = r1 ∧ 0 = r2 ∧ 4 = r3 := by simpa using hget
   have b0 : decide (a1 < 0) = true := decide_eq_true hneg
   clear hr0 hc0 hget e hneg wf
   go_enter Try.func52, Try.ntmps52
   go_wp2
   go_ret3
   exact ⟨rfl, Drawn0.refl _⟩
 by_cases hbig : (l0.length : Int) < a1
 · have e : getAt l0 a1 = (0, 0, 4) := by unfold getAt; rw [if_pos (Or.inr hbig)]
   rw [e] at hget
   obtain ⟨rfl, rfl, rfl⟩ : 0 = r1 ∧ 0 = r2 ∧ 4 = r3 := by simpa using hget
   have b0 : decide (a1 < 0) = false := decide_eq_false hneg
   have b1 : decide ((l0.length : Int) < a1) = true := decide_eq_true hbig
   clear hr0 hc0 hget e hneg wf hbig
   go_enter Try.func52, Try.ntmps52
   go_wp2
   go_ret3
   exact ⟨rfl, Drawn0.refl _⟩
 obtain ⟨n, rfl⟩ := Int.eq_ofNat_of_zero_le (Int.not_lt.mp hneg)
 have hn : n ≤ l0.length := by omega
 obtain ⟨i08, hi08, _, hsz8, _⟩ := info_parts info5
 obtain ⟨A8, hcut8, hA8, hC8⟩ := print_drop_of (P := Try.prog) (Value.int .u8) 0 22 5 .i64 Try.underlying22 hi08 hsz8 A0 c0 l0 (n : Int) (by omega) (by omega) hc0
 simp only [Int.toNat_natCast] at hcut8 hA8 hC8
 have HR := Aside0.mk (Kd.C_of_reads (h1 := fun _ => rfl) (hA8 _ (Kd.reads_of_C hr0)))
 have hget' : getB (l0.drop n) 0 0 = getB (l0.drop n) 0 0 := rfl
 obtain ⟨xs, hxs⟩ : ∃ xs, xs = l0.drop n := ⟨_, rfl⟩
 rw [← hxs] at hcut8 HR
 have HW : Aside0 (octetsOk xs = true) := ⟨by
   rw [hxs]; unfold octetsOk at wf ⊢; rw [List.all_eq_true] at wf ⊢; exact fun x hx => wf x (List.mem_of_mem_drop hx)⟩
 have HG : Aside0 ((match getB xs 0 0 with | (q, m, 0) => (q, (n : Int) + m, 0) | (_, _, e) => (0, 0, e)) = (r1, r2, r3)) := ⟨by
   rw [← hget]; unfold getAt; rw [if_neg (by omega), hxs]; rfl⟩
 have hlen : xs.length ≤ 9223372036854775807 := HR.out.2.1
 have HL : Aside0 ((n : Int) + xs.length = l0.length) := ⟨by rw [hxs, List.length_drop]; omega⟩
 have hlen0 : l0.length ≤ 9223372036854775807 := hr0.2.1
 have b0 : decide ((n : Int) < 0) = false := decide_eq_false hneg
 have b1 : decide (l0.length < n) = false := decide_eq_false (by omega)
 clear hr0 hc0 hget hget' hneg wf hbig hA8 hC8 hi08 hsz8 hxs hn
 go_enter Try.func52, Try.ntmps52
 go_wp2
 go_loop [7, 22] (fun v7 v22 => ∃ (i : Nat) (acc : Int), v7 = .int .u64 acc ∧ v22 = .int .i64 i ∧ i ≤ 9 ∧ Aside0 (i ≤ xs.length) ∧ 0 ≤ acc ∧ Aside0 (acc < 128 ^ i) ∧ Aside0 (getB xs 0 0 = getB (xs.drop i) i acc)) (fun _ i => xs.length + 10 - (intOf i).toNat)
 case atStart => exact ⟨0, 0, rfl, rfl, by omega, ⟨by omega⟩, by omega, ⟨by simp⟩, ⟨by simp⟩⟩
 case round =>
   obtain ⟨i, acc, rfl, rfl, hi, HI, hacc, HA, HB⟩ := hrel
   by_cases hlt : i < xs.length
   · obtain ⟨ad, e1, hcell⟩ := Kd.at_int HR.out (i : Int) (by omega) (by omega)
     simp only [Int.toNat_natCast] at hcell
     cases e1
     have hw := octetsOk_get HW.out i
     have hrd : rd xs (i : Int) = xs.getD i 0 := by simp [rd]
     rw [hrd] at hcell
     obtain ⟨c, hc⟩ : ∃ c, c = xs.getD i 0 := ⟨_, rfl⟩
     rw [← hc] at hcell hw
     have HD : Aside0 (xs.drop i = c :: xs.drop (i + 1)) := ⟨by
       rw [List.drop_eq_getElem_cons hlt, hc, List.getD_eq_getElem?_getD, List.getElem?_eq_getElem hlt]; rfl⟩
     have h0 : 0 ≤ c := hw.1
     have h1 : c < 256 := hw.2
     have hsum : (n : Int) + i + 1 ≤ (l0.length : Int) := by have := HL.out; omega
     have hand := and127_ c h0 h1
     clear hw hrd hc
     have b2 : decide ((i : Int) < xs.length) = true := decide_eq_true (by omega)
     have HJ := fun h9 => Aside0.mk (or_join_ i acc (c % 128) hacc HA.out (by omega) (by omega) hi h9)
     have HN : Aside0 (getB (xs.drop i) i acc = if c < 128 ∧ (0 < c ∨ i = 0) ∧ (i < 9 ∨ c = 1) then (acc + c * 128 ^ i, i + 1, 0) else if c < 128 ∨ i = 9 then (0, 0, 21) else getB (xs.drop (i + 1)) (i + 1) (acc + (c % 128) * 128 ^ i)) := ⟨by rw [HD.out]; rfl⟩
     by_cases hS : c < 128 ∧ (0 < c ∨ i = 0) ∧ (i < 9 ∨ c = 1)
     · have hJ := (HJ (by omega)).out.1
       have HE : Aside0 ((acc + c % 128 * 128 ^ i, (n : Int) + i + 1, 0) = (r1, r2, r3)) := ⟨by
         have := HG.out
         rw [HB.out, HN.out, if_pos hS] at this
         simp only at this
         rw [← this, show c % 128 = c by omega]
         rw [show (n : Int) + ((i + 1 : Nat) : Int) = n + i + 1 by omega]⟩
       have HJ' := Aside0.mk hJ
       clear hJ HJ HN HB HG HD
       obtain ⟨hS1, hS2, hS3⟩ := hS
       go_wp2
       all_goals first | (exfalso; omega) | (exfalso; simp only [beq_eq_false_iff_ne, ne_eq, beq_iff_eq] at *; omega) | skip
       all_goals
         have hE := HE.out
         simp only [Prod.mk.injEq] at hE
         obtain ⟨e1, e2, e3⟩ := hE
         subst e1 e2 e3
         go_ret3
         exact ⟨by simp [HJ'.out], Drawn0.refl _⟩
     · by_cases hE : c < 128 ∨ i = 9
       · have HE : Aside0 ((0, 0, 21) = (r1, r2, r3)) := ⟨by
          have := HG.out
          rw [HB.out, HN.out, if_neg hS, if_pos hE] at this
          simpa using this⟩
         clear HJ HN HB HG HD
         go_wp2
         all_goals first | (exfalso; omega) | (exfalso; simp only [beq_eq_false_iff_ne, ne_eq, beq_iff_eq] at *; omega) | skip
         all_goals
          have hE := HE.out
          simp only [Prod.mk.injEq] at hE
          obtain ⟨e1, e2, e3⟩ := hE
          subst e1 e2 e3
          go_ret3
          exact ⟨rfl, Drawn0.refl _⟩
       · have hJ := (HJ (by omega)).out
         have HE : Aside0 (getB xs 0 0 = getB (xs.drop (i + 1)) (i + 1) (acc + c % 128 * 128 ^ i)) := ⟨by rw [HB.out, HN.out, if_neg hS, if_neg hE]⟩
         have HJ' := Aside0.mk hJ
         clear hJ HJ HN HB HD
         have hi9 : i < 9 := by omega
         have hc128 : 128 ≤ c := by omega
         clear hS hE
         go_wp2
         go_round
         case rel => exact ⟨i + 1, acc + c % 128 * 128 ^ i, by rw [HJ'.out.1], by go_num, by omega, ⟨by omega⟩, HJ'.out.2.2, ⟨HJ'.out.2.1 hi9⟩, HE⟩
         case measure => simp [intOf]; omega
   · have b2 : decide ((i : Int) < xs.length) = false := decide_eq_false (by omega)
     have HE : Aside0 ((0, 0, 8) = (r1, r2, r3)) := ⟨by
       have := HG.out
       rw [HB.out, List.drop_of_length_le (by omega)] at this
       simpa [getB] using this⟩
     clear HB HG
     go_wp2
     have hE := HE.out
     simp only [Prod.mk.injEq] at hE
     obtain ⟨e1, e2, e3⟩ := hE
     subst e1 e2 e3
     go_ret3
     exact ⟨rfl, Drawn0.refl _⟩
end Go.Proofs.Ytkddlhcpplkpbaa.G
end
section
namespace Go.Proofs.Ytkddlhcpplkpbaa.G
open WB Go.RowKit Go.Proofs.YtkddlhcpplkpbaaW.PrintWords Go.Proofs.YtkddlhcpplkpbaaW.PrintLast Go.Proofs.YtkddlhcpplkpbaaW.PrintMore
attribute [local go_sem] max2_int min2_int max_two min_two max_three min_three max_four min_four   -- for this text's walks alone
/-- need panics with a message's fault. -/
def faultP (e : Int) : List PanicEntry := [{ v := .iface 26 (.int .i64 e), recovered := false }]
set_option maxHeartbeats 2000000 in
set_option maxRecDepth 100000 in
theorem message_need (b : Bool) (e : Int) (w : World) : Calls Try.prog 53 #[.bool b, .int .i64 e] w fun x w' => x = (if b = true then .returned (.tuple #[]) else .panicked (faultP e)) ∧ w' = w := by
 have hp : ∀ W, (Instr.panic (.iface 26 (.int .i64 e))).run Try.prog W = .halt (.panic (.iface 26 (.int .i64 e))) W := fun _ => rfl
 go_enter Try.func53, Try.ntmps53
 cases b with
 | true =>
  go_wp2_with fail
  first | go_end0 | ((try simp only [Exit.inBlock, Exit.then]); refine bodyPost_ret (results_none rfl _ _ _) rfl ?_)
  exact ⟨rfl, rfl⟩
 | false =>
  go_wp2_with fail
  exact ⟨rfl, rfl, rfl⟩
end Go.Proofs.Ytkddlhcpplkpbaa.G
end
section
namespace Go.Proofs.Ytkddlhcpplkpbaa.G
open WB Go.RowKit Go.Proofs.YtkddlhcpplkpbaaW.PrintWords Go.Proofs.YtkddlhcpplkpbaaW.PrintLast Go.Proofs.YtkddlhcpplkpbaaW.PrintMore
attribute [local go_sem] max2_int min2_int max_two min_two max_three min_three max_four min_four   -- for this text's walks alone
theorem info_ptr : (Try.prog.info? 66).map (fun i => (i.zero, i.size, i.bytes)) = some (some (Value.pointer none), (Kd.raw 1).sz, 8) := by kernel_rfl
set_option maxHeartbeats 4000000 in
set_option maxRecDepth 100000 in
/-- Room for so many pointers. -/
theorem grow_ptrs (n : Nat) (w : World) (h0 : 0 < n) (h1 : n ≤ 1000) :
  Calls Try.prog 69 #[.slice none 0 0, .int .i64 n] w fun e w' => ∃ v, e = .returned v ∧ Kd.R (Kd.raw 1) 66 w' w.heap.size (fun _ => True) v ([] : List (List Value)) ∧ Below w.heap.size w w' := by
 have b0 : decide ((n : Int) < 0) = false := decide_eq_false (by omega)
 have b1 : decide ((n : Int) > 0) = true := decide_eq_true (by omega)
 have b2 : decide (0 < (n : Int)) = true := decide_eq_true (by omega)
 have b3 : decide (n > 0) = true := decide_eq_true (by omega)
 go_enter Try.func69, Try.ntmps69
 go_wp2_with (first | ((with_reducible refine gate_builtin (b := .append) (xs := #[.tmp 20, .tmp 21]) rfl ?_); at_builtin; go_loud (refine Kd.R_append_zeros (Kd.raw 1) (w0 := w) w.heap.size rfl (.tmp 20) (.tmp 21) 63 3 66 (.pointer none) 8 rfl Try.underlying63 Try.underlying3 info_ptr rfl (by decide) (by omega) (.slice none 0 0) ([] : List (List Value)) [.pointer none] (n : Int) (fun _ => True) rfl rfl ⟨rfl, rfl, by intro u hu; rw [List.mem_singleton.1 hu]; rfl⟩ (fun _ _ => trivial) (Kd.R_nil _ _ _ _ _) (by omega) (Below.refl _ _) (Nat.le_refl _) (by simp; omega) ?_); intro v1 w1 ho hb hg hat; have HO := Aside0.mk ho; have HB := Aside0.mk hb; clear ho hb hg hat; obtain ⟨Ao, co, eo⟩ := Kd.R_slice HO.out; subst eo))
 go_ret
 exact ⟨_, rfl, Kd.R_take (m := 0) HO.out (Nat.zero_le _), HB.out⟩
end Go.Proofs.Ytkddlhcpplkpbaa.G
end
section
namespace Go.Proofs.Ytkddlhcpplkpbaa.G
open WB Go.RowKit Go.Proofs.YtkddlhcpplkpbaaW.PrintWords Go.Proofs.YtkddlhcpplkpbaaW.PrintLast Go.Proofs.YtkddlhcpplkpbaaW.PrintMore
attribute [local go_sem] max2_int min2_int max_two min_two max_three min_three max_four min_four   -- for this text's walks alone
theorem flat_take {α : Type} (l : List (List α)) (i : Nat) (h : i < l.length) : (l.take (i + 1)).flatten = (l.take i).flatten ++ l.getD i [] := by
 rw [List.take_succ_eq_append_getElem h, List.flatten_append]
 simp [List.getD_eq_getElem?_getD, h]
theorem flat_le {α : Type} (l : List (List α)) (i : Nat) : (l.take i).flatten.length ≤ l.flatten.length := by
 have h : l.flatten = (l.take i).flatten ++ (l.drop i).flatten := by rw [← List.flatten_append, List.take_append_drop]
 rw [h, List.length_append]
 omega
set_option maxHeartbeats 4000000 in
set_option maxRecDepth 100000 in
/-- Rows of pointers, put one behind the other. -/
theorem concat_ptrs (A : Option Addr) (c : Nat) (l : List (List (List Value))) (w : World) (hr : Kd.C (Kd.slice 66 (Kd.raw 1)) w A l.length l) (hc : l.length ≤ c) (h0 : 0 < l.flatten.length) (h1 : l.flatten.length ≤ 1000) :
  Calls Try.prog 54 #[.slice A l.length c] w fun e w' => ∃ v, e = .returned v ∧ Kd.R (Kd.raw 1) 66 w' w.heap.size (fun _ => True) v l.flatten ∧ Below w.heap.size w w' := by
 have HR := Aside0.mk hr
 have HC := Aside0.mk hc
 have H0 := Aside0.mk h0
 have H1 := Aside0.mk h1
 have hm : l.length ≤ 9223372036854775807 := hr.2.1
 clear hr hc h0 h1
 go_enter Try.func54, Try.ntmps54
 go_wp2_with fail
 go_loopw [3, 11] (fun v3 v11 wr => ∃ i : Nat, v11 = .int .i64 i ∧ i ≤ l.length ∧ v3 = .int .i64 ((l.take i).flatten.length : Nat) ∧ wr = w) (fun _ v11 _ => l.length - (intOf v11).toNat)
 case atStart => exact ⟨0, rfl, Nat.zero_le _, rfl, rfl⟩
 case round =>
  obtain ⟨i, rfl, hi, rfl, hw⟩ := hrel
  obtain rfl := hw.symm
  clear hw
  by_cases hlt : i < l.length
  · have b1 : decide ((i : Int) < (l.length : Int)) = true := decide_eq_true (by omega)
    have b1' : decide (i < l.length) = true := decide_eq_true hlt
    obtain ⟨ad, A2, c2, e1, q0, q1, q2⟩ := at_rows HR.out i hlt
    have hft := flat_take l i hlt
    have hle := flat_le l (i + 1)
    rw [hft] at hle
    have hl3 := H1.out
    rw [List.length_append] at hle
    obtain ⟨s, hs⟩ : ∃ s, s = (l.take i).flatten.length := ⟨_, rfl⟩
    have HS2 : Aside0 ((l.take (i + 1)).flatten.length = s + (l.getD i []).length) := ⟨by rw [hft, List.length_append, hs]⟩
    rw [← hs] at hle ⊢
    obtain ⟨p, hp⟩ : ∃ p, p = l.getD i [] := ⟨_, rfl⟩
    rw [← hp] at q0 q1 q2 hle
    have HS3 : Aside0 (((l.take (i + 1)).flatten.length : Nat) = s + p.length) := ⟨by rw [HS2.out, hp]⟩
    have hsp : s + p.length ≤ 1000 := by omega
    have bn : decide ((s : Int) + (p.length : Int) < 0) = false := decide_eq_false (by omega)
    subst e1
    clear hft hle hs hp HS2
    go_wp2_with fail
    go_roundw
    case rel => exact ⟨i + 1, by go_num, by omega, by rw [HS3.out]; go_num, by first | rfl | trivial⟩
    case measure => simp [intOf]; omega
  · have b1 : decide ((i : Int) < (l.length : Int)) = false := decide_eq_false (by omega)
    have b1' : decide (i < l.length) = false := decide_eq_false hlt
    obtain ⟨tot, htot⟩ : ∃ t, t = l.flatten.length := ⟨_, rfl⟩
    have hft : (l.take i).flatten.length = tot := by rw [List.take_of_length_le (by omega), htot]
    have T0 : Aside0 (0 < tot) := ⟨by rw [htot]; exact H0.out⟩
    have T1 : Aside0 (tot ≤ 1000) := ⟨by rw [htot]; exact H1.out⟩
    rw [hft]
    clear hft htot
    go_wp2_with fail
    go_at_call 69
    with_reducible refine (grow_ptrs tot _ T0.out T1.out).mono ?_
    rintro e w2 ⟨v2, rfl, hr2, hb⟩
    have HR2 := Aside0.mk hr2
    have HB2 := Aside0.mk hb
    clear hr2 hb
    go_wp2_with fail
    go_loopw [6, 27] (fun v6 v27 W => ∃ i : Nat, v27 = .int .i64 i ∧ i ≤ l.length ∧ Aside0 (Kd.R (Kd.raw 1) 66 W w.heap.size (fun _ => True) v6 (l.take i).flatten) ∧ Aside0 (Below w.heap.size w W)) (fun _ v27 _ => l.length - (intOf v27).toNat)
    case atStart => exact ⟨0, rfl, Nat.zero_le _, HR2, HB2⟩
    case round =>
     obtain ⟨i, rfl, hi, HO, HB⟩ := hrel
     obtain ⟨Ao, co, eo⟩ := Kd.R_slice HO.out
     subst eo
     by_cases hlt : i < l.length
     · have b1 : decide ((i : Int) < (l.length : Int)) = true := decide_eq_true (by omega)
       have b1' : decide (i < l.length) = true := decide_eq_true hlt
       obtain ⟨ad, A2, c2, e1, q0, q1, q2⟩ := at_rows (Kd.C_below HR.out HB.out) i hlt
       have HFT := Aside0.mk (flat_take l i hlt)
       have hle := flat_le l (i + 1)
       rw [HFT.out, List.length_append] at hle
       have HLE := Aside0.mk hle
       obtain ⟨p, hp⟩ : ∃ p, p = l.getD i [] := ⟨_, rfl⟩
       rw [← hp] at q0 q1 q2
       have HFP : Aside0 ((l.take (i + 1)).flatten = (l.take i).flatten ++ p) := ⟨by rw [HFT.out, hp]⟩
       have HLP : Aside0 ((l.take i).flatten.length + p.length ≤ 1000) := ⟨by have := H1.out; rw [hp]; omega⟩
       obtain ⟨m, hm2⟩ : ∃ m, m = (l.take i).flatten := ⟨_, rfl⟩
       rw [← hm2] at HO HFP HLP ⊢
       have HO1 := HO
       have Q2 := Aside0.mk q2
       subst e1
       clear hp hle HFT HLE q2 hm2
       go_wp2_with (first | ((with_reducible refine gate_builtin (b := .append) (xs := #[.tmp 31, .tmp 32]) rfl ?_); at_builtin; go_loud (refine Kd.R_append_rows (Kd.raw 1) (w0 := w) w.heap.size rfl (.tmp 31) (.tmp 32) 63 66 (.pointer none) 8 rfl Try.underlying63 info_ptr rfl (by decide) (by omega) _ m p _ _ _ (fun _ => True) (fun _ => False) rfl rfl HO1.out Q2.out (fun _ _ h => h) (fun _ h => h.elim) (fun _ _ => trivial) HB.out HB.out.size (by have := HLP.out; omega) ?_); intro v2 w2 ho2 hb2 hg2 hat2; rw [← HFP.out] at ho2; have HO2 := Aside0.mk ho2; have HB2 := Aside0.mk hb2; clear ho2 hb2 hg2 hat2))
       go_roundw
       case rel => exact ⟨i + 1, by go_num, by omega, HO2, HB2⟩
       case measure => simp [intOf]; omega
     · have b1 : decide ((i : Int) < (l.length : Int)) = false := decide_eq_false (by omega)
       have b1' : decide (i < l.length) = false := decide_eq_false hlt
       have HF : Aside0 ((l.take i).flatten = l.flatten) := ⟨by rw [List.take_of_length_le (by omega)]⟩
       rw [HF.out] at HO
       have HO1 := HO
       obtain ⟨m, hm2⟩ : ∃ m, m = (l.take i).flatten.length := ⟨_, rfl⟩
       have HM : Aside0 (m = l.flatten.length) := ⟨by rw [hm2, HF.out]⟩
       rw [← HM.out] at HO1
       rw [← hm2]
       clear hm2
       go_wp2_with fail
       go_ret
       exact ⟨_, rfl, HO1.out, HB.out⟩
end Go.Proofs.Ytkddlhcpplkpbaa.G
end
