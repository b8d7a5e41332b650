/- MessageTellsUpto: texts of this claim, packed: what the kit's print has written for it and own texts, without what its proof does not reach. -/
import Derived.Test.YtkddlhcpplkpbaaKMessageTellsUpto15
import Derived.Test.YtkddlhcpplkpbaaKMessageTellsUpto16
import Derived.Test.YtkddlhcpplkpbaaKMessageTellsUpto17
set_option linter.unusedVariables false
set_option linter.unusedSimpArgs false
set_option linter.unusedSectionVars false
section
namespace Go.Proofs.Ytkddlhcpplkpbaa.G
open WB Go.RowKit Go.Proofs.YtkddlhcpplkpbaaW.PrintWords Go.Proofs.YtkddlhcpplkpbaaW.PrintLast Go.Proofs.YtkddlhcpplkpbaaW.PrintMore
attribute [local go_sem] max2_int min2_int max_two min_two max_three min_three max_four min_four   -- for this text's walks alone
/-- Numbers read, one after the other, into these places: the fault, where the reader stands, the numbers. -/
def rdN (l : List Int) : List Nat → Int → List Int → Int × Int × List Int
 | [], p, o => (0, p, o)
 | j :: js, p, o => if (getAt l p).2.2 = 0 then (if (getAt l p).1 ≤ 2147483647 then rdN l js (getAt l p).2.1 (o.set j (wrap64 (getAt l p).1)) else (4, 0, [])) else ((getAt l p).2.2, 0, [])
/-- A message's kind, as its reader takes it. -/
def kindOf (x : Int) : Int := wrap64 (mn x 9)
/-- What the octets tell: the fault, the numbers, the octets. -/
def decM (k : Nat) (l : List Int) : Option (Int × List Int × List Int) :=
 if (getAt l 0).2.2 = 0 then (if ixOf (kindOf (getAt l 0).1) = [] then some (23, [], []) else
  (if (rdN l (2 :: ixOf (kindOf (getAt l 0).1)) (getAt l 0).2.1 [kindOf (getAt l 0).1, 0, 0, 0, 0, 0, 0, 0, 0, 0, 0]).1 = 0 then
   (if kindOf (getAt l 0).1 = 3 ∨ kindOf (getAt l 0).1 = 4 then
    (varint_Text.f k l (rdN l (2 :: ixOf (kindOf (getAt l 0).1)) (getAt l 0).2.1 [kindOf (getAt l 0).1, 0, 0, 0, 0, 0, 0, 0, 0, 0, 0]).2.1 1024).bind fun t => if t.2.2 = 0 then (if t.2.1 = (l.length : Int) then some (0, (rdN l (2 :: ixOf (kindOf (getAt l 0).1)) (getAt l 0).2.1 [kindOf (getAt l 0).1, 0, 0, 0, 0, 0, 0, 0, 0, 0, 0]).2.2, t.1) else some (22, [], [])) else some (t.2.2, [], [])
   else (if (rdN l (2 :: ixOf (kindOf (getAt l 0).1)) (getAt l 0).2.1 [kindOf (getAt l 0).1, 0, 0, 0, 0, 0, 0, 0, 0, 0, 0]).2.1 = (l.length : Int) then some (0, (rdN l (2 :: ixOf (kindOf (getAt l 0).1)) (getAt l 0).2.1 [kindOf (getAt l 0).1, 0, 0, 0, 0, 0, 0, 0, 0, 0, 0]).2.2, []) else some (22, [], [])))
  else some ((rdN l (2 :: ixOf (kindOf (getAt l 0).1)) (getAt l 0).2.1 [kindOf (getAt l 0).1, 0, 0, 0, 0, 0, 0, 0, 0, 0, 0]).1, [], [])))
 else some ((getAt l 0).2.2, [], [])
/-- Where the reader is, and the message that it fills. -/
structure MsgI (w0 w W : World) (g : Nat) (A : Option Addr) (n c : Nat) (p : Int) (o : List Int) (D : Value) : Prop where
 rd : W.heap[g]? = some (.cells #[.slice A n c, .int .i64 p] 59 (0, 0))
 ms : W.heap[w.heap.size]? = some (.cells (msgCells o D) 25 (0, 0))
 bel : Below w0.heap.size w0 W
 keep : ∀ k, k < w.heap.size → k ≠ g → W.heap[k]? = w.heap[k]?
 le : w.heap.size < W.heap.size
theorem MsgI.below {w0 w W W1 : World} {g n c : Nat} {A : Option Addr} {p : Int} {o : List Int} {D : Value} (h : MsgI w0 w W g A n c p o D) (hb : Below W.heap.size W W1) : MsgI w0 w W1 g A n c p o D :=
 ⟨blk_below h.rd hb, blk_below h.ms hb, below_then h.bel h.bel.size hb, fun k h1 h2 => (hb.block k (by have := h.le; omega)).trans (h.keep k h1 h2), Nat.lt_of_lt_of_le h.le hb.size⟩
theorem MsgI.move {w0 w W : World} {g n c : Nat} {A : Option Addr} {p : Int} {o : List Int} {D : Value} (h : MsgI w0 w W g A n c p o D) (hg : w0.heap.size ≤ g) (hgw : g < w.heap.size) (q : Int) : MsgI w0 w (W.setCell ⟨g, 1, none⟩ (.int .i64 q)) g A n c q o D :=
 ⟨blk_put h.rd _ _ rfl, blk_far h.ms (by simp; omega) _, below_set h.bel hg, fun k h1 h2 => (Below.heap_setCell W ⟨g, 1, none⟩ _ k h2).trans (h.keep k h1 h2), by have := h.le; simpa using this⟩
theorem MsgI.put {w0 w W : World} {g n c : Nat} {A : Option Addr} {p : Int} {o : List Int} {D : Value} (h : MsgI w0 w W g A n c p o D) (h0 : w0.heap.size ≤ w.heap.size) (hgw : g < w.heap.size) (j : Nat) (hj : j < o.length) (x : Int) : MsgI w0 w (W.setCell ⟨w.heap.size, j, none⟩ (.int .i64 x)) g A n c p (o.set j x) D :=
 ⟨blk_far h.rd (by simp; omega) _, blk_put h.ms _ _ (msg_set hj x), below_set h.bel h0, fun k h1 h2 => (Below.heap_setCell W ⟨w.heap.size, j, none⟩ _ k (by simp; omega)).trans (h.keep k h1 h2), by have := h.le; simpa using this⟩
theorem MsgI.data {w0 w W : World} {g n c : Nat} {A : Option Addr} {p : Int} {o : List Int} {D : Value} (h : MsgI w0 w W g A n c p o D) (h0 : w0.heap.size ≤ w.heap.size) (hgw : g < w.heap.size) (hj : o.length = 11) (D' : Value) : MsgI w0 w (W.setCell ⟨w.heap.size, 11, none⟩ D') g A n c p o D' :=
 ⟨blk_far h.rd (by simp; omega) _, blk_put h.ms _ _ (msg_setD hj), below_set h.bel h0, fun k h1 h2 => (Below.heap_setCell W ⟨w.heap.size, 11, none⟩ _ k (by simp; omega)).trans (h.keep k h1 h2), by have := h.le; simpa using this⟩
theorem neq_slice_nil (W : World) (a : Option Addr) (n c : Nat) : (binOp .neq 63 (.slice a n c) (.slice none 0 0)).run Try.prog W = .ok (.bool (!a.isNone)) W := by
 simp only [binOp]
 simp [Op.equal, Op.maxDepth, Lib.run_equalIn_slice_nil W 9999 _ 66 a n c 0 0 Try.underlying63]
open Kd in
theorem C_lit2 {α : Type} {d : Kd α} {e : Nat} {W : World} {g T : Nat} {A B : Option Addr} {c c2 n1 n2 : Nat} {l m : List α} (hb : W.heap[g]? = some (.cells #[.slice A n1 c, .slice B n2 c2] T (0, 0))) (e1 : l.length = n1) (e2 : m.length = n2) (hl : n1 ≤ c) (hm : n2 ≤ c2) (hC : d.C W A n1 l) (hD : d.C W B n2 m) : (Kd.slice e d).C W (some ⟨g, 0, none⟩) [l, m].length [l, m] := by
 subst e1 e2
 refine ⟨rfl, by simp, fun _ => ⟨_, rfl, fun j p hj => ?_⟩⟩
 rcases j with _ | _ | j
 · obtain rfl : l = p := by simpa using hj
   refine ⟨[.slice A l.length c], rfl, ⟨A, c, rfl, hl, hC⟩, fun i u hu => ?_⟩
   have hi : i = 0 := by have := (List.getElem?_eq_some_iff.1 hu).1; simpa using this
   subst hi
   rw [Addr.add_lit, blk_cell hb]
   exact hu
 · obtain rfl : m = p := by simpa using hj
   refine ⟨[.slice B m.length c2], rfl, ⟨B, c2, rfl, hm, hD⟩, fun i u hu => ?_⟩
   have hi : i = 0 := by have := (List.getElem?_eq_some_iff.1 hu).1; simpa using this
   subst hi
   rw [Addr.add_lit, blk_cell hb]
   exact hu
 · simp at hj
/-- A row of pointers, as what it holds. -/
def ptrsOf (m : Nat) (l : List Nat) : List (List Value) := l.map fun j => [Value.pointer (some ⟨m, j, none⟩)]
open Kd in
theorem C_ptrs {W : World} {h m T : Nat} {l : List Nat} (hb : W.heap[h]? = some (.cells (ixCells m l) T (0, 0))) (hm : l.length ≤ 9223372036854775807) : (Kd.raw 1).C W (some ⟨h, 0, none⟩) l.length (ptrsOf m l) := by
 have hlen : (ptrsOf m l).length = l.length := List.length_map ..
 have hx := C_cells (d := Kd.raw 1) (l := ptrsOf m l) hb (by rw [hlen]; exact hm) ⟨by rw [hlen]; simp [ixCells, Kd.raw], fun j p hj => by
  have hjl : j < l.length := by have := (List.getElem?_eq_some_iff.1 hj).1; rw [hlen] at this; exact this
  have hp : [Value.pointer (some ⟨m, l[j], none⟩)] = p := by
    unfold ptrsOf at hj
    rw [List.getElem?_map, List.getElem?_eq_getElem hjl] at hj
    simpa using hj
  subst hp
  refine ⟨?_, ?_, ?_⟩
  · show (List.drop (j * 1) (ixCells m l).toList).take 1 = _
    unfold ixCells
    rw [Nat.mul_one, List.drop_eq_getElem_cons (by simpa using hjl)]
    simp
  · show ((List.drop (j * 1) (ixCells m l).toList).take 1).length = 1
    unfold ixCells
    rw [List.length_take, List.length_drop]
    simp
    omega
  · intro u hu
    have hu2 := List.mem_of_mem_drop (List.mem_of_mem_take hu)
    unfold ixCells at hu2
    simp only [List.mem_map] at hu2
    obtain ⟨q, _, rfl⟩ := hu2
    rfl⟩
 rw [hlen] at hx
 exact hx
theorem add_block (a : Addr) (i : Nat) : (a.add i).block = a.block := by
 unfold Addr.add
 first | rfl | (split <;> rfl)
theorem ptr_rows {W : World} {T base m : Nat} {js : List Nat} {v : Value} (h : Kd.R (Kd.raw 1) T W base (fun _ => True) v (ptrsOf m js)) (h0 : 0 < js.length) : ∃ ad c, v = .slice (some ad) js.length c ∧ base ≤ ad.block ∧ ad.block < W.heap.size ∧ ∀ i, i < js.length → W.cell? (ad.add i) = some (.pointer (some ⟨m, js.getD i 0, none⟩)) := by
 have hlen : (ptrsOf m js).length = js.length := List.length_map ..
 obtain ⟨A, c, rfl⟩ := Kd.R_slice h
 have hC := (Kd.R_reads' h).2.2
 obtain ⟨ad, c0, rfl, _⟩ := ReadsRow.get_ hC [] (0 : Int) (by omega) (by omega)
 refine ⟨ad, c, by rw [hlen], Kd.R_base h _ rfl, Kd.R_lt h _ rfl, fun i hi => ?_⟩
 obtain ⟨ad2, cs, e1, hs, hK, hc⟩ := ReadsRow.get_ hC [] (i : Int) (by omega) (by omega)
 obtain rfl := Option.some.inj e1
 have hK2 : cs = (ptrsOf m js).getD (i : Int).toNat [] := hK.1
 have hg : (ptrsOf m js).getD i [] = [Value.pointer (some ⟨m, js.getD i 0, none⟩)] := by
  unfold ptrsOf
  simp [List.getD_eq_getElem?_getD, hi]
 rw [Int.toNat_natCast, hg] at hK2
 subst hK2
 have h3 := hc 0 _ rfl
 have e2 : (i : Int).toNat * (Kd.raw 1).sz + 0 = i := by show (i : Int).toNat * 1 + 0 = i; omega
 rw [e2] at h3
 exact h3
theorem list11 {o : List Int} (h : o.length = 11) : ∃ a0 a1 a2 a3 a4 a5 a6 a7 a8 a9 a10, o = [a0, a1, a2, a3, a4, a5, a6, a7, a8, a9, a10] := by
 match o, h with
 | [a0, a1, a2, a3, a4, a5, a6, a7, a8, a9, a10], _ => exact ⟨a0, a1, a2, a3, a4, a5, a6, a7, a8, a9, a10, rfl⟩
theorem msg_fill2 {W : World} {g t : Nat} {D0 : Value} {z0 z1 z2 z3 z4 z5 z6 z7 z8 z9 z10 : Int} (h : W.heap[g]? = some (.cells (msgCells [z0, z1, z2, z3, z4, z5, z6, z7, z8, z9, z10] D0) t (0, 0))) (a0 a1 a2 a3 a4 a5 a6 a7 a8 a9 a10 : Int) (D : Value) : (fillW W g a0 a1 a2 a3 a4 a5 a6 a7 a8 a9 a10 D).heap[g]? = some (.cells #[.int .i64 a0, .int .i64 a1, .int .i64 a2, .int .i64 a3, .int .i64 a4, .int .i64 a5, .int .i64 a6, .int .i64 a7, .int .i64 a8, .int .i64 a9, .int .i64 a10, D] t (0, 0)) := by
 have h := blk_put h 0 _ (msg_set (by simp) a0)
 have h := blk_put h 1 _ (msg_set (by simp) a1)
 have h := blk_put h 2 _ (msg_set (by simp) a2)
 have h := blk_put h 3 _ (msg_set (by simp) a3)
 have h := blk_put h 4 _ (msg_set (by simp) a4)
 have h := blk_put h 5 _ (msg_set (by simp) a5)
 have h := blk_put h 6 _ (msg_set (by simp) a6)
 have h := blk_put h 7 _ (msg_set (by simp) a7)
 have h := blk_put h 8 _ (msg_set (by simp) a8)
 have h := blk_put h 9 _ (msg_set (by simp) a9)
 have h := blk_put h 10 _ (msg_set (by simp) a10)
 have h := blk_put h 11 D (msg_setD (by simp))
 exact h
theorem fillB {w W : World} {g : Nat} (h : Below w.heap.size w W) (hg : w.heap.size ≤ g) (a0 a1 a2 a3 a4 a5 a6 a7 a8 a9 a10 : Int) (D : Value) : Below w.heap.size w (fillW W g a0 a1 a2 a3 a4 a5 a6 a7 a8 a9 a10 D) := msg_fillB h hg a0 a1 a2 a3 a4 a5 a6 a7 a8 a9 a10 D
theorem fill_keep {W : World} {g : Nat} (a0 a1 a2 a3 a4 a5 a6 a7 a8 a9 a10 : Int) (D : Value) (k : Nat) (hk : k ≠ g) : (fillW W g a0 a1 a2 a3 a4 a5 a6 a7 a8 a9 a10 D).heap[k]? = W.heap[k]? := by
 have e : ∀ (W : World) (j : Nat) (u : Value), (W.setCell ⟨g, j, none⟩ u).heap[k]? = W.heap[k]? := fun W j u => Below.heap_setCell W ⟨g, j, none⟩ u k hk
 unfold fillW
 simp only [e]
/-- Where the reader of a message's octets is (g: the octets' value; how far it is). -/
structure TrX (w0 w : World) (N gb : Nat) (A : Option Addr) (n c : Nat) (o : List Int) (q p3 : Int) (D2 : List Int) (g : Value × Nat) (f : Nat → Bool) (W : World) : Prop where
 inv : ∃ D p', MsgI w0 w W gb A n c p' o D ∧ (f 15 = true → D = g.1) ∧ (f 18 = true → p' = p3) ∧ (f 18 = false → p' = q)
 r : g.2 = 2 → Kd.R (Kd.int .u8) 5 W N (fun _ => True) g.1 D2
 le : N ≤ W.heap.size
 l1 : f 18 = true → g.2 = 2
 l2 : f 15 = true → g.2 = 2
 l3 : 1 ≤ g.2 → f 8 = true
 l4 : g.2 = 2 → f 9 = true
theorem TrX.same {w0 w w1 w2 : World} {N gb : Nat} {A : Option Addr} {n c : Nat} {o : List Int} {q p3 : Int} {D2 : List Int} {g g' : Value × Nat} {f : Nat → Bool} {i : Nat} (ht : TrX w0 w N gb A n c o q p3 D2 g f w1) (hr : RSame g g' w1 w2) (h : i ≠ 8 ∧ i ≠ 9 ∧ i ≠ 15 ∧ i ≠ 18) : TrX w0 w N gb A n c o q p3 D2 g' (fun j => if j = i then true else f j) w2 := by
 obtain ⟨rfl, rfl⟩ := hr
 obtain ⟨h1, h2, h3, h4⟩ := h
 have e8 : (if 8 = i then true else f 8) = f 8 := if_neg (Ne.symm h1)
 have e9 : (if 9 = i then true else f 9) = f 9 := if_neg (Ne.symm h2)
 have e15 : (if 15 = i then true else f 15) = f 15 := if_neg (Ne.symm h3)
 have e18 : (if 18 = i then true else f 18) = f 18 := if_neg (Ne.symm h4)
 obtain ⟨a1, a2, a3, a4, a5, a6, a7⟩ := ht
 exact ⟨by rw [e15, e18]; exact a1, a2, a3, by rw [e18]; exact a4, by rw [e15]; exact a5, by rw [e8]; exact a6, by rw [e9]; exact a7⟩
theorem TrX.s8 {w0 w w1 w2 : World} {N gb : Nat} {A : Option Addr} {n c : Nat} {o : List Int} {q p3 : Int} {D2 : List Int} {g g' : Value × Nat} {f : Nat → Bool} (ht : TrX w0 w N gb A n c o q p3 D2 g f w1) (hr : g.2 = 0 ∧ g' = (g.1, 1) ∧ w2 = w1) : TrX w0 w N gb A n c o q p3 D2 g' (fun j => if j = 8 then true else f j) w2 := by
 obtain ⟨h0, rfl, rfl⟩ := hr
 obtain ⟨a1, a2, a3, a4, a5, a6, a7⟩ := ht
 have n18 : f 18 ≠ true := fun h => absurd (a4 h) (by omega)
 have n15 : f 15 ≠ true := fun h => absurd (a5 h) (by omega)
 exact ⟨a1, fun h => absurd h (by simp), a3, fun h => absurd h n18, fun h => absurd h n15, fun _ => rfl, fun h => absurd h (by simp)⟩
theorem TrX.s9 {w0 w w1 w2 : World} {N gb : Nat} {A : Option Addr} {n c : Nat} {o : List Int} {q p3 : Int} {D2 : List Int} {g g' : Value × Nat} {f : Nat → Bool} (ht : TrX w0 w N gb A n c o q p3 D2 g f w1) (hr : g.2 ≠ 2 ∧ 1 ≤ g.2 ∧ g'.2 = 2 ∧ Below w1.heap.size w1 w2 ∧ Kd.R (Kd.int .u8) 5 w2 N (fun _ => True) g'.1 D2) : TrX w0 w N gb A n c o q p3 D2 g' (fun j => if j = 9 then true else f j) w2 := by
 obtain ⟨h0, h01, h1, hb, hR⟩ := hr
 obtain ⟨⟨D, p', b1, b2, b3, b4⟩, a2, a3, a4, a5, a6, a7⟩ := ht
 have n18 : f 18 ≠ true := fun h => absurd (a4 h) (by omega)
 have n15 : f 15 ≠ true := fun h => absurd (a5 h) (by omega)
 exact ⟨⟨D, p', b1.below hb, fun h => absurd h n15, fun h => absurd h n18, b4⟩, fun _ => hR, Nat.le_trans a3 hb.size, fun h => absurd h n18, fun h => absurd h n15, fun _ => a6 (by omega), fun _ => rfl⟩
theorem TrX.s15 {w0 w w1 w2 : World} {N gb : Nat} {A : Option Addr} {n c : Nat} {o : List Int} {q p3 : Int} {D2 : List Int} {g g' : Value × Nat} {f : Nat → Bool} (hm : w.heap.size < N) (h0 : w0.heap.size ≤ w.heap.size) (hgw : gb < w.heap.size) (ho : o.length = 11) (ht : TrX w0 w N gb A n c o q p3 D2 g f w1) (hr : g.2 = 2 ∧ g' = g ∧ w2 = w1.setCell ⟨w.heap.size, 11, none⟩ g.1) : TrX w0 w N gb A n c o q p3 D2 g' (fun j => if j = 15 then true else f j) w2 := by
 obtain ⟨h2, rfl, rfl⟩ := hr
 obtain ⟨⟨D, p', b1, b2, b3, b4⟩, a2, a3, a4, a5, a6, a7⟩ := ht
 refine ⟨⟨_, p', b1.data h0 hgw ho g'.1, fun _ => rfl, b3, b4⟩, fun h => ?_, by simpa using a3, a4, fun _ => h2, a6, a7⟩
 exact Kd.R_mono (Kd.R_far (Kd.R_bound (a2 h)) (fun k hk => by have := hk.2.1; show k ≠ w.heap.size; omega) _) (fun _ _ => trivial)
theorem TrX.s18 {w0 w w1 w2 : World} {N gb : Nat} {A : Option Addr} {n c : Nat} {o : List Int} {q p3 : Int} {D2 : List Int} {g g' : Value × Nat} {f : Nat → Bool} (hm : w.heap.size < N) (hg0 : w0.heap.size ≤ gb) (hgw : gb < w.heap.size) (ht : TrX w0 w N gb A n c o q p3 D2 g f w1) (hr : g.2 = 2 ∧ g' = g ∧ w2 = w1.setCell ⟨gb, 1, none⟩ (.int .i64 p3)) : TrX w0 w N gb A n c o q p3 D2 g' (fun j => if j = 18 then true else f j) w2 := by
 obtain ⟨h2, rfl, rfl⟩ := hr
 obtain ⟨⟨D, p', b1, b2, b3, b4⟩, a2, a3, a4, a5, a6, a7⟩ := ht
 refine ⟨⟨D, p3, b1.move hg0 hgw p3, b2, fun _ => rfl, fun h => absurd h (by simp)⟩, fun h => ?_, by simpa using a3, fun _ => h2, a5, a6, a7⟩
 exact Kd.R_mono (Kd.R_far (Kd.R_bound (a2 h)) (fun k hk => by have := hk.2.1; show k ≠ gb; omega) _) (fun _ _ => trivial)
/-- What message leaves. -/
def MsgAt (w0 w : World) (g : Nat) (d : Int × List Int × List Int) (r : Ending) (w' : World) : Prop :=
 (if d.1 = 0 then ∃ v, r = .returned (.agg (msgCells d.2.1 v)) ∧ d.2.1.length = 11 ∧ Kd.R (Kd.int .u8) 5 w' w.heap.size (fun _ => True) v d.2.2 else r = .panicked (faultP d.1)) ∧ Below w0.heap.size w0 w' ∧ (∀ k, k < w.heap.size → k ≠ g → w'.heap[k]? = w.heap[k]?)
set_option maxHeartbeats 4000000 in
set_option maxRecDepth 100000 in
theorem reader_message (k g : Nat) (A : Option Addr) (c : Nat) (l : List Int) (p0 : Int) (w0 w : World) (d : Int × List Int × List Int) (hg : w.heap[g]? = some (.cells #[.slice A l.length c, .int .i64 p0] 59 (0, 0))) (hb0 : Below w0.heap.size w0 w) (hg0 : w0.heap.size ≤ g) (hr : Kd.C (Kd.int .u8) w0 A l.length l) (hc : l.length ≤ c) (hok : octetsOk l = true) (hd : decM k l = some d) :
   Calls Try.prog 29 #[.pointer (some ⟨g, 0, none⟩)] w (MsgAt w0 w g d) := by
 have HR := Aside0.mk hr
 have HC := Aside0.mk hc
 have HOK := Aside0.mk hok
 have HD := Aside0.mk hd
 have HG0 := Aside0.mk hg0
 have HGW := Aside0.mk (blk_lt hg)
 have HW0 := Aside0.mk hb0.size
 obtain ⟨W0, hW0⟩ : ∃ W, W = w.alloc (.cells #[.int .i64 0, .int .i64 0, .int .i64 0, .int .i64 0, .int .i64 0, .int .i64 0, .int .i64 0, .int .i64 0, .int .i64 0, .int .i64 0, .int .i64 0, .slice none 0 0] 25) := ⟨_, rfl⟩
 have HW := Aside0.mk hW0
 have HI := Aside0.mk (show MsgI w0 w W0 g A l.length c p0 [0, 0, 0, 0, 0, 0, 0, 0, 0, 0, 0] (.slice none 0 0) by
   rw [hW0]
   refine ⟨blk_alloc hg _, by rw [msg_lit]; exact heap_new1 _ _, below_alloc0 hb0 hb0.size _, fun k h1 _ => Below.heap_alloc w _ k h1, by simp⟩)
 clear hg hr hc hok hd hg0 hb0 hW0
 go_enter Try.func29, Try.ntmps29
 go_upto_region 1 with fail
 rw [← HW.out]
 have q0 : W0.cell? ⟨g, 0, none⟩ = some (.slice A l.length c) := (blk_cell HI.out.rd 0).trans rfl
 clear HW
 obtain ⟨x, p, e, hgt⟩ : ∃ x p e, getAt l 0 = (x, p, e) := ⟨_, _, _, rfl⟩
 have HGT := Aside0.mk hgt
 have hD := HD.out
 unfold decM at hD
 rw [hgt] at hD
 dsimp only at hD
 have HD1 := Aside0.mk hD
 clear hgt hD HD
 go_wp2_with fail
 go_at_call 52
 with_reducible refine (varint_Get.calls A c l 0 x p e _ (Kd.C_below HR.out HI.out.bel) HC.out ?hv).mono ?_
 case hv => unfold varint_Get.f; rw [if_pos HOK.out, HGT.out]
 rintro r w1 ⟨rfl, hb⟩
 have HI1 := Aside0.mk (HI.out.below hb.below)
 clear hb HI q0
 go_wp2_with fail
 go_at_call 53
 with_reducible refine (message_need (e == 0) e _).mono ?_
 rintro r w2 ⟨rfl, rfl⟩
 by_cases he : e = 0
 case neg =>
   rw [if_neg (by simpa using he)]
   obtain rfl := Option.some.inj ((if_neg he).symm.trans HD1.out)
   exact ⟨rfl, show MsgAt w0 w g _ _ _ from ⟨by rw [if_neg he], HI1.out.bel, HI1.out.keep⟩⟩
 rw [if_pos (by simpa using he)]
 have HD2 := Aside0.mk ((if_pos he).symm.trans HD1.out)
 clear HD1
 subst he
 have q1 : w2.cell? ⟨g, 1, none⟩ = some (.int .i64 p0) := (blk_cell HI1.out.rd 1).trans rfl
 have q2 : w2.cell? ⟨w.heap.size, 0, none⟩ = some (.int .i64 0) := (blk_cell HI1.out.ms 0).trans (msg_get (by simp))
 have z1 : w2.frozen? ⟨g, 1, none⟩ = false := blk_frozen HI1.out.rd 1
 have z2 : w2.frozen? ⟨w.heap.size, 0, none⟩ = false := blk_frozen HI1.out.ms 0
 have hgw := HGW.out
 have hne : g ≠ w.heap.size := by omega
 go_upto_region 4 with fail
 obtain ⟨kd, hkd⟩ : ∃ kd, kd = kindOf x := ⟨_, rfl⟩
 obtain ⟨y9, hy9⟩ : ∃ y, y = (if 9 < x then 9 else x) := ⟨_, rfl⟩
 rw [← hy9]
 rw [show wrap64 y9 = kd from by rw [hkd, hy9]; rfl]
 clear hy9
 obtain ⟨W4, hW4⟩ : ∃ W, W = (w2.setCell ⟨w.heap.size, 0, none⟩ (.int .i64 kd)).setCell ⟨g, 1, none⟩ (.int .i64 p) := ⟨_, rfl⟩
 rw [← hW4]
 have HI4 := Aside0.mk (show MsgI w0 w W4 g A l.length c p [kd, 0, 0, 0, 0, 0, 0, 0, 0, 0, 0] (.slice none 0 0) by rw [hW4]; exact (HI1.out.put HW0.out hgw 0 (by simp) kd).move HG0.out hgw p)
 have hd2 := HD2.out
 rw [← hkd] at hd2
 obtain ⟨ix, hix⟩ : ∃ ix, ix = ixOf kd := ⟨_, rfl⟩
 rw [← hix] at hd2
 have HD3 := Aside0.mk hd2
 have IX := Aside0.mk hix
 clear hkd hW4 HI1 q1 q2 z1 z2 hne hgw hd2 HD2 hix HGT
 go_wp2_with fail
 go_at_call 31
 with_reducible refine (message_fields w.heap.size kd _ ?hk).mono ?_
 case hk => rw [blk_cell HI4.out.ms 0, msg_get (by simp)]; rfl
 rintro r w5 ⟨hf, hb⟩
 rw [← IX.out] at hf
 have HI5 := Aside0.mk (HI4.out.below hb)
 clear hb HI4
 rcases hf with ⟨hz, rfl⟩ | ⟨hz, h1, rfl, hs1, hr1⟩
 · have heq : ∀ (W : World), (binOp .neq 63 (.slice none 0 0) (.slice none 0 0)).run Try.prog W = .ok (.bool false) W := fun W => neq_slice_nil W none 0 0
   obtain rfl := Option.some.inj ((if_pos hz).symm.trans HD3.out)
   clear hz HD3
   go_wp2_with fail
   go_at_call 53
   with_reducible refine (message_need false 23 _).mono ?_
   rintro r w6 ⟨rfl, rfl⟩
   exact ⟨rfl, show MsgAt w0 w g _ _ _ from ⟨by rw [if_neg (by decide)], HI5.out.bel, HI5.out.keep⟩⟩
 have heq : ∀ (W : World) (n c : Nat), (binOp .neq 63 (.slice (some ⟨h1, 0, none⟩) n c) (.slice none 0 0)).run Try.prog W = .ok (.bool true) W := fun W n c => neq_slice_nil W (some ⟨h1, 0, none⟩) n c
 have HD4 := Aside0.mk ((if_neg hz).symm.trans HD3.out)
 have HX := Aside0.mk hz
 clear hz hs1 hr1 HD3
 go_wp2_with fail
 go_at_call 53
 with_reducible refine (message_need true 23 _).mono ?_
 rintro r w6 ⟨rfl, rfl⟩
 rw [if_pos rfl]
 clear heq
 go_wp2_with fail
 go_at_call 31
 have HI6 := Aside0.mk (HI5.out.below (below_alloc (Below.refl _ _) (.cells #[.pointer (some ⟨w.heap.size, 2, none⟩)] 66)))
 have HP6 := Aside0.mk (heap_new1 w6 (.cells #[.pointer (some ⟨w.heap.size, 2, none⟩)] 66))
 with_reducible refine (message_fields w.heap.size kd _ ?hk).mono ?_
 case hk => rw [blk_cell HI6.out.ms 0, msg_get (by simp)]; rfl
 rintro r w7 ⟨hf, hb⟩
 rw [← IX.out] at hf
 have HI7 := Aside0.mk (HI6.out.below hb)
 have HP7 := Aside0.mk (blk_below HP6.out hb)
 clear hb HI6 HP6
 rcases hf with ⟨hz, _⟩ | ⟨_, h2, rfl, hs2, hr2⟩
 · exact absurd hz HX.out
 have HR2 := Aside0.mk hr2
 clear hr2
 go_wp2_with fail
 go_at_call 54
 obtain ⟨js, hjs⟩ : ∃ js, js = 2 :: ix := ⟨_, rfl⟩
 have HJ := Aside0.mk hjs
 have HL6 : Aside0 (ix.length ≤ 6) := ⟨by rw [IX.out]; exact ixOf_len _⟩
 have HFL : Aside0 ([ptrsOf w.heap.size [2], ptrsOf w.heap.size ix].flatten = ptrsOf w.heap.size js) := ⟨by rw [hjs]; simp [ptrsOf]⟩
 have HJB : Aside0 (∀ i, i < js.length → 1 ≤ js.getD i 0 ∧ js.getD i 0 ≤ 10) := ⟨fun i hi => by
   have hm : js.getD i 0 ∈ js := by
     have he : js.getD i 0 = js[i] := by simp [List.getD_eq_getElem?_getD, hi]
     rw [he]; exact List.getElem_mem hi
   rw [hjs] at hm
   rcases List.mem_cons.1 hm with hm | hm
   · rw [← hjs] at hm; omega
   · rw [← hjs, IX.out] at hm; have := ixOf_lt _ hm; omega⟩
 have HI8 := Aside0.mk (HI7.out.below (below_alloc (Below.refl _ _) (.cells #[.slice (some ⟨w6.heap.size, 0, none⟩) 1 1, .slice (some ⟨h2, 0, none⟩) ix.length ix.length] 63)))
 have HJL : Aside0 (js.length = ix.length + 1) := ⟨by rw [hjs]; simp⟩
 have HPL : Aside0 ((ptrsOf w.heap.size js).length = js.length) := ⟨List.length_map ..⟩
 have hd4 := HD4.out
 rw [← hjs] at hd4
 obtain ⟨RR, hRR⟩ : ∃ RR, RR = rdN l js p [kd, 0, 0, 0, 0, 0, 0, 0, 0, 0, 0] := ⟨_, rfl⟩
 rw [← hRR] at hd4
 have HD5 := Aside0.mk hd4
 have HRR := Aside0.mk hRR
 clear hjs hd4 hRR HD4
 refine calls_of_args (args' := #[.slice (some ⟨w7.heap.size, 0, none⟩) [ptrsOf w.heap.size [2], ptrsOf w.heap.size ix].length 2]) rfl ?_
 with_reducible refine (concat_ptrs (some ⟨w7.heap.size, 0, none⟩) 2 [ptrsOf w.heap.size [2], ptrsOf w.heap.size ix] _ ?h1 (Nat.le_refl _) ?h2 ?h3).mono ?_
 case h1 => exact C_lit2 (heap_new1 _ _) rfl (List.length_map ..) (Nat.le_refl _) (Nat.le_refl _) (C_ptrs (l := [2]) (blk_alloc HP7.out _) (by simp)) (C_ptrs (blk_alloc HR2.out _) (by have := HL6.out; omega))
 case h2 => rw [HFL.out, HPL.out, HJL.out]; omega
 case h3 => rw [HFL.out, HPL.out, HJL.out]; have := HL6.out; omega
 rintro r w8 ⟨v8, rfl, hr8, hb⟩
 rw [HFL.out] at hr8
 obtain ⟨ad, cv, rfl, hba, hbl, hpt⟩ := ptr_rows hr8 (by rw [HJL.out]; omega)
 have HI9 := Aside0.mk (HI8.out.below hb)
 have HBA : Aside0 (w.heap.size < ad.block) := ⟨Nat.lt_of_lt_of_le HI8.out.le hba⟩
 have HPT := Aside0.mk hpt
 have HBL := Aside0.mk hbl
 clear hr8 hb hba hbl hpt HI7 HI8 HP7 HR2 hs2
 go_wp2_with fail
 go_loopw [38] (fun v38 W => ∃ (i : Nat) (q : Int) (o : List Int), v38 = .int .i64 i ∧ i ≤ js.length ∧ Aside0 (rdN l (js.drop i) q o = RR) ∧ Aside0 (MsgI w0 w W g A l.length c q o (.slice none 0 0)) ∧ Aside0 (o.length = 11 ∧ o.getD 0 0 = kd) ∧ Aside0 (ad.block < W.heap.size) ∧ Aside0 (∀ i, i < js.length → W.cell? (ad.add i) = some (.pointer (some ⟨w.heap.size, js.getD i 0, none⟩)))) (fun v38 _ => js.length - (intOf v38).toNat)
 case atStart => exact ⟨0, p, _, rfl, Nat.zero_le _, ⟨HRR.out.symm⟩, HI9, ⟨rfl, rfl⟩, HBL, HPT⟩
 case round =>
   clear HI9 HBL HPT HRR
   obtain ⟨i, q, o, rfl, hi, HK, HI, HO, HBL, HPT⟩ := hrel
   have hj7 : js.length ≤ 7 := by have := HL6.out; have := HJL.out; omega
   by_cases hlt : i < js.length
   · have b1 : decide ((i : Int) < (js.length : Int)) = true := decide_eq_true (by omega)
     have b1' : decide (i < js.length) = true := decide_eq_true hlt
     have hK := HK.out
     have hdr : js.drop i = js.getD i 0 :: js.drop (i + 1) := by
       rw [List.drop_eq_getElem_cons hlt]
       simp [List.getD_eq_getElem?_getD, hlt]
     rw [hdr, rdN] at hK
     have q0 := HPT.out i hlt
     have hjb := HJB.out i hlt
     obtain ⟨j, hj⟩ : ∃ j, j = js.getD i 0 := ⟨_, rfl⟩
     rw [← hj] at hK q0 hjb
     obtain ⟨x2, p2, e2, hgt⟩ : ∃ x p e, getAt l q = (x, p, e) := ⟨_, _, _, rfl⟩
     rw [hgt] at hK
     dsimp only at hK
     have HK1 := Aside0.mk hK
     have HGT := Aside0.mk hgt
     have HJB1 := Aside0.mk hjb
     clear hK hdr hj hgt hjb HK
     go_wp2_with fail
     go_at_call 55
     with_reducible refine (reader_number g A c l q x2 p2 e2 _ HI.out.rd (Kd.C_below HR.out HI.out.bel) HC.out ?hv).mono ?_
     case hv => unfold varint_Get.f; rw [if_pos HOK.out, HGT.out]
     rintro r w9 hn
     unfold NumAt at hn
     by_cases he : e2 = 0
     case neg =>
       rw [if_neg he] at hn
       obtain ⟨rfl, hb⟩ := hn
       have hrr := (if_neg he).symm.trans HK1.out
       have hd5 := HD5.out
       rw [← hrr] at hd5
       obtain rfl := Option.some.inj ((if_neg he).symm.trans hd5)
       have HI2 := HI.out.below hb
       exact ⟨rfl, show MsgAt w0 w g _ _ _ from ⟨by rw [if_neg he], HI2.bel, HI2.keep⟩⟩
     rw [if_pos he] at hn
     have HK2 := Aside0.mk ((if_pos he).symm.trans HK1.out)
     clear HK1
     by_cases hx : x2 ≤ 2147483647
     case neg =>
       rw [if_neg hx] at hn
       obtain ⟨rfl, hb⟩ := hn
       have hrr := (if_neg hx).symm.trans HK2.out
       have hd5 := HD5.out
       rw [← hrr] at hd5
       obtain rfl := Option.some.inj ((if_neg (by decide)).symm.trans hd5)
       have HI2 := HI.out.below hb
       exact ⟨rfl, show MsgAt w0 w g _ _ _ from ⟨by rw [if_neg (by decide)], HI2.bel, HI2.keep⟩⟩
     rw [if_pos hx] at hn
     obtain ⟨rfl, w10, hb, rfl⟩ := hn
     have HK3 := Aside0.mk ((if_pos hx).symm.trans HK2.out)
     clear HK2 he hx
     have HI10 := Aside0.mk ((HI.out.below hb).move HG0.out HGW.out p2)
     have HB10 := Aside0.mk hb.size
     have hgw := HGW.out
     have hba := HBA.out
     obtain ⟨W11, hW11⟩ : ∃ W, W = w10.setCell ⟨g, 1, none⟩ (.int .i64 p2) := ⟨_, rfl⟩
     have HPT1 : Aside0 (∀ i, i < js.length → W11.cell? (ad.add i) = some (.pointer (some ⟨w.heap.size, js.getD i 0, none⟩))) := ⟨fun i hi => by
       rw [hW11, cell_far (by rw [add_block]; show ad.block ≠ g; omega), hb.cell (p := ad.add i) (by rw [add_block]; exact HBL.out)]
       exact HPT.out i hi⟩
     have HBL1 : Aside0 (ad.block < W11.heap.size) := ⟨by rw [hW11]; have := HBL.out; have := HB10.out; simp; omega⟩
     rw [← hW11] at HI10 ⊢
     have hjo : j < o.length := by have := HO.out.1; have := HJB1.out; omega
     have y1 : W11.cell? ⟨w.heap.size, j, none⟩ = some (.int .i64 (o.getD j 0)) := by rw [blk_cell HI10.out.ms, msg_get hjo]
     have z1 : W11.frozen? ⟨w.heap.size, j, none⟩ = false := blk_frozen HI10.out.ms j
     obtain ⟨yo, hyo⟩ : ∃ y, y = o.getD j 0 := ⟨_, rfl⟩
     rw [← hyo] at y1
     have HI12 := Aside0.mk (HI10.out.put HW0.out HGW.out j hjo (wrap64 x2))
     have HPT2 : Aside0 (∀ i, i < js.length → (W11.setCell ⟨w.heap.size, j, none⟩ (.int .i64 (wrap64 x2))).cell? (ad.add i) = some (.pointer (some ⟨w.heap.size, js.getD i 0, none⟩))) := ⟨fun i hi => by
       rw [cell_far (by rw [add_block]; show ad.block ≠ w.heap.size; omega)]
       exact HPT1.out i hi⟩
     have HBL2 : Aside0 (ad.block < (W11.setCell ⟨w.heap.size, j, none⟩ (.int .i64 (wrap64 x2))).heap.size) := ⟨by have := HBL1.out; simpa using this⟩
     have HO2 : Aside0 ((o.set j (wrap64 x2)).length = 11 ∧ (o.set j (wrap64 x2)).getD 0 0 = kd) := ⟨by
       have h1 := HO.out
       have h2 := HJB1.out
       refine ⟨by rw [List.length_set]; exact h1.1, ?_⟩
       rw [← h1.2]
       simp only [List.getD_eq_getElem?_getD]
       rw [List.getElem?_set_ne (by omega)]⟩
     obtain ⟨wx, hwx⟩ : ∃ y, y = wrap64 x2 := ⟨_, rfl⟩
     rw [← hwx] at HI12 HPT2 HBL2 HO2 HK3 ⊢
     clear hW11 hyo hb q0 HI10 HPT1 HBL1 hwx HJB1 hjo hba hgw
     go_wp2_with fail
     go_roundw
     case rel => exact ⟨i + 1, p2, o.set j wx, by go_num, by omega, HK3, HI12, HO2, HBL2, HPT2⟩
     case measure => simp [intOf]; omega
   · have b1 : decide ((i : Int) < (js.length : Int)) = false := decide_eq_false (by omega)
     have b1' : decide (i < js.length) = false := decide_eq_false hlt
     have hK := HK.out
     rw [List.drop_of_length_le (by omega), rdN] at hK
     have hd5 := HD5.out
     rw [← hK] at hd5
     have HD6 := Aside0.mk ((if_pos rfl).symm.trans hd5)
     obtain ⟨a0, a1, a2, a3, a4, a5, a6, a7, a8, a9, a10, rfl⟩ := list11 HO.out.1
     obtain rfl : a0 = kd := HO.out.2
     dsimp only at HD6
     have HMS := Aside0.mk HI.out.ms
     have hms := HMS.out
     rw [msg_lit] at hms
     have q0 : wr.cell? ⟨w.heap.size, 0, none⟩ = some (.int .i64 a0) := (blk_cell hms 0).trans rfl
     have q1 : wr.cell? ⟨w.heap.size, 1, none⟩ = some (.int .i64 a1) := (blk_cell hms 1).trans rfl
     have q2 : wr.cell? ⟨w.heap.size, 2, none⟩ = some (.int .i64 a2) := (blk_cell hms 2).trans rfl
     have q3 : wr.cell? ⟨w.heap.size, 3, none⟩ = some (.int .i64 a3) := (blk_cell hms 3).trans rfl
     have q4 : wr.cell? ⟨w.heap.size, 4, none⟩ = some (.int .i64 a4) := (blk_cell hms 4).trans rfl
     have q5 : wr.cell? ⟨w.heap.size, 5, none⟩ = some (.int .i64 a5) := (blk_cell hms 5).trans rfl
     have q6 : wr.cell? ⟨w.heap.size, 6, none⟩ = some (.int .i64 a6) := (blk_cell hms 6).trans rfl
     have q7 : wr.cell? ⟨w.heap.size, 7, none⟩ = some (.int .i64 a7) := (blk_cell hms 7).trans rfl
     have q8 : wr.cell? ⟨w.heap.size, 8, none⟩ = some (.int .i64 a8) := (blk_cell hms 8).trans rfl
     have q9 : wr.cell? ⟨w.heap.size, 9, none⟩ = some (.int .i64 a9) := (blk_cell hms 9).trans rfl
     have q10 : wr.cell? ⟨w.heap.size, 10, none⟩ = some (.int .i64 a10) := (blk_cell hms 10).trans rfl
     have q11 : wr.cell? ⟨w.heap.size, 11, none⟩ = some (.slice none 0 0) := (blk_cell hms 11).trans rfl
     clear hms hK HK hd5 HD5 HPT HBL
     go_wp2_with fail
     go_at_call 32
     refine calls_of_args (args' := #[.agg #[.int .i64 a0, .int .i64 a1, .int .i64 a2, .int .i64 a3, .int .i64 a4, .int .i64 a5, .int .i64 a6, .int .i64 a7, .int .i64 a8, .int .i64 a9, .int .i64 a10, .slice none ([] : List Int).length 0]]) rfl ?_
     with_reducible refine (message_data.calls a0 a1 a2 a3 a4 a5 a6 a7 a8 a9 a10 none 0 [] (decide (a0 = 3 ∨ a0 = 4)) _ (Kd.C_nil _ _) (Nat.le_refl _) ?hd).mono ?_
     case hd =>
       unfold message_data.f
       by_cases h3 : a0 = 3
       · simp [h3]
       · rw [if_neg h3]; congr 1; by_cases h4 : a0 = 4 <;> simp [h4, h3]
     rintro r w12 ⟨rfl, hb⟩
     have HI12 := Aside0.mk (HI.out.below hb)
     clear hb q0 q1 q2 q3 q4 q5 q6 q7 q8 q9 q10 q11 HI HMS
     by_cases hd : a0 = 3 ∨ a0 = 4
     · have d0 : decide (a0 = 3 ∨ a0 = 4) = true := decide_eq_true hd
       have HD7 := (if_pos hd).symm.trans HD6.out
       obtain ⟨tt, htt, hd7⟩ := Option.bind_eq_some_iff.1 HD7
       obtain ⟨D2, p3, e3⟩ := tt
       dsimp only at hd7
       have HTT := Aside0.mk htt
       have HD8 := Aside0.mk hd7
       clear htt hd7 HD6 HD7 hd
       have y0 : w12.cell? ⟨g, 0, none⟩ = some (.slice A l.length c) := (blk_cell HI12.out.rd 0).trans rfl
       have y1 : w12.cell? ⟨g, 1, none⟩ = some (.int .i64 q) := (blk_cell HI12.out.rd 1).trans rfl
       go_wp2_with fail
       clear y0 y1
       obtain ⟨gb, rfl⟩ : ∃ x, x = g := ⟨_, rfl⟩
       go_upto_region 11 with fail
       have HN12 := Aside0.mk HI12.out.le
       refine region_ghost (γ := Value×Nat) (fun i g g' w1 w2 => if i = 8 then g.2 = 0 ∧ g' = (g.1, 1) ∧ w2 = w1 else if i = 9 then g.2 ≠ 2 ∧ 1 ≤ g.2 ∧ g'.2 = 2 ∧ Below w1.heap.size w1 w2 ∧ Kd.R (Kd.int .u8) 5 w2 w12.heap.size (fun _ => True) g'.1 D2 else if i = 15 then g.2 = 2 ∧ g' = g ∧ w2 = w1.setCell ⟨w.heap.size, 11, none⟩ g.1 else if i = 18 then g.2 = 2 ∧ g' = g ∧ w2 = w1.setCell ⟨gb, 1, none⟩ (.int .i64 p3) else RSame g g' w1 w2) (fun g f W => TrX w0 w w12.heap.size gb A l.length c [a0, a1, a2, a3, a4, a5, a6, a7, a8, a9, a10] q p3 D2 g f W) (undef, 0) [(some 50, (fun _ v _ => v = .pointer (some ⟨gb, 0, none⟩))), (some 51, (fun _ v _ => v = .pointer (some ⟨gb, 0, none⟩))), (some 52, (fun _ v _ => v = .pointer (some ⟨gb, 0, none⟩))), (some 53, (fun _ v _ => v = .pointer (some ⟨gb, 0, none⟩))), (some 54, (fun g v W => v = .slice A l.length c)), (some 55, (fun _ v _ => v = .pointer (some ⟨gb, 0, none⟩))), (some 56, (fun _ v _ => v = .pointer (some ⟨gb, 0, none⟩))), (some 57, (fun _ v _ => v = .pointer (some ⟨gb, 1, none⟩))), (some 58, (fun g v W => v = .int .i64 q ∧ 1 ≤ g.2)), (some 59, (fun g v W => v = .tuple #[g.1, .int .i64 p3, .int .i64 e3] ∧ g.2 = 2)), (some 49, (fun g v W => v = .tuple #[g.1, .int .i64 p3, .int .i64 e3] ∧ g.2 = 2)), (some 60, (fun g v W => v = g.1 ∧ g.2 = 2)), (some 61, (fun g v W => v = .int .i64 p3 ∧ g.2 = 2)), (some 62, (fun g v W => v = .int .i64 e3 ∧ g.2 = 2)), (some 63, (fun _ v _ => v = .pointer (some ⟨w.heap.size, 11, none⟩))), (none, (fun g v W => True)), (some 64, (fun _ v _ => v = .pointer (some ⟨gb, 0, none⟩))), (some 65, (fun _ v _ => v = .pointer (some ⟨gb, 1, none⟩))), (none, (fun g v W => True)), (some 5, (fun g v W => v = .int .i64 e3 ∧ g.2 = 2))] (by kernel_rfl) (by kernel_rfl) [50, 51, 52, 53, 54, 55, 56, 57, 58, 59, 49, 60, 61, 62, 63, 64, 65, 5] (by rfl) (by rfl) (by decide) ?hsz ?hst ?hT0 ?hT ?step ?fin
       case hsz => exact show ∀ t ∈ ([50, 51, 52, 53, 54, 55, 56, 57, 58, 59, 49, 60, 61, 62, 63, 64, 65, 5] : List Nat), t < 82 from List.forall_mem_cons.2 ⟨(show 50 < 82 by decide), List.forall_mem_cons.2 ⟨(show 51 < 82 by decide), List.forall_mem_cons.2 ⟨(show 52 < 82 by decide), List.forall_mem_cons.2 ⟨(show 53 < 82 by decide), List.forall_mem_cons.2 ⟨(show 54 < 82 by decide), List.forall_mem_cons.2 ⟨(show 55 < 82 by decide), List.forall_mem_cons.2 ⟨(show 56 < 82 by decide), List.forall_mem_cons.2 ⟨(show 57 < 82 by decide), List.forall_mem_cons.2 ⟨(show 58 < 82 by decide), List.forall_mem_cons.2 ⟨(show 59 < 82 by decide), List.forall_mem_cons.2 ⟨(show 49 < 82 by decide), List.forall_mem_cons.2 ⟨(show 60 < 82 by decide), List.forall_mem_cons.2 ⟨(show 61 < 82 by decide), List.forall_mem_cons.2 ⟨(show 62 < 82 by decide), List.forall_mem_cons.2 ⟨(show 63 < 82 by decide), List.forall_mem_cons.2 ⟨(show 64 < 82 by decide), List.forall_mem_cons.2 ⟨(show 65 < 82 by decide), List.forall_mem_cons.2 ⟨(show 5 < 82 by decide), fun _ h => nomatch h⟩⟩⟩⟩⟩⟩⟩⟩⟩⟩⟩⟩⟩⟩⟩⟩⟩⟩
       case hT0 => exact fun f hf => ⟨⟨_, _, HI12.out.below (below_drew (Below.refl _ _)), fun h => absurd ((hf 15 (by decide)).symm.trans h) (by decide), fun h => absurd ((hf 18 (by decide)).symm.trans h) (by decide), fun _ => rfl⟩, fun h => absurd h (by decide), Nat.le_refl _, fun h => absurd ((hf 18 (by decide)).symm.trans h) (by decide), fun h => absurd ((hf 15 (by decide)).symm.trans h) (by decide), fun h => absurd h (by decide), fun h => absurd h (by decide)⟩
       case hT =>
         intro f i_ g g' w1 w2 hi hfi ht hr
         match i_, hi with
         | 0, _ => exact TrX.same (i := 0) ht hr (by decide)
         | 1, _ => exact TrX.same (i := 1) ht hr (by decide)
         | 2, _ => exact TrX.same (i := 2) ht hr (by decide)
         | 3, _ => exact TrX.same (i := 3) ht hr (by decide)
         | 4, _ => exact TrX.same (i := 4) ht hr (by decide)
         | 5, _ => exact TrX.same (i := 5) ht hr (by decide)
         | 6, _ => exact TrX.same (i := 6) ht hr (by decide)
         | 7, _ => exact TrX.same (i := 7) ht hr (by decide)
         | 8, _ => exact TrX.s8 ht hr
         | 9, _ => exact TrX.s9 ht hr
         | 10, _ => exact TrX.same (i := 10) ht hr (by decide)
         | 11, _ => exact TrX.same (i := 11) ht hr (by decide)
         | 12, _ => exact TrX.same (i := 12) ht hr (by decide)
         | 13, _ => exact TrX.same (i := 13) ht hr (by decide)
         | 14, _ => exact TrX.same (i := 14) ht hr (by decide)
         | 15, _ => exact TrX.s15 HN12.out HW0.out HGW.out rfl ht hr
         | 16, _ => exact TrX.same (i := 16) ht hr (by decide)
         | 17, _ => exact TrX.same (i := 17) ht hr (by decide)
         | 18, _ => exact TrX.s18 HN12.out HG0.out HGW.out ht hr
         | 19, _ => exact TrX.same (i := 19) ht hr (by decide)
         | n_ + 20, hi => exact absurd hi (by show ¬ n_ + 20 < 20; omega)
       case hst =>
         intro i_ j_ q_ hq hij hin
         match i_, hin with
         | 0, _ => exact .inr fun f g g' v w1 w2 _ hr h => RSame.keep (q := q_.2) hr h
         | 1, _ => exact .inr fun f g g' v w1 w2 _ hr h => RSame.keep (q := q_.2) hr h
         | 2, _ => exact .inr fun f g g' v w1 w2 _ hr h => RSame.keep (q := q_.2) hr h
         | 3, _ => exact .inr fun f g g' v w1 w2 _ hr h => RSame.keep (q := q_.2) hr h
         | 4, _ => exact .inr fun f g g' v w1 w2 _ hr h => RSame.keep (q := q_.2) hr h
         | 5, _ => exact .inr fun f g g' v w1 w2 _ hr h => RSame.keep (q := q_.2) hr h
         | 6, _ => exact .inr fun f g g' v w1 w2 _ hr h => RSame.keep (q := q_.2) hr h
         | 7, _ => exact .inr fun f g g' v w1 w2 _ hr h => RSame.keep (q := q_.2) hr h
         | 8, _ =>
          match j_, hq with
          | 0, hq => exact .inr (by obtain rfl := Option.some.inj hq; exact fun f g g' v w1 w2 ht hr h => h)
          | 1, hq => exact .inr (by obtain rfl := Option.some.inj hq; exact fun f g g' v w1 w2 ht hr h => h)
          | 2, hq => exact .inr (by obtain rfl := Option.some.inj hq; exact fun f g g' v w1 w2 ht hr h => h)
          | 3, hq => exact .inr (by obtain rfl := Option.some.inj hq; exact fun f g g' v w1 w2 ht hr h => h)
          | 4, hq => exact .inr (by obtain rfl := Option.some.inj hq; exact fun f g g' v w1 w2 ht hr h => h)
          | 5, hq => exact .inr (by obtain rfl := Option.some.inj hq; exact fun f g g' v w1 w2 ht hr h => h)
          | 6, hq => exact .inr (by obtain rfl := Option.some.inj hq; exact fun f g g' v w1 w2 ht hr h => h)
          | 7, hq => exact .inr (by obtain rfl := Option.some.inj hq; exact fun f g g' v w1 w2 ht hr h => h)
          | 8, hq => exact absurd rfl hij
          | 9, hq => exact .inl (by kernel_rfl)
          | 10, hq => exact .inr (by obtain rfl := Option.some.inj hq; exact fun f g g' v w1 w2 ht hr h => absurd h.2 (by rw [hr.1]; decide))
          | 11, hq => exact .inr (by obtain rfl := Option.some.inj hq; exact fun f g g' v w1 w2 ht hr h => absurd h.2 (by rw [hr.1]; decide))
          | 12, hq => exact .inr (by obtain rfl := Option.some.inj hq; exact fun f g g' v w1 w2 ht hr h => absurd h.2 (by rw [hr.1]; decide))
          | 13, hq => exact .inr (by obtain rfl := Option.some.inj hq; exact fun f g g' v w1 w2 ht hr h => absurd h.2 (by rw [hr.1]; decide))
          | 14, hq => exact .inl (by kernel_rfl)
          | 15, hq => exact .inl (by kernel_rfl)
          | 16, hq => exact .inl (by kernel_rfl)
          | 17, hq => exact .inl (by kernel_rfl)
          | 18, hq => exact .inl (by kernel_rfl)
          | 19, hq => exact .inl (by kernel_rfl)
          | n_ + 20, hq => simp at hq
         | 9, _ =>
          match j_, hq with
          | 0, hq => exact .inr (by obtain rfl := Option.some.inj hq; exact fun f g g' v w1 w2 ht hr h => h)
          | 1, hq => exact .inr (by obtain rfl := Option.some.inj hq; exact fun f g g' v w1 w2 ht hr h => h)
          | 2, hq => exact .inr (by obtain rfl := Option.some.inj hq; exact fun f g g' v w1 w2 ht hr h => h)
          | 3, hq => exact .inr (by obtain rfl := Option.some.inj hq; exact fun f g g' v w1 w2 ht hr h => h)
          | 4, hq => exact .inr (by obtain rfl := Option.some.inj hq; exact fun f g g' v w1 w2 ht hr h => h)
          | 5, hq => exact .inr (by obtain rfl := Option.some.inj hq; exact fun f g g' v w1 w2 ht hr h => h)
          | 6, hq => exact .inr (by obtain rfl := Option.some.inj hq; exact fun f g g' v w1 w2 ht hr h => h)
          | 7, hq => exact .inr (by obtain rfl := Option.some.inj hq; exact fun f g g' v w1 w2 ht hr h => h)
          | 8, hq => exact .inr (by obtain rfl := Option.some.inj hq; exact fun f g g' v w1 w2 ht hr h => ⟨h.1, by rw [hr.2.2.1]; decide⟩)
          | 9, hq => exact absurd rfl hij
          | 10, hq => exact .inl (by kernel_rfl)
          | 11, hq => exact .inr (by obtain rfl := Option.some.inj hq; exact fun f g g' v w1 w2 ht hr h => absurd h.2 hr.1)
          | 12, hq => exact .inr (by obtain rfl := Option.some.inj hq; exact fun f g g' v w1 w2 ht hr h => absurd h.2 hr.1)
          | 13, hq => exact .inr (by obtain rfl := Option.some.inj hq; exact fun f g g' v w1 w2 ht hr h => absurd h.2 hr.1)
          | 14, hq => exact .inl (by kernel_rfl)
          | 15, hq => exact .inl (by kernel_rfl)
          | 16, hq => exact .inl (by kernel_rfl)
          | 17, hq => exact .inl (by kernel_rfl)
          | 18, hq => exact .inl (by kernel_rfl)
          | 19, hq => exact .inl (by kernel_rfl)
          | n_ + 20, hq => simp at hq
         | 10, _ => exact .inr fun f g g' v w1 w2 _ hr h => RSame.keep (q := q_.2) hr h
         | 11, _ => exact .inr fun f g g' v w1 w2 _ hr h => RSame.keep (q := q_.2) hr h
         | 12, _ => exact .inr fun f g g' v w1 w2 _ hr h => RSame.keep (q := q_.2) hr h
         | 13, _ => exact .inr fun f g g' v w1 w2 _ hr h => RSame.keep (q := q_.2) hr h
         | 14, _ => exact .inr fun f g g' v w1 w2 _ hr h => RSame.keep (q := q_.2) hr h
         | 15, _ =>
          match j_, hq with
          | 0, hq => exact .inr (by obtain rfl := Option.some.inj hq; exact fun f g g' v w1 w2 ht hr h => h)
          | 1, hq => exact .inr (by obtain rfl := Option.some.inj hq; exact fun f g g' v w1 w2 ht hr h => h)
          | 2, hq => exact .inr (by obtain rfl := Option.some.inj hq; exact fun f g g' v w1 w2 ht hr h => h)
          | 3, hq => exact .inr (by obtain rfl := Option.some.inj hq; exact fun f g g' v w1 w2 ht hr h => h)
          | 4, hq => exact .inr (by obtain rfl := Option.some.inj hq; exact fun f g g' v w1 w2 ht hr h => h)
          | 5, hq => exact .inr (by obtain rfl := Option.some.inj hq; exact fun f g g' v w1 w2 ht hr h => h)
          | 6, hq => exact .inr (by obtain rfl := Option.some.inj hq; exact fun f g g' v w1 w2 ht hr h => h)
          | 7, hq => exact .inr (by obtain rfl := Option.some.inj hq; exact fun f g g' v w1 w2 ht hr h => h)
          | 8, hq => exact .inr (by obtain rfl := Option.some.inj hq; exact fun f g g' v w1 w2 ht hr h => hr.2.1 ▸ h)
          | 9, hq => exact .inr (by obtain rfl := Option.some.inj hq; exact fun f g g' v w1 w2 ht hr h => hr.2.1 ▸ h)
          | 10, hq => exact .inr (by obtain rfl := Option.some.inj hq; exact fun f g g' v w1 w2 ht hr h => hr.2.1 ▸ h)
          | 11, hq => exact .inr (by obtain rfl := Option.some.inj hq; exact fun f g g' v w1 w2 ht hr h => hr.2.1 ▸ h)
          | 12, hq => exact .inr (by obtain rfl := Option.some.inj hq; exact fun f g g' v w1 w2 ht hr h => hr.2.1 ▸ h)
          | 13, hq => exact .inr (by obtain rfl := Option.some.inj hq; exact fun f g g' v w1 w2 ht hr h => hr.2.1 ▸ h)
          | 14, hq => exact .inr (by obtain rfl := Option.some.inj hq; exact fun f g g' v w1 w2 ht hr h => h)
          | 15, hq => exact absurd rfl hij
          | 16, hq => exact .inl (by kernel_rfl)
          | 17, hq => exact .inl (by kernel_rfl)
          | 18, hq => exact .inl (by kernel_rfl)
          | 19, hq => exact .inl (by kernel_rfl)
          | n_ + 20, hq => simp at hq
         | 16, _ => exact .inr fun f g g' v w1 w2 _ hr h => RSame.keep (q := q_.2) hr h
         | 17, _ => exact .inr fun f g g' v w1 w2 _ hr h => RSame.keep (q := q_.2) hr h
         | 18, _ =>
          match j_, hq with
          | 0, hq => exact .inr (by obtain rfl := Option.some.inj hq; exact fun f g g' v w1 w2 ht hr h => h)
          | 1, hq => exact .inr (by obtain rfl := Option.some.inj hq; exact fun f g g' v w1 w2 ht hr h => h)
          | 2, hq => exact .inr (by obtain rfl := Option.some.inj hq; exact fun f g g' v w1 w2 ht hr h => h)
          | 3, hq => exact .inr (by obtain rfl := Option.some.inj hq; exact fun f g g' v w1 w2 ht hr h => h)
          | 4, hq => exact .inr (by obtain rfl := Option.some.inj hq; exact fun f g g' v w1 w2 ht hr h => h)
          | 5, hq => exact .inr (by obtain rfl := Option.some.inj hq; exact fun f g g' v w1 w2 ht hr h => h)
          | 6, hq => exact .inr (by obtain rfl := Option.some.inj hq; exact fun f g g' v w1 w2 ht hr h => h)
          | 7, hq => exact .inr (by obtain rfl := Option.some.inj hq; exact fun f g g' v w1 w2 ht hr h => h)
          | 8, hq => exact .inr (by obtain rfl := Option.some.inj hq; exact fun f g g' v w1 w2 ht hr h => hr.2.1 ▸ h)
          | 9, hq => exact .inr (by obtain rfl := Option.some.inj hq; exact fun f g g' v w1 w2 ht hr h => hr.2.1 ▸ h)
          | 10, hq => exact .inr (by obtain rfl := Option.some.inj hq; exact fun f g g' v w1 w2 ht hr h => hr.2.1 ▸ h)
          | 11, hq => exact .inr (by obtain rfl := Option.some.inj hq; exact fun f g g' v w1 w2 ht hr h => hr.2.1 ▸ h)
          | 12, hq => exact .inr (by obtain rfl := Option.some.inj hq; exact fun f g g' v w1 w2 ht hr h => hr.2.1 ▸ h)
          | 13, hq => exact .inr (by obtain rfl := Option.some.inj hq; exact fun f g g' v w1 w2 ht hr h => hr.2.1 ▸ h)
          | 14, hq => exact .inr (by obtain rfl := Option.some.inj hq; exact fun f g g' v w1 w2 ht hr h => h)
          | 15, hq => exact .inr (by obtain rfl := Option.some.inj hq; exact fun f g g' v w1 w2 ht hr h => h)
          | 16, hq => exact .inr (by obtain rfl := Option.some.inj hq; exact fun f g g' v w1 w2 ht hr h => h)
          | 17, hq => exact .inr (by obtain rfl := Option.some.inj hq; exact fun f g g' v w1 w2 ht hr h => h)
          | 18, hq => exact absurd rfl hij
          | 19, hq => exact .inl (by kernel_rfl)
          | n_ + 20, hq => simp at hq
         | 19, _ => exact .inr fun f g g' v w1 w2 _ hr h => RSame.keep (q := q_.2) hr h
         | n_ + 20, hin => exact absurd hin (by show ¬ n_ + 20 < 20; omega)
       case step =>
         intro i_ o_ e_ ho he f g a w1_ hfi hs hdf hfr htr hpre
         try dsimp only
         match i_, ho, he, hfi with
         | 0, ho, he, hfi => obtain rfl : o_ = ⟨_, _, _, _, _, _⟩ := (Option.some.inj ho).symm; obtain rfl := Option.some.inj he; clear he; have f0 : a.tmps.getD 0 undef = .pointer (some ⟨gb, 0, none⟩) := (by rw [Array.getD_eq_getD_getElem?, hfr 0 (show ¬ 0 ∈ ([50, 51, 52, 53, 54, 55, 56, 57, 58, 59, 49, 60, 61, 62, 63, 64, 65, 5] : List Nat) by decide)]; rfl); clear hpre hfr; refine wpOp_value (v := .pointer (some ⟨gb, 0, none⟩)) ho rfl ?_ ⟨_, g, rfl, rfl, RSame.mk rfl rfl⟩; simp only [execOp, Act.eval, List.map_toArray, List.map_cons, List.map_nil, f0]; first | rfl | (go_simp; done) | (go_simp; rfl) | (go_simp; intro h_; exfalso; omega)
         | 1, ho, he, hfi => obtain rfl : o_ = ⟨_, _, _, _, _, _⟩ := (Option.some.inj ho).symm; obtain rfl := Option.some.inj he; clear he; have f0 : a.tmps.getD 0 undef = .pointer (some ⟨gb, 0, none⟩) := (by rw [Array.getD_eq_getD_getElem?, hfr 0 (show ¬ 0 ∈ ([50, 51, 52, 53, 54, 55, 56, 57, 58, 59, 49, 60, 61, 62, 63, 64, 65, 5] : List Nat) by decide)]; rfl); clear hpre hfr; refine wpOp_value (v := .pointer (some ⟨gb, 0, none⟩)) ho rfl ?_ ⟨_, g, rfl, rfl, RSame.mk rfl rfl⟩; simp only [execOp, Act.eval, List.map_toArray, List.map_cons, List.map_nil, f0]; first | rfl | (go_simp; done) | (go_simp; rfl) | (go_simp; intro h_; exfalso; omega)
         | 2, ho, he, hfi => obtain rfl : o_ = ⟨_, _, _, _, _, _⟩ := (Option.some.inj ho).symm; obtain rfl := Option.some.inj he; clear he; obtain ⟨ef51, v51_, e51, ev51⟩ := hpre ⟨1, .data⟩ (by simp) rfl _ rfl; replace ev51 := ev51 _ rfl; subst ev51; have e51 : a.tmps.getD 51 undef = .pointer (some ⟨gb, 0, none⟩) := e51; clear hpre hfr; refine wpOp_value (v := .pointer (some ⟨gb, 0, none⟩)) ho rfl ?_ ⟨_, g, rfl, rfl, RSame.mk rfl rfl⟩; simp only [execOp, Act.eval, List.map_toArray, List.map_cons, List.map_nil, e51]; first | rfl | (go_simp; done) | (go_simp; rfl) | (go_simp; intro h_; exfalso; omega)
         | 3, ho, he, hfi => obtain rfl : o_ = ⟨_, _, _, _, _, _⟩ := (Option.some.inj ho).symm; obtain rfl := Option.some.inj he; clear he; obtain ⟨ef52, v52_, e52, ev52⟩ := hpre ⟨2, .data⟩ (by simp) rfl _ rfl; replace ev52 := ev52 _ rfl; subst ev52; have e52 : a.tmps.getD 52 undef = .pointer (some ⟨gb, 0, none⟩) := e52; clear hpre hfr; refine wpOp_value (v := .pointer (some ⟨gb, 0, none⟩)) ho rfl ?_ ⟨_, g, rfl, rfl, RSame.mk rfl rfl⟩; simp only [execOp, Act.eval, List.map_toArray, List.map_cons, List.map_nil, e52]; first | rfl | (go_simp; done) | (go_simp; rfl) | (go_simp; intro h_; exfalso; omega)
         | 4, ho, he, hfi => obtain rfl : o_ = ⟨_, _, _, _, _, _⟩ := (Option.some.inj ho).symm; obtain rfl := Option.some.inj he; clear he; obtain ⟨ef53, v53_, e53, ev53⟩ := hpre ⟨3, .data⟩ (by simp) rfl _ rfl; replace ev53 := ev53 _ rfl; subst ev53; have e53 : a.tmps.getD 53 undef = .pointer (some ⟨gb, 0, none⟩) := e53; clear hpre hfr; obtain ⟨D, p', b1, b2, b3, b4⟩ := htr.inv; have k0 : w1_.cell? ⟨gb, 0, none⟩ = some (.slice A l.length c) := (blk_cell b1.rd 0).trans rfl; refine wpOp_value (v := .slice A l.length c) ho rfl ?_ ⟨_, g, rfl, rfl, RSame.mk rfl rfl⟩; simp only [execOp, Act.eval, e53]; first | rfl | (go_simp; done) | (go_simp; rfl)
         | 5, ho, he, hfi => obtain rfl : o_ = ⟨_, _, _, _, _, _⟩ := (Option.some.inj ho).symm; obtain rfl := Option.some.inj he; clear he; have f0 : a.tmps.getD 0 undef = .pointer (some ⟨gb, 0, none⟩) := (by rw [Array.getD_eq_getD_getElem?, hfr 0 (show ¬ 0 ∈ ([50, 51, 52, 53, 54, 55, 56, 57, 58, 59, 49, 60, 61, 62, 63, 64, 65, 5] : List Nat) by decide)]; rfl); clear hpre hfr; refine wpOp_value (v := .pointer (some ⟨gb, 0, none⟩)) ho rfl ?_ ⟨_, g, rfl, rfl, RSame.mk rfl rfl⟩; simp only [execOp, Act.eval, List.map_toArray, List.map_cons, List.map_nil, f0]; first | rfl | (go_simp; done) | (go_simp; rfl) | (go_simp; intro h_; exfalso; omega)
         | 6, ho, he, hfi => obtain rfl : o_ = ⟨_, _, _, _, _, _⟩ := (Option.some.inj ho).symm; obtain rfl := Option.some.inj he; clear he; obtain ⟨ef55, v55_, e55, ev55⟩ := hpre ⟨5, .data⟩ (by simp) rfl _ rfl; replace ev55 := ev55 _ rfl; subst ev55; have e55 : a.tmps.getD 55 undef = .pointer (some ⟨gb, 0, none⟩) := e55; clear hpre hfr; refine wpOp_value (v := .pointer (some ⟨gb, 0, none⟩)) ho rfl ?_ ⟨_, g, rfl, rfl, RSame.mk rfl rfl⟩; simp only [execOp, Act.eval, List.map_toArray, List.map_cons, List.map_nil, e55]; first | rfl | (go_simp; done) | (go_simp; rfl) | (go_simp; intro h_; exfalso; omega)
         | 7, ho, he, hfi => obtain rfl : o_ = ⟨_, _, _, _, _, _⟩ := (Option.some.inj ho).symm; obtain rfl := Option.some.inj he; clear he; obtain ⟨ef56, v56_, e56, ev56⟩ := hpre ⟨6, .data⟩ (by simp) rfl _ rfl; replace ev56 := ev56 _ rfl; subst ev56; have e56 : a.tmps.getD 56 undef = .pointer (some ⟨gb, 0, none⟩) := e56; clear hpre hfr; refine wpOp_value (v := .pointer (some ⟨gb, 1, none⟩)) ho rfl ?_ ⟨_, g, rfl, rfl, RSame.mk rfl rfl⟩; simp only [execOp, Act.eval, List.map_toArray, List.map_cons, List.map_nil, e56]; first | rfl | (go_simp; done) | (go_simp; rfl) | (go_simp; intro h_; exfalso; omega)
         | 8, ho, he, hfi =>
          obtain rfl : o_ = ⟨_, _, _, _, _, _⟩ := (Option.some.inj ho).symm
          obtain rfl := Option.some.inj he; clear he
          obtain ⟨ef57, v57_, e57, ev57⟩ := hpre ⟨7, .data⟩ (by simp) rfl _ rfl
          replace ev57 := ev57 _ rfl; subst ev57
          have e57 : a.tmps.getD 57 undef = .pointer (some ⟨gb, 1, none⟩) := e57
          clear hpre hfr
          obtain ⟨D, p', b1, b2, b3, b4⟩ := htr.inv
          have hg2 : g.2 = 0 := by
           apply Classical.byContradiction
           intro hn
           have := htr.l3 (by omega)
           rw [hfi] at this
           cases this
          have h18 : f 18 = false := by
           apply Classical.byContradiction
           intro hn
           have := htr.l1 (by simpa using hn)
           omega
          obtain rfl := b4 h18
          have k1 : w1_.cell? ⟨gb, 1, none⟩ = some (.int .i64 p') := (blk_cell b1.rd 1).trans rfl
          refine wpOp_value (v := .int .i64 p') ho rfl ?_ ⟨_, (g.1, 1), rfl, ⟨rfl, Nat.le_refl _⟩, hg2, rfl, rfl⟩
          simp only [execOp, Act.eval, e57]
          first | rfl | (go_simp; done) | (go_simp; rfl)
         | 9, ho, he, hfi =>
          obtain rfl : o_ = ⟨_, _, _, _, _, _⟩ := (Option.some.inj ho).symm
          obtain rfl := Option.some.inj he; clear he
          obtain ⟨ef54, v54_, e54, ev54⟩ := hpre ⟨4, .data⟩ (by simp) rfl _ rfl
          replace ev54 := ev54 _ rfl; subst ev54
          try dsimp only at e54
          obtain ⟨ef58, v58_, e58, ev58⟩ := hpre ⟨8, .data⟩ (by simp) rfl _ rfl
          replace ev58 := ev58 _ rfl; subst ev58
          try dsimp only at e58
          clear hpre hfr
          obtain ⟨D, p', b1, b2, b3, b4⟩ := htr.inv
          have hg2 : g.2 ≠ 2 := fun hn => by
           have := htr.l4 hn
           rw [hfi] at this
           cases this
          refine wpOp_call (fn := Try.f56) ho rfl rfl rfl rfl #[.slice A l.length c, .int .i64 q, .int .i64 1024] rfl (by simp only [List.map_toArray, List.map_cons, List.map_nil, Act.eval, e54, e58.1]) ?_
          refine (varint_Text.calls k A c l q 1024 D2 p3 e3 w1_ (Kd.C_below HR.out b1.bel) HC.out HTT.out).mono ?_
          rintro e w2 ⟨v3, rfl, hr3, hb⟩
          exact ⟨_, rfl, ⟨_, (v3, 2), rfl, ⟨rfl, rfl⟩, hg2, e58.2, rfl, hb, Kd.R_lower hr3 htr.le⟩⟩
         | 10, ho, he, hfi => obtain rfl : o_ = ⟨_, _, _, _, _, _⟩ := (Option.some.inj ho).symm; obtain rfl := Option.some.inj he; clear he; obtain ⟨ef59, v59_, e59, ev59⟩ := hpre ⟨9, .data⟩ (by simp) rfl _ rfl; replace ev59 := ev59 _ rfl; subst ev59; try dsimp only at e59; clear hpre hfr; refine wpOp_value (v := .tuple #[g.1, .int .i64 p3, .int .i64 e3]) ho rfl ?_ ⟨_, g, rfl, ⟨rfl, e59.2⟩, RSame.mk rfl rfl⟩; simp only [execOp, Act.eval, e59.1]; first | rfl | (go_simp; done) | (go_simp; rfl)
         | 11, ho, he, hfi => obtain rfl : o_ = ⟨_, _, _, _, _, _⟩ := (Option.some.inj ho).symm; obtain rfl := Option.some.inj he; clear he; obtain ⟨ef49, v49_, e49, ev49⟩ := hpre ⟨10, .data⟩ (by simp) rfl _ rfl; replace ev49 := ev49 _ rfl; subst ev49; try dsimp only at e49; clear hpre hfr; refine wpOp_value (v := g.1) ho rfl ?_ ⟨_, g, rfl, ⟨rfl, e49.2⟩, RSame.mk rfl rfl⟩; simp only [execOp, Act.eval, e49.1]; first | rfl | (go_simp; done) | (go_simp; rfl)
         | 12, ho, he, hfi => obtain rfl : o_ = ⟨_, _, _, _, _, _⟩ := (Option.some.inj ho).symm; obtain rfl := Option.some.inj he; clear he; obtain ⟨ef49, v49_, e49, ev49⟩ := hpre ⟨10, .data⟩ (by simp) rfl _ rfl; replace ev49 := ev49 _ rfl; subst ev49; try dsimp only at e49; clear hpre hfr; refine wpOp_value (v := .int .i64 p3) ho rfl ?_ ⟨_, g, rfl, ⟨rfl, e49.2⟩, RSame.mk rfl rfl⟩; simp only [execOp, Act.eval, e49.1]; first | rfl | (go_simp; done) | (go_simp; rfl)
         | 13, ho, he, hfi => obtain rfl : o_ = ⟨_, _, _, _, _, _⟩ := (Option.some.inj ho).symm; obtain rfl := Option.some.inj he; clear he; obtain ⟨ef49, v49_, e49, ev49⟩ := hpre ⟨10, .data⟩ (by simp) rfl _ rfl; replace ev49 := ev49 _ rfl; subst ev49; try dsimp only at e49; clear hpre hfr; refine wpOp_value (v := .int .i64 e3) ho rfl ?_ ⟨_, g, rfl, ⟨rfl, e49.2⟩, RSame.mk rfl rfl⟩; simp only [execOp, Act.eval, e49.1]; first | rfl | (go_simp; done) | (go_simp; rfl)
         | 14, ho, he, hfi => obtain rfl : o_ = ⟨_, _, _, _, _, _⟩ := (Option.some.inj ho).symm; obtain rfl := Option.some.inj he; clear he; have f2 : a.tmps.getD 2 undef = .pointer (some ⟨w.heap.size, 0, none⟩) := (by rw [Array.getD_eq_getD_getElem?, hfr 2 (show ¬ 2 ∈ ([50, 51, 52, 53, 54, 55, 56, 57, 58, 59, 49, 60, 61, 62, 63, 64, 65, 5] : List Nat) by decide)]; rfl); clear hpre hfr; refine wpOp_value (v := .pointer (some ⟨w.heap.size, 11, none⟩)) ho rfl ?_ ⟨_, g, rfl, rfl, RSame.mk rfl rfl⟩; simp only [execOp, Act.eval, List.map_toArray, List.map_cons, List.map_nil, f2]; first | rfl | (go_simp; done) | (go_simp; rfl) | (go_simp; intro h_; exfalso; omega)
         | 15, ho, he, hfi => obtain rfl : o_ = ⟨_, _, _, _, _, _⟩ := (Option.some.inj ho).symm; obtain rfl := Option.some.inj he; clear he; obtain ⟨ef63, v63_, e63, ev63⟩ := hpre ⟨14, .data⟩ (by simp) rfl _ rfl; replace ev63 := ev63 _ rfl; subst ev63; have e63 : a.tmps.getD 63 undef = .pointer (some ⟨w.heap.size, 11, none⟩) := e63; obtain ⟨ef60, v60_, e60, ev60⟩ := hpre ⟨11, .data⟩ (by simp) rfl _ rfl; replace ev60 := ev60 _ rfl; subst ev60; try dsimp only at e60; obtain ⟨ef59, v59_, e59, ev59⟩ := hpre ⟨9, .chain⟩ (by simp) rfl _ rfl; replace ev59 := ev59 _ rfl; subst ev59; try dsimp only at e59; clear hpre hfr; obtain ⟨D, p', b1, b2, b3, b4⟩ := htr.inv; have k0 : w1_.cell? ⟨w.heap.size, 11, none⟩ = some D := (blk_cell b1.ms 11).trans rfl; have k1 := blk_frozen b1.ms 11; obtain ⟨A3, c3, e3v⟩ := Kd.R_slice (htr.r e60.2); have e60' := e60.1.trans e3v; refine wpOp_skip (w1 := w1_.setCell ⟨w.heap.size, 11, none⟩ (.slice A3 D2.length c3)) ho rfl ?_ ⟨undef, g, rfl, trivial, e60.2, rfl, by rw [e3v]⟩; simp only [execOp, Act.eval, e63, e60']; first | rfl | (go_simp; done) | (go_simp; rfl)
         | 16, ho, he, hfi => obtain rfl : o_ = ⟨_, _, _, _, _, _⟩ := (Option.some.inj ho).symm; obtain rfl := Option.some.inj he; clear he; obtain ⟨ef50, v50_, e50, ev50⟩ := hpre ⟨0, .data⟩ (by simp) rfl _ rfl; replace ev50 := ev50 _ rfl; subst ev50; have e50 : a.tmps.getD 50 undef = .pointer (some ⟨gb, 0, none⟩) := e50; clear hpre hfr; refine wpOp_value (v := .pointer (some ⟨gb, 0, none⟩)) ho rfl ?_ ⟨_, g, rfl, rfl, RSame.mk rfl rfl⟩; simp only [execOp, Act.eval, List.map_toArray, List.map_cons, List.map_nil, e50]; first | rfl | (go_simp; done) | (go_simp; rfl) | (go_simp; intro h_; exfalso; omega)
         | 17, ho, he, hfi => obtain rfl : o_ = ⟨_, _, _, _, _, _⟩ := (Option.some.inj ho).symm; obtain rfl := Option.some.inj he; clear he; obtain ⟨ef64, v64_, e64, ev64⟩ := hpre ⟨16, .data⟩ (by simp) rfl _ rfl; replace ev64 := ev64 _ rfl; subst ev64; have e64 : a.tmps.getD 64 undef = .pointer (some ⟨gb, 0, none⟩) := e64; clear hpre hfr; refine wpOp_value (v := .pointer (some ⟨gb, 1, none⟩)) ho rfl ?_ ⟨_, g, rfl, rfl, RSame.mk rfl rfl⟩; simp only [execOp, Act.eval, List.map_toArray, List.map_cons, List.map_nil, e64]; first | rfl | (go_simp; done) | (go_simp; rfl) | (go_simp; intro h_; exfalso; omega)
         | 18, ho, he, hfi => obtain rfl : o_ = ⟨_, _, _, _, _, _⟩ := (Option.some.inj ho).symm; obtain rfl := Option.some.inj he; clear he; obtain ⟨ef65, v65_, e65, ev65⟩ := hpre ⟨17, .data⟩ (by simp) rfl _ rfl; replace ev65 := ev65 _ rfl; subst ev65; have e65 : a.tmps.getD 65 undef = .pointer (some ⟨gb, 1, none⟩) := e65; obtain ⟨ef61, v61_, e61, ev61⟩ := hpre ⟨12, .data⟩ (by simp) rfl _ rfl; replace ev61 := ev61 _ rfl; subst ev61; try dsimp only at e61; clear hpre hfr; obtain ⟨D, p', b1, b2, b3, b4⟩ := htr.inv; have k0 : w1_.cell? ⟨gb, 1, none⟩ = some (.int .i64 p') := (blk_cell b1.rd 1).trans rfl; have k1 := blk_frozen b1.rd 1; refine wpOp_skip (w1 := w1_.setCell ⟨gb, 1, none⟩ (.int .i64 p3)) ho rfl ?_ ⟨undef, g, rfl, trivial, e61.2, rfl, rfl⟩; simp only [execOp, Act.eval, e65, e61.1]; first | rfl | (go_simp; done) | (go_simp; rfl)
         | 19, ho, he, hfi => obtain rfl : o_ = ⟨_, _, _, _, _, _⟩ := (Option.some.inj ho).symm; obtain rfl := Option.some.inj he; clear he; obtain ⟨ef62, v62_, e62, ev62⟩ := hpre ⟨13, .data⟩ (by simp) rfl _ rfl; replace ev62 := ev62 _ rfl; subst ev62; try dsimp only at e62; clear hpre hfr; refine wpOp_value (v := .int .i64 e3) ho rfl ?_ ⟨_, g, rfl, ⟨rfl, e62.2⟩, RSame.mk rfl rfl⟩; simp only [execOp, Act.eval, e62.1]; first | rfl | (go_simp; done) | (go_simp; rfl)
         | n_ + 20, ho, he, hfi => simp at he
       case fin =>
         intro xv_ gz f_ w1_ hall htr hx
         simp only [List.forall_mem_cons] at hx
         obtain ⟨⟨z50_, z50, y50⟩, ⟨z51_, z51, y51⟩, ⟨z52_, z52, y52⟩, ⟨z53_, z53, y53⟩, ⟨z54_, z54, y54⟩, ⟨z55_, z55, y55⟩, ⟨z56_, z56, y56⟩, ⟨z57_, z57, y57⟩, ⟨z58_, z58, y58⟩, ⟨z59_, z59, y59⟩, ⟨z49_, z49, y49⟩, ⟨z60_, z60, y60⟩, ⟨z61_, z61, y61⟩, ⟨z62_, z62, y62⟩, ⟨z63_, z63, y63⟩, ⟨_, w15, _⟩, ⟨z64_, z64, y64⟩, ⟨z65_, z65, y65⟩, ⟨_, w18, _⟩, ⟨z5_, z5, y5⟩, _⟩ := hx
         replace y50 := y50 _ rfl; subst y50
         have x50 : xv_ 50 = .pointer (some ⟨gb, 0, none⟩) := z50
         replace y51 := y51 _ rfl; subst y51
         have x51 : xv_ 51 = .pointer (some ⟨gb, 0, none⟩) := z51
         replace y52 := y52 _ rfl; subst y52
         have x52 : xv_ 52 = .pointer (some ⟨gb, 0, none⟩) := z52
         replace y53 := y53 _ rfl; subst y53
         have x53 : xv_ 53 = .pointer (some ⟨gb, 0, none⟩) := z53
         replace y54 := y54 _ rfl; subst y54
         have x54 := z54; try dsimp only at x54
         replace y55 := y55 _ rfl; subst y55
         have x55 : xv_ 55 = .pointer (some ⟨gb, 0, none⟩) := z55
         replace y56 := y56 _ rfl; subst y56
         have x56 : xv_ 56 = .pointer (some ⟨gb, 0, none⟩) := z56
         replace y57 := y57 _ rfl; subst y57
         have x57 : xv_ 57 = .pointer (some ⟨gb, 1, none⟩) := z57
         replace y58 := y58 _ rfl; subst y58
         obtain ⟨x58, _⟩ := z58
         replace y59 := y59 _ rfl; subst y59
         obtain ⟨x59, _⟩ := z59
         replace y49 := y49 _ rfl; subst y49
         obtain ⟨x49, _⟩ := z49
         replace y60 := y60 _ rfl; subst y60
         obtain ⟨x60, _⟩ := z60
         replace y61 := y61 _ rfl; subst y61
         obtain ⟨x61, _⟩ := z61
         replace y62 := y62 _ rfl; subst y62
         obtain ⟨x62, _⟩ := z62
         replace y63 := y63 _ rfl; subst y63
         have x63 : xv_ 63 = .pointer (some ⟨w.heap.size, 11, none⟩) := z63
         replace y64 := y64 _ rfl; subst y64
         have x64 : xv_ 64 = .pointer (some ⟨gb, 0, none⟩) := z64
         replace y65 := y65 _ rfl; subst y65
         have x65 : xv_ 65 = .pointer (some ⟨gb, 1, none⟩) := z65
         replace y5 := y5 _ rfl; subst y5
         obtain ⟨x5, _⟩ := z5
         obtain _ := w15
         obtain _ := w18
         simp only [List.map_cons, List.map_nil, putL, Act.put, List.setIfInBounds_toArray, List.set_cons_zero, List.set_cons_succ, x50, x51, x52, x53, x54, x55, x56, x57, x58, x59, x49, x60, x61, x62, x63, x64, x65, x5]
         clear x50 x51 x52 x53 x54 x55 x56 x57 x58 x59 x49 x60 x61 x62 x63 x64 x65 x5 z50 z51 z52 z53 z54 z55 z56 z57 z63 z64 z65
         obtain ⟨D9, p9, b1, b2, b3, _⟩ := htr.inv
         obtain rfl := b2 (hall 15)
         obtain rfl := (b3 (hall 18)).symm
         have hg2 := htr.l2 (hall 15)
         obtain ⟨A3, c3, hvd⟩ := Kd.R_slice (htr.r hg2)
         have hrr := htr.r hg2
         rw [hvd] at b1 hrr
         have HI15 := Aside0.mk b1
         have HR13 := Aside0.mk hrr
         rw [hvd]
         clear htr hall b1 b2 b3 hrr hvd hg2
         go_wp2_with fail
         go_at_call 53
         with_reducible refine (message_need (e3 == 0) e3 _).mono ?_
         rintro r w13 ⟨rfl, rfl⟩
         by_cases he : e3 = 0
         case neg =>
          rw [if_neg (by simpa using he)]
          obtain rfl := Option.some.inj ((if_neg he).symm.trans HD8.out)
          exact ⟨rfl, show MsgAt w0 w gb _ _ _ from ⟨by rw [if_neg he], HI15.out.bel, HI15.out.keep⟩⟩
         rw [if_pos (by simpa using he)]
         have HD7 := Aside0.mk ((if_pos he).symm.trans HD8.out)
         clear HD8 he
         have y0 : w13.cell? ⟨gb, 0, none⟩ = some (.slice A l.length c) := (blk_cell HI15.out.rd 0).trans rfl
         have y1 : w13.cell? ⟨gb, 1, none⟩ = some (.int .i64 p3) := (blk_cell HI15.out.rd 1).trans rfl
         go_wp2_with fail
         refine region_tail (B := _) (w0 := _) 10 [(70, (fun v _ => v = .pointer (some ⟨gb, 0, none⟩))), (71, (fun v _ => v = .pointer (some ⟨gb, 0, none⟩))), (72, (fun v _ => v = .pointer (some ⟨gb, 1, none⟩))), (73, (fun v _ => v = .int .i64 p3)), (74, (fun v _ => v = .pointer (some ⟨gb, 0, none⟩))), (75, (fun v _ => v = .pointer (some ⟨gb, 0, none⟩))), (76, (fun v _ => v = .pointer (some ⟨gb, 0, none⟩))), (77, (fun v _ => v = .slice A l.length c)), (78, (fun v _ => v = .int .i64 (l.length : Int))), (79, (fun v _ => v = .bool (p3 == (l.length : Int))))] (by kernel_rfl) (by kernel_rfl) (by decide) (by kernel_rfl) (by kernel_rfl) (by rfl) (show ([70, 71, 72, 73, 74, 75, 76, 77, 78, 79] : List Nat).Nodup by decide) ?hsz ?hst (Below.refl _ _) (Nat.le_refl _) ?step ?fin
         case hsz => exact List.forall_mem_cons.2 ⟨(show 70 < 82 by decide), List.forall_mem_cons.2 ⟨(show 71 < 82 by decide), List.forall_mem_cons.2 ⟨(show 72 < 82 by decide), List.forall_mem_cons.2 ⟨(show 73 < 82 by decide), List.forall_mem_cons.2 ⟨(show 74 < 82 by decide), List.forall_mem_cons.2 ⟨(show 75 < 82 by decide), List.forall_mem_cons.2 ⟨(show 76 < 82 by decide), List.forall_mem_cons.2 ⟨(show 77 < 82 by decide), List.forall_mem_cons.2 ⟨(show 78 < 82 by decide), List.forall_mem_cons.2 ⟨(show 79 < 82 by decide), fun _ h => nomatch h⟩⟩⟩⟩⟩⟩⟩⟩⟩⟩
         case hst => exact List.forall_mem_cons.2 ⟨(fun v w1 w2 hb h => h), List.forall_mem_cons.2 ⟨(fun v w1 w2 hb h => h), List.forall_mem_cons.2 ⟨(fun v w1 w2 hb h => h), List.forall_mem_cons.2 ⟨(fun v w1 w2 hb h => h), List.forall_mem_cons.2 ⟨(fun v w1 w2 hb h => h), List.forall_mem_cons.2 ⟨(fun v w1 w2 hb h => h), List.forall_mem_cons.2 ⟨(fun v w1 w2 hb h => h), List.forall_mem_cons.2 ⟨(fun v w1 w2 hb h => h), List.forall_mem_cons.2 ⟨(fun v w1 w2 hb h => h), List.forall_mem_cons.2 ⟨(fun v w1 w2 hb h => h), fun _ h => nomatch h⟩⟩⟩⟩⟩⟩⟩⟩⟩⟩
         case step =>
          intro i_ o_ e_ ho he a w1_ hs hdf hfr hbl hbs hpre
          match i_, ho, he with
          | 0, ho, he => obtain rfl : o_ = ⟨_, _, _, _, _, _⟩ := (Option.some.inj ho).symm; obtain rfl := Option.some.inj he; clear he; have f0 : a.tmps.getD 0 undef = .pointer (some ⟨gb, 0, none⟩) := (by rw [Array.getD_eq_getD_getElem?, hfr 0 (show ¬ 0 ∈ ([70, 71, 72, 73, 74, 75, 76, 77, 78, 79] : List Nat) by decide)]; rfl); clear hpre hfr; refine wpOp_value (v := .pointer (some ⟨gb, 0, none⟩)) ho rfl ?_ ⟨_, rfl, rfl, Below.refl _ _⟩; simp only [execOp, Act.eval, List.map_toArray, List.map_cons, List.map_nil, f0]; first | rfl | (go_simp; done) | (go_simp; rfl) | (go_simp; intro h_; exfalso; omega)
          | 1, ho, he => obtain rfl : o_ = ⟨_, _, _, _, _, _⟩ := (Option.some.inj ho).symm; obtain rfl := Option.some.inj he; clear he; have e70 : a.tmps.getD 70 undef = .pointer (some ⟨gb, 0, none⟩) := hpre ⟨0, .data⟩ (by simp) rfl _ rfl; clear hpre hfr; refine wpOp_value (v := .pointer (some ⟨gb, 0, none⟩)) ho rfl ?_ ⟨_, rfl, rfl, Below.refl _ _⟩; simp only [execOp, Act.eval, List.map_toArray, List.map_cons, List.map_nil, e70]; first | rfl | (go_simp; done) | (go_simp; rfl) | (go_simp; intro h_; exfalso; omega)
          | 2, ho, he => obtain rfl : o_ = ⟨_, _, _, _, _, _⟩ := (Option.some.inj ho).symm; obtain rfl := Option.some.inj he; clear he; have e71 : a.tmps.getD 71 undef = .pointer (some ⟨gb, 0, none⟩) := hpre ⟨1, .data⟩ (by simp) rfl _ rfl; clear hpre hfr; refine wpOp_value (v := .pointer (some ⟨gb, 1, none⟩)) ho rfl ?_ ⟨_, rfl, rfl, Below.refl _ _⟩; simp only [execOp, Act.eval, List.map_toArray, List.map_cons, List.map_nil, e71]; first | rfl | (go_simp; done) | (go_simp; rfl) | (go_simp; intro h_; exfalso; omega)
          | 3, ho, he => obtain rfl : o_ = ⟨_, _, _, _, _, _⟩ := (Option.some.inj ho).symm; obtain rfl := Option.some.inj he; clear he; have e72 : a.tmps.getD 72 undef = .pointer (some ⟨gb, 1, none⟩) := hpre ⟨2, .data⟩ (by simp) rfl _ rfl; clear hpre hfr; have k_y1 := (hbl.cell (World.block_lt_of_cell? _ _ y1)).trans y1; refine wpOp_value (v := .int .i64 p3) ho rfl ?_ ⟨_, rfl, rfl, Below.refl _ _⟩; simp only [execOp, Act.eval, List.map_toArray, List.map_cons, List.map_nil, e72]; first | rfl | (go_simp; done) | (go_simp; rfl) | (go_simp; intro h_; exfalso; omega)
          | 4, ho, he => obtain rfl : o_ = ⟨_, _, _, _, _, _⟩ := (Option.some.inj ho).symm; obtain rfl := Option.some.inj he; clear he; have f0 : a.tmps.getD 0 undef = .pointer (some ⟨gb, 0, none⟩) := (by rw [Array.getD_eq_getD_getElem?, hfr 0 (show ¬ 0 ∈ ([70, 71, 72, 73, 74, 75, 76, 77, 78, 79] : List Nat) by decide)]; rfl); clear hpre hfr; refine wpOp_value (v := .pointer (some ⟨gb, 0, none⟩)) ho rfl ?_ ⟨_, rfl, rfl, Below.refl _ _⟩; simp only [execOp, Act.eval, List.map_toArray, List.map_cons, List.map_nil, f0]; first | rfl | (go_simp; done) | (go_simp; rfl) | (go_simp; intro h_; exfalso; omega)
          | 5, ho, he => obtain rfl : o_ = ⟨_, _, _, _, _, _⟩ := (Option.some.inj ho).symm; obtain rfl := Option.some.inj he; clear he; have e74 : a.tmps.getD 74 undef = .pointer (some ⟨gb, 0, none⟩) := hpre ⟨4, .data⟩ (by simp) rfl _ rfl; clear hpre hfr; refine wpOp_value (v := .pointer (some ⟨gb, 0, none⟩)) ho rfl ?_ ⟨_, rfl, rfl, Below.refl _ _⟩; simp only [execOp, Act.eval, List.map_toArray, List.map_cons, List.map_nil, e74]; first | rfl | (go_simp; done) | (go_simp; rfl) | (go_simp; intro h_; exfalso; omega)
          | 6, ho, he => obtain rfl : o_ = ⟨_, _, _, _, _, _⟩ := (Option.some.inj ho).symm; obtain rfl := Option.some.inj he; clear he; have e75 : a.tmps.getD 75 undef = .pointer (some ⟨gb, 0, none⟩) := hpre ⟨5, .data⟩ (by simp) rfl _ rfl; clear hpre hfr; refine wpOp_value (v := .pointer (some ⟨gb, 0, none⟩)) ho rfl ?_ ⟨_, rfl, rfl, Below.refl _ _⟩; simp only [execOp, Act.eval, List.map_toArray, List.map_cons, List.map_nil, e75]; first | rfl | (go_simp; done) | (go_simp; rfl) | (go_simp; intro h_; exfalso; omega)
          | 7, ho, he => obtain rfl : o_ = ⟨_, _, _, _, _, _⟩ := (Option.some.inj ho).symm; obtain rfl := Option.some.inj he; clear he; have e76 : a.tmps.getD 76 undef = .pointer (some ⟨gb, 0, none⟩) := hpre ⟨6, .data⟩ (by simp) rfl _ rfl; clear hpre hfr; have k_y0 := (hbl.cell (World.block_lt_of_cell? _ _ y0)).trans y0; refine wpOp_value (v := .slice A l.length c) ho rfl ?_ ⟨_, rfl, rfl, Below.refl _ _⟩; simp only [execOp, Act.eval, List.map_toArray, List.map_cons, List.map_nil, e76]; first | rfl | (go_simp; done) | (go_simp; rfl) | (go_simp; intro h_; exfalso; omega)
          | 8, ho, he => obtain rfl : o_ = ⟨_, _, _, _, _, _⟩ := (Option.some.inj ho).symm; obtain rfl := Option.some.inj he; clear he; have e77 : a.tmps.getD 77 undef = .slice A l.length c := hpre ⟨7, .data⟩ (by simp) rfl _ rfl; clear hpre hfr; refine wpOp_value (v := .int .i64 (l.length : Int)) ho rfl ?_ ⟨_, rfl, rfl, Below.refl _ _⟩; simp only [execOp, Act.eval, List.map_toArray, List.map_cons, List.map_nil, e77]; first | rfl | (go_simp; done) | (go_simp; rfl) | (go_simp; intro h_; exfalso; omega)
          | 9, ho, he => obtain rfl : o_ = ⟨_, _, _, _, _, _⟩ := (Option.some.inj ho).symm; obtain rfl := Option.some.inj he; clear he; have e73 : a.tmps.getD 73 undef = .int .i64 p3 := hpre ⟨3, .data⟩ (by simp) rfl _ rfl; have e78 : a.tmps.getD 78 undef = .int .i64 (l.length : Int) := hpre ⟨8, .data⟩ (by simp) rfl _ rfl; clear hpre hfr; refine wpOp_value (v := .bool (p3 == (l.length : Int))) ho rfl ?_ ⟨_, rfl, rfl, Below.refl _ _⟩; simp only [execOp, Act.eval, List.map_toArray, List.map_cons, List.map_nil, e73, e78]; first | rfl | (go_simp; done) | (go_simp; rfl) | (go_simp; intro h_; exfalso; omega)
          | n_ + 10, ho, he => simp at he
         case fin =>
          intro xv_ w1_ hbl hbs hx
          simp only [List.forall_mem_cons] at hx
          obtain ⟨x70, x71, x72, x73, x74, x75, x76, x77, x78, x79, _⟩ := hx
          simp only [List.map_cons, List.map_nil, putL, Act.put, List.setIfInBounds_toArray, List.set_cons_zero, List.set_cons_succ, x70, x71, x72, x73, x74, x75, x76, x77, x78, x79]
          simp only [List.drop_succ_cons, List.drop_zero]
          clear x70 x71 x72 x73 x74 x75 x76 x77 x78 x79
          have HI14 := Aside0.mk (HI15.out.below hbl)
          have HR14 := Aside0.mk (Kd.R_below HR13.out hbl)
          clear hbl
          go_wp2_with fail
          go_at_call 53
          with_reducible refine (message_need (p3 == (l.length : Int)) 22 _).mono ?_
          rintro r w14 ⟨rfl, rfl⟩
          by_cases hq : p3 = (l.length : Int)
          case neg =>
           rw [if_neg (by simpa using hq)]
           obtain rfl := Option.some.inj ((if_neg hq).symm.trans HD7.out)
           exact ⟨rfl, show MsgAt w0 w gb _ _ _ from ⟨by rw [if_neg (by decide)], HI14.out.bel, HI14.out.keep⟩⟩
          rw [if_pos (by simpa using hq)]
          obtain rfl := Option.some.inj ((if_pos hq).symm.trans HD7.out)
          clear hq HD7
          have hms := HI14.out.ms
          rw [msg_lit] at hms
          have r0 : w14.cell? ⟨w.heap.size, 0, none⟩ = some (.int .i64 a0) := (blk_cell hms 0).trans rfl
          have u0_ : w14.frozen? ⟨w.heap.size, 0, none⟩ = false := blk_frozen hms 0
          have r1 : w14.cell? ⟨w.heap.size, 1, none⟩ = some (.int .i64 a1) := (blk_cell hms 1).trans rfl
          have u1_ : w14.frozen? ⟨w.heap.size, 1, none⟩ = false := blk_frozen hms 1
          have r2 : w14.cell? ⟨w.heap.size, 2, none⟩ = some (.int .i64 a2) := (blk_cell hms 2).trans rfl
          have u2_ : w14.frozen? ⟨w.heap.size, 2, none⟩ = false := blk_frozen hms 2
          have r3 : w14.cell? ⟨w.heap.size, 3, none⟩ = some (.int .i64 a3) := (blk_cell hms 3).trans rfl
          have u3_ : w14.frozen? ⟨w.heap.size, 3, none⟩ = false := blk_frozen hms 3
          have r4 : w14.cell? ⟨w.heap.size, 4, none⟩ = some (.int .i64 a4) := (blk_cell hms 4).trans rfl
          have u4_ : w14.frozen? ⟨w.heap.size, 4, none⟩ = false := blk_frozen hms 4
          have r5 : w14.cell? ⟨w.heap.size, 5, none⟩ = some (.int .i64 a5) := (blk_cell hms 5).trans rfl
          have u5_ : w14.frozen? ⟨w.heap.size, 5, none⟩ = false := blk_frozen hms 5
          have r6 : w14.cell? ⟨w.heap.size, 6, none⟩ = some (.int .i64 a6) := (blk_cell hms 6).trans rfl
          have u6_ : w14.frozen? ⟨w.heap.size, 6, none⟩ = false := blk_frozen hms 6
          have r7 : w14.cell? ⟨w.heap.size, 7, none⟩ = some (.int .i64 a7) := (blk_cell hms 7).trans rfl
          have u7_ : w14.frozen? ⟨w.heap.size, 7, none⟩ = false := blk_frozen hms 7
          have r8 : w14.cell? ⟨w.heap.size, 8, none⟩ = some (.int .i64 a8) := (blk_cell hms 8).trans rfl
          have u8_ : w14.frozen? ⟨w.heap.size, 8, none⟩ = false := blk_frozen hms 8
          have r9 : w14.cell? ⟨w.heap.size, 9, none⟩ = some (.int .i64 a9) := (blk_cell hms 9).trans rfl
          have u9_ : w14.frozen? ⟨w.heap.size, 9, none⟩ = false := blk_frozen hms 9
          have r10 : w14.cell? ⟨w.heap.size, 10, none⟩ = some (.int .i64 a10) := (blk_cell hms 10).trans rfl
          have u10_ : w14.frozen? ⟨w.heap.size, 10, none⟩ = false := blk_frozen hms 10
          have r11 : w14.cell? ⟨w.heap.size, 11, none⟩ = some (.slice A3 D2.length c3) := (blk_cell hms 11).trans rfl
          have u11_ : w14.frozen? ⟨w.heap.size, 11, none⟩ = false := blk_frozen hms 11
          clear hms
          go_wp2_with fail
          refine bodyPost_ret (results_cell_row rfl _ _ w.heap.size 25 #[.int .i64 a0, .int .i64 a1, .int .i64 a2, .int .i64 a3, .int .i64 a4, .int .i64 a5, .int .i64 a6, .int .i64 a7, .int .i64 a8, .int .i64 a9, .int .i64 a10, .slice A3 D2.length c3] (0, 0) _ rfl (msg_fill2 HI14.out.ms a0 a1 a2 a3 a4 a5 a6 a7 a8 a9 a10 (.slice A3 D2.length c3)) Try.underlying25 rfl (by kernel_rfl)) rfl ?_
          exact ⟨by rw [if_pos rfl]; exact ⟨_, by rw [msg_lit], rfl, Kd.R_lower (Kd.R_mono (Kd.R_step (Kd.R_bound HR14.out) (fun k hk _ => fill_keep _ _ _ _ _ _ _ _ _ _ _ _ k (by have := hk.2.1; have := HN12.out; omega))) (fun _ _ => trivial)) (Nat.le_of_lt HN12.out)⟩, fillB HI14.out.bel HW0.out _ _ _ _ _ _ _ _ _ _ _ _, fun k h1 h2 => (fill_keep _ _ _ _ _ _ _ _ _ _ _ _ k (by omega)).trans (HI14.out.keep k h1 h2)⟩
     · have d0 : decide (a0 = 3 ∨ a0 = 4) = false := decide_eq_false hd
       have HD7 := Aside0.mk ((if_neg hd).symm.trans HD6.out)
       clear HD6 hd
       have y0 : w12.cell? ⟨g, 0, none⟩ = some (.slice A l.length c) := (blk_cell HI12.out.rd 0).trans rfl
       have y1 : w12.cell? ⟨g, 1, none⟩ = some (.int .i64 q) := (blk_cell HI12.out.rd 1).trans rfl
       go_wp2_with fail
       refine region_tail (B := _) (w0 := _) 10 [(70, (fun v _ => v = .pointer (some ⟨g, 0, none⟩))), (71, (fun v _ => v = .pointer (some ⟨g, 0, none⟩))), (72, (fun v _ => v = .pointer (some ⟨g, 1, none⟩))), (73, (fun v _ => v = .int .i64 q)), (74, (fun v _ => v = .pointer (some ⟨g, 0, none⟩))), (75, (fun v _ => v = .pointer (some ⟨g, 0, none⟩))), (76, (fun v _ => v = .pointer (some ⟨g, 0, none⟩))), (77, (fun v _ => v = .slice A l.length c)), (78, (fun v _ => v = .int .i64 (l.length : Int))), (79, (fun v _ => v = .bool (q == (l.length : Int))))] (by kernel_rfl) (by kernel_rfl) (by decide) (by kernel_rfl) (by kernel_rfl) (by rfl) (show ([70, 71, 72, 73, 74, 75, 76, 77, 78, 79] : List Nat).Nodup by decide) ?hsz ?hst (Below.refl _ _) (Nat.le_refl _) ?step ?fin
       case hsz => exact List.forall_mem_cons.2 ⟨(show 70 < 82 by decide), List.forall_mem_cons.2 ⟨(show 71 < 82 by decide), List.forall_mem_cons.2 ⟨(show 72 < 82 by decide), List.forall_mem_cons.2 ⟨(show 73 < 82 by decide), List.forall_mem_cons.2 ⟨(show 74 < 82 by decide), List.forall_mem_cons.2 ⟨(show 75 < 82 by decide), List.forall_mem_cons.2 ⟨(show 76 < 82 by decide), List.forall_mem_cons.2 ⟨(show 77 < 82 by decide), List.forall_mem_cons.2 ⟨(show 78 < 82 by decide), List.forall_mem_cons.2 ⟨(show 79 < 82 by decide), fun _ h => nomatch h⟩⟩⟩⟩⟩⟩⟩⟩⟩⟩
       case hst => exact List.forall_mem_cons.2 ⟨(fun v w1 w2 hb h => h), List.forall_mem_cons.2 ⟨(fun v w1 w2 hb h => h), List.forall_mem_cons.2 ⟨(fun v w1 w2 hb h => h), List.forall_mem_cons.2 ⟨(fun v w1 w2 hb h => h), List.forall_mem_cons.2 ⟨(fun v w1 w2 hb h => h), List.forall_mem_cons.2 ⟨(fun v w1 w2 hb h => h), List.forall_mem_cons.2 ⟨(fun v w1 w2 hb h => h), List.forall_mem_cons.2 ⟨(fun v w1 w2 hb h => h), List.forall_mem_cons.2 ⟨(fun v w1 w2 hb h => h), List.forall_mem_cons.2 ⟨(fun v w1 w2 hb h => h), fun _ h => nomatch h⟩⟩⟩⟩⟩⟩⟩⟩⟩⟩
       case step =>
         intro i_ o_ e_ ho he a w1_ hs hdf hfr hbl hbs hpre
         match i_, ho, he with
         | 0, ho, he => obtain rfl : o_ = ⟨_, _, _, _, _, _⟩ := (Option.some.inj ho).symm; obtain rfl := Option.some.inj he; clear he; have f0 : a.tmps.getD 0 undef = .pointer (some ⟨g, 0, none⟩) := (by rw [Array.getD_eq_getD_getElem?, hfr 0 (show ¬ 0 ∈ ([70, 71, 72, 73, 74, 75, 76, 77, 78, 79] : List Nat) by decide)]; rfl); clear hpre hfr; refine wpOp_value (v := .pointer (some ⟨g, 0, none⟩)) ho rfl ?_ ⟨_, rfl, rfl, Below.refl _ _⟩; simp only [execOp, Act.eval, List.map_toArray, List.map_cons, List.map_nil, f0]; first | rfl | (go_simp; done) | (go_simp; rfl) | (go_simp; intro h_; exfalso; omega)
         | 1, ho, he => obtain rfl : o_ = ⟨_, _, _, _, _, _⟩ := (Option.some.inj ho).symm; obtain rfl := Option.some.inj he; clear he; have e70 : a.tmps.getD 70 undef = .pointer (some ⟨g, 0, none⟩) := hpre ⟨0, .data⟩ (by simp) rfl _ rfl; clear hpre hfr; refine wpOp_value (v := .pointer (some ⟨g, 0, none⟩)) ho rfl ?_ ⟨_, rfl, rfl, Below.refl _ _⟩; simp only [execOp, Act.eval, List.map_toArray, List.map_cons, List.map_nil, e70]; first | rfl | (go_simp; done) | (go_simp; rfl) | (go_simp; intro h_; exfalso; omega)
         | 2, ho, he => obtain rfl : o_ = ⟨_, _, _, _, _, _⟩ := (Option.some.inj ho).symm; obtain rfl := Option.some.inj he; clear he; have e71 : a.tmps.getD 71 undef = .pointer (some ⟨g, 0, none⟩) := hpre ⟨1, .data⟩ (by simp) rfl _ rfl; clear hpre hfr; refine wpOp_value (v := .pointer (some ⟨g, 1, none⟩)) ho rfl ?_ ⟨_, rfl, rfl, Below.refl _ _⟩; simp only [execOp, Act.eval, List.map_toArray, List.map_cons, List.map_nil, e71]; first | rfl | (go_simp; done) | (go_simp; rfl) | (go_simp; intro h_; exfalso; omega)
         | 3, ho, he => obtain rfl : o_ = ⟨_, _, _, _, _, _⟩ := (Option.some.inj ho).symm; obtain rfl := Option.some.inj he; clear he; have e72 : a.tmps.getD 72 undef = .pointer (some ⟨g, 1, none⟩) := hpre ⟨2, .data⟩ (by simp) rfl _ rfl; clear hpre hfr; have k_y1 := (hbl.cell (World.block_lt_of_cell? _ _ y1)).trans y1; refine wpOp_value (v := .int .i64 q) ho rfl ?_ ⟨_, rfl, rfl, Below.refl _ _⟩; simp only [execOp, Act.eval, List.map_toArray, List.map_cons, List.map_nil, e72]; first | rfl | (go_simp; done) | (go_simp; rfl) | (go_simp; intro h_; exfalso; omega)
         | 4, ho, he => obtain rfl : o_ = ⟨_, _, _, _, _, _⟩ := (Option.some.inj ho).symm; obtain rfl := Option.some.inj he; clear he; have f0 : a.tmps.getD 0 undef = .pointer (some ⟨g, 0, none⟩) := (by rw [Array.getD_eq_getD_getElem?, hfr 0 (show ¬ 0 ∈ ([70, 71, 72, 73, 74, 75, 76, 77, 78, 79] : List Nat) by decide)]; rfl); clear hpre hfr; refine wpOp_value (v := .pointer (some ⟨g, 0, none⟩)) ho rfl ?_ ⟨_, rfl, rfl, Below.refl _ _⟩; simp only [execOp, Act.eval, List.map_toArray, List.map_cons, List.map_nil, f0]; first | rfl | (go_simp; done) | (go_simp; rfl) | (go_simp; intro h_; exfalso; omega)
         | 5, ho, he => obtain rfl : o_ = ⟨_, _, _, _, _, _⟩ := (Option.some.inj ho).symm; obtain rfl := Option.some.inj he; clear he; have e74 : a.tmps.getD 74 undef = .pointer (some ⟨g, 0, none⟩) := hpre ⟨4, .data⟩ (by simp) rfl _ rfl; clear hpre hfr; refine wpOp_value (v := .pointer (some ⟨g, 0, none⟩)) ho rfl ?_ ⟨_, rfl, rfl, Below.refl _ _⟩; simp only [execOp, Act.eval, List.map_toArray, List.map_cons, List.map_nil, e74]; first | rfl | (go_simp; done) | (go_simp; rfl) | (go_simp; intro h_; exfalso; omega)
         | 6, ho, he => obtain rfl : o_ = ⟨_, _, _, _, _, _⟩ := (Option.some.inj ho).symm; obtain rfl := Option.some.inj he; clear he; have e75 : a.tmps.getD 75 undef = .pointer (some ⟨g, 0, none⟩) := hpre ⟨5, .data⟩ (by simp) rfl _ rfl; clear hpre hfr; refine wpOp_value (v := .pointer (some ⟨g, 0, none⟩)) ho rfl ?_ ⟨_, rfl, rfl, Below.refl _ _⟩; simp only [execOp, Act.eval, List.map_toArray, List.map_cons, List.map_nil, e75]; first | rfl | (go_simp; done) | (go_simp; rfl) | (go_simp; intro h_; exfalso; omega)
         | 7, ho, he => obtain rfl : o_ = ⟨_, _, _, _, _, _⟩ := (Option.some.inj ho).symm; obtain rfl := Option.some.inj he; clear he; have e76 : a.tmps.getD 76 undef = .pointer (some ⟨g, 0, none⟩) := hpre ⟨6, .data⟩ (by simp) rfl _ rfl; clear hpre hfr; have k_y0 := (hbl.cell (World.block_lt_of_cell? _ _ y0)).trans y0; refine wpOp_value (v := .slice A l.length c) ho rfl ?_ ⟨_, rfl, rfl, Below.refl _ _⟩; simp only [execOp, Act.eval, List.map_toArray, List.map_cons, List.map_nil, e76]; first | rfl | (go_simp; done) | (go_simp; rfl) | (go_simp; intro h_; exfalso; omega)
         | 8, ho, he => obtain rfl : o_ = ⟨_, _, _, _, _, _⟩ := (Option.some.inj ho).symm; obtain rfl := Option.some.inj he; clear he; have e77 : a.tmps.getD 77 undef = .slice A l.length c := hpre ⟨7, .data⟩ (by simp) rfl _ rfl; clear hpre hfr; refine wpOp_value (v := .int .i64 (l.length : Int)) ho rfl ?_ ⟨_, rfl, rfl, Below.refl _ _⟩; simp only [execOp, Act.eval, List.map_toArray, List.map_cons, List.map_nil, e77]; first | rfl | (go_simp; done) | (go_simp; rfl) | (go_simp; intro h_; exfalso; omega)
         | 9, ho, he => obtain rfl : o_ = ⟨_, _, _, _, _, _⟩ := (Option.some.inj ho).symm; obtain rfl := Option.some.inj he; clear he; have e73 : a.tmps.getD 73 undef = .int .i64 q := hpre ⟨3, .data⟩ (by simp) rfl _ rfl; have e78 : a.tmps.getD 78 undef = .int .i64 (l.length : Int) := hpre ⟨8, .data⟩ (by simp) rfl _ rfl; clear hpre hfr; refine wpOp_value (v := .bool (q == (l.length : Int))) ho rfl ?_ ⟨_, rfl, rfl, Below.refl _ _⟩; simp only [execOp, Act.eval, List.map_toArray, List.map_cons, List.map_nil, e73, e78]; first | rfl | (go_simp; done) | (go_simp; rfl) | (go_simp; intro h_; exfalso; omega)
         | n_ + 10, ho, he => simp at he
       case fin =>
         intro xv_ w1_ hbl hbs hx
         simp only [List.forall_mem_cons] at hx
         obtain ⟨x70, x71, x72, x73, x74, x75, x76, x77, x78, x79, _⟩ := hx
         simp only [List.map_cons, List.map_nil, putL, Act.put, List.setIfInBounds_toArray, List.set_cons_zero, List.set_cons_succ, x70, x71, x72, x73, x74, x75, x76, x77, x78, x79]
         simp only [List.drop_succ_cons, List.drop_zero]
         clear x70 x71 x72 x73 x74 x75 x76 x77 x78 x79
         have HI14 := Aside0.mk (HI12.out.below hbl)
         skip
         clear hbl
         go_wp2_with fail
         go_at_call 53
         with_reducible refine (message_need (q == (l.length : Int)) 22 _).mono ?_
         rintro r w14 ⟨rfl, rfl⟩
         by_cases hq : q = (l.length : Int)
         case neg =>
          rw [if_neg (by simpa using hq)]
          obtain rfl := Option.some.inj ((if_neg hq).symm.trans HD7.out)
          exact ⟨rfl, show MsgAt w0 w g _ _ _ from ⟨by rw [if_neg (by decide)], HI14.out.bel, HI14.out.keep⟩⟩
         rw [if_pos (by simpa using hq)]
         obtain rfl := Option.some.inj ((if_pos hq).symm.trans HD7.out)
         clear hq HD7
         have hms := HI14.out.ms
         rw [msg_lit] at hms
         have r0 : w14.cell? ⟨w.heap.size, 0, none⟩ = some (.int .i64 a0) := (blk_cell hms 0).trans rfl
         have u0_ : w14.frozen? ⟨w.heap.size, 0, none⟩ = false := blk_frozen hms 0
         have r1 : w14.cell? ⟨w.heap.size, 1, none⟩ = some (.int .i64 a1) := (blk_cell hms 1).trans rfl
         have u1_ : w14.frozen? ⟨w.heap.size, 1, none⟩ = false := blk_frozen hms 1
         have r2 : w14.cell? ⟨w.heap.size, 2, none⟩ = some (.int .i64 a2) := (blk_cell hms 2).trans rfl
         have u2_ : w14.frozen? ⟨w.heap.size, 2, none⟩ = false := blk_frozen hms 2
         have r3 : w14.cell? ⟨w.heap.size, 3, none⟩ = some (.int .i64 a3) := (blk_cell hms 3).trans rfl
         have u3_ : w14.frozen? ⟨w.heap.size, 3, none⟩ = false := blk_frozen hms 3
         have r4 : w14.cell? ⟨w.heap.size, 4, none⟩ = some (.int .i64 a4) := (blk_cell hms 4).trans rfl
         have u4_ : w14.frozen? ⟨w.heap.size, 4, none⟩ = false := blk_frozen hms 4
         have r5 : w14.cell? ⟨w.heap.size, 5, none⟩ = some (.int .i64 a5) := (blk_cell hms 5).trans rfl
         have u5_ : w14.frozen? ⟨w.heap.size, 5, none⟩ = false := blk_frozen hms 5
         have r6 : w14.cell? ⟨w.heap.size, 6, none⟩ = some (.int .i64 a6) := (blk_cell hms 6).trans rfl
         have u6_ : w14.frozen? ⟨w.heap.size, 6, none⟩ = false := blk_frozen hms 6
         have r7 : w14.cell? ⟨w.heap.size, 7, none⟩ = some (.int .i64 a7) := (blk_cell hms 7).trans rfl
         have u7_ : w14.frozen? ⟨w.heap.size, 7, none⟩ = false := blk_frozen hms 7
         have r8 : w14.cell? ⟨w.heap.size, 8, none⟩ = some (.int .i64 a8) := (blk_cell hms 8).trans rfl
         have u8_ : w14.frozen? ⟨w.heap.size, 8, none⟩ = false := blk_frozen hms 8
         have r9 : w14.cell? ⟨w.heap.size, 9, none⟩ = some (.int .i64 a9) := (blk_cell hms 9).trans rfl
         have u9_ : w14.frozen? ⟨w.heap.size, 9, none⟩ = false := blk_frozen hms 9
         have r10 : w14.cell? ⟨w.heap.size, 10, none⟩ = some (.int .i64 a10) := (blk_cell hms 10).trans rfl
         have u10_ : w14.frozen? ⟨w.heap.size, 10, none⟩ = false := blk_frozen hms 10
         have r11 : w14.cell? ⟨w.heap.size, 11, none⟩ = some (.slice none 0 0) := (blk_cell hms 11).trans rfl
         have u11_ : w14.frozen? ⟨w.heap.size, 11, none⟩ = false := blk_frozen hms 11
         clear hms
         go_wp2_with fail
         refine bodyPost_ret (results_cell_row rfl _ _ w.heap.size 25 #[.int .i64 a0, .int .i64 a1, .int .i64 a2, .int .i64 a3, .int .i64 a4, .int .i64 a5, .int .i64 a6, .int .i64 a7, .int .i64 a8, .int .i64 a9, .int .i64 a10, .slice none 0 0] (0, 0) _ rfl (msg_fill2 HI14.out.ms a0 a1 a2 a3 a4 a5 a6 a7 a8 a9 a10 (.slice none 0 0)) Try.underlying25 rfl (by kernel_rfl)) rfl ?_
         exact ⟨by rw [if_pos rfl]; exact ⟨_, by rw [msg_lit], rfl, Kd.R_nil _ _ _ _ _⟩, fillB HI14.out.bel HW0.out _ _ _ _ _ _ _ _ _ _ _ _, fun k h1 h2 => (fill_keep _ _ _ _ _ _ _ _ _ _ _ _ k (by omega)).trans (HI14.out.keep k h1 h2)⟩
end Go.Proofs.Ytkddlhcpplkpbaa.G
end
