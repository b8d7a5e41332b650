/- MessageTellsUpto: texts of this claim, packed: what the kit's print has written for it and own texts, without what its proof does not reach. -/
import Derived.Test.YtkddlhcpplkpbaaKMessageTellsUpto15
import Derived.Test.YtkddlhcpplkpbaaKMessageTellsUpto16
import Derived.Test.YtkddlhcpplkpbaaKMessageTellsUpto18
import Derived.Test.YtkddlhcpplkpbaaKMessageTellsUpto24
import Derived.Test.YtkddlhcpplkpbaaKMessageTellsUpto25
import Derived.Test.YtkddlhcpplkpbaaKMessageTellsUpto26
set_option linter.unusedVariables false
set_option linter.unusedSimpArgs false
set_option linter.unusedSectionVars false
section
namespace Go.Proofs.Ytkddlhcpplkpbaa.G
open WB Go.RowKit Go.Proofs.YtkddlhcpplkpbaaW.PrintWords Go.Proofs.YtkddlhcpplkpbaaW.PrintLast Go.Proofs.YtkddlhcpplkpbaaW.PrintMore
attribute [local go_sem] max2_int min2_int max_two min_two max_three min_three max_four min_four   -- for this text's walks alone
/-- What the reference makes of octets: the fault, the numbers, the octets. -/
def dec2 (k : Nat) (l : List Int) : Option (Int × List Int × List Int) :=
 if (getAt l 0).2.2 = 0 then (if ixOf (kindOf (getAt l 0).1) = [] then some (23, [], []) else
  (if (rdN l (2 :: ixOf (kindOf (getAt l 0).1)) (getAt l 0).2.1 [kindOf (getAt l 0).1, 0, 0, 0, 0, 0, 0, 0, 0, 0, 0]).1 = 0 then
   (if dat (kindOf (getAt l 0).1) = true then
    (waybillref01_Text.f k l (rdN l (2 :: ixOf (kindOf (getAt l 0).1)) (getAt l 0).2.1 [kindOf (getAt l 0).1, 0, 0, 0, 0, 0, 0, 0, 0, 0, 0]).2.1 1024).bind fun t => if t.2.2 = 0 then (if t.2.1 < (l.length : Int) then some (22, [], []) else some (0, (rdN l (2 :: ixOf (kindOf (getAt l 0).1)) (getAt l 0).2.1 [kindOf (getAt l 0).1, 0, 0, 0, 0, 0, 0, 0, 0, 0, 0]).2.2, t.1)) else some (t.2.2, [], [])
   else (if (rdN l (2 :: ixOf (kindOf (getAt l 0).1)) (getAt l 0).2.1 [kindOf (getAt l 0).1, 0, 0, 0, 0, 0, 0, 0, 0, 0, 0]).2.1 < (l.length : Int) then some (22, [], []) else some (0, (rdN l (2 :: ixOf (kindOf (getAt l 0).1)) (getAt l 0).2.1 [kindOf (getAt l 0).1, 0, 0, 0, 0, 0, 0, 0, 0, 0, 0]).2.2, [])))
  else some ((rdN l (2 :: ixOf (kindOf (getAt l 0).1)) (getAt l 0).2.1 [kindOf (getAt l 0).1, 0, 0, 0, 0, 0, 0, 0, 0, 0, 0]).1, [], [])))
 else some ((getAt l 0).2.2, [], [])
theorem dec2_err {k : Nat} {l : List Int} {d : Int × List Int × List Int} (h : dec2 k l = some d) (hd : d.1 ≠ 0) : d.2.1 = [] ∧ d.2.2 = [] := by
 unfold dec2 at h
 split at h
 · split at h
   · obtain rfl := Option.some.inj h; exact ⟨rfl, rfl⟩
   · split at h
     · split at h
       · obtain ⟨t, _, h⟩ := Option.bind_eq_some_iff.1 h
         split at h
         · split at h
           · obtain rfl := Option.some.inj h; exact ⟨rfl, rfl⟩
           · obtain rfl := Option.some.inj h; exact absurd rfl hd
         · obtain rfl := Option.some.inj h; exact ⟨rfl, rfl⟩
       · split at h
         · obtain rfl := Option.some.inj h; exact ⟨rfl, rfl⟩
         · obtain rfl := Option.some.inj h; exact absurd rfl hd
     · obtain rfl := Option.some.inj h; exact ⟨rfl, rfl⟩
 · obtain rfl := Option.some.inj h; exact ⟨rfl, rfl⟩
theorem getB_nn : ∀ (l : List Int) (i : Nat) (acc : Int), octetsOk l = true → 0 ≤ acc → 0 ≤ (getB l i acc).1
 | [], _, _, _, _ => by simp [getB]
 | c :: cs, i, acc, h, ha => by
  have h0 := octetsOk_get h 0
  simp only [List.getD_cons_zero] at h0
  have hcs : octetsOk cs = true := by
    unfold octetsOk at h ⊢
    rw [List.all_cons, Bool.and_eq_true] at h
    exact h.2
  have hp : (0 : Int) ≤ 128 ^ i := Int.pow_nonneg (by decide)
  unfold getB
  split
  · exact Int.add_nonneg ha (Int.mul_nonneg h0.1 hp)
  · split
    · exact Int.le_refl _
    · exact getB_nn cs (i + 1) _ hcs (Int.add_nonneg ha (Int.mul_nonneg (by omega) hp))
theorem getAt_nn {l : List Int} (h : octetsOk l = true) (p : Int) : 0 ≤ (getAt l p).1 := by
 unfold getAt
 split
 · exact Int.le_refl _
 · have hd : octetsOk (l.drop p.toNat) = true := by
     unfold octetsOk at h ⊢
     rw [List.all_eq_true] at h ⊢
     exact fun x hx => h x (List.mem_of_mem_drop hx)
   have := getB_nn (l.drop p.toNat) 0 0 hd (Int.le_refl _)
   split
   · rename_i he; rw [he] at this; exact this
   · exact Int.le_refl _
/-- Where the reference's reader is. -/
structure DecI (w W : World) (gm : Nat) (o : List Int) (D : Value) : Prop where
 rb : W.heap[w.heap.size]? = some (.cells (msgCells [0, 0, 0, 0, 0, 0, 0, 0, 0, 0, 0] (.slice none 0 0)) 25 (0, 0))
 ms : W.heap[gm]? = some (.cells (msgCells o D) 25 (0, 0))
 bel : Below w.heap.size w W
 lt : w.heap.size < gm
theorem DecI.below {w W W1 : World} {gm : Nat} {o : List Int} {D : Value} (h : DecI w W gm o D) (hb : Below W.heap.size W W1) : DecI w W1 gm o D :=
 ⟨blk_below h.rb hb, blk_below h.ms hb, below_then h.bel h.bel.size hb, h.lt⟩
theorem DecI.put {w W : World} {gm : Nat} {o : List Int} {D : Value} (h : DecI w W gm o D) (j : Nat) (hj : j < o.length) (x : Int) : DecI w (W.setCell ⟨gm, j, none⟩ (.int .i64 x)) gm (o.set j x) D :=
 ⟨blk_far h.rb (by have := h.lt; simp; omega) _, blk_put h.ms _ _ (msg_set hj x), below_set h.bel (by have := h.lt; omega), h.lt⟩
theorem DecI.data {w W : World} {gm : Nat} {o : List Int} {D : Value} (h : DecI w W gm o D) (hj : o.length = 11) (D' : Value) : DecI w (W.setCell ⟨gm, 11, none⟩ D') gm o D' :=
 ⟨blk_far h.rb (by have := h.lt; simp; omega) _, blk_put h.ms _ _ (msg_setD hj), below_set h.bel (by have := h.lt; omega), h.lt⟩
theorem results_ct {fn : Func} {p u : Tmp} {ty : TypeId} {P : Program} (h : fn.results = #[.cell p ty, .tmp u]) (tmps : Array Value) (w : World) (g : Nat) (v : Value)
  (hp : tmps.getD p undef = .pointer (some ⟨g, 0, none⟩)) (h1 : (loadVar ty ⟨g, 0, none⟩).run P w = .ok v w) :
  (results fn tmps).run P w = .ok (.tuple #[v, tmps.getD u undef]) w := by
 have hp' : tmps[p]?.getD undef = .pointer (some ⟨g, 0, none⟩) := by simpa using hp
 simp [results, h, hp', asAddr, h1]
theorem conc_size (k : Int) (hk : 1 ≤ k ∧ k ≤ 8) : ((⟨#[98]⟩ : ByteArray) ++ letB k).size = (2 :: ixOf k).length + (if dat k = true then 1 else 0) := by
 have hc : k = 1 ∨ k = 2 ∨ k = 3 ∨ k = 4 ∨ k = 5 ∨ k = 6 ∨ k = 7 ∨ k = 8 := by omega
 rcases hc with rfl | rfl | rfl | rfl | rfl | rfl | rfl | rfl <;> decide +kernel
theorem conc_get (k : Int) (hk : 1 ≤ k ∧ k ≤ 8) (i : Nat) (hi : i < (2 :: ixOf k).length) : ∃ h : i < ((⟨#[98]⟩ : ByteArray) ++ letB k).size, (((((⟨#[98]⟩ : ByteArray) ++ letB k)[i]'h).toNat : Int) ≠ 100) ∧ fldOf ((((⟨#[98]⟩ : ByteArray) ++ letB k)[i]'h).toNat : Int) = (2 :: ixOf k).getD i 0 := by
 have hc : k = 1 ∨ k = 2 ∨ k = 3 ∨ k = 4 ∨ k = 5 ∨ k = 6 ∨ k = 7 ∨ k = 8 := by omega
 rcases hc with rfl | rfl | rfl | rfl | rfl | rfl | rfl | rfl <;>
 (refine ⟨Nat.lt_of_lt_of_le hi (by rw [conc_size _ (by decide)]; exact Nat.le_add_right _ _), ?_⟩
  revert i
  decide +kernel)
theorem conc_last (k : Int) (h : dat k = true) : ∃ h : (2 :: ixOf k).length < ((⟨#[98]⟩ : ByteArray) ++ letB k).size, ((((⟨#[98]⟩ : ByteArray) ++ letB k)[(2 :: ixOf k).length]'h).toNat : Int) = 100 := by
 unfold dat at h
 have hc : k = 3 ∨ k = 4 := of_decide_eq_true h
 rcases hc with rfl | rfl <;> exact ⟨by decide +kernel, by decide +kernel⟩
/-- What comes of it. -/
def DecAt (w : World) (d : Int × List Int × List Int) (e : Ending) (w' : World) : Prop := (if d.1 = 0 then ∃ v, e = .returned (.tuple #[.agg (msgCells d.2.1 v), .int .i64 0]) ∧ d.2.1.length = 11 ∧ Kd.R (Kd.int .u8) 5 w' w.heap.size (fun _ => True) v d.2.2 else e = .returned (.tuple #[.agg (msgCells [0, 0, 0, 0, 0, 0, 0, 0, 0, 0, 0] (.slice none 0 0)), .int .i64 d.1])) ∧ Below w.heap.size w w'
theorem DecAt.err {w w' : World} {e : Int} (he : e ≠ 0) (hb : Below w.heap.size w w') : DecAt w (e, [], []) (.returned (.tuple #[.agg #[.int .i64 0, .int .i64 0, .int .i64 0, .int .i64 0, .int .i64 0, .int .i64 0, .int .i64 0, .int .i64 0, .int .i64 0, .int .i64 0, .int .i64 0, .slice none 0 0], .int .i64 e])) w' :=
 ⟨by rw [if_neg he, msg_lit], hb⟩
theorem DecAt.ok {w w' : World} {o ld : List Int} {v v2 : Value} (hl : o.length = 11) (h2 : v2 = .int .i64 0) (hr : Kd.R (Kd.int .u8) 5 w' w.heap.size (fun _ => True) v ld) (hb : Below w.heap.size w w') : DecAt w (0, o, ld) (.returned (.tuple #[.agg (msgCells o v), v2])) w' :=
 ⟨by rw [if_pos rfl, h2]; exact ⟨v, rfl, hl, hr⟩, hb⟩
set_option maxHeartbeats 4000000 in
set_option maxRecDepth 100000 in
theorem ref_decode (k : Nat) (A : Option Addr) (c : Nat) (l : List Int) (d : Int × List Int × List Int) (w : World) (hr : Kd.C (Kd.int .u8) w A l.length l) (hc : l.length ≤ c) (hok : octetsOk l = true) (hd : dec2 k l = some d) :
   Calls Try.prog 18 #[.slice A l.length c] w (DecAt w d) := by
 have HR := Aside0.mk hr
 have HC := Aside0.mk hc
 have HOK := Aside0.mk hok
 obtain ⟨x, p, e, hgt⟩ : ∃ x p e, getAt l 0 = (x, p, e) := ⟨_, _, _, rfl⟩
 have HGT := Aside0.mk hgt
 have hx0 : 0 ≤ x := by have := getAt_nn hok 0; rw [hgt] at this; exact this
 unfold dec2 at hd
 rw [hgt] at hd
 dsimp only at hd
 have HD1 := Aside0.mk hd
 clear hr hc hok hd hgt
 go_enter Try.func18, Try.ntmps18
 go_wp2_with fail
 go_at_call 39
 obtain ⟨W0, hW0⟩ : ∃ W, W = w.alloc (.cells #[.int .i64 0, .int .i64 0, .int .i64 0, .int .i64 0, .int .i64 0, .int .i64 0, .int .i64 0, .int .i64 0, .int .i64 0, .int .i64 0, .int .i64 0, .slice none 0 0] 25) := ⟨_, rfl⟩
 rw [← hW0]
 have B0 := Aside0.mk (show W0.heap[w.heap.size]? = some (.cells (msgCells [0, 0, 0, 0, 0, 0, 0, 0, 0, 0, 0] (.slice none 0 0)) 25 (0, 0)) by rw [hW0, msg_lit]; exact heap_new1 _ _)
 have HB := Aside0.mk (show Below w.heap.size w W0 by rw [hW0]; exact below_alloc (Below.refl _ _) _)
 clear hW0
 with_reducible refine (waybillref01_Get.calls A c l 0 x p e _ (Kd.C_below HR.out HB.out) HC.out ?hv).mono ?_
 case hv => unfold waybillref01_Get.f; rw [if_pos HOK.out, HGT.out]
 rintro r w1 ⟨rfl, hd⟩
 have B1 := Aside0.mk (blk_below B0.out hd.below)
 have HB1 := Aside0.mk (below_then HB.out HB.out.size hd.below)
 clear hd B0 HB
 by_cases he : e = 0
 case neg =>
   have b1 : (e != 0) = true := by simpa using he
   obtain rfl := Option.some.inj ((if_neg he).symm.trans HD1.out)
   have HE := Aside0.mk he
   clear he HD1
   have hms := B1.out
   rw [msg_lit] at hms
   have r0 : w1.cell? ⟨w.heap.size, 0, none⟩ = some (.int .i64 0) := (blk_cell hms 0).trans rfl
   have rf0 : w1.frozen? ⟨w.heap.size, 0, none⟩ = false := blk_frozen hms 0
   have r1 : w1.cell? ⟨w.heap.size, 1, none⟩ = some (.int .i64 0) := (blk_cell hms 1).trans rfl
   have rf1 : w1.frozen? ⟨w.heap.size, 1, none⟩ = false := blk_frozen hms 1
   have r2 : w1.cell? ⟨w.heap.size, 2, none⟩ = some (.int .i64 0) := (blk_cell hms 2).trans rfl
   have rf2 : w1.frozen? ⟨w.heap.size, 2, none⟩ = false := blk_frozen hms 2
   have r3 : w1.cell? ⟨w.heap.size, 3, none⟩ = some (.int .i64 0) := (blk_cell hms 3).trans rfl
   have rf3 : w1.frozen? ⟨w.heap.size, 3, none⟩ = false := blk_frozen hms 3
   have r4 : w1.cell? ⟨w.heap.size, 4, none⟩ = some (.int .i64 0) := (blk_cell hms 4).trans rfl
   have rf4 : w1.frozen? ⟨w.heap.size, 4, none⟩ = false := blk_frozen hms 4
   have r5 : w1.cell? ⟨w.heap.size, 5, none⟩ = some (.int .i64 0) := (blk_cell hms 5).trans rfl
   have rf5 : w1.frozen? ⟨w.heap.size, 5, none⟩ = false := blk_frozen hms 5
   have r6 : w1.cell? ⟨w.heap.size, 6, none⟩ = some (.int .i64 0) := (blk_cell hms 6).trans rfl
   have rf6 : w1.frozen? ⟨w.heap.size, 6, none⟩ = false := blk_frozen hms 6
   have r7 : w1.cell? ⟨w.heap.size, 7, none⟩ = some (.int .i64 0) := (blk_cell hms 7).trans rfl
   have rf7 : w1.frozen? ⟨w.heap.size, 7, none⟩ = false := blk_frozen hms 7
   have r8 : w1.cell? ⟨w.heap.size, 8, none⟩ = some (.int .i64 0) := (blk_cell hms 8).trans rfl
   have rf8 : w1.frozen? ⟨w.heap.size, 8, none⟩ = false := blk_frozen hms 8
   have r9 : w1.cell? ⟨w.heap.size, 9, none⟩ = some (.int .i64 0) := (blk_cell hms 9).trans rfl
   have rf9 : w1.frozen? ⟨w.heap.size, 9, none⟩ = false := blk_frozen hms 9
   have r10 : w1.cell? ⟨w.heap.size, 10, none⟩ = some (.int .i64 0) := (blk_cell hms 10).trans rfl
   have rf10 : w1.frozen? ⟨w.heap.size, 10, none⟩ = false := blk_frozen hms 10
   have r11 : w1.cell? ⟨w.heap.size, 11, none⟩ = some (.slice none 0 0) := (blk_cell hms 11).trans rfl
   have rf11 : w1.frozen? ⟨w.heap.size, 11, none⟩ = false := blk_frozen hms 11
   clear hms
   go_wp2_with fail
   refine bodyPost_ret (results_ct rfl _ _ w.heap.size _ rfl (run_loadVar_row _ w.heap.size _ _ _ _ _ (msg_fill B1.out 0 0 0 0 0 0 0 0 0 0 0 (.slice none 0 0)) Try.underlying25 rfl (by kernel_rfl))) rfl ?_
   exact DecAt.err HE.out (msg_fillB HB1.out (Nat.le_refl _) _ _ _ _ _ _ _ _ _ _ _ _)
 subst he
 have HD2 := Aside0.mk ((if_pos rfl).symm.trans HD1.out)
 clear HD1
 by_cases hx8 : x > 8
 · have b1 : decide (x > 8) = true := decide_eq_true hx8
   have hk : kindOf x = 9 := by
     unfold kindOf mn
     split
     · unfold wrap64; omega
     · unfold wrap64; omega
   have hd2 := HD2.out
   rw [hk] at hd2
   obtain rfl := Option.some.inj ((if_pos rfl).symm.trans hd2)
   have HE : Aside0 ((23 : Int) ≠ 0) := ⟨by decide⟩
   clear hd2 HD2 hk hx8
   have hms := B1.out
   rw [msg_lit] at hms
   have r0 : w1.cell? ⟨w.heap.size, 0, none⟩ = some (.int .i64 0) := (blk_cell hms 0).trans rfl
   have rf0 : w1.frozen? ⟨w.heap.size, 0, none⟩ = false := blk_frozen hms 0
   have r1 : w1.cell? ⟨w.heap.size, 1, none⟩ = some (.int .i64 0) := (blk_cell hms 1).trans rfl
   have rf1 : w1.frozen? ⟨w.heap.size, 1, none⟩ = false := blk_frozen hms 1
   have r2 : w1.cell? ⟨w.heap.size, 2, none⟩ = some (.int .i64 0) := (blk_cell hms 2).trans rfl
   have rf2 : w1.frozen? ⟨w.heap.size, 2, none⟩ = false := blk_frozen hms 2
   have r3 : w1.cell? ⟨w.heap.size, 3, none⟩ = some (.int .i64 0) := (blk_cell hms 3).trans rfl
   have rf3 : w1.frozen? ⟨w.heap.size, 3, none⟩ = false := blk_frozen hms 3
   have r4 : w1.cell? ⟨w.heap.size, 4, none⟩ = some (.int .i64 0) := (blk_cell hms 4).trans rfl
   have rf4 : w1.frozen? ⟨w.heap.size, 4, none⟩ = false := blk_frozen hms 4
   have r5 : w1.cell? ⟨w.heap.size, 5, none⟩ = some (.int .i64 0) := (blk_cell hms 5).trans rfl
   have rf5 : w1.frozen? ⟨w.heap.size, 5, none⟩ = false := blk_frozen hms 5
   have r6 : w1.cell? ⟨w.heap.size, 6, none⟩ = some (.int .i64 0) := (blk_cell hms 6).trans rfl
   have rf6 : w1.frozen? ⟨w.heap.size, 6, none⟩ = false := blk_frozen hms 6
   have r7 : w1.cell? ⟨w.heap.size, 7, none⟩ = some (.int .i64 0) := (blk_cell hms 7).trans rfl
   have rf7 : w1.frozen? ⟨w.heap.size, 7, none⟩ = false := blk_frozen hms 7
   have r8 : w1.cell? ⟨w.heap.size, 8, none⟩ = some (.int .i64 0) := (blk_cell hms 8).trans rfl
   have rf8 : w1.frozen? ⟨w.heap.size, 8, none⟩ = false := blk_frozen hms 8
   have r9 : w1.cell? ⟨w.heap.size, 9, none⟩ = some (.int .i64 0) := (blk_cell hms 9).trans rfl
   have rf9 : w1.frozen? ⟨w.heap.size, 9, none⟩ = false := blk_frozen hms 9
   have r10 : w1.cell? ⟨w.heap.size, 10, none⟩ = some (.int .i64 0) := (blk_cell hms 10).trans rfl
   have rf10 : w1.frozen? ⟨w.heap.size, 10, none⟩ = false := blk_frozen hms 10
   have r11 : w1.cell? ⟨w.heap.size, 11, none⟩ = some (.slice none 0 0) := (blk_cell hms 11).trans rfl
   have rf11 : w1.frozen? ⟨w.heap.size, 11, none⟩ = false := blk_frozen hms 11
   clear hms
   go_wp2_with fail
   refine bodyPost_ret (results_ct rfl _ _ w.heap.size _ rfl (run_loadVar_row _ w.heap.size _ _ _ _ _ (msg_fill B1.out 0 0 0 0 0 0 0 0 0 0 0 (.slice none 0 0)) Try.underlying25 rfl (by kernel_rfl))) rfl ?_
   exact DecAt.err HE.out (msg_fillB HB1.out (Nat.le_refl _) _ _ _ _ _ _ _ _ _ _ _ _)
 have b1 : decide (x > 8) = false := decide_eq_false hx8
 have hkx : kindOf x = x := by
   unfold kindOf mn wrap64
   split <;> omega
 have hwx : wrap64 x = x := by unfold wrap64; omega
 have hd2 := HD2.out
 rw [hkx] at hd2
 have HD3 := Aside0.mk hd2
 have hx9 : x ≤ 8 := by omega
 clear hd2 HD2 hkx hx8
 go_wp2_with fail
 go_at_call 40
 with_reducible refine (ref_form x _).mono ?_
 rintro r w2 ⟨rfl, hd⟩
 have B2 := Aside0.mk (blk_below B1.out hd.below)
 have HB2 := Aside0.mk (below_then HB1.out HB1.out.size hd.below)
 clear hd B1 HB1
 by_cases hz : ixOf x = []
 · obtain rfl := Option.some.inj ((if_pos hz).symm.trans HD3.out)
   rw [(r9_let_none x).2 hz]
   have HE : Aside0 ((23 : Int) ≠ 0) := ⟨by decide⟩
   clear HD3 hz
   have hms := B2.out
   rw [msg_lit] at hms
   have r0 : w2.cell? ⟨w.heap.size, 0, none⟩ = some (.int .i64 0) := (blk_cell hms 0).trans rfl
   have rf0 : w2.frozen? ⟨w.heap.size, 0, none⟩ = false := blk_frozen hms 0
   have r1 : w2.cell? ⟨w.heap.size, 1, none⟩ = some (.int .i64 0) := (blk_cell hms 1).trans rfl
   have rf1 : w2.frozen? ⟨w.heap.size, 1, none⟩ = false := blk_frozen hms 1
   have r2 : w2.cell? ⟨w.heap.size, 2, none⟩ = some (.int .i64 0) := (blk_cell hms 2).trans rfl
   have rf2 : w2.frozen? ⟨w.heap.size, 2, none⟩ = false := blk_frozen hms 2
   have r3 : w2.cell? ⟨w.heap.size, 3, none⟩ = some (.int .i64 0) := (blk_cell hms 3).trans rfl
   have rf3 : w2.frozen? ⟨w.heap.size, 3, none⟩ = false := blk_frozen hms 3
   have r4 : w2.cell? ⟨w.heap.size, 4, none⟩ = some (.int .i64 0) := (blk_cell hms 4).trans rfl
   have rf4 : w2.frozen? ⟨w.heap.size, 4, none⟩ = false := blk_frozen hms 4
   have r5 : w2.cell? ⟨w.heap.size, 5, none⟩ = some (.int .i64 0) := (blk_cell hms 5).trans rfl
   have rf5 : w2.frozen? ⟨w.heap.size, 5, none⟩ = false := blk_frozen hms 5
   have r6 : w2.cell? ⟨w.heap.size, 6, none⟩ = some (.int .i64 0) := (blk_cell hms 6).trans rfl
   have rf6 : w2.frozen? ⟨w.heap.size, 6, none⟩ = false := blk_frozen hms 6
   have r7 : w2.cell? ⟨w.heap.size, 7, none⟩ = some (.int .i64 0) := (blk_cell hms 7).trans rfl
   have rf7 : w2.frozen? ⟨w.heap.size, 7, none⟩ = false := blk_frozen hms 7
   have r8 : w2.cell? ⟨w.heap.size, 8, none⟩ = some (.int .i64 0) := (blk_cell hms 8).trans rfl
   have rf8 : w2.frozen? ⟨w.heap.size, 8, none⟩ = false := blk_frozen hms 8
   have r9 : w2.cell? ⟨w.heap.size, 9, none⟩ = some (.int .i64 0) := (blk_cell hms 9).trans rfl
   have rf9 : w2.frozen? ⟨w.heap.size, 9, none⟩ = false := blk_frozen hms 9
   have r10 : w2.cell? ⟨w.heap.size, 10, none⟩ = some (.int .i64 0) := (blk_cell hms 10).trans rfl
   have rf10 : w2.frozen? ⟨w.heap.size, 10, none⟩ = false := blk_frozen hms 10
   have r11 : w2.cell? ⟨w.heap.size, 11, none⟩ = some (.slice none 0 0) := (blk_cell hms 11).trans rfl
   have rf11 : w2.frozen? ⟨w.heap.size, 11, none⟩ = false := blk_frozen hms 11
   clear hms
   go_wp2_with fail
   refine bodyPost_ret (results_ct rfl _ _ w.heap.size _ rfl (run_loadVar_row _ w.heap.size _ _ _ _ _ (msg_fill B2.out 0 0 0 0 0 0 0 0 0 0 0 (.slice none 0 0)) Try.underlying25 rfl (by kernel_rfl))) rfl ?_
   exact DecAt.err HE.out (msg_fillB HB2.out (Nat.le_refl _) _ _ _ _ _ _ _ _ _ _ _ _)
 have b0 := r9_let_some x hz
 have HD4 := Aside0.mk ((if_neg hz).symm.trans HD3.out)
 have HX := Aside0.mk hz
 clear HD3 hz
 obtain ⟨S0, hS0⟩ : ∃ S, S = letB x := ⟨_, rfl⟩
 rw [← hS0] at b0 ⊢
 clear hS0
 go_wp2_with fail
 go_at_call 40
 have HW2 := Aside0.mk (show DecI w (w2.alloc (.cells #[.int .i64 x, .int .i64 0, .int .i64 0, .int .i64 0, .int .i64 0, .int .i64 0, .int .i64 0, .int .i64 0, .int .i64 0, .int .i64 0, .int .i64 0, .slice none 0 0] 25)) w2.heap.size [x, 0, 0, 0, 0, 0, 0, 0, 0, 0, 0] (.slice none 0 0) from ⟨blk_alloc B2.out _, by rw [msg_lit]; exact heap_new1 _ _, below_alloc HB2.out _, blk_lt B2.out⟩)
 with_reducible refine (ref_form x _).mono ?_
 rintro r w3 ⟨rfl, hd⟩
 have HI3 := Aside0.mk (HW2.out.below hd.below)
 obtain ⟨gm, hgm⟩ : ∃ g, g = w2.heap.size := ⟨_, rfl⟩
 rw [← hgm] at HI3 ⊢
 have hls : ¬ (9223372036854775807 < 1 + (letB x).size) := by rw [let_size]; have := ixOf_len x; split <;> omega
 clear hd HW2 B2 HB2 hgm b0
 go_wp2_with fail
 obtain ⟨S, hS⟩ : ∃ S, S = (⟨#[98]⟩ : ByteArray) ++ letB x := ⟨_, rfl⟩
 obtain ⟨jx, hjx⟩ : ∃ jx, jx = 2 :: ixOf x := ⟨_, rfl⟩
 rw [← hS]
 have hx18 : 1 ≤ x ∧ x ≤ 8 := ⟨by
   apply Classical.byContradiction
   intro hn
   exact HX.out (ixOf_none (by omega)), hx9⟩
 have HSZ : Aside0 (S.size = jx.length + (if dat x = true then 1 else 0)) := ⟨by rw [hS, hjx]; exact conc_size x hx18⟩
 have HLG : Aside0 (∀ i, i < jx.length → ∃ h : i < S.size, (((S[i]'h).toNat : Int) ≠ 100) ∧ fldOf ((S[i]'h).toNat : Int) = jx.getD i 0) := ⟨by rw [hS, hjx]; exact conc_get x hx18⟩
 have HLL : Aside0 (dat x = true → ∃ h : jx.length < S.size, ((S[jx.length]'h).toNat : Int) = 100) := ⟨by rw [hS, hjx]; exact conc_last x⟩
 have HJL : Aside0 (jx.length ≤ 7) := ⟨by rw [hjx]; have := ixOf_len x; simp; omega⟩
 have hs8 : S.size ≤ 8 := by rw [HSZ.out]; have := HJL.out; split <;> omega
 have HJB : Aside0 (∀ i, i < jx.length → jx.getD i 0 ≤ 10) := ⟨fun i hi => by
   have hm : jx.getD i 0 ∈ jx := by
     have he : jx.getD i 0 = jx[i] := by simp [List.getD_eq_getElem?_getD, hi]
     rw [he]; exact List.getElem_mem hi
   rw [hjx] at hm
   rcases List.mem_cons.1 hm with h | h
   · rw [← hjx] at h; omega
   · exact (ixOf_lt _ (by rw [← hjx] at h; exact h)).2.1⟩
 obtain ⟨re, rp, ro, hrd⟩ : ∃ re rp ro, rdN l jx p [x, 0, 0, 0, 0, 0, 0, 0, 0, 0, 0] = (re, rp, ro) := ⟨_, _, _, rfl⟩
 have hd4 := HD4.out
 rw [← hjx, hrd] at hd4
 dsimp only at hd4
 have HD5 := Aside0.mk hd4
 have HRD := Aside0.mk hrd
 clear hS hjx hrd hd4 HD4 hx18 hx9 hls
 go_loopw [5, 9] (fun v5 v9 wr => ∃ (i : Nat) (at_ : Int) (o : List Int) (D : Value) (ld : List Int), v9 = .int .i64 i ∧ i ≤ S.size ∧ v5 = .int .i64 at_ ∧ Aside0 (o.length = 11) ∧ Aside0 (DecI w wr gm o D) ∧ Aside0 (Kd.R (Kd.int .u8) 5 wr (gm + 1) (fun _ => True) D ld) ∧ Aside0 ((i ≤ jx.length → ld = [] ∧ rdN l (jx.drop i) at_ o = (re, rp, ro)) ∧ (jx.length < i → dat x = true ∧ re = 0 ∧ o = ro ∧ waybillref01_Text.f k l rp 1024 = some (ld, at_, 0)))) (fun _ v9 _ => S.size - (intOf v9).toNat)
 case atStart => exact ⟨0, p, _, _, [], rfl, Nat.zero_le _, rfl, ⟨rfl⟩, HI3, ⟨Kd.R_nil _ _ _ _ _⟩, ⟨fun _ => ⟨rfl, HRD.out⟩, fun h => absurd h (by omega)⟩⟩
 case round =>
   obtain ⟨i, at_, o, D, ld, rfl, hi, rfl, LO, HI, HV, HK⟩ := hrel
   by_cases hlt : i < S.size
   · have b1 : decide ((i : Int) < (S.size : Int)) = true := decide_eq_true (by omega)
     have b1' : decide (i < S.size) = true := decide_eq_true hlt
     by_cases hlx : i < jx.length
     · obtain ⟨_, hc1, hc2⟩ := HLG.out i hlx
       have c0 : (((S[i]'hlt).toNat : Int) == 100) = false := beq_eq_false_iff_ne.mpr hc1
       obtain ⟨hld, hK⟩ := HK.out.1 (by omega)
       have hdr : jx.drop i = jx.getD i 0 :: jx.drop (i + 1) := by
         rw [List.drop_eq_getElem_cons hlx]
         simp [List.getD_eq_getElem?_getD, hlx]
       rw [hdr, rdN] at hK
       obtain ⟨j, hj⟩ : ∃ j, j = jx.getD i 0 := ⟨_, rfl⟩
       rw [← hj] at hc2 hK
       have HC2 := Aside0.mk hc2
       have hj2 := HJB.out i hlx
       rw [← hj] at hj2
       obtain ⟨n, tq, g, hgt⟩ : ∃ n tq g, getAt l at_ = (n, tq, g) := ⟨_, _, _, rfl⟩
       rw [hgt] at hK
       dsimp only at hK
       have HK2 := Aside0.mk hK
       have HGT2 := Aside0.mk hgt
       have HLD := Aside0.mk hld
       clear hj hc1 hc2 hdr hK hgt hld
       go_wp2_with fail
       go_at_call 39
       with_reducible refine (waybillref01_Get.calls A c l at_ n tq g _ (Kd.C_below HR.out HI.out.bel) HC.out ?hv).mono ?_
       case hv => unfold waybillref01_Get.f; rw [if_pos HOK.out, HGT2.out]
       rintro r w4 ⟨rfl, hd⟩
       have HI4 := Aside0.mk (HI.out.below hd.below)
       have HV4 := Aside0.mk (Kd.R_below HV.out hd.below)
       clear hd
       by_cases hg : g = 0
       case neg =>
         have g1 : (g != 0) = true := by simpa using hg
         have hk3 := (if_neg hg).symm.trans HK2.out
         simp only [Prod.mk.injEq] at hk3
         have hre : re = g := hk3.1.symm
         obtain rfl := Option.some.inj ((if_neg (by rw [hre]; exact hg)).symm.trans HD5.out)
         subst hre
         have HE := Aside0.mk hg
         clear hg hk3 HK2
         have hms := HI4.out.rb
         rw [msg_lit] at hms
         have r0 : w4.cell? ⟨w.heap.size, 0, none⟩ = some (.int .i64 0) := (blk_cell hms 0).trans rfl
         have rf0 : w4.frozen? ⟨w.heap.size, 0, none⟩ = false := blk_frozen hms 0
         have r1 : w4.cell? ⟨w.heap.size, 1, none⟩ = some (.int .i64 0) := (blk_cell hms 1).trans rfl
         have rf1 : w4.frozen? ⟨w.heap.size, 1, none⟩ = false := blk_frozen hms 1
         have r2 : w4.cell? ⟨w.heap.size, 2, none⟩ = some (.int .i64 0) := (blk_cell hms 2).trans rfl
         have rf2 : w4.frozen? ⟨w.heap.size, 2, none⟩ = false := blk_frozen hms 2
         have r3 : w4.cell? ⟨w.heap.size, 3, none⟩ = some (.int .i64 0) := (blk_cell hms 3).trans rfl
         have rf3 : w4.frozen? ⟨w.heap.size, 3, none⟩ = false := blk_frozen hms 3
         have r4 : w4.cell? ⟨w.heap.size, 4, none⟩ = some (.int .i64 0) := (blk_cell hms 4).trans rfl
         have rf4 : w4.frozen? ⟨w.heap.size, 4, none⟩ = false := blk_frozen hms 4
         have r5 : w4.cell? ⟨w.heap.size, 5, none⟩ = some (.int .i64 0) := (blk_cell hms 5).trans rfl
         have rf5 : w4.frozen? ⟨w.heap.size, 5, none⟩ = false := blk_frozen hms 5
         have r6 : w4.cell? ⟨w.heap.size, 6, none⟩ = some (.int .i64 0) := (blk_cell hms 6).trans rfl
         have rf6 : w4.frozen? ⟨w.heap.size, 6, none⟩ = false := blk_frozen hms 6
         have r7 : w4.cell? ⟨w.heap.size, 7, none⟩ = some (.int .i64 0) := (blk_cell hms 7).trans rfl
         have rf7 : w4.frozen? ⟨w.heap.size, 7, none⟩ = false := blk_frozen hms 7
         have r8 : w4.cell? ⟨w.heap.size, 8, none⟩ = some (.int .i64 0) := (blk_cell hms 8).trans rfl
         have rf8 : w4.frozen? ⟨w.heap.size, 8, none⟩ = false := blk_frozen hms 8
         have r9 : w4.cell? ⟨w.heap.size, 9, none⟩ = some (.int .i64 0) := (blk_cell hms 9).trans rfl
         have rf9 : w4.frozen? ⟨w.heap.size, 9, none⟩ = false := blk_frozen hms 9
         have r10 : w4.cell? ⟨w.heap.size, 10, none⟩ = some (.int .i64 0) := (blk_cell hms 10).trans rfl
         have rf10 : w4.frozen? ⟨w.heap.size, 10, none⟩ = false := blk_frozen hms 10
         have r11 : w4.cell? ⟨w.heap.size, 11, none⟩ = some (.slice none 0 0) := (blk_cell hms 11).trans rfl
         have rf11 : w4.frozen? ⟨w.heap.size, 11, none⟩ = false := blk_frozen hms 11
         clear hms
         go_wp2_with fail
         refine bodyPost_ret (results_ct rfl _ _ w.heap.size _ rfl (run_loadVar_row _ w.heap.size _ _ _ _ _ (msg_fill HI4.out.rb 0 0 0 0 0 0 0 0 0 0 0 (.slice none 0 0)) Try.underlying25 rfl (by kernel_rfl))) rfl ?_
         exact DecAt.err HE.out (msg_fillB HI4.out.bel (Nat.le_refl _) _ _ _ _ _ _ _ _ _ _ _ _)
       have g1 : (g != 0) = false := by simpa using hg
       have HK3 := Aside0.mk ((if_pos hg).symm.trans HK2.out)
       clear hg HK2
       by_cases hn : n ≤ 2147483647
       case neg =>
         have n1 : decide (n > 2147483647) = true := decide_eq_true (by omega)
         have hk3 := (if_neg hn).symm.trans HK3.out
         simp only [Prod.mk.injEq] at hk3
         have hre : re = 4 := hk3.1.symm
         obtain rfl := Option.some.inj ((if_neg (by rw [hre]; decide)).symm.trans HD5.out)
         subst hre
         have HE : Aside0 ((4 : Int) ≠ 0) := ⟨by decide⟩
         clear hn hk3 HK3
         have hms := HI4.out.rb
         rw [msg_lit] at hms
         have r0 : w4.cell? ⟨w.heap.size, 0, none⟩ = some (.int .i64 0) := (blk_cell hms 0).trans rfl
         have rf0 : w4.frozen? ⟨w.heap.size, 0, none⟩ = false := blk_frozen hms 0
         have r1 : w4.cell? ⟨w.heap.size, 1, none⟩ = some (.int .i64 0) := (blk_cell hms 1).trans rfl
         have rf1 : w4.frozen? ⟨w.heap.size, 1, none⟩ = false := blk_frozen hms 1
         have r2 : w4.cell? ⟨w.heap.size, 2, none⟩ = some (.int .i64 0) := (blk_cell hms 2).trans rfl
         have rf2 : w4.frozen? ⟨w.heap.size, 2, none⟩ = false := blk_frozen hms 2
         have r3 : w4.cell? ⟨w.heap.size, 3, none⟩ = some (.int .i64 0) := (blk_cell hms 3).trans rfl
         have rf3 : w4.frozen? ⟨w.heap.size, 3, none⟩ = false := blk_frozen hms 3
         have r4 : w4.cell? ⟨w.heap.size, 4, none⟩ = some (.int .i64 0) := (blk_cell hms 4).trans rfl
         have rf4 : w4.frozen? ⟨w.heap.size, 4, none⟩ = false := blk_frozen hms 4
         have r5 : w4.cell? ⟨w.heap.size, 5, none⟩ = some (.int .i64 0) := (blk_cell hms 5).trans rfl
         have rf5 : w4.frozen? ⟨w.heap.size, 5, none⟩ = false := blk_frozen hms 5
         have r6 : w4.cell? ⟨w.heap.size, 6, none⟩ = some (.int .i64 0) := (blk_cell hms 6).trans rfl
         have rf6 : w4.frozen? ⟨w.heap.size, 6, none⟩ = false := blk_frozen hms 6
         have r7 : w4.cell? ⟨w.heap.size, 7, none⟩ = some (.int .i64 0) := (blk_cell hms 7).trans rfl
         have rf7 : w4.frozen? ⟨w.heap.size, 7, none⟩ = false := blk_frozen hms 7
         have r8 : w4.cell? ⟨w.heap.size, 8, none⟩ = some (.int .i64 0) := (blk_cell hms 8).trans rfl
         have rf8 : w4.frozen? ⟨w.heap.size, 8, none⟩ = false := blk_frozen hms 8
         have r9 : w4.cell? ⟨w.heap.size, 9, none⟩ = some (.int .i64 0) := (blk_cell hms 9).trans rfl
         have rf9 : w4.frozen? ⟨w.heap.size, 9, none⟩ = false := blk_frozen hms 9
         have r10 : w4.cell? ⟨w.heap.size, 10, none⟩ = some (.int .i64 0) := (blk_cell hms 10).trans rfl
         have rf10 : w4.frozen? ⟨w.heap.size, 10, none⟩ = false := blk_frozen hms 10
         have r11 : w4.cell? ⟨w.heap.size, 11, none⟩ = some (.slice none 0 0) := (blk_cell hms 11).trans rfl
         have rf11 : w4.frozen? ⟨w.heap.size, 11, none⟩ = false := blk_frozen hms 11
         clear hms
         go_wp2_with fail
         refine bodyPost_ret (results_ct rfl _ _ w.heap.size _ rfl (run_loadVar_row _ w.heap.size _ _ _ _ _ (msg_fill HI4.out.rb 0 0 0 0 0 0 0 0 0 0 0 (.slice none 0 0)) Try.underlying25 rfl (by kernel_rfl))) rfl ?_
         exact DecAt.err HE.out (msg_fillB HI4.out.bel (Nat.le_refl _) _ _ _ _ _ _ _ _ _ _ _ _)
       have n1 : decide (n > 2147483647) = false := decide_eq_false (by omega)
       have HK4 := Aside0.mk ((if_pos hn).symm.trans HK3.out)
       obtain ⟨y, hy⟩ : ∃ y, w4.cell? ⟨gm, j, none⟩ = some (.int .i64 y) := ⟨_, by rw [blk_cell HI4.out.ms, msg_get (by rw [LO.out]; omega)]⟩
       have hz : w4.frozen? ⟨gm, j, none⟩ = false := blk_frozen HI4.out.ms j
       have HI5 := Aside0.mk (HI4.out.put j (by rw [LO.out]; omega) (wrap64 n))
       have HV5 := Aside0.mk (Kd.R_step (Kd.R_bound HV4.out) (fun k hk _ => Below.heap_setCell w4 ⟨gm, j, none⟩ (.int .i64 (wrap64 n)) k (by have := hk.2.1; show k ≠ gm; omega)))
       clear hn HK3 hj2
       go_wp2_with fail
       go_at_call 42
       with_reducible refine (ref_field _ _ _).mono ?_
       rintro r w5 ⟨rfl, rfl⟩
       rw [HC2.out]
       go_wp2_with fail
       go_roundw
       case rel => exact ⟨i + 1, tq, _, D, ld, by go_num, by omega, rfl, ⟨by rw [List.length_set]; exact LO.out⟩, HI5, ⟨Kd.R_mono HV5.out (fun _ _ => trivial)⟩, ⟨fun _ => ⟨HLD.out, HK4.out⟩, fun h => absurd h (by omega)⟩⟩
       case measure => simp [intOf]; omega
     · have hdt : dat x = true := by
         apply Classical.byContradiction
         intro hn
         have := HSZ.out
         rw [if_neg hn] at this
         omega
       have hei : i = jx.length := by have := HSZ.out; rw [if_pos hdt] at this; omega
       subst hei
       obtain ⟨_, hc1⟩ := HLL.out hdt
       have c0 : (((S[jx.length]'hlt).toNat : Int) == 100) = true := beq_iff_eq.mpr hc1
       obtain ⟨hld, hK⟩ := HK.out.1 (by omega)
       rw [List.drop_of_length_le (by omega), rdN] at hK
       simp only [Prod.mk.injEq] at hK
       obtain ⟨h0, h1, h2⟩ := hK
       have hd5 := HD5.out
       rw [if_pos h0.symm, if_pos hdt] at hd5
       obtain ⟨t, ht, hd6⟩ := Option.bind_eq_some_iff.1 hd5
       obtain ⟨D2, q2, e2⟩ := t
       dsimp only at hd6
       rw [← h1] at ht
       have HTX := Aside0.mk ht
       have HD6 := Aside0.mk hd6
       have H0 := Aside0.mk h0
       have H1 := Aside0.mk h1
       have H2 := Aside0.mk h2
       have HDT := Aside0.mk hdt
       clear hc1 hld hd5 ht hd6 hdt h0 h1 h2 HK
       go_wp2_with fail
       go_at_call 41
       with_reducible refine (waybillref01_Text.calls k A c l at_ 1024 D2 q2 e2 _ (Kd.C_below HR.out HI.out.bel) HC.out HTX.out).mono ?_
       rintro r w4 ⟨v4, rfl, hr4, hb⟩
       obtain ⟨A4, c4, rfl⟩ := Kd.R_slice hr4
       have HI4 := Aside0.mk (HI.out.below hb)
       have y4 : ∃ y, w4.cell? ⟨gm, 11, none⟩ = some y := ⟨_, (blk_cell HI4.out.ms 11).trans (msg_getD LO.out)⟩
       obtain ⟨y, y4⟩ := y4
       have z4 : w4.frozen? ⟨gm, 11, none⟩ = false := blk_frozen HI4.out.ms 11
       have HI5 := Aside0.mk (HI4.out.data LO.out (.slice A4 D2.length c4))
       have HV5 := Aside0.mk (Kd.R_step (Kd.R_bound (Kd.R_lower hr4 (show gm + 1 ≤ _ from blk_lt HI.out.ms))) (fun k hk _ => Below.heap_setCell w4 ⟨gm, 11, none⟩ (.slice A4 D2.length c4) k (by have := hk.2.1; show k ≠ gm; omega)))
       clear hb hr4
       by_cases he : e2 = 0
       case neg =>
         have g1 : (e2 != 0) = true := by simpa using he
         obtain rfl := Option.some.inj ((if_neg he).symm.trans HD6.out)
         have HE := Aside0.mk he
         clear he HD6
         obtain ⟨w5, hw5⟩ : ∃ W, W = w4.setCell ⟨gm, 11, none⟩ (.slice A4 D2.length c4) := ⟨_, rfl⟩
         rw [← hw5] at HI5
         go_upto_region 14 with fail
         rw [← hw5]
         clear hw5 y4 z4
         have hms := HI5.out.rb
         rw [msg_lit] at hms
         have r0 : w5.cell? ⟨w.heap.size, 0, none⟩ = some (.int .i64 0) := (blk_cell hms 0).trans rfl
         have rf0 : w5.frozen? ⟨w.heap.size, 0, none⟩ = false := blk_frozen hms 0
         have r1 : w5.cell? ⟨w.heap.size, 1, none⟩ = some (.int .i64 0) := (blk_cell hms 1).trans rfl
         have rf1 : w5.frozen? ⟨w.heap.size, 1, none⟩ = false := blk_frozen hms 1
         have r2 : w5.cell? ⟨w.heap.size, 2, none⟩ = some (.int .i64 0) := (blk_cell hms 2).trans rfl
         have rf2 : w5.frozen? ⟨w.heap.size, 2, none⟩ = false := blk_frozen hms 2
         have r3 : w5.cell? ⟨w.heap.size, 3, none⟩ = some (.int .i64 0) := (blk_cell hms 3).trans rfl
         have rf3 : w5.frozen? ⟨w.heap.size, 3, none⟩ = false := blk_frozen hms 3
         have r4 : w5.cell? ⟨w.heap.size, 4, none⟩ = some (.int .i64 0) := (blk_cell hms 4).trans rfl
         have rf4 : w5.frozen? ⟨w.heap.size, 4, none⟩ = false := blk_frozen hms 4
         have r5 : w5.cell? ⟨w.heap.size, 5, none⟩ = some (.int .i64 0) := (blk_cell hms 5).trans rfl
         have rf5 : w5.frozen? ⟨w.heap.size, 5, none⟩ = false := blk_frozen hms 5
         have r6 : w5.cell? ⟨w.heap.size, 6, none⟩ = some (.int .i64 0) := (blk_cell hms 6).trans rfl
         have rf6 : w5.frozen? ⟨w.heap.size, 6, none⟩ = false := blk_frozen hms 6
         have r7 : w5.cell? ⟨w.heap.size, 7, none⟩ = some (.int .i64 0) := (blk_cell hms 7).trans rfl
         have rf7 : w5.frozen? ⟨w.heap.size, 7, none⟩ = false := blk_frozen hms 7
         have r8 : w5.cell? ⟨w.heap.size, 8, none⟩ = some (.int .i64 0) := (blk_cell hms 8).trans rfl
         have rf8 : w5.frozen? ⟨w.heap.size, 8, none⟩ = false := blk_frozen hms 8
         have r9 : w5.cell? ⟨w.heap.size, 9, none⟩ = some (.int .i64 0) := (blk_cell hms 9).trans rfl
         have rf9 : w5.frozen? ⟨w.heap.size, 9, none⟩ = false := blk_frozen hms 9
         have r10 : w5.cell? ⟨w.heap.size, 10, none⟩ = some (.int .i64 0) := (blk_cell hms 10).trans rfl
         have rf10 : w5.frozen? ⟨w.heap.size, 10, none⟩ = false := blk_frozen hms 10
         have r11 : w5.cell? ⟨w.heap.size, 11, none⟩ = some (.slice none 0 0) := (blk_cell hms 11).trans rfl
         have rf11 : w5.frozen? ⟨w.heap.size, 11, none⟩ = false := blk_frozen hms 11
         clear hms
         go_wp2_with fail
         refine bodyPost_ret (results_ct rfl _ _ w.heap.size _ rfl (run_loadVar_row _ w.heap.size _ _ _ _ _ (msg_fill HI5.out.rb 0 0 0 0 0 0 0 0 0 0 0 (.slice none 0 0)) Try.underlying25 rfl (by kernel_rfl))) rfl ?_
         exact DecAt.err HE.out (msg_fillB HI5.out.bel (Nat.le_refl _) _ _ _ _ _ _ _ _ _ _ _ _)
       have g1 : (e2 != 0) = false := by simpa using he
       subst he
       go_wp2_with fail
       go_roundw
       case rel => exact ⟨jx.length + 1, q2, _, _, D2, by go_num, by omega, rfl, LO, HI5, ⟨Kd.R_mono HV5.out (fun _ _ => trivial)⟩, ⟨fun h => absurd h (by omega), fun _ => ⟨HDT.out, H0.out.symm, H2.out, by rw [← H1.out]; exact HTX.out⟩⟩⟩
       case measure => simp [intOf]; omega
   · have b1 : decide ((i : Int) < (S.size : Int)) = false := decide_eq_false (by omega)
     have b1' : decide (i < S.size) = false := decide_eq_false hlt
     have hfin : (if at_ < (l.length : Int) then some ((22 : Int), ([] : List Int), ([] : List Int)) else some (0, o, ld)) = some d := by
       have h2 := HSZ.out
       have hd5 := HD5.out
       by_cases hd : dat x = true
       · rw [if_pos hd] at h2
         obtain ⟨_, h3, h4, h5⟩ := HK.out.2 (by omega)
         rw [if_pos h3, if_pos hd, h5, Option.bind_some, if_pos rfl] at hd5
         rw [h4]
         exact hd5
       · rw [if_neg hd] at h2
         obtain ⟨h3, h4⟩ := HK.out.1 (by omega)
         rw [List.drop_of_length_le (by omega), rdN] at h4
         simp only [Prod.mk.injEq] at h4
         rw [if_pos h4.1.symm, if_neg hd, ← h4.2.1, ← h4.2.2] at hd5
         rw [h3]
         exact hd5
     have HF := Aside0.mk hfin
     clear hfin HK
     by_cases hq : at_ < (l.length : Int)
     · have g1 : decide (at_ < (l.length : Int)) = true := decide_eq_true hq
       obtain rfl := Option.some.inj ((if_pos hq).symm.trans HF.out)
       have HE : Aside0 ((22 : Int) ≠ 0) := ⟨by decide⟩
       clear hq HF
       have hms := HI.out.rb
       rw [msg_lit] at hms
       have r0 : wr.cell? ⟨w.heap.size, 0, none⟩ = some (.int .i64 0) := (blk_cell hms 0).trans rfl
       have rf0 : wr.frozen? ⟨w.heap.size, 0, none⟩ = false := blk_frozen hms 0
       have r1 : wr.cell? ⟨w.heap.size, 1, none⟩ = some (.int .i64 0) := (blk_cell hms 1).trans rfl
       have rf1 : wr.frozen? ⟨w.heap.size, 1, none⟩ = false := blk_frozen hms 1
       have r2 : wr.cell? ⟨w.heap.size, 2, none⟩ = some (.int .i64 0) := (blk_cell hms 2).trans rfl
       have rf2 : wr.frozen? ⟨w.heap.size, 2, none⟩ = false := blk_frozen hms 2
       have r3 : wr.cell? ⟨w.heap.size, 3, none⟩ = some (.int .i64 0) := (blk_cell hms 3).trans rfl
       have rf3 : wr.frozen? ⟨w.heap.size, 3, none⟩ = false := blk_frozen hms 3
       have r4 : wr.cell? ⟨w.heap.size, 4, none⟩ = some (.int .i64 0) := (blk_cell hms 4).trans rfl
       have rf4 : wr.frozen? ⟨w.heap.size, 4, none⟩ = false := blk_frozen hms 4
       have r5 : wr.cell? ⟨w.heap.size, 5, none⟩ = some (.int .i64 0) := (blk_cell hms 5).trans rfl
       have rf5 : wr.frozen? ⟨w.heap.size, 5, none⟩ = false := blk_frozen hms 5
       have r6 : wr.cell? ⟨w.heap.size, 6, none⟩ = some (.int .i64 0) := (blk_cell hms 6).trans rfl
       have rf6 : wr.frozen? ⟨w.heap.size, 6, none⟩ = false := blk_frozen hms 6
       have r7 : wr.cell? ⟨w.heap.size, 7, none⟩ = some (.int .i64 0) := (blk_cell hms 7).trans rfl
       have rf7 : wr.frozen? ⟨w.heap.size, 7, none⟩ = false := blk_frozen hms 7
       have r8 : wr.cell? ⟨w.heap.size, 8, none⟩ = some (.int .i64 0) := (blk_cell hms 8).trans rfl
       have rf8 : wr.frozen? ⟨w.heap.size, 8, none⟩ = false := blk_frozen hms 8
       have r9 : wr.cell? ⟨w.heap.size, 9, none⟩ = some (.int .i64 0) := (blk_cell hms 9).trans rfl
       have rf9 : wr.frozen? ⟨w.heap.size, 9, none⟩ = false := blk_frozen hms 9
       have r10 : wr.cell? ⟨w.heap.size, 10, none⟩ = some (.int .i64 0) := (blk_cell hms 10).trans rfl
       have rf10 : wr.frozen? ⟨w.heap.size, 10, none⟩ = false := blk_frozen hms 10
       have r11 : wr.cell? ⟨w.heap.size, 11, none⟩ = some (.slice none 0 0) := (blk_cell hms 11).trans rfl
       have rf11 : wr.frozen? ⟨w.heap.size, 11, none⟩ = false := blk_frozen hms 11
       clear hms
       go_wp2_with fail
       refine bodyPost_ret (results_ct rfl _ _ w.heap.size _ rfl (run_loadVar_row _ w.heap.size _ _ _ _ _ (msg_fill HI.out.rb 0 0 0 0 0 0 0 0 0 0 0 (.slice none 0 0)) Try.underlying25 rfl (by kernel_rfl))) rfl ?_
       exact DecAt.err HE.out (msg_fillB HI.out.bel (Nat.le_refl _) _ _ _ _ _ _ _ _ _ _ _ _)
     have g1 : decide (at_ < (l.length : Int)) = false := decide_eq_false hq
     obtain rfl := Option.some.inj ((if_neg hq).symm.trans HF.out)
     obtain ⟨A4, c4, rfl⟩ := Kd.R_slice HV.out
     obtain ⟨o0, o1, o2, o3, o4, o5, o6, o7, o8, o9, o10, rfl⟩ := list11 LO.out
     clear hq HF
     have hms := HI.out.ms
     have hmr := HI.out.rb
     rw [msg_lit] at hms hmr
     have r0 : wr.cell? ⟨gm, 0, none⟩ = some (.int .i64 o0) := (blk_cell hms 0).trans rfl
     have r1 : wr.cell? ⟨gm, 1, none⟩ = some (.int .i64 o1) := (blk_cell hms 1).trans rfl
     have r2 : wr.cell? ⟨gm, 2, none⟩ = some (.int .i64 o2) := (blk_cell hms 2).trans rfl
     have r3 : wr.cell? ⟨gm, 3, none⟩ = some (.int .i64 o3) := (blk_cell hms 3).trans rfl
     have r4 : wr.cell? ⟨gm, 4, none⟩ = some (.int .i64 o4) := (blk_cell hms 4).trans rfl
     have r5 : wr.cell? ⟨gm, 5, none⟩ = some (.int .i64 o5) := (blk_cell hms 5).trans rfl
     have r6 : wr.cell? ⟨gm, 6, none⟩ = some (.int .i64 o6) := (blk_cell hms 6).trans rfl
     have r7 : wr.cell? ⟨gm, 7, none⟩ = some (.int .i64 o7) := (blk_cell hms 7).trans rfl
     have r8 : wr.cell? ⟨gm, 8, none⟩ = some (.int .i64 o8) := (blk_cell hms 8).trans rfl
     have r9 : wr.cell? ⟨gm, 9, none⟩ = some (.int .i64 o9) := (blk_cell hms 9).trans rfl
     have r10 : wr.cell? ⟨gm, 10, none⟩ = some (.int .i64 o10) := (blk_cell hms 10).trans rfl
     have r11 : wr.cell? ⟨gm, 11, none⟩ = some (.slice A4 ld.length c4) := (blk_cell hms 11).trans rfl
     have s0 : wr.cell? ⟨w.heap.size, 0, none⟩ = some (.int .i64 0) := (blk_cell hmr 0).trans rfl
     have sf0 : wr.frozen? ⟨w.heap.size, 0, none⟩ = false := blk_frozen hmr 0
     have s1 : wr.cell? ⟨w.heap.size, 1, none⟩ = some (.int .i64 0) := (blk_cell hmr 1).trans rfl
     have sf1 : wr.frozen? ⟨w.heap.size, 1, none⟩ = false := blk_frozen hmr 1
     have s2 : wr.cell? ⟨w.heap.size, 2, none⟩ = some (.int .i64 0) := (blk_cell hmr 2).trans rfl
     have sf2 : wr.frozen? ⟨w.heap.size, 2, none⟩ = false := blk_frozen hmr 2
     have s3 : wr.cell? ⟨w.heap.size, 3, none⟩ = some (.int .i64 0) := (blk_cell hmr 3).trans rfl
     have sf3 : wr.frozen? ⟨w.heap.size, 3, none⟩ = false := blk_frozen hmr 3
     have s4 : wr.cell? ⟨w.heap.size, 4, none⟩ = some (.int .i64 0) := (blk_cell hmr 4).trans rfl
     have sf4 : wr.frozen? ⟨w.heap.size, 4, none⟩ = false := blk_frozen hmr 4
     have s5 : wr.cell? ⟨w.heap.size, 5, none⟩ = some (.int .i64 0) := (blk_cell hmr 5).trans rfl
     have sf5 : wr.frozen? ⟨w.heap.size, 5, none⟩ = false := blk_frozen hmr 5
     have s6 : wr.cell? ⟨w.heap.size, 6, none⟩ = some (.int .i64 0) := (blk_cell hmr 6).trans rfl
     have sf6 : wr.frozen? ⟨w.heap.size, 6, none⟩ = false := blk_frozen hmr 6
     have s7 : wr.cell? ⟨w.heap.size, 7, none⟩ = some (.int .i64 0) := (blk_cell hmr 7).trans rfl
     have sf7 : wr.frozen? ⟨w.heap.size, 7, none⟩ = false := blk_frozen hmr 7
     have s8 : wr.cell? ⟨w.heap.size, 8, none⟩ = some (.int .i64 0) := (blk_cell hmr 8).trans rfl
     have sf8 : wr.frozen? ⟨w.heap.size, 8, none⟩ = false := blk_frozen hmr 8
     have s9 : wr.cell? ⟨w.heap.size, 9, none⟩ = some (.int .i64 0) := (blk_cell hmr 9).trans rfl
     have sf9 : wr.frozen? ⟨w.heap.size, 9, none⟩ = false := blk_frozen hmr 9
     have s10 : wr.cell? ⟨w.heap.size, 10, none⟩ = some (.int .i64 0) := (blk_cell hmr 10).trans rfl
     have sf10 : wr.frozen? ⟨w.heap.size, 10, none⟩ = false := blk_frozen hmr 10
     have s11 : wr.cell? ⟨w.heap.size, 11, none⟩ = some (.slice none 0 0) := (blk_cell hmr 11).trans rfl
     have sf11 : wr.frozen? ⟨w.heap.size, 11, none⟩ = false := blk_frozen hmr 11
     clear hms hmr
     go_wp2_with fail
     refine bodyPost_ret (results_ct rfl _ _ w.heap.size _ rfl (run_loadVar_row _ w.heap.size _ _ _ _ _ (msg_fill HI.out.rb o0 o1 o2 o3 o4 o5 o6 o7 o8 o9 o10 (.slice A4 ld.length c4)) Try.underlying25 rfl (by kernel_rfl))) rfl ?_
     refine DecAt.ok (o := [o0, o1, o2, o3, o4, o5, o6, o7, o8, o9, o10]) rfl rfl ?_ (msg_fillB HI.out.bel (Nat.le_refl _) _ _ _ _ _ _ _ _ _ _ _ _)
     have hlt := HI.out.lt
     exact Kd.R_lower (Kd.R_mono (Kd.R_step (Kd.R_bound HV.out) (fun k hk _ => fill_keep _ _ _ _ _ _ _ _ _ _ _ _ k (by have := hk.2.1; omega))) (fun _ _ => trivial)) (by omega)
def waybillref09_Decode.f (k : Nat) (l0 : List Int) : Option (Int × Int × Int × Int × Int × Int × Int × Int × Int × Int × Int × List Int × Int) := if octetsOk l0 = true then (dec2 k l0).bind fun d => some (d.2.1.getD 0 0, d.2.1.getD 1 0, d.2.1.getD 2 0, d.2.1.getD 3 0, d.2.1.getD 4 0, d.2.1.getD 5 0, d.2.1.getD 6 0, d.2.1.getD 7 0, d.2.1.getD 8 0, d.2.1.getD 9 0, d.2.1.getD 10 0, d.2.2, d.1) else none
set_option maxRecDepth 100000 in
theorem waybillref09_Decode.calls (k : Nat) (A0 : Option Addr) (c0 : Nat) (l0 : List Int) (r1 : Int) (r2 : Int) (r3 : Int) (r4 : Int) (r5 : Int) (r6 : Int) (r7 : Int) (r8 : Int) (r9 : Int) (r10 : Int) (r11 : Int) (r12 : List Int) (r13 : Int) (w : World) (hr0 : Kd.C (Kd.int .u8) w A0 l0.length l0) (hc0 : l0.length ≤ c0) (h : waybillref09_Decode.f k l0 = some (r1, r2, r3, r4, r5, r6, r7, r8, r9, r10, r11, r12, r13)) :
   Calls Try.prog 18 #[.slice A0 l0.length c0] w fun e w' => ∃ v11_ : Value, e = .returned (.tuple #[.agg #[.int .i64 r1, .int .i64 r2, .int .i64 r3, .int .i64 r4, .int .i64 r5, .int .i64 r6, .int .i64 r7, .int .i64 r8, .int .i64 r9, .int .i64 r10, .int .i64 r11, v11_], .int .i64 r13]) ∧ Kd.R (Kd.int .u8) 5 w' w.heap.size (fun _ => True) v11_ r12 ∧ Below w.heap.size w w' := by
 unfold waybillref09_Decode.f at h
 split at h
 case isFalse => cases h
 case isTrue hok =>
 obtain ⟨d, hd, h⟩ := Option.bind_eq_some_iff.1 h
 simp only [Option.some.injEq, Prod.mk.injEq] at h
 obtain ⟨rfl, rfl, rfl, rfl, rfl, rfl, rfl, rfl, rfl, rfl, rfl, rfl, rfl⟩ := h
 refine (ref_decode k A0 c0 l0 d w hr0 hc0 hok hd).mono ?_
 rintro e w' ⟨h, hb⟩
 by_cases h0 : d.1 = 0
 · rw [if_pos h0] at h
   obtain ⟨v, rfl, hl, hr⟩ := h
   rw [h0]
   obtain ⟨x0, x1, x2, x3, x4, x5, x6, x7, x8, x9, x10, hx⟩ := list11 hl
   rw [hx]
   exact ⟨v, rfl, hr, hb⟩
 · rw [if_neg h0] at h
   subst h
   obtain ⟨e1, e2⟩ := dec2_err hd h0
   rw [e1, e2]
   exact ⟨_, rfl, Kd.R_nil _ _ _ _ _, hb⟩
end Go.Proofs.Ytkddlhcpplkpbaa.G
end
section
namespace Go.Proofs.Ytkddlhcpplkpbaa.G
open WB Go.RowKit Go.Proofs.YtkddlhcpplkpbaaW.PrintWords Go.Proofs.YtkddlhcpplkpbaaW.PrintLast Go.Proofs.YtkddlhcpplkpbaaW.PrintMore
attribute [local go_sem] max2_int min2_int max_two min_two max_three min_three max_four min_four   -- for this text's walks alone
def waybillref01_Put.l0 : Nat → Int → List Int → Option (List Int)
 | 0, _, _ => none
 | k + 1, x1, x5 => if x1 ≥ 128 then (if x5.length < 140737488355328 then (waybillref01_Put.l0 k (IntKind.u64.wrap (Int.tdiv x1 128)) (x5 ++ [((Int.tmod x1 128) + 128) % 256])) else (none)) else (if x5.length < 140737488355328 then (some (x5 ++ [(x1) % 256])) else (none))
def waybillref01_Put.f (k : Nat) (l0 : List Int) (a1 : Int) : Option (List Int) := (waybillref01_Copied.f l0).bind fun t189 => (waybillref01_Put.l0 k a1 t189)
set_option maxHeartbeats 8000000 in
set_option maxRecDepth 100000 in
theorem waybillref01_Put.calls (k : Nat) (A0 : Option Addr) (c0 : Nat) (l0 : List Int) (a1 : Int) (r : List Int) (w : World) (hr0 : Kd.C (Kd.int .u8) w A0 l0.length l0) (hc0 : l0.length ≤ c0) (h : waybillref01_Put.f k l0 a1 = some r) :
  Calls Try.prog 43 #[.slice A0 l0.length c0, .int .u64 a1] w fun e w' => ∃ v0_ : Value, e = .returned (v0_) ∧ Kd.R (Kd.int .u8) 5 w' w.heap.size (fun _ => True) v0_ r ∧ Below w.heap.size w w' := by
 have HR0 := Aside0.mk hr0
 have HC0 := Aside0.mk hc0
 clear hr0 hc0
 have HB := Aside0.mk (Below.refl w.heap.size w)
 have H : ((waybillref01_Copied.f l0).bind fun t189 => (waybillref01_Put.l0 k a1 t189)) = some r := h
 clear h
 replace H := Option.bind_eq_some_iff.mp H
 obtain ⟨t189, A30, H⟩ := H
 replace H : (waybillref01_Put.l0 k a1 t189) = some r := H
 have A3 := Aside0.mk A30
 clear A30
 have H' := Aside0.mk H
 clear H
 go_enter Try.func43, Try.ntmps43
 go_wp2_with (first | ((with_reducible refine gate_callee (f := 61) rfl ?_); refine goesL_ (some 7) rfl rfl Try.func61 (by kernel_rfl) rfl #[.slice A0 l0.length c0] rfl (by (try simp only [List.map_toArray, List.map_cons, List.map_nil]); first | done | rfl | (simp only [List.length_drop, List.length_take]; rfl)) ?_; (with_reducible refine (waybillref01_Copied.calls _ _ l0 t189 _ ?side1 ?side2 A3.out).mono ?_); (case side1 => repeat (first | exact HR0.out | (with_reducible refine Kd.C_alloc ?_ _) | (with_reducible refine Kd.C_drewN ?_ _) | (with_reducible refine Kd.C_drew ?_))); (case side2 => exact HC0.out); rintro e w4 ⟨v190, rfl, ho0, hb⟩; refine ⟨_, rfl, ?_⟩; have n0_ := Aside0.mk (Kd.R_lower ho0 (below_size (by repeat (first | (with_reducible first | exact HB.out | apply below_alloc | apply pw_below_drewN | apply below_drew1) | exact HB.out)))); have n1_ := Aside0.mk (below_step (by repeat (first | (with_reducible first | exact HB.out | apply below_alloc | apply pw_below_drewN | apply below_drew1) | exact HB.out)) hb); clear HB; have HO191 := n0_; have HB := n1_; clear n0_ n1_; (try clear hb); (try clear hb2); (try clear hk); (try clear hi); (try clear ho0)))
 go_loopg [1, 5] k (fun kq v1 v5 w' => ∃ (x1_1 : Int) (x5_1 : List Int), v1 = .int .u64 x1_1 ∧ Aside0 (waybillref01_Put.l0 kq x1_1 x5_1 = some r) ∧ Aside0 (kq ≤ k) ∧ Aside0 (Kd.R (Kd.int .u8) 5 w' w.heap.size (fun _ => True) v5 x5_1) ∧ Aside0 (Below w.heap.size w w'))
 case atStart => exact ⟨(a1), (t189), (by first | rfl | (simp; done) | (simp [*]; done)), H', ⟨Nat.le_refl _⟩, ⟨by (with_reducible repeat (first | apply Kd.R_alloc | apply Kd.R_drewN | apply Kd.R_drew)); exact HO191.out⟩, ⟨by repeat (first | (with_reducible first | exact HB.out | apply below_alloc | apply pw_below_drewN | apply below_drew1) | exact HB.out)⟩⟩
 case round =>
  clear H'
  try clear p2
  try clear c4
  obtain ⟨x1_1, x5_1, rfl, HA, HK1, HO_5, HB⟩ := hrel
  cases gk with
  | zero => exact absurd HA.out (by simp [waybillref01_Put.l0])
  | succ k1 =>
   have H := HA.out
   clear HA
   simp only [waybillref01_Put.l0] at H
   by_cases c5 : x1_1 ≥ 128
   · rw [if_pos c5] at H
     have c5b0 : decide (128 ≤ x1_1) = true := decide_eq_true c5
     clear c5
     by_cases c6 : x5_1.length < 140737488355328
     · rw [if_pos c6] at H
       have LMc6 := Aside0.mk c6
       clear c6
       obtain ⟨y192, hy192⟩ : ∃ y_ : List Int, y_ = (x5_1 ++ [((Int.tmod x1_1 128) + 128) % 256]) := ⟨_, rfl⟩
       replace H : (waybillref01_Put.l0 k1 (IntKind.u64.wrap (Int.tdiv x1_1 128)) y192) = some r := by first | (rw [hy192]; with_reducible exact H) | (have H2_ := (Option.bind_some _ _).symm.trans H; rw [hy192]; with_reducible exact H2_) | (have H2_ := (Option.bind_some _ _).symm.trans H; with_reducible exact H2_) | with_reducible exact H | (rw [hy192]; exact H) | exact H
       have Ny192 := Aside0.mk hy192
       clear hy192
       have H' := Aside0.mk H
       clear H
       go_wp2_with (first | ((with_reducible refine gate_builtin (b := .append) (xs := #[.tmp 10, .tmp 15]) rfl ?_); at_builtin; refine Kd.R_append (Kd.int .u8) (w0 := w) w.heap.size rfl (.tmp 10) (.tmp 15) 22 5 (.int .u8 0) 1 rfl Try.underlying22 info5 rfl (by decide) (by omega) u5 x5_1 (((Int.tmod x1_1 128) + 128) % 256) [.int .u8 (((Int.tmod x1_1 128) + 128) % 256)] (fun _ => True) (fun _ => False) rfl rfl ?aP (fun _ hk => hk.elim) ?aF ?aO ?aB ?aS ?aL ?_; (case aP => exact rfl); (case aB => exact (by repeat (first | (with_reducible first | exact HB.out | apply below_alloc | apply pw_below_drewN | apply below_drew1) | exact HB.out))); (case aF => exact (fun _ _ => trivial)); (case aO => exact (by (with_reducible repeat (first | apply Kd.R_alloc | apply Kd.R_drewN | apply Kd.R_drew)); exact HO_5.out)); (case aS => exact (below_size (by repeat (first | (with_reducible first | exact HB.out | apply below_alloc | apply pw_below_drewN | apply below_drew1) | exact HB.out)))); (case aL => have := LMc6.out; omega); intro v193 w7 ho hb hg hat; rw [← Ny192.out] at ho; have n0_ := Aside0.mk (hb); have n1_ := Aside0.mk (ho); clear HB; clear HO_5; have HB := n0_; have HO194 := n1_; clear n0_ n1_; clear ho hb hg hat))
       go_roundg k1
       case measure => have := HK1.out; omega
       case rel => exact ⟨(IntKind.u64.wrap (Int.tdiv x1_1 128)), (y192), (by first | rfl | (simp; done) | (simp [*]; done)), H', ⟨by have := HK1.out; omega⟩, ⟨by (with_reducible repeat (first | apply Kd.R_alloc | apply Kd.R_drewN | apply Kd.R_drew)); exact HO194.out⟩, ⟨by repeat (first | (with_reducible first | exact HB.out | apply below_alloc | apply pw_below_drewN | apply below_drew1) | exact HB.out)⟩⟩
     · rw [if_neg c6] at H
       exact absurd H (by simp)
   · rw [if_neg c5] at H
     have c5b0 : decide (128 ≤ x1_1) = false := decide_eq_false c5
     clear c5
     by_cases c8 : x5_1.length < 140737488355328
     · rw [if_pos c8] at H
       have LMc8 := Aside0.mk c8
       clear c8
       obtain ⟨y195, hy195⟩ : ∃ y_ : List Int, y_ = (x5_1 ++ [(x1_1) % 256]) := ⟨_, rfl⟩
       replace H : (some y195) = some r := by first | (rw [hy195]; with_reducible exact H) | (have H2_ := (Option.bind_some _ _).symm.trans H; rw [hy195]; with_reducible exact H2_) | (have H2_ := (Option.bind_some _ _).symm.trans H; with_reducible exact H2_) | with_reducible exact H | (rw [hy195]; exact H) | exact H
       have Ny195 := Aside0.mk hy195
       clear hy195
       obtain rfl := Option.some.inj H
       simp only [Option.some.injEq, Prod.mk.injEq] at H
       obtain ⟨rfl⟩ := H
       go_wp2_with (first | ((with_reducible refine gate_builtin (b := .append) (xs := #[.tmp 19, .tmp 22]) rfl ?_); at_builtin; refine Kd.R_append (Kd.int .u8) (w0 := w) w.heap.size rfl (.tmp 19) (.tmp 22) 22 5 (.int .u8 0) 1 rfl Try.underlying22 info5 rfl (by decide) (by omega) u5 x5_1 ((x1_1) % 256) [.int .u8 ((x1_1) % 256)] (fun _ => True) (fun _ => False) rfl rfl ?aP (fun _ hk => hk.elim) ?aF ?aO ?aB ?aS ?aL ?_; (case aP => exact rfl); (case aB => exact (by repeat (first | (with_reducible first | exact HB.out | apply below_alloc | apply pw_below_drewN | apply below_drew1) | exact HB.out))); (case aF => exact (fun _ _ => trivial)); (case aO => exact (by (with_reducible repeat (first | apply Kd.R_alloc | apply Kd.R_drewN | apply Kd.R_drew)); exact HO_5.out)); (case aS => exact (below_size (by repeat (first | (with_reducible first | exact HB.out | apply below_alloc | apply pw_below_drewN | apply below_drew1) | exact HB.out)))); (case aL => have := LMc8.out; omega); intro v196 w9 ho hb hg hat; rw [← Ny195.out] at ho; have n0_ := Aside0.mk (hb); have n1_ := Aside0.mk (ho); clear HB; clear HO_5; have HB := n0_; have HO197 := n1_; clear n0_ n1_; clear ho hb hg hat))
       go_ret
       exact ⟨_, by first | rfl | (simp [errW_none, errW_some] <;> rfl) | (simp [*, errW_none, errW_some] <;> rfl), by (with_reducible repeat (first | apply Kd.R_alloc | apply Kd.R_drewN | apply Kd.R_drew)); exact HO197.out, by repeat (first | (with_reducible first | exact HB.out | apply below_alloc | apply pw_below_drewN | apply below_drew1) | exact HB.out)⟩
     · rw [if_neg c8] at H
       exact absurd H (by simp)
end Go.Proofs.Ytkddlhcpplkpbaa.G
end
