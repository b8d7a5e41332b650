/- MessageTellsUpto: texts of this claim, packed: what the kit's print has written for it and own texts, without what its proof does not reach. -/
import Derived.Test.YtkddlhcpplkpbaaKMessageTellsUpto15
import Derived.Test.YtkddlhcpplkpbaaKMessageTellsUpto16
import Derived.Test.YtkddlhcpplkpbaaKMessageTellsUpto18
import Derived.Test.YtkddlhcpplkpbaaKMessageTellsUpto21
import Derived.Test.YtkddlhcpplkpbaaKMessageTellsUpto24
set_option linter.unusedVariables false
set_option linter.unusedSimpArgs false
set_option linter.unusedSectionVars false
section
namespace Go.Proofs.Ytkddlhcpplkpbaa.G
open WB Go.RowKit Go.Proofs.YtkddlhcpplkpbaaW.PrintWords Go.Proofs.YtkddlhcpplkpbaaW.PrintLast Go.Proofs.YtkddlhcpplkpbaaW.PrintMore
attribute [local go_sem] max2_int min2_int max_two min_two max_three min_three max_four min_four   -- for this text's walks alone
/-- A kind's letters. -/
def letB (k : Int) : ByteArray := if k = 1 ∨ k = 8 then ⟨#[99, 110]⟩ else if k = 2 then ⟨#[99, 105, 115, 110]⟩ else if k = 3 then ⟨#[99, 105, 115, 113, 109, 108, 100]⟩ else if k = 4 then ⟨#[99, 105, 115, 113, 111, 112, 100]⟩ else if k = 5 then ⟨#[99, 105, 115, 113, 109]⟩ else if k = 6 then ⟨#[99, 105, 115, 113]⟩ else if k = 7 then ⟨#[99, 105, 115, 113]⟩ else ⟨#[]⟩
theorem form_is (k : Int) : waybillref09_form.f 1 k = some (letB k) := by
 by_cases hk : 1 ≤ k ∧ k ≤ 8
 · have hc : k = 1 ∨ k = 2 ∨ k = 3 ∨ k = 4 ∨ k = 5 ∨ k = 6 ∨ k = 7 ∨ k = 8 := by omega
   rcases hc with rfl | rfl | rfl | rfl | rfl | rfl | rfl | rfl <;> rfl
 · have h8 : (k == 8) = false := beq_eq_false_iff_ne.mpr (by omega)
   have hm : ∀ m, waybillref09_form.j0 (m + 1) k (k == 8) = some (letB k) := fun m => by
    simp only [waybillref09_form.j0]
    unfold letB
    rw [h8, if_neg (by decide), if_neg (by omega), if_neg (by omega), if_neg (by omega), if_neg (by omega), if_neg (by omega), if_neg (by omega), if_neg (by omega), if_neg (by omega), if_neg (by omega), if_neg (by omega), if_neg (by omega), if_neg (by omega), if_neg (by omega)]
   unfold waybillref09_form.f
   rw [if_neg (by omega)]
   exact hm 0
theorem ref_form (k : Int) (w : World) : Calls Try.prog 40 #[.int .i64 k] w fun e w' => e = .returned (.string (letB k)) ∧ Drawn0 w w' := waybillref09_form.calls 1 k (letB k) w (form_is k)
/-- Does a kind use octets? -/
def dat (k : Int) : Bool := decide (k = 3 ∨ k = 4)
theorem let_size (k : Int) : (letB k).size = (ixOf k).length + (if dat k = true then 1 else 0) := by
 by_cases hk : 1 ≤ k ∧ k ≤ 8
 · have hc : k = 1 ∨ k = 2 ∨ k = 3 ∨ k = 4 ∨ k = 5 ∨ k = 6 ∨ k = 7 ∨ k = 8 := by omega
   rcases hc with rfl | rfl | rfl | rfl | rfl | rfl | rfl | rfl <;> rfl
 · rw [ixOf_none hk]
   unfold letB dat
   rw [if_neg (by omega), if_neg (by omega), if_neg (by omega), if_neg (by omega), if_neg (by omega), if_neg (by omega), if_neg (by omega)]
   have : ¬ (k = 3 ∨ k = 4) := by omega
   simp [this]
   rfl
theorem let_get (k : Int) (i : Nat) (hi : i < (ixOf k).length) : ∃ h : i < (letB k).size, (((letB k)[i]'h).toNat : Int) ≠ 100 ∧ fldOf (((letB k)[i]'h).toNat : Int) = (ixOf k).getD i 0 := by
 by_cases hk : 1 ≤ k ∧ k ≤ 8
 · have hc : k = 1 ∨ k = 2 ∨ k = 3 ∨ k = 4 ∨ k = 5 ∨ k = 6 ∨ k = 7 ∨ k = 8 := by omega
   rcases hc with rfl | rfl | rfl | rfl | rfl | rfl | rfl | rfl <;>
   (refine ⟨Nat.lt_of_lt_of_le hi (by rw [let_size]; exact Nat.le_add_right _ _), ?_⟩
    revert i
    decide)
 · rw [ixOf_none hk] at hi
   simp at hi
theorem let_last (k : Int) (h : dat k = true) : ∃ h : (ixOf k).length < (letB k).size, (((letB k)[(ixOf k).length]'h).toNat : Int) = 100 := by
 unfold dat at h
 have hc : k = 3 ∨ k = 4 := of_decide_eq_true h
 rcases hc with rfl | rfl <;> exact ⟨by decide, by decide⟩
theorem onlyN_all (f0 f1 f2 f3 f4 f5 f6 f7 f8 f9 f10 : Int) : onlyN f0 f1 f2 f3 f4 f5 f6 f7 f8 f9 f10 = [f0, onlyF f0 1 f1, f2, onlyF f0 3 f3, onlyF f0 4 f4, onlyF f0 5 f5, onlyF f0 6 f6, onlyF f0 7 f7, onlyF f0 8 f8, onlyF f0 9 f9, onlyF f0 10 f10] := by
 by_cases h : ixOf f0 = []
 · unfold onlyN onlyF
   rw [h]
   simp [takeN]
 · exact onlyN_is _ _ _ _ _ _ _ _ _ _ _ h
/-- Where used is, ahead of round i. -/
structure UsedI (w W : World) (n o : List Int) (D D' : Value) (ix : List Nat) (i : Nat) : Prop where
 bm : W.heap[w.heap.size]? = some (.cells (msgCells n D) 25 (0, 0))
 br : W.heap[w.heap.size + 1]? = some (.cells (msgCells [0, 0, 0, 0, 0, 0, 0, 0, 0, 0, 0] (.slice none 0 0)) 25 (0, 0))
 bo : W.heap[w.heap.size + 1 + 1]? = some (.cells (msgCells (takeN n o (ix.take i)) D') 25 (0, 0))
 bel : Below w.heap.size w W
theorem UsedI.below {w W W1 : World} {n o : List Int} {D D' : Value} {ix : List Nat} {i : Nat} (h : UsedI w W n o D D' ix i) (hb : Below W.heap.size W W1) : UsedI w W1 n o D D' ix i :=
 ⟨blk_below h.bm hb, blk_below h.br hb, blk_below h.bo hb, below_then h.bel h.bel.size hb⟩
theorem UsedI.put {w W : World} {n o : List Int} {D D' : Value} {ix : List Nat} {i : Nat} (h : UsedI w W n o D D' ix i) (hi : i < ix.length) (hj : ix.getD i 0 < o.length) : UsedI w (W.setCell ⟨w.heap.size + 1 + 1, ix.getD i 0, none⟩ (.int .i64 (n.getD (ix.getD i 0) 0))) n o D D' ix (i + 1) := by
 have he : ix.take (i + 1) = ix.take i ++ [ix.getD i 0] := by
  rw [List.take_succ_eq_append_getElem hi]
  simp [List.getD_eq_getElem?_getD, hi]
 refine ⟨blk_far h.bm (by simp; omega) _, blk_far h.br (by simp) _, ?_, below_set h.bel (by omega)⟩
 rw [he, takeN_app]
 exact blk_put h.bo _ _ (msg_set (by rw [takeN_len]; exact hj) _)
theorem UsedI.putD {w W : World} {n o : List Int} {D D' : Value} {ix : List Nat} {i : Nat} (h : UsedI w W n o D D' ix i) (hj : o.length = 11) (D2 : Value) : UsedI w (W.setCell ⟨w.heap.size + 1 + 1, 11, none⟩ D2) n o D D2 ix i :=
 ⟨blk_far h.bm (by simp; omega) _, blk_far h.br (by simp) _, blk_put h.bo _ _ (msg_setD (by rw [takeN_len]; exact hj)), below_set h.bel (by omega)⟩
theorem msg_getD {n : List Int} {D : Value} (h : n.length = 11) : (msgCells n D)[11]? = some D := by
 unfold msgCells
 rw [List.getElem?_toArray, List.getElem?_append_right (by rw [List.length_map]; omega), List.length_map, h]
 rfl
def waybillref09_used.f (a0_0 : Int) (a0_1 : Int) (a0_2 : Int) (a0_3 : Int) (a0_4 : Int) (a0_5 : Int) (a0_6 : Int) (a0_7 : Int) (a0_8 : Int) (a0_9 : Int) (a0_10 : Int) (l0_11 : List Int) : Option (Int × Int × Int × Int × Int × Int × Int × Int × Int × Int × Int × List Int) := (if dat a0_0 = true then waybillref01_Copied.f l0_11 else some []).bind fun D => some (a0_0, (onlyF a0_0 1 a0_1), a0_2, (onlyF a0_0 3 a0_3), (onlyF a0_0 4 a0_4), (onlyF a0_0 5 a0_5), (onlyF a0_0 6 a0_6), (onlyF a0_0 7 a0_7), (onlyF a0_0 8 a0_8), (onlyF a0_0 9 a0_9), (onlyF a0_0 10 a0_10), D)
set_option maxHeartbeats 4000000 in
set_option maxRecDepth 100000 in
theorem waybillref09_used.calls (a0_0 : Int) (a0_1 : Int) (a0_2 : Int) (a0_3 : Int) (a0_4 : Int) (a0_5 : Int) (a0_6 : Int) (a0_7 : Int) (a0_8 : Int) (a0_9 : Int) (a0_10 : Int) (A0_11 : Option Addr) (c0_11 : Nat) (l0_11 : List Int) (r1 : Int) (r2 : Int) (r3 : Int) (r4 : Int) (r5 : Int) (r6 : Int) (r7 : Int) (r8 : Int) (r9 : Int) (r10 : Int) (r11 : Int) (r12 : List Int) (w : World) (hr0_11 : Kd.C (Kd.int .u8) w A0_11 l0_11.length l0_11) (hc0_11 : l0_11.length ≤ c0_11) (h : waybillref09_used.f a0_0 a0_1 a0_2 a0_3 a0_4 a0_5 a0_6 a0_7 a0_8 a0_9 a0_10 l0_11 = some (r1, r2, r3, r4, r5, r6, r7, r8, r9, r10, r11, r12)) :
  Calls Try.prog 50 #[.agg #[.int .i64 a0_0, .int .i64 a0_1, .int .i64 a0_2, .int .i64 a0_3, .int .i64 a0_4, .int .i64 a0_5, .int .i64 a0_6, .int .i64 a0_7, .int .i64 a0_8, .int .i64 a0_9, .int .i64 a0_10, .slice A0_11 l0_11.length c0_11]] w fun e w' => ∃ v11_ : Value, e = .returned (.agg #[.int .i64 r1, .int .i64 r2, .int .i64 r3, .int .i64 r4, .int .i64 r5, .int .i64 r6, .int .i64 r7, .int .i64 r8, .int .i64 r9, .int .i64 r10, .int .i64 r11, v11_]) ∧ Kd.R (Kd.int .u8) 5 w' w.heap.size (fun _ => True) v11_ r12 ∧ Below w.heap.size w w' := by
 unfold waybillref09_used.f at h
 have HR := Aside0.mk hr0_11
 have HC := Aside0.mk hc0_11
 obtain ⟨cp, hcp, h⟩ := Option.bind_eq_some_iff.1 h
 simp only [Option.some.injEq, Prod.mk.injEq] at h
 obtain ⟨rfl, rfl, rfl, rfl, rfl, rfl, rfl, rfl, rfl, rfl, rfl, rfl⟩ := h
 have HCP := Aside0.mk hcp
 clear hr0_11 hc0_11 hcp
 go_enter Try.func50, Try.ntmps50
 go_wp2_with fail
 go_at_call 40
 obtain ⟨n, hn⟩ : ∃ n : List Int, n = [a0_0, a0_1, a0_2, a0_3, a0_4, a0_5, a0_6, a0_7, a0_8, a0_9, a0_10] := ⟨_, rfl⟩
 obtain ⟨o, ho⟩ : ∃ o : List Int, o = [a0_0, 0, a0_2, 0, 0, 0, 0, 0, 0, 0, 0] := ⟨_, rfl⟩
 obtain ⟨W0, hW0⟩ : ∃ W, W = ((w.alloc (.cells #[.int .i64 a0_0, .int .i64 a0_1, .int .i64 a0_2, .int .i64 a0_3, .int .i64 a0_4, .int .i64 a0_5, .int .i64 a0_6, .int .i64 a0_7, .int .i64 a0_8, .int .i64 a0_9, .int .i64 a0_10, .slice A0_11 l0_11.length c0_11] 25)).alloc (.cells #[.int .i64 0, .int .i64 0, .int .i64 0, .int .i64 0, .int .i64 0, .int .i64 0, .int .i64 0, .int .i64 0, .int .i64 0, .int .i64 0, .int .i64 0, .slice none 0 0] 25)).alloc (.cells #[.int .i64 a0_0, .int .i64 0, .int .i64 a0_2, .int .i64 0, .int .i64 0, .int .i64 0, .int .i64 0, .int .i64 0, .int .i64 0, .int .i64 0, .int .i64 0, .slice none 0 0] 25) := ⟨_, rfl⟩
 rw [← hW0]
 have HI0 := Aside0.mk (show UsedI w W0 n o (.slice A0_11 l0_11.length c0_11) (.slice none 0 0) (ixOf a0_0) 0 from ⟨by rw [hW0, hn, msg_lit]; exact blk_alloc (blk_alloc (heap_new1 _ _) _) _, by rw [hW0, msg_lit]; exact blk_alloc (heap_new2 _ _ _) _, by rw [hW0, List.take_zero, takeN, ho, msg_lit]; exact heap_new3 _ _ _ _, by rw [hW0]; exact below_alloc (below_alloc (below_alloc (Below.refl _ _) _) _) _⟩)
 have HN := Aside0.mk hn
 have HO := Aside0.mk ho
 have LN : Aside0 (n.length = 11) := ⟨by rw [hn]; rfl⟩
 have LO : Aside0 (o.length = 11) := ⟨by rw [ho]; rfl⟩
 clear hn ho hW0
 with_reducible refine (ref_form a0_0 _).mono ?_
 rintro e w1 ⟨rfl, hd⟩
 have HI1 := Aside0.mk (HI0.out.below hd.below)
 obtain ⟨ix, hix⟩ : ∃ ix, ix = ixOf a0_0 := ⟨_, rfl⟩
 obtain ⟨S, hS⟩ : ∃ S, S = letB a0_0 := ⟨_, rfl⟩
 rw [← hix] at HI1
 rw [← hS]
 have HIX := Aside0.mk hix
 have HLEN : Aside0 (ix.length ≤ 6) := ⟨by rw [hix]; exact ixOf_len _⟩
 have HXL : Aside0 (∀ i, i < ix.length → 1 ≤ ix.getD i 0 ∧ ix.getD i 0 ≤ 10) := ⟨fun i hi => by
  have hm : ix.getD i 0 ∈ ixOf a0_0 := by
    rw [← HIX.out]
    have he : ix.getD i 0 = ix[i] := by simp [List.getD_eq_getElem?_getD, hi]
    rw [he]; exact List.getElem_mem hi
  exact ⟨(ixOf_lt _ hm).1, (ixOf_lt _ hm).2.1⟩⟩
 have HSZ : Aside0 (S.size = ix.length + (if dat a0_0 = true then 1 else 0)) := ⟨by rw [hS, hix]; exact let_size _⟩
 have HLG : Aside0 (∀ i, i < ix.length → ∃ h : i < S.size, (((S[i]'h).toNat : Int) ≠ 100) ∧ fldOf ((S[i]'h).toNat : Int) = ix.getD i 0) := ⟨by rw [hS, hix]; exact let_get _⟩
 have HLL : Aside0 (dat a0_0 = true → ∃ h : ix.length < S.size, ((S[ix.length]'h).toNat : Int) = 100) := ⟨by rw [hS, hix]; exact let_last _⟩
 have hs8 : S.size ≤ 7 := by rw [HSZ.out]; have := HLEN.out; split <;> omega
 clear hd hix hS HI0
 go_wp2_with fail
 go_loopw [5] (fun v5 wr => ∃ (i : Nat) (D : Value) (ld : List Int), v5 = .int .i64 i ∧ i ≤ S.size ∧ Aside0 (UsedI w wr n o (.slice A0_11 l0_11.length c0_11) D ix i) ∧ Aside0 (Kd.R (Kd.int .u8) 5 wr (w.heap.size + 1 + 1 + 1) (fun _ => True) D ld) ∧ Aside0 (ld = if i ≤ ix.length then [] else cp)) (fun v5 _ => S.size - (intOf v5).toNat)
 case atStart => exact ⟨0, _, [], rfl, Nat.zero_le _, HI1, ⟨Kd.R_nil _ _ _ _ _⟩, ⟨by rw [if_pos (Nat.zero_le _)]⟩⟩
 case round =>
  obtain ⟨i, D, ld, rfl, hi, HI, HD, HLD⟩ := hrel
  by_cases hlt : i < S.size
  · have b1 : decide ((i : Int) < (S.size : Int)) = true := decide_eq_true (by omega)
    have b1' : decide (i < S.size) = true := decide_eq_true hlt
    by_cases hlx : i < ix.length
    · obtain ⟨_, hc1, hc2⟩ := HLG.out i hlx
      have c0 : (((S[i]'hlt).toNat : Int) == 100) = false := beq_eq_false_iff_ne.mpr hc1
      obtain ⟨j, hj⟩ : ∃ j, j = ix.getD i 0 := ⟨_, rfl⟩
      rw [← hj] at hc2
      have HC2 := Aside0.mk hc2
      have hj2 := HXL.out i hlx
      rw [← hj] at hj2
      have q3 : wr.cell? ⟨w.heap.size, j, none⟩ = some (.int .i64 (n.getD j 0)) := by rw [blk_cell HI.out.bm, msg_get (by rw [LN.out]; omega)]
      obtain ⟨x, hx⟩ : ∃ x, wr.cell? ⟨w.heap.size + 1 + 1, j, none⟩ = some (.int .i64 x) := ⟨_, by rw [blk_cell HI.out.bo, msg_get (by rw [takeN_len, LO.out]; omega)]⟩
      obtain ⟨y, hy⟩ : ∃ y, y = n.getD j 0 := ⟨_, rfl⟩
      rw [← hy] at q3
      have HI1 : Aside0 (∀ W, Below wr.heap.size wr W → UsedI w (W.setCell ⟨w.heap.size + 1 + 1, j, none⟩ (.int .i64 y)) n o (.slice A0_11 l0_11.length c0_11) D ix (i + 1)) := ⟨fun W hb => by
       rw [hy, hj]
       exact (HI.out.below hb).put hlx (by rw [← hj, LO.out]; omega)⟩
      have HL0 : Aside0 (ld = []) := ⟨by rw [HLD.out, if_pos (by omega)]⟩
      clear hj hj2 hy hc1 hc2
      go_wp2_with fail
      refine region_tail (B := _) (w0 := _) 11 [(28, (fun v _ => v = .string S)), (29, (fun v _ => v = .int .i64 i)), (30, (fun v _ => v = .int .u8 ((S[i]'hlt).toNat : Int))), (31, (fun v W => v = .pointer (some ⟨w.heap.size + 1 + 1, j, none⟩))), (32, (fun v _ => v = .string S)), (33, (fun v _ => v = .int .i64 i)), (34, (fun v _ => v = .int .u8 ((S[i]'hlt).toNat : Int))), (35, (fun v W => v = .pointer (some ⟨w.heap.size, j, none⟩))), (36, (fun v _ => v = .pointer (some ⟨w.heap.size, j, none⟩))), (37, (fun v _ => v = .int .i64 y)), (38, (fun v _ => v = .pointer (some ⟨w.heap.size + 1 + 1, j, none⟩)))] (by kernel_rfl) (by kernel_rfl) (by decide) (by kernel_rfl) (by kernel_rfl) (by rfl) (show ([28, 29, 30, 31, 32, 33, 34, 35, 36, 37, 38] : List Nat).Nodup by decide) ?hsz ?hst (Below.refl _ _) (Nat.le_refl _) ?step ?fin
      case hsz => exact List.forall_mem_cons.2 ⟨(show 28 < 40 by decide), List.forall_mem_cons.2 ⟨(show 29 < 40 by decide), List.forall_mem_cons.2 ⟨(show 30 < 40 by decide), List.forall_mem_cons.2 ⟨(show 31 < 40 by decide), List.forall_mem_cons.2 ⟨(show 32 < 40 by decide), List.forall_mem_cons.2 ⟨(show 33 < 40 by decide), List.forall_mem_cons.2 ⟨(show 34 < 40 by decide), List.forall_mem_cons.2 ⟨(show 35 < 40 by decide), List.forall_mem_cons.2 ⟨(show 36 < 40 by decide), List.forall_mem_cons.2 ⟨(show 37 < 40 by decide), List.forall_mem_cons.2 ⟨(show 38 < 40 by decide), fun _ h => nomatch h⟩⟩⟩⟩⟩⟩⟩⟩⟩⟩⟩
      case hst => exact List.forall_mem_cons.2 ⟨(fun v w1 w2 hb h => h), List.forall_mem_cons.2 ⟨(fun v w1 w2 hb h => h), List.forall_mem_cons.2 ⟨(fun v w1 w2 hb h => h), List.forall_mem_cons.2 ⟨(fun v w1 w2 hb h => h), List.forall_mem_cons.2 ⟨(fun v w1 w2 hb h => h), List.forall_mem_cons.2 ⟨(fun v w1 w2 hb h => h), List.forall_mem_cons.2 ⟨(fun v w1 w2 hb h => h), List.forall_mem_cons.2 ⟨(fun v w1 w2 hb h => h), List.forall_mem_cons.2 ⟨(fun v w1 w2 hb h => h), List.forall_mem_cons.2 ⟨(fun v w1 w2 hb h => h), List.forall_mem_cons.2 ⟨(fun v w1 w2 hb h => h), fun _ h => nomatch h⟩⟩⟩⟩⟩⟩⟩⟩⟩⟩⟩
      case step =>
       intro i_ o_ e_ ho he a w1_ hs hdf hfr hbl hbs hpre
       match i_, ho, he with
       | 0, ho, he => obtain rfl : o_ = ⟨_, _, _, _, _, _⟩ := (Option.some.inj ho).symm; obtain rfl := Option.some.inj he; clear he; have f4 : a.tmps.getD 4 undef = .string S := (by rw [Array.getD_eq_getD_getElem?, hfr 4 (show ¬ 4 ∈ ([28, 29, 30, 31, 32, 33, 34, 35, 36, 37, 38] : List Nat) by decide)]; rfl); clear hpre hfr; refine wpOp_value (v := .string S) ho rfl ?_ ⟨_, rfl, rfl, Below.refl _ _⟩; simp only [execOp, Act.eval, List.map_toArray, List.map_cons, List.map_nil, f4]; first | rfl | (go_simp; done) | (go_simp; rfl) | (go_simp; intro h_; exfalso; omega)
       | 1, ho, he => obtain rfl : o_ = ⟨_, _, _, _, _, _⟩ := (Option.some.inj ho).symm; obtain rfl := Option.some.inj he; clear he; have f5 : a.tmps.getD 5 undef = .int .i64 i := (by rw [Array.getD_eq_getD_getElem?, hfr 5 (show ¬ 5 ∈ ([28, 29, 30, 31, 32, 33, 34, 35, 36, 37, 38] : List Nat) by decide)]; rfl); clear hpre hfr; refine wpOp_value (v := .int .i64 i) ho rfl ?_ ⟨_, rfl, rfl, Below.refl _ _⟩; simp only [execOp, Act.eval, List.map_toArray, List.map_cons, List.map_nil, f5]; first | rfl | (go_simp; done) | (go_simp; rfl) | (go_simp; intro h_; exfalso; omega)
       | 2, ho, he => obtain rfl : o_ = ⟨_, _, _, _, _, _⟩ := (Option.some.inj ho).symm; obtain rfl := Option.some.inj he; clear he; have e28 : a.tmps.getD 28 undef = .string S := hpre ⟨0, .data⟩ (by simp) rfl _ rfl; have e29 : a.tmps.getD 29 undef = .int .i64 i := hpre ⟨1, .data⟩ (by simp) rfl _ rfl; clear hpre hfr; refine wpOp_value (v := .int .u8 ((S[i]'hlt).toNat : Int)) ho rfl ?_ ⟨_, rfl, rfl, Below.refl _ _⟩; simp only [execOp, Act.eval, List.map_toArray, List.map_cons, List.map_nil, e28, e29]; first | rfl | (go_simp; done) | (go_simp; rfl) | (go_simp; intro h_; exfalso; omega)
       | 3, ho, he => obtain rfl : o_ = ⟨_, _, _, _, _, _⟩ := (Option.some.inj ho).symm; obtain rfl := Option.some.inj he; clear he; have e30 : a.tmps.getD 30 undef = .int .u8 ((S[i]'hlt).toNat : Int) := hpre ⟨2, .data⟩ (by simp) rfl _ rfl; have f3 : a.tmps.getD 3 undef = .pointer (some ⟨w.heap.size + 1 + 1, 0, none⟩) := (by rw [Array.getD_eq_getD_getElem?, hfr 3 (show ¬ 3 ∈ ([28, 29, 30, 31, 32, 33, 34, 35, 36, 37, 38] : List Nat) by decide)]; rfl); clear hpre hfr; refine wpOp_call (fn := Try.f42) ho rfl rfl rfl rfl #[.pointer (some ⟨w.heap.size + 1 + 1, 0, none⟩), .int .u8 ((S[i]'hlt).toNat : Int)] rfl (by simp only [List.map_toArray, List.map_cons, List.map_nil, Act.eval, f3, e30]) ?_; refine (ref_field _ _ _).mono ?_; rintro e w2 ⟨rfl, rfl⟩; exact ⟨_, rfl, ⟨_, rfl, by rw [HC2.out], Below.refl _ _⟩⟩
       | 4, ho, he => obtain rfl : o_ = ⟨_, _, _, _, _, _⟩ := (Option.some.inj ho).symm; obtain rfl := Option.some.inj he; clear he; have f4 : a.tmps.getD 4 undef = .string S := (by rw [Array.getD_eq_getD_getElem?, hfr 4 (show ¬ 4 ∈ ([28, 29, 30, 31, 32, 33, 34, 35, 36, 37, 38] : List Nat) by decide)]; rfl); clear hpre hfr; refine wpOp_value (v := .string S) ho rfl ?_ ⟨_, rfl, rfl, Below.refl _ _⟩; simp only [execOp, Act.eval, List.map_toArray, List.map_cons, List.map_nil, f4]; first | rfl | (go_simp; done) | (go_simp; rfl) | (go_simp; intro h_; exfalso; omega)
       | 5, ho, he => obtain rfl : o_ = ⟨_, _, _, _, _, _⟩ := (Option.some.inj ho).symm; obtain rfl := Option.some.inj he; clear he; have f5 : a.tmps.getD 5 undef = .int .i64 i := (by rw [Array.getD_eq_getD_getElem?, hfr 5 (show ¬ 5 ∈ ([28, 29, 30, 31, 32, 33, 34, 35, 36, 37, 38] : List Nat) by decide)]; rfl); clear hpre hfr; refine wpOp_value (v := .int .i64 i) ho rfl ?_ ⟨_, rfl, rfl, Below.refl _ _⟩; simp only [execOp, Act.eval, List.map_toArray, List.map_cons, List.map_nil, f5]; first | rfl | (go_simp; done) | (go_simp; rfl) | (go_simp; intro h_; exfalso; omega)
       | 6, ho, he => obtain rfl : o_ = ⟨_, _, _, _, _, _⟩ := (Option.some.inj ho).symm; obtain rfl := Option.some.inj he; clear he; have e32 : a.tmps.getD 32 undef = .string S := hpre ⟨4, .data⟩ (by simp) rfl _ rfl; have e33 : a.tmps.getD 33 undef = .int .i64 i := hpre ⟨5, .data⟩ (by simp) rfl _ rfl; clear hpre hfr; refine wpOp_value (v := .int .u8 ((S[i]'hlt).toNat : Int)) ho rfl ?_ ⟨_, rfl, rfl, Below.refl _ _⟩; simp only [execOp, Act.eval, List.map_toArray, List.map_cons, List.map_nil, e32, e33]; first | rfl | (go_simp; done) | (go_simp; rfl) | (go_simp; intro h_; exfalso; omega)
       | 7, ho, he => obtain rfl : o_ = ⟨_, _, _, _, _, _⟩ := (Option.some.inj ho).symm; obtain rfl := Option.some.inj he; clear he; have e34 : a.tmps.getD 34 undef = .int .u8 ((S[i]'hlt).toNat : Int) := hpre ⟨6, .data⟩ (by simp) rfl _ rfl; have f1 : a.tmps.getD 1 undef = .pointer (some ⟨w.heap.size, 0, none⟩) := (by rw [Array.getD_eq_getD_getElem?, hfr 1 (show ¬ 1 ∈ ([28, 29, 30, 31, 32, 33, 34, 35, 36, 37, 38] : List Nat) by decide)]; rfl); clear hpre hfr; refine wpOp_call (fn := Try.f42) ho rfl rfl rfl rfl #[.pointer (some ⟨w.heap.size, 0, none⟩), .int .u8 ((S[i]'hlt).toNat : Int)] rfl (by simp only [List.map_toArray, List.map_cons, List.map_nil, Act.eval, f1, e34]) ?_; refine (ref_field _ _ _).mono ?_; rintro e w2 ⟨rfl, rfl⟩; exact ⟨_, rfl, ⟨_, rfl, by rw [HC2.out], Below.refl _ _⟩⟩
       | 8, ho, he => obtain rfl : o_ = ⟨_, _, _, _, _, _⟩ := (Option.some.inj ho).symm; obtain rfl := Option.some.inj he; clear he; have e35 := hpre ⟨7, .data⟩ (by simp) rfl _ rfl; dsimp only at e35; clear hpre hfr; refine wpOp_value (v := .pointer (some ⟨w.heap.size, j, none⟩)) ho rfl ?_ ⟨_, rfl, rfl, Below.refl _ _⟩; simp only [execOp, Act.eval, List.map_toArray, List.map_cons, List.map_nil]; first | rfl | (go_simp; done) | (go_simp; rfl) | (go_simp; intro h_; exfalso; omega)
       | 9, ho, he => obtain rfl : o_ = ⟨_, _, _, _, _, _⟩ := (Option.some.inj ho).symm; obtain rfl := Option.some.inj he; clear he; have e36 : a.tmps.getD 36 undef = .pointer (some ⟨w.heap.size, j, none⟩) := hpre ⟨8, .data⟩ (by simp) rfl _ rfl; clear hpre hfr; have k_q3 := (hbl.cell (World.block_lt_of_cell? _ _ q3)).trans q3; refine wpOp_value (v := .int .i64 y) ho rfl ?_ ⟨_, rfl, rfl, Below.refl _ _⟩; simp only [execOp, Act.eval, List.map_toArray, List.map_cons, List.map_nil, e36]; first | rfl | (go_simp; done) | (go_simp; rfl) | (go_simp; intro h_; exfalso; omega)
       | 10, ho, he => obtain rfl : o_ = ⟨_, _, _, _, _, _⟩ := (Option.some.inj ho).symm; obtain rfl := Option.some.inj he; clear he; have e31 := hpre ⟨3, .data⟩ (by simp) rfl _ rfl; dsimp only at e31; clear hpre hfr; refine wpOp_value (v := .pointer (some ⟨w.heap.size + 1 + 1, j, none⟩)) ho rfl ?_ ⟨_, rfl, rfl, Below.refl _ _⟩; simp only [execOp, Act.eval, List.map_toArray, List.map_cons, List.map_nil]; first | rfl | (go_simp; done) | (go_simp; rfl) | (go_simp; intro h_; exfalso; omega)
       | n_ + 11, ho, he => simp at he
      case fin =>
       intro xv_ w1_ hbl hbs hx
       simp only [List.forall_mem_cons] at hx
       obtain ⟨x28, x29, x30, x31, x32, x33, x34, x35, x36, x37, x38, _⟩ := hx
       simp only [List.map_cons, List.map_nil, putL, Act.put, List.setIfInBounds_toArray, List.set_cons_zero, List.set_cons_succ, x28, x29, x30, x31, x32, x33, x34, x35, x36, x37, x38]
       simp only [List.drop_succ_cons, List.drop_zero]
       clear x28 x29 x30 x31 x32 x33 x34 x35 x36 x37 x38
       have y4 : w1_.cell? ⟨w.heap.size + 1 + 1, j, none⟩ = some (.int .i64 x) := (hbl.cell (p := ⟨w.heap.size + 1 + 1, j, none⟩) (blk_lt HI.out.bo)).trans hx
       have z4 : w1_.frozen? ⟨w.heap.size + 1 + 1, j, none⟩ = false := blk_frozen (HI.out.below hbl).bo j
       have HI2 := Aside0.mk (HI1.out _ hbl)
       have HD2 := Aside0.mk (Kd.R_step (Kd.R_bound (Kd.R_below HD.out hbl)) (fun k hk _ => Below.heap_setCell w1_ ⟨w.heap.size + 1 + 1, j, none⟩ (.int .i64 y) k (by have := hk.2.1; show k ≠ w.heap.size + 1 + 1; omega)))
       clear hbl
       go_wp2_with fail
       go_roundw
       case rel => exact ⟨i + 1, D, ld, by go_num, by omega, HI2, ⟨Kd.R_mono HD2.out (fun _ _ => trivial)⟩, ⟨by rw [HL0.out, if_pos (by omega)]⟩⟩
       case measure => simp [intOf]; omega
    · have hdt : dat a0_0 = true := by
       apply Classical.byContradiction
       intro hn
       have := HSZ.out
       rw [if_neg hn] at this
       omega
      have hei : i = ix.length := by have := HSZ.out; rw [if_pos hdt] at this; omega
      subst hei
      obtain ⟨_, hc1⟩ := HLL.out hdt
      have c0 : (((S[ix.length]'hlt).toNat : Int) == 100) = true := beq_iff_eq.mpr hc1
      have hcp := HCP.out
      rw [if_pos hdt] at hcp
      have HCP2 := Aside0.mk hcp
      have HDT := Aside0.mk hdt
      have hbm := HI.out.bm
      rw [HN.out, msg_lit] at hbm
      have q11 : wr.cell? ⟨w.heap.size, 11, none⟩ = some (.slice A0_11 l0_11.length c0_11) := (blk_cell hbm 11).trans rfl
      have HRR := Aside0.mk (Kd.C_below HR.out HI.out.bel)
      have HI9 : Aside0 (∀ W, Below wr.heap.size wr W → ∀ D2, UsedI w (W.setCell ⟨w.heap.size + 1 + 1, 11, none⟩ D2) n o (.slice A0_11 l0_11.length c0_11) D2 ix (ix.length + 1)) := ⟨fun W hb D2 => by
       have h := (HI.out.below hb).putD LO.out D2
       exact ⟨h.bm, h.br, by rw [List.take_of_length_le (by omega)]; have := h.bo; rw [List.take_of_length_le (by omega)] at this; exact this, h.bel⟩⟩
      clear hbm hc1 hcp hdt
      go_wp2_with fail
      go_at_call 61
      with_reducible refine (waybillref01_Copied.calls A0_11 c0_11 l0_11 cp _ HRR.out HC.out HCP2.out).mono ?_
      rintro e w2 ⟨v2, rfl, hr2, hb⟩
      have y4 : ∃ x, w2.cell? ⟨w.heap.size + 1 + 1, 11, none⟩ = some x := ⟨_, (blk_cell (HI.out.below hb).bo 11).trans (msg_getD (by rw [takeN_len]; exact LO.out))⟩
      obtain ⟨x, y4⟩ := y4
      have z4 : w2.frozen? ⟨w.heap.size + 1 + 1, 11, none⟩ = false := blk_frozen (HI.out.below hb).bo 11
      obtain ⟨A2, c2, rfl⟩ := Kd.R_slice hr2
      have HI2 := Aside0.mk (HI9.out _ hb (.slice A2 cp.length c2))
      have HD2 := Aside0.mk (Kd.R_step (Kd.R_bound (Kd.R_lower hr2 (show w.heap.size + 1 + 1 + 1 ≤ _ from blk_lt HI.out.bo))) (fun k hk _ => Below.heap_setCell w2 ⟨w.heap.size + 1 + 1, 11, none⟩ (.slice A2 cp.length c2) k (by have := hk.2.1; show k ≠ w.heap.size + 1 + 1; omega)))
      clear hb hr2 HRR
      go_wp2_with fail
      go_roundw
      case rel => exact ⟨ix.length + 1, _, cp, by go_num, by omega, HI2, ⟨Kd.R_mono HD2.out (fun _ _ => trivial)⟩, ⟨by rw [if_neg (by omega)]⟩⟩
      case measure => simp [intOf]; omega
  · have b1 : decide ((i : Int) < (S.size : Int)) = false := decide_eq_false (by omega)
    have b1' : decide (i < S.size) = false := decide_eq_false hlt
    have hcl : cp = ld := by
      have h1 := HCP.out
      rw [HLD.out]
      have h2 := HSZ.out
      split at h1
      case isTrue hd => rw [if_pos hd] at h2; rw [if_neg (by omega)]
      case isFalse hd => rw [if_neg hd] at h2; rw [if_pos (by omega)]; exact (Option.some.inj h1).symm
    obtain ⟨A2, c2, rfl⟩ := Kd.R_slice HD.out
    have HBO := Aside0.mk (show wr.heap[w.heap.size + 1 + 1]? = some (.cells (msgCells [a0_0, (onlyF a0_0 1 a0_1), a0_2, (onlyF a0_0 3 a0_3), (onlyF a0_0 4 a0_4), (onlyF a0_0 5 a0_5), (onlyF a0_0 6 a0_6), (onlyF a0_0 7 a0_7), (onlyF a0_0 8 a0_8), (onlyF a0_0 9 a0_9), (onlyF a0_0 10 a0_10)] (.slice A2 ld.length c2)) 25 (0, 0)) by
      have h := HI.out.bo
      have hsz := HSZ.out
      rw [List.take_of_length_le (by omega), HIX.out, HN.out, HO.out] at h
      rw [← onlyN_all]
      exact h)
    have HBR := Aside0.mk HI.out.br
    have HBB := Aside0.mk HI.out.bel
    obtain rfl := hcl
    have hms := HBO.out
    rw [msg_lit] at hms
    have hmr := HBR.out
    rw [msg_lit] at hmr
    have r0 : wr.cell? ⟨w.heap.size + 1 + 1, 0, none⟩ = some (.int .i64 a0_0) := (blk_cell hms 0).trans rfl
    have s0 : wr.cell? ⟨w.heap.size + 1, 0, none⟩ = some (.int .i64 0) := (blk_cell hmr 0).trans rfl
    have u0_ : wr.frozen? ⟨w.heap.size + 1, 0, none⟩ = false := blk_frozen hmr 0
    have r1 : wr.cell? ⟨w.heap.size + 1 + 1, 1, none⟩ = some (.int .i64 (onlyF a0_0 1 a0_1)) := (blk_cell hms 1).trans rfl
    have s1 : wr.cell? ⟨w.heap.size + 1, 1, none⟩ = some (.int .i64 0) := (blk_cell hmr 1).trans rfl
    have u1_ : wr.frozen? ⟨w.heap.size + 1, 1, none⟩ = false := blk_frozen hmr 1
    have r2 : wr.cell? ⟨w.heap.size + 1 + 1, 2, none⟩ = some (.int .i64 a0_2) := (blk_cell hms 2).trans rfl
    have s2 : wr.cell? ⟨w.heap.size + 1, 2, none⟩ = some (.int .i64 0) := (blk_cell hmr 2).trans rfl
    have u2_ : wr.frozen? ⟨w.heap.size + 1, 2, none⟩ = false := blk_frozen hmr 2
    have r3 : wr.cell? ⟨w.heap.size + 1 + 1, 3, none⟩ = some (.int .i64 (onlyF a0_0 3 a0_3)) := (blk_cell hms 3).trans rfl
    have s3 : wr.cell? ⟨w.heap.size + 1, 3, none⟩ = some (.int .i64 0) := (blk_cell hmr 3).trans rfl
    have u3_ : wr.frozen? ⟨w.heap.size + 1, 3, none⟩ = false := blk_frozen hmr 3
    have r4 : wr.cell? ⟨w.heap.size + 1 + 1, 4, none⟩ = some (.int .i64 (onlyF a0_0 4 a0_4)) := (blk_cell hms 4).trans rfl
    have s4 : wr.cell? ⟨w.heap.size + 1, 4, none⟩ = some (.int .i64 0) := (blk_cell hmr 4).trans rfl
    have u4_ : wr.frozen? ⟨w.heap.size + 1, 4, none⟩ = false := blk_frozen hmr 4
    have r5 : wr.cell? ⟨w.heap.size + 1 + 1, 5, none⟩ = some (.int .i64 (onlyF a0_0 5 a0_5)) := (blk_cell hms 5).trans rfl
    have s5 : wr.cell? ⟨w.heap.size + 1, 5, none⟩ = some (.int .i64 0) := (blk_cell hmr 5).trans rfl
    have u5_ : wr.frozen? ⟨w.heap.size + 1, 5, none⟩ = false := blk_frozen hmr 5
    have r6 : wr.cell? ⟨w.heap.size + 1 + 1, 6, none⟩ = some (.int .i64 (onlyF a0_0 6 a0_6)) := (blk_cell hms 6).trans rfl
    have s6 : wr.cell? ⟨w.heap.size + 1, 6, none⟩ = some (.int .i64 0) := (blk_cell hmr 6).trans rfl
    have u6_ : wr.frozen? ⟨w.heap.size + 1, 6, none⟩ = false := blk_frozen hmr 6
    have r7 : wr.cell? ⟨w.heap.size + 1 + 1, 7, none⟩ = some (.int .i64 (onlyF a0_0 7 a0_7)) := (blk_cell hms 7).trans rfl
    have s7 : wr.cell? ⟨w.heap.size + 1, 7, none⟩ = some (.int .i64 0) := (blk_cell hmr 7).trans rfl
    have u7_ : wr.frozen? ⟨w.heap.size + 1, 7, none⟩ = false := blk_frozen hmr 7
    have r8 : wr.cell? ⟨w.heap.size + 1 + 1, 8, none⟩ = some (.int .i64 (onlyF a0_0 8 a0_8)) := (blk_cell hms 8).trans rfl
    have s8 : wr.cell? ⟨w.heap.size + 1, 8, none⟩ = some (.int .i64 0) := (blk_cell hmr 8).trans rfl
    have u8_ : wr.frozen? ⟨w.heap.size + 1, 8, none⟩ = false := blk_frozen hmr 8
    have r9 : wr.cell? ⟨w.heap.size + 1 + 1, 9, none⟩ = some (.int .i64 (onlyF a0_0 9 a0_9)) := (blk_cell hms 9).trans rfl
    have s9 : wr.cell? ⟨w.heap.size + 1, 9, none⟩ = some (.int .i64 0) := (blk_cell hmr 9).trans rfl
    have u9_ : wr.frozen? ⟨w.heap.size + 1, 9, none⟩ = false := blk_frozen hmr 9
    have r10 : wr.cell? ⟨w.heap.size + 1 + 1, 10, none⟩ = some (.int .i64 (onlyF a0_0 10 a0_10)) := (blk_cell hms 10).trans rfl
    have s10 : wr.cell? ⟨w.heap.size + 1, 10, none⟩ = some (.int .i64 0) := (blk_cell hmr 10).trans rfl
    have u10_ : wr.frozen? ⟨w.heap.size + 1, 10, none⟩ = false := blk_frozen hmr 10
    have r11 : wr.cell? ⟨w.heap.size + 1 + 1, 11, none⟩ = some (.slice A2 cp.length c2) := (blk_cell hms 11).trans rfl
    have s11 : wr.cell? ⟨w.heap.size + 1, 11, none⟩ = some (.slice none 0 0) := (blk_cell hmr 11).trans rfl
    have u11_ : wr.frozen? ⟨w.heap.size + 1, 11, none⟩ = false := blk_frozen hmr 11
    clear hms hmr HI
    go_wp2_with fail
    refine bodyPost_ret (results_cell_row rfl _ _ (w.heap.size + 1) 25 #[.int .i64 a0_0, .int .i64 (onlyF a0_0 1 a0_1), .int .i64 a0_2, .int .i64 (onlyF a0_0 3 a0_3), .int .i64 (onlyF a0_0 4 a0_4), .int .i64 (onlyF a0_0 5 a0_5), .int .i64 (onlyF a0_0 6 a0_6), .int .i64 (onlyF a0_0 7 a0_7), .int .i64 (onlyF a0_0 8 a0_8), .int .i64 (onlyF a0_0 9 a0_9), .int .i64 (onlyF a0_0 10 a0_10), .slice A2 cp.length c2] (0, 0) _ rfl (msg_fill HBR.out a0_0 (onlyF a0_0 1 a0_1) a0_2 (onlyF a0_0 3 a0_3) (onlyF a0_0 4 a0_4) (onlyF a0_0 5 a0_5) (onlyF a0_0 6 a0_6) (onlyF a0_0 7 a0_7) (onlyF a0_0 8 a0_8) (onlyF a0_0 9 a0_9) (onlyF a0_0 10 a0_10) (.slice A2 cp.length c2)) Try.underlying25 rfl (by kernel_rfl)) rfl ?_
    refine ⟨_, rfl, ?_, msg_fillB HBB.out (by omega) _ _ _ _ _ _ _ _ _ _ _ _⟩
    exact Kd.R_lower (Kd.R_mono (Kd.R_step (Kd.R_bound HD.out) (fun k hk _ => fill_keep _ _ _ _ _ _ _ _ _ _ _ _ k (by have := hk.2.1; omega))) (fun _ _ => trivial)) (by omega)
end Go.Proofs.Ytkddlhcpplkpbaa.G
end
section
namespace Go.Proofs.Ytkddlhcpplkpbaa.G
open WB Go.RowKit Go.Proofs.YtkddlhcpplkpbaaW.PrintWords Go.Proofs.YtkddlhcpplkpbaaW.PrintLast Go.Proofs.YtkddlhcpplkpbaaW.PrintMore
attribute [local go_sem] max2_int min2_int max_two min_two max_three min_three max_four min_four   -- for this text's walks alone
theorem r9_let_none (k : Int) : (letB k = (⟨#[]⟩ : ByteArray)) ↔ ixOf k = [] := by
 constructor
 · intro h
   have := let_size k
   rw [h] at this
   apply Classical.byContradiction
   intro hn
   have hl : 0 < (ixOf k).length := List.length_pos_iff.2 hn
   have h0 : (⟨#[]⟩ : ByteArray).size = 0 := rfl
   omega
 · intro h
   by_cases hk : 1 ≤ k ∧ k ≤ 8
   · have hc : k = 1 ∨ k = 2 ∨ k = 3 ∨ k = 4 ∨ k = 5 ∨ k = 6 ∨ k = 7 ∨ k = 8 := by omega
     rcases hc with rfl | rfl | rfl | rfl | rfl | rfl | rfl | rfl <;> cases h
   · unfold letB
     rw [if_neg (by omega), if_neg (by omega), if_neg (by omega), if_neg (by omega), if_neg (by omega), if_neg (by omega), if_neg (by omega)]
theorem r9_let_some (k : Int) (h : ixOf k ≠ []) : (letB k).toList.isEmpty = false := by
 have hk : 1 ≤ k ∧ k ≤ 8 := by
  apply Classical.byContradiction
  intro hn
  exact h (ixOf_none hn)
 have hc : k = 1 ∨ k = 2 ∨ k = 3 ∨ k = 4 ∨ k = 5 ∨ k = 6 ∨ k = 7 ∨ k = 8 := by omega
 rcases hc with rfl | rfl | rfl | rfl | rfl | rfl | rfl | rfl <;> decide +kernel
theorem r9_all_get : ∀ i : Nat, i < 10 → ∃ h : i < (⟨#[99, 98, 105, 115, 113, 109, 110, 108, 111, 112]⟩ : ByteArray).size, fldOf ((((⟨#[99, 98, 105, 115, 113, 109, 110, 108, 111, 112]⟩ : ByteArray)[i]'h).toNat : Nat) : Int) = i + 1 := by decide
theorem r9_any_take (l : List Int) (i : Nat) (h : i < l.length) (p : Int → Bool) (h0 : (l.take i).any p = false) : (l.take (i + 1)).any p = p (l.getD i 0) := by
 rw [List.take_succ_eq_append_getElem h, List.any_append, h0]
 simp [List.getD_eq_getElem?_getD, h]
theorem r9_any_of (l : List Int) (i : Nat) (h : i < l.length) (p : Int → Bool) (h0 : p (l.getD i 0) = true) : l.any p = true := by
 rw [List.any_eq_true]
 refine ⟨l.getD i 0, ?_, h0⟩
 simp [List.getD_eq_getElem?_getD, h]
def waybillref09_Check.f (a0_0 : Int) (a0_1 : Int) (a0_2 : Int) (a0_3 : Int) (a0_4 : Int) (a0_5 : Int) (a0_6 : Int) (a0_7 : Int) (a0_8 : Int) (a0_9 : Int) (a0_10 : Int) (l0_11 : List Int) : Option (Int) := if ixOf a0_0 = [] then some 23 else if ([a0_1, a0_2, a0_3, a0_4, a0_5, a0_6, a0_7, a0_8, a0_9, a0_10] : List Int).any outI = true then some 4 else if l0_11.length > 1024 then some 5 else (if dat a0_0 = true then waybillref01_Copied.f l0_11 else some []).bind fun D => (waybillref09_Same.f a0_0 a0_1 a0_2 a0_3 a0_4 a0_5 a0_6 a0_7 a0_8 a0_9 a0_10 l0_11 a0_0 (onlyF a0_0 1 a0_1) a0_2 (onlyF a0_0 3 a0_3) (onlyF a0_0 4 a0_4) (onlyF a0_0 5 a0_5) (onlyF a0_0 6 a0_6) (onlyF a0_0 7 a0_7) (onlyF a0_0 8 a0_8) (onlyF a0_0 9 a0_9) (onlyF a0_0 10 a0_10) D).bind fun b => some (if b = true then 0 else 9)
set_option maxHeartbeats 4000000 in
set_option maxRecDepth 100000 in
theorem waybillref09_Check.calls (a0_0 : Int) (a0_1 : Int) (a0_2 : Int) (a0_3 : Int) (a0_4 : Int) (a0_5 : Int) (a0_6 : Int) (a0_7 : Int) (a0_8 : Int) (a0_9 : Int) (a0_10 : Int) (A0_11 : Option Addr) (c0_11 : Nat) (l0_11 : List Int) (r : Int) (w : World) (hr0_11 : Kd.C (Kd.int .u8) w A0_11 l0_11.length l0_11) (hc0_11 : l0_11.length ≤ c0_11) (h : waybillref09_Check.f a0_0 a0_1 a0_2 a0_3 a0_4 a0_5 a0_6 a0_7 a0_8 a0_9 a0_10 l0_11 = some r) :
   Calls Try.prog 25 #[.agg #[.int .i64 a0_0, .int .i64 a0_1, .int .i64 a0_2, .int .i64 a0_3, .int .i64 a0_4, .int .i64 a0_5, .int .i64 a0_6, .int .i64 a0_7, .int .i64 a0_8, .int .i64 a0_9, .int .i64 a0_10, .slice A0_11 l0_11.length c0_11]] w fun e w' => e = .returned (.int .i64 r) ∧ Below w.heap.size w w' := by
 unfold waybillref09_Check.f at h
 have HR := Aside0.mk hr0_11
 have HC := Aside0.mk hc0_11
 have HH := Aside0.mk h
 clear hr0_11 hc0_11 h
 go_enter Try.func25, Try.ntmps25
 go_wp2_with fail
 go_at_call 40
 obtain ⟨W0, hW0⟩ : ∃ W, W = w.alloc (.cells #[.int .i64 a0_0, .int .i64 a0_1, .int .i64 a0_2, .int .i64 a0_3, .int .i64 a0_4, .int .i64 a0_5, .int .i64 a0_6, .int .i64 a0_7, .int .i64 a0_8, .int .i64 a0_9, .int .i64 a0_10, .slice A0_11 l0_11.length c0_11] 25) := ⟨_, rfl⟩
 rw [← hW0]
 have BM := Aside0.mk (show W0.heap[w.heap.size]? = some (.cells #[.int .i64 a0_0, .int .i64 a0_1, .int .i64 a0_2, .int .i64 a0_3, .int .i64 a0_4, .int .i64 a0_5, .int .i64 a0_6, .int .i64 a0_7, .int .i64 a0_8, .int .i64 a0_9, .int .i64 a0_10, .slice A0_11 l0_11.length c0_11] 25 (0, 0)) by rw [hW0]; exact heap_new1 _ _)
 have HB := Aside0.mk (show Below w.heap.size w W0 by rw [hW0]; exact below_alloc (Below.refl _ _) _)
 clear hW0
 with_reducible refine (ref_form a0_0 _).mono ?_
 rintro e w1 ⟨rfl, hd⟩
 have BM1 := Aside0.mk (blk_below BM.out hd.below)
 have HB1 := Aside0.mk (below_then HB.out HB.out.size hd.below)
 clear hd BM HB
 by_cases hz : ixOf a0_0 = []
 · obtain rfl := Option.some.inj ((if_pos hz).symm.trans HH.out)
   rw [(r9_let_none a0_0).2 hz]
   clear HH hz
   go_wp2_with fail
   go_ret
   exact ⟨rfl, HB1.out⟩
 have b0 := r9_let_some a0_0 hz
 have HH1 := Aside0.mk ((if_neg hz).symm.trans HH.out)
 obtain ⟨S0, hS0⟩ : ∃ S, S = letB a0_0 := ⟨_, rfl⟩
 rw [← hS0] at b0 ⊢
 clear hS0 HH hz
 go_wp2_with fail
 obtain ⟨S, hS⟩ : ∃ S, S = (⟨#[99, 98, 105, 115, 113, 109, 110, 108, 111, 112]⟩ : ByteArray) := ⟨_, rfl⟩
 rw [← hS]
 have hsz : S.size = 10 := by rw [hS]; rfl
 have HLG : Aside0 (∀ i, i < 10 → ∃ h : i < S.size, fldOf ((S[i]'h).toNat : Int) = i + 1) := ⟨by rw [hS]; exact r9_all_get⟩
 have HSZ := Aside0.mk hsz
 obtain ⟨ns, hns⟩ : ∃ ns : List Int, ns = [a0_1, a0_2, a0_3, a0_4, a0_5, a0_6, a0_7, a0_8, a0_9, a0_10] := ⟨_, rfl⟩
 rw [← hns] at HH1
 have HNS := Aside0.mk hns
 have LNS : Aside0 (ns.length = 10) := ⟨by rw [hns]; rfl⟩
 clear hS hns hsz b0
 go_loopw [4] (fun v4 wr => ∃ i : Nat, v4 = .int .i64 i ∧ i ≤ 10 ∧ Aside0 ((ns.take i).any outI = false) ∧ wr = w1) (fun v4 _ => 10 - (intOf v4).toNat)
 case atStart => exact ⟨0, rfl, Nat.zero_le _, ⟨by simp⟩, rfl⟩
 case round =>
   obtain ⟨i, rfl, hi, HA, hw⟩ := hrel
   obtain rfl := hw.symm
   by_cases hlt : i < 10
   · have hlt' : i < S.size := by rw [HSZ.out]; exact hlt
     have b1 : decide ((i : Int) < (S.size : Int)) = true := decide_eq_true (by omega)
     have b1' : decide (i < S.size) = true := decide_eq_true hlt'
     obtain ⟨_, hc2⟩ := HLG.out i hlt
     have HC2 := Aside0.mk hc2
     obtain ⟨y, hy⟩ : ∃ y, y = ns.getD i 0 := ⟨_, rfl⟩
     have q3 : w1.cell? ⟨w.heap.size, i + 1, none⟩ = some (.int .i64 y) := by
       have hm := BM1.out
       rw [← msg_lit] at hm
       rw [blk_cell hm, msg_get (by show i + 1 < 11; omega), hy, HNS.out]
       rfl
     have HTK := Aside0.mk (r9_any_take ns i (by rw [LNS.out]; omega) outI HA.out)
     have HAN := Aside0.mk (r9_any_of ns i (by rw [LNS.out]; omega) outI)
     rw [← hy] at HTK HAN
     clear hc2 hy
     go_wp2_with fail
     go_at_call 42
     with_reducible refine (ref_field _ _ _).mono ?_
     rintro e w2 ⟨rfl, rfl⟩
     rw [HC2.out]
     by_cases hy0 : y < 0
     · have d0 : decide (y < 0) = true := decide_eq_true hy0
       have ho : outI y = true := by unfold outI; rw [d0]; rfl
       obtain rfl := Option.some.inj ((if_pos (HAN.out ho)).symm.trans HH1.out)
       clear hy0 ho
       go_wp2_with fail
       go_ret
       exact ⟨rfl, HB1.out⟩
     · have d0 : decide (y < 0) = false := decide_eq_false hy0
       have ho : outI y = decide (y > 2147483647) := by unfold outI; rw [d0]; rfl
       have HO := Aside0.mk ho
       clear hy0 ho
       by_cases hy1 : y > 2147483647
       · have d1 : decide (y > 2147483647) = true := decide_eq_true hy1
         obtain rfl := Option.some.inj ((if_pos (HAN.out (HO.out.trans d1))).symm.trans HH1.out)
         clear hy1
         go_wp2_with fail
         go_ret
         exact ⟨rfl, HB1.out⟩
       · have d1 : decide (y > 2147483647) = false := decide_eq_false hy1
         clear hy1
         go_wp2_with fail
         go_roundw
         case rel => exact ⟨i + 1, by go_num, by omega, ⟨by rw [HTK.out, HO.out, d1]⟩, trivial⟩
         case measure => simp [intOf]; omega
   · have b1 : decide ((i : Int) < (S.size : Int)) = false := decide_eq_false (by rw [HSZ.out]; omega)
     have b1' : decide (i < S.size) = false := decide_eq_false (by rw [HSZ.out]; omega)
     have hany : ns.any outI = false := by
       have := HA.out
       rwa [List.take_of_length_le (by rw [LNS.out]; omega)] at this
     have HH2 := Aside0.mk ((if_neg (by rw [hany]; decide)).symm.trans HH1.out)
     clear hany
     have q0 : w1.cell? ⟨w.heap.size, 0, none⟩ = some (.int .i64 a0_0) := (blk_cell BM1.out 0).trans rfl
     have q1 : w1.cell? ⟨w.heap.size, 1, none⟩ = some (.int .i64 a0_1) := (blk_cell BM1.out 1).trans rfl
     have q2 : w1.cell? ⟨w.heap.size, 2, none⟩ = some (.int .i64 a0_2) := (blk_cell BM1.out 2).trans rfl
     have q3 : w1.cell? ⟨w.heap.size, 3, none⟩ = some (.int .i64 a0_3) := (blk_cell BM1.out 3).trans rfl
     have q4 : w1.cell? ⟨w.heap.size, 4, none⟩ = some (.int .i64 a0_4) := (blk_cell BM1.out 4).trans rfl
     have q5 : w1.cell? ⟨w.heap.size, 5, none⟩ = some (.int .i64 a0_5) := (blk_cell BM1.out 5).trans rfl
     have q6 : w1.cell? ⟨w.heap.size, 6, none⟩ = some (.int .i64 a0_6) := (blk_cell BM1.out 6).trans rfl
     have q7 : w1.cell? ⟨w.heap.size, 7, none⟩ = some (.int .i64 a0_7) := (blk_cell BM1.out 7).trans rfl
     have q8 : w1.cell? ⟨w.heap.size, 8, none⟩ = some (.int .i64 a0_8) := (blk_cell BM1.out 8).trans rfl
     have q9 : w1.cell? ⟨w.heap.size, 9, none⟩ = some (.int .i64 a0_9) := (blk_cell BM1.out 9).trans rfl
     have q10 : w1.cell? ⟨w.heap.size, 10, none⟩ = some (.int .i64 a0_10) := (blk_cell BM1.out 10).trans rfl
     have q11 : w1.cell? ⟨w.heap.size, 11, none⟩ = some (.slice A0_11 l0_11.length c0_11) := (blk_cell BM1.out 11).trans rfl
     by_cases hl : l0_11.length > 1024
     · obtain rfl := Option.some.inj ((if_pos hl).symm.trans HH2.out)
       have b2 : decide ((l0_11.length : Int) > 1024) = true := decide_eq_true (by omega)
       have b2' : decide (l0_11.length > 1024) = true := decide_eq_true hl
       clear HH2
       go_wp2_with fail
       go_ret
       exact ⟨rfl, HB1.out⟩
     have b2 : decide ((l0_11.length : Int) > 1024) = false := decide_eq_false (by omega)
     have b2' : decide (l0_11.length > 1024) = false := decide_eq_false hl
     obtain ⟨D, hD, hh⟩ := Option.bind_eq_some_iff.1 ((if_neg hl).symm.trans HH2.out)
     obtain ⟨b, hs, hb⟩ := Option.bind_eq_some_iff.1 hh
     obtain rfl := Option.some.inj hb
     have HD := Aside0.mk hD
     have HS := Aside0.mk hs
     have HR3 := Aside0.mk (Kd.C_below HR.out HB1.out)
     clear HH2 hs hb hD hh
     go_wp2_with fail
     refine region_facts (B := _) (w0 := _) [(34, (fun v _ => v = .agg #[.int .i64 a0_0, .int .i64 a0_1, .int .i64 a0_2, .int .i64 a0_3, .int .i64 a0_4, .int .i64 a0_5, .int .i64 a0_6, .int .i64 a0_7, .int .i64 a0_8, .int .i64 a0_9, .int .i64 a0_10, .slice A0_11 l0_11.length c0_11])), (35, (fun v _ => v = .agg #[.int .i64 a0_0, .int .i64 a0_1, .int .i64 a0_2, .int .i64 a0_3, .int .i64 a0_4, .int .i64 a0_5, .int .i64 a0_6, .int .i64 a0_7, .int .i64 a0_8, .int .i64 a0_9, .int .i64 a0_10, .slice A0_11 l0_11.length c0_11])), (36, (fun v W => ∃ A1 c1, v = .agg #[.int .i64 a0_0, .int .i64 (onlyF a0_0 1 a0_1), .int .i64 a0_2, .int .i64 (onlyF a0_0 3 a0_3), .int .i64 (onlyF a0_0 4 a0_4), .int .i64 (onlyF a0_0 5 a0_5), .int .i64 (onlyF a0_0 6 a0_6), .int .i64 (onlyF a0_0 7 a0_7), .int .i64 (onlyF a0_0 8 a0_8), .int .i64 (onlyF a0_0 9 a0_9), .int .i64 (onlyF a0_0 10 a0_10), .slice A1 D.length c1] ∧ D.length ≤ c1 ∧ Kd.C (Kd.int .u8) W A1 D.length D)), (37, (fun v W => v = .bool b)), (38, (fun v _ => v = .bool (!b))), (33, (fun v _ => v = .bool (!b)))] (by kernel_rfl) (by kernel_rfl) (by rfl) (show ([34, 35, 36, 37, 38, 33] : List Nat).Nodup by decide) ?hsz ?hst (Below.refl _ _) (Nat.le_refl _) ?step ?fin
     case hsz => exact List.forall_mem_cons.2 ⟨(show 34 < 39 by decide), List.forall_mem_cons.2 ⟨(show 35 < 39 by decide), List.forall_mem_cons.2 ⟨(show 36 < 39 by decide), List.forall_mem_cons.2 ⟨(show 37 < 39 by decide), List.forall_mem_cons.2 ⟨(show 38 < 39 by decide), List.forall_mem_cons.2 ⟨(show 33 < 39 by decide), fun _ h => nomatch h⟩⟩⟩⟩⟩⟩
     case hst => exact List.forall_mem_cons.2 ⟨(fun v w1 w2 hb h => h), List.forall_mem_cons.2 ⟨(fun v w1 w2 hb h => h), List.forall_mem_cons.2 ⟨(fun v w1 w2 hb h => (by obtain ⟨A1, c1, h1, h2, h3⟩ := h; exact ⟨A1, c1, h1, h2, Kd.C_below h3 hb⟩)), List.forall_mem_cons.2 ⟨(fun v w1 w2 hb h => h), List.forall_mem_cons.2 ⟨(fun v w1 w2 hb h => h), List.forall_mem_cons.2 ⟨(fun v w1 w2 hb h => h), fun _ h => nomatch h⟩⟩⟩⟩⟩⟩
     case step =>
       intro i_ o_ e_ ho he a w1_ hs hdf hfr hbl hbs hpre
       match i_, ho, he with
       | 0, ho, he => obtain rfl : o_ = ⟨_, _, _, _, _, _⟩ := (Option.some.inj ho).symm; obtain rfl := Option.some.inj he; clear he; have f1 : a.tmps.getD 1 undef = .pointer (some ⟨w.heap.size, 0, none⟩) := (by rw [Array.getD_eq_getD_getElem?, hfr 1 (show ¬ 1 ∈ ([34, 35, 36, 37, 38, 33] : List Nat) by decide)]; rfl); clear hpre hfr; have k_q0 := (hbl.cell (World.block_lt_of_cell? _ _ q0)).trans q0; have k_q1 := (hbl.cell (World.block_lt_of_cell? _ _ q1)).trans q1; have k_q2 := (hbl.cell (World.block_lt_of_cell? _ _ q2)).trans q2; have k_q3 := (hbl.cell (World.block_lt_of_cell? _ _ q3)).trans q3; have k_q4 := (hbl.cell (World.block_lt_of_cell? _ _ q4)).trans q4; have k_q5 := (hbl.cell (World.block_lt_of_cell? _ _ q5)).trans q5; have k_q6 := (hbl.cell (World.block_lt_of_cell? _ _ q6)).trans q6; have k_q7 := (hbl.cell (World.block_lt_of_cell? _ _ q7)).trans q7; have k_q8 := (hbl.cell (World.block_lt_of_cell? _ _ q8)).trans q8; have k_q9 := (hbl.cell (World.block_lt_of_cell? _ _ q9)).trans q9; have k_q10 := (hbl.cell (World.block_lt_of_cell? _ _ q10)).trans q10; have k_q11 := (hbl.cell (World.block_lt_of_cell? _ _ q11)).trans q11; refine wpOp_value (v := .agg #[.int .i64 a0_0, .int .i64 a0_1, .int .i64 a0_2, .int .i64 a0_3, .int .i64 a0_4, .int .i64 a0_5, .int .i64 a0_6, .int .i64 a0_7, .int .i64 a0_8, .int .i64 a0_9, .int .i64 a0_10, .slice A0_11 l0_11.length c0_11]) ho rfl ?_ ⟨_, rfl, rfl, Below.refl _ _⟩; simp only [execOp, Act.eval, List.map_toArray, List.map_cons, List.map_nil, f1]; first | rfl | (go_simp; done) | (go_simp; rfl) | (go_simp; intro h_; exfalso; omega)
       | 1, ho, he => obtain rfl : o_ = ⟨_, _, _, _, _, _⟩ := (Option.some.inj ho).symm; obtain rfl := Option.some.inj he; clear he; have f1 : a.tmps.getD 1 undef = .pointer (some ⟨w.heap.size, 0, none⟩) := (by rw [Array.getD_eq_getD_getElem?, hfr 1 (show ¬ 1 ∈ ([34, 35, 36, 37, 38, 33] : List Nat) by decide)]; rfl); clear hpre hfr; have k_q0 := (hbl.cell (World.block_lt_of_cell? _ _ q0)).trans q0; have k_q1 := (hbl.cell (World.block_lt_of_cell? _ _ q1)).trans q1; have k_q2 := (hbl.cell (World.block_lt_of_cell? _ _ q2)).trans q2; have k_q3 := (hbl.cell (World.block_lt_of_cell? _ _ q3)).trans q3; have k_q4 := (hbl.cell (World.block_lt_of_cell? _ _ q4)).trans q4; have k_q5 := (hbl.cell (World.block_lt_of_cell? _ _ q5)).trans q5; have k_q6 := (hbl.cell (World.block_lt_of_cell? _ _ q6)).trans q6; have k_q7 := (hbl.cell (World.block_lt_of_cell? _ _ q7)).trans q7; have k_q8 := (hbl.cell (World.block_lt_of_cell? _ _ q8)).trans q8; have k_q9 := (hbl.cell (World.block_lt_of_cell? _ _ q9)).trans q9; have k_q10 := (hbl.cell (World.block_lt_of_cell? _ _ q10)).trans q10; have k_q11 := (hbl.cell (World.block_lt_of_cell? _ _ q11)).trans q11; refine wpOp_value (v := .agg #[.int .i64 a0_0, .int .i64 a0_1, .int .i64 a0_2, .int .i64 a0_3, .int .i64 a0_4, .int .i64 a0_5, .int .i64 a0_6, .int .i64 a0_7, .int .i64 a0_8, .int .i64 a0_9, .int .i64 a0_10, .slice A0_11 l0_11.length c0_11]) ho rfl ?_ ⟨_, rfl, rfl, Below.refl _ _⟩; simp only [execOp, Act.eval, List.map_toArray, List.map_cons, List.map_nil, f1]; first | rfl | (go_simp; done) | (go_simp; rfl) | (go_simp; intro h_; exfalso; omega)
       | 2, ho, he => obtain rfl : o_ = ⟨_, _, _, _, _, _⟩ := (Option.some.inj ho).symm; obtain rfl := Option.some.inj he; clear he; have e35 : a.tmps.getD 35 undef = .agg #[.int .i64 a0_0, .int .i64 a0_1, .int .i64 a0_2, .int .i64 a0_3, .int .i64 a0_4, .int .i64 a0_5, .int .i64 a0_6, .int .i64 a0_7, .int .i64 a0_8, .int .i64 a0_9, .int .i64 a0_10, .slice A0_11 l0_11.length c0_11] := hpre ⟨1, .data⟩ (by simp) rfl _ rfl; clear hpre hfr; refine wpOp_call (fn := Try.f50) ho rfl rfl rfl rfl #[.agg #[.int .i64 a0_0, .int .i64 a0_1, .int .i64 a0_2, .int .i64 a0_3, .int .i64 a0_4, .int .i64 a0_5, .int .i64 a0_6, .int .i64 a0_7, .int .i64 a0_8, .int .i64 a0_9, .int .i64 a0_10, .slice A0_11 l0_11.length c0_11]] rfl (by simp only [List.map_toArray, List.map_cons, List.map_nil, Act.eval, e35]) ?_; refine (waybillref09_used.calls a0_0 a0_1 a0_2 a0_3 a0_4 a0_5 a0_6 a0_7 a0_8 a0_9 a0_10 A0_11 c0_11 l0_11 a0_0 (onlyF a0_0 1 a0_1) a0_2 (onlyF a0_0 3 a0_3) (onlyF a0_0 4 a0_4) (onlyF a0_0 5 a0_5) (onlyF a0_0 6 a0_6) (onlyF a0_0 7 a0_7) (onlyF a0_0 8 a0_8) (onlyF a0_0 9 a0_9) (onlyF a0_0 10 a0_10) D w1_ (Kd.C_below HR3.out hbl) HC.out (by unfold waybillref09_used.f; rw [HD.out]; rfl)).mono ?_; rintro e w2 ⟨v2, rfl, hr2, hb⟩; obtain ⟨A2, c2, rfl⟩ := Kd.R_slice hr2; exact ⟨_, rfl, ⟨_, rfl, ⟨A2, c2, rfl, (Kd.R_reads' hr2).2.1, (Kd.R_reads' hr2).2.2⟩, hb⟩⟩
       | 3, ho, he => obtain rfl : o_ = ⟨_, _, _, _, _, _⟩ := (Option.some.inj ho).symm; obtain rfl := Option.some.inj he; clear he; have e34 : a.tmps.getD 34 undef = .agg #[.int .i64 a0_0, .int .i64 a0_1, .int .i64 a0_2, .int .i64 a0_3, .int .i64 a0_4, .int .i64 a0_5, .int .i64 a0_6, .int .i64 a0_7, .int .i64 a0_8, .int .i64 a0_9, .int .i64 a0_10, .slice A0_11 l0_11.length c0_11] := hpre ⟨0, .data⟩ (by simp) rfl _ rfl; have e36 := hpre ⟨2, .data⟩ (by simp) rfl _ rfl; dsimp only at e36; clear hpre hfr; obtain ⟨A1, c1, e36, hc36, hr36⟩ := e36; refine wpOp_call (fn := Try.f49) ho rfl rfl rfl rfl #[.agg #[.int .i64 a0_0, .int .i64 a0_1, .int .i64 a0_2, .int .i64 a0_3, .int .i64 a0_4, .int .i64 a0_5, .int .i64 a0_6, .int .i64 a0_7, .int .i64 a0_8, .int .i64 a0_9, .int .i64 a0_10, .slice A0_11 l0_11.length c0_11], .agg #[.int .i64 a0_0, .int .i64 (onlyF a0_0 1 a0_1), .int .i64 a0_2, .int .i64 (onlyF a0_0 3 a0_3), .int .i64 (onlyF a0_0 4 a0_4), .int .i64 (onlyF a0_0 5 a0_5), .int .i64 (onlyF a0_0 6 a0_6), .int .i64 (onlyF a0_0 7 a0_7), .int .i64 (onlyF a0_0 8 a0_8), .int .i64 (onlyF a0_0 9 a0_9), .int .i64 (onlyF a0_0 10 a0_10), .slice A1 D.length c1]] rfl (by simp only [List.map_toArray, List.map_cons, List.map_nil, Act.eval, e34, e36]) ?_; refine (waybillref09_Same.calls a0_0 a0_1 a0_2 a0_3 a0_4 a0_5 a0_6 a0_7 a0_8 a0_9 a0_10 A0_11 c0_11 l0_11 a0_0 (onlyF a0_0 1 a0_1) a0_2 (onlyF a0_0 3 a0_3) (onlyF a0_0 4 a0_4) (onlyF a0_0 5 a0_5) (onlyF a0_0 6 a0_6) (onlyF a0_0 7 a0_7) (onlyF a0_0 8 a0_8) (onlyF a0_0 9 a0_9) (onlyF a0_0 10 a0_10) A1 c1 D b w1_ (Kd.C_below HR3.out hbl) HC.out hr36 hc36 HS.out).mono ?_; rintro e w2 ⟨rfl, hb⟩; exact ⟨_, rfl, ⟨_, rfl, rfl, hb⟩⟩
       | 4, ho, he => obtain rfl : o_ = ⟨_, _, _, _, _, _⟩ := (Option.some.inj ho).symm; obtain rfl := Option.some.inj he; clear he; have e37 := hpre ⟨3, .data⟩ (by simp) rfl _ rfl; dsimp only at e37; clear hpre hfr; refine wpOp_value (v := .bool (!b)) ho rfl ?_ ⟨_, rfl, rfl, Below.refl _ _⟩; simp only [execOp, Act.eval, List.map_toArray, List.map_cons, List.map_nil]; first | rfl | (go_simp; done) | (go_simp; rfl) | (go_simp; intro h_; exfalso; omega)
       | 5, ho, he => obtain rfl : o_ = ⟨_, _, _, _, _, _⟩ := (Option.some.inj ho).symm; obtain rfl := Option.some.inj he; clear he; have e38 : a.tmps.getD 38 undef = .bool (!b) := hpre ⟨4, .data⟩ (by simp) rfl _ rfl; clear hpre hfr; refine wpOp_value (v := .bool (!b)) ho rfl ?_ ⟨_, rfl, rfl, Below.refl _ _⟩; simp only [execOp, Act.eval, List.map_toArray, List.map_cons, List.map_nil, e38]; first | rfl | (go_simp; done) | (go_simp; rfl) | (go_simp; intro h_; exfalso; omega)
       | n_ + 6, ho, he => simp at he
     case fin =>
       intro xv_ w1_ hbl hx
       simp only [List.forall_mem_cons] at hx
       obtain ⟨x34, x35, ⟨_, _, x36, _, _⟩, x37, x38, x33, _⟩ := hx
       simp only [List.map_cons, List.map_nil, putL, Act.put, List.setIfInBounds_toArray, List.set_cons_zero, List.set_cons_succ, x34, x35, x36, x37, x38, x33]
       clear x34 x35 x36 x37 x38 x33
       have HB4 := Aside0.mk (below_then HB1.out HB1.out.size hbl)
       clear hbl
       cases b with
       | true =>
         go_wp2_with fail
         go_ret
         exact ⟨rfl, HB4.out⟩
       | false =>
         go_wp2_with fail
         go_ret
         exact ⟨rfl, HB4.out⟩
end Go.Proofs.Ytkddlhcpplkpbaa.G
end
