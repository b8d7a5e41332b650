/- MessageTellsUpto: texts of this claim, packed: what the kit's print has written for it and own texts, without what its proof does not reach. -/
import Derived.Test.YtkddlhcpplkpbaaKMessageTellsUpto15
import Derived.Test.YtkddlhcpplkpbaaKMessageTellsUpto16
import Derived.Test.YtkddlhcpplkpbaaKMessageTellsUpto19
import Derived.Test.YtkddlhcpplkpbaaKMessageTellsUpto21
set_option linter.unusedVariables false
set_option linter.unusedSimpArgs false
set_option linter.unusedSectionVars false
section
namespace Go.Proofs.Ytkddlhcpplkpbaa.G
open WB Go.RowKit Go.Proofs.YtkddlhcpplkpbaaW.PrintWords Go.Proofs.YtkddlhcpplkpbaaW.PrintLast Go.Proofs.YtkddlhcpplkpbaaW.PrintMore
attribute [local go_sem] max2_int min2_int max_two min_two max_three min_three max_four min_four   -- for this text's walks alone
/-- Numbers put behind octets, one after the other. -/
def message_Encode.l0 (k : Nat) : List Int → List Int → Option (List Int)
 | b, [] => some b
 | b, x :: xs => (varint_Put.f k b [IntKind.u64.wrap x]).bind fun b' => message_Encode.l0 k b' xs
def message_Encode.f (k : Nat) (a0_0 : Int) (a0_1 : Int) (a0_2 : Int) (a0_3 : Int) (a0_4 : Int) (a0_5 : Int) (a0_6 : Int) (a0_7 : Int) (a0_8 : Int) (a0_9 : Int) (a0_10 : Int) (l0_11 : List Int) : Option (List Int × Int) := (message_Check.f k a0_0 a0_1 a0_2 a0_3 a0_4 a0_5 a0_6 a0_7 a0_8 a0_9 a0_10 l0_11).bind fun e => if e = 0 then (varint_Put.f k [] [IntKind.u64.wrap a0_0, IntKind.u64.wrap a0_2]).bind fun b => (message_Encode.l0 k b ((ixOf a0_0).map fun j => ([a0_0, a0_1, a0_2, a0_3, a0_4, a0_5, a0_6, a0_7, a0_8, a0_9, a0_10] : List Int).getD j 0)).bind fun b => (if a0_0 = 3 ∨ a0_0 = 4 then (varint_Texts.f k b [l0_11]).bind fun b => some (b, 0) else some (b, 0)) else some ([], e)
set_option maxHeartbeats 4000000 in
set_option maxRecDepth 100000 in
theorem message_Encode.calls (k : Nat) (a0_0 : Int) (a0_1 : Int) (a0_2 : Int) (a0_3 : Int) (a0_4 : Int) (a0_5 : Int) (a0_6 : Int) (a0_7 : Int) (a0_8 : Int) (a0_9 : Int) (a0_10 : Int) (A0_11 : Option Addr) (c0_11 : Nat) (l0_11 : List Int) (r1 : List Int) (r2 : Int) (w : World) (hr0_11 : Kd.C (Kd.int .u8) w A0_11 l0_11.length l0_11) (hc0_11 : l0_11.length ≤ c0_11) (h : message_Encode.f k a0_0 a0_1 a0_2 a0_3 a0_4 a0_5 a0_6 a0_7 a0_8 a0_9 a0_10 l0_11 = some (r1, r2)) :
   Calls Try.prog 13 #[.agg #[.int .i64 a0_0, .int .i64 a0_1, .int .i64 a0_2, .int .i64 a0_3, .int .i64 a0_4, .int .i64 a0_5, .int .i64 a0_6, .int .i64 a0_7, .int .i64 a0_8, .int .i64 a0_9, .int .i64 a0_10, .slice A0_11 l0_11.length c0_11]] w fun e w' => ∃ v0_ : Value, e = .returned (.tuple #[v0_, .int .i64 r2]) ∧ Kd.R (Kd.int .u8) 5 w' w.heap.size (fun _ => True) v0_ r1 ∧ Below w.heap.size w w' := by
 unfold message_Encode.f at h
 have HR := Aside0.mk hr0_11
 have HC := Aside0.mk hc0_11
 obtain ⟨ec, hce, h⟩ := Option.bind_eq_some_iff.1 h
 have HCE := Aside0.mk hce
 have HH := Aside0.mk h
 clear hr0_11 hc0_11 h hce
 go_enter Try.func13, Try.ntmps13
 go_wp2_with fail
 go_at_call 15
 obtain ⟨W0, hW0⟩ : ∃ W, W = w.alloc (.cells #[.int .i64 a0_0, .int .i64 a0_1, .int .i64 a0_2, .int .i64 a0_3, .int .i64 a0_4, .int .i64 a0_5, .int .i64 a0_6, .int .i64 a0_7, .int .i64 a0_8, .int .i64 a0_9, .int .i64 a0_10, .slice A0_11 l0_11.length c0_11] 25) := ⟨_, rfl⟩
 rw [← hW0]
 have BM := Aside0.mk (show W0.heap[w.heap.size]? = some (.cells #[.int .i64 a0_0, .int .i64 a0_1, .int .i64 a0_2, .int .i64 a0_3, .int .i64 a0_4, .int .i64 a0_5, .int .i64 a0_6, .int .i64 a0_7, .int .i64 a0_8, .int .i64 a0_9, .int .i64 a0_10, .slice A0_11 l0_11.length c0_11] 25 (0, 0)) by rw [hW0]; exact heap_new1 _ _)
 have HB := Aside0.mk (show Below w.heap.size w W0 by rw [hW0]; exact below_alloc (Below.refl _ _) _)
 clear hW0
 with_reducible refine (message_Check.calls k a0_0 a0_1 a0_2 a0_3 a0_4 a0_5 a0_6 a0_7 a0_8 a0_9 a0_10 A0_11 c0_11 l0_11 ec _ (Kd.C_below HR.out HB.out) HC.out HCE.out).mono ?_
 rintro e w1 ⟨rfl, hb⟩
 have BM1 := Aside0.mk (blk_below BM.out hb)
 have HB1 := Aside0.mk (below_then HB.out HB.out.size hb)
 clear hb BM HB
 by_cases he : ec = 0
 case neg =>
   have b1 : (ec != 0) = true := by simpa using he
   have hh := (if_neg he).symm.trans HH.out
   simp only [Option.some.injEq, Prod.mk.injEq] at hh
   obtain ⟨rfl, rfl⟩ := hh
   clear he HH
   go_wp2_with fail
   go_ret2
   exact ⟨_, rfl, Kd.R_nil _ _ _ _ _, HB1.out⟩
 subst he
 have hh := (if_pos rfl).symm.trans HH.out
 obtain ⟨b0, hb0, hh⟩ := Option.bind_eq_some_iff.1 hh
 obtain ⟨b9, hb9, hh⟩ := Option.bind_eq_some_iff.1 hh
 have HX : Aside0 (ixOf a0_0 ≠ []) := ⟨fun hz => by
   have hc := HCE.out
   unfold message_Check.f at hc
   rw [if_pos hz] at hc
   cases hc⟩
 obtain ⟨ns, hns⟩ : ∃ ns : List Int, ns = [a0_0, a0_1, a0_2, a0_3, a0_4, a0_5, a0_6, a0_7, a0_8, a0_9, a0_10] := ⟨_, rfl⟩
 obtain ⟨ix, hix⟩ : ∃ ix, ix = ixOf a0_0 := ⟨_, rfl⟩
 rw [← hns, ← hix] at hb9
 have P0 := Aside0.mk hb0
 have P9 := Aside0.mk hb9
 have HZ := Aside0.mk hh
 have NS := Aside0.mk hns
 have IX := Aside0.mk hix
 clear HH hh hb0 hb9 hns hix HCE
 have q0 : w1.cell? ⟨w.heap.size, 0, none⟩ = some (.int .i64 a0_0) := (blk_cell BM1.out 0).trans rfl
 have q2 : w1.cell? ⟨w.heap.size, 2, none⟩ = some (.int .i64 a0_2) := (blk_cell BM1.out 2).trans rfl
 go_wp2_with fail
 go_at_call 30
 refine calls_of_args (args' := #[.slice none ([] : List Int).length 0, .slice (some ⟨w1.heap.size, 0, none⟩) [IntKind.u64.wrap a0_0, IntKind.u64.wrap a0_2].length 2]) rfl ?_
 with_reducible refine (varint_Put.calls k none 0 [] _ 2 [IntKind.u64.wrap a0_0, IntKind.u64.wrap a0_2] b0 _ (Kd.C_nil _ _) (Nat.le_refl _) ?hc (Nat.le_refl _) P0.out).mono ?_
 case hc => exact C_ints (k := .u64) (heap_new1 _ _) (by simp) rfl
 rintro e w2 ⟨v2, rfl, hr2, hb⟩
 have hbb := below_then (below_alloc (Below.refl w1.heap.size w1) _) (by simp) hb
 have HR2 := Aside0.mk (Kd.R_lower hr2 (show w.heap.size ≤ _ by have := HB1.out.size; simp; omega))
 have BM2 := Aside0.mk (blk_below BM1.out hbb)
 have HB2 := Aside0.mk (below_then HB1.out HB1.out.size hbb)
 clear hr2 hb hbb BM1 HB1 q0 q2
 go_wp2_with fail
 go_at_call 31
 with_reducible refine (message_fields w.heap.size a0_0 _ ?hk).mono ?_
 case hk => exact (blk_cell BM2.out 0).trans rfl
 rintro e w3 ⟨hf, hb⟩
 rw [← IX.out] at hf
 rcases hf with ⟨hz, _⟩ | ⟨_, h1, rfl, hs1, hr1⟩
 · exact absurd (IX.out.symm.trans hz) HX.out
 have HR1 := Aside0.mk hr1
 have BM3 := Aside0.mk (blk_below BM2.out hb)
 have HR3 := Aside0.mk (Kd.R_below HR2.out hb)
 have HB3 := Aside0.mk (below_then HB2.out HB2.out.size hb)
 clear hr1 hs1 hb BM2 HR2 HB2
 have LN : Aside0 (ns.length = 11) := ⟨by rw [NS.out]; rfl⟩
 have HXL : Aside0 (∀ i, i < ix.length → ix.getD i 0 ≤ 10) := ⟨fun i hi => by
   have hm : ix.getD i 0 ∈ ixOf a0_0 := by
     rw [← IX.out]
     have he : ix.getD i 0 = ix[i] := by simp [List.getD_eq_getElem?_getD, hi]
     rw [he]; exact List.getElem_mem hi
   exact (ixOf_lt _ hm).2.1⟩
 have HLEN : Aside0 (ix.length ≤ 6) := ⟨by rw [IX.out]; exact ixOf_len _⟩
 go_wp2_with fail
 go_loopw [5, 23] (fun v5 v23 wr => ∃ (i : Nat) (b : List Int), v23 = .int .i64 i ∧ i ≤ ix.length ∧ Aside0 (message_Encode.l0 k b ((ix.drop i).map fun j => ns.getD j 0) = some b9) ∧ Aside0 (Kd.R (Kd.int .u8) 5 wr w.heap.size (fun _ => True) v5 b) ∧ Aside0 (wr.heap[w.heap.size]? = some (.cells #[.int .i64 a0_0, .int .i64 a0_1, .int .i64 a0_2, .int .i64 a0_3, .int .i64 a0_4, .int .i64 a0_5, .int .i64 a0_6, .int .i64 a0_7, .int .i64 a0_8, .int .i64 a0_9, .int .i64 a0_10, .slice A0_11 l0_11.length c0_11] 25 (0, 0))) ∧ Aside0 (wr.heap[h1]? = some (.cells (ixCells w.heap.size ix) 66 (0, 0))) ∧ Aside0 (Below w.heap.size w wr)) (fun _ v23 _ => ix.length - (intOf v23).toNat)
 case atStart => exact ⟨0, b0, rfl, Nat.zero_le _, P9, HR3, BM3, HR1, HB3⟩
 case round =>
   obtain ⟨i, b, rfl, hi, HK, HO, BMr, HRr, HBr⟩ := hrel
   obtain ⟨Ab, cb, hvb⟩ := Kd.R_slice HO.out
   subst hvb
   have HO' := Aside0.mk (Kd.R_reads' HO.out).2
   have hl6 := HLEN.out
   by_cases hlt : i < ix.length
   · have b1 : decide ((i : Int) < (ix.length : Int)) = true := decide_eq_true (by omega)
     have b1' : decide (i < ix.length) = true := decide_eq_true hlt
     have hK := HK.out
     have hdr : ix.drop i = ix.getD i 0 :: ix.drop (i + 1) := by
       rw [List.drop_eq_getElem_cons hlt]
       simp [List.getD_eq_getElem?_getD, hlt]
     rw [hdr, List.map_cons, message_Encode.l0] at hK
     obtain ⟨j, hj⟩ : ∃ j, j = ix.getD i 0 := ⟨_, rfl⟩
     rw [← hj] at hK
     obtain ⟨y, hy⟩ : ∃ y, y = ns.getD j 0 := ⟨_, rfl⟩
     rw [← hy] at hK
     obtain ⟨b2, hp2, hK⟩ := Option.bind_eq_some_iff.1 hK
     have HP2 := Aside0.mk hp2
     have HK2 := Aside0.mk hK
     have q1 : wr.cell? ⟨h1, i, none⟩ = some (.pointer (some ⟨w.heap.size, j, none⟩)) := by rw [blk_cell HRr.out, ix_get hlt, hj]
     have hj2 := HXL.out i hlt
     rw [← hj] at hj2
     have q3 : wr.cell? ⟨w.heap.size, j, none⟩ = some (.int .i64 y) := by
       have hm := BMr.out
       rw [← msg_lit, ← NS.out] at hm
       rw [blk_cell hm, msg_get (by rw [LN.out]; omega), hy]
     clear hj hj2 hy hp2 hK HK hdr
     go_wp2_with fail
     go_at_call 30
     refine calls_of_args (args' := #[.slice Ab b.length cb, .slice (some ⟨wr.heap.size, 0, none⟩) [IntKind.u64.wrap y].length 1]) rfl ?_
     with_reducible refine (varint_Put.calls k Ab cb b _ 1 [IntKind.u64.wrap y] b2 _ (Kd.C_alloc HO'.out.2 _) HO'.out.1 ?hc (Nat.le_refl _) HP2.out).mono ?_
     case hc => exact C_ints (k := .u64) (heap_new1 _ _) (by simp) rfl
     rintro e w5 ⟨v5, rfl, hr2, hb⟩
     have hbb := below_then (below_alloc (Below.refl wr.heap.size wr) _) (by simp) hb
     have HR5 := Aside0.mk (Kd.R_lower hr2 (show w.heap.size ≤ _ by have := HBr.out.size; simp; omega))
     have BM5 := Aside0.mk (blk_below BMr.out hbb)
     have HR6 := Aside0.mk (blk_below HRr.out hbb)
     have HB5 := Aside0.mk (below_then HBr.out HBr.out.size hbb)
     clear hr2 hb hbb
     go_wp2_with fail
     go_roundw
     case rel => exact ⟨i + 1, b2, by go_num, by omega, HK2, HR5, BM5, HR6, HB5⟩
     case measure => simp [intOf]; omega
   · have b1 : decide ((i : Int) < (ix.length : Int)) = false := decide_eq_false (by omega)
     have b1' : decide (i < ix.length) = false := decide_eq_false hlt
     have hK := HK.out
     rw [List.drop_of_length_le (by omega), List.map_nil, message_Encode.l0] at hK
     obtain rfl := Option.some.inj hK
     have q0 : wr.cell? ⟨w.heap.size, 0, none⟩ = some (.int .i64 a0_0) := (blk_cell BMr.out 0).trans rfl
     have q1 : wr.cell? ⟨w.heap.size, 1, none⟩ = some (.int .i64 a0_1) := (blk_cell BMr.out 1).trans rfl
     have q2 : wr.cell? ⟨w.heap.size, 2, none⟩ = some (.int .i64 a0_2) := (blk_cell BMr.out 2).trans rfl
     have q3 : wr.cell? ⟨w.heap.size, 3, none⟩ = some (.int .i64 a0_3) := (blk_cell BMr.out 3).trans rfl
     have q4 : wr.cell? ⟨w.heap.size, 4, none⟩ = some (.int .i64 a0_4) := (blk_cell BMr.out 4).trans rfl
     have q5 : wr.cell? ⟨w.heap.size, 5, none⟩ = some (.int .i64 a0_5) := (blk_cell BMr.out 5).trans rfl
     have q6 : wr.cell? ⟨w.heap.size, 6, none⟩ = some (.int .i64 a0_6) := (blk_cell BMr.out 6).trans rfl
     have q7 : wr.cell? ⟨w.heap.size, 7, none⟩ = some (.int .i64 a0_7) := (blk_cell BMr.out 7).trans rfl
     have q8 : wr.cell? ⟨w.heap.size, 8, none⟩ = some (.int .i64 a0_8) := (blk_cell BMr.out 8).trans rfl
     have q9 : wr.cell? ⟨w.heap.size, 9, none⟩ = some (.int .i64 a0_9) := (blk_cell BMr.out 9).trans rfl
     have q10 : wr.cell? ⟨w.heap.size, 10, none⟩ = some (.int .i64 a0_10) := (blk_cell BMr.out 10).trans rfl
     have q11 : wr.cell? ⟨w.heap.size, 11, none⟩ = some (.slice A0_11 l0_11.length c0_11) := (blk_cell BMr.out 11).trans rfl
     have HRW := Aside0.mk (Kd.C_below HR.out HBr.out)
     clear hK HK
     go_wp2_with fail
     go_at_call 32
     with_reducible refine (message_data.calls a0_0 a0_1 a0_2 a0_3 a0_4 a0_5 a0_6 a0_7 a0_8 a0_9 a0_10 A0_11 c0_11 l0_11 (decide (a0_0 = 3 ∨ a0_0 = 4)) _ HRW.out HC.out ?hd).mono ?_
     case hd =>
       unfold message_data.f
       by_cases h3 : a0_0 = 3
       · simp [h3]
       · rw [if_neg h3]; congr 1; by_cases h4 : a0_0 = 4 <;> simp [h4, h3]
     rintro e w6 ⟨rfl, hb⟩
     have HB6 := Aside0.mk (below_then HBr.out HBr.out.size hb)
     have HO6 := Aside0.mk (Kd.C_below HO'.out.2 hb)
     have HOR6 := Aside0.mk (Kd.R_below HO.out hb)
     have q : w6.cell? ⟨w.heap.size, 11, none⟩ = some (.slice A0_11 l0_11.length c0_11) := (blk_cell (blk_below BMr.out hb) 11).trans rfl
     clear hb q0 q1 q2 q3 q4 q5 q6 q7 q8 q9 q10 q11 HRW
     by_cases hd : a0_0 = 3 ∨ a0_0 = 4
     · have d0 : decide (a0_0 = 3 ∨ a0_0 = 4) = true := decide_eq_true hd
       obtain ⟨b3, ht3, hz⟩ := Option.bind_eq_some_iff.1 ((if_pos hd).symm.trans HZ.out)
       simp only [Option.some.injEq, Prod.mk.injEq] at hz
       obtain ⟨rfl, rfl⟩ := hz
       have HT := Aside0.mk ht3
       clear hd ht3 HZ
       go_wp2_with fail
       go_at_call 33
       refine calls_of_args (args' := #[.slice Ab b.length cb, .slice (some ⟨w6.heap.size, 0, none⟩) [l0_11].length 1]) rfl ?_
       with_reducible refine (varint_Texts.calls k Ab cb b _ 1 [l0_11] _ _ (Kd.C_alloc HO6.out _) HO'.out.1 ?hc (Nat.le_refl _) HT.out).mono ?_
       case hc => exact C_lit1 (heap_new1 _ _) HC.out (Kd.C_alloc (Kd.C_below HR.out HB6.out) _)
       rintro e w7 ⟨v7, rfl, hr2, hb⟩
       have HB7 := Aside0.mk (below_then HB6.out HB6.out.size (below_then (below_alloc (Below.refl w6.heap.size w6) _) (by simp) hb))
       have HR7 := Aside0.mk (Kd.R_lower hr2 (show w.heap.size ≤ _ by have := HB6.out.size; simp; omega))
       clear hr2 hb
       go_wp2_with fail
       go_ret2
       exact ⟨_, rfl, HR7.out, HB7.out⟩
     · have d0 : decide (a0_0 = 3 ∨ a0_0 = 4) = false := decide_eq_false hd
       have hz := (if_neg hd).symm.trans HZ.out
       simp only [Option.some.injEq, Prod.mk.injEq] at hz
       obtain ⟨rfl, rfl⟩ := hz
       clear hd HZ
       go_wp2_with fail
       go_ret2
       exact ⟨_, rfl, HOR6.out, HB6.out⟩
end Go.Proofs.Ytkddlhcpplkpbaa.G
end
section
namespace Go.Proofs.Ytkddlhcpplkpbaa.G
open WB Go.RowKit Go.Proofs.YtkddlhcpplkpbaaW.PrintWords Go.Proofs.YtkddlhcpplkpbaaW.PrintLast Go.Proofs.YtkddlhcpplkpbaaW.PrintMore
attribute [local go_sem] max2_int min2_int max_two min_two max_three min_three max_four min_four   -- for this text's walks alone
def waybilllaw09_alive.g (x : List Int × Int) (y : Int × Int × Int × Int × Int × Int × Int × Int × Int × Int × Int × List Int × Int) : Bool := (wrap64 (x.2 + y.2.2.2.2.2.2.2.2.2.2.2.2) == 0) && ((strOfNums x.1).toList == ([8, 3, 2, 4] : List UInt8)) && (y.2.2.2.2.2.2.2.1 == 4)
def waybilllaw09_alive.f (k : Nat)  : Option (Bool) := (message_Encode.f k 8 2 3 0 0 0 0 4 0 0 0 []).bind fun x => (message_Decode.f k x.1).bind fun y => some (waybilllaw09_alive.g x y)
set_option maxHeartbeats 4000000 in
set_option maxRecDepth 100000 in
theorem waybilllaw09_alive.calls (k : Nat)  (r : Bool) (w : World) (h : waybilllaw09_alive.f k  = some r) :
  Calls Try.prog 9 #[] w fun e w' => e = .returned (.bool r) ∧ Below w.heap.size w w' := by
 unfold waybilllaw09_alive.f at h
 obtain ⟨⟨x1, x2⟩, hx, h⟩ := Option.bind_eq_some_iff.1 h
 obtain ⟨⟨y0, y1, y2, y3, y4, y5, y6, y7, y8, y9, y10, y11, y12⟩, hy, h⟩ := Option.bind_eq_some_iff.1 h
 have HX := Aside0.mk hx
 have HY := Aside0.mk hy
 have HG := Aside0.mk (Option.some.inj h)
 clear hx hy h
 go_enter Try.func9, Try.ntmps9
 go_wp2_with fail
 go_at_call 13
 refine calls_of_args (args' := #[.agg #[.int .i64 8, .int .i64 2, .int .i64 3, .int .i64 0, .int .i64 0, .int .i64 0, .int .i64 0, .int .i64 4, .int .i64 0, .int .i64 0, .int .i64 0, .slice none ([] : List Int).length 0]]) rfl ?_
 with_reducible refine (message_Encode.calls k 8 2 3 0 0 0 0 4 0 0 0 none 0 [] x1 x2 _ (Kd.C_nil _ _) (Nat.le_refl _) HX.out).mono ?_
 rintro e w1 ⟨v1, rfl, hr1, hb1⟩
 have HB1 := Aside0.mk hb1
 have HR1 := Aside0.mk hr1
 obtain ⟨A1, c1, rfl⟩ := Kd.R_slice hr1
 have HV1 := Aside0.mk (Kd.R_reads' hr1).2
 clear hb1 hr1
 go_wp2_with fail
 go_at_call 10
 with_reducible refine (message_Decode.calls k A1 c1 x1 y0 y1 y2 y3 y4 y5 y6 y7 y8 y9 y10 y11 y12 _ HV1.out.2 HV1.out.1 HY.out).mono ?_
 rintro e w2 ⟨v2, rfl, hr2, hb2⟩
 obtain ⟨A2, c2, rfl⟩ := Kd.R_slice hr2
 have HB2 := Aside0.mk (below_then HB1.out HB1.out.size hb2)
 have HV2 := Aside0.mk (Kd.C_below HV1.out.2 hb2)
 clear hb2 hr2
 go_upto_region 3 with fail
 obtain ⟨w3, hw3⟩ : ∃ W, W = w2.alloc (.cells #[.int .i64 y0, .int .i64 y1, .int .i64 y2, .int .i64 y3, .int .i64 y4, .int .i64 y5, .int .i64 y6, .int .i64 y7, .int .i64 y8, .int .i64 y9, .int .i64 y10, .slice A2 y11.length c2] 25) := ⟨_, rfl⟩
 rw [← hw3]
 have HV3 := Aside0.mk (show Kd.C (Kd.int .u8) w3 A1 x1.length x1 by rw [hw3]; exact Kd.C_alloc HV2.out _)
 have HB3 := Aside0.mk (show Below w.heap.size w w3 by rw [hw3]; exact below_alloc HB2.out _)
 have BM3 := Aside0.mk (show w3.heap[w2.heap.size]? = some (.cells #[.int .i64 y0, .int .i64 y1, .int .i64 y2, .int .i64 y3, .int .i64 y4, .int .i64 y5, .int .i64 y6, .int .i64 y7, .int .i64 y8, .int .i64 y9, .int .i64 y10, .slice A2 y11.length c2] 25 (0, 0)) by rw [hw3]; exact heap_new1 _ _)
 clear hw3 HV2 HB2
 go_wp2_with fail
 go_at_call 11
 with_reducible refine (waybilllaw09_num.calls x2 x2 _ rfl).mono ?_
 rintro e w4 ⟨rfl, hd⟩
 have HV4 := Aside0.mk (Kd.C_below HV3.out hd.below)
 have HB4 := Aside0.mk (below_then HB3.out HB3.out.size hd.below)
 have BM4 := Aside0.mk (blk_below BM3.out hd.below)
 clear hd HV3 HB3 BM3
 go_wp2_with fail
 go_at_call 11
 with_reducible refine (waybilllaw09_num.calls y12 y12 _ rfl).mono ?_
 rintro e w5 ⟨rfl, hd⟩
 have HV5 := Aside0.mk (Kd.C_below HV4.out hd.below)
 have HB5 := Aside0.mk (below_then HB4.out HB4.out.size hd.below)
 have BM5 := Aside0.mk (blk_below BM4.out hd.below)
 clear hd HV4 HB4 BM4
 have hcv := Kd.C_string (P := Try.prog) (A := A1) (c := c1) Try.underlying22 Try.underlying5 Try.underlying9 HV5.out
 have q7 : w5.cell? ⟨w2.heap.size, 7, none⟩ = some (.int .i64 y7) := (blk_cell BM5.out 7).trans rfl
 have hg := HG.out
 unfold waybilllaw09_alive.g at hg
 dsimp only at hg
 obtain ⟨b1, h1⟩ : ∃ b, (wrap64 (x2 + y12) == 0) = b := ⟨_, rfl⟩
 obtain ⟨b2, h2⟩ : ∃ b, ((strOfNums x1).toList == ([8, 3, 2, 4] : List UInt8)) = b := ⟨_, rfl⟩
 obtain ⟨b3, h3⟩ : ∃ b, (y7 == 4) = b := ⟨_, rfl⟩
 rw [h1, h2, h3] at hg
 subst hg
 clear HG
 cases b1 with
 | false =>
  go_wp2_with fail
  go_ret
  exact ⟨rfl, HB5.out⟩
 | true =>
  cases b2 with
  | false =>
   go_wp2_with fail
   go_ret
   exact ⟨rfl, HB5.out⟩
  | true =>
   go_wp2_with fail
   go_ret
   exact ⟨rfl, HB5.out⟩
end Go.Proofs.Ytkddlhcpplkpbaa.G
end
