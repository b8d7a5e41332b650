/- MessageCut: texts of this claim, packed: what the kit's print has written for it and own texts, without what its proof does not reach. -/
import Derived.Test.YtkddlhcpplkpbaaKMessageCut15
import Derived.Test.YtkddlhcpplkpbaaKMessageCut20
import Derived.Test.YtkddlhcpplkpbaaKMessageCut23
import Derived.Test.YtkddlhcpplkpbaaKMessageCut24
import Derived.Test.YtkddlhcpplkpbaaKMessageCut26
set_option linter.unusedVariables false
set_option linter.unusedSimpArgs false
set_option linter.unusedSectionVars false
section
namespace Go.Proofs.Ytkddlhcpplkpbaa.G
open WB Go.RowKit Go.Proofs.YtkddlhcpplkpbaaW.PrintWords Go.Proofs.YtkddlhcpplkpbaaW.PrintLast Go.Proofs.YtkddlhcpplkpbaaW.PrintMore
attribute [local go_sem] max2_int min2_int max_two min_two max_three min_three max_four min_four   -- for this text's walks alone
set_option linter.unusedVariables false
set_option linter.unusedSimpArgs false
/-- Where the law cuts. -/
def cutI (a n : Int) : Int := Int.tmod (wrap64 (Int.tmod a n + n)) n
theorem cutI_in (a n : Int) (h0 : 0 < n) (h1 : n ≤ 4611686018427387904) : 0 ≤ cutI a n ∧ cutI a n < n := by
  unfold cutI
  have h2 := Int.tmod_lt_of_pos a h0
  have h3 : -n < Int.tmod a n := Int.lt_tmod_of_pos a h0
  have h4 : wrap64 (Int.tmod a n + n) = Int.tmod a n + n := by unfold wrap64; omega
  rw [h4]
  exact ⟨Int.tmod_nonneg _ (by omega), Int.tmod_lt_of_pos _ h0⟩
theorem C_cut {w : World} {A : Option Addr} {l : List Int} (j : Nat) (hj : j ≤ l.length) (h : Kd.C (Kd.int .u8) w A l.length l) : Kd.C (Kd.int .u8) w A (l.take j).length (l.take j) := by
  rw [List.length_take, Nat.min_eq_left hj]
  exact Kd.C_of_reads ((Kd.reads_of_C (enc := Value.int .u8) (d := (0 : Int)) (h1 := fun _ => rfl) h).take_ j hj)
/-- What the law asks at last. -/
def cutE (kx : Int) (e1 e2 h : Int) (n : Nat) : Bool := (e1 == 8) && (e2 == 22) && ((kx == 0) && (h == 0) || decide (kx > 0) && (h == 8)) && (n == 0)
def waybilllaw09_MessageCut.f (k : Nat) (a0_0 : Int) (a0_1 : Int) (a0_2 : Int) (a0_3 : Int) (a0_4 : Int) (a0_5 : Int) (a0_6 : Int) (a0_7 : Int) (a0_8 : Int) (a0_9 : Int) (a0_10 : Int) (l0_11 : List Int) (a1 : Int) (a2 : Int) : Option (Bool) := (waybilllaw09_alive.f k).bind fun al => if al = true then (message_Encode.f k a0_0 a0_1 a0_2 a0_3 a0_4 a0_5 a0_6 a0_7 a0_8 a0_9 a0_10 l0_11).bind fun b => (if b.2 = 0 then (if b.1.length = 0 then none else (message_Decode.f k (b.1.take (cutI a1 (b.1.length : Int)).toNat)).bind fun d => (waybillplain_CopyBytes.f b.1).bind fun cb => (if cb.length + 1 < 140737488355328 then (message_Decode.f k (cb ++ [a2])).bind fun d2 => (message_Frames.f k [(⟨a0_0, a0_1, a0_2, a0_3, a0_4, a0_5, a0_6, a0_7, a0_8, a0_9, a0_10, l0_11⟩ : S25)]).bind fun x => (if x.1.length = 0 ∨ 4611686018427387904 < x.1.length then none else (message_Read.f k (x.1.take (cutI a1 (x.1.length : Int)).toNat)).bind fun y => some (cutE (cutI a1 (x.1.length : Int)) d.2.2.2.2.2.2.2.2.2.2.2.2 d2.2.2.2.2.2.2.2.2.2.2.2.2 y.2 y.1.length)) else none)) else some (decide (b.1.length = 0))) else some false
set_option maxHeartbeats 8000000 in
set_option maxRecDepth 100000 in
theorem waybilllaw09_MessageCut.calls (k : Nat) (a0_0 : Int) (a0_1 : Int) (a0_2 : Int) (a0_3 : Int) (a0_4 : Int) (a0_5 : Int) (a0_6 : Int) (a0_7 : Int) (a0_8 : Int) (a0_9 : Int) (a0_10 : Int) (A0_11 : Option Addr) (c0_11 : Nat) (l0_11 : List Int) (a1 : Int) (a2 : Int) (r : Bool) (w : World) (hr0_11 : Kd.C (Kd.int .u8) w A0_11 l0_11.length l0_11) (hc0_11 : l0_11.length ≤ c0_11) (h : waybilllaw09_MessageCut.f k a0_0 a0_1 a0_2 a0_3 a0_4 a0_5 a0_6 a0_7 a0_8 a0_9 a0_10 l0_11 a1 a2 = some r) (hrt : r = true) :
    Calls Try.prog 7 #[.agg #[.int .i64 a0_0, .int .i64 a0_1, .int .i64 a0_2, .int .i64 a0_3, .int .i64 a0_4, .int .i64 a0_5, .int .i64 a0_6, .int .i64 a0_7, .int .i64 a0_8, .int .i64 a0_9, .int .i64 a0_10, .slice A0_11 l0_11.length c0_11], .int .i64 a1, .int .u8 a2] w fun e w' => e = .returned (.bool r) ∧ Below w.heap.size w w' := by
  subst hrt
  unfold waybilllaw09_MessageCut.f at h
  have HR := Aside0.mk hr0_11
  have HC := Aside0.mk hc0_11
  obtain ⟨al, hal, h⟩ := Option.bind_eq_some_iff.1 h
  cases al with
  | false => cases h
  | true =>
  have HAL := Aside0.mk hal
  obtain ⟨⟨b, eb⟩, hbe, h⟩ := Option.bind_eq_some_iff.1 ((if_pos rfl).symm.trans h)
  have HBE := Aside0.mk hbe
  have HH := Aside0.mk h
  clear hal hbe h hr0_11 hc0_11
  go_enter Try.func7, Try.ntmps7
  go_wp2_with fail
  go_at_call 9
  obtain ⟨W0, hW0⟩ : ∃ W, W = w.alloc (.cells #[.int .i64 a0_0, .int .i64 a0_1, .int .i64 a0_2, .int .i64 a0_3, .int .i64 a0_4, .int .i64 a0_5, .int .i64 a0_6, .int .i64 a0_7, .int .i64 a0_8, .int .i64 a0_9, .int .i64 a0_10, .slice A0_11 l0_11.length c0_11] 25) := ⟨_, rfl⟩
  rw [← hW0]
  have BM := Aside0.mk (show W0.heap[w.heap.size]? = some (.cells #[.int .i64 a0_0, .int .i64 a0_1, .int .i64 a0_2, .int .i64 a0_3, .int .i64 a0_4, .int .i64 a0_5, .int .i64 a0_6, .int .i64 a0_7, .int .i64 a0_8, .int .i64 a0_9, .int .i64 a0_10, .slice A0_11 l0_11.length c0_11] 25 (0, 0)) by rw [hW0]; exact heap_new1 _ _)
  have HB := Aside0.mk (show Below w.heap.size w W0 by rw [hW0]; exact below_alloc (Below.refl _ _) _)
  clear hW0
  with_reducible refine (waybilllaw09_alive.calls k true _ HAL.out).mono ?_
  rintro e w1 ⟨rfl, hb⟩
  have BM1 := Aside0.mk (blk_below BM.out hb)
  have HB1 := Aside0.mk (below_then HB.out HB.out.size hb)
  clear hb BM HB
  have q0 : w1.cell? ⟨w.heap.size, 0, none⟩ = some (.int .i64 a0_0) := (blk_cell BM1.out 0).trans rfl
  have q1 : w1.cell? ⟨w.heap.size, 1, none⟩ = some (.int .i64 a0_1) := (blk_cell BM1.out 1).trans rfl
  have q2 : w1.cell? ⟨w.heap.size, 2, none⟩ = some (.int .i64 a0_2) := (blk_cell BM1.out 2).trans rfl
  have q3 : w1.cell? ⟨w.heap.size, 3, none⟩ = some (.int .i64 a0_3) := (blk_cell BM1.out 3).trans rfl
  have q4 : w1.cell? ⟨w.heap.size, 4, none⟩ = some (.int .i64 a0_4) := (blk_cell BM1.out 4).trans rfl
  have q5 : w1.cell? ⟨w.heap.size, 5, none⟩ = some (.int .i64 a0_5) := (blk_cell BM1.out 5).trans rfl
  have q6 : w1.cell? ⟨w.heap.size, 6, none⟩ = some (.int .i64 a0_6) := (blk_cell BM1.out 6).trans rfl
  have q7 : w1.cell? ⟨w.heap.size, 7, none⟩ = some (.int .i64 a0_7) := (blk_cell BM1.out 7).trans rfl
  have q8 : w1.cell? ⟨w.heap.size, 8, none⟩ = some (.int .i64 a0_8) := (blk_cell BM1.out 8).trans rfl
  have q9 : w1.cell? ⟨w.heap.size, 9, none⟩ = some (.int .i64 a0_9) := (blk_cell BM1.out 9).trans rfl
  have q10 : w1.cell? ⟨w.heap.size, 10, none⟩ = some (.int .i64 a0_10) := (blk_cell BM1.out 10).trans rfl
  have q11 : w1.cell? ⟨w.heap.size, 11, none⟩ = some (.slice A0_11 l0_11.length c0_11) := (blk_cell BM1.out 11).trans rfl
  go_wp2_with fail
  go_at_call 13
  with_reducible refine (message_Encode.calls k a0_0 a0_1 a0_2 a0_3 a0_4 a0_5 a0_6 a0_7 a0_8 a0_9 a0_10 A0_11 c0_11 l0_11 b eb _ (Kd.C_below HR.out HB1.out) HC.out HBE.out).mono ?_
  rintro e w2 ⟨v2, rfl, hr2, hb⟩
  obtain ⟨A2, c2, rfl⟩ := Kd.R_slice hr2
  have HV2 := Aside0.mk (Kd.R_reads' hr2).2
  have BM2 := Aside0.mk (blk_below BM1.out hb)
  have HB2 := Aside0.mk (below_then HB1.out HB1.out.size hb)
  clear hb BM1 HB1 hr2 q0 q1 q2 q3 q4 q5 q6 q7 q8 q9 q10 q11
  go_wp2_with fail
  go_at_call 11
  with_reducible refine (waybilllaw09_num.calls eb eb _ rfl).mono ?_
  rintro e w3 ⟨rfl, hd⟩
  have BM3 := Aside0.mk (blk_below BM2.out hd.below)
  have HB3 := Aside0.mk (below_then HB2.out HB2.out.size hd.below)
  have HV3 := Aside0.mk (And.intro HV2.out.1 (Kd.C_below HV2.out.2 hd.below))
  clear hd BM2 HB2 HV2
  by_cases e0 : eb = 0
  case neg =>
    have hl := Option.some.inj ((if_neg e0).symm.trans HH.out)
    have hl0 : b.length = 0 := of_decide_eq_true hl
    have hl1 : ((b.length : Int) == 0) = true := by rw [hl0]; rfl
    have hl2 : (b.length == 0) = true := by rw [hl0]; rfl
    have x1 : (eb != 0) = true := bne_iff_ne.mpr e0
    clear hl hl0 HH e0
    go_wp2_with fail
    go_ret
    exact ⟨by first | rfl | (simp [*]; done), HB3.out⟩
  have x1 : (eb != 0) = false := by simp [e0]
  have hh := (if_pos e0).symm.trans HH.out
  by_cases hb0 : b.length = 0
  · cases (if_pos hb0).symm.trans hh
  have hh := (if_neg hb0).symm.trans hh
  obtain ⟨⟨d0, d1, d2, d3, d4, d5, d6, d7, d8, d9, d10, dl, de⟩, hd1, hh⟩ := Option.bind_eq_some_iff.1 hh
  obtain ⟨cb, hcb, hh⟩ := Option.bind_eq_some_iff.1 hh
  split at hh
  case isFalse => cases hh
  case isTrue hcl =>
  obtain ⟨⟨f0, f1, f2, f3, f4, f5, f6, f7, f8, f9, f10, fl, fe⟩, hd2, hh⟩ := Option.bind_eq_some_iff.1 hh
  obtain ⟨⟨xs, xe⟩, hx, hh⟩ := Option.bind_eq_some_iff.1 hh
  split at hh
  case isTrue => cases hh
  case isFalse hx0 =>
  obtain ⟨⟨ys, ye⟩, hy, hh⟩ := Option.bind_eq_some_iff.1 hh
  have hE := Option.some.inj hh
  have H1 := Aside0.mk hd1
  have H2 := Aside0.mk hcb
  have H3 := Aside0.mk hcl
  have H4 := Aside0.mk hd2
  have H5 := Aside0.mk hx
  have H6 := Aside0.mk hx0
  have H7 := Aside0.mk hy
  have H8 := Aside0.mk hE
  have H9 := Aside0.mk hb0
  have hbl : (b.length : Int) ≤ 9223372036854775807 := by have := HV3.out.2.2.1; omega
  have hbs : b.length < 140737488355328 := by
    have h2 := H2.out
    unfold waybillplain_CopyBytes.f at h2
    split at h2
    · rename_i hq; simpa using hq
    · cases h2
  have nz : ((b.length : Int) == 0) = false := beq_eq_false_iff_ne.mpr (by omega)
  have nz2 : ¬ ((b.length : Int) = 0) := by omega
  clear HH hh hd1 hcb hcl hd2 hx hx0 hy hE hb0 e0
  go_upto_region 7 with fail
  obtain ⟨n1, hn1⟩ : ∃ n, n = cutI a1 (b.length : Int) := ⟨_, rfl⟩
  rw [show (wrap64 (a1.tmod (b.length : Int) + (b.length : Int))).tmod (b.length : Int) = n1 from hn1.symm]
  have hin := cutI_in a1 (b.length : Int) (by have := H9.out; omega) (by omega)
  rw [← hn1] at hin
  have h1 := H1.out
  rw [← hn1] at h1
  have H1' := Aside0.mk h1
  obtain ⟨i0, hi0, _, hs0, _⟩ := info_parts info5
  obtain ⟨hcut, _, hcl⟩ := print_take_of (P := Try.prog) (Value.int .u8) 0 22 5 .i64 Try.underlying22 hi0 hs0 A2 c2 b n1 hin.1 (by omega) HV3.out.1
  have HC1 := Aside0.mk (show Kd.C (Kd.int .u8) w3 A2 (b.take n1.toNat).length (b.take n1.toNat) from C_cut n1.toNat (by omega) HV3.out.2)
  have HL1 := Aside0.mk hcl
  obtain ⟨b1, hb1⟩ : ∃ b1, b1 = b.take n1.toNat := ⟨_, rfl⟩
  rw [← hb1] at hcut HC1 HL1 H1'
  clear hn1 h1 H1 hb1 hcl hi0 hs0
  go_wp2_with fail
  go_at_call 10
  with_reducible refine (message_Decode.calls k A2 c2 b1 d0 d1 d2 d3 d4 d5 d6 d7 d8 d9 d10 dl de _ HC1.out HL1.out H1'.out).mono ?_
  rintro e w4 ⟨v4, rfl, hr4, hb⟩
  obtain ⟨A4, c4, rfl⟩ := Kd.R_slice hr4
  have BM4 := Aside0.mk (blk_below BM3.out hb)
  have HB4 := Aside0.mk (below_then HB3.out HB3.out.size hb)
  have HV4 := Aside0.mk (And.intro HV3.out.1 (Kd.C_below HV3.out.2 hb))
  clear hb hr4 BM3 HB3 HV3 HC1 HL1 hcut hin
  go_upto_region 8 with fail
  obtain ⟨w5, hw5⟩ : ∃ W, W = w4.alloc (.cells #[.int .i64 d0, .int .i64 d1, .int .i64 d2, .int .i64 d3, .int .i64 d4, .int .i64 d5, .int .i64 d6, .int .i64 d7, .int .i64 d8, .int .i64 d9, .int .i64 d10, .slice A4 dl.length c4] 25) := ⟨_, rfl⟩
  rw [← hw5]
  have BM5 := Aside0.mk (show w5.heap[w.heap.size]? = some (.cells #[.int .i64 a0_0, .int .i64 a0_1, .int .i64 a0_2, .int .i64 a0_3, .int .i64 a0_4, .int .i64 a0_5, .int .i64 a0_6, .int .i64 a0_7, .int .i64 a0_8, .int .i64 a0_9, .int .i64 a0_10, .slice A0_11 l0_11.length c0_11] 25 (0, 0)) by rw [hw5]; exact blk_alloc BM4.out _)
  have HB5 := Aside0.mk (show Below w.heap.size w w5 by rw [hw5]; exact below_alloc HB4.out _)
  have HV5 := Aside0.mk (And.intro HV4.out.1 (show Kd.C (Kd.int .u8) w5 A2 b.length b by rw [hw5]; exact Kd.C_alloc HV4.out.2 _))
  clear hw5 BM4 HB4 HV4
  go_wp2_with fail
  go_at_call 16
  with_reducible refine (waybillplain_CopyBytes.calls A2 c2 b cb _ HV5.out.2 HV5.out.1 H2.out).mono ?_
  rintro e w6 ⟨v6, rfl, hr6, hb⟩
  have BM6 := Aside0.mk (blk_below BM5.out hb)
  have HB6 := Aside0.mk (below_then HB5.out HB5.out.size hb)
  have HOW := Aside0.mk (fun k (hk : v6.ownBlock = some k) => Nat.lt_of_lt_of_le (blk_lt BM5.out) ((Kd.R_bound hr6).1 k hk).2.1)
  have HR6 := Aside0.mk (Kd.R_lower hr6 HB5.out.size)
  clear hb hr6 BM5 HB5 HV5
  have HB7 := Aside0.mk (below_alloc HB6.out (.cells #[.int .u8 a2] 5))
  have HR7 := Aside0.mk (Kd.R_alloc HR6.out (.cells #[.int .u8 a2] 5))
  have HC7 := Aside0.mk (C_ints (k := .u8) (l := [a2]) (heap_new1 w6 (.cells #[.int .u8 a2] 5)) (by simp) rfl)
  have BM7 := Aside0.mk (blk_alloc BM6.out (.cells #[.int .u8 a2] 5))
  obtain ⟨y, hy⟩ : ∃ y, y = cb ++ [a2] := ⟨_, rfl⟩
  have HY := Aside0.mk hy
  have h4 := H4.out
  rw [← hy] at h4
  have H4' := Aside0.mk h4
  clear hy h4 H4 HR6 HB6 BM6
  go_wp2_with (( (with_reducible refine gate_builtin (b := .append) (xs := #[.tmp 51, .tmp 53]) rfl ?_); at_builtin; refine Kd.R_append_rows (Kd.int .u8) (w0 := w) w.heap.size rfl (.tmp 51) (.tmp 53) 22 5 (.int .u8 0) 1 rfl Try.underlying22 info5 rfl (by decide) (by omega) v6 cb ([a2] : List Int) (some ⟨w6.heap.size, 0, none⟩) [a2].length _ (fun _ => True) (fun _ => False) rfl rfl HR7.out HC7.out (fun _ _ h => h) (fun _ h => h.elim) (fun _ _ => trivial) HB7.out HB7.out.size (by have := H3.out; simp only [List.length_cons, List.length_nil]; omega) ?_; intro v4 w8 ho4 hb4 hg4 hat4; rw [← HY.out] at ho4; have HO8 := Aside0.mk ho4; have HB8 := Aside0.mk hb4; have HGR := Aside0.mk hg4; clear ho4 hb4 hg4 hat4))
  obtain ⟨A8, c8, rfl⟩ := Kd.R_slice HO8.out
  have HV8 := Aside0.mk (Kd.R_reads' HO8.out).2
  have BM8 := Aside0.mk ((HGR.out.block w.heap.size (blk_lt BM7.out) (fun he => by have := HOW.out _ he.symm; omega)).trans BM7.out)
  clear HGR HOW HO8 BM7 HB7 HR7 HC7
  with_reducible refine (message_Decode.calls k A8 c8 y f0 f1 f2 f3 f4 f5 f6 f7 f8 f9 f10 fl fe _ HV8.out.2 HV8.out.1 H4'.out).mono ?_
  rintro e w9 ⟨v9, rfl, hr9, hb⟩
  obtain ⟨A7, c7, rfl⟩ := Kd.R_slice hr9
  have BM9 := Aside0.mk (blk_below BM8.out hb)
  have HB9 := Aside0.mk (below_then HB8.out HB8.out.size hb)
  clear hb hr9 BM8 HB8 HV8
  go_upto_region 9 with fail
  obtain ⟨w10, hw10⟩ : ∃ W, W = w9.alloc (.cells #[.int .i64 f0, .int .i64 f1, .int .i64 f2, .int .i64 f3, .int .i64 f4, .int .i64 f5, .int .i64 f6, .int .i64 f7, .int .i64 f8, .int .i64 f9, .int .i64 f10, .slice A7 fl.length c7] 25) := ⟨_, rfl⟩
  rw [← hw10]
  have BM10 := Aside0.mk (show w10.heap[w.heap.size]? = some (.cells #[.int .i64 a0_0, .int .i64 a0_1, .int .i64 a0_2, .int .i64 a0_3, .int .i64 a0_4, .int .i64 a0_5, .int .i64 a0_6, .int .i64 a0_7, .int .i64 a0_8, .int .i64 a0_9, .int .i64 a0_10, .slice A0_11 l0_11.length c0_11] 25 (0, 0)) by rw [hw10]; exact blk_alloc BM9.out _)
  have HB10 := Aside0.mk (show Below w.heap.size w w10 by rw [hw10]; exact below_alloc HB9.out _)
  clear hw10 BM9 HB9
  have q0 : w10.cell? ⟨w.heap.size, 0, none⟩ = some (.int .i64 a0_0) := (blk_cell BM10.out 0).trans rfl
  have q1 : w10.cell? ⟨w.heap.size, 1, none⟩ = some (.int .i64 a0_1) := (blk_cell BM10.out 1).trans rfl
  have q2 : w10.cell? ⟨w.heap.size, 2, none⟩ = some (.int .i64 a0_2) := (blk_cell BM10.out 2).trans rfl
  have q3 : w10.cell? ⟨w.heap.size, 3, none⟩ = some (.int .i64 a0_3) := (blk_cell BM10.out 3).trans rfl
  have q4 : w10.cell? ⟨w.heap.size, 4, none⟩ = some (.int .i64 a0_4) := (blk_cell BM10.out 4).trans rfl
  have q5 : w10.cell? ⟨w.heap.size, 5, none⟩ = some (.int .i64 a0_5) := (blk_cell BM10.out 5).trans rfl
  have q6 : w10.cell? ⟨w.heap.size, 6, none⟩ = some (.int .i64 a0_6) := (blk_cell BM10.out 6).trans rfl
  have q7 : w10.cell? ⟨w.heap.size, 7, none⟩ = some (.int .i64 a0_7) := (blk_cell BM10.out 7).trans rfl
  have q8 : w10.cell? ⟨w.heap.size, 8, none⟩ = some (.int .i64 a0_8) := (blk_cell BM10.out 8).trans rfl
  have q9 : w10.cell? ⟨w.heap.size, 9, none⟩ = some (.int .i64 a0_9) := (blk_cell BM10.out 9).trans rfl
  have q10 : w10.cell? ⟨w.heap.size, 10, none⟩ = some (.int .i64 a0_10) := (blk_cell BM10.out 10).trans rfl
  have q11 : w10.cell? ⟨w.heap.size, 11, none⟩ = some (.slice A0_11 l0_11.length c0_11) := (blk_cell BM10.out 11).trans rfl
  go_wp2_with fail
  go_at_call 20
  have HB11 := Aside0.mk (below_alloc HB10.out (.cells #[.int .i64 a0_0, .int .i64 a0_1, .int .i64 a0_2, .int .i64 a0_3, .int .i64 a0_4, .int .i64 a0_5, .int .i64 a0_6, .int .i64 a0_7, .int .i64 a0_8, .int .i64 a0_9, .int .i64 a0_10, .slice A0_11 l0_11.length c0_11] 25))
  refine calls_of_args (args' := #[.slice (some ⟨w10.heap.size, 0, none⟩) [(⟨a0_0, a0_1, a0_2, a0_3, a0_4, a0_5, a0_6, a0_7, a0_8, a0_9, a0_10, l0_11⟩ : S25)].length 1]) rfl ?_
  with_reducible refine (message_Frames.calls k (some ⟨w10.heap.size, 0, none⟩) 1 [(⟨a0_0, a0_1, a0_2, a0_3, a0_4, a0_5, a0_6, a0_7, a0_8, a0_9, a0_10, l0_11⟩ : S25)] xs xe _ ?hc (Nat.le_refl _) H5.out).mono ?_
  case hc => exact C_one (heap_new1 w10 (.cells #[.int .i64 a0_0, .int .i64 a0_1, .int .i64 a0_2, .int .i64 a0_3, .int .i64 a0_4, .int .i64 a0_5, .int .i64 a0_6, .int .i64 a0_7, .int .i64 a0_8, .int .i64 a0_9, .int .i64 a0_10, .slice A0_11 l0_11.length c0_11] 25)) (k25_mk _ (⟨a0_0, a0_1, a0_2, a0_3, a0_4, a0_5, a0_6, a0_7, a0_8, a0_9, a0_10, l0_11⟩ : S25) HC.out (Kd.C_below HR.out HB11.out))
  rintro e w11 ⟨v11, rfl, hr11, hb⟩
  obtain ⟨A11, c11, rfl⟩ := Kd.R_slice hr11
  have HV11 := Aside0.mk (Kd.R_reads' hr11).2
  have HB12 := Aside0.mk (below_then HB11.out HB11.out.size hb)
  clear hb hr11 HB11 HB10 BM10 q0 q1 q2 q3 q4 q5 q6 q7 q8 q9 q10 q11
  have hx0 : ¬ xs.length = 0 := fun h => H6.out (Or.inl h)
  have hx1 : xs.length ≤ 4611686018427387904 := Nat.not_lt.1 fun h => H6.out (Or.inr h)
  have mz : ((xs.length : Int) == 0) = false := beq_eq_false_iff_ne.mpr (by omega)
  have mz2 : ¬ ((xs.length : Int) = 0) := by omega
  clear nz nz2
  go_upto_region 11 with fail
  obtain ⟨n2, hn2⟩ : ∃ n, n = cutI a1 (xs.length : Int) := ⟨_, rfl⟩
  rw [show (wrap64 (a1.tmod (xs.length : Int) + (xs.length : Int))).tmod (xs.length : Int) = n2 from hn2.symm]
  have hin := cutI_in a1 (xs.length : Int) (by omega) (by omega)
  rw [← hn2] at hin
  have h7 := H7.out
  have h8 := H8.out
  rw [← hn2] at h7 h8
  have H7' := Aside0.mk h7
  have H8' := Aside0.mk h8
  obtain ⟨i0, hi0, _, hs0, _⟩ := info_parts info5
  obtain ⟨hcut, _, hcl⟩ := print_take_of (P := Try.prog) (Value.int .u8) 0 22 5 .i64 Try.underlying22 hi0 hs0 A11 c11 xs n2 hin.1 (by omega) HV11.out.1
  have HC1 := Aside0.mk (show Kd.C (Kd.int .u8) w11 A11 (xs.take n2.toNat).length (xs.take n2.toNat) from C_cut n2.toNat (by omega) HV11.out.2)
  have HL1 := Aside0.mk hcl
  obtain ⟨b2, hb2⟩ : ∃ b2, b2 = xs.take n2.toNat := ⟨_, rfl⟩
  rw [← hb2] at hcut HC1 HL1 H7'
  have HIN := Aside0.mk hin.1
  clear hn2 h7 h8 H7 H8 hb2 hcl hi0 hs0 hin
  go_wp2_with fail
  go_at_call 21
  with_reducible refine (message_Read.calls k A11 c11 b2 ys ye _ HC1.out HL1.out H7'.out).mono ?_
  rintro e w12 ⟨v12, rfl, hr12, hb⟩
  obtain ⟨A12, c12, rfl⟩ := Kd.R_slice (Kd.S_R hr12)
  have HB13 := Aside0.mk (below_then HB12.out HB12.out.size hb)
  clear hb hr12 HB12 HV11 HC1 HL1 hcut mz mz2 hx0 hx1
  have he := H8'.out
  unfold cutE at he
  simp only [Bool.and_eq_true, Bool.or_eq_true, beq_iff_eq, decide_eq_true_eq] at he
  obtain ⟨⟨⟨h8, h22⟩, hk⟩, hys⟩ := he
  subst h8 h22
  have z1 : ((ys.length : Int) == 0) = true := by rw [hys]; rfl
  have z2 : (ys.length == 0) = true := by rw [hys]; rfl
  clear hys
  go_wp2_with fail
  go_at_call 11
  with_reducible refine (waybilllaw09_num.calls 8 8 _ rfl).mono ?_
  rintro e w13 ⟨rfl, hd⟩
  have HB14 := Aside0.mk (below_then HB13.out HB13.out.size hd.below)
  clear hd HB13
  go_wp2_with fail
  go_at_call 11
  with_reducible refine (waybilllaw09_num.calls 22 22 _ rfl).mono ?_
  rintro e w14 ⟨rfl, hd⟩
  have HB15 := Aside0.mk (below_then HB14.out HB14.out.size hd.below)
  clear hd HB14
  rcases hk with ⟨hk0, hk1⟩ | ⟨hk0, hk1⟩
  · subst hk0 hk1
    go_wp2_with fail
    go_at_call 11
    with_reducible refine (waybilllaw09_num.calls 0 0 _ rfl).mono ?_
    rintro e w15 ⟨rfl, hd⟩
    have HB16 := Aside0.mk (below_then HB15.out HB15.out.size hd.below)
    clear hd HB15
    go_wp2_with fail
    go_ret
    exact ⟨rfl, HB16.out⟩
  · subst hk1
    have k0 : (n2 == 0) = false := beq_eq_false_iff_ne.mpr (by omega)
    have k1 : decide (n2 > 0) = true := decide_eq_true hk0
    clear hk0
    go_wp2_with fail
    go_at_call 11
    with_reducible refine (waybilllaw09_num.calls 8 8 _ rfl).mono ?_
    rintro e w15 ⟨rfl, hd⟩
    have HB16 := Aside0.mk (below_then HB15.out HB15.out.size hd.below)
    clear hd HB15
    go_wp2_with fail
    go_ret
    exact ⟨rfl, HB16.out⟩
end Go.Proofs.Ytkddlhcpplkpbaa.G
end
