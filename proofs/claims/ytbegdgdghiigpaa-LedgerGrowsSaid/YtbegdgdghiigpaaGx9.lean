-- Made by wip/tools/xprint.py (over the kit's print program) for this claim.
import Derived.Test.YtbegdgdghiigpaaGx0
import Derived.Test.YtbegdgdghiigpaaGx8
namespace Go.Proofs.Ytbegdgdghiigpaa.G
open WB Go.RowKit Go.Proofs.YtbegdgdghiigpaaW.PrintWords Go.Proofs.YtbegdgdghiigpaaW.PrintLast Go.Proofs.YtbegdgdghiigpaaW.PrintMore
attribute [local go_sem] max2_int min2_int max_two min_two max_three min_three max_four min_four   -- for this text's walks alone
set_option linter.unusedVariables false
set_option linter.unusedSimpArgs false

/-! ### ledger_book_change: function 31 -/
set_option maxHeartbeats 4000000 in
set_option maxRecDepth 100000 in
theorem book_change (base g gb c : Nat) (vl : Value) (bs : List Int) (L : List S44) (o : S35) (w : World) (hB : Book w base g gb c vl bs L) (ho : OpOk o) (hb : BalOk bs) :
    Calls Try.prog 31 #[.pointer (some ⟨g, 0, none⟩), .agg #[.int .i64 o.f0, .int .i64 o.f1, .int .i64 o.f2, .int .i64 o.f3]] w fun e w' => e = .returned (.int .i64 (changeL bs o).2) ∧ Book w' base g gb c vl (changeL bs o).1 L ∧ w.grownBy w' (some gb) := by
  obtain ⟨wh, ke, ot, am⟩ := o
  obtain ⟨hw1, hw2, hk1, hk2, ho1, ho2, ha1, ha2⟩ := ho
  dsimp only at hw1 hw2 hk1 hk2 ho1 ho2 ha1 ha2
  obtain ⟨k1, rfl⟩ := Int.eq_ofNat_of_zero_le hk1
  obtain ⟨k2, rfl⟩ := Int.eq_ofNat_of_zero_le ho1
  have HBO := Aside0.mk hb
  have hl : k1 < bs.length := by rw [hb.len]; omega
  have HGB : Aside0 (gb < w.heap.size) := ⟨Kd.R_lt hB.rb gb rfl⟩
  have HB := Aside0.mk (hB.below (below_alloc (Below.refl _ _) (.cells #[.int .i64 wh, .int .i64 k1, .int .i64 k2, .int .i64 am] 35)))
  have HG0 := Aside0.mk (World.grownBy_alloc w (.cells #[.int .i64 wh, .int .i64 k1, .int .i64 k2, .int .i64 am] 35) (some gb))
  have BK0 := Aside0.mk (heap_new1 w (.cells #[.int .i64 wh, .int .i64 k1, .int .i64 k2, .int .i64 am] 35))
  have hneg : IntKind.i64.wrap (-am) = -am := by rw [IntKind.wrap_i64]; omega
  clear hB hb hk1 ho1
  have hc : wh = 1 ∨ wh = 2 ∨ 3 ≤ wh := by omega
  rcases hc with rfl | rfl | hc
  · cases hT : (turnL bs k1 am).2 with
    | true =>
      have HCE : Aside0 (changeL bs ⟨1, k1, k2, am⟩ = ((turnL bs k1 am).1, 0)) := ⟨by unfold changeL; dsimp only; rw [if_pos rfl, Int.toNat_natCast, if_pos hT]⟩
      have HTT := Aside0.mk hT
      clear hT
      go_enter Try.func31, Try.ntmps31
      go_wp2_with fail
      go_at_call 33
      with_reducible refine (book_turn base g gb c vl bs L k1 am _ HB.out (by have := HBO.out.len; omega) (HBO.out.get k1) ⟨by omega, by omega⟩).mono ?_
      rintro e w1 ⟨rfl, hB, hg⟩
      have HB1 := Aside0.mk hB
      have HG1 := Aside0.mk (World.grownBy.trans HG0.out hg)
      have BK1 := Aside0.mk ((hg.block w.heap.size (blk_lt BK0.out) (by have := HGB.out; simp; omega)).trans BK0.out)
      clear hB hg
      have hlt1 : w.heap.size < w1.heap.size := blk_lt BK1.out
      have p10 : w1.cell? ⟨w.heap.size, 0, none⟩ = some (.int .i64 1) := (blk_cell BK1.out 0).trans rfl
      have p11 : w1.cell? ⟨w.heap.size, 1, none⟩ = some (.int .i64 k1) := (blk_cell BK1.out 1).trans rfl
      have p12 : w1.cell? ⟨w.heap.size, 2, none⟩ = some (.int .i64 k2) := (blk_cell BK1.out 2).trans rfl
      have p13 : w1.cell? ⟨w.heap.size, 3, none⟩ = some (.int .i64 am) := (blk_cell BK1.out 3).trans rfl
      rw [HTT.out]
      go_wp2
      go_ret
      exact ⟨by rw [HCE.out]; rfl, by rw [HCE.out]; exact HB1.out, HG1.out⟩
    | false =>
      have HCE : Aside0 (changeL bs ⟨1, k1, k2, am⟩ = (bs, 1) ∧ (turnL bs k1 am).1 = bs) := ⟨by unfold changeL; dsimp only; rw [if_pos rfl, Int.toNat_natCast, if_neg (by rw [hT]; simp)], turn_no hT⟩
      have HTT := Aside0.mk hT
      clear hT
      go_enter Try.func31, Try.ntmps31
      go_wp2_with fail
      go_at_call 33
      with_reducible refine (book_turn base g gb c vl bs L k1 am _ HB.out (by have := HBO.out.len; omega) (HBO.out.get k1) ⟨by omega, by omega⟩).mono ?_
      rintro e w1 ⟨rfl, hB, hg⟩
      have HB1 := Aside0.mk hB
      have HG1 := Aside0.mk (World.grownBy.trans HG0.out hg)
      have BK1 := Aside0.mk ((hg.block w.heap.size (blk_lt BK0.out) (by have := HGB.out; simp; omega)).trans BK0.out)
      clear hB hg
      have hlt1 : w.heap.size < w1.heap.size := blk_lt BK1.out
      have p10 : w1.cell? ⟨w.heap.size, 0, none⟩ = some (.int .i64 1) := (blk_cell BK1.out 0).trans rfl
      have p11 : w1.cell? ⟨w.heap.size, 1, none⟩ = some (.int .i64 k1) := (blk_cell BK1.out 1).trans rfl
      have p12 : w1.cell? ⟨w.heap.size, 2, none⟩ = some (.int .i64 k2) := (blk_cell BK1.out 2).trans rfl
      have p13 : w1.cell? ⟨w.heap.size, 3, none⟩ = some (.int .i64 am) := (blk_cell BK1.out 3).trans rfl
      rw [HTT.out]
      go_wp2
      go_ret
      exact ⟨by rw [HCE.out.1]; rfl, by rw [HCE.out.1]; have := HB1.out; rwa [HCE.out.2] at this, HG1.out⟩
  · cases hT : (turnL bs k1 (-am)).2 with
    | false =>
      have HCE : Aside0 (changeL bs ⟨2, k1, k2, am⟩ = (bs, 1) ∧ (turnL bs k1 (-am)).1 = bs) := ⟨by unfold changeL; dsimp only; rw [if_neg (by decide), if_pos rfl, Int.toNat_natCast, if_neg (by rw [hT]; simp)], turn_no hT⟩
      have HTT := Aside0.mk hT
      clear hT
      go_enter Try.func31, Try.ntmps31
      go_wp2_with fail
      go_at_call 33
      with_reducible refine (book_turn base g gb c vl bs L k1 (-am) _ HB.out (by have := HBO.out.len; omega) (HBO.out.get k1) ⟨by omega, by omega⟩).mono ?_
      rintro e w1 ⟨rfl, hB, hg⟩
      have HB1 := Aside0.mk hB
      have HG1 := Aside0.mk (World.grownBy.trans HG0.out hg)
      have BK1 := Aside0.mk ((hg.block w.heap.size (blk_lt BK0.out) (by have := HGB.out; simp; omega)).trans BK0.out)
      clear hB hg
      have hlt1 : w.heap.size < w1.heap.size := blk_lt BK1.out
      have p10 : w1.cell? ⟨w.heap.size, 0, none⟩ = some (.int .i64 2) := (blk_cell BK1.out 0).trans rfl
      have p11 : w1.cell? ⟨w.heap.size, 1, none⟩ = some (.int .i64 k1) := (blk_cell BK1.out 1).trans rfl
      have p12 : w1.cell? ⟨w.heap.size, 2, none⟩ = some (.int .i64 k2) := (blk_cell BK1.out 2).trans rfl
      have p13 : w1.cell? ⟨w.heap.size, 3, none⟩ = some (.int .i64 am) := (blk_cell BK1.out 3).trans rfl
      rw [HTT.out]
      go_wp2
      go_ret
      exact ⟨by rw [HCE.out.1]; rfl, by rw [HCE.out.1]; have := HB1.out; rwa [HCE.out.2] at this, HG1.out⟩
    | true =>
      obtain ⟨b1, hb1⟩ : ∃ b1, b1 = (turnL bs k1 (-am)).1 := ⟨_, rfl⟩
      have HB1O : Aside0 (BalOk b1) := ⟨by rw [hb1]; exact turn_ok HBO.out _ _⟩
      have HTT := Aside0.mk hT
      have HBE := Aside0.mk hb1
      cases hS : (turnL b1 k2 am).2 with
      | true =>
        have HCE : Aside0 (changeL bs ⟨2, k1, k2, am⟩ = ((turnL b1 k2 am).1, 0)) := ⟨by unfold changeL; dsimp only; rw [if_neg (by decide), if_pos rfl, Int.toNat_natCast, Int.toNat_natCast, if_pos hT, ← hb1, if_pos hS]⟩
        have HSS := Aside0.mk hS
        clear hT hS hb1
        go_enter Try.func31, Try.ntmps31
        go_wp2_with fail
        go_at_call 33
        with_reducible refine (book_turn base g gb c vl bs L k1 (-am) _ HB.out (by have := HBO.out.len; omega) (HBO.out.get k1) ⟨by omega, by omega⟩).mono ?_
        rintro e w1 ⟨rfl, hB, hg⟩
        have HB1 := Aside0.mk hB
        have HG1 := Aside0.mk (World.grownBy.trans HG0.out hg)
        have BK1 := Aside0.mk ((hg.block w.heap.size (blk_lt BK0.out) (by have := HGB.out; simp; omega)).trans BK0.out)
        clear hB hg
        have hlt1 : w.heap.size < w1.heap.size := blk_lt BK1.out
        have p10 : w1.cell? ⟨w.heap.size, 0, none⟩ = some (.int .i64 2) := (blk_cell BK1.out 0).trans rfl
        have p11 : w1.cell? ⟨w.heap.size, 1, none⟩ = some (.int .i64 k1) := (blk_cell BK1.out 1).trans rfl
        have p12 : w1.cell? ⟨w.heap.size, 2, none⟩ = some (.int .i64 k2) := (blk_cell BK1.out 2).trans rfl
        have p13 : w1.cell? ⟨w.heap.size, 3, none⟩ = some (.int .i64 am) := (blk_cell BK1.out 3).trans rfl
        rw [HTT.out]
        rw [← HBE.out] at HB1
        go_wp2_with fail
        go_at_call 33
        with_reducible refine (book_turn base g gb c vl b1 L k2 am _ HB1.out (by have := HB1O.out.len; omega) (HB1O.out.get k2) ⟨by omega, by omega⟩).mono ?_
        rintro e w2 ⟨rfl, hB, hg⟩
        have HB2 := Aside0.mk hB
        have HG2 := Aside0.mk (World.grownBy.trans HG1.out hg)
        have BK2 := Aside0.mk ((hg.block w.heap.size (blk_lt BK1.out) (by have := HGB.out; simp; omega)).trans BK1.out)
        clear hB hg
        have hlt2 : w.heap.size < w2.heap.size := blk_lt BK2.out
        have p20 : w2.cell? ⟨w.heap.size, 0, none⟩ = some (.int .i64 2) := (blk_cell BK2.out 0).trans rfl
        have p21 : w2.cell? ⟨w.heap.size, 1, none⟩ = some (.int .i64 k1) := (blk_cell BK2.out 1).trans rfl
        have p22 : w2.cell? ⟨w.heap.size, 2, none⟩ = some (.int .i64 k2) := (blk_cell BK2.out 2).trans rfl
        have p23 : w2.cell? ⟨w.heap.size, 3, none⟩ = some (.int .i64 am) := (blk_cell BK2.out 3).trans rfl
        rw [HSS.out]
        go_wp2
        go_ret
        exact ⟨by rw [HCE.out]; rfl, by rw [HCE.out]; exact HB2.out, HG2.out⟩
      | false =>
        have HCE : Aside0 (changeL bs ⟨2, k1, k2, am⟩ = ((turnL b1 k1 am).1, 1) ∧ (turnL b1 k2 am).1 = b1) := ⟨by unfold changeL; dsimp only; rw [if_neg (by decide), if_pos rfl, Int.toNat_natCast, Int.toNat_natCast, if_pos hT, ← hb1, if_neg (by rw [hS]; simp)], turn_no hS⟩
        have HSS := Aside0.mk hS
        clear hT hS hb1
        go_enter Try.func31, Try.ntmps31
        go_wp2_with fail
        go_at_call 33
        with_reducible refine (book_turn base g gb c vl bs L k1 (-am) _ HB.out (by have := HBO.out.len; omega) (HBO.out.get k1) ⟨by omega, by omega⟩).mono ?_
        rintro e w1 ⟨rfl, hB, hg⟩
        have HB1 := Aside0.mk hB
        have HG1 := Aside0.mk (World.grownBy.trans HG0.out hg)
        have BK1 := Aside0.mk ((hg.block w.heap.size (blk_lt BK0.out) (by have := HGB.out; simp; omega)).trans BK0.out)
        clear hB hg
        have hlt1 : w.heap.size < w1.heap.size := blk_lt BK1.out
        have p10 : w1.cell? ⟨w.heap.size, 0, none⟩ = some (.int .i64 2) := (blk_cell BK1.out 0).trans rfl
        have p11 : w1.cell? ⟨w.heap.size, 1, none⟩ = some (.int .i64 k1) := (blk_cell BK1.out 1).trans rfl
        have p12 : w1.cell? ⟨w.heap.size, 2, none⟩ = some (.int .i64 k2) := (blk_cell BK1.out 2).trans rfl
        have p13 : w1.cell? ⟨w.heap.size, 3, none⟩ = some (.int .i64 am) := (blk_cell BK1.out 3).trans rfl
        rw [HTT.out]
        rw [← HBE.out] at HB1
        go_wp2_with fail
        go_at_call 33
        with_reducible refine (book_turn base g gb c vl b1 L k2 am _ HB1.out (by have := HB1O.out.len; omega) (HB1O.out.get k2) ⟨by omega, by omega⟩).mono ?_
        rintro e w2 ⟨rfl, hB, hg⟩
        have HB2 := Aside0.mk hB
        have HG2 := Aside0.mk (World.grownBy.trans HG1.out hg)
        have BK2 := Aside0.mk ((hg.block w.heap.size (blk_lt BK1.out) (by have := HGB.out; simp; omega)).trans BK1.out)
        clear hB hg
        have hlt2 : w.heap.size < w2.heap.size := blk_lt BK2.out
        have p20 : w2.cell? ⟨w.heap.size, 0, none⟩ = some (.int .i64 2) := (blk_cell BK2.out 0).trans rfl
        have p21 : w2.cell? ⟨w.heap.size, 1, none⟩ = some (.int .i64 k1) := (blk_cell BK2.out 1).trans rfl
        have p22 : w2.cell? ⟨w.heap.size, 2, none⟩ = some (.int .i64 k2) := (blk_cell BK2.out 2).trans rfl
        have p23 : w2.cell? ⟨w.heap.size, 3, none⟩ = some (.int .i64 am) := (blk_cell BK2.out 3).trans rfl
        rw [HSS.out]
        rw [HCE.out.2] at HB2
        go_wp2_with fail
        go_at_call 33
        with_reducible refine (book_turn base g gb c vl b1 L k1 am _ HB2.out (by have := HB1O.out.len; omega) (HB1O.out.get k1) ⟨by omega, by omega⟩).mono ?_
        rintro e w3 ⟨rfl, hB, hg⟩
        have HB3 := Aside0.mk hB
        have HG3 := Aside0.mk (World.grownBy.trans HG2.out hg)
        have BK3 := Aside0.mk ((hg.block w.heap.size (blk_lt BK2.out) (by have := HGB.out; simp; omega)).trans BK2.out)
        clear hB hg
        have hlt3 : w.heap.size < w3.heap.size := blk_lt BK3.out
        have p30 : w3.cell? ⟨w.heap.size, 0, none⟩ = some (.int .i64 2) := (blk_cell BK3.out 0).trans rfl
        have p31 : w3.cell? ⟨w.heap.size, 1, none⟩ = some (.int .i64 k1) := (blk_cell BK3.out 1).trans rfl
        have p32 : w3.cell? ⟨w.heap.size, 2, none⟩ = some (.int .i64 k2) := (blk_cell BK3.out 2).trans rfl
        have p33 : w3.cell? ⟨w.heap.size, 3, none⟩ = some (.int .i64 am) := (blk_cell BK3.out 3).trans rfl
        go_wp2
        go_ret
        exact ⟨by rw [HCE.out.1]; rfl, by rw [HCE.out.1]; exact HB3.out, HG3.out⟩
  · have HCE : Aside0 (changeL bs ⟨wh, k1, k2, am⟩ = (bs, 0)) := ⟨by unfold changeL; dsimp only; rw [if_neg (by omega), if_neg (by omega)]⟩
    have t1 : (wh == 1) = false := by simp; omega
    have t2 : (wh == 2) = false := by simp; omega
    have t3 : decide (wh ≤ 2) = false := decide_eq_false (by omega)
    go_enter Try.func31, Try.ntmps31
    go_wp2
    go_ret
    exact ⟨by rw [HCE.out]; rfl, by rw [HCE.out]; exact HB.out, HG0.out⟩

end Go.Proofs.Ytbegdgdghiigpaa.G
