/- SessionOwn: texts of this claim, packed: what the kit's print has written for it and own texts, without what its proof does not reach. -/
import Derived.Test.YthfjgfldmkdlnaaKSessionOwn11
set_option linter.unusedVariables false
set_option linter.unusedSimpArgs false
set_option linter.unusedSectionVars false
section
namespace Go.Proofs.Ythfjgfldmkdlnaa.G
open WB Go.RowKit Go.Proofs.YthfjgfldmkdlnaaW.PrintWords Go.Proofs.YthfjgfldmkdlnaaW.PrintLast Go.Proofs.YthfjgfldmkdlnaaW.PrintMore
attribute [local go_sem] max2_int min2_int max_two min_two max_three min_three max_four min_four   -- for this text's walks alone
set_option linter.unusedVariables false
set_option linter.unusedSimpArgs false
structure SameInv (w : World) (m : Int) (A : Option Addr) (c : Nat) (l : List S51) (m2 : Int) (A2 : Option Addr) (c2 : Nat) (l2 : List S51) (i : Nat) (wr : World) : Prop where
  b0 : wr.heap[w.heap.size]? = some (.cells #[.int .i64 m, .slice A l.length c] 36 (0, 0))
  b1 : wr.heap[w.heap.size + 1]? = some (.cells #[.int .i64 m2, .slice A2 l2.length c2] 36 (0, 0))
  bel : Below w.heap.size w wr
  one : ∀ j, j < i → oneD (l.getD j z51) (l2.getD j z51) = true
def waybillref22_Same.f (a0_0 : Int) (l0_1 : List (S51)) (a1_0 : Int) (l1_1 : List (S51)) : Option (Bool) := some (sameW a0_0 l0_1 a1_0 l1_1)
set_option maxHeartbeats 4000000 in
set_option maxRecDepth 100000 in
theorem waybillref22_Same.calls (a0_0 : Int) (A0_1 : Option Addr) (c0_1 : Nat) (l0_1 : List (S51)) (a1_0 : Int) (A1_1 : Option Addr) (c1_1 : Nat) (l1_1 : List (S51)) (r : Bool) (w : World) (hr0_1 : Kd.C k51 w A0_1 l0_1.length l0_1) (hc0_1 : l0_1.length ≤ c0_1) (hr1_1 : Kd.C k51 w A1_1 l1_1.length l1_1) (hc1_1 : l1_1.length ≤ c1_1) (h : waybillref22_Same.f a0_0 l0_1 a1_0 l1_1 = some r) :
    Calls Try.prog 15 #[.agg #[.int .i64 a0_0, .slice A0_1 l0_1.length c0_1], .agg #[.int .i64 a1_0, .slice A1_1 l1_1.length c1_1]] w fun e w' => e = .returned (.bool r) ∧ Below w.heap.size w w' := by
  unfold waybillref22_Same.f at h
  replace h := Option.some.inj h
  have HR := Aside0.mk hr0_1
  have HC := Aside0.mk hc0_1
  have HR1 := Aside0.mk hr1_1
  have HC1 := Aside0.mk hc1_1
  have hmax : l0_1.length ≤ 9223372036854775807 := hr0_1.2.1
  have HH := Aside0.mk h.symm
  clear hr0_1 hc0_1 hr1_1 hc1_1 h
  by_cases hm : a0_0 = a1_0
  · by_cases hl : l0_1.length = l1_1.length
    · have b0 : (a0_0 != a1_0) = false := by simpa using hm
      have b1 : ((l0_1.length : Int) != (l1_1.length : Int)) = false := by simp [hl]
      have HM := Aside0.mk hm
      have HL := Aside0.mk hl
      clear hm hl
      go_enter Try.func15, Try.ntmps15
      go_wp2
      go_loopw [5] (fun v5 wr => ∃ (i : Nat), v5 = .int .i64 i ∧ i ≤ l0_1.length ∧ Aside0 (SameInv w a0_0 A0_1 c0_1 l0_1 a1_0 A1_1 c1_1 l1_1 i wr)) (fun v5 _ => l0_1.length - (intOf v5).toNat)
      case atStart =>
        exact ⟨0, rfl, by omega, ⟨blk_alloc (heap_new1 w _) _, heap_new2 w _ _, below_alloc (below_alloc (Below.refl _ _) _) _, fun j hj => by omega⟩⟩
      case round =>
        obtain ⟨i, rfl, hi, HI⟩ := hrel
        have y0 : wr.cell? ⟨w.heap.size, 0, none⟩ = some (.int .i64 a0_0) := (blk_cell HI.out.b0 0).trans rfl
        have y1 : wr.cell? ⟨w.heap.size, 1, none⟩ = some (.slice A0_1 l0_1.length c0_1) := (blk_cell HI.out.b0 1).trans rfl
        have z0 : wr.cell? ⟨w.heap.size + 1, 0, none⟩ = some (.int .i64 a1_0) := (blk_cell HI.out.b1 0).trans rfl
        have z1 : wr.cell? ⟨w.heap.size + 1, 1, none⟩ = some (.slice A1_1 l1_1.length c1_1) := (blk_cell HI.out.b1 1).trans rfl
        have hw1 : w.heap.size + 1 < wr.heap.size := blk_lt HI.out.b1
        by_cases hlt : i < l0_1.length
        · have c1 : decide ((i : Int) < (l0_1.length : Int)) = true := decide_eq_true (by omega)
          have c1' : decide (i < l0_1.length) = true := decide_eq_true hlt
          have hlt2 : i < l1_1.length := by rw [← HL.out]; exact hlt
          obtain ⟨ad, A2, c2, e1, q0, q1, q2, q3, q4⟩ := at_T51 (Kd.C_below HR.out HI.out.bel) (i : Int) (by omega) (by omega)
          obtain ⟨ad', A3, c3, e2, p0, p1, p2, p3, p4⟩ := at_T51 (Kd.C_below HR1.out HI.out.bel) (i : Int) (by omega) (by omega)
          simp only [Int.toNat_natCast] at q0 q1 q2 p0 p1 p2
          have hrd : rd_T51 l0_1 (i : Int) = l0_1.getD i z51 := by simp [rd_T51]
          have hrd' : rd_T51 l1_1 (i : Int) = l1_1.getD i z51 := by simp [rd_T51]
          rw [hrd] at q0 q1 q2 q3 q4
          rw [hrd'] at p0 p1 p2 p3 p4
          obtain ⟨d, hd⟩ : ∃ d, d = l0_1.getD i z51 := ⟨_, rfl⟩
          obtain ⟨d', hd'⟩ : ∃ d, d = l1_1.getD i z51 := ⟨_, rfl⟩
          rw [← hd] at q0 q1 q2 q3 q4
          rw [← hd'] at p0 p1 p2 p3 p4
          have HD := Aside0.mk hd
          have HD' := Aside0.mk hd'
          have Q3 := Aside0.mk q3
          have Q4 := Aside0.mk q4
          have P3 := Aside0.mk p3
          have P4 := Aside0.mk p4
          have g0 := World.block_lt_of_cell? _ _ q0
          have g1 := World.block_lt_of_cell? _ _ p0
          simp only [add_block] at g0 g1
          have hw0 : w.heap.size < wr.heap.size := by omega
          have n1 : ¬ w.heap.size = wr.heap.size := by omega
          have n2 : ¬ w.heap.size + 1 = wr.heap.size := by omega
          have n3 : ¬ w.heap.size = wr.heap.size + 1 := by omega
          have n4 : ¬ ad.block = wr.heap.size := by omega
          have n5 : ¬ ad.block = wr.heap.size + 1 := by omega
          have n6 : ¬ ad'.block = wr.heap.size := by omega
          have n7 : ¬ ad'.block = wr.heap.size + 1 := by omega
          have n8 : ¬ (ad.add (i * 3)).block = wr.heap.size := by rw [add_block]; exact n4
          have n9 : ¬ (ad.add (i * 3)).block = wr.heap.size + 1 := by rw [add_block]; exact n5
          have n10 : ¬ (ad'.add (i * 3)).block = wr.heap.size := by rw [add_block]; exact n6
          have n11 : ¬ (ad'.add (i * 3)).block = wr.heap.size + 1 := by rw [add_block]; exact n7
          have l1 : (ad.add (i * 3)).block < wr.heap.size := by rw [add_block]; exact g0
          have l2 : (ad.add (i * 3)).block < wr.heap.size + 1 := by omega
          have l3 : (ad'.add (i * 3)).block < wr.heap.size := by rw [add_block]; exact g1
          have l4 : (ad'.add (i * 3)).block < wr.heap.size + 1 := by omega
          clear q3 q4 p3 p4 hrd hrd' hd hd'
          subst e1
          subst e2
          go_wp2
          go_region
          all_goals (
            have hb : ∀ o1 o2, Below w.heap.size w ((wr.alloc o1).alloc o2).drew := fun o1 o2 => below_drew (below_alloc (below_alloc HI.out.bel o1) o2)
            have HBB := Aside0.mk hb
            clear hb
            by_cases k1 : d.f0 = d'.f0
            · have k1' : (d.f0 != d'.f0) = false := by simpa using k1
              by_cases k2 : d.f1 = d'.f1
              · have k2' : (d.f1 != d'.f1) = false := by simpa using k2
                have K1 := Aside0.mk k1
                have K2 := Aside0.mk k2
                clear k1 k2
                have hcv1 := fun o1 o2 => Kd.C_string (P := Try.prog) (A := A2) (c := c2) Try.underlying49 Try.underlying5 Try.underlying9 (Kd.C_below Q4.out (below_drew (below_alloc0 (below_alloc0 (Below.refl wr.heap.size wr) (Nat.le_refl _) o1) (by simp) o2)))
                have hcv2 := fun o1 o2 => Kd.C_string (P := Try.prog) (A := A3) (c := c3) Try.underlying49 Try.underlying5 Try.underlying9 (Kd.C_below P4.out (below_drew (below_alloc0 (below_alloc0 (Below.refl wr.heap.size wr) (Nat.le_refl _) o1) (by simp) o2)))
                by_cases k3 : (strOfNums d.f2).toList = (strOfNums d'.f2).toList
                · have k3' : (!((strOfNums d.f2).toList == (strOfNums d'.f2).toList)) = false := by simp [k3]
                  have HO : Aside0 (oneD (l0_1.getD i z51) (l1_1.getD i z51) = true) := ⟨by rw [← HD.out, ← HD'.out]; unfold oneD; rw [decide_eq_true k3, K1.out, K2.out]; simp⟩
                  clear k3
                  go_wp2
                  refine ⟨⟨i + 1, by simp, by omega, ⟨?_, ?_, HBB.out _ _, fun j hj => ?_⟩⟩, by simp [intOf]; omega⟩
                  · exact blk_drew (blk_alloc (blk_alloc HI.out.b0 _) _)
                  · exact blk_drew (blk_alloc (blk_alloc HI.out.b1 _) _)
                  · rcases Nat.lt_or_ge j i with h1 | h1
                    · exact HI.out.one j h1
                    · obtain rfl : j = i := by omega
                      exact HO.out
                · have k3' : (!((strOfNums d.f2).toList == (strOfNums d'.f2).toList)) = true := by simpa using k3
                  have HO : Aside0 (oneD (l0_1.getD i z51) (l1_1.getD i z51) = false) := ⟨by rw [← HD.out, ← HD'.out]; unfold oneD; rw [decide_eq_false k3]; simp⟩
                  clear k3
                  go_wp2
                  have HF : r = false := by rw [HH.out]; exact same_no hlt HO.out
                  go_ret
                  exact ⟨by simp [HF], HBB.out _ _⟩
              · have k2' : (d.f1 != d'.f1) = true := by simpa using k2
                have HO : Aside0 (oneD (l0_1.getD i z51) (l1_1.getD i z51) = false) := ⟨by rw [← HD.out, ← HD'.out]; unfold oneD; rw [beq_eq_false_iff_ne.2 k2]; simp⟩
                clear k1 k2
                go_wp2
                have HF : r = false := by rw [HH.out]; exact same_no hlt HO.out
                go_ret
                exact ⟨by simp [HF], HBB.out _ _⟩
            · have k1' : (d.f0 != d'.f0) = true := by simpa using k1
              have HO : Aside0 (oneD (l0_1.getD i z51) (l1_1.getD i z51) = false) := ⟨by rw [← HD.out, ← HD'.out]; unfold oneD; rw [beq_eq_false_iff_ne.2 k1]; simp⟩
              clear k1
              go_wp2
              have HF : r = false := by rw [HH.out]; exact same_no hlt HO.out
              go_ret
              exact ⟨by simp [HF], HBB.out _ _⟩)
        · have c1 : decide ((i : Int) < (l0_1.length : Int)) = false := decide_eq_false (by omega)
          have c1' : decide (i < l0_1.length) = false := decide_eq_false hlt
          have HT : Aside0 (r = true) := ⟨by
            rw [HH.out]
            unfold sameW
            rw [decide_eq_true HM.out, decide_eq_true HL.out, Bool.true_and, Bool.true_and, List.all_eq_true]
            exact fun j hj => HI.out.one j (by have := List.mem_range.1 hj; omega)⟩
          go_wp2
          go_ret
          exact ⟨by simp [HT.out], HI.out.bel⟩
    · have b0 : (a0_0 != a1_0) = false := by simpa using hm
      have b1 : ((l0_1.length : Int) != (l1_1.length : Int)) = true := by
        rw [bne_iff_ne]
        omega
      have HT : Aside0 (r = false) := ⟨by rw [HH.out]; unfold sameW; rw [decide_eq_false hl, Bool.false_and, Bool.and_false]⟩
      rw [HT.out]
      clear hm hl
      go_enter Try.func15, Try.ntmps15
      go_wp2
      go_ret
      exact ⟨rfl, below_alloc (below_alloc (Below.refl _ _) _) _⟩
  · have b0 : (a0_0 != a1_0) = true := by simpa using hm
    have HT : Aside0 (r = false) := ⟨by rw [HH.out]; unfold sameW; rw [decide_eq_false hm, Bool.false_and]⟩
    rw [HT.out]
    clear hm
    go_enter Try.func15, Try.ntmps15
    go_wp2
    go_ret
    exact ⟨rfl, below_alloc (below_alloc (Below.refl _ _) _) _⟩
end Go.Proofs.Ythfjgfldmkdlnaa.G
end
