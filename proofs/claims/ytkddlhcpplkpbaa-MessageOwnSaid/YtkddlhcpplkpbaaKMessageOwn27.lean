/- MessageOwn: texts of this claim, packed: what the kit's print has written for it and own texts, without what its proof does not reach. -/
import Derived.Test.YtkddlhcpplkpbaaKMessageOwn13
import Derived.Test.YtkddlhcpplkpbaaKMessageOwn14
import Derived.Test.YtkddlhcpplkpbaaKMessageOwn15
import Derived.Test.YtkddlhcpplkpbaaKMessageOwn17
import Derived.Test.YtkddlhcpplkpbaaKMessageOwn25
set_option linter.unusedVariables false
set_option linter.unusedSimpArgs false
set_option linter.unusedSectionVars false
section
namespace Go.Proofs.Ytkddlhcpplkpbaa.G
open WB Go.RowKit Go.Proofs.YtkddlhcpplkpbaaW.PrintWords Go.Proofs.YtkddlhcpplkpbaaW.PrintLast Go.Proofs.YtkddlhcpplkpbaaW.PrintMore
attribute [local go_sem] max2_int min2_int max_two min_two max_three min_three max_four min_four   -- for this text's walks alone
set_option linter.unusedVariables false
set_option linter.unusedSimpArgs false
def waybillref09_form.j0 : Nat → Int → Bool → Option (ByteArray)
  | 0, _, _ => none
  | k + 1, x3, x4 => if x4 = true then (some (⟨#[99, 110]⟩ : ByteArray)) else (if x3 = 2 then (some (⟨#[99, 105, 115, 110]⟩ : ByteArray)) else (if x3 = 3 then (some (⟨#[99, 105, 115, 113, 109, 108, 100]⟩ : ByteArray)) else (if x3 = 4 then (some (⟨#[99, 105, 115, 113, 111, 112, 100]⟩ : ByteArray)) else (if x3 = 5 then (some (⟨#[99, 105, 115, 113, 109]⟩ : ByteArray)) else (if x3 = 6 then (some (⟨#[99, 105, 115, 113]⟩ : ByteArray)) else (if x3 = 7 then (some (⟨#[99, 105, 115, 113]⟩ : ByteArray)) else (some (⟨#[]⟩ : ByteArray))))))))
def waybillref09_form.f (k : Nat) (a0 : Int) : Option (ByteArray) := if a0 = 1 then (waybillref09_form.j0 k a0 (a0 == 1)) else (waybillref09_form.j0 k a0 (a0 == 8))
set_option maxHeartbeats 8000000 in
set_option maxRecDepth 100000 in
theorem waybillref09_form.calls (k : Nat) (a0 : Int) (r : ByteArray) (w : World) (h : waybillref09_form.f k a0 = some r) :
    Calls Try.prog 40 #[.int .i64 a0] w fun e w' => e = .returned (.string r) ∧ Drawn0 w w' := by
  have H : (if a0 = 1 then (waybillref09_form.j0 k a0 (a0 == 1)) else (waybillref09_form.j0 k a0 (a0 == 8))) = some r := h
  clear h
  have HC2 := Aside0.mk H
  clear H
  go_enter Try.func40, Try.ntmps40
  go_upto_if 4 with (fail)
  go_cut [4] (fun v4 wc => ∃ (kq : Nat) (x4_1 : Bool), v4 = .bool x4_1 ∧ Aside0 (waybillref09_form.j0 kq a0 x4_1 = some r) ∧ Aside0 (kq ≤ k) ∧ Drawn0 w wc)
  case first =>
    have H := HC2.out
    clear HC2
    by_cases c3 : a0 = 1
    · rw [if_pos c3] at H
      have c3b0 : (a0 == 1) = true := beq_iff_eq.mpr c3
      have c3b1 : (a0 != 1) = false := bne_eq_false_iff_eq.mpr c3
      clear c3
      (first | rw [c3b0] | (simp only [i64_w, i32_w]; rw [c3b0]) | skip)
      have H' := Aside0.mk H
      clear H
      go_wp2
      go_meet
      case rel => exact ⟨_, ((a0 == 1)), (by first | rfl | (simp; done) | (simp [*]; done)), H', ⟨by first | omega | exact Nat.le_refl _⟩, by repeat (first | exact Drawn0.refl _ | apply Drawn0.step)⟩
    · rw [if_neg c3] at H
      have c3b0 : (a0 == 1) = false := beq_eq_false_iff_ne.mpr c3
      have c3b1 : (a0 != 1) = true := bne_iff_ne.mpr c3
      (first | rw [c3b0] | (simp only [i64_w, i32_w]; rw [c3b0]) | skip)
      have H' := Aside0.mk H
      clear H
      go_wp2
      go_meet
      case rel => exact ⟨_, ((a0 == 8)), (by first | rfl | (simp; done) | (simp [*]; done)), H', ⟨by first | omega | exact Nat.le_refl _⟩, by repeat (first | exact Drawn0.refl _ | apply Drawn0.step)⟩
  case rest =>
    clear HC2
    try clear p2
    try clear c3
    try clear c3b0
    try clear c3b1
    obtain ⟨kq, x4_1, rfl, HA, HJ1, ⟨mc1, rfl⟩⟩ := hcut
    cases kq with
    | zero => exact absurd HA.out (by simp [waybillref09_form.j0])
    | succ kj1 =>
      have H := HA.out
      clear HA
      simp only [waybillref09_form.j0] at H
      by_cases c4 : x4_1 = true
      · subst c4
        have H1 : (some (⟨#[99, 110]⟩ : ByteArray)) = some r := by rw [if_pos rfl] at H; exact H
        clear H
        have H := H1
        clear H1
        obtain rfl := Option.some.inj H
        simp only [Option.some.injEq, Prod.mk.injEq] at H
        obtain ⟨rfl⟩ := H
        go_wp2
        go_ret
        exact ⟨by first | rfl | (simp; done) | (simp [*]; done), by repeat (first | exact Drawn0.refl _ | apply Drawn0.step)⟩
      · replace c4 := Bool.eq_false_iff.mpr c4
        subst c4
        have H1 : (if a0 = 2 then (some (⟨#[99, 105, 115, 110]⟩ : ByteArray)) else (if a0 = 3 then (some (⟨#[99, 105, 115, 113, 109, 108, 100]⟩ : ByteArray)) else (if a0 = 4 then (some (⟨#[99, 105, 115, 113, 111, 112, 100]⟩ : ByteArray)) else (if a0 = 5 then (some (⟨#[99, 105, 115, 113, 109]⟩ : ByteArray)) else (if a0 = 6 then (some (⟨#[99, 105, 115, 113]⟩ : ByteArray)) else (if a0 = 7 then (some (⟨#[99, 105, 115, 113]⟩ : ByteArray)) else (some (⟨#[]⟩ : ByteArray)))))))) = some r := by rw [if_neg (show ¬ (false = true) by decide)] at H; exact H
        clear H
        have H := H1
        clear H1
        by_cases c5 : a0 = 2
        · rw [if_pos c5] at H
          have c5b0 : (a0 == 2) = true := beq_iff_eq.mpr c5
          have c5b1 : (a0 != 2) = false := bne_eq_false_iff_eq.mpr c5
          clear c5
          obtain rfl := Option.some.inj H
          simp only [Option.some.injEq, Prod.mk.injEq] at H
          obtain ⟨rfl⟩ := H
          go_wp2
          go_ret
          exact ⟨by first | rfl | (simp; done) | (simp [*]; done), by repeat (first | exact Drawn0.refl _ | apply Drawn0.step)⟩
        · rw [if_neg c5] at H
          have c5b0 : (a0 == 2) = false := beq_eq_false_iff_ne.mpr c5
          have c5b1 : (a0 != 2) = true := bne_iff_ne.mpr c5
          by_cases c6 : a0 = 3
          · rw [if_pos c6] at H
            have c6b0 : (a0 == 3) = true := beq_iff_eq.mpr c6
            have c6b1 : (a0 != 3) = false := bne_eq_false_iff_eq.mpr c6
            clear c6
            obtain rfl := Option.some.inj H
            simp only [Option.some.injEq, Prod.mk.injEq] at H
            obtain ⟨rfl⟩ := H
            go_wp2
            go_ret
            exact ⟨by first | rfl | (simp; done) | (simp [*]; done), by repeat (first | exact Drawn0.refl _ | apply Drawn0.step)⟩
          · rw [if_neg c6] at H
            have c6b0 : (a0 == 3) = false := beq_eq_false_iff_ne.mpr c6
            have c6b1 : (a0 != 3) = true := bne_iff_ne.mpr c6
            by_cases c7 : a0 = 4
            · rw [if_pos c7] at H
              have c7b0 : (a0 == 4) = true := beq_iff_eq.mpr c7
              have c7b1 : (a0 != 4) = false := bne_eq_false_iff_eq.mpr c7
              clear c7
              obtain rfl := Option.some.inj H
              simp only [Option.some.injEq, Prod.mk.injEq] at H
              obtain ⟨rfl⟩ := H
              go_wp2
              go_ret
              exact ⟨by first | rfl | (simp; done) | (simp [*]; done), by repeat (first | exact Drawn0.refl _ | apply Drawn0.step)⟩
            · rw [if_neg c7] at H
              have c7b0 : (a0 == 4) = false := beq_eq_false_iff_ne.mpr c7
              have c7b1 : (a0 != 4) = true := bne_iff_ne.mpr c7
              by_cases c8 : a0 = 5
              · rw [if_pos c8] at H
                have c8b0 : (a0 == 5) = true := beq_iff_eq.mpr c8
                have c8b1 : (a0 != 5) = false := bne_eq_false_iff_eq.mpr c8
                clear c8
                obtain rfl := Option.some.inj H
                simp only [Option.some.injEq, Prod.mk.injEq] at H
                obtain ⟨rfl⟩ := H
                go_wp2
                go_ret
                exact ⟨by first | rfl | (simp; done) | (simp [*]; done), by repeat (first | exact Drawn0.refl _ | apply Drawn0.step)⟩
              · rw [if_neg c8] at H
                have c8b0 : (a0 == 5) = false := beq_eq_false_iff_ne.mpr c8
                have c8b1 : (a0 != 5) = true := bne_iff_ne.mpr c8
                by_cases c9 : a0 = 6
                · rw [if_pos c9] at H
                  have c9b0 : (a0 == 6) = true := beq_iff_eq.mpr c9
                  have c9b1 : (a0 != 6) = false := bne_eq_false_iff_eq.mpr c9
                  clear c9
                  obtain rfl := Option.some.inj H
                  simp only [Option.some.injEq, Prod.mk.injEq] at H
                  obtain ⟨rfl⟩ := H
                  go_wp2
                  go_ret
                  exact ⟨by first | rfl | (simp; done) | (simp [*]; done), by repeat (first | exact Drawn0.refl _ | apply Drawn0.step)⟩
                · rw [if_neg c9] at H
                  have c9b0 : (a0 == 6) = false := beq_eq_false_iff_ne.mpr c9
                  have c9b1 : (a0 != 6) = true := bne_iff_ne.mpr c9
                  by_cases c10 : a0 = 7
                  · rw [if_pos c10] at H
                    have c10b0 : (a0 == 7) = true := beq_iff_eq.mpr c10
                    have c10b1 : (a0 != 7) = false := bne_eq_false_iff_eq.mpr c10
                    clear c10
                    obtain rfl := Option.some.inj H
                    simp only [Option.some.injEq, Prod.mk.injEq] at H
                    obtain ⟨rfl⟩ := H
                    go_wp2
                    go_ret
                    exact ⟨by first | rfl | (simp; done) | (simp [*]; done), by repeat (first | exact Drawn0.refl _ | apply Drawn0.step)⟩
                  · rw [if_neg c10] at H
                    have c10b0 : (a0 == 7) = false := beq_eq_false_iff_ne.mpr c10
                    have c10b1 : (a0 != 7) = true := bne_iff_ne.mpr c10
                    obtain rfl := Option.some.inj H
                    simp only [Option.some.injEq, Prod.mk.injEq] at H
                    obtain ⟨rfl⟩ := H
                    go_wp2
                    go_ret
                    exact ⟨by first | rfl | (simp; done) | (simp [*]; done), by repeat (first | exact Drawn0.refl _ | apply Drawn0.step)⟩
end Go.Proofs.Ytkddlhcpplkpbaa.G
end

section
namespace Go.Proofs.Ytkddlhcpplkpbaa.G
open WB Go.RowKit Go.Proofs.YtkddlhcpplkpbaaW.PrintWords Go.Proofs.YtkddlhcpplkpbaaW.PrintLast Go.Proofs.YtkddlhcpplkpbaaW.PrintMore
attribute [local go_sem] max2_int min2_int max_two min_two max_three min_three max_four min_four   -- for this text's walks alone
set_option linter.unusedVariables false
set_option linter.unusedSimpArgs false
def waybillref01_Copied.f (l0 : List Int) : Option (List Int) := if ([] : List Int).length + l0.length < 140737488355328 then (some (([] : List Int) ++ l0)) else (none)
set_option maxHeartbeats 8000000 in
set_option maxRecDepth 100000 in
theorem waybillref01_Copied.calls (A0 : Option Addr) (c0 : Nat) (l0 : List Int) (r : List Int) (w : World) (hr0 : Kd.C (Kd.int .u8) w A0 l0.length l0) (hc0 : l0.length ≤ c0) (h : waybillref01_Copied.f l0 = some r) :
    Calls Try.prog 61 #[.slice A0 l0.length c0] w fun e w' => ∃ v0_ : Value, e = .returned (v0_) ∧ Kd.R (Kd.int .u8) 5 w' w.heap.size (fun _ => True) v0_ r ∧ Below w.heap.size w w' := by
  have HR0 := Aside0.mk hr0
  have HC0 := Aside0.mk hc0
  clear hr0 hc0
  have HB := Aside0.mk (Below.refl w.heap.size w)
  have H : (if ([] : List Int).length + l0.length < 140737488355328 then (some (([] : List Int) ++ l0)) else (none)) = some r := h
  clear h
  by_cases c2 : ([] : List Int).length + l0.length < 140737488355328
  · rw [if_pos c2] at H
    have LMc2 := Aside0.mk c2
    clear c2
    obtain ⟨y179, hy179⟩ : ∃ y_ : List Int, y_ = (([] : List Int) ++ l0) := ⟨_, rfl⟩
    replace H : (some y179) = some r := by first | (rw [hy179]; with_reducible exact H) | (have H2_ := (Option.bind_some _ _).symm.trans H; rw [hy179]; with_reducible exact H2_) | (have H2_ := (Option.bind_some _ _).symm.trans H; with_reducible exact H2_) | with_reducible exact H | (rw [hy179]; exact H) | exact H
    have Ny179 := Aside0.mk hy179
    clear hy179
    obtain rfl := Option.some.inj H
    simp only [Option.some.injEq, Prod.mk.injEq] at H
    obtain ⟨rfl⟩ := H
    go_enter Try.func61, Try.ntmps61
    go_wp2_with (first | ((with_reducible refine gate_builtin (b := .append) (xs := #[.tmp 4, .tmp 5]) rfl ?_); at_builtin; refine Kd.R_append_rows (Kd.int .u8) (w0 := w) w.heap.size rfl (.tmp 4) (.tmp 5) 22 5 (.int .u8 0) 1 rfl Try.underlying22 info5 rfl (by decide) (by omega) (.slice none 0 0) ([] : List Int) l0 _ _ _ (fun _ => True) (fun _ => False) rfl rfl ?aO ?aR (fun _ _ h => h) (fun _ h => h.elim) ?aF ?aB ?aS ?aL ?_; (case aR => repeat (first | exact HR0.out | (with_reducible refine Kd.C_alloc ?_ _) | (with_reducible refine Kd.C_drewN ?_ _) | (with_reducible refine Kd.C_drew ?_))); (case aB => exact (by repeat (first | (with_reducible first | exact HB.out | apply below_alloc | apply pw_below_drewN | apply below_drew1) | exact HB.out))); (case aF => exact (fun _ _ => trivial)); (case aO => exact ((Kd.R_nil _ _ _ _ (fun _ => True)))); (case aS => exact (below_size (by repeat (first | (with_reducible first | exact HB.out | apply below_alloc | apply pw_below_drewN | apply below_drew1) | exact HB.out)))); (case aL => have := LMc2.out; omega); intro v180 w3 ho hb hg hat; rw [← Ny179.out] at ho; have n0_ := Aside0.mk (hb); have n1_ := Aside0.mk (ho); clear HB; have HB := n0_; have HO181 := n1_; clear n0_ n1_; clear ho hb hg hat))
    go_ret
    exact ⟨_, by first | rfl | (simp [errW_none, errW_some] <;> rfl) | (simp [*, errW_none, errW_some] <;> rfl), by (with_reducible repeat (first | apply Kd.R_alloc | apply Kd.R_drewN | apply Kd.R_drew)); exact HO181.out, by repeat (first | (with_reducible first | exact HB.out | apply below_alloc | apply pw_below_drewN | apply below_drew1) | exact HB.out)⟩
  · rw [if_neg c2] at H
    exact absurd H (by simp)
end Go.Proofs.Ytkddlhcpplkpbaa.G
end

section
namespace Go.Proofs.Ytkddlhcpplkpbaa.G
open WB Go.RowKit Go.Proofs.YtkddlhcpplkpbaaW.PrintWords Go.Proofs.YtkddlhcpplkpbaaW.PrintLast Go.Proofs.YtkddlhcpplkpbaaW.PrintMore
attribute [local go_sem] max2_int min2_int max_two min_two max_three min_three max_four min_four   -- for this text's walks alone
set_option linter.unusedVariables false
set_option linter.unusedSimpArgs false
/-- A kind's letters. -/
def letB (k : Int) : ByteArray := if k = 1 ∨ k = 8 then ⟨#[99, 110]⟩ else if k = 2 then ⟨#[99, 105, 115, 110]⟩ else if k = 3 then ⟨#[99, 105, 115, 113, 109, 108, 100]⟩ else if k = 4 then ⟨#[99, 105, 115, 113, 111, 112, 100]⟩ else if k = 5 then ⟨#[99, 105, 115, 113, 109]⟩ else if k = 6 then ⟨#[99, 105, 115, 113]⟩ else if k = 7 then ⟨#[99, 105, 115, 113]⟩ else ⟨#[]⟩
theorem form_is (k : Int) : waybillref09_form.f 1 k = some (letB k) := by
  by_cases hk : 1 ≤ k ∧ k ≤ 8
  · have hc : k = 1 ∨ k = 2 ∨ k = 3 ∨ k = 4 ∨ k = 5 ∨ k = 6 ∨ k = 7 ∨ k = 8 := by omega
    rcases hc with rfl | rfl | rfl | rfl | rfl | rfl | rfl | rfl <;> rfl
  · have h8 : (k == 8) = false := beq_eq_false_iff_ne.mpr (by omega)
    have hm : ∀ m, waybillref09_form.j0 (m + 1) k (k == 8) = some (letB k) := fun m => by
      simp only [waybillref09_form.j0]
      unfold letB
      rw [h8, if_neg (by decide), if_neg (by omega), if_neg (by omega), if_neg (by omega), if_neg (by omega), if_neg (by omega), if_neg (by omega), if_neg (by omega), if_neg (by omega), if_neg (by omega), if_neg (by omega), if_neg (by omega), if_neg (by omega), if_neg (by omega)]
    unfold waybillref09_form.f
    rw [if_neg (by omega)]
    exact hm 0
theorem ref_form (k : Int) (w : World) : Calls Try.prog 40 #[.int .i64 k] w fun e w' => e = .returned (.string (letB k)) ∧ Drawn0 w w' := waybillref09_form.calls 1 k (letB k) w (form_is k)
/-- Does a kind use octets? -/
def dat (k : Int) : Bool := decide (k = 3 ∨ k = 4)
theorem let_size (k : Int) : (letB k).size = (ixOf k).length + (if dat k = true then 1 else 0) := by
  by_cases hk : 1 ≤ k ∧ k ≤ 8
  · have hc : k = 1 ∨ k = 2 ∨ k = 3 ∨ k = 4 ∨ k = 5 ∨ k = 6 ∨ k = 7 ∨ k = 8 := by omega
    rcases hc with rfl | rfl | rfl | rfl | rfl | rfl | rfl | rfl <;> rfl
  · rw [ixOf_none hk]
    unfold letB dat
    rw [if_neg (by omega), if_neg (by omega), if_neg (by omega), if_neg (by omega), if_neg (by omega), if_neg (by omega), if_neg (by omega)]
    have : ¬ (k = 3 ∨ k = 4) := by omega
    simp [this]
    rfl
theorem let_get (k : Int) (i : Nat) (hi : i < (ixOf k).length) : ∃ h : i < (letB k).size, (((letB k)[i]'h).toNat : Int) ≠ 100 ∧ fldOf (((letB k)[i]'h).toNat : Int) = (ixOf k).getD i 0 := by
  by_cases hk : 1 ≤ k ∧ k ≤ 8
  · have hc : k = 1 ∨ k = 2 ∨ k = 3 ∨ k = 4 ∨ k = 5 ∨ k = 6 ∨ k = 7 ∨ k = 8 := by omega
    rcases hc with rfl | rfl | rfl | rfl | rfl | rfl | rfl | rfl <;>
    (refine ⟨Nat.lt_of_lt_of_le hi (by rw [let_size]; exact Nat.le_add_right _ _), ?_⟩
     revert i
     decide)
  · rw [ixOf_none hk] at hi
    simp at hi
theorem let_last (k : Int) (h : dat k = true) : ∃ h : (ixOf k).length < (letB k).size, (((letB k)[(ixOf k).length]'h).toNat : Int) = 100 := by
  unfold dat at h
  have hc : k = 3 ∨ k = 4 := of_decide_eq_true h
  rcases hc with rfl | rfl <;> exact ⟨by decide, by decide⟩
theorem onlyN_all (f0 f1 f2 f3 f4 f5 f6 f7 f8 f9 f10 : Int) : onlyN f0 f1 f2 f3 f4 f5 f6 f7 f8 f9 f10 = [f0, onlyF f0 1 f1, f2, onlyF f0 3 f3, onlyF f0 4 f4, onlyF f0 5 f5, onlyF f0 6 f6, onlyF f0 7 f7, onlyF f0 8 f8, onlyF f0 9 f9, onlyF f0 10 f10] := by
  by_cases h : ixOf f0 = []
  · unfold onlyN onlyF
    rw [h]
    simp [takeN]
  · exact onlyN_is _ _ _ _ _ _ _ _ _ _ _ h
/-- Where used is, ahead of round i. -/
structure UsedI (w W : World) (n o : List Int) (D D' : Value) (ix : List Nat) (i : Nat) : Prop where
  bm : W.heap[w.heap.size]? = some (.cells (msgCells n D) 25 (0, 0))
  br : W.heap[w.heap.size + 1]? = some (.cells (msgCells [0, 0, 0, 0, 0, 0, 0, 0, 0, 0, 0] (.slice none 0 0)) 25 (0, 0))
  bo : W.heap[w.heap.size + 1 + 1]? = some (.cells (msgCells (takeN n o (ix.take i)) D') 25 (0, 0))
  bel : Below w.heap.size w W
theorem UsedI.below {w W W1 : World} {n o : List Int} {D D' : Value} {ix : List Nat} {i : Nat} (h : UsedI w W n o D D' ix i) (hb : Below W.heap.size W W1) : UsedI w W1 n o D D' ix i :=
  ⟨blk_below h.bm hb, blk_below h.br hb, blk_below h.bo hb, below_then h.bel h.bel.size hb⟩
theorem UsedI.put {w W : World} {n o : List Int} {D D' : Value} {ix : List Nat} {i : Nat} (h : UsedI w W n o D D' ix i) (hi : i < ix.length) (hj : ix.getD i 0 < o.length) : UsedI w (W.setCell ⟨w.heap.size + 1 + 1, ix.getD i 0, none⟩ (.int .i64 (n.getD (ix.getD i 0) 0))) n o D D' ix (i + 1) := by
  have he : ix.take (i + 1) = ix.take i ++ [ix.getD i 0] := by
    rw [List.take_succ_eq_append_getElem hi]
    simp [List.getD_eq_getElem?_getD, hi]
  refine ⟨blk_far h.bm (by simp; omega) _, blk_far h.br (by simp) _, ?_, below_set h.bel (by omega)⟩
  rw [he, takeN_app]
  exact blk_put h.bo _ _ (msg_set (by rw [takeN_len]; exact hj) _)
theorem UsedI.putD {w W : World} {n o : List Int} {D D' : Value} {ix : List Nat} {i : Nat} (h : UsedI w W n o D D' ix i) (hj : o.length = 11) (D2 : Value) : UsedI w (W.setCell ⟨w.heap.size + 1 + 1, 11, none⟩ D2) n o D D2 ix i :=
  ⟨blk_far h.bm (by simp; omega) _, blk_far h.br (by simp) _, blk_put h.bo _ _ (msg_setD (by rw [takeN_len]; exact hj)), below_set h.bel (by omega)⟩
theorem msg_getD {n : List Int} {D : Value} (h : n.length = 11) : (msgCells n D)[11]? = some D := by
  unfold msgCells
  rw [List.getElem?_toArray, List.getElem?_append_right (by rw [List.length_map]; omega), List.length_map, h]
  rfl
def waybillref09_used.f (a0_0 : Int) (a0_1 : Int) (a0_2 : Int) (a0_3 : Int) (a0_4 : Int) (a0_5 : Int) (a0_6 : Int) (a0_7 : Int) (a0_8 : Int) (a0_9 : Int) (a0_10 : Int) (l0_11 : List Int) : Option (Int × Int × Int × Int × Int × Int × Int × Int × Int × Int × Int × List Int) := (if dat a0_0 = true then waybillref01_Copied.f l0_11 else some []).bind fun D => some (a0_0, (onlyF a0_0 1 a0_1), a0_2, (onlyF a0_0 3 a0_3), (onlyF a0_0 4 a0_4), (onlyF a0_0 5 a0_5), (onlyF a0_0 6 a0_6), (onlyF a0_0 7 a0_7), (onlyF a0_0 8 a0_8), (onlyF a0_0 9 a0_9), (onlyF a0_0 10 a0_10), D)
set_option maxHeartbeats 4000000 in
set_option maxRecDepth 100000 in
theorem waybillref09_used.calls (a0_0 : Int) (a0_1 : Int) (a0_2 : Int) (a0_3 : Int) (a0_4 : Int) (a0_5 : Int) (a0_6 : Int) (a0_7 : Int) (a0_8 : Int) (a0_9 : Int) (a0_10 : Int) (A0_11 : Option Addr) (c0_11 : Nat) (l0_11 : List Int) (r1 : Int) (r2 : Int) (r3 : Int) (r4 : Int) (r5 : Int) (r6 : Int) (r7 : Int) (r8 : Int) (r9 : Int) (r10 : Int) (r11 : Int) (r12 : List Int) (w : World) (hr0_11 : Kd.C (Kd.int .u8) w A0_11 l0_11.length l0_11) (hc0_11 : l0_11.length ≤ c0_11) (h : waybillref09_used.f a0_0 a0_1 a0_2 a0_3 a0_4 a0_5 a0_6 a0_7 a0_8 a0_9 a0_10 l0_11 = some (r1, r2, r3, r4, r5, r6, r7, r8, r9, r10, r11, r12)) :
    Calls Try.prog 50 #[.agg #[.int .i64 a0_0, .int .i64 a0_1, .int .i64 a0_2, .int .i64 a0_3, .int .i64 a0_4, .int .i64 a0_5, .int .i64 a0_6, .int .i64 a0_7, .int .i64 a0_8, .int .i64 a0_9, .int .i64 a0_10, .slice A0_11 l0_11.length c0_11]] w fun e w' => ∃ v11_ : Value, e = .returned (.agg #[.int .i64 r1, .int .i64 r2, .int .i64 r3, .int .i64 r4, .int .i64 r5, .int .i64 r6, .int .i64 r7, .int .i64 r8, .int .i64 r9, .int .i64 r10, .int .i64 r11, v11_]) ∧ Kd.R (Kd.int .u8) 5 w' w.heap.size (fun _ => True) v11_ r12 ∧ Below w.heap.size w w' := by
  unfold waybillref09_used.f at h
  have HR := Aside0.mk hr0_11
  have HC := Aside0.mk hc0_11
  obtain ⟨cp, hcp, h⟩ := Option.bind_eq_some_iff.1 h
  simp only [Option.some.injEq, Prod.mk.injEq] at h
  obtain ⟨rfl, rfl, rfl, rfl, rfl, rfl, rfl, rfl, rfl, rfl, rfl, rfl⟩ := h
  have HCP := Aside0.mk hcp
  clear hr0_11 hc0_11 hcp
  go_enter Try.func50, Try.ntmps50
  go_wp2_with fail
  go_at_call 40
  obtain ⟨n, hn⟩ : ∃ n : List Int, n = [a0_0, a0_1, a0_2, a0_3, a0_4, a0_5, a0_6, a0_7, a0_8, a0_9, a0_10] := ⟨_, rfl⟩
  obtain ⟨o, ho⟩ : ∃ o : List Int, o = [a0_0, 0, a0_2, 0, 0, 0, 0, 0, 0, 0, 0] := ⟨_, rfl⟩
  obtain ⟨W0, hW0⟩ : ∃ W, W = ((w.alloc (.cells #[.int .i64 a0_0, .int .i64 a0_1, .int .i64 a0_2, .int .i64 a0_3, .int .i64 a0_4, .int .i64 a0_5, .int .i64 a0_6, .int .i64 a0_7, .int .i64 a0_8, .int .i64 a0_9, .int .i64 a0_10, .slice A0_11 l0_11.length c0_11] 25)).alloc (.cells #[.int .i64 0, .int .i64 0, .int .i64 0, .int .i64 0, .int .i64 0, .int .i64 0, .int .i64 0, .int .i64 0, .int .i64 0, .int .i64 0, .int .i64 0, .slice none 0 0] 25)).alloc (.cells #[.int .i64 a0_0, .int .i64 0, .int .i64 a0_2, .int .i64 0, .int .i64 0, .int .i64 0, .int .i64 0, .int .i64 0, .int .i64 0, .int .i64 0, .int .i64 0, .slice none 0 0] 25) := ⟨_, rfl⟩
  rw [← hW0]
  have HI0 := Aside0.mk (show UsedI w W0 n o (.slice A0_11 l0_11.length c0_11) (.slice none 0 0) (ixOf a0_0) 0 from ⟨by rw [hW0, hn, msg_lit]; exact blk_alloc (blk_alloc (heap_new1 _ _) _) _, by rw [hW0, msg_lit]; exact blk_alloc (heap_new2 _ _ _) _, by rw [hW0, List.take_zero, takeN, ho, msg_lit]; exact heap_new3 _ _ _ _, by rw [hW0]; exact below_alloc (below_alloc (below_alloc (Below.refl _ _) _) _) _⟩)
  have HN := Aside0.mk hn
  have HO := Aside0.mk ho
  have LN : Aside0 (n.length = 11) := ⟨by rw [hn]; rfl⟩
  have LO : Aside0 (o.length = 11) := ⟨by rw [ho]; rfl⟩
  clear hn ho hW0
  with_reducible refine (ref_form a0_0 _).mono ?_
  rintro e w1 ⟨rfl, hd⟩
  have HI1 := Aside0.mk (HI0.out.below hd.below)
  obtain ⟨ix, hix⟩ : ∃ ix, ix = ixOf a0_0 := ⟨_, rfl⟩
  obtain ⟨S, hS⟩ : ∃ S, S = letB a0_0 := ⟨_, rfl⟩
  rw [← hix] at HI1
  rw [← hS]
  have HIX := Aside0.mk hix
  have HLEN : Aside0 (ix.length ≤ 6) := ⟨by rw [hix]; exact ixOf_len _⟩
  have HXL : Aside0 (∀ i, i < ix.length → 1 ≤ ix.getD i 0 ∧ ix.getD i 0 ≤ 10) := ⟨fun i hi => by
    have hm : ix.getD i 0 ∈ ixOf a0_0 := by
      rw [← HIX.out]
      have he : ix.getD i 0 = ix[i] := by simp [List.getD_eq_getElem?_getD, hi]
      rw [he]; exact List.getElem_mem hi
    exact ⟨(ixOf_lt _ hm).1, (ixOf_lt _ hm).2.1⟩⟩
  have HSZ : Aside0 (S.size = ix.length + (if dat a0_0 = true then 1 else 0)) := ⟨by rw [hS, hix]; exact let_size _⟩
  have HLG : Aside0 (∀ i, i < ix.length → ∃ h : i < S.size, (((S[i]'h).toNat : Int) ≠ 100) ∧ fldOf ((S[i]'h).toNat : Int) = ix.getD i 0) := ⟨by rw [hS, hix]; exact let_get _⟩
  have HLL : Aside0 (dat a0_0 = true → ∃ h : ix.length < S.size, ((S[ix.length]'h).toNat : Int) = 100) := ⟨by rw [hS, hix]; exact let_last _⟩
  have hs8 : S.size ≤ 7 := by rw [HSZ.out]; have := HLEN.out; split <;> omega
  clear hd hix hS HI0
  go_wp2_with fail
  go_loopw [5] (fun v5 wr => ∃ (i : Nat) (D : Value) (ld : List Int), v5 = .int .i64 i ∧ i ≤ S.size ∧ Aside0 (UsedI w wr n o (.slice A0_11 l0_11.length c0_11) D ix i) ∧ Aside0 (Kd.R (Kd.int .u8) 5 wr (w.heap.size + 1 + 1 + 1) (fun _ => True) D ld) ∧ Aside0 (ld = if i ≤ ix.length then [] else cp)) (fun v5 _ => S.size - (intOf v5).toNat)
  case atStart => exact ⟨0, _, [], rfl, Nat.zero_le _, HI1, ⟨Kd.R_nil _ _ _ _ _⟩, ⟨by rw [if_pos (Nat.zero_le _)]⟩⟩
  case round =>
    obtain ⟨i, D, ld, rfl, hi, HI, HD, HLD⟩ := hrel
    by_cases hlt : i < S.size
    · have b1 : decide ((i : Int) < (S.size : Int)) = true := decide_eq_true (by omega)
      have b1' : decide (i < S.size) = true := decide_eq_true hlt
      by_cases hlx : i < ix.length
      · obtain ⟨_, hc1, hc2⟩ := HLG.out i hlx
        have c0 : (((S[i]'hlt).toNat : Int) == 100) = false := beq_eq_false_iff_ne.mpr hc1
        obtain ⟨j, hj⟩ : ∃ j, j = ix.getD i 0 := ⟨_, rfl⟩
        rw [← hj] at hc2
        have HC2 := Aside0.mk hc2
        have hj2 := HXL.out i hlx
        rw [← hj] at hj2
        have q3 : wr.cell? ⟨w.heap.size, j, none⟩ = some (.int .i64 (n.getD j 0)) := by rw [blk_cell HI.out.bm, msg_get (by rw [LN.out]; omega)]
        obtain ⟨x, hx⟩ : ∃ x, wr.cell? ⟨w.heap.size + 1 + 1, j, none⟩ = some (.int .i64 x) := ⟨_, by rw [blk_cell HI.out.bo, msg_get (by rw [takeN_len, LO.out]; omega)]⟩
        obtain ⟨y, hy⟩ : ∃ y, y = n.getD j 0 := ⟨_, rfl⟩
        rw [← hy] at q3
        have HI1 : Aside0 (∀ W, Below wr.heap.size wr W → UsedI w (W.setCell ⟨w.heap.size + 1 + 1, j, none⟩ (.int .i64 y)) n o (.slice A0_11 l0_11.length c0_11) D ix (i + 1)) := ⟨fun W hb => by
          rw [hy, hj]
          exact (HI.out.below hb).put hlx (by rw [← hj, LO.out]; omega)⟩
        have HL0 : Aside0 (ld = []) := ⟨by rw [HLD.out, if_pos (by omega)]⟩
        clear hj hj2 hy hc1 hc2
        go_wp2_with fail
        refine region_tail (B := _) (w0 := _) 11 [(28, (fun v _ => v = .string S)), (29, (fun v _ => v = .int .i64 i)), (30, (fun v _ => v = .int .u8 ((S[i]'hlt).toNat : Int))), (31, (fun v W => v = .pointer (some ⟨w.heap.size + 1 + 1, j, none⟩))), (32, (fun v _ => v = .string S)), (33, (fun v _ => v = .int .i64 i)), (34, (fun v _ => v = .int .u8 ((S[i]'hlt).toNat : Int))), (35, (fun v W => v = .pointer (some ⟨w.heap.size, j, none⟩))), (36, (fun v _ => v = .pointer (some ⟨w.heap.size, j, none⟩))), (37, (fun v _ => v = .int .i64 y)), (38, (fun v _ => v = .pointer (some ⟨w.heap.size + 1 + 1, j, none⟩)))] (by kernel_rfl) (by kernel_rfl) (by decide) (by kernel_rfl) (by kernel_rfl) (by rfl) (show ([28, 29, 30, 31, 32, 33, 34, 35, 36, 37, 38] : List Nat).Nodup by decide) ?hsz ?hst (Below.refl _ _) (Nat.le_refl _) ?step ?fin
        case hsz => exact List.forall_mem_cons.2 ⟨(show 28 < 40 by decide), List.forall_mem_cons.2 ⟨(show 29 < 40 by decide), List.forall_mem_cons.2 ⟨(show 30 < 40 by decide), List.forall_mem_cons.2 ⟨(show 31 < 40 by decide), List.forall_mem_cons.2 ⟨(show 32 < 40 by decide), List.forall_mem_cons.2 ⟨(show 33 < 40 by decide), List.forall_mem_cons.2 ⟨(show 34 < 40 by decide), List.forall_mem_cons.2 ⟨(show 35 < 40 by decide), List.forall_mem_cons.2 ⟨(show 36 < 40 by decide), List.forall_mem_cons.2 ⟨(show 37 < 40 by decide), List.forall_mem_cons.2 ⟨(show 38 < 40 by decide), fun _ h => nomatch h⟩⟩⟩⟩⟩⟩⟩⟩⟩⟩⟩
        case hst => exact List.forall_mem_cons.2 ⟨(fun v w1 w2 hb h => h), List.forall_mem_cons.2 ⟨(fun v w1 w2 hb h => h), List.forall_mem_cons.2 ⟨(fun v w1 w2 hb h => h), List.forall_mem_cons.2 ⟨(fun v w1 w2 hb h => h), List.forall_mem_cons.2 ⟨(fun v w1 w2 hb h => h), List.forall_mem_cons.2 ⟨(fun v w1 w2 hb h => h), List.forall_mem_cons.2 ⟨(fun v w1 w2 hb h => h), List.forall_mem_cons.2 ⟨(fun v w1 w2 hb h => h), List.forall_mem_cons.2 ⟨(fun v w1 w2 hb h => h), List.forall_mem_cons.2 ⟨(fun v w1 w2 hb h => h), List.forall_mem_cons.2 ⟨(fun v w1 w2 hb h => h), fun _ h => nomatch h⟩⟩⟩⟩⟩⟩⟩⟩⟩⟩⟩
        case step =>
          intro i_ o_ e_ ho he a w1_ hs hdf hfr hbl hbs hpre
          match i_, ho, he with
          | 0, ho, he => obtain rfl : o_ = ⟨_, _, _, _, _, _⟩ := (Option.some.inj ho).symm; obtain rfl := Option.some.inj he; clear he; have f4 : a.tmps.getD 4 undef = .string S := (by rw [Array.getD_eq_getD_getElem?, hfr 4 (show ¬ 4 ∈ ([28, 29, 30, 31, 32, 33, 34, 35, 36, 37, 38] : List Nat) by decide)]; rfl); clear hpre hfr; refine wpOp_value (v := .string S) ho rfl ?_ ⟨_, rfl, rfl, Below.refl _ _⟩; simp only [execOp, Act.eval, List.map_toArray, List.map_cons, List.map_nil, f4]; first | rfl | (go_simp; done) | (go_simp; rfl) | (go_simp; intro h_; exfalso; omega)
          | 1, ho, he => obtain rfl : o_ = ⟨_, _, _, _, _, _⟩ := (Option.some.inj ho).symm; obtain rfl := Option.some.inj he; clear he; have f5 : a.tmps.getD 5 undef = .int .i64 i := (by rw [Array.getD_eq_getD_getElem?, hfr 5 (show ¬ 5 ∈ ([28, 29, 30, 31, 32, 33, 34, 35, 36, 37, 38] : List Nat) by decide)]; rfl); clear hpre hfr; refine wpOp_value (v := .int .i64 i) ho rfl ?_ ⟨_, rfl, rfl, Below.refl _ _⟩; simp only [execOp, Act.eval, List.map_toArray, List.map_cons, List.map_nil, f5]; first | rfl | (go_simp; done) | (go_simp; rfl) | (go_simp; intro h_; exfalso; omega)
          | 2, ho, he => obtain rfl : o_ = ⟨_, _, _, _, _, _⟩ := (Option.some.inj ho).symm; obtain rfl := Option.some.inj he; clear he; have e28 : a.tmps.getD 28 undef = .string S := hpre ⟨0, .data⟩ (by simp) rfl _ rfl; have e29 : a.tmps.getD 29 undef = .int .i64 i := hpre ⟨1, .data⟩ (by simp) rfl _ rfl; clear hpre hfr; refine wpOp_value (v := .int .u8 ((S[i]'hlt).toNat : Int)) ho rfl ?_ ⟨_, rfl, rfl, Below.refl _ _⟩; simp only [execOp, Act.eval, List.map_toArray, List.map_cons, List.map_nil, e28, e29]; first | rfl | (go_simp; done) | (go_simp; rfl) | (go_simp; intro h_; exfalso; omega)
          | 3, ho, he => obtain rfl : o_ = ⟨_, _, _, _, _, _⟩ := (Option.some.inj ho).symm; obtain rfl := Option.some.inj he; clear he; have e30 : a.tmps.getD 30 undef = .int .u8 ((S[i]'hlt).toNat : Int) := hpre ⟨2, .data⟩ (by simp) rfl _ rfl; have f3 : a.tmps.getD 3 undef = .pointer (some ⟨w.heap.size + 1 + 1, 0, none⟩) := (by rw [Array.getD_eq_getD_getElem?, hfr 3 (show ¬ 3 ∈ ([28, 29, 30, 31, 32, 33, 34, 35, 36, 37, 38] : List Nat) by decide)]; rfl); clear hpre hfr; refine wpOp_call (fn := Try.f42) ho rfl rfl rfl rfl #[.pointer (some ⟨w.heap.size + 1 + 1, 0, none⟩), .int .u8 ((S[i]'hlt).toNat : Int)] rfl (by simp only [List.map_toArray, List.map_cons, List.map_nil, Act.eval, f3, e30]) ?_; refine (ref_field _ _ _).mono ?_; rintro e w2 ⟨rfl, rfl⟩; exact ⟨_, rfl, ⟨_, rfl, by rw [HC2.out], Below.refl _ _⟩⟩
          | 4, ho, he => obtain rfl : o_ = ⟨_, _, _, _, _, _⟩ := (Option.some.inj ho).symm; obtain rfl := Option.some.inj he; clear he; have f4 : a.tmps.getD 4 undef = .string S := (by rw [Array.getD_eq_getD_getElem?, hfr 4 (show ¬ 4 ∈ ([28, 29, 30, 31, 32, 33, 34, 35, 36, 37, 38] : List Nat) by decide)]; rfl); clear hpre hfr; refine wpOp_value (v := .string S) ho rfl ?_ ⟨_, rfl, rfl, Below.refl _ _⟩; simp only [execOp, Act.eval, List.map_toArray, List.map_cons, List.map_nil, f4]; first | rfl | (go_simp; done) | (go_simp; rfl) | (go_simp; intro h_; exfalso; omega)
          | 5, ho, he => obtain rfl : o_ = ⟨_, _, _, _, _, _⟩ := (Option.some.inj ho).symm; obtain rfl := Option.some.inj he; clear he; have f5 : a.tmps.getD 5 undef = .int .i64 i := (by rw [Array.getD_eq_getD_getElem?, hfr 5 (show ¬ 5 ∈ ([28, 29, 30, 31, 32, 33, 34, 35, 36, 37, 38] : List Nat) by decide)]; rfl); clear hpre hfr; refine wpOp_value (v := .int .i64 i) ho rfl ?_ ⟨_, rfl, rfl, Below.refl _ _⟩; simp only [execOp, Act.eval, List.map_toArray, List.map_cons, List.map_nil, f5]; first | rfl | (go_simp; done) | (go_simp; rfl) | (go_simp; intro h_; exfalso; omega)
          | 6, ho, he => obtain rfl : o_ = ⟨_, _, _, _, _, _⟩ := (Option.some.inj ho).symm; obtain rfl := Option.some.inj he; clear he; have e32 : a.tmps.getD 32 undef = .string S := hpre ⟨4, .data⟩ (by simp) rfl _ rfl; have e33 : a.tmps.getD 33 undef = .int .i64 i := hpre ⟨5, .data⟩ (by simp) rfl _ rfl; clear hpre hfr; refine wpOp_value (v := .int .u8 ((S[i]'hlt).toNat : Int)) ho rfl ?_ ⟨_, rfl, rfl, Below.refl _ _⟩; simp only [execOp, Act.eval, List.map_toArray, List.map_cons, List.map_nil, e32, e33]; first | rfl | (go_simp; done) | (go_simp; rfl) | (go_simp; intro h_; exfalso; omega)
          | 7, ho, he => obtain rfl : o_ = ⟨_, _, _, _, _, _⟩ := (Option.some.inj ho).symm; obtain rfl := Option.some.inj he; clear he; have e34 : a.tmps.getD 34 undef = .int .u8 ((S[i]'hlt).toNat : Int) := hpre ⟨6, .data⟩ (by simp) rfl _ rfl; have f1 : a.tmps.getD 1 undef = .pointer (some ⟨w.heap.size, 0, none⟩) := (by rw [Array.getD_eq_getD_getElem?, hfr 1 (show ¬ 1 ∈ ([28, 29, 30, 31, 32, 33, 34, 35, 36, 37, 38] : List Nat) by decide)]; rfl); clear hpre hfr; refine wpOp_call (fn := Try.f42) ho rfl rfl rfl rfl #[.pointer (some ⟨w.heap.size, 0, none⟩), .int .u8 ((S[i]'hlt).toNat : Int)] rfl (by simp only [List.map_toArray, List.map_cons, List.map_nil, Act.eval, f1, e34]) ?_; refine (ref_field _ _ _).mono ?_; rintro e w2 ⟨rfl, rfl⟩; exact ⟨_, rfl, ⟨_, rfl, by rw [HC2.out], Below.refl _ _⟩⟩
          | 8, ho, he => obtain rfl : o_ = ⟨_, _, _, _, _, _⟩ := (Option.some.inj ho).symm; obtain rfl := Option.some.inj he; clear he; have e35 := hpre ⟨7, .data⟩ (by simp) rfl _ rfl; dsimp only at e35; clear hpre hfr; refine wpOp_value (v := .pointer (some ⟨w.heap.size, j, none⟩)) ho rfl ?_ ⟨_, rfl, rfl, Below.refl _ _⟩; simp only [execOp, Act.eval, List.map_toArray, List.map_cons, List.map_nil]; first | rfl | (go_simp; done) | (go_simp; rfl) | (go_simp; intro h_; exfalso; omega)
          | 9, ho, he => obtain rfl : o_ = ⟨_, _, _, _, _, _⟩ := (Option.some.inj ho).symm; obtain rfl := Option.some.inj he; clear he; have e36 : a.tmps.getD 36 undef = .pointer (some ⟨w.heap.size, j, none⟩) := hpre ⟨8, .data⟩ (by simp) rfl _ rfl; clear hpre hfr; have k_q3 := (hbl.cell (World.block_lt_of_cell? _ _ q3)).trans q3; refine wpOp_value (v := .int .i64 y) ho rfl ?_ ⟨_, rfl, rfl, Below.refl _ _⟩; simp only [execOp, Act.eval, List.map_toArray, List.map_cons, List.map_nil, e36]; first | rfl | (go_simp; done) | (go_simp; rfl) | (go_simp; intro h_; exfalso; omega)
          | 10, ho, he => obtain rfl : o_ = ⟨_, _, _, _, _, _⟩ := (Option.some.inj ho).symm; obtain rfl := Option.some.inj he; clear he; have e31 := hpre ⟨3, .data⟩ (by simp) rfl _ rfl; dsimp only at e31; clear hpre hfr; refine wpOp_value (v := .pointer (some ⟨w.heap.size + 1 + 1, j, none⟩)) ho rfl ?_ ⟨_, rfl, rfl, Below.refl _ _⟩; simp only [execOp, Act.eval, List.map_toArray, List.map_cons, List.map_nil]; first | rfl | (go_simp; done) | (go_simp; rfl) | (go_simp; intro h_; exfalso; omega)
          | n_ + 11, ho, he => simp at he
        case fin =>
          intro xv_ w1_ hbl hbs hx
          simp only [List.forall_mem_cons] at hx
          obtain ⟨x28, x29, x30, x31, x32, x33, x34, x35, x36, x37, x38, _⟩ := hx
          simp only [List.map_cons, List.map_nil, putL, Act.put, List.setIfInBounds_toArray, List.set_cons_zero, List.set_cons_succ, x28, x29, x30, x31, x32, x33, x34, x35, x36, x37, x38]
          simp only [List.drop_succ_cons, List.drop_zero]
          clear x28 x29 x30 x31 x32 x33 x34 x35 x36 x37 x38
          have y4 : w1_.cell? ⟨w.heap.size + 1 + 1, j, none⟩ = some (.int .i64 x) := (hbl.cell (p := ⟨w.heap.size + 1 + 1, j, none⟩) (blk_lt HI.out.bo)).trans hx
          have z4 : w1_.frozen? ⟨w.heap.size + 1 + 1, j, none⟩ = false := blk_frozen (HI.out.below hbl).bo j
          have HI2 := Aside0.mk (HI1.out _ hbl)
          have HD2 := Aside0.mk (Kd.R_step (Kd.R_bound (Kd.R_below HD.out hbl)) (fun k hk _ => Below.heap_setCell w1_ ⟨w.heap.size + 1 + 1, j, none⟩ (.int .i64 y) k (by have := hk.2.1; show k ≠ w.heap.size + 1 + 1; omega)))
          clear hbl
          go_wp2_with fail
          go_roundw
          case rel => exact ⟨i + 1, D, ld, by go_num, by omega, HI2, ⟨Kd.R_mono HD2.out (fun _ _ => trivial)⟩, ⟨by rw [HL0.out, if_pos (by omega)]⟩⟩
          case measure => simp [intOf]; omega
      · have hdt : dat a0_0 = true := by
          apply Classical.byContradiction
          intro hn
          have := HSZ.out
          rw [if_neg hn] at this
          omega
        have hei : i = ix.length := by have := HSZ.out; rw [if_pos hdt] at this; omega
        subst hei
        obtain ⟨_, hc1⟩ := HLL.out hdt
        have c0 : (((S[ix.length]'hlt).toNat : Int) == 100) = true := beq_iff_eq.mpr hc1
        have hcp := HCP.out
        rw [if_pos hdt] at hcp
        have HCP2 := Aside0.mk hcp
        have HDT := Aside0.mk hdt
        have hbm := HI.out.bm
        rw [HN.out, msg_lit] at hbm
        have q11 : wr.cell? ⟨w.heap.size, 11, none⟩ = some (.slice A0_11 l0_11.length c0_11) := (blk_cell hbm 11).trans rfl
        have HRR := Aside0.mk (Kd.C_below HR.out HI.out.bel)
        have HI9 : Aside0 (∀ W, Below wr.heap.size wr W → ∀ D2, UsedI w (W.setCell ⟨w.heap.size + 1 + 1, 11, none⟩ D2) n o (.slice A0_11 l0_11.length c0_11) D2 ix (ix.length + 1)) := ⟨fun W hb D2 => by
          have h := (HI.out.below hb).putD LO.out D2
          exact ⟨h.bm, h.br, by rw [List.take_of_length_le (by omega)]; have := h.bo; rw [List.take_of_length_le (by omega)] at this; exact this, h.bel⟩⟩
        clear hbm hc1 hcp hdt
        go_wp2_with fail
        go_at_call 61
        with_reducible refine (waybillref01_Copied.calls A0_11 c0_11 l0_11 cp _ HRR.out HC.out HCP2.out).mono ?_
        rintro e w2 ⟨v2, rfl, hr2, hb⟩
        have y4 : ∃ x, w2.cell? ⟨w.heap.size + 1 + 1, 11, none⟩ = some x := ⟨_, (blk_cell (HI.out.below hb).bo 11).trans (msg_getD (by rw [takeN_len]; exact LO.out))⟩
        obtain ⟨x, y4⟩ := y4
        have z4 : w2.frozen? ⟨w.heap.size + 1 + 1, 11, none⟩ = false := blk_frozen (HI.out.below hb).bo 11
        obtain ⟨A2, c2, rfl⟩ := Kd.R_slice hr2
        have HI2 := Aside0.mk (HI9.out _ hb (.slice A2 cp.length c2))
        have HD2 := Aside0.mk (Kd.R_step (Kd.R_bound (Kd.R_lower hr2 (show w.heap.size + 1 + 1 + 1 ≤ _ from blk_lt HI.out.bo))) (fun k hk _ => Below.heap_setCell w2 ⟨w.heap.size + 1 + 1, 11, none⟩ (.slice A2 cp.length c2) k (by have := hk.2.1; show k ≠ w.heap.size + 1 + 1; omega)))
        clear hb hr2 HRR
        go_wp2_with fail
        go_roundw
        case rel => exact ⟨ix.length + 1, _, cp, by go_num, by omega, HI2, ⟨Kd.R_mono HD2.out (fun _ _ => trivial)⟩, ⟨by rw [if_neg (by omega)]⟩⟩
        case measure => simp [intOf]; omega
    · have b1 : decide ((i : Int) < (S.size : Int)) = false := decide_eq_false (by omega)
      have b1' : decide (i < S.size) = false := decide_eq_false hlt
      have hcl : cp = ld := by
        have h1 := HCP.out
        rw [HLD.out]
        have h2 := HSZ.out
        split at h1
        case isTrue hd => rw [if_pos hd] at h2; rw [if_neg (by omega)]
        case isFalse hd => rw [if_neg hd] at h2; rw [if_pos (by omega)]; exact (Option.some.inj h1).symm
      obtain ⟨A2, c2, rfl⟩ := Kd.R_slice HD.out
      have HBO := Aside0.mk (show wr.heap[w.heap.size + 1 + 1]? = some (.cells (msgCells [a0_0, (onlyF a0_0 1 a0_1), a0_2, (onlyF a0_0 3 a0_3), (onlyF a0_0 4 a0_4), (onlyF a0_0 5 a0_5), (onlyF a0_0 6 a0_6), (onlyF a0_0 7 a0_7), (onlyF a0_0 8 a0_8), (onlyF a0_0 9 a0_9), (onlyF a0_0 10 a0_10)] (.slice A2 ld.length c2)) 25 (0, 0)) by
        have h := HI.out.bo
        have hsz := HSZ.out
        rw [List.take_of_length_le (by omega), HIX.out, HN.out, HO.out] at h
        rw [← onlyN_all]
        exact h)
      have HBR := Aside0.mk HI.out.br
      have HBB := Aside0.mk HI.out.bel
      obtain rfl := hcl
      have hms := HBO.out
      rw [msg_lit] at hms
      have hmr := HBR.out
      rw [msg_lit] at hmr
      have r0 : wr.cell? ⟨w.heap.size + 1 + 1, 0, none⟩ = some (.int .i64 a0_0) := (blk_cell hms 0).trans rfl
      have s0 : wr.cell? ⟨w.heap.size + 1, 0, none⟩ = some (.int .i64 0) := (blk_cell hmr 0).trans rfl
      have u0_ : wr.frozen? ⟨w.heap.size + 1, 0, none⟩ = false := blk_frozen hmr 0
      have r1 : wr.cell? ⟨w.heap.size + 1 + 1, 1, none⟩ = some (.int .i64 (onlyF a0_0 1 a0_1)) := (blk_cell hms 1).trans rfl
      have s1 : wr.cell? ⟨w.heap.size + 1, 1, none⟩ = some (.int .i64 0) := (blk_cell hmr 1).trans rfl
      have u1_ : wr.frozen? ⟨w.heap.size + 1, 1, none⟩ = false := blk_frozen hmr 1
      have r2 : wr.cell? ⟨w.heap.size + 1 + 1, 2, none⟩ = some (.int .i64 a0_2) := (blk_cell hms 2).trans rfl
      have s2 : wr.cell? ⟨w.heap.size + 1, 2, none⟩ = some (.int .i64 0) := (blk_cell hmr 2).trans rfl
      have u2_ : wr.frozen? ⟨w.heap.size + 1, 2, none⟩ = false := blk_frozen hmr 2
      have r3 : wr.cell? ⟨w.heap.size + 1 + 1, 3, none⟩ = some (.int .i64 (onlyF a0_0 3 a0_3)) := (blk_cell hms 3).trans rfl
      have s3 : wr.cell? ⟨w.heap.size + 1, 3, none⟩ = some (.int .i64 0) := (blk_cell hmr 3).trans rfl
      have u3_ : wr.frozen? ⟨w.heap.size + 1, 3, none⟩ = false := blk_frozen hmr 3
      have r4 : wr.cell? ⟨w.heap.size + 1 + 1, 4, none⟩ = some (.int .i64 (onlyF a0_0 4 a0_4)) := (blk_cell hms 4).trans rfl
      have s4 : wr.cell? ⟨w.heap.size + 1, 4, none⟩ = some (.int .i64 0) := (blk_cell hmr 4).trans rfl
      have u4_ : wr.frozen? ⟨w.heap.size + 1, 4, none⟩ = false := blk_frozen hmr 4
      have r5 : wr.cell? ⟨w.heap.size + 1 + 1, 5, none⟩ = some (.int .i64 (onlyF a0_0 5 a0_5)) := (blk_cell hms 5).trans rfl
      have s5 : wr.cell? ⟨w.heap.size + 1, 5, none⟩ = some (.int .i64 0) := (blk_cell hmr 5).trans rfl
      have u5_ : wr.frozen? ⟨w.heap.size + 1, 5, none⟩ = false := blk_frozen hmr 5
      have r6 : wr.cell? ⟨w.heap.size + 1 + 1, 6, none⟩ = some (.int .i64 (onlyF a0_0 6 a0_6)) := (blk_cell hms 6).trans rfl
      have s6 : wr.cell? ⟨w.heap.size + 1, 6, none⟩ = some (.int .i64 0) := (blk_cell hmr 6).trans rfl
      have u6_ : wr.frozen? ⟨w.heap.size + 1, 6, none⟩ = false := blk_frozen hmr 6
      have r7 : wr.cell? ⟨w.heap.size + 1 + 1, 7, none⟩ = some (.int .i64 (onlyF a0_0 7 a0_7)) := (blk_cell hms 7).trans rfl
      have s7 : wr.cell? ⟨w.heap.size + 1, 7, none⟩ = some (.int .i64 0) := (blk_cell hmr 7).trans rfl
      have u7_ : wr.frozen? ⟨w.heap.size + 1, 7, none⟩ = false := blk_frozen hmr 7
      have r8 : wr.cell? ⟨w.heap.size + 1 + 1, 8, none⟩ = some (.int .i64 (onlyF a0_0 8 a0_8)) := (blk_cell hms 8).trans rfl
      have s8 : wr.cell? ⟨w.heap.size + 1, 8, none⟩ = some (.int .i64 0) := (blk_cell hmr 8).trans rfl
      have u8_ : wr.frozen? ⟨w.heap.size + 1, 8, none⟩ = false := blk_frozen hmr 8
      have r9 : wr.cell? ⟨w.heap.size + 1 + 1, 9, none⟩ = some (.int .i64 (onlyF a0_0 9 a0_9)) := (blk_cell hms 9).trans rfl
      have s9 : wr.cell? ⟨w.heap.size + 1, 9, none⟩ = some (.int .i64 0) := (blk_cell hmr 9).trans rfl
      have u9_ : wr.frozen? ⟨w.heap.size + 1, 9, none⟩ = false := blk_frozen hmr 9
      have r10 : wr.cell? ⟨w.heap.size + 1 + 1, 10, none⟩ = some (.int .i64 (onlyF a0_0 10 a0_10)) := (blk_cell hms 10).trans rfl
      have s10 : wr.cell? ⟨w.heap.size + 1, 10, none⟩ = some (.int .i64 0) := (blk_cell hmr 10).trans rfl
      have u10_ : wr.frozen? ⟨w.heap.size + 1, 10, none⟩ = false := blk_frozen hmr 10
      have r11 : wr.cell? ⟨w.heap.size + 1 + 1, 11, none⟩ = some (.slice A2 cp.length c2) := (blk_cell hms 11).trans rfl
      have s11 : wr.cell? ⟨w.heap.size + 1, 11, none⟩ = some (.slice none 0 0) := (blk_cell hmr 11).trans rfl
      have u11_ : wr.frozen? ⟨w.heap.size + 1, 11, none⟩ = false := blk_frozen hmr 11
      clear hms hmr HI
      go_wp2_with fail
      refine bodyPost_ret (results_cell_row rfl _ _ (w.heap.size + 1) 25 #[.int .i64 a0_0, .int .i64 (onlyF a0_0 1 a0_1), .int .i64 a0_2, .int .i64 (onlyF a0_0 3 a0_3), .int .i64 (onlyF a0_0 4 a0_4), .int .i64 (onlyF a0_0 5 a0_5), .int .i64 (onlyF a0_0 6 a0_6), .int .i64 (onlyF a0_0 7 a0_7), .int .i64 (onlyF a0_0 8 a0_8), .int .i64 (onlyF a0_0 9 a0_9), .int .i64 (onlyF a0_0 10 a0_10), .slice A2 cp.length c2] (0, 0) _ rfl (msg_fill HBR.out a0_0 (onlyF a0_0 1 a0_1) a0_2 (onlyF a0_0 3 a0_3) (onlyF a0_0 4 a0_4) (onlyF a0_0 5 a0_5) (onlyF a0_0 6 a0_6) (onlyF a0_0 7 a0_7) (onlyF a0_0 8 a0_8) (onlyF a0_0 9 a0_9) (onlyF a0_0 10 a0_10) (.slice A2 cp.length c2)) Try.underlying25 rfl (by kernel_rfl)) rfl ?_
      refine ⟨_, rfl, ?_, msg_fillB HBB.out (by omega) _ _ _ _ _ _ _ _ _ _ _ _⟩
      exact Kd.R_lower (Kd.R_mono (Kd.R_step (Kd.R_bound HD.out) (fun k hk _ => fill_keep _ _ _ _ _ _ _ _ _ _ _ _ k (by have := hk.2.1; omega))) (fun _ _ => trivial)) (by omega)
end Go.Proofs.Ytkddlhcpplkpbaa.G
end
