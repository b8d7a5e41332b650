-- Made by wip/tools/xprint.py (over the kit's print program) for this claim.
import Derived.Test.YtbegdgdghiigpaaGx0
namespace Go.Proofs.Ytbegdgdghiigpaa.G
open WB Go.RowKit Go.Proofs.YtbegdgdghiigpaaW.PrintWords Go.Proofs.YtbegdgdghiigpaaW.PrintLast Go.Proofs.YtbegdgdghiigpaaW.PrintMore
attribute [local go_sem] max2_int min2_int max_two min_two max_three min_three max_four min_four   -- for this text's walks alone
set_option linter.unusedVariables false
set_option linter.unusedSimpArgs false

/-! ### ledger_book_turn: function 33 -/
/-- A ledger on its way. -/
structure Book (W : World) (base g gb c : Nat) (vl : Value) (bs : List Int) (L : List S44) : Prop where
  b0 : W.heap[g]? = some (.cells #[.slice (some ⟨gb, 0, none⟩) bs.length c, vl] 57 (0, 0))
  rb : Kd.R (Kd.int .i64) 3 W base (fun _ => True) (.slice (some ⟨gb, 0, none⟩) bs.length c) bs
  rl : Kd.R k44 44 W base (fun _ => True) vl L
theorem Book.below {W W1 : World} {base g gb c : Nat} {vl : Value} {bs : List Int} {L : List S44} (h : Book W base g gb c vl bs L) (hb : Below W.heap.size W W1) : Book W1 base g gb c vl bs L := ⟨blk_below h.b0 hb, Kd.R_below h.rb hb, Kd.R_below h.rl hb⟩
theorem Book.cell {W : World} {base g gb c : Nat} {vl : Value} {bs : List Int} {L : List S44} (h : Book W base g gb c vl bs L) (k : Nat) (hk : k < bs.length) : W.cell? ⟨gb, k, none⟩ = some (.int .i64 (bs.getD k 0)) ∧ W.frozen? ⟨gb, k, none⟩ = false := by
  obtain ⟨cs, h1, h2, h3, h4⟩ := Kd.R_elem h.rb 0 (k : Int) (by omega) (by omega)
  have h5 : cs = [.int .i64 (bs.getD k 0)] := h2
  refine ⟨?_, by simpa [Kd.int, Kd.scalar] using h4 0⟩
  have := h3 0 _ (by rw [h5]; rfl)
  simpa [Kd.int, Kd.scalar] using this
set_option maxHeartbeats 2000000 in
set_option maxRecDepth 100000 in
theorem book_turn (base g gb c : Nat) (vl : Value) (bs : List Int) (L : List S44) (k : Nat) (d : Int) (w : World) (hB : Book w base g gb c vl bs L) (hk : k < bs.length) (hx : 0 ≤ bs.getD k 0 ∧ bs.getD k 0 ≤ 1073741824) (hd : -1073741824 ≤ d ∧ d ≤ 1073741824) :
    Calls Try.prog 33 #[.pointer (some ⟨g, 0, none⟩), .int .i64 k, .int .i64 d] w fun e w' => e = .returned (.bool (turnL bs k d).2) ∧ Book w' base g gb c vl (turnL bs k d).1 L ∧ w.grownBy w' (some gb) := by
  have HB := Aside0.mk hB
  have b0 : w.cell? ⟨g, 0, none⟩ = some (.slice (some ⟨gb, 0, none⟩) bs.length c) := (blk_cell hB.b0 0).trans rfl
  obtain ⟨q0, f0⟩ := hB.cell k hk
  obtain ⟨x, hxx⟩ : ∃ x, x = bs.getD k 0 := ⟨_, rfl⟩
  rw [← hxx] at q0 hx
  have HX := Aside0.mk hxx
  have hlen : bs.length ≤ 9223372036854775807 := (Kd.R_reads' hB.rb).2.2.2.1
  obtain ⟨hx1, hx2⟩ := hx
  obtain ⟨hd1, hd2⟩ := hd
  clear hB hxx
  by_cases h1 : x + d < 0
  · have HE : Aside0 (turnL bs k d = (bs, false)) := ⟨by unfold turnL; rw [if_pos (by rw [← HX.out]; exact .inl h1)]⟩
    rw [HE.out]
    have t1 : decide (x + d < 0) = true := decide_eq_true h1
    go_enter Try.func33, Try.ntmps33
    go_wp2
    go_ret
    exact ⟨rfl, HB.out, World.grownBy.refl _ _⟩
  · by_cases h2 : 1073741824 < x + d
    · have HE : Aside0 (turnL bs k d = (bs, false)) := ⟨by unfold turnL; rw [if_pos (by rw [← HX.out]; exact .inr h2)]⟩
      rw [HE.out]
      have t1 : decide (x + d < 0) = false := decide_eq_false h1
      have t2 : decide (1073741824 < x + d) = true := decide_eq_true h2
      go_enter Try.func33, Try.ntmps33
      go_wp2
      go_ret
      exact ⟨rfl, HB.out, World.grownBy.refl _ _⟩
    · have HE : Aside0 (turnL bs k d = (bs.set k (x + d), true)) := ⟨by unfold turnL; rw [if_neg (by rw [← HX.out]; omega), ← HX.out]⟩
      rw [HE.out]
      have t1 : decide (x + d < 0) = false := decide_eq_false h1
      have t2 : decide (1073741824 < x + d) = false := decide_eq_false h2
      go_enter Try.func33, Try.ntmps33
      go_wp2
      go_ret
      have hp := Kd.R_put (g := gb) HB.out.rb (k : Int) (x + d)
      simp only [Int.toNat_natCast] at hp
      obtain ⟨hr, hg⟩ := hp
      refine ⟨rfl, ⟨?_, ?_, ?_⟩, hg⟩
      · rw [List.length_set]
        exact blk_far HB.out.b0 (p := ⟨gb, k, none⟩) (fun he => Kd.R_ne HB.out.rb HB.out.b0 (by decide) (by simp [Value.ownBlock, he])) _
      · rw [List.length_set]
        exact hr
      · exact Kd.R_over HB.out.rl HB.out.rb (by decide) hg

end Go.Proofs.Ytbegdgdghiigpaa.G
