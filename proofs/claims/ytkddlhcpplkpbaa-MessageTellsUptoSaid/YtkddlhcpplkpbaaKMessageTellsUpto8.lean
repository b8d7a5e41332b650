/- MessageTellsUpto: texts of this claim, packed: what the kit's print has written for it and own texts, without what its proof does not reach. -/
import Derived.Test.YtkddlhcpplkpbaaKMessageTellsUpto6
import Derived.Laws.IdiomCopy
set_option linter.unusedVariables false
set_option linter.unusedSimpArgs false
set_option linter.unusedSectionVars false
section
namespace WB
open Go Go.RowKit Go.Proofs.YtkddlhcpplkpbaaW.PrintWords Go.Proofs.YtkddlhcpplkpbaaW.PrintLast Go.Proofs.YtkddlhcpplkpbaaW.PrintMore
open Kd
theorem below_grown_own {w0 w w1 : World} {base : Nat} {row : Option Nat} (hb : Below base w0 w) (h : w.grownBy w1 row) (ho : ∀ k, row = some k → base ≤ k) (hs : base ≤ w.heap.size := by omega) : Below base w0 w1 := hb.trans ⟨h.os, h.tape, h.output, h.size, fun k hk => h.block k (by omega) (fun he => by have := ho k he.symm; omega)⟩
theorem grown_set {w w1 : World} {g j : Nat} {u : Value} (h : w.grownBy w1 (some g)) : w.grownBy (w1.setCell ⟨g, j, none⟩ u) (some g) :=
 have hs := Below.setCell (Below.refl g w1) (p := ⟨g, j, none⟩) (Nat.le_refl _) u
 ⟨hs.os.trans h.os, hs.tape.trans h.tape, hs.output.trans h.output, Nat.le_trans h.size hs.size, fun i hi hn => (Below.heap_setCell w1 ⟨g, j, none⟩ u i (fun he => hn (by rw [he]))).trans (h.block i hi hn)⟩
theorem below_alloc0 {B : Nat} {w w1 : World} (h : Below B w w1) (hb : B ≤ w1.heap.size) (o : Obj) : Below B w (w1.alloc o) := h.alloc hb o
theorem grown_drew {w w1 : World} {r : Option Nat} (h : w.grownBy w1 r) : w.grownBy w1.drew r := ⟨h.os, h.tape, h.output, h.size, h.block⟩
end WB
end
