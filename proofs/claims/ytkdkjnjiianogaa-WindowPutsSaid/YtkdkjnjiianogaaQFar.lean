/- Own words: what a fresh block is not. -/
import Derived.Test.YtkdkjnjiianogaaQRows
namespace WB
open Go Go.RowKit
theorem far_fresh {w : World} {a : Addr} {v : Value} {m n : Nat} (h : w.cell? a = some v) (g : w.heap.size ≤ n) (e : m = a.block := by first | rfl | (simp only [Go.Proofs.YtkdkjnjiianogaaW.PrintWords.add_block])) : m ≠ n := by
  rw [e]
  exact Nat.ne_of_lt (Nat.lt_of_lt_of_le (World.block_lt_of_cell? _ _ h) g)
end WB
