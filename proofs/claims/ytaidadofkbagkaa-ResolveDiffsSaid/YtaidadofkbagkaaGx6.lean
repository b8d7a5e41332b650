-- Made by wip/tools/xprint.py (over the kit's print program) for this claim.
import Derived.Test.YtaidadofkbagkaaGx0
namespace Go.Proofs.Ytaidadofkbagkaa.G
open WB Go.RowKit Go.Proofs.YtaidadofkbagkaaW.PrintWords Go.Proofs.YtaidadofkbagkaaW.PrintLast Go.Proofs.YtaidadofkbagkaaW.PrintMore
attribute [local go_sem] max2_int min2_int max_two min_two max_three min_three max_four min_four   -- for this text's walks alone
set_option linter.unusedVariables false
set_option linter.unusedSimpArgs false

/-! ### resolve_feed_take: function 29 -/
set_option maxHeartbeats 2000000 in
set_option maxRecDepth 100000 in
theorem feed_take (g : Nat) (v n x : Int) (A B : Option Addr) (a c b d : Nat) (w : World) (hg : w.heap[g]? = some (.cells #[.int .i64 v, .slice A a c, .int .i64 n] 66 (0, 0))) (hn : 0 ≤ n ∧ n < 9223372036854775807) :
    Calls Try.prog 29 #[.pointer (some ⟨g, 0, none⟩), .agg #[.int .i64 x, .slice B b d]] w fun e w' => e = .returned (.tuple #[]) ∧ w'.heap[g]? = some (.cells (if v < x then #[.int .i64 x, .slice B b d, .int .i64 (n + 1)] else #[.int .i64 v, .slice A a c, .int .i64 n]) 66 (0, 0)) ∧ w.grownBy w' (some g) := by
  have b0 := blk_cell hg 0
  have b1 := blk_cell hg 1
  have b2 := blk_cell hg 2
  have f0 := blk_frozen hg 0
  have f1 := blk_frozen hg 1
  have f2 := blk_frozen hg 2
  have hlt := blk_lt hg
  have HG := Aside0.mk hg
  simp at b0 b1 b2
  clear hg
  have HB := fun (o : Obj) => Aside0.mk (grown_of_below (below_alloc (Below.refl w.heap.size w) o) (some g))
  have HB' := Aside0.mk HB
  clear HB
  by_cases h : v < x
  · have t0 : decide (v < x) = true := decide_eq_true h
    have HE : Aside0 ((if v < x then #[.int .i64 x, .slice B b d, .int .i64 (n + 1)] else #[.int .i64 v, .slice A a c, .int .i64 n]) = (#[.int .i64 x, .slice B b d, .int .i64 (n + 1)] : Array Value)) := ⟨if_pos h⟩
    rw [HE.out]
    clear h HE
    go_enter Try.func29, Try.ntmps29
    go_wp2
    go_quiet (fail)
    go_wp2
    go_end0
    exact ⟨rfl, blk_put (cs := #[.int .i64 x, .slice B b d, .int .i64 n]) (blk_put (cs := #[.int .i64 x, .slice A a c, .int .i64 n]) (blk_put (cs := #[.int .i64 v, .slice A a c, .int .i64 n]) (blk_drewN (blk_alloc HG.out _) _) 0 _ rfl) 1 _ rfl) 2 _ rfl, grown_set (grown_set (grown_set (grown_drewN (HB'.out _).out _)))⟩
  · have t0 : decide (v < x) = false := decide_eq_false h
    have HE : Aside0 ((if v < x then #[.int .i64 x, .slice B b d, .int .i64 (n + 1)] else #[.int .i64 v, .slice A a c, .int .i64 n]) = (#[.int .i64 v, .slice A a c, .int .i64 n] : Array Value)) := ⟨if_neg h⟩
    rw [HE.out]
    clear h HE
    go_enter Try.func29, Try.ntmps29
    go_wp2
    go_quiet (fail)
    go_wp2
    go_end0
    exact ⟨rfl, blk_drewN (blk_alloc HG.out _) _, grown_drewN (HB'.out _).out _⟩

end Go.Proofs.Ytaidadofkbagkaa.G
