-- Made by wip/tools/xprint.py (over the kit's print program) for this claim.
import Derived.Maps.Own
import Derived.Maps.OwnOps
import Derived.Maps.OwnSet
import Derived.Maps.Views
import Derived.Test.YtaidadofkbagkaaGx0
namespace Go.Proofs.Ytaidadofkbagkaa.G
open WB Go.RowKit Go.Proofs.YtaidadofkbagkaaW.PrintWords Go.Proofs.YtaidadofkbagkaaW.PrintLast Go.Proofs.YtaidadofkbagkaaW.PrintMore
attribute [local go_sem] max2_int min2_int max_two min_two max_three min_three max_four min_four   -- for this text's walks alone
set_option linter.unusedVariables false
set_option linter.unusedSimpArgs false

/-! ### resolve_weights: function 31 -/
theorem law_id : Go.Maps.Keyed Try.prog 3 := Go.Maps.int_keyed Try.underlying3
theorem zero_id (w : World) : (zeroValue 3).run Try.prog w = .ok (.int .i64 0) w := by kernel_rfl
def mapD (l : List S36) : DataW Unit := l.foldl (fun m x => m.put (.int .i64 x.f0) (.lit (.int .i64 x.f1))) (.map [])
theorem mapD_snoc (l : List S36) (x : S36) : mapD (l ++ [x]) = (mapD l).put (.int .i64 x.f0) (.lit (.int .i64 x.f1)) := by
  unfold mapD
  rw [List.foldl_append]
  rfl
/-- What is kept of an ID. -/
def wOf (l : List S36) (id : Int) : Int × Bool := l.foldl (fun o x => if x.f0 = id then (x.f1, true) else o) (0, false)
theorem wOf_snoc (l : List S36) (x : S36) (id : Int) : wOf (l ++ [x]) id = if x.f0 = id then (x.f1, true) else wOf l id := by
  unfold wOf
  rw [List.foldl_append]
  rfl
theorem mapD_reads (l : List S36) (id : Int) : Go.Maps.IsMap (mapD l) ∧ (mapD l).atKey (.int .i64 id) (.lit (.int .i64 0)) = .lit (.int .i64 (wOf l id).1) ∧ Go.Maps.has (mapD l) (.int .i64 id) = (wOf l id).2 := by
  have key : ∀ r : List S36, (fun l => Go.Maps.IsMap (mapD l) ∧ (mapD l).atKey (.int .i64 id) (.lit (.int .i64 0)) = .lit (.int .i64 (wOf l id).1) ∧ Go.Maps.has (mapD l) (.int .i64 id) = (wOf l id).2) r.reverse := by
    intro r
    induction r with
    | nil => exact ⟨Go.Maps.isMap_empty, rfl, rfl⟩
    | cons x r ih =>
      obtain ⟨h1, h2, h3⟩ := ih
      rw [List.reverse_cons]
      rw [mapD_snoc, wOf_snoc]
      refine ⟨h1.put _ _, ?_, ?_⟩
      · by_cases he : x.f0 = id
        · rw [if_pos he, ← he]
          exact Go.Maps.atKey_put_same h1 (show WideAt.IsKeyLit (.int .i64 x.f0) from trivial) _ _
        · rw [if_neg he, ← h2]
          exact Go.Maps.atKey_put_other (fun h => he (by injection h with _ h; exact h.symm)) _ _
      · by_cases he : x.f0 = id
        · rw [if_pos he, ← he]
          exact Go.Maps.has_put_same h1 (show WideAt.IsKeyLit (.int .i64 x.f0) from trivial) _
        · rw [if_neg he, ← h3]
          exact Go.Maps.has_put_other (fun h => he (by injection h with _ h; exact h.symm)) _
  have := key l.reverse
  rwa [List.reverse_reverse] at this
theorem even_wf (b : S36) (h : oddB b = false) : (Lit.int .i64 b.f0).wf = true ∧ (Lit.int .i64 b.f1).wf = true := by
  simp only [oddB, Bool.or_eq_false_iff, decide_eq_false_iff_not] at h
  exact ⟨WalkArith.wf_i64 (by omega), WalkArith.wf_i64 (by omega)⟩
/-- Block b is the map of these backends. -/
def IsW (w : World) (b : Nat) (l : List S36) : Prop := w.ownsMap Try.prog 3 (plainElem Try.prog 3) b l.length (mapD l)
theorem IsW.below {w w1 : World} {b : Nat} {l : List S36} (h : IsW w b l) (hb : Below w.heap.size w w1) : IsW w1 b l := World.ownsMap.kept h (grown_of_below hb none) (by simp)
set_option maxHeartbeats 2000000 in
set_option maxRecDepth 100000 in
theorem weights_any (v : Int) (A : Option Addr) (c : Nat) (l : List S36) (w : World) (hr : Kd.C k36 w A l.length l) (hc : l.length ≤ c) (hod : ∀ x ∈ l, oddB x = false) (hle : l.length ≤ 32) :
    Calls Try.prog 31 #[.agg #[.int .i64 v, .slice A l.length c]] w fun e w' => ∃ b, e = .returned (.map (some b)) ∧ w.heap.size ≤ b ∧ IsW w' b l ∧ Below w.heap.size w w' := by
  have HR := Aside0.mk hr
  have HO := Aside0.mk hod
  clear hr hod
  have hmm := @run_makeMap Try.prog
  go_enter Try.func31, Try.ntmps31
  go_wp2
  clear hmm
  go_loopw [10] (fun v10 wr => ∃ k : Nat, v10 = .int .i64 k ∧ k ≤ l.length ∧ Aside0 (wr.ownsMap Try.prog 3 (plainElem Try.prog 3) (w.heap.size + 1) k (mapD (l.take k))) ∧ Aside0 (Below w.heap.size w wr)) (fun v10 _ => l.length - (intOf v10).toNat)
  case atStart =>
    refine ⟨0, rfl, by omega, ⟨?_⟩, ⟨below_alloc (below_alloc (Below.refl _ _) _) _⟩⟩
    have := World.ownsMap_made (w.alloc (.cells #[.int .i64 v, .slice A l.length c] 24)) Try.prog 3 (plainElem (H := Unit) Try.prog 3)
    rw [World.size_alloc] at this
    exact this
  case round =>
    obtain ⟨k, rfl, hk, HM, HB⟩ := hrel
    by_cases hlt : k < l.length
    · obtain ⟨ad, e1, q0, q1⟩ := at_T36 (Kd.C_below HR.out HB.out) (k : Int) (by omega) (by omega)
      simp only [Int.toNat_natCast] at q0 q1
      obtain ⟨d, hd⟩ : ∃ d, d = rd_T36 l (k : Int) := ⟨_, rfl⟩
      rw [← hd] at q0 q1
      have HD : Aside0 (l.take (k + 1) = l.take k ++ [d]) := ⟨by
        rw [List.take_succ_eq_append_getElem hlt, hd]; simp [rd_T36, List.getElem?_eq_getElem hlt]⟩
      have HDm : Aside0 (d ∈ l) := ⟨by rw [hd]; simp [rd_T36, List.getElem?_eq_getElem hlt]⟩
      have HW := Aside0.mk (even_wf d (HO.out d HDm.out))
      have HKEY := Aside0.mk (Go.Maps.keyOf_int_mk Try.underlying3 HW.out.1)
      have b1 : decide ((k : Int) < (l.length : Int)) = true := decide_eq_true (by omega)
      have b1' : decide (k < l.length) = true := decide_eq_true hlt
      clear hd
      subst e1
      have HM1 := Aside0.mk (World.ownsMap.alloc HM.out (.cells #[.int .i64 d.f0, .int .i64 d.f1] 36))
      go_wp2_with (at_mapUpdate; refine wpList_mapUpdate_own _ rfl _ _ _ 69 rfl 3 3 law_id Try.underlying69 _ (w.heap.size + 1) k _ rfl HM1.out (by unfold maxLen; omega) _ _ _ rfl rfl HKEY.out _ [] (plainElem_int Try.underlying3 HW.out.2) ?_; intro w1 hown1 hgrow1)
      go_roundw
      case rel =>
        refine ⟨k + 1, by go_num, by omega, ⟨?_⟩, ⟨below_grown_own (below_alloc HB.out (.cells #[.int .i64 d.f0, .int .i64 d.f1] 36)) hgrow1 (fun q hq => by injection hq with hq; omega) (by simp; have := HB.out.size; omega)⟩⟩
        rw [HD.out, mapD_snoc]
        exact hown1
      case measure => simp [intOf]; omega
    · have b1 : decide ((k : Int) < (l.length : Int)) = false := decide_eq_false (by omega)
      have b1' : decide (k < l.length) = false := decide_eq_false hlt
      obtain rfl : k = l.length := by omega
      go_wp2
      go_ret
      have h := HM.out
      rw [List.take_of_length_le (Nat.le_refl _)] at h
      exact ⟨_, rfl, by omega, h, HB.out⟩

end Go.Proofs.Ytaidadofkbagkaa.G
