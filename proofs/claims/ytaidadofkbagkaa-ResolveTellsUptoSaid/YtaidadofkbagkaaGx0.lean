-- Made by wip/tools/xprint.py (over the kit's print program) for this claim.
import Derived.Test.YtaidadofkbagkaaProg
import Derived.Below
import Derived.Deep.Draws
import Derived.Deep.AppendLies
import Derived.Maps.AppendAt
import Derived.OwnWalk
import Derived.Laws.BytesArg
import Derived.Laws.MakeOwn
import Derived.Laws.OwnMore
import Derived.Deep.OwnRows
import Derived.Tactics
import Derived.Lib.ConvBytes
import Derived.Laws.Slices
import Derived.WalkKit
import Derived.KernelRfl
import Derived.RowKit3
import Derived.Deep.LoopGhost
import Derived.Deep.QuietTactic
import Derived.BigQuiet
import Derived.WideLaws
import Derived.Deep.DeepCutAuto
import Derived.Deep.CutBlock
import Derived.Deep.RegionHeld3
import Derived.Laws.Rows
import Derived.Lib.AppendStr
import Derived.ArgAppend
import Derived.Laws.IdiomCopy
import Derived.OrdersHeld
import Derived.Laws.BitsLemmas
import Derived.RowKit
import Derived.Lib.SliceRun
import Derived.Laws.BitsAllLaws
import Derived.Test.YtaidadofkbagkaaQBase
import Derived.Test.YtaidadofkbagkaaQOpen
import Derived.Test.YtaidadofkbagkaaQKd
import Derived.Test.YtaidadofkbagkaaQReg
import Derived.Test.YtaidadofkbagkaaQRows
import Derived.Test.YtaidadofkbagkaaQFar
import Derived.Test.YtaidadofkbagkaaWWords
import Derived.Test.YtaidadofkbagkaaWLast
import Derived.Test.YtaidadofkbagkaaWTab
import Derived.Test.YtaidadofkbagkaaWFour
import Derived.Test.YtaidadofkbagkaaWQPut
import Derived.Test.YtaidadofkbagkaaWApart
import Derived.Test.YtaidadofkbagkaaWArr
import Derived.Test.YtaidadofkbagkaaWZeros
import Derived.Test.YtaidadofkbagkaaWFoot
import Derived.Test.YtaidadofkbagkaaWKept
import Derived.Test.YtaidadofkbagkaaWShare
import Derived.Test.YtaidadofkbagkaaWN
import Derived.Test.YtaidadofkbagkaaWFootNe
import Derived.Test.YtaidadofkbagkaaWAt
import Derived.Test.YtaidadofkbagkaaWEqStruct
import Derived.Test.YtaidadofkbagkaaWRepsOne
import Derived.Test.YtaidadofkbagkaaWInv
import Derived.Test.YtaidadofkbagkaaWInvWords
import Derived.Test.YtaidadofkbagkaaWGuard
import Derived.Test.YtaidadofkbagkaaWNEv
import Derived.Test.YtaidadofkbagkaaWMore
namespace Go.Proofs.Ytaidadofkbagkaa.G
open WB Go.RowKit Go.Proofs.YtaidadofkbagkaaW.PrintWords Go.Proofs.YtaidadofkbagkaaW.PrintLast Go.Proofs.YtaidadofkbagkaaW.PrintMore
attribute [local go_sem] max2_int min2_int max_two min_two max_three min_three max_four min_four   -- for this text's walks alone
set_option linter.unusedVariables false
set_option linter.unusedSimpArgs false



def errW : Option Int → Value
  | none => .nilIface
  | some c => .iface 0 (.int .i64 c)
theorem errW_none : errW none = .nilIface := rfl
theorem errW_some (c : Int) : errW (some c) = .iface 0 (.int .i64 c) := rfl

theorem info3 : (Try.prog.info? 3).map (fun i => (i.zero, i.size, i.bytes)) = some (some (.int .i64 0), 1, 8) := by kernel_rfl
theorem info24 : (Try.prog.info? 24).map (fun i => (i.zero, i.size, i.bytes)) = some (some (.agg #[(.int .i64 0), (.slice none 0 0)]), 2, 32) := by kernel_rfl
theorem info26 : (Try.prog.info? 26).map (fun i => (i.zero, i.size, i.bytes)) = some (some (.int .i64 0), 1, 8) := by kernel_rfl
theorem info36 : (Try.prog.info? 36).map (fun i => (i.zero, i.size, i.bytes)) = some (some (.agg #[(.int .i64 0), (.int .i64 0)]), 2, 16) := by kernel_rfl
-- the values' own types
/-! #### struct type 36 -/
structure S36 where
  f0 : Int
  f1 : Int
def z36 : S36 := ⟨(0 : Int), (0 : Int)⟩
def k36 : Kd S36 := Kd.iso (Kd.pair (Kd.int .i64) (Kd.int .i64)) (fun x : S36 => (x.f0, x.f1))
theorem k36_heap : Kd.Heap k36 := Kd.heap_iso _ (Kd.heap_pair (Kd.heap_int .i64) (Kd.heap_int .i64))
theorem k36_open {w : World} {x : S36} {cs : List Value} (h : k36.K w x cs) : cs = [.int .i64 x.f0, .int .i64 x.f1] := by
  obtain ⟨_, _, rfl, rfl, rfl⟩ := h
  exact rfl
theorem k36_openM {w : World} {base : Nat} {ok : Nat → Prop} {x : S36} {cs : List Value} (h : k36.M w base ok x cs) : cs = [.int .i64 x.f0, .int .i64 x.f1] := by
  obtain ⟨_, _, rfl, rfl, rfl⟩ := h
  exact rfl
theorem k36_mk (w : World) (x : S36)  : k36.K w x [.int .i64 x.f0, .int .i64 x.f1] := ⟨[.int .i64 x.f0], [.int .i64 x.f1], rfl, rfl, rfl⟩
theorem k36_mkM (w : World) (base : Nat) (ok : Nat → Prop) (x : S36)  : k36.M w base ok x [.int .i64 x.f0, .int .i64 x.f1] := ⟨[.int .i64 x.f0], [.int .i64 x.f1], rfl, rfl, rfl⟩
theorem k36_mkF (W : World) (ok : Nat → Prop) (x : S36) : Kd.FK k36 W ok x [.int .i64 x.f0, .int .i64 x.f1] := fun W2 _ => k36_mk W2 x
def rd_T36 (xs : List S36) (i : Int) : S36 := xs.getD i.toNat z36
theorem at_T36 {w : World} {A : Option Addr} {n : Nat} {xs : List S36} (h : Kd.C k36 w A n xs) (i : Int) (h0 : 0 ≤ i) (h1 : i < n) : ∃ ad , A = some ad ∧ w.cell? (ad.add (i.toNat * 2)) = some (.int .i64 (rd_T36 xs i).f0) ∧ w.cell? ⟨(ad.add (i.toNat * 2)).block, (ad.add (i.toNat * 2)).off + 1, none⟩ = some (.int .i64 (rd_T36 xs i).f1) := by
  obtain ⟨ad, c, e, _, hK, hc0⟩ := Kd.C_get h z36 i h0 h1
  have hc : ∀ j u, c[j]? = some u → w.cell? (ad.add (i.toNat * 2 + j)) = some u := hc0
  obtain rfl := k36_open hK
  exact ⟨ad, e, hc 0 _ rfl, by rw [← add_field _ _ 1 (by omega)]; exact hc 1 _ rfl⟩

def rd_L2 (xs : List (List S36)) (i : Int) : (List S36) := xs.getD i.toNat ([] : List S36)
theorem at_L2 {w : World} {A : Option Addr} {n : Nat} {xs : List (List S36)} (h : Kd.C (Kd.slice 36 k36) w A n xs) (i : Int) (h0 : 0 ≤ i) (h1 : i < n) : ∃ ad A0 c0, A = some ad ∧ w.cell? (ad.add i.toNat) = some (.slice A0 (rd_L2 xs i).length c0) ∧ (rd_L2 xs i).length ≤ c0 ∧ k36.C w A0 (rd_L2 xs i).length (rd_L2 xs i) := by
  obtain ⟨ad, c, e, _, hK, hc0⟩ := Kd.C_get h ([] : List S36) i h0 h1
  have hc : ∀ j u, c[j]? = some u → w.cell? (ad.add (i.toNat * 1 + j)) = some u := hc0
  obtain ⟨A0, c0, rfl, l0, g0⟩ := hK
  exact ⟨ad, A0, c0, e, by have hq := hc 0 _ rfl; rwa [Nat.mul_one, Nat.add_zero] at hq, l0, g0⟩

/-! #### struct type 24 -/
structure S24 where
  f0 : Int
  f1 : (List S36)
def z24 : S24 := ⟨(0 : Int), ([] : List S36)⟩
def k24 : Kd S24 := Kd.iso (Kd.pair (Kd.int .i64) (Kd.slice 36 k36)) (fun x : S24 => (x.f0, x.f1))
theorem k24_heap : Kd.Heap k24 := Kd.heap_iso _ (Kd.heap_pair (Kd.heap_int .i64) (Kd.heap_slice 36 k36_heap))
theorem k24_open {w : World} {x : S24} {cs : List Value} (h : k24.K w x cs) : ∃ A1 c1, cs = [.int .i64 x.f0, .slice A1 x.f1.length c1] ∧ x.f1.length ≤ c1 ∧ k36.C w A1 x.f1.length x.f1 := by
  obtain ⟨_, _, rfl, rfl, ⟨A1, c1, rfl, l1, g1⟩⟩ := h
  exact ⟨A1, c1, rfl, l1, g1⟩
theorem k24_openM {w : World} {base : Nat} {ok : Nat → Prop} {x : S24} {cs : List Value} (h : k24.M w base ok x cs) : ∃ v1, cs = [.int .i64 x.f0, v1] ∧ k36.R 36 w base ok v1 x.f1 := by
  obtain ⟨_, _, rfl, rfl, ⟨v1, rfl, g1⟩⟩ := h
  exact ⟨v1, rfl, g1⟩
theorem k24_mk (w : World) (x : S24) {A1 : Option Addr} {c1 : Nat} (l1 : x.f1.length ≤ c1) (g1 : k36.C w A1 x.f1.length x.f1) : k24.K w x [.int .i64 x.f0, .slice A1 x.f1.length c1] := ⟨[.int .i64 x.f0], [.slice A1 x.f1.length c1], rfl, rfl, ⟨A1, c1, rfl, l1, g1⟩⟩
theorem k24_mkM (w : World) (base : Nat) (ok : Nat → Prop) (x : S24) {v1 : Value} (g1 : k36.R 36 w base ok v1 x.f1) : k24.M w base ok x [.int .i64 x.f0, v1] := ⟨[.int .i64 x.f0], [v1], rfl, rfl, ⟨v1, rfl, g1⟩⟩
theorem k24_openF {W : World} {ok : Nat → Prop} {x : S24} {cs : List Value} (h : Kd.FK k24 W ok x cs) : ∃ A1 c1, cs = [.int .i64 x.f0, .slice A1 x.f1.length c1] ∧ x.f1.length ≤ c1 ∧ Kd.F k36 W ok A1 x.f1.length x.f1 := by
  obtain ⟨A1, c1, rfl, l1, _⟩ := k24_open (Kd.FK_now h)
  exact ⟨A1, c1, rfl, l1, (fun W' hW => by obtain ⟨A1_, c1_, he, l1_, g1_⟩ := k24_open (h W' hW); injection (Option.some.inj (show some (Value.slice A1 x.f1.length c1) = some (Value.slice A1_ x.f1.length c1_) from congrArg (fun l => l[1]?) he)) with ha_ _ _; rw [ha_]; exact g1_)⟩
theorem k24_mkF (W : World) (ok : Nat → Prop) (x : S24) {A1 : Option Addr} {c1 : Nat} (l1 : x.f1.length ≤ c1) (g1 : Kd.F k36 W ok A1 x.f1.length x.f1) : Kd.FK k24 W ok x [.int .i64 x.f0, .slice A1 x.f1.length c1] := fun W2 hW => k24_mk W2 x l1 (g1 W2 hW)
def rd_T24 (xs : List S24) (i : Int) : S24 := xs.getD i.toNat z24
theorem at_T24 {w : World} {A : Option Addr} {n : Nat} {xs : List S24} (h : Kd.C k24 w A n xs) (i : Int) (h0 : 0 ≤ i) (h1 : i < n) : ∃ ad A1 c1, A = some ad ∧ w.cell? (ad.add (i.toNat * 2)) = some (.int .i64 (rd_T24 xs i).f0) ∧ w.cell? ⟨(ad.add (i.toNat * 2)).block, (ad.add (i.toNat * 2)).off + 1, none⟩ = some (.slice A1 (rd_T24 xs i).f1.length c1) ∧ (rd_T24 xs i).f1.length ≤ c1 ∧ k36.C w A1 (rd_T24 xs i).f1.length (rd_T24 xs i).f1 := by
  obtain ⟨ad, c, e, _, hK, hc0⟩ := Kd.C_get h z24 i h0 h1
  have hc : ∀ j u, c[j]? = some u → w.cell? (ad.add (i.toNat * 2 + j)) = some u := hc0
  obtain ⟨A1, c1, rfl, l1, g1⟩ := k24_open hK
  exact ⟨ad, A1, c1, e, hc 0 _ rfl, by rw [← add_field _ _ 1 (by omega)]; exact hc 1 _ rfl, l1, g1⟩

def rd_L4 (xs : List (List S24)) (i : Int) : (List S24) := xs.getD i.toNat ([] : List S24)
theorem at_L4 {w : World} {A : Option Addr} {n : Nat} {xs : List (List S24)} (h : Kd.C (Kd.slice 24 k24) w A n xs) (i : Int) (h0 : 0 ≤ i) (h1 : i < n) : ∃ ad A0 c0, A = some ad ∧ w.cell? (ad.add i.toNat) = some (.slice A0 (rd_L4 xs i).length c0) ∧ (rd_L4 xs i).length ≤ c0 ∧ k24.C w A0 (rd_L4 xs i).length (rd_L4 xs i) := by
  obtain ⟨ad, c, e, _, hK, hc0⟩ := Kd.C_get h ([] : List S24) i h0 h1
  have hc : ∀ j u, c[j]? = some u → w.cell? (ad.add (i.toNat * 1 + j)) = some u := hc0
  obtain ⟨A0, c0, rfl, l0, g0⟩ := hK
  exact ⟨ad, A0, c0, e, by have hq := hc 0 _ rfl; rwa [Nat.mul_one, Nat.add_zero] at hq, l0, g0⟩

def rd_L5 (xs : List (List Int)) (i : Int) : (List Int) := xs.getD i.toNat ([] : List Int)
theorem at_L5 {w : World} {A : Option Addr} {n : Nat} {xs : List (List Int)} (h : Kd.C (Kd.slice 3 (Kd.int .i64)) w A n xs) (i : Int) (h0 : 0 ≤ i) (h1 : i < n) : ∃ ad A0 c0, A = some ad ∧ w.cell? (ad.add i.toNat) = some (.slice A0 (rd_L5 xs i).length c0) ∧ (rd_L5 xs i).length ≤ c0 ∧ (Kd.int .i64).C w A0 (rd_L5 xs i).length (rd_L5 xs i) := by
  obtain ⟨ad, c, e, _, hK, hc0⟩ := Kd.C_get h ([] : List Int) i h0 h1
  have hc : ∀ j u, c[j]? = some u → w.cell? (ad.add (i.toNat * 1 + j)) = some u := hc0
  obtain ⟨A0, c0, rfl, l0, g0⟩ := hK
  exact ⟨ad, A0, c0, e, by have hq := hc 0 _ rfl; rwa [Nat.mul_one, Nat.add_zero] at hq, l0, g0⟩

def oddB (b : S36) : Bool := decide (b.f0 < 0) || decide (2147483647 < b.f0) || decide (b.f1 < 1) || decide (16 < b.f1)
def risesB : List S36 → Bool
  | [] => true
  | [_] => true
  | a :: b :: l => decide (a.f0 < b.f0) && risesB (b :: l)
def checkB (l : List S36) : Int := if 32 < l.length then 3 else if l.any oddB = true then 4 else if risesB l = false then 6 else 0
theorem risesB_snoc : ∀ (l : List S36) (a b : S36), risesB (l ++ [a, b]) = (risesB (l ++ [a]) && decide (a.f0 < b.f0))
  | [], a, b => by simp [risesB]
  | [x], a, b => by simp [risesB]
  | x :: y :: l, a, b => by
    have h := risesB_snoc (y :: l) a b
    simp only [List.cons_append] at h ⊢
    rw [risesB, h, risesB, Bool.and_assoc]
theorem risesB_step (l : List S36) (k : Nat) (h0 : 0 < k) (hk : k < l.length) : risesB (l.take (k + 1)) = (risesB (l.take k) && decide ((l.getD (k - 1) z36).f0 < (l.getD k z36).f0)) := by
  obtain ⟨m, rfl⟩ : ∃ m, k = m + 1 := ⟨k - 1, by omega⟩
  have e1 : l.take (m + 1) = l.take m ++ [l[m]'(by omega)] := List.take_succ_eq_append_getElem (by omega)
  have e2 : l.take (m + 1 + 1) = l.take m ++ [l[m]'(by omega), l[m + 1]'hk] := by rw [List.take_succ_eq_append_getElem hk, e1, List.append_assoc]; rfl
  rw [e2, risesB_snoc, ← e1]
  simp [List.getElem?_eq_getElem hk, List.getElem?_eq_getElem (show m < l.length by omega)]
theorem risesB_app : ∀ (l m : List S36), risesB (l ++ m) = true → risesB l = true
  | [], _, _ => rfl
  | [_], _, _ => rfl
  | a :: b :: l, m, h => by
    simp only [List.cons_append] at h
    rw [risesB, Bool.and_eq_true] at h ⊢
    exact ⟨h.1, risesB_app (b :: l) m (by simpa using h.2)⟩
theorem risesB_false (l : List S36) (k : Nat) (h : risesB (l.take k) = false) : risesB l = false := by
  cases hl : risesB l with
  | false => rfl
  | true =>
    rw [← List.take_append_drop k l] at hl
    rw [risesB_app _ _ hl] at h
    cases h

/-- May a snapshot be? -/
def checkS (v : Int) (l : List S36) : Int := if v < 0 then 4 else if v > 1073741824 then 4 else checkB l
def checksS : List S24 → Int
  | [] => 0
  | s :: r => if checkS s.f0 s.f1 = 0 then checksS r else checkS s.f0 s.f1
/-- One more snapshot. -/
def takeS (o : (Int × List S36) × Int) (s : S24) : (Int × List S36) × Int := if o.1.1 < s.f0 then ((s.f0, s.f1), o.2 + 1) else o
def takesS (v : Int) (l : List S36) (ss : List S24) : (Int × List S36) × Int := ss.foldl takeS ((v, l), 0)
def bothS (v : Int) (l : List S36) (ss : List S24) : Int := if checkS v l = 0 then checksS ss else checkS v l
def applyS (v : Int) (l : List S36) (ss : List S24) : Int × List S36 × Int × Int :=
  if bothS v l ss = 0 then ((takesS v l ss).1.1, (takesS v l ss).1.2, (takesS v l ss).2, 0) else (0, [], 0, bothS v l ss)
theorem checkB_len (l : List S36) (h : checkB l = 0) : l.length ≤ 32 := by
  unfold checkB at h
  split at h
  · cases h
  · omega
theorem checkS_len (v : Int) (l : List S36) (h : checkS v l = 0) : l.length ≤ 32 := by
  unfold checkS at h
  split at h
  · cases h
  · split at h
    · cases h
    · exact checkB_len l h
theorem checksS_mem : ∀ (ss : List S24), checksS ss = 0 → ∀ s ∈ ss, checkS s.f0 s.f1 = 0
  | [], _, s, h => by cases h
  | x :: r, h, s, hs => by
    unfold checksS at h
    split at h
    · rename_i h1
      rcases List.mem_cons.1 hs with rfl | hs
      · exact h1
      · exact checksS_mem r h s hs
    · rename_i h1; exact absurd h h1
theorem bothS_zero {v : Int} {l : List S36} {ss : List S24} (h : bothS v l ss = 0) : checkS v l = 0 ∧ checksS ss = 0 := by
  unfold bothS at h
  split at h
  · rename_i h1; exact ⟨h1, h⟩
  · rename_i h1; exact absurd h h1
theorem takes_snoc (v : Int) (l : List S36) (ss : List S24) (s : S24) : takesS v l (ss ++ [s]) = takeS (takesS v l ss) s := by
  unfold takesS
  rw [List.foldl_append]
  rfl
theorem takes_bound (v : Int) (l : List S36) (ss : List S24) : 0 ≤ (takesS v l ss).2 ∧ (takesS v l ss).2 ≤ ss.length := by
  unfold takesS
  have : ∀ (ss : List S24) (o : (Int × List S36) × Int), o.2 ≤ (ss.foldl takeS o).2 ∧ (ss.foldl takeS o).2 ≤ o.2 + ss.length := by
    intro ss
    induction ss with
    | nil => intro o; simp
    | cons s r ih =>
      intro o
      have h := ih (takeS o s)
      have h2 : o.2 ≤ (takeS o s).2 ∧ (takeS o s).2 ≤ o.2 + 1 := by unfold takeS; split <;> (first | omega | (dsimp only; omega))
      simp only [List.foldl_cons, List.length_cons]
      omega
  have h := this ss ((v, l), 0)
  simpa using h
theorem checkS_even (v : Int) (l : List S36) (h : checkS v l = 0) : l.length ≤ 32 ∧ ∀ x ∈ l, oddB x = false := by
  refine ⟨checkS_len v l h, fun x hx => ?_⟩
  unfold checkS at h
  split at h
  · cases h
  · split at h
    · cases h
    · unfold checkB at h
      split at h
      · cases h
      · split at h
        · cases h
        · rename_i h1
          cases ho : oddB x with
          | false => rfl
          | true => exact absurd (List.any_eq_true.2 ⟨x, hx, ho⟩) h1

end Go.Proofs.Ytaidadofkbagkaa.G
