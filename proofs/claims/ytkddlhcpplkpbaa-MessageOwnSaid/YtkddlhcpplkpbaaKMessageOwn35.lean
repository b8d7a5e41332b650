/- MessageOwn: texts of this claim, packed: what the kit's print has written for it and own texts, without what its proof does not reach. -/
import Derived.Test.YtkddlhcpplkpbaaKMessageOwn0
import Derived.Test.YtkddlhcpplkpbaaKMessageOwn2
import Derived.Test.YtkddlhcpplkpbaaKMessageOwn6
import Derived.Test.YtkddlhcpplkpbaaKMessageOwn13
import Derived.Test.YtkddlhcpplkpbaaKMessageOwn15
import Derived.Test.YtkddlhcpplkpbaaKMessageOwn16
import Derived.Test.YtkddlhcpplkpbaaKMessageOwn18
import Derived.Test.YtkddlhcpplkpbaaKMessageOwn19
import Derived.Test.YtkddlhcpplkpbaaKMessageOwn20
import Derived.Test.YtkddlhcpplkpbaaKMessageOwn21
import Derived.Test.YtkddlhcpplkpbaaKMessageOwn23
import Derived.Test.YtkddlhcpplkpbaaKMessageOwn24
import Derived.Test.YtkddlhcpplkpbaaKMessageOwn25
import Derived.Test.YtkddlhcpplkpbaaKMessageOwn26
import Derived.Test.YtkddlhcpplkpbaaKMessageOwn27
import Derived.Test.YtkddlhcpplkpbaaKMessageOwn28
import Derived.Test.YtkddlhcpplkpbaaKMessageOwn29
import Derived.Test.YtkddlhcpplkpbaaKMessageOwn30
import Derived.Test.YtkddlhcpplkpbaaKMessageOwn31
import Derived.Test.YtkddlhcpplkpbaaKMessageOwn32
import Derived.Test.YtkddlhcpplkpbaaKMessageOwn33
import Derived.Test.YtkddlhcpplkpbaaKMessageOwn34
import Derived.Laws.BitsAllLaws
import Derived.Laws.BitsLemmas
import Derived.WalkKit
set_option linter.unusedVariables false
set_option linter.unusedSimpArgs false
set_option linter.unusedSectionVars false
section
set_option linter.unusedVariables false
set_option linter.unusedSimpArgs false
namespace Go.Proofs.Ytkddlhcpplkpbaa.V
open WB Go Go.RowKit Go.Proofs.Ytkddlhcpplkpbaa.G Go.Proofs.YtkddlhcpplkpbaaW.PrintWords Go.Proofs.YtkddlhcpplkpbaaW.PrintLast Go.Proofs.YtkddlhcpplkpbaaW.PrintMore
theorem equal_l0 (a b : List Int) (hab : a.length = b.length) (hm : a.length ≤ 140737488355328) : ∀ (d i : Nat), i + d = a.length → Ev (fun k => slices_Equal_byte_byte.l0 k a b (a.length : Int) (i : Int)) (decide (a.drop i = b.drop i)) := by
  intro d
  induction d with
  | zero =>
    intro i hi
    refine ⟨1, fun k hk => ?_⟩
    obtain ⟨k, rfl⟩ : ∃ m, k = m + 1 := ⟨k - 1, by omega⟩
    show slices_Equal_byte_byte.l0 (k + 1) a b _ _ = _
    rw [slices_Equal_byte_byte.l0, if_neg (by omega), List.drop_of_length_le (by omega), List.drop_of_length_le (by omega)]
    simp
  | succ d ih =>
    intro i hi
    have hlt : i < a.length := by omega
    have hlt2 : i < b.length := by omega
    have ra : rd a (i : Int) = a[i] := by simp [rd, List.getElem?_eq_getElem hlt]
    have rb : rd b (i : Int) = b[i] := by simp [rd, List.getElem?_eq_getElem hlt2]
    have hw : wrap64 ((i : Int) + 1) = ((i + 1 : Nat) : Int) := by unfold wrap64; omega
    rw [show a.drop i = a[i] :: a.drop (i + 1) from List.drop_eq_getElem_cons hlt, show b.drop i = b[i] :: b.drop (i + 1) from List.drop_eq_getElem_cons hlt2]
    by_cases he : a[i] = b[i]
    · have h := ih (i + 1) (by omega)
      have e : decide (a[i] :: a.drop (i + 1) = b[i] :: b.drop (i + 1)) = decide (a.drop (i + 1) = b.drop (i + 1)) := decide_eq_decide.2 ⟨fun q => (List.cons.inj q).2, fun q => by rw [he, q]⟩
      rw [e]
      refine Ev.step (fun k => ?_) h
      show slices_Equal_byte_byte.l0 (k + 1) a b _ _ = _
      rw [slices_Equal_byte_byte.l0, if_pos (by omega), if_pos (by omega), if_pos (by omega), if_pos (by omega), ra, rb, if_pos he, hw]
    · refine ⟨1, fun k hk => ?_⟩
      obtain ⟨k, rfl⟩ : ∃ m, k = m + 1 := ⟨k - 1, by omega⟩
      show slices_Equal_byte_byte.l0 (k + 1) a b _ _ = _
      rw [slices_Equal_byte_byte.l0, if_pos (by omega), if_pos (by omega), if_pos (by omega), if_pos (by omega), ra, rb, if_neg he, decide_eq_false (fun q => he (List.cons.inj q).1)]
theorem equal_f (a b : List Int) (hm : a.length ≤ 140737488355328) : Ev (fun k => slices_Equal_byte_byte.f k a b) (decide (a = b)) := by
  unfold slices_Equal_byte_byte.f
  by_cases h : a.length = b.length
  · have := equal_l0 a b h hm a.length 0 (by omega)
    rw [List.drop_zero, List.drop_zero] at this
    refine Ev.congr (fun k => ?_) this
    rw [if_pos (by omega)]
    rfl
  · refine Ev.congr (fun k => ?_) (Ev.now _)
    rw [if_neg (by omega), decide_eq_false (fun he => h (by rw [he]))]
end Go.Proofs.Ytkddlhcpplkpbaa.V
end

section
set_option maxRecDepth 100000
set_option linter.unusedVariables false
set_option linter.unusedSimpArgs false
namespace Go.Proofs.Ytkddlhcpplkpbaa.V
open WB Go Go.RowKit Go.Proofs.Ytkddlhcpplkpbaa.G Go.Proofs.YtkddlhcpplkpbaaW.PrintWords Go.Proofs.YtkddlhcpplkpbaaW.PrintLast Go.Proofs.YtkddlhcpplkpbaaW.PrintMore
/-- A message's numbers. -/
def nums (x : S25) : List Int := [x.f0, x.f1, x.f2, x.f3, x.f4, x.f5, x.f6, x.f7, x.f8, x.f9, x.f10]
/-- What its kind uses, alone. -/
def numsO (x : S25) : List Int := [x.f0, onlyF x.f0 1 x.f1, x.f2, onlyF x.f0 3 x.f3, onlyF x.f0 4 x.f4, onlyF x.f0 5 x.f5, onlyF x.f0 6 x.f6, onlyF x.f0 7 x.f7, onlyF x.f0 8 x.f8, onlyF x.f0 9 x.f9, onlyF x.f0 10 x.f10]
/-- May a message be? -/
def chkM (x : S25) : Int := if ixOf x.f0 = [] then 23 else if ([x.f1, x.f2, x.f3, x.f4, x.f5, x.f6, x.f7, x.f8, x.f9, x.f10] : List Int).any outI = true then 4 else if x.f11.length > 1024 then 5 else if x.f11 = onlyL x.f0 x.f11 ∧ nums x = numsO x then 0 else 9
/-- Its octets. -/
def encM (x : S25) : List Int := encAll (x.f0 :: x.f2 :: (ixOf x.f0).map fun j => (nums x).getD j 0) ++ (if dat x.f0 = true then txt x.f11 else [])
theorem equali_l0 (a b : List Int) (hab : a.length = b.length) (hm : a.length ≤ 140737488355328) : ∀ (d i : Nat), i + d = a.length → Ev (fun k => slices_Equal_int_int.l0 k a b (a.length : Int) (i : Int)) (decide (a.drop i = b.drop i)) := by
  intro d
  induction d with
  | zero =>
    intro i hi
    refine ⟨1, fun k hk => ?_⟩
    obtain ⟨k, rfl⟩ : ∃ m, k = m + 1 := ⟨k - 1, by omega⟩
    show slices_Equal_int_int.l0 (k + 1) a b _ _ = _
    rw [slices_Equal_int_int.l0, if_neg (by omega), List.drop_of_length_le (by omega), List.drop_of_length_le (by omega)]
    simp
  | succ d ih =>
    intro i hi
    have hlt : i < a.length := by omega
    have hlt2 : i < b.length := by omega
    have ra : rd a (i : Int) = a[i] := by simp [rd, List.getElem?_eq_getElem hlt]
    have rb : rd b (i : Int) = b[i] := by simp [rd, List.getElem?_eq_getElem hlt2]
    have hw : wrap64 ((i : Int) + 1) = ((i + 1 : Nat) : Int) := by unfold wrap64; omega
    rw [show a.drop i = a[i] :: a.drop (i + 1) from List.drop_eq_getElem_cons hlt, show b.drop i = b[i] :: b.drop (i + 1) from List.drop_eq_getElem_cons hlt2]
    by_cases he : a[i] = b[i]
    · have h := ih (i + 1) (by omega)
      have e : decide (a[i] :: a.drop (i + 1) = b[i] :: b.drop (i + 1)) = decide (a.drop (i + 1) = b.drop (i + 1)) := decide_eq_decide.2 ⟨fun q => (List.cons.inj q).2, fun q => by rw [he, q]⟩
      rw [e]
      refine Ev.step (fun k => ?_) h
      show slices_Equal_int_int.l0 (k + 1) a b _ _ = _
      rw [slices_Equal_int_int.l0, if_pos (by omega), if_pos (by omega), if_pos (by omega), if_pos (by omega), ra, rb, if_pos he, hw]
    · refine ⟨1, fun k hk => ?_⟩
      obtain ⟨k, rfl⟩ : ∃ m, k = m + 1 := ⟨k - 1, by omega⟩
      show slices_Equal_int_int.l0 (k + 1) a b _ _ = _
      rw [slices_Equal_int_int.l0, if_pos (by omega), if_pos (by omega), if_pos (by omega), if_pos (by omega), ra, rb, if_neg he, decide_eq_false (fun q => he (List.cons.inj q).1)]
theorem equali_f (a b : List Int) (hm : a.length ≤ 140737488355328) : Ev (fun k => slices_Equal_int_int.f k a b) (decide (a = b)) := by
  unfold slices_Equal_int_int.f
  by_cases h : a.length = b.length
  · have := equali_l0 a b h hm a.length 0 (by omega)
    rw [List.drop_zero, List.drop_zero] at this
    refine Ev.congr (fun k => ?_) this
    rw [if_pos (by omega)]
    rfl
  · refine Ev.congr (fun k => ?_) (Ev.now _)
    rw [if_neg (by omega), decide_eq_false (fun he => h (by rw [he]))]
theorem dat_iff (k : Int) : dat k = true ↔ (k = 3 ∨ k = 4) := by unfold dat; simp
theorem onlyL_dat (k : Int) (l : List Int) : onlyL k l = if dat k = true then l else [] := by
  unfold onlyL
  by_cases h : k = 3 ∨ k = 4
  · rw [if_pos h, if_pos ((dat_iff k).2 h)]
  · rw [if_neg h, if_neg (fun hd => h ((dat_iff k).1 hd))]
/-- Are two messages one? -/
def sameX (x y : S25) : Bool := decide (x.f11 = y.f11) && decide (nums x = nums y)
theorem nums_eq (x y : S25) : decide (nums x = nums y) = ((x.f0 == y.f0) && (x.f1 == y.f1) && (x.f2 == y.f2) && (x.f3 == y.f3) && (x.f4 == y.f4) && (x.f5 == y.f5) && (x.f6 == y.f6) && (x.f7 == y.f7) && (x.f8 == y.f8) && (x.f9 == y.f9) && (x.f10 == y.f10)) := by
  rw [Bool.eq_iff_iff]
  simp [nums, Bool.and_eq_true, and_assoc]
theorem refsame_f (x y : S25) (hx : octetsOk x.f11 = true) (hy : octetsOk y.f11 = true) : waybillref09_Same.f x.f0 x.f1 x.f2 x.f3 x.f4 x.f5 x.f6 x.f7 x.f8 x.f9 x.f10 x.f11 y.f0 y.f1 y.f2 y.f3 y.f4 y.f5 y.f6 y.f7 y.f8 y.f9 y.f10 y.f11 = some (sameX x y) := by
  unfold waybillref09_Same.f sameX
  rw [Option.bind_some, strs_eq _ _ hx hy, nums_eq]
  simp only [Bool.and_assoc]
theorem plainsame_self (x : S25) : waybillplain_SameMsg.f x.f0 x.f1 x.f2 x.f3 x.f4 x.f5 x.f6 x.f7 x.f8 x.f9 x.f10 x.f11 x.f0 x.f1 x.f2 x.f3 x.f4 x.f5 x.f6 x.f7 x.f8 x.f9 x.f10 x.f11 = some true := by
  unfold waybillplain_SameMsg.f waybillplain_SameBytes.f
  simp
theorem msame_f (x y : S25) (h0 : x.f0 = y.f0) (hm : x.f11.length ≤ 140737488355328) : Ev (fun k => message_same.f k x.f0 x.f1 x.f2 x.f3 x.f4 x.f5 x.f6 x.f7 x.f8 x.f9 x.f10 x.f11 y.f0 y.f1 y.f2 y.f3 y.f4 y.f5 y.f6 y.f7 y.f8 y.f9 y.f10 y.f11) (sameX x y) := by
  unfold message_same.f sameX
  have h1 := equal_f x.f11 y.f11 hm
  have h2 := equali_f [x.f1, x.f2, x.f3, x.f4, x.f5, x.f6, x.f7, x.f8, x.f9, x.f10] [y.f1, y.f2, y.f3, y.f4, y.f5, y.f6, y.f7, y.f8, y.f9, y.f10] (by simp)
  refine Ev.bind h1 ?_
  by_cases h : x.f11 = y.f11
  · rw [decide_eq_true h]
    refine Ev.congr (fun k => if_pos rfl) ?_
    have e : decide (nums x = nums y) = decide (([x.f1, x.f2, x.f3, x.f4, x.f5, x.f6, x.f7, x.f8, x.f9, x.f10] : List Int) = [y.f1, y.f2, y.f3, y.f4, y.f5, y.f6, y.f7, y.f8, y.f9, y.f10]) := decide_eq_decide.2 (by unfold nums; rw [h0]; simp)
    rw [Bool.true_and, e]
    unfold message_numbers.f
    exact Ev.congr (fun k => by rw [Option.bind_some, Option.bind_some]) (Ev.bind (f := fun _ t => some t) h2 (Ev.now _))
  · rw [decide_eq_false h]
    exact Ev.congr (fun k => if_neg (by decide)) (Ev.now _)
/-- What only leaves, as a message. -/
def onlyX (x : S25) : S25 := ⟨x.f0, onlyF x.f0 1 x.f1, x.f2, onlyF x.f0 3 x.f3, onlyF x.f0 4 x.f4, onlyF x.f0 5 x.f5, onlyF x.f0 6 x.f6, onlyF x.f0 7 x.f7, onlyF x.f0 8 x.f8, onlyF x.f0 9 x.f9, onlyF x.f0 10 x.f10, onlyL x.f0 x.f11⟩
theorem sameO (x : S25) : sameX x (onlyX x) = decide (x.f11 = onlyL x.f0 x.f11 ∧ nums x = numsO x) := by
  unfold sameX
  rw [Bool.decide_and]
  rfl
theorem onlyL_ok {k : Int} {l : List Int} (h : octetsOk l = true) : octetsOk (onlyL k l) = true := by
  unfold onlyL
  split
  · exact h
  · rfl
theorem chk_f (x : S25) (hm : x.f11.length ≤ 140737488355328) : Ev (fun k => message_Check.f k x.f0 x.f1 x.f2 x.f3 x.f4 x.f5 x.f6 x.f7 x.f8 x.f9 x.f10 x.f11) (chkM x) := by
  unfold message_Check.f chkM
  by_cases h1 : ixOf x.f0 = []
  · rw [if_pos h1]
    exact Ev.congr (fun k => if_pos h1) (Ev.now _)
  rw [if_neg h1]
  refine Ev.congr (fun k => if_neg h1) ?_
  by_cases h2 : ([x.f1, x.f2, x.f3, x.f4, x.f5, x.f6, x.f7, x.f8, x.f9, x.f10] : List Int).any outI = true
  · rw [if_pos h2]
    exact Ev.congr (fun k => if_pos h2) (Ev.now _)
  rw [if_neg h2]
  refine Ev.congr (fun k => if_neg h2) ?_
  by_cases h3 : x.f11.length > 1024
  · rw [if_pos h3]
    exact Ev.congr (fun k => if_pos h3) (Ev.now _)
  rw [if_neg h3]
  refine Ev.congr (fun k => if_neg h3) ?_
  have hs := msame_f x (onlyX x) rfl hm
  rw [sameO] at hs
  refine Ev.bind hs (Ev.congr (fun k => ?_) (Ev.now _))
  by_cases h4 : x.f11 = onlyL x.f0 x.f11 ∧ nums x = numsO x
  · rw [decide_eq_true h4, if_pos h4]; rfl
  · rw [decide_eq_false h4, if_neg h4]; rfl
theorem refchk_f (x : S25) (hok : octetsOk x.f11 = true) (hm : x.f11.length < 140737488355328) : waybillref09_Check.f x.f0 x.f1 x.f2 x.f3 x.f4 x.f5 x.f6 x.f7 x.f8 x.f9 x.f10 x.f11 = some (chkM x) := by
  unfold waybillref09_Check.f chkM
  split
  · rfl
  split
  · rfl
  split
  · rfl
  have hs := refsame_f x (onlyX x) hok (onlyL_ok hok)
  rw [sameO] at hs
  have hD : (if dat x.f0 = true then waybillref01_Copied.f x.f11 else some []) = some (onlyL x.f0 x.f11) := by
    rw [onlyL_dat]
    split
    · exact copied_f _ hm
    · rfl
  rw [hD, Option.bind_some, show waybillref09_Same.f x.f0 x.f1 x.f2 x.f3 x.f4 x.f5 x.f6 x.f7 x.f8 x.f9 x.f10 x.f11 x.f0 (onlyF x.f0 1 x.f1) x.f2 (onlyF x.f0 3 x.f3) (onlyF x.f0 4 x.f4) (onlyF x.f0 5 x.f5) (onlyF x.f0 6 x.f6) (onlyF x.f0 7 x.f7) (onlyF x.f0 8 x.f8) (onlyF x.f0 9 x.f9) (onlyF x.f0 10 x.f10) (onlyL x.f0 x.f11) = _ from hs, Option.bind_some]
  by_cases h4 : x.f11 = onlyL x.f0 x.f11 ∧ nums x = numsO x
  · rw [decide_eq_true h4, if_pos h4]; rfl
  · rw [decide_eq_false h4, if_neg h4]; rfl
structure MayBe (x : S25) : Prop where
  kind : 1 ≤ x.f0 ∧ x.f0 ≤ 8
  rng : ∀ n ∈ nums x, 0 ≤ n ∧ n ≤ 2147483647
  len : x.f11.length ≤ 1024
  only : nums x = numsO x
  data : x.f11 = onlyL x.f0 x.f11
theorem chk_ok {x : S25} (h : chkM x = 0) : MayBe x := by
  unfold chkM at h
  by_cases h1 : ixOf x.f0 = []
  · rw [if_pos h1] at h; cases h
  rw [if_neg h1] at h
  by_cases h2 : ([x.f1, x.f2, x.f3, x.f4, x.f5, x.f6, x.f7, x.f8, x.f9, x.f10] : List Int).any outI = true
  · rw [if_pos h2] at h; cases h
  rw [if_neg h2] at h
  by_cases h3 : x.f11.length > 1024
  · rw [if_pos h3] at h; cases h
  rw [if_neg h3] at h
  by_cases h4 : x.f11 = onlyL x.f0 x.f11 ∧ nums x = numsO x
  case neg => rw [if_neg h4] at h; cases h
  have hk : 1 ≤ x.f0 ∧ x.f0 ≤ 8 := by
    apply Classical.byContradiction
    intro hn
    exact h1 (ixOf_none hn)
  refine ⟨hk, fun n hn => ?_, by omega, h4.2, h4.1⟩
  have hn' : n = x.f0 ∨ n ∈ ([x.f1, x.f2, x.f3, x.f4, x.f5, x.f6, x.f7, x.f8, x.f9, x.f10] : List Int) := by
    unfold nums at hn
    exact List.mem_cons.1 hn
  rcases hn' with rfl | hn'
  · omega
  · have := fun ho => h2 (List.any_eq_true.2 ⟨n, hn', ho⟩)
    unfold outI at this
    simp at this
    omega
theorem enc_l0 (k0 : Nat) (xs : List Int) (hx : ∀ y ∈ xs, 0 ≤ y ∧ y ≤ 2147483647) : ∀ (b : List Int), b.length + 20 * xs.length < 140737488355328 → Ev (fun k => message_Encode.l0 k b xs) (b ++ encAll xs) := by
  induction xs with
  | nil => intro b _; rw [encAll_nil, List.append_nil]; exact Ev.congr (fun k => rfl) (Ev.now _)
  | cons y ys ih =>
    intro b hb
    have hy := hx y (by simp)
    simp only [List.length_cons] at hb
    have hw : IntKind.u64.wrap y = y := by rw [IntKind.wrap_u64]; omega
    have h1 := put_f b [y] (fun z hz => by rw [show z = y by simpa using hz]; omega) (by simp; omega)
    rw [encAll_one] at h1
    have hl := enc_len_10 (n := y.toNat) (by omega)
    have h2 := ih (fun z hz => hx z (by simp [hz])) (b ++ enc y.toNat) (by rw [List.length_append]; omega)
    rw [encAll_cons, ← List.append_assoc]
    refine Ev.congr (fun k => ?_) (Ev.bind (f := fun k b' => message_Encode.l0 k b' ys) h1 h2)
    rw [message_Encode.l0, hw]
theorem refenc_l0 (xs : List Int) (hx : ∀ y ∈ xs, 0 ≤ y ∧ y ≤ 2147483647) : ∀ (b : List Int), b.length + 20 * xs.length < 140737488355328 → Ev (fun k => waybillref09_Encode.l0 k b xs) (b ++ encAll xs) := by
  induction xs with
  | nil => intro b _; rw [encAll_nil, List.append_nil]; exact Ev.congr (fun k => rfl) (Ev.now _)
  | cons y ys ih =>
    intro b hb
    have hy := hx y (by simp)
    simp only [List.length_cons] at hb
    have hw : IntKind.u64.wrap y = y := by rw [IntKind.wrap_u64]; omega
    have h1 := refput_f b y (by omega) (by omega) (by omega)
    have hl := enc_len_10 (n := y.toNat) (by omega)
    have h2 := ih (fun z hz => hx z (by simp [hz])) (b ++ enc y.toNat) (by rw [List.length_append]; omega)
    rw [encAll_cons, ← List.append_assoc]
    refine Ev.congr (fun k => ?_) (Ev.bind (f := fun k b' => waybillref09_Encode.l0 k b' ys) h1 h2)
    rw [waybillref09_Encode.l0, hw]
theorem getD_mem (l : List Int) (j : Nat) (h : j < l.length) : l.getD j 0 ∈ l := by
  rw [List.getD_eq_getElem?_getD, List.getElem?_eq_getElem h]
  exact List.getElem_mem h
theorem fld_rng {x : S25} (h : MayBe x) : ∀ y ∈ (ixOf x.f0).map (fun j => (nums x).getD j 0), 0 ≤ y ∧ y ≤ 2147483647 := by
  intro y hy
  obtain ⟨j, hj, rfl⟩ := List.mem_map.1 hy
  exact h.rng _ (getD_mem _ _ (by have := ixOf_lt j hj; show j < 11; omega))
theorem encAll_len (xs : List Int) (hx : ∀ y ∈ xs, 0 ≤ y ∧ y ≤ 2147483647) : (encAll xs).length ≤ 10 * xs.length := by
  induction xs with
  | nil => simp [encAll]
  | cons y ys ih =>
    rw [encAll_cons, List.length_append, List.length_cons]
    have hy := hx y (by simp)
    have := enc_len_10 (n := y.toNat) (by omega)
    have := ih (fun z hz => hx z (by simp [hz]))
    omega
theorem encode_f (x : S25) (hm : x.f11.length ≤ 140737488355328) : Ev (fun k => message_Encode.f k x.f0 x.f1 x.f2 x.f3 x.f4 x.f5 x.f6 x.f7 x.f8 x.f9 x.f10 x.f11) (if chkM x = 0 then (encM x, 0) else ([], chkM x)) := by
  unfold message_Encode.f
  refine Ev.bind (chk_f x hm) ?_
  by_cases h : chkM x = 0
  case neg => rw [if_neg h]; exact Ev.congr (fun k => if_neg h) (Ev.now _)
  rw [if_pos h]
  refine Ev.congr (fun k => if_pos h) ?_
  have hM := chk_ok h
  have r0 := hM.rng x.f0 (by simp [nums])
  have r2 := hM.rng x.f2 (by simp [nums])
  have w0 : IntKind.u64.wrap x.f0 = x.f0 := by rw [IntKind.wrap_u64]; omega
  have w2 : IntKind.u64.wrap x.f2 = x.f2 := by rw [IntKind.wrap_u64]; omega
  rw [w0, w2]
  have h1 := put_f [] [x.f0, x.f2] (fun z hz => by rcases List.mem_cons.1 hz with h | h; (rw [h]; omega); (rw [show z = x.f2 by simpa using h]; omega)) (by simp)
  rw [List.nil_append] at h1
  refine Ev.bind h1 ?_
  have hlen := ixOf_len x.f0
  have hl1 := encAll_len [x.f0, x.f2] (fun z hz => by rcases List.mem_cons.1 hz with h | h; (rw [h]; omega); (rw [show z = x.f2 by simpa using h]; omega))
  have hl2 := encAll_len _ (fld_rng hM)
  simp only [List.length_cons, List.length_nil, List.length_map] at hl1 hl2
  have h2 := enc_l0 0 _ (fld_rng hM) (encAll [x.f0, x.f2]) (by simp only [List.length_map]; omega)
  refine Ev.bind h2 ?_
  have he : encAll [x.f0, x.f2] ++ encAll ((ixOf x.f0).map fun j => (nums x).getD j 0) = encAll (x.f0 :: x.f2 :: (ixOf x.f0).map fun j => (nums x).getD j 0) := by simp [encAll]
  rw [he]
  unfold encM
  by_cases hd : x.f0 = 3 ∨ x.f0 = 4
  · rw [if_pos ((dat_iff _).2 hd)]
    refine Ev.congr (fun k => if_pos hd) ?_
    have h3 := texts_f (encAll (x.f0 :: x.f2 :: (ixOf x.f0).map fun j => (nums x).getD j 0)) [x.f11] (by simp) (by rw [← he, List.length_append]; have := hM.len; simp only [lsum]; omega)
    rw [show txts [x.f11] = txt x.f11 by simp [txts]] at h3
    exact Ev.bind h3 (Ev.now _)
  · rw [if_neg (fun h => hd ((dat_iff _).1 h)), List.append_nil]
    exact Ev.congr (fun k => if_neg hd) (Ev.now _)
theorem refencode_f (x : S25) (hok : octetsOk x.f11 = true) (hm : x.f11.length < 140737488355328) : Ev (fun k => waybillref09_Encode.f k x.f0 x.f1 x.f2 x.f3 x.f4 x.f5 x.f6 x.f7 x.f8 x.f9 x.f10 x.f11) (if chkM x = 0 then (encM x, 0) else ([], chkM x)) := by
  unfold waybillref09_Encode.f
  refine Ev.congr (fun k => by rw [refchk_f x hok hm, Option.bind_some]) ?_
  by_cases h : chkM x = 0
  case neg => rw [if_neg h]; exact Ev.congr (fun k => if_neg h) (Ev.now _)
  rw [if_pos h]
  refine Ev.congr (fun k => if_pos h) ?_
  have hM := chk_ok h
  have r0 := hM.rng x.f0 (by simp [nums])
  have r2 := hM.rng x.f2 (by simp [nums])
  have w0 : IntKind.u64.wrap x.f0 = x.f0 := by rw [IntKind.wrap_u64]; omega
  have w2 : IntKind.u64.wrap x.f2 = x.f2 := by rw [IntKind.wrap_u64]; omega
  rw [w0, w2]
  have h0 := refput_f [] x.f0 (by omega) (by omega) (by simp)
  have l0 := enc_len_10 (n := x.f0.toNat) (by omega)
  have l2 := enc_len_10 (n := x.f2.toNat) (by omega)
  rw [List.nil_append] at h0
  refine Ev.bind h0 ?_
  have h1 := refput_f (enc x.f0.toNat) x.f2 (by omega) (by omega) (by omega)
  refine Ev.bind h1 ?_
  have hlen := ixOf_len x.f0
  have hl2 := encAll_len _ (fld_rng hM)
  simp only [List.length_map] at hl2
  have h2 := refenc_l0 _ (fld_rng hM) (enc x.f0.toNat ++ enc x.f2.toNat) (by simp only [List.length_map, List.length_append]; omega)
  refine Ev.bind h2 ?_
  have he : (enc x.f0.toNat ++ enc x.f2.toNat) ++ encAll ((ixOf x.f0).map fun j => (nums x).getD j 0) = encAll (x.f0 :: x.f2 :: (ixOf x.f0).map fun j => (nums x).getD j 0) := by simp [encAll]
  rw [he]
  unfold encM
  by_cases hd : dat x.f0 = true
  · rw [if_pos hd]
    refine Ev.congr (fun k => if_pos hd) ?_
    have h3 := reftexts_f (encAll (x.f0 :: x.f2 :: (ixOf x.f0).map fun j => (nums x).getD j 0)) x.f11 (by rw [← he]; simp only [List.length_append]; have := hM.len; omega)
    exact Ev.bind h3 (Ev.now _)
  · rw [if_neg hd, List.append_nil]
    exact Ev.congr (fun k => if_neg hd) (Ev.now _)
end Go.Proofs.Ytkddlhcpplkpbaa.V
end

section
set_option maxRecDepth 100000
set_option linter.unusedVariables false
set_option linter.unusedSimpArgs false
namespace Go.Proofs.Ytkddlhcpplkpbaa.V
open WB Go Go.RowKit Go.Proofs.Ytkddlhcpplkpbaa.G Go.Proofs.YtkddlhcpplkpbaaW.PrintWords Go.Proofs.YtkddlhcpplkpbaaW.PrintLast Go.Proofs.YtkddlhcpplkpbaaW.PrintMore
/-- The octets' kind, and what stands behind it. -/
def kdP (l : List Int) : Int := kindOf (getAt l 0).1
def rdP (l : List Int) : Int × Int × List Int := rdN l (2 :: ixOf (kdP l)) (getAt l 0).2.1 [kdP l, 0, 0, 0, 0, 0, 0, 0, 0, 0, 0]
/-- What octets tell: the fault, the numbers, the octets. -/
def decP (l : List Int) : Int × List Int × List Int :=
  if (getAt l 0).2.2 = 0 then (if ixOf (kdP l) = [] then (23, [], []) else
    (if (rdP l).1 = 0 then
      (if dat (kdP l) = true then (if (textAt l (rdP l).2.1 1024).2.2 = 0 then (if (textAt l (rdP l).2.1 1024).2.1 = (l.length : Int) then (0, (rdP l).2.2, (textAt l (rdP l).2.1 1024).1) else (22, [], [])) else ((textAt l (rdP l).2.1 1024).2.2, [], []))
      else (if (rdP l).2.1 = (l.length : Int) then (0, (rdP l).2.2, []) else (22, [], [])))
    else ((rdP l).1, [], [])))
  else ((getAt l 0).2.2, [], [])
theorem decM_f (l : List Int) (hok : octetsOk l = true) (hl : l.length < 140737488355328) (k : Nat) (hk : 1 ≤ k) : decM k l = some (decP l) := by
  unfold decM decP rdP kdP
  split
  · split
    · rfl
    · split
      · by_cases hd : kindOf (getAt l 0).1 = 3 ∨ kindOf (getAt l 0).1 = 4
        · rw [if_pos hd, if_pos ((dat_iff _).2 hd), (text_f l hok hl _ 1024 (by omega) (by omega) k hk).1, Option.bind_some]
          split
          · split <;> rfl
          · rfl
        · rw [if_neg hd, if_neg (fun h => hd ((dat_iff _).1 h))]
          split <;> rfl
      · rfl
  · rfl
/-- Numbers laid into places. -/
def setAll (o : List Int) : List Nat → List Int → List Int
  | j :: js, v :: vs => setAll (o.set j v) js vs
  | _, _ => o
theorem setAll_take (n : List Int) : ∀ (js : List Nat) (o : List Int), setAll o js (js.map fun j => n.getD j 0) = takeN n o js
  | [], _ => rfl
  | j :: js, o => by rw [List.map_cons, setAll, takeN, setAll_take n js]
/-- Numbers that stand in octets are read. -/
theorem rdN_enc : ∀ (js : List Nat) (vs : List Int) (x rest o : List Int), vs.length = js.length → (∀ v ∈ vs, 0 ≤ v ∧ v ≤ 2147483647) →
    rdN (x ++ (encAll vs ++ rest)) js (x.length : Int) o = (0, ((x ++ encAll vs).length : Int), setAll o js vs)
  | [], [], x, rest, o, _, _ => by simp [rdN, setAll, encAll]
  | [], _ :: _, _, _, _, h, _ => by simp at h
  | _ :: _, [], _, _, _, h, _ => by simp at h
  | j :: js, v :: vs, x, rest, o, h, hv => by
    have hv0 := hv v List.mem_cons_self
    have hg := getAt_enc x v.toNat (encAll vs ++ rest) (by omega)
    rw [rdN, encAll_cons, List.append_assoc, hg]
    dsimp only
    have hvn : ((v.toNat : Nat) : Int) = v := Int.toNat_of_nonneg hv0.1
    rw [if_pos rfl, hvn, if_pos hv0.2, show wrap64 v = v by unfold wrap64; omega]
    have ih := rdN_enc js vs (x ++ enc v.toNat) rest (o.set j v) (by simpa using h) (fun y hy => hv y (List.mem_cons_of_mem _ hy))
    rw [List.append_assoc, List.length_append, Int.natCast_add] at ih
    rw [ih, setAll, List.append_assoc]
/-- Whatever is read: a fault, or numbers that stand there. -/
theorem rdN_cases {l : List Int} (hok : octetsOk l = true) : ∀ (js : List Nat) (x r o : List Int), l = x ++ r →
    (∃ e, rdN l js (x.length : Int) o = (e, 0, []) ∧ e ≠ 0) ∨ ∃ (vs rest : List Int), r = encAll vs ++ rest ∧ vs.length = js.length ∧ (∀ v ∈ vs, 0 ≤ v ∧ v ≤ 2147483647) ∧ rdN l js (x.length : Int) o = (0, ((x ++ encAll vs).length : Int), setAll o js vs)
  | [], x, r, o, _ => .inr ⟨[], r, by simp [encAll], rfl, by simp, by simp [rdN, setAll, encAll]⟩
  | j :: js, x, r, o, hl => by
    rcases getAt_cases hok (x.length : Int) with ⟨e, he, hz⟩ | ⟨q, y, rest, e1, e2, e3, e4⟩
    · refine .inl ⟨e, ?_, by omega⟩
      rw [rdN, he]
      dsimp only
      rw [if_neg (by omega)]
    · have hxy : y = x ∧ r = enc q ++ rest := by
        have hlen : x.length = y.length := by omega
        have := List.append_inj (hl.symm.trans e1) hlen
        exact ⟨this.1.symm, this.2⟩
      obtain ⟨rfl, rfl⟩ := hxy
      rw [rdN, e4]
      dsimp only
      rw [if_pos rfl]
      by_cases hq : (q : Int) ≤ 2147483647
      case neg => exact .inl ⟨4, by rw [if_neg hq], by decide⟩
      rw [if_pos hq, show wrap64 (q : Int) = q by unfold wrap64; omega]
      have hp : (y.length : Int) + ((enc q).length : Int) = ((y ++ enc q).length : Int) := by rw [List.length_append, Int.natCast_add]
      rw [hp]
      rcases rdN_cases hok js (y ++ enc q) rest (o.set j q) (by rw [List.append_assoc]; exact hl) with ⟨e, h1, h2⟩ | ⟨vs, rest', h1, h2, h3, h4⟩
      · exact .inl ⟨e, h1, h2⟩
      · refine .inr ⟨(q : Int) :: vs, rest', ?_, by simp [h2], ?_, ?_⟩
        · rw [encAll_cons, Int.toNat_natCast, List.append_assoc, h1]
        · intro v hv
          rcases List.mem_cons.1 hv with rfl | hv
          · omega
          · exact h3 v hv
        · rw [h4, setAll, encAll_cons, Int.toNat_natCast, List.append_assoc]
theorem text_pos {l : List Int} (hok : octetsOk l = true) {p : Int} (hp : p ≤ l.length) (h : (textAt l p 1024).2.2 = 0) : (textAt l p 1024).2.1 ≤ l.length := by
  unfold textAt at h ⊢
  rcases getAt_cases hok p with ⟨e, he, hz⟩ | ⟨q, x, rest, e1, e2, e3, e4⟩
  · rw [he] at h ⊢
    dsimp only at h ⊢
    rw [if_neg (by omega)]
    exact Int.natCast_nonneg _
  · rw [e4] at h ⊢
    dsimp only at h ⊢
    rw [if_pos rfl] at h ⊢
    split
    · exact Int.natCast_nonneg _
    · split
      · exact Int.natCast_nonneg _
      · dsimp only; omega
theorem dec2_f (l : List Int) (hok : octetsOk l = true) (hl : l.length < 140737488355328) (k : Nat) (hk : 1 ≤ k) : dec2 k l = some (decP l) := by
  unfold dec2 decP
  show (if (getAt l 0).2.2 = 0 then (if ixOf (kdP l) = [] then some (23, [], []) else (if (rdP l).1 = 0 then (if dat (kdP l) = true then (waybillref01_Text.f k l (rdP l).2.1 1024).bind fun t => if t.2.2 = 0 then (if t.2.1 < (l.length : Int) then some (22, [], []) else some (0, (rdP l).2.2, t.1)) else some (t.2.2, [], []) else (if (rdP l).2.1 < (l.length : Int) then some (22, [], []) else some (0, (rdP l).2.2, []))) else some ((rdP l).1, [], []))) else some ((getAt l 0).2.2, [], [])) = _
  by_cases h0 : (getAt l 0).2.2 = 0
  case neg => rw [if_neg h0, if_neg h0]
  rw [if_pos h0, if_pos h0]
  by_cases h1 : ixOf (kdP l) = []
  · rw [if_pos h1, if_pos h1]
  rw [if_neg h1, if_neg h1]
  by_cases h2 : (rdP l).1 = 0
  case neg => rw [if_neg h2, if_neg h2]
  rw [if_pos h2, if_pos h2]
  have hp : (rdP l).2.1 ≤ l.length := by
    rcases getAt_cases hok 0 with ⟨e, he, hz⟩ | ⟨q, x, rest, e1, e2, e3, e4⟩
    · rw [he] at h0; dsimp only at h0; omega
    · have hx : x = [] := List.eq_nil_of_length_eq_zero (by omega)
      subst hx
      rw [List.nil_append] at e1
      unfold rdP
      rw [e4]
      dsimp only
      rw [Int.zero_add]
      rcases rdN_cases hok (2 :: ixOf (kdP l)) (enc q) rest [kdP l, 0, 0, 0, 0, 0, 0, 0, 0, 0, 0] e1 with ⟨e, h3, h4⟩ | ⟨vs, rest', h3, h4, h5, h6⟩
      · rw [h3]; exact Int.natCast_nonneg _
      · rw [h6]
        dsimp only
        rw [e1, h3]
        simp only [List.length_append]
        omega
  by_cases hd : dat (kdP l) = true
  · rw [if_pos hd, if_pos hd, (text_f l hok hl _ 1024 (by omega) (by omega) k hk).2, Option.bind_some]
    by_cases ht : (textAt l (rdP l).2.1 1024).2.2 = 0
    case neg => rw [if_neg ht, if_neg ht]
    rw [if_pos ht, if_pos ht]
    have := text_pos hok hp ht
    by_cases he : (textAt l (rdP l).2.1 1024).2.1 = (l.length : Int)
    · rw [if_pos he, if_neg (by omega)]
    · rw [if_neg he, if_pos (by omega)]
  · rw [if_neg hd, if_neg hd]
    by_cases he : (rdP l).2.1 = (l.length : Int)
    · rw [if_pos he, if_neg (by omega)]
    · rw [if_neg he, if_pos (by omega)]
/-- The answer of the program's and the reference's, spread out. -/
def outP (d : Int × List Int × List Int) : Int × Int × Int × Int × Int × Int × Int × Int × Int × Int × Int × List Int × Int := (d.2.1.getD 0 0, d.2.1.getD 1 0, d.2.1.getD 2 0, d.2.1.getD 3 0, d.2.1.getD 4 0, d.2.1.getD 5 0, d.2.1.getD 6 0, d.2.1.getD 7 0, d.2.1.getD 8 0, d.2.1.getD 9 0, d.2.1.getD 10 0, d.2.2, d.1)
theorem decode_f (l : List Int) (hok : octetsOk l = true) (hl : l.length < 140737488355328) : Ev (fun k => message_Decode.f k l) (outP (decP l)) := by
  refine ⟨1, fun k hk => ?_⟩
  show message_Decode.f k l = _
  unfold message_Decode.f
  rw [if_pos hok, decM_f l hok hl k hk]
  rfl
theorem refdecode_f (l : List Int) (hok : octetsOk l = true) (hl : l.length < 140737488355328) : Ev (fun k => waybillref09_Decode.f k l) (outP (decP l)) := by
  refine ⟨1, fun k hk => ?_⟩
  show waybillref09_Decode.f k l = _
  unfold waybillref09_Decode.f
  rw [if_pos hok, dec2_f l hok hl k hk]
  rfl
end Go.Proofs.Ytkddlhcpplkpbaa.V
end

section
set_option maxRecDepth 100000
set_option linter.unusedVariables false
set_option linter.unusedSimpArgs false
namespace Go.Proofs.Ytkddlhcpplkpbaa.V
open WB Go Go.RowKit Go.Proofs.Ytkddlhcpplkpbaa.G Go.Proofs.YtkddlhcpplkpbaaW.PrintWords Go.Proofs.YtkddlhcpplkpbaaW.PrintLast Go.Proofs.YtkddlhcpplkpbaaW.PrintMore
theorem numsO_take (x : S25) : takeN (nums x) [x.f0, 0, 0, 0, 0, 0, 0, 0, 0, 0, 0] (2 :: ixOf x.f0) = numsO x := onlyN_all x.f0 x.f1 x.f2 x.f3 x.f4 x.f5 x.f6 x.f7 x.f8 x.f9 x.f10
theorem set_nums {x : S25} (h : MayBe x) : setAll [x.f0, 0, 0, 0, 0, 0, 0, 0, 0, 0, 0] (2 :: ixOf x.f0) (x.f2 :: (ixOf x.f0).map fun j => (nums x).getD j 0) = nums x := by
  have := setAll_take (nums x) (2 :: ixOf x.f0) [x.f0, 0, 0, 0, 0, 0, 0, 0, 0, 0, 0]
  rw [numsO_take, ← h.only] at this
  exact this
/-- The numbers behind the kind. -/
def valsM (x : S25) : List Int := x.f2 :: (ixOf x.f0).map fun j => (nums x).getD j 0
/-- The octets behind the numbers. -/
def tailM (x : S25) : List Int := if dat x.f0 = true then txt x.f11 else []
theorem encM_is (x : S25) : encM x = enc x.f0.toNat ++ (encAll (valsM x) ++ tailM x) := by
  unfold encM valsM tailM
  rw [encAll_cons, List.append_assoc]
theorem vals_rng {x : S25} (h : MayBe x) : ∀ v ∈ valsM x, 0 ≤ v ∧ v ≤ 2147483647 := by
  intro v hv
  rcases List.mem_cons.1 hv with rfl | hv
  · exact h.rng _ (by simp [nums])
  · exact fld_rng h v hv
theorem vals_len (x : S25) : (valsM x).length = (2 :: ixOf x.f0).length := by simp [valsM]
theorem kind_ne {x : S25} (h : MayBe x) : ixOf x.f0 ≠ [] := by
  have hc : x.f0 = 1 ∨ x.f0 = 2 ∨ x.f0 = 3 ∨ x.f0 = 4 ∨ x.f0 = 5 ∨ x.f0 = 6 ∨ x.f0 = 7 ∨ x.f0 = 8 := by have := h.kind; omega
  rcases hc with h | h | h | h | h | h | h | h <;> rw [h] <;> decide
theorem kindOf_small {q : Int} (h0 : 1 ≤ q) (h1 : q ≤ 8) : kindOf q = q := by
  unfold kindOf mn wrap64
  rw [if_neg (by omega)]
  omega
theorem get_kind {x : S25} (h : MayBe x) (r : List Int) : getAt (enc x.f0.toNat ++ r) 0 = (x.f0, ((enc x.f0.toNat).length : Int), 0) ∧ kdP (enc x.f0.toNat ++ r) = x.f0 := by
  have hk := h.kind
  have hg := getAt_enc [] x.f0.toNat r (by omega)
  rw [List.nil_append] at hg
  have hn : ((x.f0.toNat : Nat) : Int) = x.f0 := Int.toNat_of_nonneg (by omega)
  simp only [List.length_nil, Int.natCast_zero, Int.zero_add, hn] at hg
  refine ⟨hg, ?_⟩
  unfold kdP
  rw [hg]
  exact kindOf_small hk.1 hk.2
theorem read_vals {x : S25} (h : MayBe x) (r : List Int) : rdP (enc x.f0.toNat ++ (encAll (valsM x) ++ r)) = (0, ((enc x.f0.toNat ++ encAll (valsM x)).length : Int), nums x) := by
  obtain ⟨h1, h2⟩ := get_kind h (encAll (valsM x) ++ r)
  unfold rdP
  rw [h1, h2]
  dsimp only
  rw [rdN_enc _ _ _ _ _ (vals_len x) (vals_rng h)]
  exact congrArg (fun z => ((0 : Int), ((enc x.f0.toNat ++ encAll (valsM x)).length : Int), z)) (set_nums h)
/-- A message's octets tell it; with more behind them, something is left. -/
theorem dec_enc {x : S25} (h : MayBe x) (rest : List Int) : decP (encM x ++ rest) = if rest = [] then (0, nums x, x.f11) else (22, [], []) := by
  have hl : encM x ++ rest = enc x.f0.toNat ++ (encAll (valsM x) ++ (tailM x ++ rest)) := by rw [encM_is]; simp only [List.append_assoc]
  obtain ⟨h1, h2⟩ := get_kind h (encAll (valsM x) ++ (tailM x ++ rest))
  have h3 := read_vals h (tailM x ++ rest)
  have hlen : (rest.length = 0) ↔ rest = [] := List.length_eq_zero_iff
  rw [hl]
  unfold decP
  rw [h1, h2, h3]
  dsimp only
  rw [if_pos rfl, if_neg (kind_ne h), if_pos rfl]
  by_cases hd : dat x.f0 = true
  · rw [if_pos hd]
    have ht : tailM x = enc x.f11.length ++ x.f11 := by unfold tailM; rw [if_pos hd]; rfl
    have hlen2 := h.len
    have hL : enc x.f0.toNat ++ (encAll (valsM x) ++ (tailM x ++ rest)) = (enc x.f0.toNat ++ encAll (valsM x)) ++ (enc x.f11.length ++ (x.f11 ++ rest)) := by rw [ht]; simp only [List.append_assoc]
    rw [hL]
    generalize hpre : enc x.f0.toNat ++ encAll (valsM x) = pre
    have hg := getAt_enc pre x.f11.length (x.f11 ++ rest) (by omega)
    have hta : textAt (pre ++ (enc x.f11.length ++ (x.f11 ++ rest))) (pre.length : Int) 1024 = (x.f11, (pre.length : Int) + ((enc x.f11.length).length : Int) + (x.f11.length : Int), 0) := by
      unfold textAt
      rw [hg]
      dsimp only
      rw [if_pos rfl, if_neg (by omega), if_neg (by simp only [List.length_append]; omega)]
      have e1 : ((pre.length : Int) + ((enc x.f11.length).length : Int)).toNat = (pre ++ enc x.f11.length).length := by rw [List.length_append]; omega
      rw [e1, ← List.append_assoc, List.drop_left, Int.toNat_natCast, List.take_left]
    rw [hta]
    dsimp only
    rw [if_pos rfl]
    by_cases hr : rest = []
    · rw [if_pos hr, if_pos (by simp only [List.length_append]; rw [hr]; simp; omega)]
    · rw [if_neg hr, if_neg (by simp only [List.length_append]; have := mt hlen.1 hr; omega)]
  · rw [if_neg hd]
    have ht : tailM x = [] := by unfold tailM; rw [if_neg hd]
    have hf : x.f11 = [] := by have := h.data; rw [onlyL_dat, if_neg hd] at this; exact this
    rw [ht, List.nil_append, hf]
    by_cases hr : rest = []
    · rw [if_pos hr, if_pos (by rw [hr]; simp)]
    · rw [if_neg hr, if_neg (by simp only [List.length_append]; have := mt hlen.1 hr; omega)]
/-- The message of what octets tell. -/
def msgP (d : Int × List Int × List Int) : S25 := ⟨d.2.1.getD 0 0, d.2.1.getD 1 0, d.2.1.getD 2 0, d.2.1.getD 3 0, d.2.1.getD 4 0, d.2.1.getD 5 0, d.2.1.getD 6 0, d.2.1.getD 7 0, d.2.1.getD 8 0, d.2.1.getD 9 0, d.2.1.getD 10 0, d.2.2⟩
end Go.Proofs.Ytkddlhcpplkpbaa.V
end

section
set_option maxRecDepth 100000
set_option linter.unusedVariables false
set_option linter.unusedSimpArgs false
namespace Go.Proofs.Ytkddlhcpplkpbaa.V
open WB Go Go.RowKit Go.Proofs.Ytkddlhcpplkpbaa.G Go.Proofs.YtkddlhcpplkpbaaW.PrintWords Go.Proofs.YtkddlhcpplkpbaaW.PrintLast Go.Proofs.YtkddlhcpplkpbaaW.PrintMore
def aliveX : S25 := ⟨8, 2, 3, 0, 0, 0, 0, 4, 0, 0, 0, []⟩
theorem aliveX_chk : chkM aliveX = 0 := by decide +kernel
theorem aliveX_enc : encM aliveX = [8, 3, 2, 4] := by
  unfold encM encAll
  have h1 : ((aliveX.f0 :: aliveX.f2 :: (ixOf aliveX.f0).map fun j => (nums aliveX).getD j 0)) = [8, 3, 2, 4] := by decide +kernel
  rw [h1, if_neg (by decide +kernel)]
  simp [enc_small]
theorem num_f (x : Int) : waybilllaw09_num.f x = some x := rfl
theorem alive_f : Ev (fun k => waybilllaw09_alive.f k) true := by
  have h1 := encode_f aliveX (by simp [aliveX])
  rw [if_pos aliveX_chk, aliveX_enc] at h1
  have h2 := dec_enc (chk_ok aliveX_chk) []
  rw [if_pos rfl, aliveX_enc, List.append_nil] at h2
  have h3 := decode_f [8, 3, 2, 4] (by decide) (by simp)
  rw [h2] at h3
  unfold waybilllaw09_alive.f
  refine Ev.bind h1 (Ev.bind h3 ?_)
  exact Ev.congr (fun k => congrArg some (by decide +kernel)) (Ev.now true)
end Go.Proofs.Ytkddlhcpplkpbaa.V
end

section
set_option maxRecDepth 100000
set_option linter.unusedVariables false
set_option linter.unusedSimpArgs false
namespace Go.Proofs.Ytkddlhcpplkpbaa.V
open WB Go Go.RowKit Go.Proofs.Ytkddlhcpplkpbaa.G Go.Proofs.YtkddlhcpplkpbaaW.PrintWords Go.Proofs.YtkddlhcpplkpbaaW.PrintLast Go.Proofs.YtkddlhcpplkpbaaW.PrintMore
theorem spoil_l0 : ∀ (d i : Nat) (l : List Int), l.length ≤ 140737488355328 → l.length - i = d → i ≤ l.length → ∃ r, Ev (fun k => waybillplain_Spoil.l0 k l i) r := by
  intro d
  induction d with
  | zero =>
    intro i l hl hd hi
    refine ⟨l, 1, fun k hk => ?_⟩
    obtain ⟨k, rfl⟩ : ∃ m, k = m + 1 := ⟨k - 1, by omega⟩
    simp only [waybillplain_Spoil.l0]
    rw [if_neg (by omega)]
  | succ d ih =>
    intro i l hl hd hi
    obtain ⟨r, hr⟩ := ih (i + 1) (l.set i 7) (by rw [List.length_set]; omega) (by rw [List.length_set]; omega) (by rw [List.length_set]; omega)
    refine ⟨r, Ev.step (fun k => ?_) hr⟩
    show waybillplain_Spoil.l0 (k + 1) l i = _
    simp only [waybillplain_Spoil.l0]
    rw [if_pos (by omega), if_pos (by omega), Int.toNat_natCast, show wrap64 ((i : Int) + 1) = ((i + 1 : Nat) : Int) by unfold wrap64; omega]
theorem spoil_f (l : List Int) (hl : l.length ≤ 140737488355328) : ∃ r, Ev (fun k => waybillplain_Spoil.f k l) r := spoil_l0 l.length 0 l hl (by omega) (by omega)
end Go.Proofs.Ytkddlhcpplkpbaa.V
namespace Go.Proofs.Ytkddlhcpplkpbaa.Pure
open WB Go Go.RowKit Go.Proofs.Ytkddlhcpplkpbaa.G Go.Proofs.Ytkddlhcpplkpbaa.V Go.Proofs.YtkddlhcpplkpbaaW.PrintWords Go.Proofs.YtkddlhcpplkpbaaW.PrintLast Go.Proofs.YtkddlhcpplkpbaaW.PrintMore
theorem MessageOwn (l : List Int) (x : S25) (hw : ∀ a ∈ l, (Lit.int .u8 a).wf = true) {w0 w1 w2 w3 w4 w5 w6 w7 w8 w9 w10 : Prop} (hx : w0 ∧ w1 ∧ w2 ∧ w3 ∧ w4 ∧ w5 ∧ w6 ∧ w7 ∧ w8 ∧ w9 ∧ w10 ∧ ∀ a ∈ x.f11, (Lit.int .u8 a).wf = true) {q q0 q1 q2 q3 q4 q5 q6 q7 q8 q9 q10 qx : Prop} (hs : l.length * 1 ≤ reachBytes ∧ q) (hsx : q0 ∧ q1 ∧ q2 ∧ q3 ∧ q4 ∧ q5 ∧ q6 ∧ q7 ∧ q8 ∧ q9 ∧ q10 ∧ x.f11.length * 1 ≤ reachBytes ∧ qx) : ∃ k, waybilllaw09_MessageOwn.f k l x.f0 x.f1 x.f2 x.f3 x.f4 x.f5 x.f6 x.f7 x.f8 x.f9 x.f10 x.f11 = some true := by
  have hok := ok_of_wf hw
  have hokx := ok_of_wf hx.2.2.2.2.2.2.2.2.2.2.2
  have hl : l.length < 140737488355328 := by have := hs.1; simp only [reachBytes] at this; omega
  have hlx : x.f11.length < 140737488355328 := by have := hsx.2.2.2.2.2.2.2.2.2.2.2.1; simp only [reachBytes] at this; omega
  obtain ⟨K1, h1⟩ := alive_f
  obtain ⟨K2, h2⟩ := decode_f l hok hl
  obtain ⟨K3, h3⟩ := encode_f x (by omega)
  obtain ⟨s1, K4, h4⟩ := spoil_f l (by omega)
  obtain ⟨s2, K5, h5⟩ := spoil_f x.f11 (by omega)
  obtain ⟨K6, h6⟩ := refdecode_f l hok hl
  obtain ⟨K7, h7⟩ := refencode_f x hokx hlx
  obtain ⟨K, hK⟩ : ∃ K, K = K1 + K2 + K3 + K4 + K5 + K6 + K7 := ⟨_, rfl⟩
  have a1 := h1 K (by omega)
  have a2 := h2 K (by omega)
  have a3 := h3 K (by omega)
  have a4 := h4 K (by omega)
  have a5 := h5 K (by omega)
  have a6 := h6 K (by omega)
  have a7 := h7 K (by omega)
  dsimp only at a1 a2 a3 a4 a5 a6 a7
  generalize hr : (if chkM x = 0 then (encM x, 0) else ([], chkM x)) = r at a3 a7
  refine ⟨K, ?_⟩
  unfold waybilllaw09_MessageOwn.f
  rw [a1, Option.bind_some, if_pos rfl, copybytes_f l hl, Option.bind_some, copybytes_f x.f11 hlx, Option.bind_some, a2, Option.bind_some, a3, Option.bind_some, a4, Option.bind_some, a5, Option.bind_some, a6, Option.bind_some, a7, Option.bind_some]
  have a8 := plainsame_self (msgP (decP l))
  have a9 : waybillplain_SameMsg.f (outP (decP l)).1 (outP (decP l)).2.1 (outP (decP l)).2.2.1 (outP (decP l)).2.2.2.1 (outP (decP l)).2.2.2.2.1 (outP (decP l)).2.2.2.2.2.1 (outP (decP l)).2.2.2.2.2.2.1 (outP (decP l)).2.2.2.2.2.2.2.1 (outP (decP l)).2.2.2.2.2.2.2.2.1 (outP (decP l)).2.2.2.2.2.2.2.2.2.1 (outP (decP l)).2.2.2.2.2.2.2.2.2.2.1 (outP (decP l)).2.2.2.2.2.2.2.2.2.2.2.1 (outP (decP l)).1 (outP (decP l)).2.1 (outP (decP l)).2.2.1 (outP (decP l)).2.2.2.1 (outP (decP l)).2.2.2.2.1 (outP (decP l)).2.2.2.2.2.1 (outP (decP l)).2.2.2.2.2.2.1 (outP (decP l)).2.2.2.2.2.2.2.1 (outP (decP l)).2.2.2.2.2.2.2.2.1 (outP (decP l)).2.2.2.2.2.2.2.2.2.1 (outP (decP l)).2.2.2.2.2.2.2.2.2.2.1 (outP (decP l)).2.2.2.2.2.2.2.2.2.2.2.1 = some true := a8
  rw [a9, Option.bind_some, if_pos rfl, num_f, Option.bind_some, if_pos rfl, same_self, Option.bind_some, if_pos rfl, num_f, Option.bind_some]
  simp
end Go.Proofs.Ytkddlhcpplkpbaa.Pure
end
