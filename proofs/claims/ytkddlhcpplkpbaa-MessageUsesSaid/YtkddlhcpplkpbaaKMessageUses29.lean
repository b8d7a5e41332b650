/- MessageUses: texts of this claim, packed: what the kit's print has written for it and own texts, without what its proof does not reach. -/
import Derived.Test.YtkddlhcpplkpbaaKMessageUses0
import Derived.Test.YtkddlhcpplkpbaaKMessageUses2
import Derived.Test.YtkddlhcpplkpbaaKMessageUses6
import Derived.Test.YtkddlhcpplkpbaaKMessageUses13
import Derived.Test.YtkddlhcpplkpbaaKMessageUses14
import Derived.Test.YtkddlhcpplkpbaaKMessageUses15
import Derived.Test.YtkddlhcpplkpbaaKMessageUses16
import Derived.Test.YtkddlhcpplkpbaaKMessageUses17
import Derived.Test.YtkddlhcpplkpbaaKMessageUses18
import Derived.Test.YtkddlhcpplkpbaaKMessageUses19
import Derived.Test.YtkddlhcpplkpbaaKMessageUses20
import Derived.Test.YtkddlhcpplkpbaaKMessageUses21
import Derived.Test.YtkddlhcpplkpbaaKMessageUses22
import Derived.Test.YtkddlhcpplkpbaaKMessageUses23
import Derived.Test.YtkddlhcpplkpbaaKMessageUses24
import Derived.Test.YtkddlhcpplkpbaaKMessageUses25
import Derived.Test.YtkddlhcpplkpbaaKMessageUses26
import Derived.Test.YtkddlhcpplkpbaaKMessageUses27
import Derived.Test.YtkddlhcpplkpbaaKMessageUses28
import Derived.Laws.BitsAllLaws
import Derived.Laws.BitsLemmas
import Derived.WalkKit
set_option linter.unusedVariables false
set_option linter.unusedSimpArgs false
set_option linter.unusedSectionVars false
section
set_option linter.unusedVariables false
set_option linter.unusedSimpArgs false
namespace Go.Proofs.Ytkddlhcpplkpbaa.V
open WB Go Go.RowKit Go.Proofs.Ytkddlhcpplkpbaa.G Go.Proofs.YtkddlhcpplkpbaaW.PrintWords Go.Proofs.YtkddlhcpplkpbaaW.PrintLast Go.Proofs.YtkddlhcpplkpbaaW.PrintMore
theorem equal_l0 (a b : List Int) (hab : a.length = b.length) (hm : a.length ≤ 140737488355328) : ∀ (d i : Nat), i + d = a.length → Ev (fun k => slices_Equal_byte_byte.l0 k a b (a.length : Int) (i : Int)) (decide (a.drop i = b.drop i)) := by
  intro d
  induction d with
  | zero =>
    intro i hi
    refine ⟨1, fun k hk => ?_⟩
    obtain ⟨k, rfl⟩ : ∃ m, k = m + 1 := ⟨k - 1, by omega⟩
    show slices_Equal_byte_byte.l0 (k + 1) a b _ _ = _
    rw [slices_Equal_byte_byte.l0, if_neg (by omega), List.drop_of_length_le (by omega), List.drop_of_length_le (by omega)]
    simp
  | succ d ih =>
    intro i hi
    have hlt : i < a.length := by omega
    have hlt2 : i < b.length := by omega
    have ra : rd a (i : Int) = a[i] := by simp [rd, List.getElem?_eq_getElem hlt]
    have rb : rd b (i : Int) = b[i] := by simp [rd, List.getElem?_eq_getElem hlt2]
    have hw : wrap64 ((i : Int) + 1) = ((i + 1 : Nat) : Int) := by unfold wrap64; omega
    rw [show a.drop i = a[i] :: a.drop (i + 1) from List.drop_eq_getElem_cons hlt, show b.drop i = b[i] :: b.drop (i + 1) from List.drop_eq_getElem_cons hlt2]
    by_cases he : a[i] = b[i]
    · have h := ih (i + 1) (by omega)
      have e : decide (a[i] :: a.drop (i + 1) = b[i] :: b.drop (i + 1)) = decide (a.drop (i + 1) = b.drop (i + 1)) := decide_eq_decide.2 ⟨fun q => (List.cons.inj q).2, fun q => by rw [he, q]⟩
      rw [e]
      refine Ev.step (fun k => ?_) h
      show slices_Equal_byte_byte.l0 (k + 1) a b _ _ = _
      rw [slices_Equal_byte_byte.l0, if_pos (by omega), if_pos (by omega), if_pos (by omega), if_pos (by omega), ra, rb, if_pos he, hw]
    · refine ⟨1, fun k hk => ?_⟩
      obtain ⟨k, rfl⟩ : ∃ m, k = m + 1 := ⟨k - 1, by omega⟩
      show slices_Equal_byte_byte.l0 (k + 1) a b _ _ = _
      rw [slices_Equal_byte_byte.l0, if_pos (by omega), if_pos (by omega), if_pos (by omega), if_pos (by omega), ra, rb, if_neg he, decide_eq_false (fun q => he (List.cons.inj q).1)]
theorem equal_f (a b : List Int) (hm : a.length ≤ 140737488355328) : Ev (fun k => slices_Equal_byte_byte.f k a b) (decide (a = b)) := by
  unfold slices_Equal_byte_byte.f
  by_cases h : a.length = b.length
  · have := equal_l0 a b h hm a.length 0 (by omega)
    rw [List.drop_zero, List.drop_zero] at this
    refine Ev.congr (fun k => ?_) this
    rw [if_pos (by omega)]
    rfl
  · refine Ev.congr (fun k => ?_) (Ev.now _)
    rw [if_neg (by omega), decide_eq_false (fun he => h (by rw [he]))]
end Go.Proofs.Ytkddlhcpplkpbaa.V
end

section
namespace Go.Proofs.Ytkddlhcpplkpbaa.G
open WB Go.RowKit Go.Proofs.YtkddlhcpplkpbaaW.PrintWords Go.Proofs.YtkddlhcpplkpbaaW.PrintLast Go.Proofs.YtkddlhcpplkpbaaW.PrintMore
attribute [local go_sem] max2_int min2_int max_two min_two max_three min_three max_four min_four   -- for this text's walks alone
set_option linter.unusedVariables false
set_option linter.unusedSimpArgs false
/-- Does a kind use octets? -/
def dat (k : Int) : Bool := decide (k = 3 ∨ k = 4)
theorem onlyN_all (f0 f1 f2 f3 f4 f5 f6 f7 f8 f9 f10 : Int) : onlyN f0 f1 f2 f3 f4 f5 f6 f7 f8 f9 f10 = [f0, onlyF f0 1 f1, f2, onlyF f0 3 f3, onlyF f0 4 f4, onlyF f0 5 f5, onlyF f0 6 f6, onlyF f0 7 f7, onlyF f0 8 f8, onlyF f0 9 f9, onlyF f0 10 f10] := by
  by_cases h : ixOf f0 = []
  · unfold onlyN onlyF
    rw [h]
    simp [takeN]
  · exact onlyN_is _ _ _ _ _ _ _ _ _ _ _ h
/-- Where used is, ahead of round i. -/
structure UsedI (w W : World) (n o : List Int) (D D' : Value) (ix : List Nat) (i : Nat) : Prop where
  bm : W.heap[w.heap.size]? = some (.cells (msgCells n D) 25 (0, 0))
  br : W.heap[w.heap.size + 1]? = some (.cells (msgCells [0, 0, 0, 0, 0, 0, 0, 0, 0, 0, 0] (.slice none 0 0)) 25 (0, 0))
  bo : W.heap[w.heap.size + 1 + 1]? = some (.cells (msgCells (takeN n o (ix.take i)) D') 25 (0, 0))
  bel : Below w.heap.size w W
theorem UsedI.below {w W W1 : World} {n o : List Int} {D D' : Value} {ix : List Nat} {i : Nat} (h : UsedI w W n o D D' ix i) (hb : Below W.heap.size W W1) : UsedI w W1 n o D D' ix i :=
  ⟨blk_below h.bm hb, blk_below h.br hb, blk_below h.bo hb, below_then h.bel h.bel.size hb⟩
theorem UsedI.put {w W : World} {n o : List Int} {D D' : Value} {ix : List Nat} {i : Nat} (h : UsedI w W n o D D' ix i) (hi : i < ix.length) (hj : ix.getD i 0 < o.length) : UsedI w (W.setCell ⟨w.heap.size + 1 + 1, ix.getD i 0, none⟩ (.int .i64 (n.getD (ix.getD i 0) 0))) n o D D' ix (i + 1) := by
  have he : ix.take (i + 1) = ix.take i ++ [ix.getD i 0] := by
    rw [List.take_succ_eq_append_getElem hi]
    simp [List.getD_eq_getElem?_getD, hi]
  refine ⟨blk_far h.bm (by simp; omega) _, blk_far h.br (by simp) _, ?_, below_set h.bel (by omega)⟩
  rw [he, takeN_app]
  exact blk_put h.bo _ _ (msg_set (by rw [takeN_len]; exact hj) _)
end Go.Proofs.Ytkddlhcpplkpbaa.G
end

section
set_option maxRecDepth 100000
set_option linter.unusedVariables false
set_option linter.unusedSimpArgs false
namespace Go.Proofs.Ytkddlhcpplkpbaa.V
open WB Go Go.RowKit Go.Proofs.Ytkddlhcpplkpbaa.G Go.Proofs.YtkddlhcpplkpbaaW.PrintWords Go.Proofs.YtkddlhcpplkpbaaW.PrintLast Go.Proofs.YtkddlhcpplkpbaaW.PrintMore
/-- A message's numbers. -/
def nums (x : S25) : List Int := [x.f0, x.f1, x.f2, x.f3, x.f4, x.f5, x.f6, x.f7, x.f8, x.f9, x.f10]
/-- What its kind uses, alone. -/
def numsO (x : S25) : List Int := [x.f0, onlyF x.f0 1 x.f1, x.f2, onlyF x.f0 3 x.f3, onlyF x.f0 4 x.f4, onlyF x.f0 5 x.f5, onlyF x.f0 6 x.f6, onlyF x.f0 7 x.f7, onlyF x.f0 8 x.f8, onlyF x.f0 9 x.f9, onlyF x.f0 10 x.f10]
/-- May a message be? -/
def chkM (x : S25) : Int := if ixOf x.f0 = [] then 23 else if ([x.f1, x.f2, x.f3, x.f4, x.f5, x.f6, x.f7, x.f8, x.f9, x.f10] : List Int).any outI = true then 4 else if x.f11.length > 1024 then 5 else if x.f11 = onlyL x.f0 x.f11 ∧ nums x = numsO x then 0 else 9
/-- Its octets. -/
def encM (x : S25) : List Int := encAll (x.f0 :: x.f2 :: (ixOf x.f0).map fun j => (nums x).getD j 0) ++ (if dat x.f0 = true then txt x.f11 else [])
theorem equali_l0 (a b : List Int) (hab : a.length = b.length) (hm : a.length ≤ 140737488355328) : ∀ (d i : Nat), i + d = a.length → Ev (fun k => slices_Equal_int_int.l0 k a b (a.length : Int) (i : Int)) (decide (a.drop i = b.drop i)) := by
  intro d
  induction d with
  | zero =>
    intro i hi
    refine ⟨1, fun k hk => ?_⟩
    obtain ⟨k, rfl⟩ : ∃ m, k = m + 1 := ⟨k - 1, by omega⟩
    show slices_Equal_int_int.l0 (k + 1) a b _ _ = _
    rw [slices_Equal_int_int.l0, if_neg (by omega), List.drop_of_length_le (by omega), List.drop_of_length_le (by omega)]
    simp
  | succ d ih =>
    intro i hi
    have hlt : i < a.length := by omega
    have hlt2 : i < b.length := by omega
    have ra : rd a (i : Int) = a[i] := by simp [rd, List.getElem?_eq_getElem hlt]
    have rb : rd b (i : Int) = b[i] := by simp [rd, List.getElem?_eq_getElem hlt2]
    have hw : wrap64 ((i : Int) + 1) = ((i + 1 : Nat) : Int) := by unfold wrap64; omega
    rw [show a.drop i = a[i] :: a.drop (i + 1) from List.drop_eq_getElem_cons hlt, show b.drop i = b[i] :: b.drop (i + 1) from List.drop_eq_getElem_cons hlt2]
    by_cases he : a[i] = b[i]
    · have h := ih (i + 1) (by omega)
      have e : decide (a[i] :: a.drop (i + 1) = b[i] :: b.drop (i + 1)) = decide (a.drop (i + 1) = b.drop (i + 1)) := decide_eq_decide.2 ⟨fun q => (List.cons.inj q).2, fun q => by rw [he, q]⟩
      rw [e]
      refine Ev.step (fun k => ?_) h
      show slices_Equal_int_int.l0 (k + 1) a b _ _ = _
      rw [slices_Equal_int_int.l0, if_pos (by omega), if_pos (by omega), if_pos (by omega), if_pos (by omega), ra, rb, if_pos he, hw]
    · refine ⟨1, fun k hk => ?_⟩
      obtain ⟨k, rfl⟩ : ∃ m, k = m + 1 := ⟨k - 1, by omega⟩
      show slices_Equal_int_int.l0 (k + 1) a b _ _ = _
      rw [slices_Equal_int_int.l0, if_pos (by omega), if_pos (by omega), if_pos (by omega), if_pos (by omega), ra, rb, if_neg he, decide_eq_false (fun q => he (List.cons.inj q).1)]
theorem equali_f (a b : List Int) (hm : a.length ≤ 140737488355328) : Ev (fun k => slices_Equal_int_int.f k a b) (decide (a = b)) := by
  unfold slices_Equal_int_int.f
  by_cases h : a.length = b.length
  · have := equali_l0 a b h hm a.length 0 (by omega)
    rw [List.drop_zero, List.drop_zero] at this
    refine Ev.congr (fun k => ?_) this
    rw [if_pos (by omega)]
    rfl
  · refine Ev.congr (fun k => ?_) (Ev.now _)
    rw [if_neg (by omega), decide_eq_false (fun he => h (by rw [he]))]
theorem dat_iff (k : Int) : dat k = true ↔ (k = 3 ∨ k = 4) := by unfold dat; simp
theorem onlyL_dat (k : Int) (l : List Int) : onlyL k l = if dat k = true then l else [] := by
  unfold onlyL
  by_cases h : k = 3 ∨ k = 4
  · rw [if_pos h, if_pos ((dat_iff k).2 h)]
  · rw [if_neg h, if_neg (fun hd => h ((dat_iff k).1 hd))]
/-- Are two messages one? -/
def sameX (x y : S25) : Bool := decide (x.f11 = y.f11) && decide (nums x = nums y)
theorem nums_eq (x y : S25) : decide (nums x = nums y) = ((x.f0 == y.f0) && (x.f1 == y.f1) && (x.f2 == y.f2) && (x.f3 == y.f3) && (x.f4 == y.f4) && (x.f5 == y.f5) && (x.f6 == y.f6) && (x.f7 == y.f7) && (x.f8 == y.f8) && (x.f9 == y.f9) && (x.f10 == y.f10)) := by
  rw [Bool.eq_iff_iff]
  simp [nums, Bool.and_eq_true, and_assoc]
theorem plainsame_f (x y : S25) (hx : octetsOk x.f11 = true) (hy : octetsOk y.f11 = true) : waybillplain_SameMsg.f x.f0 x.f1 x.f2 x.f3 x.f4 x.f5 x.f6 x.f7 x.f8 x.f9 x.f10 x.f11 y.f0 y.f1 y.f2 y.f3 y.f4 y.f5 y.f6 y.f7 y.f8 y.f9 y.f10 y.f11 = some (sameX x y) := by
  unfold waybillplain_SameMsg.f sameX waybillplain_SameBytes.f
  rw [Option.bind_some, strs_eq _ _ hx hy, nums_eq]
  simp only [Bool.and_assoc]
theorem sameX_iff (x y : S25) : sameX x y = true ↔ x = y := by
  unfold sameX nums
  cases x; cases y
  simp
  constructor
  · rintro ⟨h, h0⟩; simp_all
  · rintro h; simp_all
theorem msame_f (x y : S25) (h0 : x.f0 = y.f0) (hm : x.f11.length ≤ 140737488355328) : Ev (fun k => message_same.f k x.f0 x.f1 x.f2 x.f3 x.f4 x.f5 x.f6 x.f7 x.f8 x.f9 x.f10 x.f11 y.f0 y.f1 y.f2 y.f3 y.f4 y.f5 y.f6 y.f7 y.f8 y.f9 y.f10 y.f11) (sameX x y) := by
  unfold message_same.f sameX
  have h1 := equal_f x.f11 y.f11 hm
  have h2 := equali_f [x.f1, x.f2, x.f3, x.f4, x.f5, x.f6, x.f7, x.f8, x.f9, x.f10] [y.f1, y.f2, y.f3, y.f4, y.f5, y.f6, y.f7, y.f8, y.f9, y.f10] (by simp)
  refine Ev.bind h1 ?_
  by_cases h : x.f11 = y.f11
  · rw [decide_eq_true h]
    refine Ev.congr (fun k => if_pos rfl) ?_
    have e : decide (nums x = nums y) = decide (([x.f1, x.f2, x.f3, x.f4, x.f5, x.f6, x.f7, x.f8, x.f9, x.f10] : List Int) = [y.f1, y.f2, y.f3, y.f4, y.f5, y.f6, y.f7, y.f8, y.f9, y.f10]) := decide_eq_decide.2 (by unfold nums; rw [h0]; simp)
    rw [Bool.true_and, e]
    unfold message_numbers.f
    exact Ev.congr (fun k => by rw [Option.bind_some, Option.bind_some]) (Ev.bind (f := fun _ t => some t) h2 (Ev.now _))
  · rw [decide_eq_false h]
    exact Ev.congr (fun k => if_neg (by decide)) (Ev.now _)
/-- What only leaves, as a message. -/
def onlyX (x : S25) : S25 := ⟨x.f0, onlyF x.f0 1 x.f1, x.f2, onlyF x.f0 3 x.f3, onlyF x.f0 4 x.f4, onlyF x.f0 5 x.f5, onlyF x.f0 6 x.f6, onlyF x.f0 7 x.f7, onlyF x.f0 8 x.f8, onlyF x.f0 9 x.f9, onlyF x.f0 10 x.f10, onlyL x.f0 x.f11⟩
theorem sameO (x : S25) : sameX x (onlyX x) = decide (x.f11 = onlyL x.f0 x.f11 ∧ nums x = numsO x) := by
  unfold sameX
  rw [Bool.decide_and]
  rfl
theorem chk_f (x : S25) (hm : x.f11.length ≤ 140737488355328) : Ev (fun k => message_Check.f k x.f0 x.f1 x.f2 x.f3 x.f4 x.f5 x.f6 x.f7 x.f8 x.f9 x.f10 x.f11) (chkM x) := by
  unfold message_Check.f chkM
  by_cases h1 : ixOf x.f0 = []
  · rw [if_pos h1]
    exact Ev.congr (fun k => if_pos h1) (Ev.now _)
  rw [if_neg h1]
  refine Ev.congr (fun k => if_neg h1) ?_
  by_cases h2 : ([x.f1, x.f2, x.f3, x.f4, x.f5, x.f6, x.f7, x.f8, x.f9, x.f10] : List Int).any outI = true
  · rw [if_pos h2]
    exact Ev.congr (fun k => if_pos h2) (Ev.now _)
  rw [if_neg h2]
  refine Ev.congr (fun k => if_neg h2) ?_
  by_cases h3 : x.f11.length > 1024
  · rw [if_pos h3]
    exact Ev.congr (fun k => if_pos h3) (Ev.now _)
  rw [if_neg h3]
  refine Ev.congr (fun k => if_neg h3) ?_
  have hs := msame_f x (onlyX x) rfl hm
  rw [sameO] at hs
  refine Ev.bind hs (Ev.congr (fun k => ?_) (Ev.now _))
  by_cases h4 : x.f11 = onlyL x.f0 x.f11 ∧ nums x = numsO x
  · rw [decide_eq_true h4, if_pos h4]; rfl
  · rw [decide_eq_false h4, if_neg h4]; rfl
structure MayBe (x : S25) : Prop where
  kind : 1 ≤ x.f0 ∧ x.f0 ≤ 8
  rng : ∀ n ∈ nums x, 0 ≤ n ∧ n ≤ 2147483647
  len : x.f11.length ≤ 1024
  only : nums x = numsO x
  data : x.f11 = onlyL x.f0 x.f11
theorem chk_ok {x : S25} (h : chkM x = 0) : MayBe x := by
  unfold chkM at h
  by_cases h1 : ixOf x.f0 = []
  · rw [if_pos h1] at h; cases h
  rw [if_neg h1] at h
  by_cases h2 : ([x.f1, x.f2, x.f3, x.f4, x.f5, x.f6, x.f7, x.f8, x.f9, x.f10] : List Int).any outI = true
  · rw [if_pos h2] at h; cases h
  rw [if_neg h2] at h
  by_cases h3 : x.f11.length > 1024
  · rw [if_pos h3] at h; cases h
  rw [if_neg h3] at h
  by_cases h4 : x.f11 = onlyL x.f0 x.f11 ∧ nums x = numsO x
  case neg => rw [if_neg h4] at h; cases h
  have hk : 1 ≤ x.f0 ∧ x.f0 ≤ 8 := by
    apply Classical.byContradiction
    intro hn
    exact h1 (ixOf_none hn)
  refine ⟨hk, fun n hn => ?_, by omega, h4.2, h4.1⟩
  have hn' : n = x.f0 ∨ n ∈ ([x.f1, x.f2, x.f3, x.f4, x.f5, x.f6, x.f7, x.f8, x.f9, x.f10] : List Int) := by
    unfold nums at hn
    exact List.mem_cons.1 hn
  rcases hn' with rfl | hn'
  · omega
  · have := fun ho => h2 (List.any_eq_true.2 ⟨n, hn', ho⟩)
    unfold outI at this
    simp at this
    omega
theorem enc_l0 (k0 : Nat) (xs : List Int) (hx : ∀ y ∈ xs, 0 ≤ y ∧ y ≤ 2147483647) : ∀ (b : List Int), b.length + 20 * xs.length < 140737488355328 → Ev (fun k => message_Encode.l0 k b xs) (b ++ encAll xs) := by
  induction xs with
  | nil => intro b _; rw [encAll_nil, List.append_nil]; exact Ev.congr (fun k => rfl) (Ev.now _)
  | cons y ys ih =>
    intro b hb
    have hy := hx y (by simp)
    simp only [List.length_cons] at hb
    have hw : IntKind.u64.wrap y = y := by rw [IntKind.wrap_u64]; omega
    have h1 := put_f b [y] (fun z hz => by rw [show z = y by simpa using hz]; omega) (by simp; omega)
    rw [encAll_one] at h1
    have hl := enc_len_10 (n := y.toNat) (by omega)
    have h2 := ih (fun z hz => hx z (by simp [hz])) (b ++ enc y.toNat) (by rw [List.length_append]; omega)
    rw [encAll_cons, ← List.append_assoc]
    refine Ev.congr (fun k => ?_) (Ev.bind (f := fun k b' => message_Encode.l0 k b' ys) h1 h2)
    rw [message_Encode.l0, hw]
theorem getD_mem (l : List Int) (j : Nat) (h : j < l.length) : l.getD j 0 ∈ l := by
  rw [List.getD_eq_getElem?_getD, List.getElem?_eq_getElem h]
  exact List.getElem_mem h
theorem fld_rng {x : S25} (h : MayBe x) : ∀ y ∈ (ixOf x.f0).map (fun j => (nums x).getD j 0), 0 ≤ y ∧ y ≤ 2147483647 := by
  intro y hy
  obtain ⟨j, hj, rfl⟩ := List.mem_map.1 hy
  exact h.rng _ (getD_mem _ _ (by have := ixOf_lt j hj; show j < 11; omega))
theorem encAll_len (xs : List Int) (hx : ∀ y ∈ xs, 0 ≤ y ∧ y ≤ 2147483647) : (encAll xs).length ≤ 10 * xs.length := by
  induction xs with
  | nil => simp [encAll]
  | cons y ys ih =>
    rw [encAll_cons, List.length_append, List.length_cons]
    have hy := hx y (by simp)
    have := enc_len_10 (n := y.toNat) (by omega)
    have := ih (fun z hz => hx z (by simp [hz]))
    omega
theorem encode_f (x : S25) (hm : x.f11.length ≤ 140737488355328) : Ev (fun k => message_Encode.f k x.f0 x.f1 x.f2 x.f3 x.f4 x.f5 x.f6 x.f7 x.f8 x.f9 x.f10 x.f11) (if chkM x = 0 then (encM x, 0) else ([], chkM x)) := by
  unfold message_Encode.f
  refine Ev.bind (chk_f x hm) ?_
  by_cases h : chkM x = 0
  case neg => rw [if_neg h]; exact Ev.congr (fun k => if_neg h) (Ev.now _)
  rw [if_pos h]
  refine Ev.congr (fun k => if_pos h) ?_
  have hM := chk_ok h
  have r0 := hM.rng x.f0 (by simp [nums])
  have r2 := hM.rng x.f2 (by simp [nums])
  have w0 : IntKind.u64.wrap x.f0 = x.f0 := by rw [IntKind.wrap_u64]; omega
  have w2 : IntKind.u64.wrap x.f2 = x.f2 := by rw [IntKind.wrap_u64]; omega
  rw [w0, w2]
  have h1 := put_f [] [x.f0, x.f2] (fun z hz => by rcases List.mem_cons.1 hz with h | h; (rw [h]; omega); (rw [show z = x.f2 by simpa using h]; omega)) (by simp)
  rw [List.nil_append] at h1
  refine Ev.bind h1 ?_
  have hlen := ixOf_len x.f0
  have hl1 := encAll_len [x.f0, x.f2] (fun z hz => by rcases List.mem_cons.1 hz with h | h; (rw [h]; omega); (rw [show z = x.f2 by simpa using h]; omega))
  have hl2 := encAll_len _ (fld_rng hM)
  simp only [List.length_cons, List.length_nil, List.length_map] at hl1 hl2
  have h2 := enc_l0 0 _ (fld_rng hM) (encAll [x.f0, x.f2]) (by simp only [List.length_map]; omega)
  refine Ev.bind h2 ?_
  have he : encAll [x.f0, x.f2] ++ encAll ((ixOf x.f0).map fun j => (nums x).getD j 0) = encAll (x.f0 :: x.f2 :: (ixOf x.f0).map fun j => (nums x).getD j 0) := by simp [encAll]
  rw [he]
  unfold encM
  by_cases hd : x.f0 = 3 ∨ x.f0 = 4
  · rw [if_pos ((dat_iff _).2 hd)]
    refine Ev.congr (fun k => if_pos hd) ?_
    have h3 := texts_f (encAll (x.f0 :: x.f2 :: (ixOf x.f0).map fun j => (nums x).getD j 0)) [x.f11] (by simp) (by rw [← he, List.length_append]; have := hM.len; simp only [lsum]; omega)
    rw [show txts [x.f11] = txt x.f11 by simp [txts]] at h3
    exact Ev.bind h3 (Ev.now _)
  · rw [if_neg (fun h => hd ((dat_iff _).1 h)), List.append_nil]
    exact Ev.congr (fun k => if_neg hd) (Ev.now _)
end Go.Proofs.Ytkddlhcpplkpbaa.V
end

section
namespace Go.Proofs.Ytkddlhcpplkpbaa.G
open WB Go.RowKit Go.Proofs.YtkddlhcpplkpbaaW.PrintWords Go.Proofs.YtkddlhcpplkpbaaW.PrintLast Go.Proofs.YtkddlhcpplkpbaaW.PrintMore
attribute [local go_sem] max2_int min2_int max_two min_two max_three min_three max_four min_four   -- for this text's walks alone
set_option linter.unusedVariables false
set_option linter.unusedSimpArgs false
/-- Where the reference's reader is. -/
structure DecI (w W : World) (gm : Nat) (o : List Int) (D : Value) : Prop where
  rb : W.heap[w.heap.size]? = some (.cells (msgCells [0, 0, 0, 0, 0, 0, 0, 0, 0, 0, 0] (.slice none 0 0)) 25 (0, 0))
  ms : W.heap[gm]? = some (.cells (msgCells o D) 25 (0, 0))
  bel : Below w.heap.size w W
  lt : w.heap.size < gm
theorem DecI.below {w W W1 : World} {gm : Nat} {o : List Int} {D : Value} (h : DecI w W gm o D) (hb : Below W.heap.size W W1) : DecI w W1 gm o D :=
  ⟨blk_below h.rb hb, blk_below h.ms hb, below_then h.bel h.bel.size hb, h.lt⟩
theorem DecI.put {w W : World} {gm : Nat} {o : List Int} {D : Value} (h : DecI w W gm o D) (j : Nat) (hj : j < o.length) (x : Int) : DecI w (W.setCell ⟨gm, j, none⟩ (.int .i64 x)) gm (o.set j x) D :=
  ⟨blk_far h.rb (by have := h.lt; simp; omega) _, blk_put h.ms _ _ (msg_set hj x), below_set h.bel (by have := h.lt; omega), h.lt⟩
theorem DecI.data {w W : World} {gm : Nat} {o : List Int} {D : Value} (h : DecI w W gm o D) (hj : o.length = 11) (D' : Value) : DecI w (W.setCell ⟨gm, 11, none⟩ D') gm o D' :=
  ⟨blk_far h.rb (by have := h.lt; simp; omega) _, blk_put h.ms _ _ (msg_setD hj), below_set h.bel (by have := h.lt; omega), h.lt⟩
/-- What comes of it. -/
def DecAt (w : World) (d : Int × List Int × List Int) (e : Ending) (w' : World) : Prop := (if d.1 = 0 then ∃ v, e = .returned (.tuple #[.agg (msgCells d.2.1 v), .int .i64 0]) ∧ d.2.1.length = 11 ∧ Kd.R (Kd.int .u8) 5 w' w.heap.size (fun _ => True) v d.2.2 else e = .returned (.tuple #[.agg (msgCells [0, 0, 0, 0, 0, 0, 0, 0, 0, 0, 0] (.slice none 0 0)), .int .i64 d.1])) ∧ Below w.heap.size w w'
theorem DecAt.ok {w w' : World} {o ld : List Int} {v v2 : Value} (hl : o.length = 11) (h2 : v2 = .int .i64 0) (hr : Kd.R (Kd.int .u8) 5 w' w.heap.size (fun _ => True) v ld) (hb : Below w.heap.size w w') : DecAt w (0, o, ld) (.returned (.tuple #[.agg (msgCells o v), v2])) w' :=
  ⟨by rw [if_pos rfl, h2]; exact ⟨v, rfl, hl, hr⟩, hb⟩
end Go.Proofs.Ytkddlhcpplkpbaa.G
end

section
set_option maxRecDepth 100000
set_option linter.unusedVariables false
set_option linter.unusedSimpArgs false
namespace Go.Proofs.Ytkddlhcpplkpbaa.V
open WB Go Go.RowKit Go.Proofs.Ytkddlhcpplkpbaa.G Go.Proofs.YtkddlhcpplkpbaaW.PrintWords Go.Proofs.YtkddlhcpplkpbaaW.PrintLast Go.Proofs.YtkddlhcpplkpbaaW.PrintMore
/-- The octets' kind, and what stands behind it. -/
def kdP (l : List Int) : Int := kindOf (getAt l 0).1
def rdP (l : List Int) : Int × Int × List Int := rdN l (2 :: ixOf (kdP l)) (getAt l 0).2.1 [kdP l, 0, 0, 0, 0, 0, 0, 0, 0, 0, 0]
/-- What octets tell: the fault, the numbers, the octets. -/
def decP (l : List Int) : Int × List Int × List Int :=
  if (getAt l 0).2.2 = 0 then (if ixOf (kdP l) = [] then (23, [], []) else
    (if (rdP l).1 = 0 then
      (if dat (kdP l) = true then (if (textAt l (rdP l).2.1 1024).2.2 = 0 then (if (textAt l (rdP l).2.1 1024).2.1 = (l.length : Int) then (0, (rdP l).2.2, (textAt l (rdP l).2.1 1024).1) else (22, [], [])) else ((textAt l (rdP l).2.1 1024).2.2, [], []))
      else (if (rdP l).2.1 = (l.length : Int) then (0, (rdP l).2.2, []) else (22, [], [])))
    else ((rdP l).1, [], [])))
  else ((getAt l 0).2.2, [], [])
theorem decM_f (l : List Int) (hok : octetsOk l = true) (hl : l.length < 140737488355328) (k : Nat) (hk : 1 ≤ k) : decM k l = some (decP l) := by
  unfold decM decP rdP kdP
  split
  · split
    · rfl
    · split
      · by_cases hd : kindOf (getAt l 0).1 = 3 ∨ kindOf (getAt l 0).1 = 4
        · rw [if_pos hd, if_pos ((dat_iff _).2 hd), (text_f l hok hl _ 1024 (by omega) (by omega) k hk).1, Option.bind_some]
          split
          · split <;> rfl
          · rfl
        · rw [if_neg hd, if_neg (fun h => hd ((dat_iff _).1 h))]
          split <;> rfl
      · rfl
  · rfl
/-- Numbers laid into places. -/
def setAll (o : List Int) : List Nat → List Int → List Int
  | j :: js, v :: vs => setAll (o.set j v) js vs
  | _, _ => o
theorem setAll_take (n : List Int) : ∀ (js : List Nat) (o : List Int), setAll o js (js.map fun j => n.getD j 0) = takeN n o js
  | [], _ => rfl
  | j :: js, o => by rw [List.map_cons, setAll, takeN, setAll_take n js]
/-- Numbers that stand in octets are read. -/
theorem rdN_enc : ∀ (js : List Nat) (vs : List Int) (x rest o : List Int), vs.length = js.length → (∀ v ∈ vs, 0 ≤ v ∧ v ≤ 2147483647) →
    rdN (x ++ (encAll vs ++ rest)) js (x.length : Int) o = (0, ((x ++ encAll vs).length : Int), setAll o js vs)
  | [], [], x, rest, o, _, _ => by simp [rdN, setAll, encAll]
  | [], _ :: _, _, _, _, h, _ => by simp at h
  | _ :: _, [], _, _, _, h, _ => by simp at h
  | j :: js, v :: vs, x, rest, o, h, hv => by
    have hv0 := hv v List.mem_cons_self
    have hg := getAt_enc x v.toNat (encAll vs ++ rest) (by omega)
    rw [rdN, encAll_cons, List.append_assoc, hg]
    dsimp only
    have hvn : ((v.toNat : Nat) : Int) = v := Int.toNat_of_nonneg hv0.1
    rw [if_pos rfl, hvn, if_pos hv0.2, show wrap64 v = v by unfold wrap64; omega]
    have ih := rdN_enc js vs (x ++ enc v.toNat) rest (o.set j v) (by simpa using h) (fun y hy => hv y (List.mem_cons_of_mem _ hy))
    rw [List.append_assoc, List.length_append, Int.natCast_add] at ih
    rw [ih, setAll, List.append_assoc]
/-- The answer of the program's and the reference's, spread out. -/
def outP (d : Int × List Int × List Int) : Int × Int × Int × Int × Int × Int × Int × Int × Int × Int × Int × List Int × Int := (d.2.1.getD 0 0, d.2.1.getD 1 0, d.2.1.getD 2 0, d.2.1.getD 3 0, d.2.1.getD 4 0, d.2.1.getD 5 0, d.2.1.getD 6 0, d.2.1.getD 7 0, d.2.1.getD 8 0, d.2.1.getD 9 0, d.2.1.getD 10 0, d.2.2, d.1)
theorem decode_f (l : List Int) (hok : octetsOk l = true) (hl : l.length < 140737488355328) : Ev (fun k => message_Decode.f k l) (outP (decP l)) := by
  refine ⟨1, fun k hk => ?_⟩
  show message_Decode.f k l = _
  unfold message_Decode.f
  rw [if_pos hok, decM_f l hok hl k hk]
  rfl
end Go.Proofs.Ytkddlhcpplkpbaa.V
end

section
set_option maxRecDepth 100000
set_option linter.unusedVariables false
set_option linter.unusedSimpArgs false
namespace Go.Proofs.Ytkddlhcpplkpbaa.V
open WB Go Go.RowKit Go.Proofs.Ytkddlhcpplkpbaa.G Go.Proofs.YtkddlhcpplkpbaaW.PrintWords Go.Proofs.YtkddlhcpplkpbaaW.PrintLast Go.Proofs.YtkddlhcpplkpbaaW.PrintMore
theorem numsO_take (x : S25) : takeN (nums x) [x.f0, 0, 0, 0, 0, 0, 0, 0, 0, 0, 0] (2 :: ixOf x.f0) = numsO x := onlyN_all x.f0 x.f1 x.f2 x.f3 x.f4 x.f5 x.f6 x.f7 x.f8 x.f9 x.f10
theorem set_nums {x : S25} (h : MayBe x) : setAll [x.f0, 0, 0, 0, 0, 0, 0, 0, 0, 0, 0] (2 :: ixOf x.f0) (x.f2 :: (ixOf x.f0).map fun j => (nums x).getD j 0) = nums x := by
  have := setAll_take (nums x) (2 :: ixOf x.f0) [x.f0, 0, 0, 0, 0, 0, 0, 0, 0, 0, 0]
  rw [numsO_take, ← h.only] at this
  exact this
/-- The numbers behind the kind. -/
def valsM (x : S25) : List Int := x.f2 :: (ixOf x.f0).map fun j => (nums x).getD j 0
/-- The octets behind the numbers. -/
def tailM (x : S25) : List Int := if dat x.f0 = true then txt x.f11 else []
theorem encM_is (x : S25) : encM x = enc x.f0.toNat ++ (encAll (valsM x) ++ tailM x) := by
  unfold encM valsM tailM
  rw [encAll_cons, List.append_assoc]
theorem vals_rng {x : S25} (h : MayBe x) : ∀ v ∈ valsM x, 0 ≤ v ∧ v ≤ 2147483647 := by
  intro v hv
  rcases List.mem_cons.1 hv with rfl | hv
  · exact h.rng _ (by simp [nums])
  · exact fld_rng h v hv
theorem vals_len (x : S25) : (valsM x).length = (2 :: ixOf x.f0).length := by simp [valsM]
theorem kind_ne {x : S25} (h : MayBe x) : ixOf x.f0 ≠ [] := by
  have hc : x.f0 = 1 ∨ x.f0 = 2 ∨ x.f0 = 3 ∨ x.f0 = 4 ∨ x.f0 = 5 ∨ x.f0 = 6 ∨ x.f0 = 7 ∨ x.f0 = 8 := by have := h.kind; omega
  rcases hc with h | h | h | h | h | h | h | h <;> rw [h] <;> decide
theorem kindOf_small {q : Int} (h0 : 1 ≤ q) (h1 : q ≤ 8) : kindOf q = q := by
  unfold kindOf mn wrap64
  rw [if_neg (by omega)]
  omega
theorem get_kind {x : S25} (h : MayBe x) (r : List Int) : getAt (enc x.f0.toNat ++ r) 0 = (x.f0, ((enc x.f0.toNat).length : Int), 0) ∧ kdP (enc x.f0.toNat ++ r) = x.f0 := by
  have hk := h.kind
  have hg := getAt_enc [] x.f0.toNat r (by omega)
  rw [List.nil_append] at hg
  have hn : ((x.f0.toNat : Nat) : Int) = x.f0 := Int.toNat_of_nonneg (by omega)
  simp only [List.length_nil, Int.natCast_zero, Int.zero_add, hn] at hg
  refine ⟨hg, ?_⟩
  unfold kdP
  rw [hg]
  exact kindOf_small hk.1 hk.2
theorem read_vals {x : S25} (h : MayBe x) (r : List Int) : rdP (enc x.f0.toNat ++ (encAll (valsM x) ++ r)) = (0, ((enc x.f0.toNat ++ encAll (valsM x)).length : Int), nums x) := by
  obtain ⟨h1, h2⟩ := get_kind h (encAll (valsM x) ++ r)
  unfold rdP
  rw [h1, h2]
  dsimp only
  rw [rdN_enc _ _ _ _ _ (vals_len x) (vals_rng h)]
  exact congrArg (fun z => ((0 : Int), ((enc x.f0.toNat ++ encAll (valsM x)).length : Int), z)) (set_nums h)
/-- A message's octets tell it; with more behind them, something is left. -/
theorem dec_enc {x : S25} (h : MayBe x) (rest : List Int) : decP (encM x ++ rest) = if rest = [] then (0, nums x, x.f11) else (22, [], []) := by
  have hl : encM x ++ rest = enc x.f0.toNat ++ (encAll (valsM x) ++ (tailM x ++ rest)) := by rw [encM_is]; simp only [List.append_assoc]
  obtain ⟨h1, h2⟩ := get_kind h (encAll (valsM x) ++ (tailM x ++ rest))
  have h3 := read_vals h (tailM x ++ rest)
  have hlen : (rest.length = 0) ↔ rest = [] := List.length_eq_zero_iff
  rw [hl]
  unfold decP
  rw [h1, h2, h3]
  dsimp only
  rw [if_pos rfl, if_neg (kind_ne h), if_pos rfl]
  by_cases hd : dat x.f0 = true
  · rw [if_pos hd]
    have ht : tailM x = enc x.f11.length ++ x.f11 := by unfold tailM; rw [if_pos hd]; rfl
    have hlen2 := h.len
    have hL : enc x.f0.toNat ++ (encAll (valsM x) ++ (tailM x ++ rest)) = (enc x.f0.toNat ++ encAll (valsM x)) ++ (enc x.f11.length ++ (x.f11 ++ rest)) := by rw [ht]; simp only [List.append_assoc]
    rw [hL]
    generalize hpre : enc x.f0.toNat ++ encAll (valsM x) = pre
    have hg := getAt_enc pre x.f11.length (x.f11 ++ rest) (by omega)
    have hta : textAt (pre ++ (enc x.f11.length ++ (x.f11 ++ rest))) (pre.length : Int) 1024 = (x.f11, (pre.length : Int) + ((enc x.f11.length).length : Int) + (x.f11.length : Int), 0) := by
      unfold textAt
      rw [hg]
      dsimp only
      rw [if_pos rfl, if_neg (by omega), if_neg (by simp only [List.length_append]; omega)]
      have e1 : ((pre.length : Int) + ((enc x.f11.length).length : Int)).toNat = (pre ++ enc x.f11.length).length := by rw [List.length_append]; omega
      rw [e1, ← List.append_assoc, List.drop_left, Int.toNat_natCast, List.take_left]
    rw [hta]
    dsimp only
    rw [if_pos rfl]
    by_cases hr : rest = []
    · rw [if_pos hr, if_pos (by simp only [List.length_append]; rw [hr]; simp; omega)]
    · rw [if_neg hr, if_neg (by simp only [List.length_append]; have := mt hlen.1 hr; omega)]
  · rw [if_neg hd]
    have ht : tailM x = [] := by unfold tailM; rw [if_neg hd]
    have hf : x.f11 = [] := by have := h.data; rw [onlyL_dat, if_neg hd] at this; exact this
    rw [ht, List.nil_append, hf]
    by_cases hr : rest = []
    · rw [if_pos hr, if_pos (by rw [hr]; simp)]
    · rw [if_neg hr, if_neg (by simp only [List.length_append]; have := mt hlen.1 hr; omega)]
theorem chk_of {x : S25} (h : MayBe x) : chkM x = 0 := by
  unfold chkM
  rw [if_neg (kind_ne h), if_neg, if_neg (by have := h.len; omega), if_pos ⟨h.data, h.only⟩]
  intro ha
  obtain ⟨n, hn, ho⟩ := List.any_eq_true.1 ha
  have hr := h.rng n (by unfold nums; exact List.mem_cons_of_mem _ hn)
  unfold outI at ho
  simp at ho
  omega
end Go.Proofs.Ytkddlhcpplkpbaa.V
end

section
set_option maxRecDepth 100000
set_option linter.unusedVariables false
set_option linter.unusedSimpArgs false
namespace Go.Proofs.Ytkddlhcpplkpbaa.V
open WB Go Go.RowKit Go.Proofs.Ytkddlhcpplkpbaa.G Go.Proofs.YtkddlhcpplkpbaaW.PrintWords Go.Proofs.YtkddlhcpplkpbaaW.PrintLast Go.Proofs.YtkddlhcpplkpbaaW.PrintMore
def aliveX : S25 := ⟨8, 2, 3, 0, 0, 0, 0, 4, 0, 0, 0, []⟩
theorem aliveX_chk : chkM aliveX = 0 := by decide +kernel
theorem aliveX_enc : encM aliveX = [8, 3, 2, 4] := by
  unfold encM encAll
  have h1 : ((aliveX.f0 :: aliveX.f2 :: (ixOf aliveX.f0).map fun j => (nums aliveX).getD j 0)) = [8, 3, 2, 4] := by decide +kernel
  rw [h1, if_neg (by decide +kernel)]
  simp [enc_small]
theorem alive_f : Ev (fun k => waybilllaw09_alive.f k) true := by
  have h1 := encode_f aliveX (by simp [aliveX])
  rw [if_pos aliveX_chk, aliveX_enc] at h1
  have h2 := dec_enc (chk_ok aliveX_chk) []
  rw [if_pos rfl, aliveX_enc, List.append_nil] at h2
  have h3 := decode_f [8, 3, 2, 4] (by decide) (by simp)
  rw [h2] at h3
  unfold waybilllaw09_alive.f
  refine Ev.bind h1 (Ev.bind h3 ?_)
  exact Ev.congr (fun k => congrArg some (by decide +kernel)) (Ev.now true)
end Go.Proofs.Ytkddlhcpplkpbaa.V
end

section
set_option maxRecDepth 100000
set_option linter.unusedVariables false
set_option linter.unusedSimpArgs false
namespace Go.Proofs.Ytkddlhcpplkpbaa.Pure
open WB Go Go.RowKit Go.Proofs.Ytkddlhcpplkpbaa.G Go.Proofs.Ytkddlhcpplkpbaa.V Go.Proofs.YtkddlhcpplkpbaaW.PrintWords Go.Proofs.YtkddlhcpplkpbaaW.PrintLast Go.Proofs.YtkddlhcpplkpbaaW.PrintMore
/-- The message with what its kind uses, as the law tells it. -/
def lawX (x : S25) : S25 := ⟨x.f0, lawF x.f0 1 x.f1, lawF x.f0 2 x.f2, lawF x.f0 3 x.f3, lawF x.f0 4 x.f4, lawF x.f0 5 x.f5, lawF x.f0 6 x.f6, lawF x.f0 7 x.f7, lawF x.f0 8 x.f8, lawF x.f0 9 x.f9, lawF x.f0 10 x.f10, lawD x.f0 x.f11⟩
theorem chk_cases (x : S25) : chkM x = 23 ∨ chkM x = 4 ∨ chkM x = 5 ∨ (chkM x = 0 ∨ chkM x = 9) ∧ ixOf x.f0 ≠ [] ∧ ¬ ([x.f1, x.f2, x.f3, x.f4, x.f5, x.f6, x.f7, x.f8, x.f9, x.f10] : List Int).any outI = true := by
  unfold chkM
  split
  · exact .inl rfl
  · rename_i h
    split
    · exact .inr (.inl rfl)
    · rename_i h2
      split
      · exact .inr (.inr (.inl rfl))
      · refine .inr (.inr (.inr ⟨?_, h, h2⟩))
        split
        · exact .inl rfl
        · exact .inr rfl
theorem law_same {x : S25} (hk : x.f0 = 3 ∨ x.f0 = 4) : lawX x = x := by
  obtain ⟨a0, a1, a2, a3, a4, a5, a6, a7, a8, a9, a10, a11⟩ := x
  dsimp only at hk
  rcases hk with rfl | rfl <;> rfl
theorem law_may {x : S25} (h : MayBe x) : lawX x = x := by
  have hk := h.kind
  have ho := h.only
  have hd := h.data
  obtain ⟨a0, a1, a2, a3, a4, a5, a6, a7, a8, a9, a10, a11⟩ := x
  dsimp only at hk hd
  have hc : a0 = 1 ∨ a0 = 2 ∨ a0 = 3 ∨ a0 = 4 ∨ a0 = 5 ∨ a0 = 6 ∨ a0 = 7 ∨ a0 = 8 := by omega
  rcases hc with rfl | rfl | rfl | rfl | rfl | rfl | rfl | rfl <;>
  (simp [V.nums, numsO, onlyF, ixOf] at ho; simp [onlyL] at hd; simp [lawX, lawF, lawD]; try simp_all)
theorem law_chk {x : S25} (hk : x.f0 = 1 ∨ x.f0 = 8 ∨ x.f0 = 6 ∨ x.f0 = 7) (h : ¬ ([x.f1, x.f2, x.f3, x.f4, x.f5, x.f6, x.f7, x.f8, x.f9, x.f10] : List Int).any outI = true) : chkM (lawX x) = 0 := by
  have hr : ∀ n ∈ ([x.f1, x.f2, x.f3, x.f4, x.f5, x.f6, x.f7, x.f8, x.f9, x.f10] : List Int), 0 ≤ n ∧ n ≤ 2147483647 := by
    intro n hn
    have := fun ho => h (List.any_eq_true.2 ⟨n, hn, ho⟩)
    unfold outI at this
    simp at this
    omega
  obtain ⟨a0, a1, a2, a3, a4, a5, a6, a7, a8, a9, a10, a11⟩ := x
  dsimp only at hk hr
  have r1 := hr a1 (by simp)
  have r2 := hr a2 (by simp)
  have r3 := hr a3 (by simp)
  have r4 := hr a4 (by simp)
  have r5 := hr a5 (by simp)
  have r7 := hr a7 (by simp)
  refine chk_of ?_
  rcases hk with rfl | rfl | rfl | rfl
  all_goals
    refine ⟨?_, ?_, ?_, ?_, ?_⟩
    · simp [lawX]
    · intro n hn
      simp [V.nums, lawX, lawF] at hn
      omega
    · simp [lawX, lawD]
    · simp [V.nums, numsO, onlyF, ixOf, lawX, lawF]
    · simp [lawX, lawD, onlyL]
theorem MessageUses (x : S25) {w0 w1 w2 w3 w4 w5 w6 w7 w8 w9 w10 : Prop} (hx : w0 ∧ w1 ∧ w2 ∧ w3 ∧ w4 ∧ w5 ∧ w6 ∧ w7 ∧ w8 ∧ w9 ∧ w10 ∧ ∀ a ∈ x.f11, (Lit.int .u8 a).wf = true) {q0 q1 q2 q3 q4 q5 q6 q7 q8 q9 q10 qx : Prop} (hsx : q0 ∧ q1 ∧ q2 ∧ q3 ∧ q4 ∧ q5 ∧ q6 ∧ q7 ∧ q8 ∧ q9 ∧ q10 ∧ x.f11.length * 1 ≤ reachBytes ∧ qx) : ∃ k, waybilllaw09_MessageUses.f k x.f0 x.f1 x.f2 x.f3 x.f4 x.f5 x.f6 x.f7 x.f8 x.f9 x.f10 x.f11 = some true := by
  have hokx := ok_of_wf hx.2.2.2.2.2.2.2.2.2.2.2
  have hlx : x.f11.length < 140737488355328 := by have := hsx.2.2.2.2.2.2.2.2.2.2.2.1; simp only [reachBytes] at this; omega
  obtain ⟨K1, h1⟩ := alive_f
  obtain ⟨K2, h2⟩ := encode_f x (by omega)
  have hlo : octetsOk (lawD x.f0 x.f11) = true := by
    unfold lawD
    split
    · exact hokx
    · rfl
  have hll : (lawX x).f11.length ≤ 140737488355328 := by
    show (lawD x.f0 x.f11).length ≤ _
    unfold lawD
    split
    · omega
    · simp
  obtain ⟨K3, h3⟩ := chk_f (lawX x) hll
  have hsm := plainsame_f (lawX x) x hlo hokx
  have hsm' : waybillplain_SameMsg.f x.f0 (lawF x.f0 1 x.f1) (lawF x.f0 2 x.f2) (lawF x.f0 3 x.f3) (lawF x.f0 4 x.f4) (lawF x.f0 5 x.f5) (lawF x.f0 6 x.f6) (lawF x.f0 7 x.f7) (lawF x.f0 8 x.f8) (lawF x.f0 9 x.f9) (lawF x.f0 10 x.f10) (lawD x.f0 x.f11) x.f0 x.f1 x.f2 x.f3 x.f4 x.f5 x.f6 x.f7 x.f8 x.f9 x.f10 x.f11 = some (sameX (lawX x) x) := hsm
  obtain ⟨K, hK⟩ : ∃ K, K = K1 + K2 + K3 := ⟨_, rfl⟩
  have a1 := h1 K (by omega)
  have a2 := h2 K (by omega)
  have a3 := h3 K (by omega)
  dsimp only at a1 a2
  have a3' : message_Check.f K x.f0 (lawF x.f0 1 x.f1) (lawF x.f0 2 x.f2) (lawF x.f0 3 x.f3) (lawF x.f0 4 x.f4) (lawF x.f0 5 x.f5) (lawF x.f0 6 x.f6) (lawF x.f0 7 x.f7) (lawF x.f0 8 x.f8) (lawF x.f0 9 x.f9) (lawF x.f0 10 x.f10) (lawD x.f0 x.f11) = some (chkM (lawX x)) := a3
  refine ⟨K, ?_⟩
  unfold waybilllaw09_MessageUses.f
  rw [a1, Option.bind_some, if_pos rfl, a2, Option.bind_some]
  have hb : chkM x ≠ 0 → (if chkM x = 0 then (encM x, (0 : Int)) else ([], chkM x)) = ([], chkM x) := fun h => if_neg h
  rcases chk_cases x with h | h | h | ⟨h, hx0, hx1⟩
  · rw [hb (by omega)]
    dsimp only
    rw [if_pos (Or.inl h)]; rfl
  · rw [hb (by omega)]
    dsimp only
    rw [if_pos (Or.inr (Or.inl h))]; rfl
  · rw [hb (by omega)]
    dsimp only
    rw [if_pos (Or.inr (Or.inr h))]; rfl
  · rcases h with h | h
    · have hM := chk_ok h
      rw [show (if chkM x = 0 then (encM x, (0 : Int)) else ([], chkM x)) = (encM x, 0) from if_pos h]
      dsimp only
      rw [if_neg (by decide), hsm', Option.bind_some, if_pos ((sameX_iff _ _).2 (law_may hM))]
    · rw [hb (by omega)]
      dsimp only
      rw [if_neg (by omega), hsm', Option.bind_some]
      by_cases hs : sameX (lawX x) x = true
      · rw [if_pos hs]
      rw [if_neg hs, if_pos h]
      by_cases hk : x.f0 = 2 ∨ x.f0 = 5
      · rw [if_pos hk]
      rw [if_neg hk, a3', Option.bind_some]
      have hkk : 1 ≤ x.f0 ∧ x.f0 ≤ 8 := by
        apply Classical.byContradiction
        intro hn
        exact hx0 (ixOf_none hn)
      have hc : x.f0 = 1 ∨ x.f0 = 8 ∨ x.f0 = 6 ∨ x.f0 = 7 := by
        have : ¬ (x.f0 = 3 ∨ x.f0 = 4) := fun h => hs ((sameX_iff _ _).2 (law_same h))
        omega
      rw [law_chk hc hx1]
      rfl
end Go.Proofs.Ytkddlhcpplkpbaa.Pure
end
