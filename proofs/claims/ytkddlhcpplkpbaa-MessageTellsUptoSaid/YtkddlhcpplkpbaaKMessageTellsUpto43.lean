/- MessageTellsUpto: texts of this claim, packed: what the kit's print has written for it and own texts, without what its proof does not reach. -/
import Derived.Test.YtkddlhcpplkpbaaKMessageTellsUpto0
import Derived.Test.YtkddlhcpplkpbaaKMessageTellsUpto2
import Derived.Test.YtkddlhcpplkpbaaKMessageTellsUpto6
import Derived.Test.YtkddlhcpplkpbaaKMessageTellsUpto9
import Derived.Test.YtkddlhcpplkpbaaKMessageTellsUpto17
import Derived.Test.YtkddlhcpplkpbaaKMessageTellsUpto19
import Derived.Test.YtkddlhcpplkpbaaKMessageTellsUpto20
import Derived.Test.YtkddlhcpplkpbaaKMessageTellsUpto21
import Derived.Test.YtkddlhcpplkpbaaKMessageTellsUpto22
import Derived.Test.YtkddlhcpplkpbaaKMessageTellsUpto24
import Derived.Test.YtkddlhcpplkpbaaKMessageTellsUpto25
import Derived.Test.YtkddlhcpplkpbaaKMessageTellsUpto26
import Derived.Test.YtkddlhcpplkpbaaKMessageTellsUpto27
import Derived.Test.YtkddlhcpplkpbaaKMessageTellsUpto28
import Derived.Test.YtkddlhcpplkpbaaKMessageTellsUpto29
import Derived.Test.YtkddlhcpplkpbaaKMessageTellsUpto31
import Derived.Test.YtkddlhcpplkpbaaKMessageTellsUpto33
import Derived.Test.YtkddlhcpplkpbaaKMessageTellsUpto34
import Derived.Test.YtkddlhcpplkpbaaKMessageTellsUpto35
import Derived.Test.YtkddlhcpplkpbaaKMessageTellsUpto36
import Derived.Test.YtkddlhcpplkpbaaKMessageTellsUpto40
import Derived.Test.YtkddlhcpplkpbaaKMessageTellsUpto41
import Derived.Test.YtkddlhcpplkpbaaKMessageTellsUpto42
set_option linter.unusedVariables false
set_option linter.unusedSimpArgs false
set_option linter.unusedSectionVars false
section
namespace Go.Proofs.Ytkddlhcpplkpbaa.V
open WB Go Go.RowKit Go.Proofs.Ytkddlhcpplkpbaa.G Go.Proofs.YtkddlhcpplkpbaaW.PrintWords Go.Proofs.YtkddlhcpplkpbaaW.PrintLast Go.Proofs.YtkddlhcpplkpbaaW.PrintMore
theorem sum_f (l : List (List Int)) (h : l.all octetsOk = true) : crc_Sum.f l = some (ofB (~~~ (runO (BitVec.allOnes 32) l.flatten))) := by
 unfold crc_Sum.f
 rw [if_pos h]
theorem sum_one (l : List Int) (h : octetsOk l = true) : crc_Sum.f [l] = some (ofB (~~~ (runO (BitVec.allOnes 32) l))) := by
 rw [sum_f [l] (by simp [h])]
 simp
end Go.Proofs.Ytkddlhcpplkpbaa.V
end
section
namespace WB
open Go Go.RowKit Go.Proofs.YtkddlhcpplkpbaaW.PrintWords Go.Proofs.YtkddlhcpplkpbaaW.PrintLast Go.Proofs.YtkddlhcpplkpbaaW.PrintMore
theorem step_bit (c : BitVec 32) (b : Bool) : ofB (stp (c ^^^ bit32 b)) = if c.getLsbD 0 = b then ofB c / (2 : Int) else Go.bits .xor .u32 (ofB c / (2 : Int)) (3988292384 : Int) := by
 have h := shr_B c 1
 rw [show ((2 ^ 1 : Nat) : Int) = 2 from rfl] at h
 have t1 : stp (bit32 true) = turn32 := by decide
 have t0 : stp (bit32 false) = 0#32 := by decide
 have ht : (3988292384 : Int) = ofB turn32 := rfl
 rw [stp_xor, h, ht, xor_B]
 unfold stp at *
 cases hc : c.getLsbD 0 <;> cases b
 · rw [if_pos rfl]; simp [bit32]
 · rw [if_neg (by simp)]; simp only [t1, cond_false, BitVec.xor_zero]
 · rw [if_neg (by simp)]; simp [bit32]
 · rw [if_pos rfl]
   congr 1
   show c >>> 1 ^^^ turn32 ^^^ (bit32 true >>> 1 ^^^ _) = _
   have : (bit32 true >>> 1 ^^^ (bif (bit32 true).getLsbD 0 then turn32 else 0#32)) = turn32 := by decide
   rw [this, BitVec.xor_assoc, BitVec.xor_self, BitVec.xor_zero]
theorem shr_oct (x : Int) (i : Nat) (h0 : 0 ≤ x) (h1 : x < 256) (hi : i < 8) : shr .u8 x (i : Int) = ((x.toNat / 2 ^ i : Nat) : Int) ∧ x.toNat / 2 ^ i < 256 := by
 obtain ⟨X, rfl⟩ := Int.eq_ofNat_of_zero_le h0
 refine ⟨?_, Nat.lt_of_le_of_lt (Nat.div_le_self _ _) (by omega)⟩
 unfold shr
 rw [Int.toNat_natCast, Nat.min_eq_left (by show i ≤ 8; omega), Int.toNat_natCast, Int.natCast_ediv, Int.natCast_pow]
 rfl
theorem oct_bit32 (x : Int) (i : Nat) (h0 : 0 ≤ x) (h1 : x < 256) (hi : i < 8) : Go.bits .and .u32 ((shr .u8 x (i : Int)) % 4294967296) 1 = if x.toNat.testBit i then 1 else 0 := by
 obtain ⟨e, hl⟩ := shr_oct x i h0 h1 hi
 rw [e, Int.emod_eq_of_lt (Int.natCast_nonneg _) (by have h3 : ((x.toNat / 2 ^ i : Nat) : Int) < ((256 : Nat) : Int) := Int.ofNat_lt.2 hl; generalize ((x.toNat / 2 ^ i : Nat) : Int) = z at h3; omega), show (1 : Int) = ((1 : Nat) : Int) from rfl, u32_and_nat _ 1 (by omega) (by omega), Nat.and_one_is_mod, ← Nat.toNat_testBit]
 cases x.toNat.testBit i <;> rfl
theorem bits8_drop (x : Int) (i : Nat) (hi : i < 8) : (bits8 x).drop i = x.toNat.testBit i :: (bits8 x).drop (i + 1) := by
 rw [List.drop_eq_getElem_cons (by rw [bits8_length]; exact hi)]
 congr 1
 have := bits8_get x i hi
 rw [List.getElem?_eq_getElem (by rw [bits8_length]; exact hi)] at this
 exact Option.some.inj this
end WB
namespace Go.Proofs.Ytkddlhcpplkpbaa.V
open WB Go Go.RowKit Go.Proofs.Ytkddlhcpplkpbaa.G Go.Proofs.YtkddlhcpplkpbaaW.PrintWords Go.Proofs.YtkddlhcpplkpbaaW.PrintLast Go.Proofs.YtkddlhcpplkpbaaW.PrintMore
theorem rd_nat (l : List Int) (q : Nat) : rd l (q : Int) = l.getD q 0 := by unfold rd; rw [Int.toNat_natCast]
theorem refrun_l1 (l : List Int) (q : Nat) (hq : q < l.length) (hok : octetsOk l = true) (r : Int) : ∀ (d i : Nat) (c : BitVec 32), i + d = 8 →
  Ev (fun k => waybillref02_run.l0 k (ofB (feed c ((bits8 (l.getD q 0)).drop i))) l (wrap64 ((q : Int) + 1))) r → Ev (fun k => waybillref02_run.l1 k (ofB c) l (q : Int) (i : Int)) r := by
 have hx := octetsOk_get hok q
 intro d
 induction d with
 | zero =>
  intro i c hi h
  refine Ev.step (fun k => ?_) h
  show waybillref02_run.l1 (k + 1) (ofB c) l q i = _
  rw [waybillref02_run.l1, if_neg (by omega), List.drop_of_length_le (by rw [bits8_length]; omega)]
  rfl
 | succ d ih =>
  intro i c hi h
  rw [bits8_drop _ i (by omega)] at h
  have h2 := ih (i + 1) (stp (c ^^^ bit32 ((l.getD q 0).toNat.testBit i))) (by omega) h
  refine Ev.step (fun k => ?_) h2
  show waybillref02_run.l1 (k + 1) (ofB c) l q i = _
  rw [waybillref02_run.l1, if_pos (by omega), if_pos (by omega), if_pos (by omega), if_pos (by omega), rd_nat, oct_bit32 _ i hx.1 hx.2 (by omega), and1_B, step_bit, show wrap64 ((i : Int) + 1) = ((i + 1 : Nat) : Int) by unfold wrap64; omega]
  cases c.getLsbD 0 <;> cases (l.getD q 0).toNat.testBit i <;> simp
theorem refrun_l0 (l : List Int) (hok : octetsOk l = true) (hl : l.length ≤ 140737488355328) : ∀ (d q : Nat) (c : BitVec 32), q + d = l.length → Ev (fun k => waybillref02_run.l0 k (ofB c) l (q : Int)) (ofB (runO c (l.drop q))) := by
 intro d
 induction d with
 | zero =>
  intro q c hq
  refine ⟨1, fun k hk => ?_⟩
  obtain ⟨k, rfl⟩ : ∃ m, k = m + 1 := ⟨k - 1, by omega⟩
  show waybillref02_run.l0 (k + 1) (ofB c) l q = _
  rw [waybillref02_run.l0, if_neg (by omega), List.drop_of_length_le (by omega)]
  rfl
 | succ d ih =>
  intro q c hq
  have hlt : q < l.length := by omega
  have hx := octetsOk_get hok q
  have h := ih (q + 1) (onO c (l.getD q 0)) (by omega)
  have hw : wrap64 ((q : Int) + 1) = ((q + 1 : Nat) : Int) := by unfold wrap64; omega
  have h1 := refrun_l1 l q hlt hok (ofB (runO (onO c (l.getD q 0)) (l.drop (q + 1)))) 8 0 c rfl (by
   rw [List.drop_zero, feed_octet c _ hx.1 hx.2, hw]; exact h)
  have e : runO c (l.drop q) = runO (onO c (l.getD q 0)) (l.drop (q + 1)) := by
   rw [List.drop_eq_getElem_cons hlt, List.getD_eq_getElem?_getD, List.getElem?_eq_getElem hlt]
   rfl
  rw [e]
  refine Ev.step (fun k => ?_) h1
  show waybillref02_run.l0 (k + 1) (ofB c) l q = _
  rw [waybillref02_run.l0, if_pos (by omega)]
  rfl
theorem refrun_f (l : List Int) (hok : octetsOk l = true) (hl : l.length ≤ 140737488355328) (c : BitVec 32) : Ev (fun k => waybillref02_run.f k (ofB c) l) (ofB (runO c l)) := refrun_l0 l hok hl l.length 0 c (by omega)
theorem refsum_f (l : List Int) (hok : octetsOk l = true) (hl : l.length ≤ 140737488355328) : Ev (fun k => waybillref02_Sum.f k l) (ofB (~~~ (runO (BitVec.allOnes 32) l))) := by
 unfold waybillref02_Sum.f
 refine Ev.bind (refrun_f l hok hl (BitVec.allOnes 32)) ?_
 rw [not_B']
 exact Ev.now _
end Go.Proofs.Ytkddlhcpplkpbaa.V
end
section
namespace Go.Proofs.Ytkddlhcpplkpbaa.V
open WB Go Go.RowKit Go.Proofs.Ytkddlhcpplkpbaa.G Go.Proofs.YtkddlhcpplkpbaaW.PrintWords Go.Proofs.YtkddlhcpplkpbaaW.PrintLast Go.Proofs.YtkddlhcpplkpbaaW.PrintMore
def sum4 (l : List Int) : List Int := [ofB (~~~ (runO (BitVec.allOnes 32) l)) % 256, ofB (~~~ (runO (BitVec.allOnes 32) l)) / 256 % 256, ofB (~~~ (runO (BitVec.allOnes 32) l)) / 65536 % 256, ofB (~~~ (runO (BitVec.allOnes 32) l)) / 16777216 % 256]
def frm (p : List Int) : List Int := txt p ++ sum4 (txt p)
def checkP (p : List Int) : Int := if (p.length : Int) = 0 then 8 else if (p.length : Int) > 4096 then 5 else 0
def putF : List Int → List (List Int) → List Int × Int
 | b, [] => (b, 0)
 | b, p :: l => if checkP p = 0 then putF (b ++ frm p) l else ([], checkP p)
theorem sum4_len (l : List Int) : (sum4 l).length = 4 := rfl
theorem sum4_ok (l : List Int) : octetsOk (sum4 l) = true := by
 have h0 := ofB_nonneg (~~~ (runO (BitVec.allOnes 32) l))
 have h1 := ofB_lt (~~~ (runO (BitVec.allOnes 32) l))
 simp [sum4, octetsOk]
 omega
theorem txt_ok {p : List Int} (h : octetsOk p = true) : octetsOk (txt p) = true := by
 unfold txt
 rw [octetsOk_append, enc_ok, h]
 rfl
theorem frm_ok {p : List Int} (h : octetsOk p = true) : octetsOk (frm p) = true := by
 unfold frm
 rw [octetsOk_append, txt_ok h, sum4_ok]
 rfl
theorem check_p (p : List Int) : frame_check.f p = some (checkP p) := by
 unfold frame_check.f checkP
 split
 · rfl
 · split <;> rfl
theorem check_ok {p : List Int} (h : checkP p = 0) : 0 < p.length ∧ p.length ≤ 4096 := by
 unfold checkP at h
 split at h
 · cases h
 · split at h
   · cases h
   · omega
theorem frm_len {p : List Int} (h : checkP p = 0) : (frm p).length ≤ 4110 := by
 have := check_ok h
 have := txt_len (s := p) (by omega)
 unfold frm
 rw [List.length_append, sum4_len]
 omega
theorem summed_f (l : List Int) (h : octetsOk l = true) (hl : l.length + 4 < 140737488355328) : frame_summed.f l = some (l ++ sum4 l) := by
 unfold frame_summed.f
 rw [sum_one l h, Option.bind_some, Option.bind_some, if_pos (by simpa using hl)]
 rfl
theorem equal_l0 (a b : List Int) (hab : a.length = b.length) (hm : a.length ≤ 140737488355328) : ∀ (d i : Nat), i + d = a.length → Ev (fun k => slices_Equal_byte_byte.l0 k a b (a.length : Int) (i : Int)) (decide (a.drop i = b.drop i)) := by
 intro d
 induction d with
 | zero =>
  intro i hi
  refine ⟨1, fun k hk => ?_⟩
  obtain ⟨k, rfl⟩ : ∃ m, k = m + 1 := ⟨k - 1, by omega⟩
  show slices_Equal_byte_byte.l0 (k + 1) a b _ _ = _
  rw [slices_Equal_byte_byte.l0, if_neg (by omega), List.drop_of_length_le (by omega), List.drop_of_length_le (by omega)]
  simp
 | succ d ih =>
  intro i hi
  have hlt : i < a.length := by omega
  have hlt2 : i < b.length := by omega
  have ra : rd a (i : Int) = a[i] := by simp [rd, List.getElem?_eq_getElem hlt]
  have rb : rd b (i : Int) = b[i] := by simp [rd, List.getElem?_eq_getElem hlt2]
  have hw : wrap64 ((i : Int) + 1) = ((i + 1 : Nat) : Int) := by unfold wrap64; omega
  rw [show a.drop i = a[i] :: a.drop (i + 1) from List.drop_eq_getElem_cons hlt, show b.drop i = b[i] :: b.drop (i + 1) from List.drop_eq_getElem_cons hlt2]
  by_cases he : a[i] = b[i]
  · have h := ih (i + 1) (by omega)
    have e : decide (a[i] :: a.drop (i + 1) = b[i] :: b.drop (i + 1)) = decide (a.drop (i + 1) = b.drop (i + 1)) := decide_eq_decide.2 ⟨fun q => (List.cons.inj q).2, fun q => by rw [he, q]⟩
    rw [e]
    refine Ev.step (fun k => ?_) h
    show slices_Equal_byte_byte.l0 (k + 1) a b _ _ = _
    rw [slices_Equal_byte_byte.l0, if_pos (by omega), if_pos (by omega), if_pos (by omega), if_pos (by omega), ra, rb, if_pos he, hw]
  · refine ⟨1, fun k hk => ?_⟩
    obtain ⟨k, rfl⟩ : ∃ m, k = m + 1 := ⟨k - 1, by omega⟩
    show slices_Equal_byte_byte.l0 (k + 1) a b _ _ = _
    rw [slices_Equal_byte_byte.l0, if_pos (by omega), if_pos (by omega), if_pos (by omega), if_pos (by omega), ra, rb, if_neg he, decide_eq_false (fun q => he (List.cons.inj q).1)]
theorem equal_f (a b : List Int) (hm : a.length ≤ 140737488355328) : Ev (fun k => slices_Equal_byte_byte.f k a b) (decide (a = b)) := by
 unfold slices_Equal_byte_byte.f
 by_cases h : a.length = b.length
 · have := equal_l0 a b h hm a.length 0 (by omega)
   rw [List.drop_zero, List.drop_zero] at this
   refine Ev.congr (fun k => ?_) this
   rw [if_pos (by omega)]
   rfl
 · refine Ev.congr (fun k => ?_) (Ev.now _)
   rw [if_neg (by omega), decide_eq_false (fun he => h (by rw [he]))]
theorem fput_l0 (xs : List (List Int)) (hok : ∀ s ∈ xs, octetsOk s = true) (hm : xs.length ≤ 140737488355328) : ∀ (d i : Nat) (x6 : List Int), xs.length - i = d → i ≤ xs.length → x6.length + 5000 * d < 140737488350000 → Ev (fun k => frame_Put.l0 k x6 xs (xs.length : Int) (i : Int)) (putF x6 (xs.drop i)) := by
 intro d
 induction d with
 | zero =>
  intro i x6 hd hi _
  refine ⟨1, fun k hk => ?_⟩
  obtain ⟨k, rfl⟩ : ∃ m, k = m + 1 := ⟨k - 1, by omega⟩
  show frame_Put.l0 (k + 1) x6 xs _ _ = _
  rw [frame_Put.l0, if_neg (by omega), List.drop_of_length_le (by omega)]
  rfl
 | succ d ih =>
  intro i x6 hd hi hx
  have hlt : i < xs.length := by omega
  obtain ⟨s, hs⟩ : ∃ s, s = xs[i] := ⟨_, rfl⟩
  have hrd : rd_L1 xs (i : Int) = s := by simp [rd_L1, List.getElem?_eq_getElem hlt, hs]
  have hso : octetsOk s = true := by rw [hs]; exact hok _ (List.getElem_mem hlt)
  have hw : wrap64 ((i : Int) + 1) = ((i + 1 : Nat) : Int) := by unfold wrap64; omega
  rw [List.drop_eq_getElem_cons hlt, ← hs, putF]
  by_cases hc : checkP s = 0
  · have hcl := check_ok hc
    have hfl := frm_len hc
    have htl := txt_len (s := s) (by omega)
    obtain ⟨K1, h1⟩ := texts_f [] [s] (by simp) (by simp [lsum]; omega)
    obtain ⟨K2, h2⟩ := ih (i + 1) (x6 ++ frm s) (by omega) (by omega) (by rw [List.length_append]; omega)
    rw [if_pos hc]
    refine ⟨K1 + K2 + 1, fun k hk => ?_⟩
    obtain ⟨k, rfl⟩ : ∃ m, k = m + 1 := ⟨k - 1, by omega⟩
    have a1 := h1 k (by omega)
    have a2 := h2 k (by omega)
    dsimp only at a1 a2
    rw [show ([] : List Int) ++ txts [s] = txt s by simp [txts]] at a1
    show frame_Put.l0 (k + 1) x6 xs _ _ = _
    rw [frame_Put.l0, if_pos (by omega), if_pos (by omega), if_pos (by omega), hrd, check_p, Option.bind_some, if_pos hc, a1, Option.bind_some, summed_f _ (txt_ok hso) (by omega), Option.bind_some, if_pos (by
     show x6.length + (frm s).length < _
     omega), hw]
    exact a2
  · rw [if_neg hc]
    refine ⟨1, fun k hk => ?_⟩
    obtain ⟨k, rfl⟩ : ∃ m, k = m + 1 := ⟨k - 1, by omega⟩
    show frame_Put.l0 (k + 1) x6 xs _ _ = _
    rw [frame_Put.l0, if_pos (by omega), if_pos (by omega), if_pos (by omega), hrd, check_p, Option.bind_some, if_neg hc]
theorem fput_f (b : List Int) (xs : List (List Int)) (hok : ∀ s ∈ xs, octetsOk s = true) (hl : b.length + 5000 * xs.length < 140737488350000) : Ev (fun k => frame_Put.f k b xs) (putF b xs) := by
 have h := fput_l0 xs hok (by omega) xs.length 0 b (by omega) (by omega) hl
 rw [List.drop_zero] at h
 refine Ev.congr (fun k => ?_) h
 show frame_Put.f k b xs = _
 unfold frame_Put.f
 rw [clone_f b (by omega)]
 rfl
/-- The first frame's payload, the place behind it, the error. -/
def getF (l : List Int) : List Int × Int × Int :=
 if (getAt l 0).2.2 = 8 then ([], 0, 71) else if (getAt l 0).2.2 = 0 then
  (if (getAt l 0).1 = 0 then ([], 0, 8) else if (getAt l 0).1 > 4096 then ([], 0, 5) else
   if (l.length : Int) - (getAt l 0).2.1 - 4 < (getAt l 0).1 then ([], 0, 71) else
   if l.take ((getAt l 0).2.1 + (getAt l 0).1).toNat ++ sum4 (l.take ((getAt l 0).2.1 + (getAt l 0).1).toNat) = l.take ((getAt l 0).2.1 + (getAt l 0).1 + 4).toNat
   then ((l.take ((getAt l 0).2.1 + (getAt l 0).1).toNat).drop (getAt l 0).2.1.toNat, (getAt l 0).2.1 + (getAt l 0).1 + 4, 0) else ([], 0, 21))
 else ([], 0, (getAt l 0).2.2)
theorem getAt_bounds {l : List Int} (hok : octetsOk l = true) : 0 ≤ (getAt l 0).1 ∧ (getAt l 0).1 < 18446744073709551616 ∧ 0 ≤ (getAt l 0).2.1 ∧ (getAt l 0).2.1 ≤ l.length := by
 rcases getAt_cases hok 0 with ⟨e, h, _⟩ | ⟨q, x, rest, h1, h2, h3, h4⟩
 · rw [h]
   dsimp only
   omega
 · rw [h4]
   have := congrArg List.length h1
   rw [List.length_append, List.length_append] at this
   dsimp only
   omega
theorem fget_f (l : List Int) (hok : octetsOk l = true) (hl : l.length < 140737488350000) : Ev (fun k => frame_Get.f k l) (getF l) := by
 unfold frame_Get.f getF
 obtain ⟨b1, b2, b3, b4⟩ := getAt_bounds hok
 rw [get_f l 0 hok]
 obtain ⟨g, hg⟩ : ∃ g, g = getAt l 0 := ⟨_, rfl⟩
 rw [← hg] at b1 b2 b3 b4 ⊢
 clear hg
 obtain ⟨n, a, e⟩ := g
 simp only [Option.bind_some] at b1 b2 b3 b4 ⊢
 by_cases e8 : e = 8
 · simp only [if_pos e8]
   exact Ev.now _
 simp only [if_neg e8]
 by_cases e0 : ¬ e = 0
 · simp only [if_neg e0]
   exact Ev.now _
 replace e0 : e = 0 := Decidable.not_not.1 e0
 simp only [if_pos e0]
 by_cases n0 : n = 0
 · simp only [if_pos n0]
   exact Ev.now _
 simp only [if_neg n0]
 by_cases n4 : n > 4096
 · simp only [if_pos n4]
   exact Ev.now _
 simp only [if_neg n4]
 have w1 : wrap64 n = n := by unfold wrap64; omega
 have w0 : wrap64 ((l.length : Int) - a) = l.length - a := by unfold wrap64; omega
 have w2 : wrap64 ((l.length : Int) - a - 4) = l.length - a - 4 := by unfold wrap64; omega
 have w3 : wrap64 (a + n) = a + n := by unfold wrap64; omega
 have w4 : wrap64 (a + n + 4) = a + n + 4 := by unfold wrap64; omega
 simp only [w1, w0, w2, w3, w4]
 by_cases h5 : (l.length : Int) - a - 4 < n
 · simp only [if_pos h5]
   exact Ev.now _
 simp only [if_neg h5, if_pos (show 0 ≤ a + n by omega), if_pos (show a + n ≤ (l.length : Int) by omega), if_pos (show 0 ≤ a + n + 4 by omega), if_pos (show a + n + 4 ≤ (l.length : Int) by omega), if_pos b3, if_pos (show a ≤ a + n by omega)]
 have hlt : (l.take (a + n).toNat).length ≤ l.length := by rw [List.length_take]; exact Nat.min_le_right _ _
 simp only [clone_f (l.take (a + n).toNat) (by omega), Option.bind_some, summed_f (l.take (a + n).toNat) (octetsOk_take hok _) (by omega)]
 refine Ev.bind (equal_f _ _ (by rw [List.length_append, sum4_len]; omega)) ?_
 by_cases h6 : l.take (a + n).toNat ++ sum4 (l.take (a + n).toNat) = l.take (a + n + 4).toNat
 · simp only [decide_eq_true h6, if_true, if_pos h6]
   simp only [clone_f (List.drop a.toNat (l.take (a + n).toNat)) (by rw [List.length_drop]; omega), Option.bind_some]
   exact Ev.now _
 · simp only [decide_eq_false h6, if_neg h6]
   exact Ev.now _
end Go.Proofs.Ytkddlhcpplkpbaa.V
end
section
set_option maxRecDepth 100000
namespace Go.Proofs.Ytkddlhcpplkpbaa.V
open WB Go Go.RowKit Go.Proofs.Ytkddlhcpplkpbaa.G Go.Proofs.YtkddlhcpplkpbaaW.PrintWords Go.Proofs.YtkddlhcpplkpbaaW.PrintLast Go.Proofs.YtkddlhcpplkpbaaW.PrintMore
/-- A message's numbers. -/
def nums (x : S25) : List Int := [x.f0, x.f1, x.f2, x.f3, x.f4, x.f5, x.f6, x.f7, x.f8, x.f9, x.f10]
/-- What its kind uses, alone. -/
def numsO (x : S25) : List Int := [x.f0, onlyF x.f0 1 x.f1, x.f2, onlyF x.f0 3 x.f3, onlyF x.f0 4 x.f4, onlyF x.f0 5 x.f5, onlyF x.f0 6 x.f6, onlyF x.f0 7 x.f7, onlyF x.f0 8 x.f8, onlyF x.f0 9 x.f9, onlyF x.f0 10 x.f10]
/-- May a message be? -/
def chkM (x : S25) : Int := if ixOf x.f0 = [] then 23 else if ([x.f1, x.f2, x.f3, x.f4, x.f5, x.f6, x.f7, x.f8, x.f9, x.f10] : List Int).any outI = true then 4 else if x.f11.length > 1024 then 5 else if x.f11 = onlyL x.f0 x.f11 ∧ nums x = numsO x then 0 else 9
/-- Its octets. -/
def encM (x : S25) : List Int := encAll (x.f0 :: x.f2 :: (ixOf x.f0).map fun j => (nums x).getD j 0) ++ (if dat x.f0 = true then txt x.f11 else [])
theorem equali_l0 (a b : List Int) (hab : a.length = b.length) (hm : a.length ≤ 140737488355328) : ∀ (d i : Nat), i + d = a.length → Ev (fun k => slices_Equal_int_int.l0 k a b (a.length : Int) (i : Int)) (decide (a.drop i = b.drop i)) := by
 intro d
 induction d with
 | zero =>
  intro i hi
  refine ⟨1, fun k hk => ?_⟩
  obtain ⟨k, rfl⟩ : ∃ m, k = m + 1 := ⟨k - 1, by omega⟩
  show slices_Equal_int_int.l0 (k + 1) a b _ _ = _
  rw [slices_Equal_int_int.l0, if_neg (by omega), List.drop_of_length_le (by omega), List.drop_of_length_le (by omega)]
  simp
 | succ d ih =>
  intro i hi
  have hlt : i < a.length := by omega
  have hlt2 : i < b.length := by omega
  have ra : rd a (i : Int) = a[i] := by simp [rd, List.getElem?_eq_getElem hlt]
  have rb : rd b (i : Int) = b[i] := by simp [rd, List.getElem?_eq_getElem hlt2]
  have hw : wrap64 ((i : Int) + 1) = ((i + 1 : Nat) : Int) := by unfold wrap64; omega
  rw [show a.drop i = a[i] :: a.drop (i + 1) from List.drop_eq_getElem_cons hlt, show b.drop i = b[i] :: b.drop (i + 1) from List.drop_eq_getElem_cons hlt2]
  by_cases he : a[i] = b[i]
  · have h := ih (i + 1) (by omega)
    have e : decide (a[i] :: a.drop (i + 1) = b[i] :: b.drop (i + 1)) = decide (a.drop (i + 1) = b.drop (i + 1)) := decide_eq_decide.2 ⟨fun q => (List.cons.inj q).2, fun q => by rw [he, q]⟩
    rw [e]
    refine Ev.step (fun k => ?_) h
    show slices_Equal_int_int.l0 (k + 1) a b _ _ = _
    rw [slices_Equal_int_int.l0, if_pos (by omega), if_pos (by omega), if_pos (by omega), if_pos (by omega), ra, rb, if_pos he, hw]
  · refine ⟨1, fun k hk => ?_⟩
    obtain ⟨k, rfl⟩ : ∃ m, k = m + 1 := ⟨k - 1, by omega⟩
    show slices_Equal_int_int.l0 (k + 1) a b _ _ = _
    rw [slices_Equal_int_int.l0, if_pos (by omega), if_pos (by omega), if_pos (by omega), if_pos (by omega), ra, rb, if_neg he, decide_eq_false (fun q => he (List.cons.inj q).1)]
theorem equali_f (a b : List Int) (hm : a.length ≤ 140737488355328) : Ev (fun k => slices_Equal_int_int.f k a b) (decide (a = b)) := by
 unfold slices_Equal_int_int.f
 by_cases h : a.length = b.length
 · have := equali_l0 a b h hm a.length 0 (by omega)
   rw [List.drop_zero, List.drop_zero] at this
   refine Ev.congr (fun k => ?_) this
   rw [if_pos (by omega)]
   rfl
 · refine Ev.congr (fun k => ?_) (Ev.now _)
   rw [if_neg (by omega), decide_eq_false (fun he => h (by rw [he]))]
theorem dat_iff (k : Int) : dat k = true ↔ (k = 3 ∨ k = 4) := by unfold dat; simp
theorem onlyL_dat (k : Int) (l : List Int) : onlyL k l = if dat k = true then l else [] := by
 unfold onlyL
 by_cases h : k = 3 ∨ k = 4
 · rw [if_pos h, if_pos ((dat_iff k).2 h)]
 · rw [if_neg h, if_neg (fun hd => h ((dat_iff k).1 hd))]
/-- Are two messages one? -/
def sameX (x y : S25) : Bool := decide (x.f11 = y.f11) && decide (nums x = nums y)
theorem nums_eq (x y : S25) : decide (nums x = nums y) = ((x.f0 == y.f0) && (x.f1 == y.f1) && (x.f2 == y.f2) && (x.f3 == y.f3) && (x.f4 == y.f4) && (x.f5 == y.f5) && (x.f6 == y.f6) && (x.f7 == y.f7) && (x.f8 == y.f8) && (x.f9 == y.f9) && (x.f10 == y.f10)) := by
 rw [Bool.eq_iff_iff]
 simp [nums, Bool.and_eq_true, and_assoc]
theorem refsame_f (x y : S25) (hx : octetsOk x.f11 = true) (hy : octetsOk y.f11 = true) : waybillref09_Same.f x.f0 x.f1 x.f2 x.f3 x.f4 x.f5 x.f6 x.f7 x.f8 x.f9 x.f10 x.f11 y.f0 y.f1 y.f2 y.f3 y.f4 y.f5 y.f6 y.f7 y.f8 y.f9 y.f10 y.f11 = some (sameX x y) := by
 unfold waybillref09_Same.f sameX
 rw [Option.bind_some, strs_eq _ _ hx hy, nums_eq]
 simp only [Bool.and_assoc]
theorem plainsame_self (x : S25) : waybillplain_SameMsg.f x.f0 x.f1 x.f2 x.f3 x.f4 x.f5 x.f6 x.f7 x.f8 x.f9 x.f10 x.f11 x.f0 x.f1 x.f2 x.f3 x.f4 x.f5 x.f6 x.f7 x.f8 x.f9 x.f10 x.f11 = some true := by
 unfold waybillplain_SameMsg.f waybillplain_SameBytes.f
 simp
theorem msame_f (x y : S25) (h0 : x.f0 = y.f0) (hm : x.f11.length ≤ 140737488355328) : Ev (fun k => message_same.f k x.f0 x.f1 x.f2 x.f3 x.f4 x.f5 x.f6 x.f7 x.f8 x.f9 x.f10 x.f11 y.f0 y.f1 y.f2 y.f3 y.f4 y.f5 y.f6 y.f7 y.f8 y.f9 y.f10 y.f11) (sameX x y) := by
 unfold message_same.f sameX
 have h1 := equal_f x.f11 y.f11 hm
 have h2 := equali_f [x.f1, x.f2, x.f3, x.f4, x.f5, x.f6, x.f7, x.f8, x.f9, x.f10] [y.f1, y.f2, y.f3, y.f4, y.f5, y.f6, y.f7, y.f8, y.f9, y.f10] (by simp)
 refine Ev.bind h1 ?_
 by_cases h : x.f11 = y.f11
 · rw [decide_eq_true h]
   refine Ev.congr (fun k => if_pos rfl) ?_
   have e : decide (nums x = nums y) = decide (([x.f1, x.f2, x.f3, x.f4, x.f5, x.f6, x.f7, x.f8, x.f9, x.f10] : List Int) = [y.f1, y.f2, y.f3, y.f4, y.f5, y.f6, y.f7, y.f8, y.f9, y.f10]) := decide_eq_decide.2 (by unfold nums; rw [h0]; simp)
   rw [Bool.true_and, e]
   unfold message_numbers.f
   exact Ev.congr (fun k => by rw [Option.bind_some, Option.bind_some]) (Ev.bind (f := fun _ t => some t) h2 (Ev.now _))
 · rw [decide_eq_false h]
   exact Ev.congr (fun k => if_neg (by decide)) (Ev.now _)
/-- What only leaves, as a message. -/
def onlyX (x : S25) : S25 := ⟨x.f0, onlyF x.f0 1 x.f1, x.f2, onlyF x.f0 3 x.f3, onlyF x.f0 4 x.f4, onlyF x.f0 5 x.f5, onlyF x.f0 6 x.f6, onlyF x.f0 7 x.f7, onlyF x.f0 8 x.f8, onlyF x.f0 9 x.f9, onlyF x.f0 10 x.f10, onlyL x.f0 x.f11⟩
theorem sameO (x : S25) : sameX x (onlyX x) = decide (x.f11 = onlyL x.f0 x.f11 ∧ nums x = numsO x) := by
 unfold sameX
 rw [Bool.decide_and]
 rfl
theorem onlyL_ok {k : Int} {l : List Int} (h : octetsOk l = true) : octetsOk (onlyL k l) = true := by
 unfold onlyL
 split
 · exact h
 · rfl
theorem chk_f (x : S25) (hm : x.f11.length ≤ 140737488355328) : Ev (fun k => message_Check.f k x.f0 x.f1 x.f2 x.f3 x.f4 x.f5 x.f6 x.f7 x.f8 x.f9 x.f10 x.f11) (chkM x) := by
 unfold message_Check.f chkM
 by_cases h1 : ixOf x.f0 = []
 · rw [if_pos h1]
   exact Ev.congr (fun k => if_pos h1) (Ev.now _)
 rw [if_neg h1]
 refine Ev.congr (fun k => if_neg h1) ?_
 by_cases h2 : ([x.f1, x.f2, x.f3, x.f4, x.f5, x.f6, x.f7, x.f8, x.f9, x.f10] : List Int).any outI = true
 · rw [if_pos h2]
   exact Ev.congr (fun k => if_pos h2) (Ev.now _)
 rw [if_neg h2]
 refine Ev.congr (fun k => if_neg h2) ?_
 by_cases h3 : x.f11.length > 1024
 · rw [if_pos h3]
   exact Ev.congr (fun k => if_pos h3) (Ev.now _)
 rw [if_neg h3]
 refine Ev.congr (fun k => if_neg h3) ?_
 have hs := msame_f x (onlyX x) rfl hm
 rw [sameO] at hs
 refine Ev.bind hs (Ev.congr (fun k => ?_) (Ev.now _))
 by_cases h4 : x.f11 = onlyL x.f0 x.f11 ∧ nums x = numsO x
 · rw [decide_eq_true h4, if_pos h4]; rfl
 · rw [decide_eq_false h4, if_neg h4]; rfl
theorem refchk_f (x : S25) (hok : octetsOk x.f11 = true) (hm : x.f11.length < 140737488355328) : waybillref09_Check.f x.f0 x.f1 x.f2 x.f3 x.f4 x.f5 x.f6 x.f7 x.f8 x.f9 x.f10 x.f11 = some (chkM x) := by
 unfold waybillref09_Check.f chkM
 split
 · rfl
 split
 · rfl
 split
 · rfl
 have hs := refsame_f x (onlyX x) hok (onlyL_ok hok)
 rw [sameO] at hs
 have hD : (if dat x.f0 = true then waybillref01_Copied.f x.f11 else some []) = some (onlyL x.f0 x.f11) := by
   rw [onlyL_dat]
   split
   · exact copied_f _ hm
   · rfl
 rw [hD, Option.bind_some, show waybillref09_Same.f x.f0 x.f1 x.f2 x.f3 x.f4 x.f5 x.f6 x.f7 x.f8 x.f9 x.f10 x.f11 x.f0 (onlyF x.f0 1 x.f1) x.f2 (onlyF x.f0 3 x.f3) (onlyF x.f0 4 x.f4) (onlyF x.f0 5 x.f5) (onlyF x.f0 6 x.f6) (onlyF x.f0 7 x.f7) (onlyF x.f0 8 x.f8) (onlyF x.f0 9 x.f9) (onlyF x.f0 10 x.f10) (onlyL x.f0 x.f11) = _ from hs, Option.bind_some]
 by_cases h4 : x.f11 = onlyL x.f0 x.f11 ∧ nums x = numsO x
 · rw [decide_eq_true h4, if_pos h4]; rfl
 · rw [decide_eq_false h4, if_neg h4]; rfl
structure MayBe (x : S25) : Prop where
 kind : 1 ≤ x.f0 ∧ x.f0 ≤ 8
 rng : ∀ n ∈ nums x, 0 ≤ n ∧ n ≤ 2147483647
 len : x.f11.length ≤ 1024
 only : nums x = numsO x
 data : x.f11 = onlyL x.f0 x.f11
theorem chk_ok {x : S25} (h : chkM x = 0) : MayBe x := by
 unfold chkM at h
 by_cases h1 : ixOf x.f0 = []
 · rw [if_pos h1] at h; cases h
 rw [if_neg h1] at h
 by_cases h2 : ([x.f1, x.f2, x.f3, x.f4, x.f5, x.f6, x.f7, x.f8, x.f9, x.f10] : List Int).any outI = true
 · rw [if_pos h2] at h; cases h
 rw [if_neg h2] at h
 by_cases h3 : x.f11.length > 1024
 · rw [if_pos h3] at h; cases h
 rw [if_neg h3] at h
 by_cases h4 : x.f11 = onlyL x.f0 x.f11 ∧ nums x = numsO x
 case neg => rw [if_neg h4] at h; cases h
 have hk : 1 ≤ x.f0 ∧ x.f0 ≤ 8 := by
   apply Classical.byContradiction
   intro hn
   exact h1 (ixOf_none hn)
 refine ⟨hk, fun n hn => ?_, by omega, h4.2, h4.1⟩
 have hn' : n = x.f0 ∨ n ∈ ([x.f1, x.f2, x.f3, x.f4, x.f5, x.f6, x.f7, x.f8, x.f9, x.f10] : List Int) := by
   unfold nums at hn
   exact List.mem_cons.1 hn
 rcases hn' with rfl | hn'
 · omega
 · have := fun ho => h2 (List.any_eq_true.2 ⟨n, hn', ho⟩)
   unfold outI at this
   simp at this
   omega
theorem enc_l0 (k0 : Nat) (xs : List Int) (hx : ∀ y ∈ xs, 0 ≤ y ∧ y ≤ 2147483647) : ∀ (b : List Int), b.length + 20 * xs.length < 140737488355328 → Ev (fun k => message_Encode.l0 k b xs) (b ++ encAll xs) := by
 induction xs with
 | nil => intro b _; rw [encAll_nil, List.append_nil]; exact Ev.congr (fun k => rfl) (Ev.now _)
 | cons y ys ih =>
  intro b hb
  have hy := hx y (by simp)
  simp only [List.length_cons] at hb
  have hw : IntKind.u64.wrap y = y := by rw [IntKind.wrap_u64]; omega
  have h1 := put_f b [y] (fun z hz => by rw [show z = y by simpa using hz]; omega) (by simp; omega)
  rw [encAll_one] at h1
  have hl := enc_len_10 (n := y.toNat) (by omega)
  have h2 := ih (fun z hz => hx z (by simp [hz])) (b ++ enc y.toNat) (by rw [List.length_append]; omega)
  rw [encAll_cons, ← List.append_assoc]
  refine Ev.congr (fun k => ?_) (Ev.bind (f := fun k b' => message_Encode.l0 k b' ys) h1 h2)
  rw [message_Encode.l0, hw]
theorem refenc_l0 (xs : List Int) (hx : ∀ y ∈ xs, 0 ≤ y ∧ y ≤ 2147483647) : ∀ (b : List Int), b.length + 20 * xs.length < 140737488355328 → Ev (fun k => waybillref09_Encode.l0 k b xs) (b ++ encAll xs) := by
 induction xs with
 | nil => intro b _; rw [encAll_nil, List.append_nil]; exact Ev.congr (fun k => rfl) (Ev.now _)
 | cons y ys ih =>
  intro b hb
  have hy := hx y (by simp)
  simp only [List.length_cons] at hb
  have hw : IntKind.u64.wrap y = y := by rw [IntKind.wrap_u64]; omega
  have h1 := refput_f b y (by omega) (by omega) (by omega)
  have hl := enc_len_10 (n := y.toNat) (by omega)
  have h2 := ih (fun z hz => hx z (by simp [hz])) (b ++ enc y.toNat) (by rw [List.length_append]; omega)
  rw [encAll_cons, ← List.append_assoc]
  refine Ev.congr (fun k => ?_) (Ev.bind (f := fun k b' => waybillref09_Encode.l0 k b' ys) h1 h2)
  rw [waybillref09_Encode.l0, hw]
theorem getD_mem (l : List Int) (j : Nat) (h : j < l.length) : l.getD j 0 ∈ l := by
 rw [List.getD_eq_getElem?_getD, List.getElem?_eq_getElem h]
 exact List.getElem_mem h
theorem fld_rng {x : S25} (h : MayBe x) : ∀ y ∈ (ixOf x.f0).map (fun j => (nums x).getD j 0), 0 ≤ y ∧ y ≤ 2147483647 := by
 intro y hy
 obtain ⟨j, hj, rfl⟩ := List.mem_map.1 hy
 exact h.rng _ (getD_mem _ _ (by have := ixOf_lt j hj; show j < 11; omega))
theorem encAll_len (xs : List Int) (hx : ∀ y ∈ xs, 0 ≤ y ∧ y ≤ 2147483647) : (encAll xs).length ≤ 10 * xs.length := by
 induction xs with
 | nil => simp [encAll]
 | cons y ys ih =>
  rw [encAll_cons, List.length_append, List.length_cons]
  have hy := hx y (by simp)
  have := enc_len_10 (n := y.toNat) (by omega)
  have := ih (fun z hz => hx z (by simp [hz]))
  omega
theorem encode_f (x : S25) (hm : x.f11.length ≤ 140737488355328) : Ev (fun k => message_Encode.f k x.f0 x.f1 x.f2 x.f3 x.f4 x.f5 x.f6 x.f7 x.f8 x.f9 x.f10 x.f11) (if chkM x = 0 then (encM x, 0) else ([], chkM x)) := by
 unfold message_Encode.f
 refine Ev.bind (chk_f x hm) ?_
 by_cases h : chkM x = 0
 case neg => rw [if_neg h]; exact Ev.congr (fun k => if_neg h) (Ev.now _)
 rw [if_pos h]
 refine Ev.congr (fun k => if_pos h) ?_
 have hM := chk_ok h
 have r0 := hM.rng x.f0 (by simp [nums])
 have r2 := hM.rng x.f2 (by simp [nums])
 have w0 : IntKind.u64.wrap x.f0 = x.f0 := by rw [IntKind.wrap_u64]; omega
 have w2 : IntKind.u64.wrap x.f2 = x.f2 := by rw [IntKind.wrap_u64]; omega
 rw [w0, w2]
 have h1 := put_f [] [x.f0, x.f2] (fun z hz => by rcases List.mem_cons.1 hz with h | h; (rw [h]; omega); (rw [show z = x.f2 by simpa using h]; omega)) (by simp)
 rw [List.nil_append] at h1
 refine Ev.bind h1 ?_
 have hlen := ixOf_len x.f0
 have hl1 := encAll_len [x.f0, x.f2] (fun z hz => by rcases List.mem_cons.1 hz with h | h; (rw [h]; omega); (rw [show z = x.f2 by simpa using h]; omega))
 have hl2 := encAll_len _ (fld_rng hM)
 simp only [List.length_cons, List.length_nil, List.length_map] at hl1 hl2
 have h2 := enc_l0 0 _ (fld_rng hM) (encAll [x.f0, x.f2]) (by simp only [List.length_map]; omega)
 refine Ev.bind h2 ?_
 have he : encAll [x.f0, x.f2] ++ encAll ((ixOf x.f0).map fun j => (nums x).getD j 0) = encAll (x.f0 :: x.f2 :: (ixOf x.f0).map fun j => (nums x).getD j 0) := by simp [encAll]
 rw [he]
 unfold encM
 by_cases hd : x.f0 = 3 ∨ x.f0 = 4
 · rw [if_pos ((dat_iff _).2 hd)]
   refine Ev.congr (fun k => if_pos hd) ?_
   have h3 := texts_f (encAll (x.f0 :: x.f2 :: (ixOf x.f0).map fun j => (nums x).getD j 0)) [x.f11] (by simp) (by rw [← he, List.length_append]; have := hM.len; simp only [lsum]; omega)
   rw [show txts [x.f11] = txt x.f11 by simp [txts]] at h3
   exact Ev.bind h3 (Ev.now _)
 · rw [if_neg (fun h => hd ((dat_iff _).1 h)), List.append_nil]
   exact Ev.congr (fun k => if_neg hd) (Ev.now _)
theorem refencode_f (x : S25) (hok : octetsOk x.f11 = true) (hm : x.f11.length < 140737488355328) : Ev (fun k => waybillref09_Encode.f k x.f0 x.f1 x.f2 x.f3 x.f4 x.f5 x.f6 x.f7 x.f8 x.f9 x.f10 x.f11) (if chkM x = 0 then (encM x, 0) else ([], chkM x)) := by
 unfold waybillref09_Encode.f
 refine Ev.congr (fun k => by rw [refchk_f x hok hm, Option.bind_some]) ?_
 by_cases h : chkM x = 0
 case neg => rw [if_neg h]; exact Ev.congr (fun k => if_neg h) (Ev.now _)
 rw [if_pos h]
 refine Ev.congr (fun k => if_pos h) ?_
 have hM := chk_ok h
 have r0 := hM.rng x.f0 (by simp [nums])
 have r2 := hM.rng x.f2 (by simp [nums])
 have w0 : IntKind.u64.wrap x.f0 = x.f0 := by rw [IntKind.wrap_u64]; omega
 have w2 : IntKind.u64.wrap x.f2 = x.f2 := by rw [IntKind.wrap_u64]; omega
 rw [w0, w2]
 have h0 := refput_f [] x.f0 (by omega) (by omega) (by simp)
 have l0 := enc_len_10 (n := x.f0.toNat) (by omega)
 have l2 := enc_len_10 (n := x.f2.toNat) (by omega)
 rw [List.nil_append] at h0
 refine Ev.bind h0 ?_
 have h1 := refput_f (enc x.f0.toNat) x.f2 (by omega) (by omega) (by omega)
 refine Ev.bind h1 ?_
 have hlen := ixOf_len x.f0
 have hl2 := encAll_len _ (fld_rng hM)
 simp only [List.length_map] at hl2
 have h2 := refenc_l0 _ (fld_rng hM) (enc x.f0.toNat ++ enc x.f2.toNat) (by simp only [List.length_map, List.length_append]; omega)
 refine Ev.bind h2 ?_
 have he : (enc x.f0.toNat ++ enc x.f2.toNat) ++ encAll ((ixOf x.f0).map fun j => (nums x).getD j 0) = encAll (x.f0 :: x.f2 :: (ixOf x.f0).map fun j => (nums x).getD j 0) := by simp [encAll]
 rw [he]
 unfold encM
 by_cases hd : dat x.f0 = true
 · rw [if_pos hd]
   refine Ev.congr (fun k => if_pos hd) ?_
   have h3 := reftexts_f (encAll (x.f0 :: x.f2 :: (ixOf x.f0).map fun j => (nums x).getD j 0)) x.f11 (by rw [← he]; simp only [List.length_append]; have := hM.len; omega)
   exact Ev.bind h3 (Ev.now _)
 · rw [if_neg hd, List.append_nil]
   exact Ev.congr (fun k => if_neg hd) (Ev.now _)
theorem encM_len {x : S25} (h : MayBe x) : (encM x).length ≤ 2000 ∧ 0 < (encM x).length := by
 have r0 := h.rng x.f0 (by simp [nums])
 have r2 := h.rng x.f2 (by simp [nums])
 have l0 := enc_len_10 (n := x.f0.toNat) (by omega)
 have l2 := enc_len_10 (n := x.f2.toNat) (by omega)
 have p0 := enc_pos x.f0.toNat
 have hlen := ixOf_len x.f0
 have hl2 := encAll_len _ (fld_rng h)
 simp only [List.length_map] at hl2
 have hl := h.len
 have ht := txt_len (s := x.f11) (by omega)
 unfold encM
 rw [encAll_cons, encAll_cons]
 simp only [List.length_append]
 split
 · omega
 · simp only [List.length_nil]; omega
end Go.Proofs.Ytkddlhcpplkpbaa.V
end
section
set_option maxRecDepth 100000
namespace Go.Proofs.Ytkddlhcpplkpbaa.V
open WB Go Go.RowKit Go.Proofs.Ytkddlhcpplkpbaa.G Go.Proofs.YtkddlhcpplkpbaaW.PrintWords Go.Proofs.YtkddlhcpplkpbaaW.PrintLast Go.Proofs.YtkddlhcpplkpbaaW.PrintMore
/-- The octets' kind, and what stands behind it. -/
def kdP (l : List Int) : Int := kindOf (getAt l 0).1
def rdP (l : List Int) : Int × Int × List Int := rdN l (2 :: ixOf (kdP l)) (getAt l 0).2.1 [kdP l, 0, 0, 0, 0, 0, 0, 0, 0, 0, 0]
/-- What octets tell: the fault, the numbers, the octets. -/
def decP (l : List Int) : Int × List Int × List Int :=
 if (getAt l 0).2.2 = 0 then (if ixOf (kdP l) = [] then (23, [], []) else
  (if (rdP l).1 = 0 then
   (if dat (kdP l) = true then (if (textAt l (rdP l).2.1 1024).2.2 = 0 then (if (textAt l (rdP l).2.1 1024).2.1 = (l.length : Int) then (0, (rdP l).2.2, (textAt l (rdP l).2.1 1024).1) else (22, [], [])) else ((textAt l (rdP l).2.1 1024).2.2, [], []))
   else (if (rdP l).2.1 = (l.length : Int) then (0, (rdP l).2.2, []) else (22, [], [])))
  else ((rdP l).1, [], [])))
 else ((getAt l 0).2.2, [], [])
theorem decM_f (l : List Int) (hok : octetsOk l = true) (hl : l.length < 140737488355328) (k : Nat) (hk : 1 ≤ k) : decM k l = some (decP l) := by
 unfold decM decP rdP kdP
 split
 · split
   · rfl
   · split
     · by_cases hd : kindOf (getAt l 0).1 = 3 ∨ kindOf (getAt l 0).1 = 4
       · rw [if_pos hd, if_pos ((dat_iff _).2 hd), (text_f l hok hl _ 1024 (by omega) (by omega) k hk).1, Option.bind_some]
         split
         · split <;> rfl
         · rfl
       · rw [if_neg hd, if_neg (fun h => hd ((dat_iff _).1 h))]
         split <;> rfl
     · rfl
 · rfl
/-- Numbers laid into places. -/
def setAll (o : List Int) : List Nat → List Int → List Int
 | j :: js, v :: vs => setAll (o.set j v) js vs
 | _, _ => o
theorem setAll_take (n : List Int) : ∀ (js : List Nat) (o : List Int), setAll o js (js.map fun j => n.getD j 0) = takeN n o js
 | [], _ => rfl
 | j :: js, o => by rw [List.map_cons, setAll, takeN, setAll_take n js]
/-- Numbers that stand in octets are read. -/
theorem rdN_enc : ∀ (js : List Nat) (vs : List Int) (x rest o : List Int), vs.length = js.length → (∀ v ∈ vs, 0 ≤ v ∧ v ≤ 2147483647) →
  rdN (x ++ (encAll vs ++ rest)) js (x.length : Int) o = (0, ((x ++ encAll vs).length : Int), setAll o js vs)
 | [], [], x, rest, o, _, _ => by simp [rdN, setAll, encAll]
 | [], _ :: _, _, _, _, h, _ => by simp at h
 | _ :: _, [], _, _, _, h, _ => by simp at h
 | j :: js, v :: vs, x, rest, o, h, hv => by
  have hv0 := hv v List.mem_cons_self
  have hg := getAt_enc x v.toNat (encAll vs ++ rest) (by omega)
  rw [rdN, encAll_cons, List.append_assoc, hg]
  dsimp only
  have hvn : ((v.toNat : Nat) : Int) = v := Int.toNat_of_nonneg hv0.1
  rw [if_pos rfl, hvn, if_pos hv0.2, show wrap64 v = v by unfold wrap64; omega]
  have ih := rdN_enc js vs (x ++ enc v.toNat) rest (o.set j v) (by simpa using h) (fun y hy => hv y (List.mem_cons_of_mem _ hy))
  rw [List.append_assoc, List.length_append, Int.natCast_add] at ih
  rw [ih, setAll, List.append_assoc]
/-- Whatever is read: a fault, or numbers that stand there. -/
theorem rdN_cases {l : List Int} (hok : octetsOk l = true) : ∀ (js : List Nat) (x r o : List Int), l = x ++ r →
  (∃ e, rdN l js (x.length : Int) o = (e, 0, []) ∧ e ≠ 0) ∨ ∃ (vs rest : List Int), r = encAll vs ++ rest ∧ vs.length = js.length ∧ (∀ v ∈ vs, 0 ≤ v ∧ v ≤ 2147483647) ∧ rdN l js (x.length : Int) o = (0, ((x ++ encAll vs).length : Int), setAll o js vs)
 | [], x, r, o, _ => .inr ⟨[], r, by simp [encAll], rfl, by simp, by simp [rdN, setAll, encAll]⟩
 | j :: js, x, r, o, hl => by
  rcases getAt_cases hok (x.length : Int) with ⟨e, he, hz⟩ | ⟨q, y, rest, e1, e2, e3, e4⟩
  · refine .inl ⟨e, ?_, by omega⟩
    rw [rdN, he]
    dsimp only
    rw [if_neg (by omega)]
  · have hxy : y = x ∧ r = enc q ++ rest := by
      have hlen : x.length = y.length := by omega
      have := List.append_inj (hl.symm.trans e1) hlen
      exact ⟨this.1.symm, this.2⟩
    obtain ⟨rfl, rfl⟩ := hxy
    rw [rdN, e4]
    dsimp only
    rw [if_pos rfl]
    by_cases hq : (q : Int) ≤ 2147483647
    case neg => exact .inl ⟨4, by rw [if_neg hq], by decide⟩
    rw [if_pos hq, show wrap64 (q : Int) = q by unfold wrap64; omega]
    have hp : (y.length : Int) + ((enc q).length : Int) = ((y ++ enc q).length : Int) := by rw [List.length_append, Int.natCast_add]
    rw [hp]
    rcases rdN_cases hok js (y ++ enc q) rest (o.set j q) (by rw [List.append_assoc]; exact hl) with ⟨e, h1, h2⟩ | ⟨vs, rest', h1, h2, h3, h4⟩
    · exact .inl ⟨e, h1, h2⟩
    · refine .inr ⟨(q : Int) :: vs, rest', ?_, by simp [h2], ?_, ?_⟩
      · rw [encAll_cons, Int.toNat_natCast, List.append_assoc, h1]
      · intro v hv
        rcases List.mem_cons.1 hv with rfl | hv
        · omega
        · exact h3 v hv
      · rw [h4, setAll, encAll_cons, Int.toNat_natCast, List.append_assoc]
theorem text_pos {l : List Int} (hok : octetsOk l = true) {p : Int} (hp : p ≤ l.length) (h : (textAt l p 1024).2.2 = 0) : (textAt l p 1024).2.1 ≤ l.length := by
 unfold textAt at h ⊢
 rcases getAt_cases hok p with ⟨e, he, hz⟩ | ⟨q, x, rest, e1, e2, e3, e4⟩
 · rw [he] at h ⊢
   dsimp only at h ⊢
   rw [if_neg (by omega)]
   exact Int.natCast_nonneg _
 · rw [e4] at h ⊢
   dsimp only at h ⊢
   rw [if_pos rfl] at h ⊢
   split
   · exact Int.natCast_nonneg _
   · split
     · exact Int.natCast_nonneg _
     · dsimp only; omega
theorem dec2_f (l : List Int) (hok : octetsOk l = true) (hl : l.length < 140737488355328) (k : Nat) (hk : 1 ≤ k) : dec2 k l = some (decP l) := by
 unfold dec2 decP
 show (if (getAt l 0).2.2 = 0 then (if ixOf (kdP l) = [] then some (23, [], []) else (if (rdP l).1 = 0 then (if dat (kdP l) = true then (waybillref01_Text.f k l (rdP l).2.1 1024).bind fun t => if t.2.2 = 0 then (if t.2.1 < (l.length : Int) then some (22, [], []) else some (0, (rdP l).2.2, t.1)) else some (t.2.2, [], []) else (if (rdP l).2.1 < (l.length : Int) then some (22, [], []) else some (0, (rdP l).2.2, []))) else some ((rdP l).1, [], []))) else some ((getAt l 0).2.2, [], [])) = _
 by_cases h0 : (getAt l 0).2.2 = 0
 case neg => rw [if_neg h0, if_neg h0]
 rw [if_pos h0, if_pos h0]
 by_cases h1 : ixOf (kdP l) = []
 · rw [if_pos h1, if_pos h1]
 rw [if_neg h1, if_neg h1]
 by_cases h2 : (rdP l).1 = 0
 case neg => rw [if_neg h2, if_neg h2]
 rw [if_pos h2, if_pos h2]
 have hp : (rdP l).2.1 ≤ l.length := by
   rcases getAt_cases hok 0 with ⟨e, he, hz⟩ | ⟨q, x, rest, e1, e2, e3, e4⟩
   · rw [he] at h0; dsimp only at h0; omega
   · have hx : x = [] := List.eq_nil_of_length_eq_zero (by omega)
     subst hx
     rw [List.nil_append] at e1
     unfold rdP
     rw [e4]
     dsimp only
     rw [Int.zero_add]
     rcases rdN_cases hok (2 :: ixOf (kdP l)) (enc q) rest [kdP l, 0, 0, 0, 0, 0, 0, 0, 0, 0, 0] e1 with ⟨e, h3, h4⟩ | ⟨vs, rest', h3, h4, h5, h6⟩
     · rw [h3]; exact Int.natCast_nonneg _
     · rw [h6]
       dsimp only
       rw [e1, h3]
       simp only [List.length_append]
       omega
 by_cases hd : dat (kdP l) = true
 · rw [if_pos hd, if_pos hd, (text_f l hok hl _ 1024 (by omega) (by omega) k hk).2, Option.bind_some]
   by_cases ht : (textAt l (rdP l).2.1 1024).2.2 = 0
   case neg => rw [if_neg ht, if_neg ht]
   rw [if_pos ht, if_pos ht]
   have := text_pos hok hp ht
   by_cases he : (textAt l (rdP l).2.1 1024).2.1 = (l.length : Int)
   · rw [if_pos he, if_neg (by omega)]
   · rw [if_neg he, if_pos (by omega)]
 · rw [if_neg hd, if_neg hd]
   by_cases he : (rdP l).2.1 = (l.length : Int)
   · rw [if_pos he, if_neg (by omega)]
   · rw [if_neg he, if_pos (by omega)]
/-- The answer of the program's and the reference's, spread out. -/
def outP (d : Int × List Int × List Int) : Int × Int × Int × Int × Int × Int × Int × Int × Int × Int × Int × List Int × Int := (d.2.1.getD 0 0, d.2.1.getD 1 0, d.2.1.getD 2 0, d.2.1.getD 3 0, d.2.1.getD 4 0, d.2.1.getD 5 0, d.2.1.getD 6 0, d.2.1.getD 7 0, d.2.1.getD 8 0, d.2.1.getD 9 0, d.2.1.getD 10 0, d.2.2, d.1)
theorem decode_f (l : List Int) (hok : octetsOk l = true) (hl : l.length < 140737488355328) : Ev (fun k => message_Decode.f k l) (outP (decP l)) := by
 refine ⟨1, fun k hk => ?_⟩
 show message_Decode.f k l = _
 unfold message_Decode.f
 rw [if_pos hok, decM_f l hok hl k hk]
 rfl
theorem refdecode_f (l : List Int) (hok : octetsOk l = true) (hl : l.length < 140737488355328) : Ev (fun k => waybillref09_Decode.f k l) (outP (decP l)) := by
 refine ⟨1, fun k hk => ?_⟩
 show waybillref09_Decode.f k l = _
 unfold waybillref09_Decode.f
 rw [if_pos hok, dec2_f l hok hl k hk]
 rfl
end Go.Proofs.Ytkddlhcpplkpbaa.V
end
section
set_option maxRecDepth 100000
namespace Go.Proofs.Ytkddlhcpplkpbaa.V
open WB Go Go.RowKit Go.Proofs.Ytkddlhcpplkpbaa.G Go.Proofs.YtkddlhcpplkpbaaW.PrintWords Go.Proofs.YtkddlhcpplkpbaaW.PrintLast Go.Proofs.YtkddlhcpplkpbaaW.PrintMore
theorem numsO_take (x : S25) : takeN (nums x) [x.f0, 0, 0, 0, 0, 0, 0, 0, 0, 0, 0] (2 :: ixOf x.f0) = numsO x := onlyN_all x.f0 x.f1 x.f2 x.f3 x.f4 x.f5 x.f6 x.f7 x.f8 x.f9 x.f10
theorem set_nums {x : S25} (h : MayBe x) : setAll [x.f0, 0, 0, 0, 0, 0, 0, 0, 0, 0, 0] (2 :: ixOf x.f0) (x.f2 :: (ixOf x.f0).map fun j => (nums x).getD j 0) = nums x := by
 have := setAll_take (nums x) (2 :: ixOf x.f0) [x.f0, 0, 0, 0, 0, 0, 0, 0, 0, 0, 0]
 rw [numsO_take, ← h.only] at this
 exact this
/-- The numbers behind the kind. -/
def valsM (x : S25) : List Int := x.f2 :: (ixOf x.f0).map fun j => (nums x).getD j 0
/-- The octets behind the numbers. -/
def tailM (x : S25) : List Int := if dat x.f0 = true then txt x.f11 else []
theorem encM_is (x : S25) : encM x = enc x.f0.toNat ++ (encAll (valsM x) ++ tailM x) := by
 unfold encM valsM tailM
 rw [encAll_cons, List.append_assoc]
theorem vals_rng {x : S25} (h : MayBe x) : ∀ v ∈ valsM x, 0 ≤ v ∧ v ≤ 2147483647 := by
 intro v hv
 rcases List.mem_cons.1 hv with rfl | hv
 · exact h.rng _ (by simp [nums])
 · exact fld_rng h v hv
theorem vals_len (x : S25) : (valsM x).length = (2 :: ixOf x.f0).length := by simp [valsM]
theorem kind_ne {x : S25} (h : MayBe x) : ixOf x.f0 ≠ [] := by
 have hc : x.f0 = 1 ∨ x.f0 = 2 ∨ x.f0 = 3 ∨ x.f0 = 4 ∨ x.f0 = 5 ∨ x.f0 = 6 ∨ x.f0 = 7 ∨ x.f0 = 8 := by have := h.kind; omega
 rcases hc with h | h | h | h | h | h | h | h <;> rw [h] <;> decide
theorem kindOf_small {q : Int} (h0 : 1 ≤ q) (h1 : q ≤ 8) : kindOf q = q := by
 unfold kindOf mn wrap64
 rw [if_neg (by omega)]
 omega
theorem get_kind {x : S25} (h : MayBe x) (r : List Int) : getAt (enc x.f0.toNat ++ r) 0 = (x.f0, ((enc x.f0.toNat).length : Int), 0) ∧ kdP (enc x.f0.toNat ++ r) = x.f0 := by
 have hk := h.kind
 have hg := getAt_enc [] x.f0.toNat r (by omega)
 rw [List.nil_append] at hg
 have hn : ((x.f0.toNat : Nat) : Int) = x.f0 := Int.toNat_of_nonneg (by omega)
 simp only [List.length_nil, Int.natCast_zero, Int.zero_add, hn] at hg
 refine ⟨hg, ?_⟩
 unfold kdP
 rw [hg]
 exact kindOf_small hk.1 hk.2
theorem read_vals {x : S25} (h : MayBe x) (r : List Int) : rdP (enc x.f0.toNat ++ (encAll (valsM x) ++ r)) = (0, ((enc x.f0.toNat ++ encAll (valsM x)).length : Int), nums x) := by
 obtain ⟨h1, h2⟩ := get_kind h (encAll (valsM x) ++ r)
 unfold rdP
 rw [h1, h2]
 dsimp only
 rw [rdN_enc _ _ _ _ _ (vals_len x) (vals_rng h)]
 exact congrArg (fun z => ((0 : Int), ((enc x.f0.toNat ++ encAll (valsM x)).length : Int), z)) (set_nums h)
/-- A message's octets tell it; with more behind them, something is left. -/
theorem dec_enc {x : S25} (h : MayBe x) (rest : List Int) : decP (encM x ++ rest) = if rest = [] then (0, nums x, x.f11) else (22, [], []) := by
 have hl : encM x ++ rest = enc x.f0.toNat ++ (encAll (valsM x) ++ (tailM x ++ rest)) := by rw [encM_is]; simp only [List.append_assoc]
 obtain ⟨h1, h2⟩ := get_kind h (encAll (valsM x) ++ (tailM x ++ rest))
 have h3 := read_vals h (tailM x ++ rest)
 have hlen : (rest.length = 0) ↔ rest = [] := List.length_eq_zero_iff
 rw [hl]
 unfold decP
 rw [h1, h2, h3]
 dsimp only
 rw [if_pos rfl, if_neg (kind_ne h), if_pos rfl]
 by_cases hd : dat x.f0 = true
 · rw [if_pos hd]
   have ht : tailM x = enc x.f11.length ++ x.f11 := by unfold tailM; rw [if_pos hd]; rfl
   have hlen2 := h.len
   have hL : enc x.f0.toNat ++ (encAll (valsM x) ++ (tailM x ++ rest)) = (enc x.f0.toNat ++ encAll (valsM x)) ++ (enc x.f11.length ++ (x.f11 ++ rest)) := by rw [ht]; simp only [List.append_assoc]
   rw [hL]
   generalize hpre : enc x.f0.toNat ++ encAll (valsM x) = pre
   have hg := getAt_enc pre x.f11.length (x.f11 ++ rest) (by omega)
   have hta : textAt (pre ++ (enc x.f11.length ++ (x.f11 ++ rest))) (pre.length : Int) 1024 = (x.f11, (pre.length : Int) + ((enc x.f11.length).length : Int) + (x.f11.length : Int), 0) := by
     unfold textAt
     rw [hg]
     dsimp only
     rw [if_pos rfl, if_neg (by omega), if_neg (by simp only [List.length_append]; omega)]
     have e1 : ((pre.length : Int) + ((enc x.f11.length).length : Int)).toNat = (pre ++ enc x.f11.length).length := by rw [List.length_append]; omega
     rw [e1, ← List.append_assoc, List.drop_left, Int.toNat_natCast, List.take_left]
   rw [hta]
   dsimp only
   rw [if_pos rfl]
   by_cases hr : rest = []
   · rw [if_pos hr, if_pos (by simp only [List.length_append]; rw [hr]; simp; omega)]
   · rw [if_neg hr, if_neg (by simp only [List.length_append]; have := mt hlen.1 hr; omega)]
 · rw [if_neg hd]
   have ht : tailM x = [] := by unfold tailM; rw [if_neg hd]
   have hf : x.f11 = [] := by have := h.data; rw [onlyL_dat, if_neg hd] at this; exact this
   rw [ht, List.nil_append, hf]
   by_cases hr : rest = []
   · rw [if_pos hr, if_pos (by rw [hr]; simp)]
   · rw [if_neg hr, if_neg (by simp only [List.length_append]; have := mt hlen.1 hr; omega)]
/-- The message of what octets tell. -/
def msgP (d : Int × List Int × List Int) : S25 := ⟨d.2.1.getD 0 0, d.2.1.getD 1 0, d.2.1.getD 2 0, d.2.1.getD 3 0, d.2.1.getD 4 0, d.2.1.getD 5 0, d.2.1.getD 6 0, d.2.1.getD 7 0, d.2.1.getD 8 0, d.2.1.getD 9 0, d.2.1.getD 10 0, d.2.2⟩
end Go.Proofs.Ytkddlhcpplkpbaa.V
end
section
set_option maxRecDepth 100000
namespace Go.Proofs.Ytkddlhcpplkpbaa.V
open WB Go Go.RowKit Go.Proofs.Ytkddlhcpplkpbaa.G Go.Proofs.YtkddlhcpplkpbaaW.PrintWords Go.Proofs.YtkddlhcpplkpbaaW.PrintLast Go.Proofs.YtkddlhcpplkpbaaW.PrintMore
def aliveX : S25 := ⟨8, 2, 3, 0, 0, 0, 0, 4, 0, 0, 0, []⟩
theorem aliveX_chk : chkM aliveX = 0 := by decide +kernel
theorem aliveX_enc : encM aliveX = [8, 3, 2, 4] := by
 unfold encM encAll
 have h1 : ((aliveX.f0 :: aliveX.f2 :: (ixOf aliveX.f0).map fun j => (nums aliveX).getD j 0)) = [8, 3, 2, 4] := by decide +kernel
 rw [h1, if_neg (by decide +kernel)]
 simp [enc_small]
theorem alive_f : Ev (fun k => waybilllaw09_alive.f k) true := by
 have h1 := encode_f aliveX (by simp [aliveX])
 rw [if_pos aliveX_chk, aliveX_enc] at h1
 have h2 := dec_enc (chk_ok aliveX_chk) []
 rw [if_pos rfl, aliveX_enc, List.append_nil] at h2
 have h3 := decode_f [8, 3, 2, 4] (by decide) (by simp)
 rw [h2] at h3
 unfold waybilllaw09_alive.f
 refine Ev.bind h1 (Ev.bind h3 ?_)
 exact Ev.congr (fun k => congrArg some (by decide +kernel)) (Ev.now true)
/-- Any message's octets are octets. -/
theorem encAll_ok : ∀ xs : List Int, octetsOk (encAll xs) = true
 | [] => rfl
 | x :: xs => by rw [encAll_cons, octetsOk_append, enc_ok, encAll_ok xs]; rfl
theorem encM_ok {x : S25} (h : octetsOk x.f11 = true) : octetsOk (encM x) = true := by
 unfold encM
 rw [octetsOk_append, encAll_ok]
 split
 · rw [txt_ok h]; rfl
 · rfl
end Go.Proofs.Ytkddlhcpplkpbaa.V
end
section
namespace Go.Proofs.Ytkddlhcpplkpbaa.V
open WB Go Go.RowKit Go.Proofs.Ytkddlhcpplkpbaa.G Go.Proofs.YtkddlhcpplkpbaaW.PrintWords Go.Proofs.YtkddlhcpplkpbaaW.PrintLast Go.Proofs.YtkddlhcpplkpbaaW.PrintMore
theorem refput_one (b p : List Int) (hok : octetsOk p = true) (hl : b.length < 140737488340000) : Ev (fun k => waybillref03_Put.f k b p) (if checkP p = 0 then (b ++ frm p, 0) else ([], checkP p)) := by
 unfold waybillref03_Put.f checkP
 by_cases h0 : (p.length : Int) = 0
 · simp only [if_pos h0, if_neg (show ¬ ((8 : Int) = 0) by decide)]
   exact Ev.now _
 by_cases h4 : (p.length : Int) > 4096
 · simp only [if_neg h0, if_pos h4, if_neg (show ¬ ((5 : Int) = 0) by decide)]
   exact Ev.now _
 simp only [if_neg h0, if_neg h4, if_true]
 have htl := txt_len (s := p) (by omega)
 have ht := reftexts_f [] p (by simp; omega)
 rw [List.nil_append] at ht
 refine Ev.bind ht ?_
 refine Ev.bind (refsum_f (txt p) (txt_ok hok) (by omega)) ?_
 have e1 : (txt p).length + (sum4 (txt p)).length < 140737488355328 := by rw [sum4_len]; omega
 have e2 : b.length + (frm p).length < 140737488355328 := by unfold frm; rw [List.length_append, sum4_len]; omega
 refine Ev.congr (fun k => ?_) (Ev.now _)
 rw [copied_f b (by omega), Option.bind_some, Option.bind_some, if_pos (by exact e1), Option.bind_some, if_pos (by exact e2)]
 rfl
/-- A frame's own octets stand there. -/
theorem getAt_txt {l : List Int} (hok : octetsOk l = true) (he : (getAt l 0).2.2 = 0) (hle : (getAt l 0).2.1 + (getAt l 0).1 ≤ l.length) (hn : (getAt l 0).1 ≤ 4096) :
   txt ((l.take ((getAt l 0).2.1 + (getAt l 0).1).toNat).drop (getAt l 0).2.1.toNat) = l.take ((getAt l 0).2.1 + (getAt l 0).1).toNat ∧ (((l.take ((getAt l 0).2.1 + (getAt l 0).1).toNat).drop (getAt l 0).2.1.toNat).length : Int) = (getAt l 0).1 := by
 rcases getAt_cases hok 0 with ⟨e, h, h2⟩ | ⟨q, x, rest, h1, h2, h3, h4⟩
 · rw [h] at he
   rcases h2 with rfl | rfl | rfl <;> cases he
 · rw [h4] at hle hn ⊢
   dsimp only at hle hn ⊢
   have hx : x = [] := by
    cases x with
    | nil => rfl
    | cons a x => simp at h2; omega
   subst hx
   rw [List.nil_append] at h1
   have e1 : (0 + ((enc q).length : Int) + (q : Int)).toNat = (enc q).length + q := by omega
   have e2 : (0 + ((enc q).length : Int)).toNat = (enc q).length := by omega
   have hr : q ≤ rest.length := by
    have := congrArg List.length h1
    rw [List.length_append] at this
    omega
   rw [e1, e2, h1, List.take_length_add_append, List.drop_left]
   have e3 : (rest.take q).length = q := by rw [List.length_take]; omega
   refine ⟨?_, by rw [e3]⟩
   unfold txt
   rw [e3]
theorem refget_l (l : List Int) (hok : octetsOk l = true) (hl : l.length < 140737488340000) : Ev (fun k => waybillref03_Get.f k l) (getF l) := by
 have htx := getAt_txt hok
 unfold waybillref03_Get.f getF
 obtain ⟨b1, b2, b3, b4⟩ := getAt_bounds hok
 rw [refget_f l 0 hok]
 obtain ⟨g, hg⟩ : ∃ g, g = getAt l 0 := ⟨_, rfl⟩
 rw [← hg] at b1 b2 b3 b4 htx ⊢
 clear hg
 obtain ⟨n, a, e⟩ := g
 simp only [Option.bind_some] at b1 b2 b3 b4 htx ⊢
 by_cases e8 : e = 8
 · simp only [if_pos e8]
   exact Ev.now _
 simp only [if_neg e8]
 by_cases e0 : ¬ e = 0
 · simp only [if_neg e0]
   exact Ev.now _
 replace e0 : e = 0 := Decidable.not_not.1 e0
 simp only [if_pos e0]
 by_cases n0 : n = 0
 · simp only [if_pos n0]
   exact Ev.now _
 simp only [if_neg n0]
 by_cases n4 : n > 4096
 · simp only [if_pos n4]
   exact Ev.now _
 simp only [if_neg n4]
 have w1 : wrap64 n = n := by unfold wrap64; omega
 have w0 : wrap64 ((l.length : Int) - a) = l.length - a := by unfold wrap64; omega
 have w2 : wrap64 (n + 4) = n + 4 := by unfold wrap64; omega
 have w3 : wrap64 (a + n) = a + n := by unfold wrap64; omega
 have w4 : wrap64 (a + n + 4) = a + n + 4 := by unfold wrap64; omega
 simp only [w1, w0, w2, w3, w4]
 by_cases h5 : (l.length : Int) - a - 4 < n
 · simp only [if_pos h5, if_pos (show (l.length : Int) - a < n + 4 by omega)]
   exact Ev.now _
 obtain ⟨t1, t2⟩ := htx e0 (by omega) (by omega)
 simp only [if_neg h5, if_neg (show ¬ ((l.length : Int) - a < n + 4) by omega), if_pos (show a + n ≤ (l.length : Int) by omega), if_pos (show 0 ≤ a + n + 4 by omega), if_pos (show a + n + 4 ≤ (l.length : Int) by omega), if_pos b3, if_pos (show a ≤ a + n by omega)]
 have hlt : (l.take (a + n).toNat).length ≤ l.length := by rw [List.length_take]; exact Nat.min_le_right _ _
 obtain ⟨p, hp⟩ : ∃ p, p = (l.take (a + n).toNat).drop a.toNat := ⟨_, rfl⟩
 rw [← hp] at t1 t2 ⊢
 have hpo : octetsOk p = true := by rw [hp]; exact octetsOk_drop (octetsOk_take hok _) _
 have hc : checkP p = 0 := by unfold checkP; rw [if_neg (by omega), if_neg (by omega)]
 have hput := refput_one [] p hpo (by decide)
 rw [if_pos hc, List.nil_append] at hput
 refine Ev.bind hput ?_
 have hstr : ((strOfNums (frm p)).toList = (strOfNums (l.take (a + n + 4).toNat)).toList) ↔ (l.take (a + n).toNat ++ sum4 (l.take (a + n).toNat) = l.take (a + n + 4).toNat) := by
   have := strs_eq (frm p) (l.take (a + n + 4).toNat) (frm_ok hpo) (octetsOk_take hok _)
   rw [Bool.eq_iff_iff, beq_iff_eq, decide_eq_true_iff] at this
   rw [this]
   unfold frm
   rw [t1]
 by_cases h6 : l.take (a + n).toNat ++ sum4 (l.take (a + n).toNat) = l.take (a + n + 4).toNat
 · simp only [if_pos h6, if_pos (hstr.2 h6)]
   simp only [copied_f p (by omega), Option.bind_some]
   exact Ev.now _
 · simp only [if_neg h6, if_neg (fun q => h6 (hstr.1 q))]
   exact Ev.now _
theorem getF_next {l : List Int} (hok : octetsOk l = true) (h : (getF l).2.2 = 0) : 4 < (getF l).2.1 ∧ (getF l).2.1 ≤ l.length ∧ octetsOk (getF l).1 = true := by
 obtain ⟨b1, b2, b3, b4⟩ := getAt_bounds hok
 unfold getF at h ⊢
 split at h
 · cases h
 · split at h
   · split at h
     · cases h
     · split at h
       · cases h
       · split at h
         · cases h
         · split at h
           · rename_i h8 h0 h1 h2 h3 h4
             rw [if_neg h8, if_pos h0, if_neg h1, if_neg h2, if_neg h3, if_pos h4]
             dsimp only
             exact ⟨by omega, by omega, octetsOk_drop (octetsOk_take hok _) _⟩
           · cases h
   · rename_i h0
     exact absurd h h0
end Go.Proofs.Ytkddlhcpplkpbaa.V
end
section
namespace Go.Proofs.Ytkddlhcpplkpbaa.V
open WB Go Go.RowKit Go.Proofs.Ytkddlhcpplkpbaa.G Go.Proofs.YtkddlhcpplkpbaaW.PrintWords Go.Proofs.YtkddlhcpplkpbaaW.PrintLast Go.Proofs.YtkddlhcpplkpbaaW.PrintMore
def flat : List (List Int) → List Int
 | [] => []
 | p :: l => frm p ++ flat l
theorem flat_app (a b : List (List Int)) : flat (a ++ b) = flat a ++ flat b := by
 induction a with
 | nil => rfl
 | cons p l ih => show frm p ++ flat (l ++ b) = (frm p ++ flat l) ++ flat b; rw [ih, List.append_assoc]
end Go.Proofs.Ytkddlhcpplkpbaa.V
end
