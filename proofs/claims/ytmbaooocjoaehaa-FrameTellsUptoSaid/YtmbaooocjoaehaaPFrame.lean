/- What the printed functions of frame come to. No program here. -/
import Derived.Test.YtmbaooocjoaehaaQBase
import Derived.Test.YtmbaooocjoaehaaQOpen
import Derived.Test.YtmbaooocjoaehaaQCrc
import Derived.Test.YtmbaooocjoaehaaPVarint
import Derived.Test.YtmbaooocjoaehaaPVarintG
import Derived.Test.YtmbaooocjoaehaaPVarintTexts
import Derived.Test.YtmbaooocjoaehaaPCrcUn
import Derived.Test.YtmbaooocjoaehaaPCrcUnF
import Derived.Test.YtmbaooocjoaehaaGx1
import Derived.Test.YtmbaooocjoaehaaGx2
import Derived.Test.YtmbaooocjoaehaaGx3
import Derived.Test.YtmbaooocjoaehaaGx4
set_option linter.unusedVariables false
set_option linter.unusedSimpArgs false
namespace Go.Proofs.Ytmbaooocjoaehaa.V
open WB Go Go.RowKit Go.Proofs.Ytmbaooocjoaehaa.G Go.Proofs.YtmbaooocjoaehaaW.PrintWords Go.Proofs.YtmbaooocjoaehaaW.PrintLast Go.Proofs.YtmbaooocjoaehaaW.PrintMore
def sum4 (l : List Int) : List Int := [ofB (~~~ (runO (BitVec.allOnes 32) l)) % 256, ofB (~~~ (runO (BitVec.allOnes 32) l)) / 256 % 256, ofB (~~~ (runO (BitVec.allOnes 32) l)) / 65536 % 256, ofB (~~~ (runO (BitVec.allOnes 32) l)) / 16777216 % 256]
def frm (p : List Int) : List Int := txt p ++ sum4 (txt p)
def checkP (p : List Int) : Int := if (p.length : Int) = 0 then 8 else if (p.length : Int) > 4096 then 5 else 0
def putF : List Int → List (List Int) → List Int × Int
  | b, [] => (b, 0)
  | b, p :: l => if checkP p = 0 then putF (b ++ frm p) l else ([], checkP p)
theorem sum4_len (l : List Int) : (sum4 l).length = 4 := rfl
theorem sum4_ok (l : List Int) : octetsOk (sum4 l) = true := by
  have h0 := ofB_nonneg (~~~ (runO (BitVec.allOnes 32) l))
  have h1 := ofB_lt (~~~ (runO (BitVec.allOnes 32) l))
  simp [sum4, octetsOk]
  omega
theorem txt_ok {p : List Int} (h : octetsOk p = true) : octetsOk (txt p) = true := by
  unfold txt
  rw [octetsOk_append, enc_ok, h]
  rfl
theorem frm_ok {p : List Int} (h : octetsOk p = true) : octetsOk (frm p) = true := by
  unfold frm
  rw [octetsOk_append, txt_ok h, sum4_ok]
  rfl
theorem check_p (p : List Int) : frame_check.f p = some (checkP p) := by
  unfold frame_check.f checkP
  split
  · rfl
  · split <;> rfl
theorem check_ok {p : List Int} (h : checkP p = 0) : 0 < p.length ∧ p.length ≤ 4096 := by
  unfold checkP at h
  split at h
  · cases h
  · split at h
    · cases h
    · omega
theorem frm_len {p : List Int} (h : checkP p = 0) : (frm p).length ≤ 4110 := by
  have := check_ok h
  have := txt_len (s := p) (by omega)
  unfold frm
  rw [List.length_append, sum4_len]
  omega
theorem summed_f (l : List Int) (h : octetsOk l = true) (hl : l.length + 4 < 140737488355328) : frame_summed.f l = some (l ++ sum4 l) := by
  unfold frame_summed.f
  rw [sum_one l h, Option.bind_some, Option.bind_some, if_pos (by simpa using hl)]
  rfl
theorem equal_l0 (a b : List Int) (hab : a.length = b.length) (hm : a.length ≤ 140737488355328) : ∀ (d i : Nat), i + d = a.length → Ev (fun k => slices_Equal_byte_byte.l0 k a b (a.length : Int) (i : Int)) (decide (a.drop i = b.drop i)) := by
  intro d
  induction d with
  | zero =>
    intro i hi
    refine ⟨1, fun k hk => ?_⟩
    obtain ⟨k, rfl⟩ : ∃ m, k = m + 1 := ⟨k - 1, by omega⟩
    show slices_Equal_byte_byte.l0 (k + 1) a b _ _ = _
    rw [slices_Equal_byte_byte.l0, if_neg (by omega), List.drop_of_length_le (by omega), List.drop_of_length_le (by omega)]
    simp
  | succ d ih =>
    intro i hi
    have hlt : i < a.length := by omega
    have hlt2 : i < b.length := by omega
    have ra : rd a (i : Int) = a[i] := by simp [rd, List.getElem?_eq_getElem hlt]
    have rb : rd b (i : Int) = b[i] := by simp [rd, List.getElem?_eq_getElem hlt2]
    have hw : wrap64 ((i : Int) + 1) = ((i + 1 : Nat) : Int) := by unfold wrap64; omega
    rw [show a.drop i = a[i] :: a.drop (i + 1) from List.drop_eq_getElem_cons hlt, show b.drop i = b[i] :: b.drop (i + 1) from List.drop_eq_getElem_cons hlt2]
    by_cases he : a[i] = b[i]
    · have h := ih (i + 1) (by omega)
      have e : decide (a[i] :: a.drop (i + 1) = b[i] :: b.drop (i + 1)) = decide (a.drop (i + 1) = b.drop (i + 1)) := decide_eq_decide.2 ⟨fun q => (List.cons.inj q).2, fun q => by rw [he, q]⟩
      rw [e]
      refine Ev.step (fun k => ?_) h
      show slices_Equal_byte_byte.l0 (k + 1) a b _ _ = _
      rw [slices_Equal_byte_byte.l0, if_pos (by omega), if_pos (by omega), if_pos (by omega), if_pos (by omega), ra, rb, if_pos he, hw]
    · refine ⟨1, fun k hk => ?_⟩
      obtain ⟨k, rfl⟩ : ∃ m, k = m + 1 := ⟨k - 1, by omega⟩
      show slices_Equal_byte_byte.l0 (k + 1) a b _ _ = _
      rw [slices_Equal_byte_byte.l0, if_pos (by omega), if_pos (by omega), if_pos (by omega), if_pos (by omega), ra, rb, if_neg he, decide_eq_false (fun q => he (List.cons.inj q).1)]
theorem equal_f (a b : List Int) (hm : a.length ≤ 140737488355328) : Ev (fun k => slices_Equal_byte_byte.f k a b) (decide (a = b)) := by
  unfold slices_Equal_byte_byte.f
  by_cases h : a.length = b.length
  · have := equal_l0 a b h hm a.length 0 (by omega)
    rw [List.drop_zero, List.drop_zero] at this
    refine Ev.congr (fun k => ?_) this
    rw [if_pos (by omega)]
    rfl
  · refine Ev.congr (fun k => ?_) (Ev.now _)
    rw [if_neg (by omega), decide_eq_false (fun he => h (by rw [he]))]
theorem fput_l0 (xs : List (List Int)) (hok : ∀ s ∈ xs, octetsOk s = true) (hm : xs.length ≤ 140737488355328) : ∀ (d i : Nat) (x6 : List Int), xs.length - i = d → i ≤ xs.length → x6.length + 5000 * d < 140737488350000 → Ev (fun k => frame_Put.l0 k x6 xs (xs.length : Int) (i : Int)) (putF x6 (xs.drop i)) := by
  intro d
  induction d with
  | zero =>
    intro i x6 hd hi _
    refine ⟨1, fun k hk => ?_⟩
    obtain ⟨k, rfl⟩ : ∃ m, k = m + 1 := ⟨k - 1, by omega⟩
    show frame_Put.l0 (k + 1) x6 xs _ _ = _
    rw [frame_Put.l0, if_neg (by omega), List.drop_of_length_le (by omega)]
    rfl
  | succ d ih =>
    intro i x6 hd hi hx
    have hlt : i < xs.length := by omega
    obtain ⟨s, hs⟩ : ∃ s, s = xs[i] := ⟨_, rfl⟩
    have hrd : rd_L1 xs (i : Int) = s := by simp [rd_L1, List.getElem?_eq_getElem hlt, hs]
    have hso : octetsOk s = true := by rw [hs]; exact hok _ (List.getElem_mem hlt)
    have hw : wrap64 ((i : Int) + 1) = ((i + 1 : Nat) : Int) := by unfold wrap64; omega
    rw [List.drop_eq_getElem_cons hlt, ← hs, putF]
    by_cases hc : checkP s = 0
    · have hcl := check_ok hc
      have hfl := frm_len hc
      have htl := txt_len (s := s) (by omega)
      obtain ⟨K1, h1⟩ := texts_f [] [s] (by simp) (by simp [lsum]; omega)
      obtain ⟨K2, h2⟩ := ih (i + 1) (x6 ++ frm s) (by omega) (by omega) (by rw [List.length_append]; omega)
      rw [if_pos hc]
      refine ⟨K1 + K2 + 1, fun k hk => ?_⟩
      obtain ⟨k, rfl⟩ : ∃ m, k = m + 1 := ⟨k - 1, by omega⟩
      have a1 := h1 k (by omega)
      have a2 := h2 k (by omega)
      dsimp only at a1 a2
      rw [show ([] : List Int) ++ txts [s] = txt s by simp [txts]] at a1
      show frame_Put.l0 (k + 1) x6 xs _ _ = _
      rw [frame_Put.l0, if_pos (by omega), if_pos (by omega), if_pos (by omega), hrd, check_p, Option.bind_some, if_pos hc, a1, Option.bind_some, summed_f _ (txt_ok hso) (by omega), Option.bind_some, if_pos (by
        show x6.length + (frm s).length < _
        omega), hw]
      exact a2
    · rw [if_neg hc]
      refine ⟨1, fun k hk => ?_⟩
      obtain ⟨k, rfl⟩ : ∃ m, k = m + 1 := ⟨k - 1, by omega⟩
      show frame_Put.l0 (k + 1) x6 xs _ _ = _
      rw [frame_Put.l0, if_pos (by omega), if_pos (by omega), if_pos (by omega), hrd, check_p, Option.bind_some, if_neg hc]
theorem fput_f (b : List Int) (xs : List (List Int)) (hok : ∀ s ∈ xs, octetsOk s = true) (hl : b.length + 5000 * xs.length < 140737488350000) : Ev (fun k => frame_Put.f k b xs) (putF b xs) := by
  have h := fput_l0 xs hok (by omega) xs.length 0 b (by omega) (by omega) hl
  rw [List.drop_zero] at h
  refine Ev.congr (fun k => ?_) h
  show frame_Put.f k b xs = _
  unfold frame_Put.f
  rw [clone_f b (by omega)]
  rfl
/-- The first frame's payload, the place behind it, the error. -/
def getF (l : List Int) : List Int × Int × Int :=
  if (getAt l 0).2.2 = 8 then ([], 0, 71) else if (getAt l 0).2.2 = 0 then
    (if (getAt l 0).1 = 0 then ([], 0, 8) else if (getAt l 0).1 > 4096 then ([], 0, 5) else
      if (l.length : Int) - (getAt l 0).2.1 - 4 < (getAt l 0).1 then ([], 0, 71) else
      if l.take ((getAt l 0).2.1 + (getAt l 0).1).toNat ++ sum4 (l.take ((getAt l 0).2.1 + (getAt l 0).1).toNat) = l.take ((getAt l 0).2.1 + (getAt l 0).1 + 4).toNat
      then ((l.take ((getAt l 0).2.1 + (getAt l 0).1).toNat).drop (getAt l 0).2.1.toNat, (getAt l 0).2.1 + (getAt l 0).1 + 4, 0) else ([], 0, 21))
  else ([], 0, (getAt l 0).2.2)
theorem getAt_bounds {l : List Int} (hok : octetsOk l = true) : 0 ≤ (getAt l 0).1 ∧ (getAt l 0).1 < 18446744073709551616 ∧ 0 ≤ (getAt l 0).2.1 ∧ (getAt l 0).2.1 ≤ l.length := by
  rcases getAt_cases hok 0 with ⟨e, h, _⟩ | ⟨q, x, rest, h1, h2, h3, h4⟩
  · rw [h]
    dsimp only
    omega
  · rw [h4]
    have := congrArg List.length h1
    rw [List.length_append, List.length_append] at this
    dsimp only
    omega
theorem fget_f (l : List Int) (hok : octetsOk l = true) (hl : l.length < 140737488350000) : Ev (fun k => frame_Get.f k l) (getF l) := by
  unfold frame_Get.f getF
  obtain ⟨b1, b2, b3, b4⟩ := getAt_bounds hok
  rw [get_f l 0 hok]
  obtain ⟨g, hg⟩ : ∃ g, g = getAt l 0 := ⟨_, rfl⟩
  rw [← hg] at b1 b2 b3 b4 ⊢
  clear hg
  obtain ⟨n, a, e⟩ := g
  simp only [Option.bind_some] at b1 b2 b3 b4 ⊢
  by_cases e8 : e = 8
  · simp only [if_pos e8]
    exact Ev.now _
  simp only [if_neg e8]
  by_cases e0 : ¬ e = 0
  · simp only [if_neg e0]
    exact Ev.now _
  replace e0 : e = 0 := Decidable.not_not.1 e0
  simp only [if_pos e0]
  by_cases n0 : n = 0
  · simp only [if_pos n0]
    exact Ev.now _
  simp only [if_neg n0]
  by_cases n4 : n > 4096
  · simp only [if_pos n4]
    exact Ev.now _
  simp only [if_neg n4]
  have w1 : wrap64 n = n := by unfold wrap64; omega
  have w0 : wrap64 ((l.length : Int) - a) = l.length - a := by unfold wrap64; omega
  have w2 : wrap64 ((l.length : Int) - a - 4) = l.length - a - 4 := by unfold wrap64; omega
  have w3 : wrap64 (a + n) = a + n := by unfold wrap64; omega
  have w4 : wrap64 (a + n + 4) = a + n + 4 := by unfold wrap64; omega
  simp only [w1, w0, w2, w3, w4]
  by_cases h5 : (l.length : Int) - a - 4 < n
  · simp only [if_pos h5]
    exact Ev.now _
  simp only [if_neg h5, if_pos (show 0 ≤ a + n by omega), if_pos (show a + n ≤ (l.length : Int) by omega), if_pos (show 0 ≤ a + n + 4 by omega), if_pos (show a + n + 4 ≤ (l.length : Int) by omega), if_pos b3, if_pos (show a ≤ a + n by omega)]
  have hlt : (l.take (a + n).toNat).length ≤ l.length := by rw [List.length_take]; exact Nat.min_le_right _ _
  simp only [clone_f (l.take (a + n).toNat) (by omega), Option.bind_some, summed_f (l.take (a + n).toNat) (octetsOk_take hok _) (by omega)]
  refine Ev.bind (equal_f _ _ (by rw [List.length_append, sum4_len]; omega)) ?_
  by_cases h6 : l.take (a + n).toNat ++ sum4 (l.take (a + n).toNat) = l.take (a + n + 4).toNat
  · simp only [decide_eq_true h6, if_true, if_pos h6]
    simp only [clone_f (List.drop a.toNat (l.take (a + n).toNat)) (by rw [List.length_drop]; omega), Option.bind_some]
    exact Ev.now _
  · simp only [decide_eq_false h6, if_neg h6]
    exact Ev.now _
theorem octetsOk_set {l : List Int} {i : Nat} {v : Int} (h : octetsOk l = true) (v0 : 0 ≤ v) (v1 : v < 256) : octetsOk (l.set i v) = true := by
  unfold octetsOk at h ⊢
  rw [List.all_eq_true] at h ⊢
  intro x hx
  rcases List.mem_or_eq_of_mem_set hx with hx | rfl
  · exact h x hx
  · simpa using ⟨v0, v1⟩
/-- A register over octets of which one is another comes out as another. -/
theorem run_set (c : BitVec 32) (l : List Int) (j : Nat) (v : Int) (hj : j < l.length) (hok : octetsOk l = true) (v0 : 0 ≤ v) (v1 : v < 256) (hv : v ≠ l.getD j 0) : runO c (l.set j v) ≠ runO c l := by
  have hx := octetsOk_get hok j
  obtain ⟨x, hxe⟩ : ∃ x, x = l.getD j 0 := ⟨_, rfl⟩
  rw [← hxe] at hv hx
  have e1 : l = l.take j ++ x :: l.drop (j + 1) := by
    conv => lhs; rw [← List.take_append_drop j l, List.drop_eq_getElem_cons hj]
    rw [hxe, List.getD_eq_getElem?_getD, List.getElem?_eq_getElem hj]
    rfl
  have e2 : l.set j v = l.take j ++ v :: l.drop (j + 1) := by rw [List.set_eq_take_append_cons_drop, if_pos hj]
  intro h
  rw [e2] at h
  conv at h => rhs; rw [e1]
  rw [runO_append, runO_append] at h
  have h2 : runO (onO (runO c (l.take j)) v) (l.drop (j + 1)) = runO (onO (runO c (l.take j)) x) (l.drop (j + 1)) := h
  have h3 := runO_inj h2
  unfold onO at h3
  have h4 := stps_inj h3
  have h5 : BitVec.ofNat 32 v.toNat = BitVec.ofNat 32 x.toNat := by
    have := congrArg (fun t => runO c (l.take j) ^^^ t) h4
    simpa [← BitVec.xor_assoc] using this
  have h6 := congrArg BitVec.toNat h5
  rw [BitVec.toNat_ofNat, BitVec.toNat_ofNat] at h6
  apply hv
  omega
theorem sum4_inj {l m : List Int} (h : sum4 l = sum4 m) : runO (BitVec.allOnes 32) l = runO (BitVec.allOnes 32) m := by
  have a0 := ofB_nonneg (~~~ (runO (BitVec.allOnes 32) l))
  have a1 := ofB_lt (~~~ (runO (BitVec.allOnes 32) l))
  have b0 := ofB_nonneg (~~~ (runO (BitVec.allOnes 32) m))
  have b1 := ofB_lt (~~~ (runO (BitVec.allOnes 32) m))
  rw [← not_inj]
  simp only [sum4, List.cons.injEq, and_true] at h
  obtain ⟨h1, h2, h3, h4⟩ := h
  omega
end Go.Proofs.Ytmbaooocjoaehaa.V
