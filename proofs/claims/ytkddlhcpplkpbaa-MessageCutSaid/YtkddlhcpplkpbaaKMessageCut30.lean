/- MessageCut: texts of this claim, packed: what the kit's print has written for it and own texts, without what its proof does not reach. -/
import Derived.Test.YtkddlhcpplkpbaaKMessageCut0
import Derived.Test.YtkddlhcpplkpbaaKMessageCut2
import Derived.Test.YtkddlhcpplkpbaaKMessageCut6
import Derived.Test.YtkddlhcpplkpbaaKMessageCut9
import Derived.Test.YtkddlhcpplkpbaaKMessageCut15
import Derived.Test.YtkddlhcpplkpbaaKMessageCut20
import Derived.Test.YtkddlhcpplkpbaaKMessageCut23
import Derived.Test.YtkddlhcpplkpbaaKMessageCut24
import Derived.Test.YtkddlhcpplkpbaaKMessageCut25
import Derived.Test.YtkddlhcpplkpbaaKMessageCut26
import Derived.Test.YtkddlhcpplkpbaaKMessageCut27
import Derived.Test.YtkddlhcpplkpbaaKMessageCut28
import Derived.Test.YtkddlhcpplkpbaaKMessageCut29
set_option linter.unusedVariables false
set_option linter.unusedSimpArgs false
set_option linter.unusedSectionVars false
section
set_option maxRecDepth 100000
set_option linter.unusedVariables false
set_option linter.unusedSimpArgs false
namespace Go.Proofs.Ytkddlhcpplkpbaa.V
open WB Go Go.RowKit Go.Proofs.Ytkddlhcpplkpbaa.G Go.Proofs.YtkddlhcpplkpbaaW.PrintWords Go.Proofs.YtkddlhcpplkpbaaW.PrintLast Go.Proofs.YtkddlhcpplkpbaaW.PrintMore
def aliveX : S25 := ⟨8, 2, 3, 0, 0, 0, 0, 4, 0, 0, 0, []⟩
theorem aliveX_chk : chkM aliveX = 0 := by decide +kernel
theorem aliveX_enc : encM aliveX = [8, 3, 2, 4] := by
  unfold encM encAll
  have h1 : ((aliveX.f0 :: aliveX.f2 :: (ixOf aliveX.f0).map fun j => (nums aliveX).getD j 0)) = [8, 3, 2, 4] := by decide +kernel
  rw [h1, if_neg (by decide +kernel)]
  simp [enc_small]
theorem alive_f : Ev (fun k => waybilllaw09_alive.f k) true := by
  have h1 := encode_f aliveX (by simp [aliveX])
  rw [if_pos aliveX_chk, aliveX_enc] at h1
  have h2 := dec_enc (chk_ok aliveX_chk) []
  rw [if_pos rfl, aliveX_enc, List.append_nil] at h2
  have h3 := decode_f [8, 3, 2, 4] (by decide) (by simp)
  rw [h2] at h3
  unfold waybilllaw09_alive.f
  refine Ev.bind h1 (Ev.bind h3 ?_)
  exact Ev.congr (fun k => congrArg some (by decide +kernel)) (Ev.now true)
/-- Any message's octets are octets. -/
theorem encAll_ok : ∀ xs : List Int, octetsOk (encAll xs) = true
  | [] => rfl
  | x :: xs => by rw [encAll_cons, octetsOk_append, enc_ok, encAll_ok xs]; rfl
theorem encM_ok {x : S25} (h : octetsOk x.f11 = true) : octetsOk (encM x) = true := by
  unfold encM
  rw [octetsOk_append, encAll_ok]
  split
  · rw [txt_ok h]; rfl
  · rfl
end Go.Proofs.Ytkddlhcpplkpbaa.V
end

section
set_option linter.unusedVariables false
set_option linter.unusedSimpArgs false
namespace Go.Proofs.Ytkddlhcpplkpbaa.V
open WB Go Go.RowKit Go.Proofs.Ytkddlhcpplkpbaa.G Go.Proofs.YtkddlhcpplkpbaaW.PrintWords Go.Proofs.YtkddlhcpplkpbaaW.PrintLast Go.Proofs.YtkddlhcpplkpbaaW.PrintMore
theorem getF_enc (q : Nat) (h0 : 0 < q) (h1 : q ≤ 4096) (r : List Int) (hr : q + 4 ≤ r.length) :
    getF (enc q ++ r) = if (enc q ++ r.take q) ++ sum4 (enc q ++ r.take q) = enc q ++ r.take (q + 4) then (r.take q, ((enc q).length + q + 4 : Int), 0) else ([], 0, 21) := by
  have hg := getAt_enc [] q r (by omega)
  rw [List.nil_append] at hg
  simp only [List.length_nil, Int.ofNat_zero, Int.zero_add, Int.natCast_zero] at hg
  unfold getF
  rw [hg]
  have e1 : ((enc q).length + q : Int).toNat = (enc q).length + q := by omega
  have e2 : ((enc q).length + q + 4 : Int).toNat = (enc q).length + (q + 4) := by omega
  simp only [e1, e2, Int.toNat_natCast, List.take_length_add_append, List.drop_left, List.length_append]
  rw [if_neg (by decide), if_pos trivial, if_neg (by omega), if_neg (by omega), if_neg (by push_cast; omega)]
theorem get_frm (p rest : List Int) (hc : checkP p = 0) : getF (frm p ++ rest) = (p, ((frm p).length : Int), 0) := by
  have h := check_ok hc
  have e : frm p ++ rest = enc p.length ++ (p ++ (sum4 (txt p) ++ rest)) := by simp [frm, txt]
  rw [e, getF_enc p.length (by omega) (by omega) _ (by simp [sum4_len])]
  have t1 : (p ++ (sum4 (txt p) ++ rest)).take p.length = p := List.take_left
  have t2 : (p ++ (sum4 (txt p) ++ rest)).take (p.length + 4) = p ++ sum4 (txt p) := by
    rw [List.take_length_add_append]
    congr 1
  rw [t1, t2, if_pos (by simp [txt])]
  simp [frm, txt, sum4_len]
  omega
theorem put_one (b p : List Int) : putF b [p] = if checkP p = 0 then (b ++ frm p, 0) else ([], checkP p) := by
  rw [putF]
  rfl
end Go.Proofs.Ytkddlhcpplkpbaa.V
end

section
set_option linter.unusedVariables false
set_option linter.unusedSimpArgs false
namespace Go.Proofs.Ytkddlhcpplkpbaa.V
open WB Go Go.RowKit Go.Proofs.Ytkddlhcpplkpbaa.G Go.Proofs.YtkddlhcpplkpbaaW.PrintWords Go.Proofs.YtkddlhcpplkpbaaW.PrintLast Go.Proofs.YtkddlhcpplkpbaaW.PrintMore
def flat : List (List Int) → List Int
  | [] => []
  | p :: l => frm p ++ flat l
theorem flat_ok (l : List (List Int)) (h : ∀ p ∈ l, octetsOk p = true) : octetsOk (flat l) = true := by
  induction l with
  | nil => rfl
  | cons p l ih =>
    show octetsOk (frm p ++ flat l) = true
    rw [octetsOk_append, frm_ok (h p (by simp)), ih fun x hx => h x (by simp [hx])]
    rfl
theorem scan_frames (rest : List Int) (hr : octetsOk rest = true) (h71 : (getF rest).2.2 = 71) : ∀ (ps : List (List Int)) (pre : List Int) (x5 : List (List Int)), (∀ p ∈ ps, octetsOk p = true) → (∀ p ∈ ps, checkP p = 0) → (pre ++ flat ps ++ rest).length < 140737488340000 → x5.length + ps.length < 5864062014805 →
    Ev (fun k => frame_Scan.l0 k (pre ++ flat ps ++ rest) x5 (pre.length : Int)) (x5 ++ ps, ((pre ++ flat ps).length : Int), 0) := by
  intro ps
  induction ps with
  | nil =>
    intro pre x5 _ _ hl _
    have hd : (pre ++ flat [] ++ rest).drop pre.length = rest := by
      show (pre ++ [] ++ rest).drop _ = _
      rw [List.append_nil, List.drop_left]
    have hlen : pre.length + rest.length = (pre ++ flat [] ++ rest).length := by
      show _ = (pre ++ [] ++ rest).length
      rw [List.append_nil, List.length_append]
    obtain ⟨K, h⟩ := fget_f rest hr (by omega)
    refine ⟨K + 1, fun k hk => ?_⟩
    obtain ⟨k, rfl⟩ : ∃ m, k = m + 1 := ⟨k - 1, by omega⟩
    have a1 := h k (by omega)
    dsimp only at a1
    show frame_Scan.l0 (k + 1) (pre ++ flat [] ++ rest) x5 _ = _
    rw [frame_Scan.l0, if_pos (by omega), if_pos (by omega), Int.toNat_natCast, hd, a1, Option.bind_some, if_pos h71]
    show some (x5, _, _) = some (x5 ++ [], ((pre ++ []).length : Int), _)
    rw [List.append_nil, List.append_nil]
  | cons p ps ih =>
    intro pre x5 hok hc hl hx
    have hcp := hc p (by simp)
    have hop := hok p (by simp)
    have he : pre ++ flat (p :: ps) ++ rest = (pre ++ frm p) ++ flat ps ++ rest := by
      show pre ++ (frm p ++ flat ps) ++ rest = _
      simp only [List.append_assoc]
    have he2 : pre ++ flat (p :: ps) = (pre ++ frm p) ++ flat ps := by
      show pre ++ (frm p ++ flat ps) = _
      simp only [List.append_assoc]
    have hlen : (pre ++ frm p ++ flat ps ++ rest).length = pre.length + (frm p).length + (flat ps).length + rest.length := by
      simp only [List.length_append]
    rw [he] at hl ⊢
    rw [he2]
    have hd : (pre ++ frm p ++ flat ps ++ rest).drop pre.length = frm p ++ (flat ps ++ rest) := by
      simp only [List.append_assoc]
      rw [List.drop_left]
    have hos : octetsOk (frm p ++ (flat ps ++ rest)) = true := by
      rw [octetsOk_append, octetsOk_append, frm_ok hop, flat_ok ps fun x hx => hok x (by simp [hx]), hr]
      rfl
    obtain ⟨K1, h1⟩ := fget_f (frm p ++ (flat ps ++ rest)) hos (by rw [List.length_append, List.length_append]; omega)
    rw [get_frm p _ hcp] at h1
    rw [List.length_cons] at hx
    obtain ⟨K2, h2⟩ := ih (pre ++ frm p) (x5 ++ [p]) (fun x hx => hok x (by simp [hx])) (fun x hx => hc x (by simp [hx])) hl (by rw [List.length_append, List.length_singleton]; omega)
    have hw : wrap64 ((pre.length : Int) + ((frm p).length : Int)) = ((pre ++ frm p).length : Int) := by rw [List.length_append]; unfold wrap64; omega
    refine ⟨K1 + K2 + 1, fun k hk => ?_⟩
    obtain ⟨k, rfl⟩ : ∃ m, k = m + 1 := ⟨k - 1, by omega⟩
    have a1 := h1 k (by omega)
    have a2 := h2 k (by omega)
    dsimp only at a1 a2
    show frame_Scan.l0 (k + 1) (pre ++ frm p ++ flat ps ++ rest) x5 _ = _
    rw [frame_Scan.l0, if_pos (by omega), if_pos (by omega), Int.toNat_natCast, hd, a1, Option.bind_some, if_neg (show ¬((0 : Int) = 71) by decide), if_pos rfl, if_pos (by omega), hw, a2, List.append_assoc]
    rfl
/-- A frame that is cut off is none. -/
theorem getF_cut (p : List Int) (hc : checkP p = 0) (n : Nat) (hn : n < (frm p).length) : (getF ((frm p).take n)).2.2 = 71 := by
  have hp := check_ok hc
  have e : frm p = enc p.length ++ (p ++ sum4 (txt p)) := by unfold frm txt; rw [List.append_assoc]
  rw [e] at hn ⊢
  simp only [List.length_append, sum4_len] at hn
  by_cases h1 : n < (enc p.length).length
  · have hg := getAt_short [] p.length n (p ++ sum4 (txt p)) (by omega) h1
    have hg' : getAt ((enc p.length ++ (p ++ sum4 (txt p))).take n) 0 = (0, 0, 8) := hg
    unfold getF
    rw [hg']
    rfl
  · have ht : (enc p.length ++ (p ++ sum4 (txt p))).take n = enc p.length ++ (p ++ sum4 (txt p)).take (n - (enc p.length).length) := by
      rw [List.take_append, List.take_of_length_le (by omega)]
    rw [ht]
    have hg := getAt_enc [] p.length ((p ++ sum4 (txt p)).take (n - (enc p.length).length)) (by omega)
    have hg' : getAt (enc p.length ++ (p ++ sum4 (txt p)).take (n - (enc p.length).length)) 0 = ((p.length : Int), (0 : Int) + ((enc p.length).length : Int), 0) := hg
    unfold getF
    rw [hg']
    dsimp only
    rw [if_neg (by decide), if_pos rfl, if_neg (by omega), if_neg (by omega), if_pos]
    simp only [List.length_append, List.length_take, sum4_len]
    omega
end Go.Proofs.Ytkddlhcpplkpbaa.V
end

section
set_option maxRecDepth 100000
set_option linter.unusedVariables false
set_option linter.unusedSimpArgs false
namespace Go.Proofs.Ytkddlhcpplkpbaa.V
open WB Go Go.RowKit Go.Proofs.Ytkddlhcpplkpbaa.G Go.Proofs.YtkddlhcpplkpbaaW.PrintWords Go.Proofs.YtkddlhcpplkpbaaW.PrintLast Go.Proofs.YtkddlhcpplkpbaaW.PrintMore
theorem rd_msg (l : List S25) (i : Nat) (h : i < l.length) : rd_T25 l (i : Int) = l[i] := by simp [rd_T25, List.getElem?_eq_getElem h]
/-- Frames of messages: the first that may not be tells. -/
def frsM : List S25 → List (List Int) → List Int × Int
  | [], o => putF [] o
  | x :: xs, o => if chkM x = 0 then frsM xs (o ++ [encM x]) else ([], chkM x)
theorem frames_l0 (l : List S25) (hok : ∀ x ∈ l, octetsOk x.f11 = true) (hm : ∀ x ∈ l, x.f11.length ≤ 140737488355328) (hl : l.length ≤ 1048576) : ∀ (d i : Nat) (o : List (List Int)), i + d = l.length → o.length ≤ i → (∀ p ∈ o, octetsOk p = true) →
    Ev (fun k => message_Frames.l0 k o l (l.length : Int) (i : Int)) (frsM (l.drop i) o) := by
  intro d
  induction d with
  | zero =>
    intro i o hi ho hoo
    rw [List.drop_of_length_le (by omega), frsM]
    obtain ⟨K, h⟩ := fput_f [] o hoo (by simp; omega)
    refine ⟨K + 1, fun k hk => ?_⟩
    obtain ⟨k, rfl⟩ : ∃ m, k = m + 1 := ⟨k - 1, by omega⟩
    have a1 := h k (by omega)
    dsimp only at a1
    show message_Frames.l0 (k + 1) o l _ _ = _
    rw [message_Frames.l0, if_neg (by omega), a1]
    rfl
  | succ d ih =>
    intro i o hi ho hoo
    have hlt : i < l.length := by omega
    have hx : l[i] ∈ l := List.getElem_mem hlt
    rw [List.drop_eq_getElem_cons hlt, frsM]
    obtain ⟨K, h⟩ := encode_f l[i] (hm _ hx)
    by_cases hc : chkM l[i] = 0
    · rw [if_pos hc] at h ⊢
      obtain ⟨K2, h2⟩ := ih (i + 1) (o ++ [encM l[i]]) (by omega) (by simp; omega) (fun p hp => by
        rcases List.mem_append.1 hp with hp | hp
        · exact hoo p hp
        · rw [show p = encM l[i] by simpa using hp]; exact encM_ok (hok _ hx))
      refine ⟨K + K2 + 1, fun k hk => ?_⟩
      obtain ⟨k, rfl⟩ : ∃ m, k = m + 1 := ⟨k - 1, by omega⟩
      have a1 := h k (by omega)
      have a2 := h2 k (by omega)
      dsimp only at a1 a2
      show message_Frames.l0 (k + 1) o l _ _ = _
      rw [message_Frames.l0, if_pos (by omega), if_pos (by omega), if_pos (by omega), rd_msg l i hlt, a1, Option.bind_some, if_pos rfl, if_pos (by omega), show wrap64 ((i : Int) + 1) = ((i + 1 : Nat) : Int) by unfold wrap64; omega]
      exact a2
    · rw [if_neg hc] at h ⊢
      refine ⟨K + 1, fun k hk => ?_⟩
      obtain ⟨k, rfl⟩ : ∃ m, k = m + 1 := ⟨k - 1, by omega⟩
      have a1 := h k (by omega)
      dsimp only at a1
      show message_Frames.l0 (k + 1) o l _ _ = _
      rw [message_Frames.l0, if_pos (by omega), if_pos (by omega), if_pos (by omega), rd_msg l i hlt, a1, Option.bind_some, if_neg hc]
theorem frames_f (l : List S25) (hok : ∀ x ∈ l, octetsOk x.f11 = true) (hm : ∀ x ∈ l, x.f11.length ≤ 140737488355328) (hl : l.length ≤ 1048576) : Ev (fun k => message_Frames.f k l) (frsM l []) := by
  have h := frames_l0 l hok hm hl l.length 0 [] (by omega) (by simp) (by simp)
  rw [List.drop_zero] at h
  exact h
theorem encM_chk {x : S25} (h : MayBe x) : checkP (encM x) = 0 := by
  obtain ⟨h1, h2⟩ := encM_len h
  unfold checkP
  rw [if_neg (by omega), if_neg (by omega)]
/-- Messages of payloads: the first that is none tells. -/
def msgsP : List (List Int) → List S25 → List S25 × Int
  | [], o => (o, 0)
  | p :: ps, o => if (decP p).1 = 0 then msgsP ps (o ++ [msgP (decP p)]) else ([], (decP p).1)
theorem rd_row (l : List (List Int)) (i : Nat) (h : i < l.length) : rd_L1 l (i : Int) = l[i] := by simp [rd_L1, List.getElem?_eq_getElem h]
theorem read_l0 (l : List (List Int)) (hok : ∀ p ∈ l, octetsOk p = true) (hm : ∀ p ∈ l, p.length < 140737488355328) (hl : l.length < 1256584717458) : ∀ (d i : Nat) (o : List S25), i + d = l.length → o.length ≤ i →
    Ev (fun k => message_Read.l0 k o l (l.length : Int) (i : Int)) (msgsP (l.drop i) o) := by
  intro d
  induction d with
  | zero =>
    intro i o hi ho
    rw [List.drop_of_length_le (by omega), msgsP]
    refine ⟨1, fun k hk => ?_⟩
    obtain ⟨k, rfl⟩ : ∃ m, k = m + 1 := ⟨k - 1, by omega⟩
    show message_Read.l0 (k + 1) o l _ _ = _
    rw [message_Read.l0, if_neg (by omega)]
  | succ d ih =>
    intro i o hi ho
    have hlt : i < l.length := by omega
    have hx : l[i] ∈ l := List.getElem_mem hlt
    rw [List.drop_eq_getElem_cons hlt, msgsP]
    obtain ⟨K, h⟩ := decode_f l[i] (hok _ hx) (hm _ hx)
    have e12 : (outP (decP l[i])).2.2.2.2.2.2.2.2.2.2.2.2 = (decP l[i]).1 := rfl
    by_cases hc : (decP l[i]).1 = 0
    · rw [if_pos hc]
      obtain ⟨K2, h2⟩ := ih (i + 1) (o ++ [msgP (decP l[i])]) (by omega) (by simp; omega)
      refine ⟨K + K2 + 1, fun k hk => ?_⟩
      obtain ⟨k, rfl⟩ : ∃ m, k = m + 1 := ⟨k - 1, by omega⟩
      have a1 := h k (by omega)
      have a2 := h2 k (by omega)
      dsimp only at a1 a2
      show message_Read.l0 (k + 1) o l _ _ = _
      rw [message_Read.l0, if_pos (by omega), if_pos (by omega), if_pos (by omega), rd_row l i hlt, a1, Option.bind_some, e12, if_pos hc, if_pos (by omega), show wrap64 ((i : Int) + 1) = ((i + 1 : Nat) : Int) by unfold wrap64; omega]
      exact a2
    · rw [if_neg hc]
      refine ⟨K + 1, fun k hk => ?_⟩
      obtain ⟨k, rfl⟩ : ∃ m, k = m + 1 := ⟨k - 1, by omega⟩
      have a1 := h k (by omega)
      dsimp only at a1
      show message_Read.l0 (k + 1) o l _ _ = _
      rw [message_Read.l0, if_pos (by omega), if_pos (by omega), if_pos (by omega), rd_row l i hlt, a1, Option.bind_some, e12, if_neg hc]
/-- What scanned octets tell as messages. -/
def readP (l : List Int) (s : List (List Int) × Int × Int) : List S25 × Int := if s.2.2 = 0 then (if s.2.1 < (l.length : Int) then ([], 8) else msgsP s.1 []) else ([], s.2.2)
theorem read_f (l : List Int) (s : List (List Int) × Int × Int) (hs : Ev (fun k => frame_Scan.f k l) s) (hok : ∀ p ∈ s.1, octetsOk p = true) (hm : ∀ p ∈ s.1, p.length < 140737488355328) (hl : s.1.length < 1256584717458) : Ev (fun k => message_Read.f k l) (readP l s) := by
  unfold message_Read.f readP
  refine Ev.bind hs ?_
  by_cases h0 : s.2.2 = 0
  case neg => rw [if_neg h0]; exact Ev.congr (fun k => if_neg h0) (Ev.now _)
  rw [if_pos h0]
  refine Ev.congr (fun k => if_pos h0) ?_
  by_cases h1 : s.2.1 < (l.length : Int)
  · rw [if_pos h1]; exact Ev.congr (fun k => if_pos h1) (Ev.now _)
  rw [if_neg h1]
  refine Ev.congr (fun k => if_neg h1) ?_
  have h := read_l0 s.1 hok hm hl s.1.length 0 [] (by omega) (by simp)
  rw [List.drop_zero] at h
  exact h
/-- Octets that are no whole frame tell none. -/
theorem scan_none (l : List Int) (hok : octetsOk l = true) (hl : l.length < 140737488340000) (h71 : (getF l).2.2 = 71) : Ev (fun k => frame_Scan.f k l) ([], 0, 0) := by
  have h := scan_frames l hok h71 [] [] [] (by simp) (by simp) (by simpa [flat] using hl) (by simp)
  have e : ([] ++ flat [] ++ l : List Int) = l := rfl
  rw [e] at h
  exact h
end Go.Proofs.Ytkddlhcpplkpbaa.V
end

section
set_option maxRecDepth 100000
set_option linter.unusedVariables false
set_option linter.unusedSimpArgs false
namespace Go.Proofs.Ytkddlhcpplkpbaa.Pure
open WB Go Go.RowKit Go.Proofs.Ytkddlhcpplkpbaa.G Go.Proofs.Ytkddlhcpplkpbaa.V Go.Proofs.YtkddlhcpplkpbaaW.PrintWords Go.Proofs.YtkddlhcpplkpbaaW.PrintLast Go.Proofs.YtkddlhcpplkpbaaW.PrintMore
theorem MessageCut (x : S25) (a1 a2 : Int) {w0 w1 w2 w3 w4 w5 w6 w7 w8 w9 w10 wa : Prop} (hx : w0 ∧ w1 ∧ w2 ∧ w3 ∧ w4 ∧ w5 ∧ w6 ∧ w7 ∧ w8 ∧ w9 ∧ w10 ∧ ∀ a ∈ x.f11, (Lit.int .u8 a).wf = true) (_ : wa) (hw2 : (Lit.int .u8 a2).wf = true) {q0 q1 q2 q3 q4 q5 q6 q7 q8 q9 q10 qx qa qb : Prop} (hsx : q0 ∧ q1 ∧ q2 ∧ q3 ∧ q4 ∧ q5 ∧ q6 ∧ q7 ∧ q8 ∧ q9 ∧ q10 ∧ x.f11.length * 1 ≤ reachBytes ∧ qx) (_ : qa) (_ : qb) : ∃ k, waybilllaw09_MessageCut.f k x.f0 x.f1 x.f2 x.f3 x.f4 x.f5 x.f6 x.f7 x.f8 x.f9 x.f10 x.f11 a1 a2 = some true := by
  have hokx := ok_of_wf hx.2.2.2.2.2.2.2.2.2.2.2
  have hlx : x.f11.length < 140737488355328 := by have := hsx.2.2.2.2.2.2.2.2.2.2.2.1; simp only [reachBytes] at this; omega
  have hok2 : octetsOk [a2] = true := ok_of_wf (l := [a2]) (fun y hy => by rw [show y = a2 by simpa using hy]; exact hw2)
  obtain ⟨K1, h1⟩ := alive_f
  obtain ⟨K2, h2⟩ := encode_f x (by omega)
  by_cases hc : chkM x = 0
  case neg =>
    rw [if_neg hc] at h2
    refine ⟨K1 + K2, ?_⟩
    have b1 := h1 (K1 + K2) (by omega)
    have b2 := h2 (K1 + K2) (by omega)
    dsimp only at b1 b2
    unfold waybilllaw09_MessageCut.f
    rw [b1, Option.bind_some, if_pos rfl, b2, Option.bind_some, if_neg hc]
    rfl
  rw [if_pos hc] at h2
  have hM := chk_ok hc
  obtain ⟨l1, l2⟩ := encM_len hM
  have hoe := encM_ok (x := x) hokx
  obtain ⟨n1, hn1⟩ : ∃ n, n = cutI a1 ((encM x).length : Int) := ⟨_, rfl⟩
  have r1 := cutI_in a1 ((encM x).length : Int) (by omega) (by omega)
  rw [← hn1] at r1
  obtain ⟨K3, h3⟩ := decode_f ((encM x).take n1.toNat) (octetsOk_take hoe _) (by simp; omega)
  rw [dec_cut hM n1.toNat (by omega)] at h3
  obtain ⟨K4, h4⟩ := decode_f (encM x ++ [a2]) (by rw [octetsOk_append, hoe, hok2]; rfl) (by simp; omega)
  rw [dec_enc hM [a2], if_neg (by simp)] at h4
  obtain ⟨K5, h5⟩ := frames_f [x] (by simpa using hokx) (by simp; omega) (by simp)
  have hcp := encM_chk hM
  have e5 : frsM [x] [] = (frm (encM x), 0) := by
    simp only [frsM, List.nil_append]
    rw [if_pos hc, put_one, if_pos hcp]
    rfl
  rw [e5] at h5
  have hfl := frm_len hcp
  have hfp : 0 < (frm (encM x)).length := by unfold frm; simp [sum4_len]
  obtain ⟨n2, hn2⟩ : ∃ n, n = cutI a1 ((frm (encM x)).length : Int) := ⟨_, rfl⟩
  have r2 := cutI_in a1 ((frm (encM x)).length : Int) (by omega) (by omega)
  rw [← hn2] at r2
  have hcut := getF_cut (encM x) hcp n2.toNat (by omega)
  have hsc := scan_none ((frm (encM x)).take n2.toNat) (octetsOk_take (frm_ok hoe) _) (by simp; omega) hcut
  obtain ⟨K6, h6⟩ := read_f _ _ hsc (by simp) (by simp) (by simp)
  obtain ⟨K, hK⟩ : ∃ K, K = K1 + K2 + K3 + K4 + K5 + K6 := ⟨_, rfl⟩
  have b1 := h1 K (by omega)
  have b2 := h2 K (by omega)
  have b3 := h3 K (by omega)
  have b4 := h4 K (by omega)
  have b5 := h5 K (by omega)
  have b6 := h6 K (by omega)
  dsimp only at b1 b2 b3 b4 b5 b6
  have hxs : (⟨x.f0, x.f1, x.f2, x.f3, x.f4, x.f5, x.f6, x.f7, x.f8, x.f9, x.f10, x.f11⟩ : S25) = x := rfl
  refine ⟨K, ?_⟩
  unfold waybilllaw09_MessageCut.f
  rw [b1, Option.bind_some, if_pos rfl, b2, Option.bind_some, if_pos rfl]
  dsimp only
  rw [if_neg (by omega), ← hn1, b3, Option.bind_some, copybytes_f _ (by omega), Option.bind_some, if_pos (by omega), b4, Option.bind_some, b5, Option.bind_some]
  dsimp only
  rw [if_neg (by omega), ← hn2, b6, Option.bind_some]
  have hlt : ((frm (encM x)).take n2.toNat).length = n2.toNat := by rw [List.length_take]; omega
  unfold readP
  dsimp only
  rw [if_pos rfl, hlt]
  by_cases h0 : n2 = 0
  · subst h0
    rfl
  · rw [if_pos (by omega)]
    unfold cutE outP
    dsimp only
    have e1 : (n2 == 0) = false := beq_eq_false_iff_ne.mpr h0
    have e2 : decide (n2 > 0) = true := decide_eq_true (by omega)
    rw [e1, e2]
    rfl
end Go.Proofs.Ytkddlhcpplkpbaa.Pure
end
