/- MessageBackUpto: texts of this claim, packed: what the kit's print has written for it and own texts, without what its proof does not reach. -/
import Derived.Test.YtkddlhcpplkpbaaKMessageBackUpto0
import Derived.Test.YtkddlhcpplkpbaaKMessageBackUpto2
import Derived.Test.YtkddlhcpplkpbaaKMessageBackUpto6
import Derived.Test.YtkddlhcpplkpbaaKMessageBackUpto9
import Derived.Test.YtkddlhcpplkpbaaKMessageBackUpto16
import Derived.Test.YtkddlhcpplkpbaaKMessageBackUpto17
import Derived.Test.YtkddlhcpplkpbaaKMessageBackUpto18
import Derived.Test.YtkddlhcpplkpbaaKMessageBackUpto23
import Derived.Test.YtkddlhcpplkpbaaKMessageBackUpto25
import Derived.Test.YtkddlhcpplkpbaaKMessageBackUpto28
import Derived.Test.YtkddlhcpplkpbaaKMessageBackUpto29
import Derived.Test.YtkddlhcpplkpbaaKMessageBackUpto30
import Derived.Test.YtkddlhcpplkpbaaKMessageBackUpto31
import Derived.Test.YtkddlhcpplkpbaaKMessageBackUpto32
import Derived.Test.YtkddlhcpplkpbaaKMessageBackUpto33
import Derived.Test.YtkddlhcpplkpbaaKMessageBackUpto34
import Derived.Test.YtkddlhcpplkpbaaKMessageBackUpto35
set_option linter.unusedVariables false
set_option linter.unusedSimpArgs false
set_option linter.unusedSectionVars false
section
set_option linter.unusedVariables false
set_option linter.unusedSimpArgs false
namespace Go.Proofs.Ytkddlhcpplkpbaa.V
open WB Go Go.RowKit Go.Proofs.Ytkddlhcpplkpbaa.G Go.Proofs.YtkddlhcpplkpbaaW.PrintWords Go.Proofs.YtkddlhcpplkpbaaW.PrintLast Go.Proofs.YtkddlhcpplkpbaaW.PrintMore
def flat : List (List Int) → List Int
  | [] => []
  | p :: l => frm p ++ flat l
theorem flat_app (a b : List (List Int)) : flat (a ++ b) = flat a ++ flat b := by
  induction a with
  | nil => rfl
  | cons p l ih => show frm p ++ flat (l ++ b) = (frm p ++ flat l) ++ flat b; rw [ih, List.append_assoc]
theorem flat_len (l : List (List Int)) (h : ∀ p ∈ l, checkP p = 0) : (flat l).length ≤ 4110 * l.length := by
  induction l with
  | nil => exact Nat.le_refl _
  | cons p l ih =>
    have h1 := frm_len (h p (by simp))
    have h2 := ih fun x hx => h x (by simp [hx])
    show (frm p ++ flat l).length ≤ _
    rw [List.length_append, List.length_cons]
    omega
theorem flat_ok (l : List (List Int)) (h : ∀ p ∈ l, octetsOk p = true) : octetsOk (flat l) = true := by
  induction l with
  | nil => rfl
  | cons p l ih =>
    show octetsOk (frm p ++ flat l) = true
    rw [octetsOk_append, frm_ok (h p (by simp)), ih fun x hx => h x (by simp [hx])]
    rfl
theorem scan_frames (rest : List Int) (hr : octetsOk rest = true) (h71 : (getF rest).2.2 = 71) : ∀ (ps : List (List Int)) (pre : List Int) (x5 : List (List Int)), (∀ p ∈ ps, octetsOk p = true) → (∀ p ∈ ps, checkP p = 0) → (pre ++ flat ps ++ rest).length < 140737488340000 → x5.length + ps.length < 5864062014805 →
    Ev (fun k => frame_Scan.l0 k (pre ++ flat ps ++ rest) x5 (pre.length : Int)) (x5 ++ ps, ((pre ++ flat ps).length : Int), 0) := by
  intro ps
  induction ps with
  | nil =>
    intro pre x5 _ _ hl _
    have hd : (pre ++ flat [] ++ rest).drop pre.length = rest := by
      show (pre ++ [] ++ rest).drop _ = _
      rw [List.append_nil, List.drop_left]
    have hlen : pre.length + rest.length = (pre ++ flat [] ++ rest).length := by
      show _ = (pre ++ [] ++ rest).length
      rw [List.append_nil, List.length_append]
    obtain ⟨K, h⟩ := fget_f rest hr (by omega)
    refine ⟨K + 1, fun k hk => ?_⟩
    obtain ⟨k, rfl⟩ : ∃ m, k = m + 1 := ⟨k - 1, by omega⟩
    have a1 := h k (by omega)
    dsimp only at a1
    show frame_Scan.l0 (k + 1) (pre ++ flat [] ++ rest) x5 _ = _
    rw [frame_Scan.l0, if_pos (by omega), if_pos (by omega), Int.toNat_natCast, hd, a1, Option.bind_some, if_pos h71]
    show some (x5, _, _) = some (x5 ++ [], ((pre ++ []).length : Int), _)
    rw [List.append_nil, List.append_nil]
  | cons p ps ih =>
    intro pre x5 hok hc hl hx
    have hcp := hc p (by simp)
    have hop := hok p (by simp)
    have he : pre ++ flat (p :: ps) ++ rest = (pre ++ frm p) ++ flat ps ++ rest := by
      show pre ++ (frm p ++ flat ps) ++ rest = _
      simp only [List.append_assoc]
    have he2 : pre ++ flat (p :: ps) = (pre ++ frm p) ++ flat ps := by
      show pre ++ (frm p ++ flat ps) = _
      simp only [List.append_assoc]
    have hlen : (pre ++ frm p ++ flat ps ++ rest).length = pre.length + (frm p).length + (flat ps).length + rest.length := by
      simp only [List.length_append]
    rw [he] at hl ⊢
    rw [he2]
    have hd : (pre ++ frm p ++ flat ps ++ rest).drop pre.length = frm p ++ (flat ps ++ rest) := by
      simp only [List.append_assoc]
      rw [List.drop_left]
    have hos : octetsOk (frm p ++ (flat ps ++ rest)) = true := by
      rw [octetsOk_append, octetsOk_append, frm_ok hop, flat_ok ps fun x hx => hok x (by simp [hx]), hr]
      rfl
    obtain ⟨K1, h1⟩ := fget_f (frm p ++ (flat ps ++ rest)) hos (by rw [List.length_append, List.length_append]; omega)
    rw [get_frm p _ hcp] at h1
    rw [List.length_cons] at hx
    obtain ⟨K2, h2⟩ := ih (pre ++ frm p) (x5 ++ [p]) (fun x hx => hok x (by simp [hx])) (fun x hx => hc x (by simp [hx])) hl (by rw [List.length_append, List.length_singleton]; omega)
    have hw : wrap64 ((pre.length : Int) + ((frm p).length : Int)) = ((pre ++ frm p).length : Int) := by rw [List.length_append]; unfold wrap64; omega
    refine ⟨K1 + K2 + 1, fun k hk => ?_⟩
    obtain ⟨k, rfl⟩ : ∃ m, k = m + 1 := ⟨k - 1, by omega⟩
    have a1 := h1 k (by omega)
    have a2 := h2 k (by omega)
    dsimp only at a1 a2
    show frame_Scan.l0 (k + 1) (pre ++ frm p ++ flat ps ++ rest) x5 _ = _
    rw [frame_Scan.l0, if_pos (by omega), if_pos (by omega), Int.toNat_natCast, hd, a1, Option.bind_some, if_neg (show ¬((0 : Int) = 71) by decide), if_pos rfl, if_pos (by omega), hw, a2, List.append_assoc]
    rfl
theorem get_nil : (getF []).2.2 = 71 := rfl
end Go.Proofs.Ytkddlhcpplkpbaa.V
end

section
set_option maxRecDepth 100000
set_option linter.unusedVariables false
set_option linter.unusedSimpArgs false
namespace Go.Proofs.Ytkddlhcpplkpbaa.V
open WB Go Go.RowKit Go.Proofs.Ytkddlhcpplkpbaa.G Go.Proofs.YtkddlhcpplkpbaaW.PrintWords Go.Proofs.YtkddlhcpplkpbaaW.PrintLast Go.Proofs.YtkddlhcpplkpbaaW.PrintMore
theorem rd_msg (l : List S25) (i : Nat) (h : i < l.length) : rd_T25 l (i : Int) = l[i] := by simp [rd_T25, List.getElem?_eq_getElem h]
/-- Frames of messages: the first that may not be tells. -/
def frsM : List S25 → List (List Int) → List Int × Int
  | [], o => putF [] o
  | x :: xs, o => if chkM x = 0 then frsM xs (o ++ [encM x]) else ([], chkM x)
theorem frames_l0 (l : List S25) (hok : ∀ x ∈ l, octetsOk x.f11 = true) (hm : ∀ x ∈ l, x.f11.length ≤ 140737488355328) (hl : l.length ≤ 1048576) : ∀ (d i : Nat) (o : List (List Int)), i + d = l.length → o.length ≤ i → (∀ p ∈ o, octetsOk p = true) →
    Ev (fun k => message_Frames.l0 k o l (l.length : Int) (i : Int)) (frsM (l.drop i) o) := by
  intro d
  induction d with
  | zero =>
    intro i o hi ho hoo
    rw [List.drop_of_length_le (by omega), frsM]
    obtain ⟨K, h⟩ := fput_f [] o hoo (by simp; omega)
    refine ⟨K + 1, fun k hk => ?_⟩
    obtain ⟨k, rfl⟩ : ∃ m, k = m + 1 := ⟨k - 1, by omega⟩
    have a1 := h k (by omega)
    dsimp only at a1
    show message_Frames.l0 (k + 1) o l _ _ = _
    rw [message_Frames.l0, if_neg (by omega), a1]
    rfl
  | succ d ih =>
    intro i o hi ho hoo
    have hlt : i < l.length := by omega
    have hx : l[i] ∈ l := List.getElem_mem hlt
    rw [List.drop_eq_getElem_cons hlt, frsM]
    obtain ⟨K, h⟩ := encode_f l[i] (hm _ hx)
    by_cases hc : chkM l[i] = 0
    · rw [if_pos hc] at h ⊢
      obtain ⟨K2, h2⟩ := ih (i + 1) (o ++ [encM l[i]]) (by omega) (by simp; omega) (fun p hp => by
        rcases List.mem_append.1 hp with hp | hp
        · exact hoo p hp
        · rw [show p = encM l[i] by simpa using hp]; exact encM_ok (hok _ hx))
      refine ⟨K + K2 + 1, fun k hk => ?_⟩
      obtain ⟨k, rfl⟩ : ∃ m, k = m + 1 := ⟨k - 1, by omega⟩
      have a1 := h k (by omega)
      have a2 := h2 k (by omega)
      dsimp only at a1 a2
      show message_Frames.l0 (k + 1) o l _ _ = _
      rw [message_Frames.l0, if_pos (by omega), if_pos (by omega), if_pos (by omega), rd_msg l i hlt, a1, Option.bind_some, if_pos rfl, if_pos (by omega), show wrap64 ((i : Int) + 1) = ((i + 1 : Nat) : Int) by unfold wrap64; omega]
      exact a2
    · rw [if_neg hc] at h ⊢
      refine ⟨K + 1, fun k hk => ?_⟩
      obtain ⟨k, rfl⟩ : ∃ m, k = m + 1 := ⟨k - 1, by omega⟩
      have a1 := h k (by omega)
      dsimp only at a1
      show message_Frames.l0 (k + 1) o l _ _ = _
      rw [message_Frames.l0, if_pos (by omega), if_pos (by omega), if_pos (by omega), rd_msg l i hlt, a1, Option.bind_some, if_neg hc]
theorem frames_f (l : List S25) (hok : ∀ x ∈ l, octetsOk x.f11 = true) (hm : ∀ x ∈ l, x.f11.length ≤ 140737488355328) (hl : l.length ≤ 1048576) : Ev (fun k => message_Frames.f k l) (frsM l []) := by
  have h := frames_l0 l hok hm hl l.length 0 [] (by omega) (by simp) (by simp)
  rw [List.drop_zero] at h
  exact h
theorem encM_chk {x : S25} (h : MayBe x) : checkP (encM x) = 0 := by
  obtain ⟨h1, h2⟩ := encM_len h
  unfold checkP
  rw [if_neg (by omega), if_neg (by omega)]
/-- Messages of payloads: the first that is none tells. -/
def msgsP : List (List Int) → List S25 → List S25 × Int
  | [], o => (o, 0)
  | p :: ps, o => if (decP p).1 = 0 then msgsP ps (o ++ [msgP (decP p)]) else ([], (decP p).1)
theorem rd_row (l : List (List Int)) (i : Nat) (h : i < l.length) : rd_L1 l (i : Int) = l[i] := by simp [rd_L1, List.getElem?_eq_getElem h]
theorem read_l0 (l : List (List Int)) (hok : ∀ p ∈ l, octetsOk p = true) (hm : ∀ p ∈ l, p.length < 140737488355328) (hl : l.length < 1256584717458) : ∀ (d i : Nat) (o : List S25), i + d = l.length → o.length ≤ i →
    Ev (fun k => message_Read.l0 k o l (l.length : Int) (i : Int)) (msgsP (l.drop i) o) := by
  intro d
  induction d with
  | zero =>
    intro i o hi ho
    rw [List.drop_of_length_le (by omega), msgsP]
    refine ⟨1, fun k hk => ?_⟩
    obtain ⟨k, rfl⟩ : ∃ m, k = m + 1 := ⟨k - 1, by omega⟩
    show message_Read.l0 (k + 1) o l _ _ = _
    rw [message_Read.l0, if_neg (by omega)]
  | succ d ih =>
    intro i o hi ho
    have hlt : i < l.length := by omega
    have hx : l[i] ∈ l := List.getElem_mem hlt
    rw [List.drop_eq_getElem_cons hlt, msgsP]
    obtain ⟨K, h⟩ := decode_f l[i] (hok _ hx) (hm _ hx)
    have e12 : (outP (decP l[i])).2.2.2.2.2.2.2.2.2.2.2.2 = (decP l[i]).1 := rfl
    by_cases hc : (decP l[i]).1 = 0
    · rw [if_pos hc]
      obtain ⟨K2, h2⟩ := ih (i + 1) (o ++ [msgP (decP l[i])]) (by omega) (by simp; omega)
      refine ⟨K + K2 + 1, fun k hk => ?_⟩
      obtain ⟨k, rfl⟩ : ∃ m, k = m + 1 := ⟨k - 1, by omega⟩
      have a1 := h k (by omega)
      have a2 := h2 k (by omega)
      dsimp only at a1 a2
      show message_Read.l0 (k + 1) o l _ _ = _
      rw [message_Read.l0, if_pos (by omega), if_pos (by omega), if_pos (by omega), rd_row l i hlt, a1, Option.bind_some, e12, if_pos hc, if_pos (by omega), show wrap64 ((i : Int) + 1) = ((i + 1 : Nat) : Int) by unfold wrap64; omega]
      exact a2
    · rw [if_neg hc]
      refine ⟨K + 1, fun k hk => ?_⟩
      obtain ⟨k, rfl⟩ : ∃ m, k = m + 1 := ⟨k - 1, by omega⟩
      have a1 := h k (by omega)
      dsimp only at a1
      show message_Read.l0 (k + 1) o l _ _ = _
      rw [message_Read.l0, if_pos (by omega), if_pos (by omega), if_pos (by omega), rd_row l i hlt, a1, Option.bind_some, e12, if_neg hc]
/-- What scanned octets tell as messages. -/
def readP (l : List Int) (s : List (List Int) × Int × Int) : List S25 × Int := if s.2.2 = 0 then (if s.2.1 < (l.length : Int) then ([], 8) else msgsP s.1 []) else ([], s.2.2)
theorem read_f (l : List Int) (s : List (List Int) × Int × Int) (hs : Ev (fun k => frame_Scan.f k l) s) (hok : ∀ p ∈ s.1, octetsOk p = true) (hm : ∀ p ∈ s.1, p.length < 140737488355328) (hl : s.1.length < 1256584717458) : Ev (fun k => message_Read.f k l) (readP l s) := by
  unfold message_Read.f readP
  refine Ev.bind hs ?_
  by_cases h0 : s.2.2 = 0
  case neg => rw [if_neg h0]; exact Ev.congr (fun k => if_neg h0) (Ev.now _)
  rw [if_pos h0]
  refine Ev.congr (fun k => if_pos h0) ?_
  by_cases h1 : s.2.1 < (l.length : Int)
  · rw [if_pos h1]; exact Ev.congr (fun k => if_pos h1) (Ev.now _)
  rw [if_neg h1]
  refine Ev.congr (fun k => if_neg h1) ?_
  have h := read_l0 s.1 hok hm hl s.1.length 0 [] (by omega) (by simp)
  rw [List.drop_zero] at h
  exact h
end Go.Proofs.Ytkddlhcpplkpbaa.V
end

section
set_option maxRecDepth 100000
set_option linter.unusedVariables false
set_option linter.unusedSimpArgs false
namespace Go.Proofs.Ytkddlhcpplkpbaa.V
open WB Go Go.RowKit Go.Proofs.Ytkddlhcpplkpbaa.G Go.Proofs.YtkddlhcpplkpbaaW.PrintWords Go.Proofs.YtkddlhcpplkpbaaW.PrintLast Go.Proofs.YtkddlhcpplkpbaaW.PrintMore
/-- Frames of messages, one behind the other. -/
def frM2 : List S25 → List Int → List Int × Int
  | [], o => (o, 0)
  | x :: xs, o => if chkM x = 0 then frM2 xs (o ++ frm (encM x)) else ([], chkM x)
theorem putF_flat : ∀ (o : List (List Int)) (b : List Int), (∀ p ∈ o, checkP p = 0) → putF b o = (b ++ flat o, 0)
  | [], b, _ => by simp [putF, flat]
  | p :: o, b, h => by
    rw [putF, if_pos (h p List.mem_cons_self), putF_flat o _ (fun q hq => h q (List.mem_cons_of_mem _ hq))]
    show (b ++ frm p ++ flat o, (0 : Int)) = (b ++ (frm p ++ flat o), 0)
    rw [List.append_assoc]
theorem flat_one (p : List Int) : flat [p] = frm p := by
  show frm p ++ flat [] = frm p
  exact List.append_nil _
theorem frs_fr : ∀ (xs : List S25) (o : List (List Int)), (∀ p ∈ o, checkP p = 0) → frsM xs o = frM2 xs (flat o)
  | [], o, h => by rw [frsM, frM2, putF_flat o [] h, List.nil_append]
  | x :: xs, o, h => by
    rw [frsM, frM2]
    by_cases hc : chkM x = 0
    · rw [if_pos hc, if_pos hc, frs_fr xs _ (fun p hp => by
        rcases List.mem_append.1 hp with hp | hp
        · exact h p hp
        · rw [show p = encM x by simpa using hp]; exact encM_chk (chk_ok hc)), flat_app, flat_one]
    · rw [if_neg hc, if_neg hc]
theorem samemsgs_l0 (l : List S25) (hm : l.length ≤ 140737488355328) : ∀ (d i : Nat), i + d = l.length → Ev (fun k => waybillplain_SameMsgs.l0 k l l (i : Int)) true := by
  intro d
  induction d with
  | zero =>
    intro i hi
    refine ⟨1, fun k hk => ?_⟩
    obtain ⟨k, rfl⟩ : ∃ m, k = m + 1 := ⟨k - 1, by omega⟩
    show waybillplain_SameMsgs.l0 (k + 1) l l _ = _
    rw [waybillplain_SameMsgs.l0, if_neg (by omega)]
  | succ d ih =>
    intro i hi
    have hlt : i < l.length := by omega
    refine Ev.step (fun k => ?_) (ih (i + 1) (by omega))
    show waybillplain_SameMsgs.l0 (k + 1) l l _ = _
    rw [waybillplain_SameMsgs.l0, if_pos (by omega), if_pos (by omega), if_pos (by omega), rd_msg l i hlt, plainsame_self, Option.bind_some, if_pos rfl, show wrap64 ((i : Int) + 1) = ((i + 1 : Nat) : Int) by unfold wrap64; omega]
theorem samemsgs_self (l : List S25) (hm : l.length ≤ 140737488355328) : Ev (fun k => waybillplain_SameMsgs.f k l l) true := by
  have h := samemsgs_l0 l hm l.length 0 (by omega)
  exact Ev.congr (fun k => if_pos rfl) h
theorem msgP_of (x : S25) : msgP (0, nums x, x.f11) = x := rfl
theorem msgsP_enc : ∀ (l o : List S25), (∀ x ∈ l, chkM x = 0) → msgsP (l.map encM) o = (o ++ l, 0)
  | [], o, _ => by simp [msgsP]
  | x :: l, o, h => by
    have hd := dec_enc (chk_ok (h x List.mem_cons_self)) []
    rw [List.append_nil, if_pos rfl] at hd
    rw [List.map_cons, msgsP, hd, if_pos rfl, msgP_of, msgsP_enc l _ (fun y hy => h y (List.mem_cons_of_mem _ hy)), List.append_assoc]
    rfl
end Go.Proofs.Ytkddlhcpplkpbaa.V
end

section
set_option maxRecDepth 100000
set_option linter.unusedVariables false
set_option linter.unusedSimpArgs false
namespace Go.Proofs.Ytkddlhcpplkpbaa.Pure
open WB Go Go.RowKit Go.Proofs.Ytkddlhcpplkpbaa.G Go.Proofs.Ytkddlhcpplkpbaa.V Go.Proofs.YtkddlhcpplkpbaaW.PrintWords Go.Proofs.YtkddlhcpplkpbaaW.PrintLast Go.Proofs.YtkddlhcpplkpbaaW.PrintMore
theorem frM2_ok : ∀ (l : List S25) (o : List Int), (∀ x ∈ l, chkM x = 0) → frM2 l o = (o ++ flat (l.map encM), 0)
  | [], o, _ => by
    show (o, (0 : Int)) = (o ++ [], 0)
    rw [List.append_nil]
  | x :: l, o, h => by
    rw [frM2, if_pos (h x List.mem_cons_self), frM2_ok l _ (fun y hy => h y (List.mem_cons_of_mem _ hy))]
    show (o ++ frm (encM x) ++ flat (l.map encM), (0 : Int)) = (o ++ (frm (encM x) ++ flat (l.map encM)), 0)
    rw [List.append_assoc]
theorem back_l0 (l : List S25) (hok : ∀ x ∈ l, octetsOk x.f11 = true) (hm : ∀ x ∈ l, x.f11.length < 140737488355328) (hl : l.length ≤ 1048576) : ∀ (d i : Nat), i + d = l.length → (∀ x ∈ l.take i, chkM x = 0) → Ev (fun k => waybilllaw09_MessageBack.l0 k l (i : Int)) true := by
  intro d
  induction d with
  | zero =>
    intro i hi hc
    have hc : ∀ x ∈ l, chkM x = 0 := by rwa [List.take_of_length_le (by omega)] at hc
    obtain ⟨K1, h1⟩ := frames_f l hok (fun x hx => Nat.le_of_lt (hm x hx)) hl
    have ef : frsM l [] = (flat (l.map encM), 0) := by
      rw [frs_fr l [] (by simp)]
      show frM2 l [] = _
      rw [frM2_ok l [] hc, List.nil_append]
    rw [ef] at h1
    have hcp : ∀ p ∈ l.map encM, checkP p = 0 := fun p hp => by
      obtain ⟨x, hx, rfl⟩ := List.mem_map.1 hp
      exact encM_chk (chk_ok (hc x hx))
    have hop : ∀ p ∈ l.map encM, octetsOk p = true := fun p hp => by
      obtain ⟨x, hx, rfl⟩ := List.mem_map.1 hp
      exact encM_ok (hok x hx)
    have hfl := flat_len (l.map encM) hcp
    rw [List.length_map] at hfl
    have hs := scan_frames [] rfl get_nil (l.map encM) [] [] hop hcp (by simp; omega) (by simp; omega)
    have hs' : Ev (fun k => frame_Scan.f k (flat (l.map encM))) (l.map encM, ((flat (l.map encM)).length : Int), 0) := by
      have e : ([] ++ flat (l.map encM) ++ [] : List Int) = flat (l.map encM) := by simp
      rw [e] at hs
      exact hs
    obtain ⟨K2, h2⟩ := read_f _ _ hs' hop (fun p hp => by
      obtain ⟨x, hx, rfl⟩ := List.mem_map.1 hp
      have := (encM_len (chk_ok (hc x hx))).1
      omega) (by rw [List.length_map]; omega)
    have er : readP (flat (l.map encM)) (l.map encM, ((flat (l.map encM)).length : Int), 0) = (l, 0) := by
      unfold readP
      dsimp only
      rw [if_pos rfl, if_neg (by omega), msgsP_enc l [] hc, List.nil_append]
    rw [er] at h2
    obtain ⟨K3, h3⟩ := samemsgs_self l (by omega)
    refine ⟨K1 + K2 + K3 + 1, fun k hk => ?_⟩
    obtain ⟨k, rfl⟩ : ∃ m, k = m + 1 := ⟨k - 1, by omega⟩
    have a1 := h1 k (by omega)
    have a2 := h2 k (by omega)
    have a3 := h3 k (by omega)
    dsimp only at a1 a2 a3
    show waybilllaw09_MessageBack.l0 (k + 1) l _ = _
    rw [waybilllaw09_MessageBack.l0, if_neg (by omega), a1, Option.bind_some, a2, Option.bind_some, num_f, Option.bind_some, Option.bind_some]
    dsimp only
    rw [if_pos (by decide +kernel), a3]
    rfl
  | succ d ih =>
    intro i hi hc
    have hlt : i < l.length := by omega
    have hx : l[i] ∈ l := List.getElem_mem hlt
    obtain ⟨x, hxe⟩ : ∃ x, x = l[i] := ⟨_, rfl⟩
    rw [← hxe] at hx
    obtain ⟨K1, h1⟩ := encode_f x (Nat.le_of_lt (hm x hx))
    by_cases h0 : chkM x = 0
    · rw [if_pos h0] at h1
      have hM := chk_ok h0
      obtain ⟨K2, h2⟩ := decode_f (encM x) (encM_ok (hok x hx)) (by have := (encM_len hM).1; omega)
      have hd := dec_enc hM []
      rw [List.append_nil, if_pos rfl] at hd
      rw [hd] at h2
      obtain ⟨K3, h3⟩ := ih (i + 1) (by omega) (fun y hy => by
        rw [List.take_succ_eq_append_getElem hlt, ← hxe] at hy
        rcases List.mem_append.1 hy with hy | hy
        · exact hc y hy
        · rw [show y = x by simpa using hy]; exact h0)
      refine ⟨K1 + K2 + K3 + 1, fun k hk => ?_⟩
      obtain ⟨k, rfl⟩ : ∃ m, k = m + 1 := ⟨k - 1, by omega⟩
      have a1 := h1 k (by omega)
      have a2 := h2 k (by omega)
      have a3 := h3 k (by omega)
      dsimp only at a1 a2 a3
      have a4 := plainsame_self x
      have a5 : waybillplain_SameMsg.f (outP (0, V.nums x, x.f11)).1 (outP (0, V.nums x, x.f11)).2.1 (outP (0, V.nums x, x.f11)).2.2.1 (outP (0, V.nums x, x.f11)).2.2.2.1 (outP (0, V.nums x, x.f11)).2.2.2.2.1 (outP (0, V.nums x, x.f11)).2.2.2.2.2.1 (outP (0, V.nums x, x.f11)).2.2.2.2.2.2.1 (outP (0, V.nums x, x.f11)).2.2.2.2.2.2.2.1 (outP (0, V.nums x, x.f11)).2.2.2.2.2.2.2.2.1 (outP (0, V.nums x, x.f11)).2.2.2.2.2.2.2.2.2.1 (outP (0, V.nums x, x.f11)).2.2.2.2.2.2.2.2.2.2.1 (outP (0, V.nums x, x.f11)).2.2.2.2.2.2.2.2.2.2.2.1 x.f0 x.f1 x.f2 x.f3 x.f4 x.f5 x.f6 x.f7 x.f8 x.f9 x.f10 x.f11 = some true := a4
      show waybilllaw09_MessageBack.l0 (k + 1) l _ = _
      rw [waybilllaw09_MessageBack.l0, if_pos (by omega), if_pos (by omega), rd_msg l i hlt, ← hxe, a1, Option.bind_some, num_f, Option.bind_some, if_pos rfl, a2, Option.bind_some, num_f, Option.bind_some, show (outP (0, V.nums x, x.f11)).2.2.2.2.2.2.2.2.2.2.2.2 = (0 : Int) from rfl, if_pos rfl, a5, Option.bind_some, if_pos rfl, show wrap64 ((i : Int) + 1) = ((i + 1 : Nat) : Int) by unfold wrap64; omega]
      exact a3
    · rw [if_neg h0] at h1
      refine ⟨K1 + 1, fun k hk => ?_⟩
      obtain ⟨k, rfl⟩ : ∃ m, k = m + 1 := ⟨k - 1, by omega⟩
      have a1 := h1 k (by omega)
      dsimp only at a1
      show waybilllaw09_MessageBack.l0 (k + 1) l _ = _
      rw [waybilllaw09_MessageBack.l0, if_pos (by omega), if_pos (by omega), rd_msg l i hlt, ← hxe, a1, Option.bind_some, num_f, Option.bind_some, if_neg h0]
      rfl
theorem MessageBack (l : List S25) {w0 w1 w2 w3 w4 w5 w6 w7 w8 w9 w10 : S25 → Prop} (hw : ∀ x ∈ l, w0 x ∧ w1 x ∧ w2 x ∧ w3 x ∧ w4 x ∧ w5 x ∧ w6 x ∧ w7 x ∧ w8 x ∧ w9 x ∧ w10 x ∧ ∀ a ∈ x.f11, (Lit.int .u8 a).wf = true) {q0 q1 q2 q3 q4 q5 q6 q7 q8 q9 q10 qx : S25 → Prop} {n : Nat} (hs : l.length * n ≤ reachBytes ∧ ∀ x ∈ l, q0 x ∧ q1 x ∧ q2 x ∧ q3 x ∧ q4 x ∧ q5 x ∧ q6 x ∧ q7 x ∧ q8 x ∧ q9 x ∧ q10 x ∧ x.f11.length * 1 ≤ reachBytes ∧ qx x) {bk : S25 → Nat} (hbk : lsum (fun x => bk x + 1) l + 1 + 0 ≤ 1048576) : ∃ k, waybilllaw09_MessageBack.f k l = some true := by
  have hok : ∀ x ∈ l, octetsOk x.f11 = true := fun x hx => ok_of_wf (hw x hx).2.2.2.2.2.2.2.2.2.2.2
  have hm : ∀ x ∈ l, x.f11.length < 140737488355328 := fun x hx => by have := (hs.2 x hx).2.2.2.2.2.2.2.2.2.2.2.1; simp only [reachBytes] at this; omega
  have hl : l.length ≤ 1048576 := by
    have := lsum_len (bk := fun x => bk x + 1) l (fun a _ => by omega)
    omega
  obtain ⟨K1, h1⟩ := alive_f
  obtain ⟨K2, h2⟩ := back_l0 l hok hm hl l.length 0 (by omega) (by simp)
  have b1 := h1 (K1 + K2) (by omega)
  have b2 := h2 (K1 + K2) (by omega)
  dsimp only at b1 b2
  refine ⟨K1 + K2, ?_⟩
  unfold waybilllaw09_MessageBack.f
  rw [b1, Option.bind_some, if_pos rfl]
  exact b2
end Go.Proofs.Ytkddlhcpplkpbaa.Pure
end
