/- MessageTellsUpto: texts of this claim, packed: what the kit's print has written for it and own texts, without what its proof does not reach. -/
import Derived.Test.YtkddlhcpplkpbaaKMessageTellsUpto0
import Derived.Test.YtkddlhcpplkpbaaKMessageTellsUpto2
import Derived.Test.YtkddlhcpplkpbaaKMessageTellsUpto6
import Derived.Test.YtkddlhcpplkpbaaKMessageTellsUpto9
import Derived.Test.YtkddlhcpplkpbaaKMessageTellsUpto29
import Derived.Test.YtkddlhcpplkpbaaKMessageTellsUpto30
import Derived.Test.YtkddlhcpplkpbaaKMessageTellsUpto31
import Derived.Test.YtkddlhcpplkpbaaKMessageTellsUpto32
import Derived.Test.YtkddlhcpplkpbaaKMessageTellsUpto33
import Derived.Test.YtkddlhcpplkpbaaKMessageTellsUpto34
import Derived.Test.YtkddlhcpplkpbaaKMessageTellsUpto36
import Derived.Test.YtkddlhcpplkpbaaKMessageTellsUpto37
import Derived.Test.YtkddlhcpplkpbaaKMessageTellsUpto38
import Derived.Test.YtkddlhcpplkpbaaKMessageTellsUpto39
import Derived.Test.YtkddlhcpplkpbaaKMessageTellsUpto40
import Derived.Test.YtkddlhcpplkpbaaKMessageTellsUpto41
import Derived.Test.YtkddlhcpplkpbaaKMessageTellsUpto42
import Derived.Test.YtkddlhcpplkpbaaKMessageTellsUpto43
set_option linter.unusedVariables false
set_option linter.unusedSimpArgs false
set_option linter.unusedSectionVars false
section
set_option maxRecDepth 100000
namespace Go.Proofs.Ytkddlhcpplkpbaa.V
open WB Go Go.RowKit Go.Proofs.Ytkddlhcpplkpbaa.G Go.Proofs.YtkddlhcpplkpbaaW.PrintWords Go.Proofs.YtkddlhcpplkpbaaW.PrintLast Go.Proofs.YtkddlhcpplkpbaaW.PrintMore
theorem rd_msg (l : List S25) (i : Nat) (h : i < l.length) : rd_T25 l (i : Int) = l[i] := by simp [rd_T25, List.getElem?_eq_getElem h]
/-- Frames of messages: the first that may not be tells. -/
def frsM : List S25 → List (List Int) → List Int × Int
 | [], o => putF [] o
 | x :: xs, o => if chkM x = 0 then frsM xs (o ++ [encM x]) else ([], chkM x)
theorem frames_l0 (l : List S25) (hok : ∀ x ∈ l, octetsOk x.f11 = true) (hm : ∀ x ∈ l, x.f11.length ≤ 140737488355328) (hl : l.length ≤ 1048576) : ∀ (d i : Nat) (o : List (List Int)), i + d = l.length → o.length ≤ i → (∀ p ∈ o, octetsOk p = true) →
  Ev (fun k => message_Frames.l0 k o l (l.length : Int) (i : Int)) (frsM (l.drop i) o) := by
 intro d
 induction d with
 | zero =>
  intro i o hi ho hoo
  rw [List.drop_of_length_le (by omega), frsM]
  obtain ⟨K, h⟩ := fput_f [] o hoo (by simp; omega)
  refine ⟨K + 1, fun k hk => ?_⟩
  obtain ⟨k, rfl⟩ : ∃ m, k = m + 1 := ⟨k - 1, by omega⟩
  have a1 := h k (by omega)
  dsimp only at a1
  show message_Frames.l0 (k + 1) o l _ _ = _
  rw [message_Frames.l0, if_neg (by omega), a1]
  rfl
 | succ d ih =>
  intro i o hi ho hoo
  have hlt : i < l.length := by omega
  have hx : l[i] ∈ l := List.getElem_mem hlt
  rw [List.drop_eq_getElem_cons hlt, frsM]
  obtain ⟨K, h⟩ := encode_f l[i] (hm _ hx)
  by_cases hc : chkM l[i] = 0
  · rw [if_pos hc] at h ⊢
    obtain ⟨K2, h2⟩ := ih (i + 1) (o ++ [encM l[i]]) (by omega) (by simp; omega) (fun p hp => by
     rcases List.mem_append.1 hp with hp | hp
     · exact hoo p hp
     · rw [show p = encM l[i] by simpa using hp]; exact encM_ok (hok _ hx))
    refine ⟨K + K2 + 1, fun k hk => ?_⟩
    obtain ⟨k, rfl⟩ : ∃ m, k = m + 1 := ⟨k - 1, by omega⟩
    have a1 := h k (by omega)
    have a2 := h2 k (by omega)
    dsimp only at a1 a2
    show message_Frames.l0 (k + 1) o l _ _ = _
    rw [message_Frames.l0, if_pos (by omega), if_pos (by omega), if_pos (by omega), rd_msg l i hlt, a1, Option.bind_some, if_pos rfl, if_pos (by omega), show wrap64 ((i : Int) + 1) = ((i + 1 : Nat) : Int) by unfold wrap64; omega]
    exact a2
  · rw [if_neg hc] at h ⊢
    refine ⟨K + 1, fun k hk => ?_⟩
    obtain ⟨k, rfl⟩ : ∃ m, k = m + 1 := ⟨k - 1, by omega⟩
    have a1 := h k (by omega)
    dsimp only at a1
    show message_Frames.l0 (k + 1) o l _ _ = _
    rw [message_Frames.l0, if_pos (by omega), if_pos (by omega), if_pos (by omega), rd_msg l i hlt, a1, Option.bind_some, if_neg hc]
theorem frames_f (l : List S25) (hok : ∀ x ∈ l, octetsOk x.f11 = true) (hm : ∀ x ∈ l, x.f11.length ≤ 140737488355328) (hl : l.length ≤ 1048576) : Ev (fun k => message_Frames.f k l) (frsM l []) := by
 have h := frames_l0 l hok hm hl l.length 0 [] (by omega) (by simp) (by simp)
 rw [List.drop_zero] at h
 exact h
theorem encM_chk {x : S25} (h : MayBe x) : checkP (encM x) = 0 := by
 obtain ⟨h1, h2⟩ := encM_len h
 unfold checkP
 rw [if_neg (by omega), if_neg (by omega)]
/-- Messages of payloads: the first that is none tells. -/
def msgsP : List (List Int) → List S25 → List S25 × Int
 | [], o => (o, 0)
 | p :: ps, o => if (decP p).1 = 0 then msgsP ps (o ++ [msgP (decP p)]) else ([], (decP p).1)
theorem rd_row (l : List (List Int)) (i : Nat) (h : i < l.length) : rd_L1 l (i : Int) = l[i] := by simp [rd_L1, List.getElem?_eq_getElem h]
theorem read_l0 (l : List (List Int)) (hok : ∀ p ∈ l, octetsOk p = true) (hm : ∀ p ∈ l, p.length < 140737488355328) (hl : l.length < 1256584717458) : ∀ (d i : Nat) (o : List S25), i + d = l.length → o.length ≤ i →
  Ev (fun k => message_Read.l0 k o l (l.length : Int) (i : Int)) (msgsP (l.drop i) o) := by
 intro d
 induction d with
 | zero =>
  intro i o hi ho
  rw [List.drop_of_length_le (by omega), msgsP]
  refine ⟨1, fun k hk => ?_⟩
  obtain ⟨k, rfl⟩ : ∃ m, k = m + 1 := ⟨k - 1, by omega⟩
  show message_Read.l0 (k + 1) o l _ _ = _
  rw [message_Read.l0, if_neg (by omega)]
 | succ d ih =>
  intro i o hi ho
  have hlt : i < l.length := by omega
  have hx : l[i] ∈ l := List.getElem_mem hlt
  rw [List.drop_eq_getElem_cons hlt, msgsP]
  obtain ⟨K, h⟩ := decode_f l[i] (hok _ hx) (hm _ hx)
  have e12 : (outP (decP l[i])).2.2.2.2.2.2.2.2.2.2.2.2 = (decP l[i]).1 := rfl
  by_cases hc : (decP l[i]).1 = 0
  · rw [if_pos hc]
    obtain ⟨K2, h2⟩ := ih (i + 1) (o ++ [msgP (decP l[i])]) (by omega) (by simp; omega)
    refine ⟨K + K2 + 1, fun k hk => ?_⟩
    obtain ⟨k, rfl⟩ : ∃ m, k = m + 1 := ⟨k - 1, by omega⟩
    have a1 := h k (by omega)
    have a2 := h2 k (by omega)
    dsimp only at a1 a2
    show message_Read.l0 (k + 1) o l _ _ = _
    rw [message_Read.l0, if_pos (by omega), if_pos (by omega), if_pos (by omega), rd_row l i hlt, a1, Option.bind_some, e12, if_pos hc, if_pos (by omega), show wrap64 ((i : Int) + 1) = ((i + 1 : Nat) : Int) by unfold wrap64; omega]
    exact a2
  · rw [if_neg hc]
    refine ⟨K + 1, fun k hk => ?_⟩
    obtain ⟨k, rfl⟩ : ∃ m, k = m + 1 := ⟨k - 1, by omega⟩
    have a1 := h k (by omega)
    dsimp only at a1
    show message_Read.l0 (k + 1) o l _ _ = _
    rw [message_Read.l0, if_pos (by omega), if_pos (by omega), if_pos (by omega), rd_row l i hlt, a1, Option.bind_some, e12, if_neg hc]
/-- What scanned octets tell as messages. -/
def readP (l : List Int) (s : List (List Int) × Int × Int) : List S25 × Int := if s.2.2 = 0 then (if s.2.1 < (l.length : Int) then ([], 8) else msgsP s.1 []) else ([], s.2.2)
theorem read_f (l : List Int) (s : List (List Int) × Int × Int) (hs : Ev (fun k => frame_Scan.f k l) s) (hok : ∀ p ∈ s.1, octetsOk p = true) (hm : ∀ p ∈ s.1, p.length < 140737488355328) (hl : s.1.length < 1256584717458) : Ev (fun k => message_Read.f k l) (readP l s) := by
 unfold message_Read.f readP
 refine Ev.bind hs ?_
 by_cases h0 : s.2.2 = 0
 case neg => rw [if_neg h0]; exact Ev.congr (fun k => if_neg h0) (Ev.now _)
 rw [if_pos h0]
 refine Ev.congr (fun k => if_pos h0) ?_
 by_cases h1 : s.2.1 < (l.length : Int)
 · rw [if_pos h1]; exact Ev.congr (fun k => if_pos h1) (Ev.now _)
 rw [if_neg h1]
 refine Ev.congr (fun k => if_neg h1) ?_
 have h := read_l0 s.1 hok hm hl s.1.length 0 [] (by omega) (by simp)
 rw [List.drop_zero] at h
 exact h
end Go.Proofs.Ytkddlhcpplkpbaa.V
end
section
set_option maxRecDepth 100000
namespace Go.Proofs.Ytkddlhcpplkpbaa.V
open WB Go Go.RowKit Go.Proofs.Ytkddlhcpplkpbaa.G Go.Proofs.YtkddlhcpplkpbaaW.PrintWords Go.Proofs.YtkddlhcpplkpbaaW.PrintLast Go.Proofs.YtkddlhcpplkpbaaW.PrintMore
theorem getF_len (l : List Int) : (getF l).1.length ≤ l.length := by
 unfold getF
 repeat' split
 all_goals simp
 omega
/-- All frames that are whole: the two loops come to the same. -/
theorem scan_both2 (l : List Int) (hok : octetsOk l = true) (hl : l.length < 140737488340000) : ∀ (d i : Nat) (x5 : List (List Int)), l.length - i ≤ d → i ≤ l.length → x5.length + (l.length - i) < 5864062014805 → ∃ r, Ev (fun k => frame_Scan.l0 k l x5 (i : Int)) r ∧ Ev (fun k => waybillref03_Scan.l0 k l x5 (i : Int)) r ∧ r.1.length ≤ x5.length + (l.length - i) ∧ ∀ p ∈ r.1, p ∈ x5 ∨ (octetsOk p = true ∧ p.length ≤ l.length) := by
 intro d
 induction d with
 | zero =>
  intro i x5 hd hi hx
  have hil : i = l.length := by omega
  have hg := fget_f (l.drop i) (octetsOk_drop hok i) (by rw [List.length_drop]; omega)
  have hr := refget_l (l.drop i) (octetsOk_drop hok i) (by rw [List.length_drop]; omega)
  have hgv : getF (l.drop i) = ([], 0, 71) := by
    rw [List.drop_of_length_le (by omega)]
    rfl
  rw [hgv] at hg hr
  refine ⟨(x5, (i : Int), 0), ?_, ?_, Nat.le_add_right _ _, fun p hp => Or.inl hp⟩
  · obtain ⟨K, h⟩ := hg
    refine ⟨K + 1, fun k hk => ?_⟩
    obtain ⟨k, rfl⟩ : ∃ m, k = m + 1 := ⟨k - 1, by omega⟩
    have a1 := h k (by omega)
    dsimp only at a1
    show frame_Scan.l0 (k + 1) l x5 _ = _
    rw [frame_Scan.l0, if_pos (by omega), if_pos (by omega), Int.toNat_natCast, a1, Option.bind_some, if_pos rfl]
  · obtain ⟨K, h⟩ := hr
    refine ⟨K + 1, fun k hk => ?_⟩
    obtain ⟨k, rfl⟩ : ∃ m, k = m + 1 := ⟨k - 1, by omega⟩
    have a1 := h k (by omega)
    dsimp only at a1
    show waybillref03_Scan.l0 (k + 1) l x5 _ = _
    rw [waybillref03_Scan.l0, if_pos (by omega), if_pos (by omega), Int.toNat_natCast, a1, Option.bind_some, if_pos rfl]
 | succ d ih =>
  intro i x5 hd hi hx
  obtain ⟨K1, h1⟩ := fget_f (l.drop i) (octetsOk_drop hok i) (by rw [List.length_drop]; omega)
  obtain ⟨K2, h2⟩ := refget_l (l.drop i) (octetsOk_drop hok i) (by rw [List.length_drop]; omega)
  have hnx := getF_next (octetsOk_drop hok i)
  have hpl0 := getF_len (l.drop i)
  obtain ⟨g, hg⟩ : ∃ g, g = getF (l.drop i) := ⟨_, rfl⟩
  rw [← hg] at h1 h2 hnx hpl0
  clear hg
  obtain ⟨p, n, e⟩ := g
  dsimp only at hnx hpl0
  by_cases e71 : e = 71
  · refine ⟨(x5, (i : Int), 0), ⟨K1 + 1, fun k hk => ?_⟩, ⟨K2 + 1, fun k hk => ?_⟩, Nat.le_add_right _ _, fun p hp => Or.inl hp⟩
    · obtain ⟨k, rfl⟩ : ∃ m, k = m + 1 := ⟨k - 1, by omega⟩
      have a1 := h1 k (by omega)
      dsimp only at a1
      show frame_Scan.l0 (k + 1) l x5 _ = _
      rw [frame_Scan.l0, if_pos (by omega), if_pos (by omega), Int.toNat_natCast, a1, Option.bind_some, if_pos e71]
    · obtain ⟨k, rfl⟩ : ∃ m, k = m + 1 := ⟨k - 1, by omega⟩
      have a1 := h2 k (by omega)
      dsimp only at a1
      show waybillref03_Scan.l0 (k + 1) l x5 _ = _
      rw [waybillref03_Scan.l0, if_pos (by omega), if_pos (by omega), Int.toNat_natCast, a1, Option.bind_some, if_pos e71]
  · by_cases e0 : e = 0
    · obtain ⟨n1, n2, n3⟩ := hnx e0
      rw [List.length_drop] at n2
      have hw : wrap64 ((i : Int) + n) = ((i + n.toNat : Nat) : Int) := by unfold wrap64; omega
      obtain ⟨r, ⟨K3, h3⟩, ⟨K4, h4⟩, hrl, hpl⟩ := ih (i + n.toNat) (x5 ++ [p]) (by omega) (by omega) (by rw [List.length_append, List.length_singleton]; omega)
      refine ⟨r, ⟨K1 + K3 + 1, fun k hk => ?_⟩, ⟨K2 + K4 + 1, fun k hk => ?_⟩, by rw [List.length_append, List.length_singleton] at hrl; omega, fun q hq => (hpl q hq).elim (fun h => (List.mem_append.1 h).elim Or.inl (fun h => Or.inr (by rw [show q = p by simpa using h]; exact ⟨n3, by have := hpl0; rw [List.length_drop] at this; omega⟩))) Or.inr⟩
      · obtain ⟨k, rfl⟩ : ∃ m, k = m + 1 := ⟨k - 1, by omega⟩
        have a1 := h1 k (by omega)
        have a3 := h3 k (by omega)
        dsimp only at a1 a3
        show frame_Scan.l0 (k + 1) l x5 _ = _
        rw [frame_Scan.l0, if_pos (by omega), if_pos (by omega), Int.toNat_natCast, a1, Option.bind_some, if_neg e71, if_pos e0, if_pos (by omega), hw]
        exact a3
      · obtain ⟨k, rfl⟩ : ∃ m, k = m + 1 := ⟨k - 1, by omega⟩
        have a1 := h2 k (by omega)
        have a3 := h4 k (by omega)
        dsimp only at a1 a3
        show waybillref03_Scan.l0 (k + 1) l x5 _ = _
        rw [waybillref03_Scan.l0, if_pos (by omega), if_pos (by omega), Int.toNat_natCast, a1, Option.bind_some, if_neg e71, if_pos e0, if_pos (by omega), hw]
        exact a3
    · refine ⟨(x5, (i : Int), e), ⟨K1 + 1, fun k hk => ?_⟩, ⟨K2 + 1, fun k hk => ?_⟩, Nat.le_add_right _ _, fun p hp => Or.inl hp⟩
      · obtain ⟨k, rfl⟩ : ∃ m, k = m + 1 := ⟨k - 1, by omega⟩
        have a1 := h1 k (by omega)
        dsimp only at a1
        show frame_Scan.l0 (k + 1) l x5 _ = _
        rw [frame_Scan.l0, if_pos (by omega), if_pos (by omega), Int.toNat_natCast, a1, Option.bind_some, if_neg e71, if_neg e0]
      · obtain ⟨k, rfl⟩ : ∃ m, k = m + 1 := ⟨k - 1, by omega⟩
        have a1 := h2 k (by omega)
        dsimp only at a1
        show waybillref03_Scan.l0 (k + 1) l x5 _ = _
        rw [waybillref03_Scan.l0, if_pos (by omega), if_pos (by omega), Int.toNat_natCast, a1, Option.bind_some, if_neg e71, if_neg e0]
theorem scan_same2 (l : List Int) (hok : octetsOk l = true) (hl : l.length < 5864062014805) : ∃ r, Ev (fun k => frame_Scan.f k l) r ∧ Ev (fun k => waybillref03_Scan.f k l) r ∧ r.1.length ≤ l.length ∧ ∀ p ∈ r.1, octetsOk p = true ∧ p.length ≤ l.length := by
 obtain ⟨r, h1, h2, h3, h4⟩ := scan_both2 l hok (by omega) l.length 0 [] (by omega) (by omega) (by simp; omega)
 exact ⟨r, h1, h2, by simpa using h3, fun p hp => (h4 p hp).elim (fun h => by simp at h) (fun h => h)⟩
/-- Frames of messages, one behind the other. -/
def frM2 : List S25 → List Int → List Int × Int
 | [], o => (o, 0)
 | x :: xs, o => if chkM x = 0 then frM2 xs (o ++ frm (encM x)) else ([], chkM x)
theorem putF_flat : ∀ (o : List (List Int)) (b : List Int), (∀ p ∈ o, checkP p = 0) → putF b o = (b ++ flat o, 0)
 | [], b, _ => by simp [putF, flat]
 | p :: o, b, h => by
  rw [putF, if_pos (h p List.mem_cons_self), putF_flat o _ (fun q hq => h q (List.mem_cons_of_mem _ hq))]
  show (b ++ frm p ++ flat o, (0 : Int)) = (b ++ (frm p ++ flat o), 0)
  rw [List.append_assoc]
theorem flat_one (p : List Int) : flat [p] = frm p := by
 show frm p ++ flat [] = frm p
 exact List.append_nil _
theorem frs_fr : ∀ (xs : List S25) (o : List (List Int)), (∀ p ∈ o, checkP p = 0) → frsM xs o = frM2 xs (flat o)
 | [], o, h => by rw [frsM, frM2, putF_flat o [] h, List.nil_append]
 | x :: xs, o, h => by
  rw [frsM, frM2]
  by_cases hc : chkM x = 0
  · rw [if_pos hc, if_pos hc, frs_fr xs _ (fun p hp => by
   rcases List.mem_append.1 hp with hp | hp
   · exact h p hp
   · rw [show p = encM x by simpa using hp]; exact encM_chk (chk_ok hc)), flat_app, flat_one]
  · rw [if_neg hc, if_neg hc]
theorem refframes_l0 (l : List S25) (hok : ∀ x ∈ l, octetsOk x.f11 = true) (hm : ∀ x ∈ l, x.f11.length < 140737488355328) (hl : l.length ≤ 1048576) : ∀ (d i : Nat) (o : List Int), i + d = l.length → o.length ≤ 4110 * i →
  Ev (fun k => waybillref09_Frames.l0 k l o (i : Int)) (frM2 (l.drop i) o) := by
 intro d
 induction d with
 | zero =>
  intro i o hi ho
  rw [List.drop_of_length_le (by omega), frM2]
  refine ⟨1, fun k hk => ?_⟩
  obtain ⟨k, rfl⟩ : ∃ m, k = m + 1 := ⟨k - 1, by omega⟩
  show waybillref09_Frames.l0 (k + 1) l o _ = _
  rw [waybillref09_Frames.l0, if_neg (by omega)]
 | succ d ih =>
  intro i o hi ho
  have hlt : i < l.length := by omega
  have hx : l[i] ∈ l := List.getElem_mem hlt
  rw [List.drop_eq_getElem_cons hlt, frM2]
  obtain ⟨K, h⟩ := refencode_f l[i] (hok _ hx) (hm _ hx)
  by_cases hc : chkM l[i] = 0
  · rw [if_pos hc] at h ⊢
    have hcp := encM_chk (chk_ok hc)
    have hfl := frm_len hcp
    obtain ⟨K3, h3⟩ := refput_one o (encM l[i]) (encM_ok (hok _ hx)) (by omega)
    rw [if_pos hcp] at h3
    obtain ⟨K2, h2⟩ := ih (i + 1) (o ++ frm (encM l[i])) (by omega) (by rw [List.length_append]; omega)
    refine ⟨K + K2 + K3 + 1, fun k hk => ?_⟩
    obtain ⟨k, rfl⟩ : ∃ m, k = m + 1 := ⟨k - 1, by omega⟩
    have a1 := h k (by omega)
    have a2 := h2 k (by omega)
    have a3 := h3 k (by omega)
    dsimp only at a1 a2 a3
    show waybillref09_Frames.l0 (k + 1) l o _ = _
    rw [waybillref09_Frames.l0, if_pos (by omega), if_pos (by omega), rd_msg l i hlt, a1, Option.bind_some, if_pos rfl, a3, Option.bind_some, show wrap64 ((i : Int) + 1) = ((i + 1 : Nat) : Int) by unfold wrap64; omega]
    exact a2
  · rw [if_neg hc] at h ⊢
    refine ⟨K + 1, fun k hk => ?_⟩
    obtain ⟨k, rfl⟩ : ∃ m, k = m + 1 := ⟨k - 1, by omega⟩
    have a1 := h k (by omega)
    dsimp only at a1
    show waybillref09_Frames.l0 (k + 1) l o _ = _
    rw [waybillref09_Frames.l0, if_pos (by omega), if_pos (by omega), rd_msg l i hlt, a1, Option.bind_some, if_neg hc]
theorem refframes_f (l : List S25) (hok : ∀ x ∈ l, octetsOk x.f11 = true) (hm : ∀ x ∈ l, x.f11.length < 140737488355328) (hl : l.length ≤ 1048576) : Ev (fun k => waybillref09_Frames.f k l) (frsM l []) := by
 have h := refframes_l0 l hok hm hl l.length 0 [] (by omega) (by simp)
 rw [List.drop_zero] at h
 rw [frs_fr l [] (by simp)]
 exact h
theorem refread_l0 (l : List (List Int)) (hok : ∀ p ∈ l, octetsOk p = true) (hm : ∀ p ∈ l, p.length < 140737488355328) (hl : l.length < 1256584717458) : ∀ (d i : Nat) (o : List S25), i + d = l.length → o.length ≤ i →
  Ev (fun k => waybillref09_Read.l0 k l o (i : Int)) (msgsP (l.drop i) o) := by
 intro d
 induction d with
 | zero =>
  intro i o hi ho
  rw [List.drop_of_length_le (by omega), msgsP]
  refine ⟨1, fun k hk => ?_⟩
  obtain ⟨k, rfl⟩ : ∃ m, k = m + 1 := ⟨k - 1, by omega⟩
  show waybillref09_Read.l0 (k + 1) l o _ = _
  rw [waybillref09_Read.l0, if_neg (by omega)]
 | succ d ih =>
  intro i o hi ho
  have hlt : i < l.length := by omega
  have hx : l[i] ∈ l := List.getElem_mem hlt
  rw [List.drop_eq_getElem_cons hlt, msgsP]
  obtain ⟨K, h⟩ := refdecode_f l[i] (hok _ hx) (hm _ hx)
  have e12 : (outP (decP l[i])).2.2.2.2.2.2.2.2.2.2.2.2 = (decP l[i]).1 := rfl
  by_cases hc : (decP l[i]).1 = 0
  · rw [if_pos hc]
    obtain ⟨K2, h2⟩ := ih (i + 1) (o ++ [msgP (decP l[i])]) (by omega) (by simp; omega)
    refine ⟨K + K2 + 1, fun k hk => ?_⟩
    obtain ⟨k, rfl⟩ : ∃ m, k = m + 1 := ⟨k - 1, by omega⟩
    have a1 := h k (by omega)
    have a2 := h2 k (by omega)
    dsimp only at a1 a2
    show waybillref09_Read.l0 (k + 1) l o _ = _
    rw [waybillref09_Read.l0, if_pos (by omega), if_pos (by omega), rd_row l i hlt, a1, Option.bind_some, e12, if_pos hc, if_pos (by omega), show wrap64 ((i : Int) + 1) = ((i + 1 : Nat) : Int) by unfold wrap64; omega]
    exact a2
  · rw [if_neg hc]
    refine ⟨K + 1, fun k hk => ?_⟩
    obtain ⟨k, rfl⟩ : ∃ m, k = m + 1 := ⟨k - 1, by omega⟩
    have a1 := h k (by omega)
    dsimp only at a1
    show waybillref09_Read.l0 (k + 1) l o _ = _
    rw [waybillref09_Read.l0, if_pos (by omega), if_pos (by omega), rd_row l i hlt, a1, Option.bind_some, e12, if_neg hc]
theorem refread_f (l : List Int) (s : List (List Int) × Int × Int) (hs : Ev (fun k => waybillref03_Scan.f k l) s) (hok : ∀ p ∈ s.1, octetsOk p = true) (hm : ∀ p ∈ s.1, p.length < 140737488355328) (hl : s.1.length < 1256584717458) : Ev (fun k => waybillref09_Read.f k l) (readP l s) := by
 unfold waybillref09_Read.f readP
 refine Ev.bind hs ?_
 by_cases h0 : s.2.2 = 0
 case neg => rw [if_neg h0]; exact Ev.congr (fun k => if_neg h0) (Ev.now _)
 rw [if_pos h0]
 refine Ev.congr (fun k => if_pos h0) ?_
 by_cases h1 : s.2.1 < (l.length : Int)
 · rw [if_pos h1]; exact Ev.congr (fun k => if_pos h1) (Ev.now _)
 rw [if_neg h1]
 refine Ev.congr (fun k => if_neg h1) ?_
 have h := refread_l0 s.1 hok hm hl s.1.length 0 [] (by omega) (by simp)
 rw [List.drop_zero] at h
 exact h
theorem msgsP_len : ∀ (ps : List (List Int)) (o : List S25), (msgsP ps o).1.length ≤ o.length + ps.length
 | [], o => by simp [msgsP]
 | p :: ps, o => by
  rw [msgsP]
  split
  · have := msgsP_len ps (o ++ [msgP (decP p)])
    simp at this ⊢
    omega
  · simp
theorem samemsgs_l0 (l : List S25) (hm : l.length ≤ 140737488355328) : ∀ (d i : Nat), i + d = l.length → Ev (fun k => waybillplain_SameMsgs.l0 k l l (i : Int)) true := by
 intro d
 induction d with
 | zero =>
  intro i hi
  refine ⟨1, fun k hk => ?_⟩
  obtain ⟨k, rfl⟩ : ∃ m, k = m + 1 := ⟨k - 1, by omega⟩
  show waybillplain_SameMsgs.l0 (k + 1) l l _ = _
  rw [waybillplain_SameMsgs.l0, if_neg (by omega)]
 | succ d ih =>
  intro i hi
  have hlt : i < l.length := by omega
  refine Ev.step (fun k => ?_) (ih (i + 1) (by omega))
  show waybillplain_SameMsgs.l0 (k + 1) l l _ = _
  rw [waybillplain_SameMsgs.l0, if_pos (by omega), if_pos (by omega), if_pos (by omega), rd_msg l i hlt, plainsame_self, Option.bind_some, if_pos rfl, show wrap64 ((i : Int) + 1) = ((i + 1 : Nat) : Int) by unfold wrap64; omega]
theorem samemsgs_self (l : List S25) (hm : l.length ≤ 140737488355328) : Ev (fun k => waybillplain_SameMsgs.f k l l) true := by
 have h := samemsgs_l0 l hm l.length 0 (by omega)
 exact Ev.congr (fun k => if_pos rfl) h
/-- Does a message go to a client? -/
def bckP (k : Int) : Bool := decide (k = 2 ∨ k = 4 ∨ k = 6 ∨ k = 7 ∨ k = 8)
theorem back_f (x : S25) : Ev (fun k => message_Back.f k x.f0 x.f1 x.f2 x.f3 x.f4 x.f5 x.f6 x.f7 x.f8 x.f9 x.f10 x.f11) (bckP x.f0) := by
 refine ⟨6, fun k hk => ?_⟩
 obtain ⟨k, rfl⟩ : ∃ m, k = m + 6 := ⟨k - 6, by omega⟩
 show message_Back.f (k + 6) _ _ _ _ _ _ _ _ _ _ _ _ = _
 generalize x.f0 = a
 unfold message_Back.f slices_Contains_int_int.f slices_Index_int_int.f bckP
 simp only [slices_Index_int_int.l0]
 have w0 : wrap64 1 = 1 := by decide +kernel
 have w1 : wrap64 2 = 2 := by decide +kernel
 have w2 : wrap64 3 = 3 := by decide +kernel
 have w3 : wrap64 4 = 4 := by decide +kernel
 have w4 : wrap64 5 = 5 := by decide +kernel
 by_cases h2 : a = 2
 · subst h2; rfl
 by_cases h4 : a = 4
 · subst h4; simp [rd, w0, w1, w2, w3, w4]
 by_cases h6 : a = 6
 · subst h6; simp [rd, w0, w1, w2, w3, w4]
 by_cases h7 : a = 7
 · subst h7; simp [rd, w0, w1, w2, w3, w4]
 by_cases h8 : a = 8
 · subst h8; simp [rd, w0, w1, w2, w3, w4]
 simp [rd, w0, w1, w2, w3, w4, h2, h4, h6, h7, h8]
theorem refback_f (x : S25) : Ev (fun k => waybillref09_Back.f k x.f0 x.f1 x.f2 x.f3 x.f4 x.f5 x.f6 x.f7 x.f8 x.f9 x.f10 x.f11) (bckP x.f0) := by
 unfold waybillref09_Back.f
 have h : Ev (fun k => waybillref09_form.f k x.f0) (letB x.f0) := Ev.of (waybillref09_form.mono x.f0) (form_is x.f0)
 refine Ev.bind h ?_
 unfold bckP
 generalize x.f0 = a
 by_cases hi : ixOf a = []
 · have hb := (r9_let_none a).2 hi
   have hn : ¬ (1 ≤ a ∧ a ≤ 8) := by
    intro hk
    have hc : a = 1 ∨ a = 2 ∨ a = 3 ∨ a = 4 ∨ a = 5 ∨ a = 6 ∨ a = 7 ∨ a = 8 := by omega
    rcases hc with rfl | rfl | rfl | rfl | rfl | rfl | rfl | rfl <;> exact absurd hi (by decide)
   rw [hb, decide_eq_false (by omega)]
   exact Ev.congr (fun k => if_pos (by decide +kernel)) (Ev.now _)
 · have hs := r9_let_some a hi
   have hk : 1 ≤ a ∧ a ≤ 8 := by
    apply Classical.byContradiction
    intro hn
    exact hi (ixOf_none hn)
   have hne : (letB a).toList ≠ ([] : List UInt8) := fun h => by rw [h] at hs; cases hs
   refine Ev.congr (fun k => if_neg hne) ?_
   have hc : a = 1 ∨ a = 2 ∨ a = 3 ∨ a = 4 ∨ a = 5 ∨ a = 6 ∨ a = 7 ∨ a = 8 := by omega
   rcases hc with rfl | rfl | rfl | rfl | rfl | rfl | rfl | rfl <;> exact Ev.now _
end Go.Proofs.Ytkddlhcpplkpbaa.V
end
section
set_option maxRecDepth 100000
namespace Go.Proofs.Ytkddlhcpplkpbaa.Pure
open WB Go Go.RowKit Go.Proofs.Ytkddlhcpplkpbaa.G Go.Proofs.Ytkddlhcpplkpbaa.V Go.Proofs.YtkddlhcpplkpbaaW.PrintWords Go.Proofs.YtkddlhcpplkpbaaW.PrintLast Go.Proofs.YtkddlhcpplkpbaaW.PrintMore
theorem MessageTells (x y : S25) (l : List Int) {w0 w1 w2 w3 w4 w5 w6 w7 w8 w9 w10 v0 v1 v2 v3 v4 v5 v6 v7 v8 v9 v10 : Prop} (hx : w0 ∧ w1 ∧ w2 ∧ w3 ∧ w4 ∧ w5 ∧ w6 ∧ w7 ∧ w8 ∧ w9 ∧ w10 ∧ ∀ a ∈ x.f11, (Lit.int .u8 a).wf = true) (hy : v0 ∧ v1 ∧ v2 ∧ v3 ∧ v4 ∧ v5 ∧ v6 ∧ v7 ∧ v8 ∧ v9 ∧ v10 ∧ ∀ a ∈ y.f11, (Lit.int .u8 a).wf = true) (hw : ∀ a ∈ l, (Lit.int .u8 a).wf = true) {q0 q1 q2 q3 q4 q5 q6 q7 q8 q9 q10 qx p0 p1 p2 p3 p4 p5 p6 p7 p8 p9 p10 px pl : Prop} (hsx : q0 ∧ q1 ∧ q2 ∧ q3 ∧ q4 ∧ q5 ∧ q6 ∧ q7 ∧ q8 ∧ q9 ∧ q10 ∧ x.f11.length * 1 ≤ reachBytes ∧ qx) (hsy : p0 ∧ p1 ∧ p2 ∧ p3 ∧ p4 ∧ p5 ∧ p6 ∧ p7 ∧ p8 ∧ p9 ∧ p10 ∧ y.f11.length * 1 ≤ reachBytes ∧ px) (_ : l.length * 1 ≤ reachBytes ∧ pl) {bA bB : Nat} (hbk : bA + (bB + (lsum (fun _ => 1) l + 1 + 0)) ≤ 1048576) : ∃ k, waybilllaw09_MessageTells.f k x.f0 x.f1 x.f2 x.f3 x.f4 x.f5 x.f6 x.f7 x.f8 x.f9 x.f10 x.f11 y.f0 y.f1 y.f2 y.f3 y.f4 y.f5 y.f6 y.f7 y.f8 y.f9 y.f10 y.f11 l = some true := by
 have hokx := ok_of_wf hx.2.2.2.2.2.2.2.2.2.2.2
 have hoky := ok_of_wf hy.2.2.2.2.2.2.2.2.2.2.2
 have hok := ok_of_wf hw
 have hlx : x.f11.length < 140737488355328 := by have := hsx.2.2.2.2.2.2.2.2.2.2.2.1; simp only [reachBytes] at this; omega
 have hly : y.f11.length < 140737488355328 := by have := hsy.2.2.2.2.2.2.2.2.2.2.2.1; simp only [reachBytes] at this; omega
 have hl : l.length ≤ 1048576 := by rw [lsum_one] at hbk; omega
 have hxy : ∀ z ∈ [x, y], octetsOk z.f11 = true := fun z hz => by
  rcases List.mem_cons.1 hz with rfl | hz
  · exact hokx
  · rw [show z = y by simpa using hz]; exact hoky
 have hxl : ∀ z ∈ [x, y], z.f11.length < 140737488355328 := fun z hz => by
  rcases List.mem_cons.1 hz with rfl | hz
  · exact hlx
  · rw [show z = y by simpa using hz]; exact hly
 obtain ⟨K1, h1⟩ := alive_f
 obtain ⟨K2, h2⟩ := encode_f x (by omega)
 obtain ⟨K3, h3⟩ := refencode_f x hokx hlx
 obtain ⟨K4, h4⟩ := decode_f l hok (by omega)
 obtain ⟨K5, h5⟩ := refdecode_f l hok (by omega)
 obtain ⟨K6, h6⟩ := frames_f [x, y] hxy (fun z hz => Nat.le_of_lt (hxl z hz)) (by simp)
 obtain ⟨K7, h7⟩ := refframes_f [x, y] hxy hxl (by simp)
 obtain ⟨s, hs1, hs2, hs3, hs4⟩ := scan_same2 l hok (by omega)
 obtain ⟨K8, h8⟩ := read_f l s hs1 (fun p hp => (hs4 p hp).1) (fun p hp => by have := (hs4 p hp).2; omega) (by omega)
 obtain ⟨K9, h9⟩ := refread_f l s hs2 (fun p hp => (hs4 p hp).1) (fun p hp => by have := (hs4 p hp).2; omega) (by omega)
 have hrl : (readP l s).1.length ≤ 140737488355328 := by
  unfold readP
  split
  · split
    · simp
    · have := msgsP_len s.1 []
      simp only [List.length_nil] at this
      omega
  · simp
 obtain ⟨K10, h10⟩ := samemsgs_self (readP l s).1 hrl
 obtain ⟨K11, h11⟩ := chk_f x (by omega)
 obtain ⟨K12, h12⟩ := back_f x
 obtain ⟨K13, h13⟩ := refback_f x
 obtain ⟨K, hK⟩ : ∃ K, K = K1 + K2 + K3 + K4 + K5 + K6 + K7 + K8 + K9 + K10 + K11 + K12 + K13 := ⟨_, rfl⟩
 have b1 := h1 K (by omega)
 have b2 := h2 K (by omega)
 have b3 := h3 K (by omega)
 have b4 := h4 K (by omega)
 have b5 := h5 K (by omega)
 have b6 := h6 K (by omega)
 have b7 := h7 K (by omega)
 have b8 := h8 K (by omega)
 have b9 := h9 K (by omega)
 have b10 := h10 K (by omega)
 have b11 := h11 K (by omega)
 have b12 := h12 K (by omega)
 have b13 := h13 K (by omega)
 dsimp only at b1 b2 b3 b4 b5 b6 b7 b8 b9 b10 b11 b12 b13
 generalize (if chkM x = 0 then (encM x, 0) else ([], chkM x)) = r at b2 b3
 refine ⟨K, ?_⟩
 unfold waybilllaw09_MessageTells.f waybilllaw09_MessageTells.g
 rw [copybytes_f l (by omega), Option.bind_some, b2, Option.bind_some, if_pos b3, b4, Option.bind_some, if_pos b5]
 have b6' : message_Frames.f K ([(⟨x.f0, x.f1, x.f2, x.f3, x.f4, x.f5, x.f6, x.f7, x.f8, x.f9, x.f10, x.f11⟩ : S25), (⟨y.f0, y.f1, y.f2, y.f3, y.f4, y.f5, y.f6, y.f7, y.f8, y.f9, y.f10, y.f11⟩ : S25)] : List (S25)) = some (frsM [x, y] []) := b6
 have b7' : waybillref09_Frames.f K ([(⟨x.f0, x.f1, x.f2, x.f3, x.f4, x.f5, x.f6, x.f7, x.f8, x.f9, x.f10, x.f11⟩ : S25), (⟨y.f0, y.f1, y.f2, y.f3, y.f4, y.f5, y.f6, y.f7, y.f8, y.f9, y.f10, y.f11⟩ : S25)] : List (S25)) = some (frsM [x, y] []) := b7
 rw [b6', Option.bind_some, if_pos b7', b8, Option.bind_some, b9, Option.bind_some, b10, Option.bind_some, if_pos ⟨rfl, rfl⟩, b11, Option.bind_some, if_pos (refchk_f x hokx hlx), b12, Option.bind_some, if_pos ⟨b13, rfl⟩, b1]
end Go.Proofs.Ytkddlhcpplkpbaa.Pure
end
