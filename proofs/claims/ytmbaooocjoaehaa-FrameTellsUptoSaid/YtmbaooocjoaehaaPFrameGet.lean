/- A frame, and one of which an octet is another, read. No program here. -/
import Derived.Test.YtmbaooocjoaehaaQBase
import Derived.Test.YtmbaooocjoaehaaQOpen
import Derived.Test.YtmbaooocjoaehaaQCrc
import Derived.Test.YtmbaooocjoaehaaPVarint
import Derived.Test.YtmbaooocjoaehaaPVarintG
import Derived.Test.YtmbaooocjoaehaaPVarintTexts
import Derived.Test.YtmbaooocjoaehaaPCrcUn
import Derived.Test.YtmbaooocjoaehaaPCrcUnF
import Derived.Test.YtmbaooocjoaehaaPFrame
set_option linter.unusedVariables false
set_option linter.unusedSimpArgs false
namespace Go.Proofs.Ytmbaooocjoaehaa.V
open WB Go Go.RowKit Go.Proofs.Ytmbaooocjoaehaa.G Go.Proofs.YtmbaooocjoaehaaW.PrintWords Go.Proofs.YtmbaooocjoaehaaW.PrintLast Go.Proofs.YtmbaooocjoaehaaW.PrintMore
theorem getD_right (l m : List Int) (n : Nat) (h : l.length ≤ n) : (l ++ m).getD n 0 = m.getD (n - l.length) 0 := by
  rw [List.getD_eq_getElem?_getD, List.getElem?_append_right h, ← List.getD_eq_getElem?_getD]
theorem getD_left (l m : List Int) (n : Nat) (h : n < l.length) : (l ++ m).getD n 0 = l.getD n 0 := by
  rw [List.getD_eq_getElem?_getD, List.getElem?_append_left h, ← List.getD_eq_getElem?_getD]
theorem getF_enc (q : Nat) (h0 : 0 < q) (h1 : q ≤ 4096) (r : List Int) (hr : q + 4 ≤ r.length) :
    getF (enc q ++ r) = if (enc q ++ r.take q) ++ sum4 (enc q ++ r.take q) = enc q ++ r.take (q + 4) then (r.take q, ((enc q).length + q + 4 : Int), 0) else ([], 0, 21) := by
  have hg := getAt_enc [] q r (by omega)
  rw [List.nil_append] at hg
  simp only [List.length_nil, Int.ofNat_zero, Int.zero_add, Int.natCast_zero] at hg
  unfold getF
  rw [hg]
  have e1 : ((enc q).length + q : Int).toNat = (enc q).length + q := by omega
  have e2 : ((enc q).length + q + 4 : Int).toNat = (enc q).length + (q + 4) := by omega
  simp only [e1, e2, Int.toNat_natCast, List.take_length_add_append, List.drop_left, List.length_append]
  rw [if_neg (by decide), if_pos trivial, if_neg (by omega), if_neg (by omega), if_neg (by push_cast; omega)]
theorem get_frm (p rest : List Int) (hc : checkP p = 0) : getF (frm p ++ rest) = (p, ((frm p).length : Int), 0) := by
  have h := check_ok hc
  have e : frm p ++ rest = enc p.length ++ (p ++ (sum4 (txt p) ++ rest)) := by simp [frm, txt]
  rw [e, getF_enc p.length (by omega) (by omega) _ (by simp [sum4_len])]
  have t1 : (p ++ (sum4 (txt p) ++ rest)).take p.length = p := List.take_left
  have t2 : (p ++ (sum4 (txt p) ++ rest)).take (p.length + 4) = p ++ sum4 (txt p) := by
    rw [List.take_length_add_append]
    congr 1
  rw [t1, t2, if_pos (by simp [txt])]
  simp [frm, txt, sum4_len]
  omega
/-- One of which an octet behind its length is another. -/
theorem get_turned (p : List Int) (hok : octetsOk p = true) (hc : checkP p = 0) (i : Nat) (hi : i < p.length + 4) (v : Int) (v0 : 0 ≤ v) (v1 : v < 256) (hv : v ≠ (p ++ sum4 (txt p)).getD i 0) :
    getF (enc p.length ++ (p ++ sum4 (txt p)).set i v) = ([], 0, 21) := by
  have h := check_ok hc
  have hl : (p ++ sum4 (txt p)).length = p.length + 4 := by rw [List.length_append, sum4_len]
  rw [getF_enc p.length (by omega) (by omega) _ (by rw [List.length_set, hl]; exact Nat.le_refl _), if_neg]
  intro he
  rw [List.take_of_length_le (i := p.length + 4) (by rw [List.length_set, hl]; exact Nat.le_refl _)] at he
  rcases Nat.lt_or_ge i p.length with h2 | h2
  · have e1 : (p ++ sum4 (txt p)).set i v = p.set i v ++ sum4 (txt p) := by rw [List.set_append_left _ _ h2]
    have e2 : (p.set i v ++ sum4 (txt p)).take p.length = p.set i v := List.take_left' (by simp)
    rw [e1, e2, List.append_assoc] at he
    have h3 := List.append_cancel_left (List.append_cancel_left he)
    have h4 := sum4_inj h3
    have e3 : enc p.length ++ p.set i v = (txt p).set ((enc p.length).length + i) v := by
      unfold txt
      rw [List.set_append_right _ _ (by omega), Nat.add_sub_cancel_left]
    rw [e3] at h4
    refine run_set _ (txt p) ((enc p.length).length + i) v (by unfold txt; rw [List.length_append]; omega) (txt_ok hok) v0 v1 ?_ h4
    unfold txt
    rw [getD_right _ _ _ (by omega), Nat.add_sub_cancel_left]
    rwa [getD_left _ _ _ h2] at hv
  · have e1 : (p ++ sum4 (txt p)).set i v = p ++ (sum4 (txt p)).set (i - p.length) v := by rw [List.set_append_right _ _ h2]
    have e2 : (p ++ (sum4 (txt p)).set (i - p.length) v).take p.length = p := List.take_left
    rw [e1, e2, List.append_assoc] at he
    have h3 := List.append_cancel_left (List.append_cancel_left he)
    have h4 : (sum4 (txt p)).getD (i - p.length) 0 = v := by
      have := congrArg (fun l => l.getD (i - p.length) 0) h3
      rw [show enc p.length ++ p = txt p from rfl] at this
      rw [this, List.getD_eq_getElem?_getD, List.getElem?_set_self (by rw [sum4_len]; omega)]
      rfl
    rw [getD_right _ _ _ h2] at hv
    exact hv h4.symm
theorem put_one (b p : List Int) : putF b [p] = if checkP p = 0 then (b ++ frm p, 0) else ([], checkP p) := by
  rw [putF]
  rfl
end Go.Proofs.Ytmbaooocjoaehaa.V
