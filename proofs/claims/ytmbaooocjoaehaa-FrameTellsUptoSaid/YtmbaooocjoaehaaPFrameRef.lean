/- What the reference's printed functions of frame come to. No program here. -/
import Derived.Test.YtmbaooocjoaehaaQBase
import Derived.Test.YtmbaooocjoaehaaQOpen
import Derived.Test.YtmbaooocjoaehaaQCrc
import Derived.Test.YtmbaooocjoaehaaPVarint
import Derived.Test.YtmbaooocjoaehaaPVarintG
import Derived.Test.YtmbaooocjoaehaaPVarintTexts
import Derived.Test.YtmbaooocjoaehaaPVarintRefTexts
import Derived.Test.YtmbaooocjoaehaaPCrcUn
import Derived.Test.YtmbaooocjoaehaaPCrcUnF
import Derived.Test.YtmbaooocjoaehaaPCrcRef
import Derived.Test.YtmbaooocjoaehaaPFrame
import Derived.Test.YtmbaooocjoaehaaPFrameGet
import Derived.Test.YtmbaooocjoaehaaPSame
import Derived.Test.YtmbaooocjoaehaaGx7
import Derived.Test.YtmbaooocjoaehaaGx8
import Derived.Test.YtmbaooocjoaehaaGx9
set_option linter.unusedVariables false
set_option linter.unusedSimpArgs false
namespace Go.Proofs.Ytmbaooocjoaehaa.V
open WB Go Go.RowKit Go.Proofs.Ytmbaooocjoaehaa.G Go.Proofs.YtmbaooocjoaehaaW.PrintWords Go.Proofs.YtmbaooocjoaehaaW.PrintLast Go.Proofs.YtmbaooocjoaehaaW.PrintMore
theorem refput_one (b p : List Int) (hok : octetsOk p = true) (hl : b.length < 140737488340000) : Ev (fun k => waybillref03_Put.f k b p) (if checkP p = 0 then (b ++ frm p, 0) else ([], checkP p)) := by
  unfold waybillref03_Put.f checkP
  by_cases h0 : (p.length : Int) = 0
  · simp only [if_pos h0, if_neg (show ¬ ((8 : Int) = 0) by decide)]
    exact Ev.now _
  by_cases h4 : (p.length : Int) > 4096
  · simp only [if_neg h0, if_pos h4, if_neg (show ¬ ((5 : Int) = 0) by decide)]
    exact Ev.now _
  simp only [if_neg h0, if_neg h4, if_true]
  have htl := txt_len (s := p) (by omega)
  have ht := reftexts_f [] p (by simp; omega)
  rw [List.nil_append] at ht
  refine Ev.bind ht ?_
  refine Ev.bind (refsum_f (txt p) (txt_ok hok) (by omega)) ?_
  have e1 : (txt p).length + (sum4 (txt p)).length < 140737488355328 := by rw [sum4_len]; omega
  have e2 : b.length + (frm p).length < 140737488355328 := by unfold frm; rw [List.length_append, sum4_len]; omega
  refine Ev.congr (fun k => ?_) (Ev.now _)
  rw [copied_f b (by omega), Option.bind_some, Option.bind_some, if_pos (by exact e1), Option.bind_some, if_pos (by exact e2)]
  rfl
/-- A frame's own octets stand there. -/
theorem getAt_txt {l : List Int} (hok : octetsOk l = true) (he : (getAt l 0).2.2 = 0) (hle : (getAt l 0).2.1 + (getAt l 0).1 ≤ l.length) (hn : (getAt l 0).1 ≤ 4096) :
    txt ((l.take ((getAt l 0).2.1 + (getAt l 0).1).toNat).drop (getAt l 0).2.1.toNat) = l.take ((getAt l 0).2.1 + (getAt l 0).1).toNat ∧ (((l.take ((getAt l 0).2.1 + (getAt l 0).1).toNat).drop (getAt l 0).2.1.toNat).length : Int) = (getAt l 0).1 := by
  rcases getAt_cases hok 0 with ⟨e, h, h2⟩ | ⟨q, x, rest, h1, h2, h3, h4⟩
  · rw [h] at he
    rcases h2 with rfl | rfl | rfl <;> cases he
  · rw [h4] at hle hn ⊢
    dsimp only at hle hn ⊢
    have hx : x = [] := by
      cases x with
      | nil => rfl
      | cons a x => simp at h2; omega
    subst hx
    rw [List.nil_append] at h1
    have e1 : (0 + ((enc q).length : Int) + (q : Int)).toNat = (enc q).length + q := by omega
    have e2 : (0 + ((enc q).length : Int)).toNat = (enc q).length := by omega
    have hr : q ≤ rest.length := by
      have := congrArg List.length h1
      rw [List.length_append] at this
      omega
    rw [e1, e2, h1, List.take_length_add_append, List.drop_left]
    have e3 : (rest.take q).length = q := by rw [List.length_take]; omega
    refine ⟨?_, by rw [e3]⟩
    unfold txt
    rw [e3]
theorem refget_l (l : List Int) (hok : octetsOk l = true) (hl : l.length < 140737488340000) : Ev (fun k => waybillref03_Get.f k l) (getF l) := by
  have htx := getAt_txt hok
  unfold waybillref03_Get.f getF
  obtain ⟨b1, b2, b3, b4⟩ := getAt_bounds hok
  rw [refget_f l 0 hok]
  obtain ⟨g, hg⟩ : ∃ g, g = getAt l 0 := ⟨_, rfl⟩
  rw [← hg] at b1 b2 b3 b4 htx ⊢
  clear hg
  obtain ⟨n, a, e⟩ := g
  simp only [Option.bind_some] at b1 b2 b3 b4 htx ⊢
  by_cases e8 : e = 8
  · simp only [if_pos e8]
    exact Ev.now _
  simp only [if_neg e8]
  by_cases e0 : ¬ e = 0
  · simp only [if_neg e0]
    exact Ev.now _
  replace e0 : e = 0 := Decidable.not_not.1 e0
  simp only [if_pos e0]
  by_cases n0 : n = 0
  · simp only [if_pos n0]
    exact Ev.now _
  simp only [if_neg n0]
  by_cases n4 : n > 4096
  · simp only [if_pos n4]
    exact Ev.now _
  simp only [if_neg n4]
  have w1 : wrap64 n = n := by unfold wrap64; omega
  have w0 : wrap64 ((l.length : Int) - a) = l.length - a := by unfold wrap64; omega
  have w2 : wrap64 (n + 4) = n + 4 := by unfold wrap64; omega
  have w3 : wrap64 (a + n) = a + n := by unfold wrap64; omega
  have w4 : wrap64 (a + n + 4) = a + n + 4 := by unfold wrap64; omega
  simp only [w1, w0, w2, w3, w4]
  by_cases h5 : (l.length : Int) - a - 4 < n
  · simp only [if_pos h5, if_pos (show (l.length : Int) - a < n + 4 by omega)]
    exact Ev.now _
  obtain ⟨t1, t2⟩ := htx e0 (by omega) (by omega)
  simp only [if_neg h5, if_neg (show ¬ ((l.length : Int) - a < n + 4) by omega), if_pos (show a + n ≤ (l.length : Int) by omega), if_pos (show 0 ≤ a + n + 4 by omega), if_pos (show a + n + 4 ≤ (l.length : Int) by omega), if_pos b3, if_pos (show a ≤ a + n by omega)]
  have hlt : (l.take (a + n).toNat).length ≤ l.length := by rw [List.length_take]; exact Nat.min_le_right _ _
  obtain ⟨p, hp⟩ : ∃ p, p = (l.take (a + n).toNat).drop a.toNat := ⟨_, rfl⟩
  rw [← hp] at t1 t2 ⊢
  have hpo : octetsOk p = true := by rw [hp]; exact octetsOk_drop (octetsOk_take hok _) _
  have hc : checkP p = 0 := by unfold checkP; rw [if_neg (by omega), if_neg (by omega)]
  have hput := refput_one [] p hpo (by decide)
  rw [if_pos hc, List.nil_append] at hput
  refine Ev.bind hput ?_
  have hstr : ((strOfNums (frm p)).toList = (strOfNums (l.take (a + n + 4).toNat)).toList) ↔ (l.take (a + n).toNat ++ sum4 (l.take (a + n).toNat) = l.take (a + n + 4).toNat) := by
    have := strs_eq (frm p) (l.take (a + n + 4).toNat) (frm_ok hpo) (octetsOk_take hok _)
    rw [Bool.eq_iff_iff, beq_iff_eq, decide_eq_true_iff] at this
    rw [this]
    unfold frm
    rw [t1]
  by_cases h6 : l.take (a + n).toNat ++ sum4 (l.take (a + n).toNat) = l.take (a + n + 4).toNat
  · simp only [if_pos h6, if_pos (hstr.2 h6)]
    simp only [copied_f p (by omega), Option.bind_some]
    exact Ev.now _
  · simp only [if_neg h6, if_neg (fun q => h6 (hstr.1 q))]
    exact Ev.now _
theorem getF_next {l : List Int} (hok : octetsOk l = true) (h : (getF l).2.2 = 0) : 4 < (getF l).2.1 ∧ (getF l).2.1 ≤ l.length ∧ octetsOk (getF l).1 = true := by
  obtain ⟨b1, b2, b3, b4⟩ := getAt_bounds hok
  unfold getF at h ⊢
  split at h
  · cases h
  · split at h
    · split at h
      · cases h
      · split at h
        · cases h
        · split at h
          · cases h
          · split at h
            · rename_i h8 h0 h1 h2 h3 h4
              rw [if_neg h8, if_pos h0, if_neg h1, if_neg h2, if_neg h3, if_pos h4]
              dsimp only
              exact ⟨by omega, by omega, octetsOk_drop (octetsOk_take hok _) _⟩
            · cases h
    · rename_i h0
      exact absurd h h0
/-- All frames that are whole: the two loops come to the same. -/
theorem scan_both (l : List Int) (hok : octetsOk l = true) (hl : l.length < 140737488340000) : ∀ (d i : Nat) (x5 : List (List Int)), l.length - i ≤ d → i ≤ l.length → x5.length + (l.length - i) < 5864062014805 → ∃ r, Ev (fun k => frame_Scan.l0 k l x5 (i : Int)) r ∧ Ev (fun k => waybillref03_Scan.l0 k l x5 (i : Int)) r ∧ r.1.length ≤ x5.length + (l.length - i) := by
  intro d
  induction d with
  | zero =>
    intro i x5 hd hi hx
    have hil : i = l.length := by omega
    have hg := fget_f (l.drop i) (octetsOk_drop hok i) (by rw [List.length_drop]; omega)
    have hr := refget_l (l.drop i) (octetsOk_drop hok i) (by rw [List.length_drop]; omega)
    have hgv : getF (l.drop i) = ([], 0, 71) := by
      rw [List.drop_of_length_le (by omega)]
      rfl
    rw [hgv] at hg hr
    refine ⟨(x5, (i : Int), 0), ?_, ?_, Nat.le_add_right _ _⟩
    · obtain ⟨K, h⟩ := hg
      refine ⟨K + 1, fun k hk => ?_⟩
      obtain ⟨k, rfl⟩ : ∃ m, k = m + 1 := ⟨k - 1, by omega⟩
      have a1 := h k (by omega)
      dsimp only at a1
      show frame_Scan.l0 (k + 1) l x5 _ = _
      rw [frame_Scan.l0, if_pos (by omega), if_pos (by omega), Int.toNat_natCast, a1, Option.bind_some, if_pos rfl]
    · obtain ⟨K, h⟩ := hr
      refine ⟨K + 1, fun k hk => ?_⟩
      obtain ⟨k, rfl⟩ : ∃ m, k = m + 1 := ⟨k - 1, by omega⟩
      have a1 := h k (by omega)
      dsimp only at a1
      show waybillref03_Scan.l0 (k + 1) l x5 _ = _
      rw [waybillref03_Scan.l0, if_pos (by omega), if_pos (by omega), Int.toNat_natCast, a1, Option.bind_some, if_pos rfl]
  | succ d ih =>
    intro i x5 hd hi hx
    obtain ⟨K1, h1⟩ := fget_f (l.drop i) (octetsOk_drop hok i) (by rw [List.length_drop]; omega)
    obtain ⟨K2, h2⟩ := refget_l (l.drop i) (octetsOk_drop hok i) (by rw [List.length_drop]; omega)
    have hnx := getF_next (octetsOk_drop hok i)
    obtain ⟨g, hg⟩ : ∃ g, g = getF (l.drop i) := ⟨_, rfl⟩
    rw [← hg] at h1 h2 hnx
    clear hg
    obtain ⟨p, n, e⟩ := g
    dsimp only at hnx
    by_cases e71 : e = 71
    · refine ⟨(x5, (i : Int), 0), ⟨K1 + 1, fun k hk => ?_⟩, ⟨K2 + 1, fun k hk => ?_⟩, Nat.le_add_right _ _⟩
      · obtain ⟨k, rfl⟩ : ∃ m, k = m + 1 := ⟨k - 1, by omega⟩
        have a1 := h1 k (by omega)
        dsimp only at a1
        show frame_Scan.l0 (k + 1) l x5 _ = _
        rw [frame_Scan.l0, if_pos (by omega), if_pos (by omega), Int.toNat_natCast, a1, Option.bind_some, if_pos e71]
      · obtain ⟨k, rfl⟩ : ∃ m, k = m + 1 := ⟨k - 1, by omega⟩
        have a1 := h2 k (by omega)
        dsimp only at a1
        show waybillref03_Scan.l0 (k + 1) l x5 _ = _
        rw [waybillref03_Scan.l0, if_pos (by omega), if_pos (by omega), Int.toNat_natCast, a1, Option.bind_some, if_pos e71]
    · by_cases e0 : e = 0
      · obtain ⟨n1, n2, n3⟩ := hnx e0
        rw [List.length_drop] at n2
        have hw : wrap64 ((i : Int) + n) = ((i + n.toNat : Nat) : Int) := by unfold wrap64; omega
        obtain ⟨r, ⟨K3, h3⟩, ⟨K4, h4⟩, hrl⟩ := ih (i + n.toNat) (x5 ++ [p]) (by omega) (by omega) (by rw [List.length_append, List.length_singleton]; omega)
        refine ⟨r, ⟨K1 + K3 + 1, fun k hk => ?_⟩, ⟨K2 + K4 + 1, fun k hk => ?_⟩, by rw [List.length_append, List.length_singleton] at hrl; omega⟩
        · obtain ⟨k, rfl⟩ : ∃ m, k = m + 1 := ⟨k - 1, by omega⟩
          have a1 := h1 k (by omega)
          have a3 := h3 k (by omega)
          dsimp only at a1 a3
          show frame_Scan.l0 (k + 1) l x5 _ = _
          rw [frame_Scan.l0, if_pos (by omega), if_pos (by omega), Int.toNat_natCast, a1, Option.bind_some, if_neg e71, if_pos e0, if_pos (by omega), hw]
          exact a3
        · obtain ⟨k, rfl⟩ : ∃ m, k = m + 1 := ⟨k - 1, by omega⟩
          have a1 := h2 k (by omega)
          have a3 := h4 k (by omega)
          dsimp only at a1 a3
          show waybillref03_Scan.l0 (k + 1) l x5 _ = _
          rw [waybillref03_Scan.l0, if_pos (by omega), if_pos (by omega), Int.toNat_natCast, a1, Option.bind_some, if_neg e71, if_pos e0, if_pos (by omega), hw]
          exact a3
      · refine ⟨(x5, (i : Int), e), ⟨K1 + 1, fun k hk => ?_⟩, ⟨K2 + 1, fun k hk => ?_⟩, Nat.le_add_right _ _⟩
        · obtain ⟨k, rfl⟩ : ∃ m, k = m + 1 := ⟨k - 1, by omega⟩
          have a1 := h1 k (by omega)
          dsimp only at a1
          show frame_Scan.l0 (k + 1) l x5 _ = _
          rw [frame_Scan.l0, if_pos (by omega), if_pos (by omega), Int.toNat_natCast, a1, Option.bind_some, if_neg e71, if_neg e0]
        · obtain ⟨k, rfl⟩ : ∃ m, k = m + 1 := ⟨k - 1, by omega⟩
          have a1 := h2 k (by omega)
          dsimp only at a1
          show waybillref03_Scan.l0 (k + 1) l x5 _ = _
          rw [waybillref03_Scan.l0, if_pos (by omega), if_pos (by omega), Int.toNat_natCast, a1, Option.bind_some, if_neg e71, if_neg e0]
theorem scan_same (l : List Int) (hok : octetsOk l = true) (hl : l.length < 5864062014805) : ∃ r, Ev (fun k => frame_Scan.f k l) r ∧ Ev (fun k => waybillref03_Scan.f k l) r ∧ r.1.length ≤ l.length := by
  obtain ⟨r, h1, h2, h3⟩ := scan_both l hok (by omega) l.length 0 [] (by omega) (by omega) (by simp; omega)
  exact ⟨r, h1, h2, by simpa using h3⟩
theorem samelist_l0 (x : List (List Int)) (hm : x.length ≤ 140737488355328) : ∀ (d i : Nat), i + d = x.length → Ev (fun k => waybillplain_SameList.l0 k x x (i : Int)) true := by
  intro d
  induction d with
  | zero =>
    intro i hi
    refine ⟨1, fun k hk => ?_⟩
    obtain ⟨k, rfl⟩ : ∃ m, k = m + 1 := ⟨k - 1, by omega⟩
    show waybillplain_SameList.l0 (k + 1) x x _ = _
    rw [waybillplain_SameList.l0, if_neg (by omega)]
  | succ d ih =>
    intro i hi
    refine Ev.step (fun k => ?_) (ih (i + 1) (by omega))
    show waybillplain_SameList.l0 (k + 1) x x _ = _
    rw [waybillplain_SameList.l0, if_pos (by omega), if_pos (by omega), if_pos (by omega), same_self, Option.bind_some, if_pos rfl, show wrap64 ((i : Int) + 1) = ((i + 1 : Nat) : Int) by unfold wrap64; omega]
theorem samelist_self (x : List (List Int)) (hm : x.length ≤ 140737488355328) : Ev (fun k => waybillplain_SameList.f k x x) true := by
  have h := samelist_l0 x hm x.length 0 (by omega)
  refine Ev.congr (fun k => ?_) h
  show waybillplain_SameList.f k x x = _
  unfold waybillplain_SameList.f
  rw [if_pos rfl]
  rfl
end Go.Proofs.Ytmbaooocjoaehaa.V
