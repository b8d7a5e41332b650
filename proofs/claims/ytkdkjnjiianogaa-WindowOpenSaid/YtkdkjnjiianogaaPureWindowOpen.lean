/- WindowOpen: those that are open are new, and each that is new below the greatest that is done is one. No program here. -/
import Derived.Test.YtkdkjnjiianogaaQBase
import Derived.Test.YtkdkjnjiianogaaPWindow
import Derived.Test.YtkdkjnjiianogaaGx11
set_option linter.unusedVariables false
set_option linter.unusedSimpArgs false
namespace Go.Proofs.Ytkdkjnjiianogaa.Pure
open WB Go Go.RowKit Go.Proofs.Ytkdkjnjiianogaa.G Go.Proofs.Ytkdkjnjiianogaa.V Go.Proofs.YtkdkjnjiianogaaW.PrintWords Go.Proofs.YtkdkjnjiianogaaW.PrintLast Go.Proofs.YtkdkjnjiianogaaW.PrintMore
theorem open_law (m s q : Int) (l : List S32) (hm : May m s l) (g : List Int) (hg : g.length < 100000) (is : Int) (hfin : (g.any fun x => x == q) = (is == 0 && (decide (0 < l.length) && decide (q < (l.getD (l.length - 1) z32).f0)))) :
    ∀ (n i : Nat) (b : Bool), g.length - i = n → i ≤ g.length → b = ((g.take i).any fun x => x == q) →
    Ev (fun k => waybilllaw22_WindowOpen.l0 k q g is 0 b (i : Int) m l) true := by
  have hl := hm.len
  have h4 := hm.s2
  intro n
  induction n with
  | zero =>
    intro i b hn hi hb
    refine ⟨1, fun k hk => ?_⟩
    obtain ⟨k, rfl⟩ : ∃ q, k = q + 1 := ⟨k - 1, by omega⟩
    rw [List.take_of_length_le (by omega), hfin] at hb
    simp only [waybilllaw22_WindowOpen.l0]
    rw [if_neg (by omega), num_f, Option.bind_some, if_pos rfl]
    by_cases h1 : is = 0
    · rw [if_pos h1]
      by_cases h2 : 0 < l.length
      · rw [if_pos (by omega), wrap_ok _ (by omega) (by omega), if_pos (by omega), if_pos (by omega)]
        have hrd : rd_T32 l ((l.length : Int) - 1) = l.getD (l.length - 1) z32 := by
          unfold rd_T32
          rw [show ((l.length : Int) - 1).toNat = l.length - 1 by omega]
        rw [hrd, hb, h1]
        simp [h2]
      · rw [if_neg (by omega), hb]
        simp [h2]
    · rw [if_neg h1, hb]
      simp [h1]
  | succ n ih =>
    intro i b hn hi hb
    have hlt : i < g.length := by omega
    have hrd : rd g (i : Int) = g[i] := by simp [rd, List.getElem?_eq_getElem hlt]
    have hs : ((g.take (i + 1)).any fun x => x == q) = (b || g[i] == q) := by rw [List.take_succ_eq_append_getElem hlt, List.any_append, ← hb]; simp
    have e := ih (i + 1) (b || g[i] == q) (by omega) (by omega) hs.symm
    refine Ev.step (fun k => ?_) e
    simp only [waybilllaw22_WindowOpen.l0]
    rw [if_pos (by omega), wrap_ok _ (by omega) (by omega)]
    cases b
    · rw [if_neg (by simp), if_pos (by omega), hrd]
      simp
    · rw [if_pos rfl]
      simp
theorem WindowOpen (x0 : S24) (x1 x2 : Int) {p0 p1 p2 p3 p4 p5 : Prop} (_ : p0) (_ : p1) (_ : p2) (_ : p3) (_ : p4) (_ : p5) : ∃ k, waybilllaw22_WindowOpen.f k x0.f0 x0.f1 x1 x2 = some true := by
  obtain ⟨m, l⟩ := x0
  refine Ev.rounds ?_
  show Ev (fun k => waybilllaw22_WindowOpen.f k m l x1 x2) true
  unfold waybilllaw22_WindowOpen.f
  simp only [alive_f, Option.bind_some, if_true, see_f]
  have eo := open_f m l x1
  by_cases h : checkW m l x1 = 0
  · have hm := may_of _ _ _ h
    have hw : openW m l x1 = (gaps m l, 0) := by unfold openW; rw [if_pos h]
    rw [hw] at eo
    refine Ev.bind eo ?_
    have hpair := pair_of hm.up
    have hb0 : ∀ d ∈ l, m ≤ d.f0 ∧ d.f0 < m + x1 := fun d hd => by
      obtain ⟨i, hi, rfl⟩ := List.mem_iff_getElem.1 hd
      have := hm.bds i hi
      rw [show l.getD i z32 = l[i] by simp [List.getElem?_eq_getElem hi]] at this
      exact ⟨this.1, this.2.1⟩
    have hs := see_eq m l x1 x2 h
    have hglen := gaps_len (m := m) (s := x1) l m hpair hb0 (by have := hm.s1; omega)
    have hs2 := hm.s2
    have e := open_law m x1 x2 l hm (gaps m l) (by omega) (whatD m x1 l x2) (by
      have hbl := below_last hm x2
      have hmg := mem_gaps l m x2 hpair (fun d hd => (hb0 d hd).1)
      have hwn := what_new m x1 l x2
      rw [Bool.eq_iff_iff]
      simp only [List.any_eq_true, Bool.and_eq_true, beq_iff_eq, decide_eq_true_iff]
      constructor
      · rintro ⟨x, hx, rfl⟩
        obtain ⟨g1, g2, g3⟩ := hmg.1 hx
        obtain ⟨d, hd, hq⟩ := g2
        have := (hb0 d hd).2
        exact ⟨hwn.2 ⟨g1, by omega, g3⟩, hbl.1 ⟨d, hd, hq⟩⟩
      · rintro ⟨g1, g2⟩
        obtain ⟨g3, g4, g5⟩ := hwn.1 g1
        exact ⟨x2, hmg.2 ⟨g3, hbl.2 g2, g5⟩, rfl⟩) (gaps m l).length 0 false rfl (by omega) (by simp)
    refine Ev.congr (fun k => ?_) e
    dsimp only
    rw [num_f, Option.bind_some, if_pos rfl, hs.1, hs.2]
    rfl
  · have hw : openW m l x1 = ([], checkW m l x1) := by unfold openW; rw [if_neg h]
    have hs : seeW m l x1 x2 = (0, 0, 0, [], checkW m l x1) := by unfold seeW; rw [if_pos h]
    rw [hw] at eo
    refine Ev.bind eo ?_
    refine Ev.congr (fun k => ?_) (Ev.now true)
    rw [hs]
    dsimp only
    rw [num_f, Option.bind_some, if_neg h, if_pos rfl]
    rfl
end Go.Proofs.Ytkdkjnjiianogaa.Pure
