/- SessionFinds: texts of this claim, packed: what the kit's print has written for it and own texts, without what its proof does not reach. -/
import Derived.Test.YthfjgfldmkdlnaaKSessionFinds1
import Derived.Test.YthfjgfldmkdlnaaKSessionFinds14
import Derived.Test.YthfjgfldmkdlnaaKSessionFinds15
import Derived.Test.YthfjgfldmkdlnaaKSessionFinds16
import Derived.Test.YthfjgfldmkdlnaaKSessionFinds17
import Derived.Laws.BitsAllLaws
import Derived.Laws.BitsLemmas
import Derived.WalkKit
set_option linter.unusedVariables false
set_option linter.unusedSimpArgs false
set_option linter.unusedSectionVars false
section
set_option linter.unusedVariables false
set_option linter.unusedSimpArgs false
namespace Go.Proofs.Ythfjgfldmkdlnaa.Pure
open WB Go Go.RowKit Go.Proofs.Ythfjgfldmkdlnaa.G Go.Proofs.YthfjgfldmkdlnaaW.PrintWords Go.Proofs.YthfjgfldmkdlnaaW.PrintLast Go.Proofs.YthfjgfldmkdlnaaW.PrintMore
theorem num_f (x : Int) : waybilllaw23_num.f x = some x := rfl
theorem open_f (l : List S38) (a b c n t cl : Int) : session_Open.f l a b c n t cl = some (openS l a b c n t cl) := rfl
theorem alive_f : waybilllaw23_alive.f = some true := by
  unfold waybilllaw23_alive.f
  rw [open_f, Option.bind_some]
  kernel_rfl
theorem rises_pw : ∀ (l : List S38), risesS l = true ↔ l.Pairwise (fun a b => a.f0 < b.f0)
  | [] => by simp [risesS]
  | [x] => by simp [risesS]
  | x :: y :: l => by
    have ih := rises_pw (y :: l)
    simp only [risesS, Bool.and_eq_true, decide_eq_true_eq]
    rw [ih, List.pairwise_cons (a := x)]
    constructor
    · rintro ⟨h1, h2⟩
      refine ⟨fun z hz => ?_, h2⟩
      rcases List.mem_cons.1 hz with rfl | hz
      · exact h1
      · have := (List.pairwise_cons.1 h2).1 z hz; omega
    · rintro ⟨h1, h2⟩
      exact ⟨h1 y List.mem_cons_self, h2⟩
theorem check_new {size : Int} (h : 1 ≤ size ∧ size ≤ 64) : checkW 1 [] size = 0 := by
  unfold checkW
  rw [if_neg (by omega), if_neg (by simp [risesD])]
theorem may_open {l : List S38} {a b c n t cl : Int} (h : MayS l a b c n t) (hl : (l.length : Int) < a) (hn : n < 1073741824) (hc : 0 ≤ cl ∧ cl ≤ 2147483647) : MayS (l ++ [⟨n, cl, t, ⟨1, []⟩⟩]) a b c (n + 1) t := by
  refine ⟨h.s, by have := h.n; omega, by simp; omega, fun x hx => ?_, ?_⟩
  · rw [List.mem_append] at hx
    rcases hx with hx | hx
    · have := h.od x hx
      exact ⟨this.1, by omega, this.2.2⟩
    · simp only [List.mem_singleton] at hx
      subst hx
      have h1 := h.n
      exact ⟨h1.1, by show n < n + 1; omega, hc.1, hc.2, h1.2.2.1, Int.le_refl _, check_new (by have := h.s; omega)⟩
  · rw [rises_pw, List.pairwise_append]
    refine ⟨(rises_pw _).1 h.up, by simp, fun x hx y hy => ?_⟩
    simp only [List.mem_singleton] at hy
    subst hy
    exact (h.od x hx).2.1
/-- What opening tells. -/
theorem open_cases (l : List S38) (a b c n t cl : Int) : (∃ e, e ≠ 0 ∧ openS l a b c n t cl = ([], 0, e)) ∨ (MayS l a b c n t ∧ (l.length : Int) < a ∧ n < 1073741824 ∧ (0 ≤ cl ∧ cl ≤ 2147483647) ∧ openS l a b c n t cl = (l ++ [⟨n, cl, t, ⟨1, []⟩⟩], n + 1, 0)) := by
  unfold openS
  by_cases h1 : checkS l a b c n t = 0
  · have hm := mayS_of h1
    rw [h1, if_neg (by simp)]
    by_cases h2 : outB cl 0 2147483647 = true
    · rw [if_pos h2]; exact .inl ⟨4, by decide, rfl⟩
    · rw [if_neg h2]
      by_cases h3 : (l.length : Int) = a ∨ n = 1073741824
      · rw [if_pos h3]; exact .inl ⟨72, by decide, rfl⟩
      · rw [if_neg h3]
        rw [not_or] at h3
        exact .inr ⟨hm, by have := hm.len; omega, by have := hm.n; omega, out_false.1 (Bool.of_not_eq_true h2), rfl⟩
  · rw [if_pos h1]
    exact .inl ⟨_, h1, rfl⟩
theorem wrap_id {x : Int} (h : -9223372036854775808 ≤ x) (h2 : x ≤ 9223372036854775807) : wrap64 x = x := by unfold wrap64; omega
theorem find_f (l : List S38) (a b c n t x y : Int) : session_Find.f l a b c n t x y = some (findS l a b c n t x y) := rfl
theorem touch_f (l : List S38) (a b c n t i m : Int) (ds : List S51) : session_Touch.f l a b c n t i m ds = some (touchS l a b c n t i m ds) := rfl
theorem SessionFinds (x0 : List S38) (x1 : S24) (x2 x3 x4 x5 : Int) {p0 p1 p2 p3 p4 p5 q0 q1 q2 q3 q4 q5 : Prop} (_ : p0) (_ : p1) (_ : p2) (_ : p3) (_ : p4) (_ : p5) (_ : q0) (_ : q1) (_ : q2) (_ : q3) (_ : q4) (_ : q5) : waybilllaw23_SessionFinds.f x0 x1.f0 x1.f1 x1.f2 x2 x3 x4 x5 = some true := by
  unfold waybilllaw23_SessionFinds.f
  rw [alive_f, Option.bind_some, if_pos rfl, open_f, Option.bind_some]
  rcases open_cases x0 x1.f0 x1.f1 x1.f2 x2 x3 x4 with ⟨e, he, ho⟩ | ⟨hM, h3, h4, h5, ho⟩
  · rw [ho]
    dsimp only
    rw [num_f, Option.bind_some, if_neg he]
    rfl
  · have hM2 := may_open hM h3 h4 h5
    have hnn := hM.n
    obtain ⟨s, hs⟩ : ∃ s : S38, s = ⟨x2, x4, x3, ⟨1, []⟩⟩ := ⟨_, rfl⟩
    rw [← hs] at hM2 ho
    have hk : (x0 ++ [s])[x0.length]? = some s := by simp
    have hod : ∀ y, ∀ x ∈ x0, isS x2 y x = false := fun y x hx => by
      have := (hM.od x hx).2.1
      unfold isS
      rw [show (x.f0 == x2) = false by simpa using by omega]
      rfl
    have f1 : firstP (isS x2 x4) (x0 ++ [s]) = (x0.length : Int) := firstP_at _ _ x0.length s hk (by rw [hs]; simp [isS]) (by rw [List.take_left' rfl]; exact hod x4)
    have f2 : x4 ≠ x5 → firstP (isS x2 x5) (x0 ++ [s]) = -1 := fun hne => firstP_none _ _ (fun x hx => by
      rw [List.mem_append] at hx
      rcases hx with hx | hx
      · exact hod x5 x hx
      · simp only [List.mem_singleton] at hx
        subst hx
        rw [hs]; simpa [isS] using hne)
    have e1 : findS (x0 ++ [s]) x1.f0 x1.f1 x1.f2 (x2 + 1) x3 x2 x4 = ((x0.length : Int), 0) := by
      unfold findS
      rw [check_ofS hM2, if_neg (by simp), f1, if_neg (by omega)]
    have e2 : ((findS (x0 ++ [s]) x1.f0 x1.f1 x1.f2 (x2 + 1) x3 x2 x5).2 == 71) = (x4 != x5) := by
      unfold findS
      rw [check_ofS hM2, if_neg (by simp)]
      by_cases hne : x4 = x5
      · rw [← hne, f1, if_neg (by omega)]; simp
      · rw [f2 hne, if_pos (by omega)]; simpa using hne
    have er : rd_T38 (x0 ++ [s]) (x0.length : Int) = s := by simp [rd_T38]
    have e3 : touchS (x0 ++ [s]) x1.f0 x1.f1 x1.f2 (x2 + 1) x3 (x0.length : Int) s.f3.f0 s.f3.f1 = ((x0 ++ [s]).set x0.length s, 0) := by
      unfold touchS
      rw [check_ofS hM2, if_neg (by simp), if_neg (by rw [not_or]; simp only [List.length_append, List.length_singleton]; omega), if_neg (by rw [hs, check_new (by have := hM.s; omega)]; simp), Int.toNat_natCast]
      rw [List.getD_eq_getElem?_getD, hk, Option.getD_some, hs]
    have es : (x0 ++ [s]).set x0.length s = x0 ++ [s] := by simp
    rw [ho]
    dsimp only
    rw [num_f, Option.bind_some, if_pos rfl, find_f, Option.bind_some, find_f, Option.bind_some, e1]
    dsimp only
    have hlt : (x0.length : Int) < (((x0 ++ [s]).length : Nat) : Int) := by simp only [List.length_append, List.length_singleton]; omega
    rw [if_pos (by omega), if_pos hlt, er, touch_f, Option.bind_some, e3, es]
    dsimp only
    rw [num_f, Option.bind_some, num_f, Option.bind_some, if_pos (by rw [wrap_id (by omega) (by omega)]; rfl), if_pos rfl, Option.bind_some, e2, beq_self_eq_true, if_pos rfl, if_pos hlt, er, if_pos (by rw [hs])]
    simp
end Go.Proofs.Ythfjgfldmkdlnaa.Pure
end
