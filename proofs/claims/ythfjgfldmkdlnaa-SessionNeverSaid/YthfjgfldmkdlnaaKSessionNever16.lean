/- SessionNever: texts of this claim, packed: what the kit's print has written for it and own texts, without what its proof does not reach. -/
import Derived.Test.YthfjgfldmkdlnaaKSessionNever1
import Derived.Test.YthfjgfldmkdlnaaKSessionNever13
import Derived.Test.YthfjgfldmkdlnaaKSessionNever14
import Derived.Test.YthfjgfldmkdlnaaKSessionNever15
import Derived.Laws.BitsAllLaws
import Derived.Laws.BitsLemmas
import Derived.WalkKit
set_option linter.unusedVariables false
set_option linter.unusedSimpArgs false
set_option linter.unusedSectionVars false
section
set_option linter.unusedVariables false
set_option linter.unusedSimpArgs false
namespace Go.Proofs.Ythfjgfldmkdlnaa.Pure
open WB Go Go.RowKit Go.Proofs.Ythfjgfldmkdlnaa.G Go.Proofs.YthfjgfldmkdlnaaW.PrintWords Go.Proofs.YthfjgfldmkdlnaaW.PrintLast Go.Proofs.YthfjgfldmkdlnaaW.PrintMore
theorem num_f (x : Int) : waybilllaw23_num.f x = some x := rfl
theorem open_f (l : List S38) (a b c n t cl : Int) : session_Open.f l a b c n t cl = some (openS l a b c n t cl) := rfl
theorem exp_f (l : List S38) (a b c n t : Int) : session_Expire.f l a b c n t = some (expireS l a b c n t) := rfl
theorem alive_f : waybilllaw23_alive.f = some true := by
  unfold waybilllaw23_alive.f
  rw [open_f, Option.bind_some]
  kernel_rfl
theorem rsets_f (a b c : Int) : waybillref23_Sets.f a b c = some (setsS a b c) := by
  unfold waybillref23_Sets.f setsS
  by_cases h1 : 1 ≤ a
  · by_cases h2 : a ≤ 64
    · by_cases h3 : 1 ≤ b
      · by_cases h4 : b ≤ 1048576
        · by_cases h5 : 1 ≤ c
          · simp [h1, h2, h3, h4, h5]
          · simp [h1, h2, h3, h4, h5]
        · simp [h1, h2, h3, h4]
      · simp [h1, h2, h3]
    · simp [h1, h2]
  · simp [h1]
theorem rises_pw : ∀ (l : List S38), risesS l = true ↔ l.Pairwise (fun a b => a.f0 < b.f0)
  | [] => by simp [risesS]
  | [x] => by simp [risesS]
  | x :: y :: l => by
    have ih := rises_pw (y :: l)
    simp only [risesS, Bool.and_eq_true, decide_eq_true_eq]
    rw [ih, List.pairwise_cons (a := x)]
    constructor
    · rintro ⟨h1, h2⟩
      refine ⟨fun z hz => ?_, h2⟩
      rcases List.mem_cons.1 hz with rfl | hz
      · exact h1
      · have := (List.pairwise_cons.1 h2).1 z hz; omega
    · rintro ⟨h1, h2⟩
      exact ⟨h1 y List.mem_cons_self, h2⟩
theorem check_new {size : Int} (h : 1 ≤ size ∧ size ≤ 64) : checkW 1 [] size = 0 := by
  unfold checkW
  rw [if_neg (by omega), if_neg (by simp [risesD])]
theorem may_nil {a b c n t : Int} (h : setsS a b c = true) (hn : 1 ≤ n ∧ n ≤ 1073741824) (ht : 0 ≤ t ∧ t ≤ 536870912) : MayS [] a b c n t :=
  ⟨sets_true.1 h, ⟨hn.1, hn.2, ht.1, ht.2⟩, by have := (sets_true.1 h); simp; omega, fun x hx => by simp at hx, rfl⟩
theorem may_tick {l : List S38} {a b c n t t' : Int} (h : MayS l a b c n t) (h1 : t ≤ t') (h2 : t' ≤ 536870912) : MayS l a b c n t' :=
  ⟨h.s, ⟨h.n.1, h.n.2.1, by have := h.n; omega, h2⟩, h.len, fun x hx => by have := h.od x hx; refine ⟨this.1, this.2.1, this.2.2.1, this.2.2.2.1, this.2.2.2.2.1, by omega, this.2.2.2.2.2.2⟩, h.up⟩
theorem may_stay {l : List S38} {a b c n t : Int} (h : MayS l a b c n t) (b' t' : Int) : MayS (stayS b' t' l) a b c n t :=
  ⟨h.s, h.n, by have := h.len; have h2 : (stayS b' t' l).length ≤ l.length := List.length_filter_le _ _; omega, fun x hx => h.od x (List.mem_filter.1 hx).1, (rises_pw _).2 (((rises_pw _).1 h.up).filter _)⟩
theorem may_open {l : List S38} {a b c n t cl : Int} (h : MayS l a b c n t) (hl : (l.length : Int) < a) (hn : n < 1073741824) (hc : 0 ≤ cl ∧ cl ≤ 2147483647) : MayS (l ++ [⟨n, cl, t, ⟨1, []⟩⟩]) a b c (n + 1) t := by
  refine ⟨h.s, by have := h.n; omega, by simp; omega, fun x hx => ?_, ?_⟩
  · rw [List.mem_append] at hx
    rcases hx with hx | hx
    · have := h.od x hx
      exact ⟨this.1, by omega, this.2.2⟩
    · simp only [List.mem_singleton] at hx
      subst hx
      have h1 := h.n
      exact ⟨h1.1, by show n < n + 1; omega, hc.1, hc.2, h1.2.2.1, Int.le_refl _, check_new (by have := h.s; omega)⟩
  · rw [rises_pw, List.pairwise_append]
    refine ⟨(rises_pw _).1 h.up, by simp, fun x hx y hy => ?_⟩
    simp only [List.mem_singleton] at hy
    subst hy
    exact (h.od x hx).2.1
/-- What opening tells. -/
theorem open_cases (l : List S38) (a b c n t cl : Int) : (∃ e, e ≠ 0 ∧ openS l a b c n t cl = ([], 0, e)) ∨ (MayS l a b c n t ∧ (l.length : Int) < a ∧ n < 1073741824 ∧ (0 ≤ cl ∧ cl ≤ 2147483647) ∧ openS l a b c n t cl = (l ++ [⟨n, cl, t, ⟨1, []⟩⟩], n + 1, 0)) := by
  unfold openS
  by_cases h1 : checkS l a b c n t = 0
  · have hm := mayS_of h1
    rw [h1, if_neg (by simp)]
    by_cases h2 : outB cl 0 2147483647 = true
    · rw [if_pos h2]; exact .inl ⟨4, by decide, rfl⟩
    · rw [if_neg h2]
      by_cases h3 : (l.length : Int) = a ∨ n = 1073741824
      · rw [if_pos h3]; exact .inl ⟨72, by decide, rfl⟩
      · rw [if_neg h3]
        rw [not_or] at h3
        exact .inr ⟨hm, by have := hm.len; omega, by have := hm.n; omega, out_false.1 (Bool.of_not_eq_true h2), rfl⟩
  · rw [if_pos h1]
    exact .inl ⟨_, h1, rfl⟩
theorem exp_ok {l : List S38} {a b c n t : Int} (h : MayS l a b c n t) : expireS l a b c n t = (stayS b t l, goneS b t l, 0) := by
  unfold expireS
  rw [if_pos (check_ofS h)]
theorem exp_no {l : List S38} {a b c n t : Int} (h : checkS l a b c n t ≠ 0) : expireS l a b c n t = ([], [], checkS l a b c n t) := by
  unfold expireS
  rw [if_neg h]
theorem wrap_id {x : Int} (h : -9223372036854775808 ≤ x) (h2 : x ≤ 9223372036854775807) : wrap64 x = x := by unfold wrap64; omega
theorem tmod_range (x : Int) : 0 ≤ Int.tmod (wrap64 (Int.tmod x 1000 + 1000)) 1000 ∧ Int.tmod (wrap64 (Int.tmod x 1000 + 1000)) 1000 < 1000 := by
  have h1 : -1000 < Int.tmod x 1000 ∧ Int.tmod x 1000 < 1000 := by
    have := Int.tmod_lt_of_pos x (show (0 : Int) < 1000 by decide)
    have h2 := Int.lt_tmod_of_pos x (show (0 : Int) < 1000 by decide)
    omega
  rw [wrap_id (by omega) (by omega)]
  have h3 := Int.tmod_lt_of_pos (Int.tmod x 1000 + 1000) (show (0 : Int) < 1000 by decide)
  have h4 := Int.tmod_nonneg (a := Int.tmod x 1000 + 1000) 1000 (by omega)
  omega
theorem never_l0 (cl tk : List Int) (a b c : Int) (hs : setsS a b c = true) (hcl : cl.length ≤ 9000000000000000000) : ∀ (m i : Nat) (l : List S38) (next tick last : Int), i ≤ 60 → i ≤ cl.length → 3 * (60 - i) + 3 < m → MayS l a b c next tick → next ≤ (i : Int) + 1 → tick ≤ 1000 * (i : Int) → last < next →
    waybilllaw23_SessionNever.l0 m cl tk l next tick last (i : Int) a b c = some true
  | 0, i, l, next, tick, last, _, _, hm, _, _, _, _ => by omega
  | 1, i, l, next, tick, last, _, _, hm, _, _, _, _ => by omega
  | 2, i, l, next, tick, last, _, _, hm, _, _, _, _ => by omega
  | m + 3, i, l, next, tick, last, h60, hic, hm, hM, hn, ht, hl => by
    have fin : waybilllaw23_SessionNever.j1 (m + 2) cl tk l next tick last (i : Int) false a b c = some true := by
      simp only [waybilllaw23_SessionNever.j1]
      rw [if_neg (by simp), show session_Check.f l a b c next tick = some 0 from congrArg some (check_ofS hM), Option.bind_some, num_f, Option.bind_some, if_pos rfl]
    have step : ∀ tick', tick ≤ tick' → tick' ≤ 1000 * ((i : Int) + 1) → i < cl.length → i < 60 → waybilllaw23_SessionNever.j2 (m + 1) cl tk l next tick' last (i : Int) a b c = some true := by
      intro tick' h1 h2 hi h6
      have hM1 := may_tick hM h1 (by omega)
      have hM2 := may_stay hM1 b tick'
      have w2 : wrap64 ((i : Int) + 1) = ((i + 1 : Nat) : Int) := by rw [wrap_id (by omega) (by omega)]; push_cast; rfl
      simp only [waybilllaw23_SessionNever.j2]
      rw [exp_f, Option.bind_some, exp_ok hM1]
      dsimp only
      rw [num_f, Option.bind_some, if_pos rfl, if_pos (by omega), if_pos (by omega), open_f, Option.bind_some]
      rcases open_cases (stayS b tick' l) a b c next tick' (rd cl (i : Int)) with ⟨e, he, ho⟩ | ⟨_, h3, h4, h5, ho⟩
      · rw [ho]
        dsimp only
        rw [num_f, Option.bind_some, if_neg he, w2]
        exact never_l0 cl tk a b c hs hcl m (i + 1) _ _ _ _ (by omega) (by omega) (by omega) hM2 (by push_cast; omega) (by push_cast; omega) hl
      · have hmo := may_open hM2 h3 h4 h5
        obtain ⟨s, hs1⟩ : ∃ s : S38, s = ⟨next, rd cl (i : Int), tick', ⟨1, []⟩⟩ := ⟨_, rfl⟩
        have hs0 : s.f0 = next := by rw [hs1]
        rw [← hs1] at ho hmo
        rw [ho]
        dsimp only
        have hlen : (((stayS b tick' l ++ [s]).length : Nat) : Int) = ((stayS b tick' l).length : Int) + 1 := by simp
        have h64 := (sets_true.1 hs)
        have wl : wrap64 ((((stayS b tick' l ++ [s]).length : Nat) : Int) - 1) = ((stayS b tick' l).length : Int) := by rw [hlen, wrap_id (by omega) (by omega)]; omega
        have er : rd_T38 (stayS b tick' l ++ [s]) ((stayS b tick' l).length : Int) = s := by simp [rd_T38]
        have hnn := hM2.n
        clear hs1
        rw [num_f, Option.bind_some, if_pos rfl, wl, er, hs0, if_pos (by omega), if_pos (by rw [hlen]; omega), if_neg (by omega), if_pos (by rw [wrap_id (by omega) (by omega)]), if_pos rfl, w2]
        exact never_l0 cl tk a b c hs hcl m (i + 1) _ _ _ _ (by omega) (by omega) (by omega) hmo (by push_cast; omega) (by push_cast; omega) (by omega)
    simp only [waybilllaw23_SessionNever.l0]
    by_cases hi : i < cl.length
    · rw [if_pos (by omega)]
      by_cases h6 : i < 60
      · rw [decide_eq_true (by omega : (i : Int) < 60)]
        simp only [waybilllaw23_SessionNever.j1]
        rw [if_pos trivial]
        by_cases hk : (i : Int) < (tk.length : Int)
        · have hr := tmod_range (rd tk (i : Int))
          have hnn := hM.n
          rw [if_pos hk, if_pos (by omega), wrap_id (x := tick + _) (by omega) (by omega)]
          exact step _ (by omega) (by omega) hi h6
        · rw [if_neg hk]
          exact step _ (by omega) (by omega) hi h6
      · rw [decide_eq_false (by omega : ¬ (i : Int) < 60)]
        exact fin
    · rw [if_neg (by omega)]
      exact fin
theorem SessionNever (x0 : S24) (x1 x2 : List Int) {p0 p1 p2 q0 qx q2 : Prop} (_ : p0) (_ : p1) (_ : p2) (_ : q0) (h1 : x1.length * 8 ≤ reachBytes ∧ qx) (_ : q2) : ∃ k, waybilllaw23_SessionNever.f k x0.f0 x0.f1 x0.f2 x1 x2 = some true := by
  have h8 := h1.1
  simp only [reachBytes] at h8
  refine ⟨200, ?_⟩
  unfold waybilllaw23_SessionNever.f
  rw [alive_f, Option.bind_some, if_pos rfl]
  by_cases hs : setsS x0.f0 x0.f1 x0.f2 = true
  · exact never_l0 x1 x2 _ _ _ hs (by omega) 200 0 [] 1 0 0 (by omega) (by omega) (by omega) (may_nil hs (by omega) (by omega)) (by omega) (by omega) (by omega)
  · have hs' := Bool.of_not_eq_true hs
    have hc : ∀ (n t : Int), checkS [] x0.f0 x0.f1 x0.f2 n t = 4 := fun n t => by unfold checkS; rw [if_pos (.inl hs')]
    have j1f : ∀ (m : Nat) (t i : Int), waybilllaw23_SessionNever.j1 (m + 1) x1 x2 [] 1 t 0 i false x0.f0 x0.f1 x0.f2 = some true := fun m t i => by
      simp only [waybilllaw23_SessionNever.j1]
      rw [if_neg (by simp), show session_Check.f [] x0.f0 x0.f1 x0.f2 1 t = some 4 from congrArg some (hc 1 t), Option.bind_some, num_f, Option.bind_some, if_neg (by omega), rsets_f, Option.bind_some, hs']
      rfl
    have j2f : ∀ (m : Nat) (t i : Int), waybilllaw23_SessionNever.j2 (m + 1) x1 x2 [] 1 t 0 i x0.f0 x0.f1 x0.f2 = some true := fun m t i => by
      simp only [waybilllaw23_SessionNever.j2]
      rw [exp_f, Option.bind_some, exp_no (by rw [hc]; decide), hc]
      dsimp only
      rw [num_f, Option.bind_some, if_neg (by omega), if_pos (by rw [wrap_id (by simp) (by simp)]; rfl), rsets_f, Option.bind_some, hs']
      rfl
    simp only [waybilllaw23_SessionNever.l0]
    by_cases hi : (0 : Int) < (x1.length : Int)
    · rw [if_pos hi, decide_eq_true (by decide : (0 : Int) < 60)]
      simp only [waybilllaw23_SessionNever.j1]
      rw [if_pos trivial]
      by_cases hk : (0 : Int) < (x2.length : Int)
      · rw [if_pos hk, if_pos (by omega)]
        exact j2f _ _ _
      · rw [if_neg hk]
        exact j2f _ _ _
    · rw [if_neg hi]
      exact j1f _ _ _
end Go.Proofs.Ythfjgfldmkdlnaa.Pure
end
