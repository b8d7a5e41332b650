/- LedgerOwn: texts of this claim, packed: what the kit's print has written for it and own texts, without what its proof does not reach. -/
import Derived.Test.YtbegdgdghiigpaaKLedgerOwn12
import Derived.Test.YtbegdgdghiigpaaKLedgerOwn13
import Derived.Test.YtbegdgdghiigpaaKLedgerOwn14
set_option linter.unusedVariables false
set_option linter.unusedSimpArgs false
set_option linter.unusedSectionVars false
section
namespace Go.Proofs.Ytbegdgdghiigpaa.G
open WB Go.RowKit Go.Proofs.YtbegdgdghiigpaaW.PrintWords Go.Proofs.YtbegdgdghiigpaaW.PrintLast Go.Proofs.YtbegdgdghiigpaaW.PrintMore
attribute [local go_sem] max2_int min2_int max_two min_two max_three min_three max_four min_four   -- for this text's walks alone
set_option linter.unusedVariables false
set_option linter.unusedSimpArgs false
def slices_Clone_int_int.f (l0 : List Int) : Option (List Int) := if l0.length < 8796093022208 then some l0 else none
set_option maxHeartbeats 1000000 in
set_option maxRecDepth 100000 in
theorem slices_Clone_int_int.calls (A0 : Option Addr) (c0 : Nat) (l0 : List Int) (r : List Int) (w : World) (hr0 : Kd.C (Kd.int .i64) w A0 l0.length l0) (hc0 : l0.length ≤ c0) (h : slices_Clone_int_int.f l0 = some r) :
    Calls Try.prog 29 #[.slice A0 l0.length c0] w fun e w' => ∃ v0_ : Value, e = .returned (v0_) ∧ Kd.R (Kd.int .i64) 3 w' w.heap.size (fun _ => True) v0_ r ∧ Below w.heap.size w w' := by
  unfold slices_Clone_int_int.f at h
  split at h
  case isFalse => cases h
  case isTrue hl =>
  obtain rfl := Option.some.inj h
  clear h
  have HR0 := Aside0.mk hr0
  have HC0 := Aside0.mk hc0
  have HL := Aside0.mk hl
  clear hr0 hc0 hl
  rcases A0 with _ | ad
  · have hn : l0 = [] := by
      rcases Nat.eq_zero_or_pos l0.length with h0 | h0
      · exact List.eq_nil_of_length_eq_zero h0
      · obtain ⟨ad, h1, _⟩ := HR0.out.2.2 h0
        cases h1
    subst hn
    have heq : ∀ (W : World) (n c : Nat), (binOp .eql 22 (.slice none n c) (.slice none 0 0)).run Try.prog W = .ok (.bool true) W := fun W n c => Lib.run_eql_slice_nil W _ 3 none n c 0 0 Try.underlying22
    go_enter Try.func29, Try.ntmps29
    go_wp2
    go_ret
    exact ⟨_, rfl, Kd.R_nil _ _ _ _ _, Below.refl _ _⟩
  · have heq : ∀ (W : World) (a : Addr) (n c : Nat), (binOp .eql 22 (.slice (some a) n c) (.slice none 0 0)).run Try.prog W = .ok (.bool false) W := fun W a n c => Lib.run_eql_slice_nil W _ 3 (some a) n c 0 0 Try.underlying22
    go_enter Try.func29, Try.ntmps29
    go_wp2_with (first | ((with_reducible refine gate_dst (N := 5) rfl ?_); refine Kd.R_lit (Kd.int .i64) (w0 := w) w.heap.size 3 ?hg (N := 5) ?hd (xs := ([] : List Int)) (inner := []) (ok := fun _ => True) (okp := fun _ => True) ?hr (Reps.none _ _) (fun _ hk => hk) trivial (Below.refl _ _) (Nat.le_refl _) (by simp) ?_; (case hd => rfl); (case hg => rfl); (case hr => first | (go_simp; done) | (go_simp; rfl)); intro v1 w1 ho hb hg_ hnew_; clear hg_ hnew_; have HO := Aside0.mk ho; have HB1 := Aside0.mk hb; clear ho hb; obtain ⟨Ao, co, eo⟩ := Kd.R_slice HO.out; subst eo) | ((with_reducible refine gate_builtin (b := .append) (xs := #[.tmp 5, .tmp 6]) rfl ?_); at_builtin; refine Kd.R_append_rows (Kd.int .i64) (w0 := w) w.heap.size rfl (.tmp 5) (.tmp 6) 22 3 (.int .i64 0) 8 rfl Try.underlying22 info3 rfl (by decide) (by omega) _ ([] : List Int) l0 _ _ _ (fun _ => True) (fun _ => False) rfl rfl HO.out (Kd.C_below HR0.out HB1.out) (fun _ _ h => h) (fun _ h => h.elim) (fun _ _ => trivial) HB1.out HB1.out.size (by have := HL.out; simp; omega) ?_; intro v2 w2 ho2 hb2 hg2 hat2; rw [List.nil_append] at ho2; have HO2 := Aside0.mk ho2; have HB2 := Aside0.mk hb2; clear ho2 hb2 hg2 hat2))
    go_ret
    exact ⟨_, rfl, HO2.out, HB2.out⟩
def api_Entry.f (l0 : List S44) : Option (List S44) := if l0.length < 2199023255552 then some l0 else none
set_option maxHeartbeats 1000000 in
set_option maxRecDepth 100000 in
theorem api_Entry.calls (A0 : Option Addr) (c0 : Nat) (l0 : List S44) (r : List S44) (w : World) (hr0 : Kd.C k44 w A0 l0.length l0) (hc0 : l0.length ≤ c0) (h : api_Entry.f l0 = some r) :
    Calls Try.prog 30 #[.slice A0 l0.length c0] w fun e w' => ∃ v0_ : Value, e = .returned (v0_) ∧ Kd.R k44 44 w' w.heap.size (fun _ => True) v0_ r ∧ Below w.heap.size w w' := by
  unfold api_Entry.f at h
  split at h
  case isFalse => cases h
  case isTrue hl =>
  obtain rfl := Option.some.inj h
  clear h
  have HR0 := Aside0.mk hr0
  have HC0 := Aside0.mk hc0
  have HL := Aside0.mk hl
  clear hr0 hc0 hl
  rcases A0 with _ | ad
  · have hn : l0 = [] := by
      rcases Nat.eq_zero_or_pos l0.length with h0 | h0
      · exact List.eq_nil_of_length_eq_zero h0
      · obtain ⟨ad, h1, _⟩ := HR0.out.2.2 h0
        cases h1
    subst hn
    have heq : ∀ (W : World) (n c : Nat), (binOp .eql 23 (.slice none n c) (.slice none 0 0)).run Try.prog W = .ok (.bool true) W := fun W n c => Lib.run_eql_slice_nil W _ 44 none n c 0 0 Try.underlying23
    go_enter Try.func30, Try.ntmps30
    go_wp2
    go_ret
    exact ⟨_, rfl, Kd.R_nil _ _ _ _ _, Below.refl _ _⟩
  · have heq : ∀ (W : World) (a : Addr) (n c : Nat), (binOp .eql 23 (.slice (some a) n c) (.slice none 0 0)).run Try.prog W = .ok (.bool false) W := fun W a n c => Lib.run_eql_slice_nil W _ 44 (some a) n c 0 0 Try.underlying23
    go_enter Try.func30, Try.ntmps30
    go_wp2_with (first | ((with_reducible refine gate_dst (N := 5) rfl ?_); refine Kd.R_lit k44 (w0 := w) w.heap.size 44 ?hg (N := 5) ?hd (xs := ([] : List S44)) (inner := []) (ok := fun _ => True) (okp := fun _ => True) ?hr (Reps.none _ _) (fun _ hk => hk) trivial (Below.refl _ _) (Nat.le_refl _) (by simp) ?_; (case hd => rfl); (case hg => rfl); (case hr => first | (go_simp; done) | (go_simp; rfl)); intro v1 w1 ho hb hg_ hnew_; clear hg_ hnew_; have HO := Aside0.mk ho; have HB1 := Aside0.mk hb; clear ho hb; obtain ⟨Ao, co, eo⟩ := Kd.R_slice HO.out; subst eo) | ((with_reducible refine gate_builtin (b := .append) (xs := #[.tmp 5, .tmp 6]) rfl ?_); at_builtin; refine Kd.R_append_rows k44 (w0 := w) w.heap.size rfl (.tmp 5) (.tmp 6) 23 44 (.agg #[.int .i64 0, .int .i64 0, .int .i64 0, .int .i64 0, .int .i64 0, .int .i64 0, .int .i64 0]) 56 rfl Try.underlying23 info44 rfl (by decide) (by omega) _ ([] : List S44) l0 _ _ _ (fun _ => True) (fun _ => False) rfl rfl HO.out (Kd.C_below HR0.out HB1.out) (fun _ _ h => h) (fun _ h => h.elim) (fun _ _ => trivial) HB1.out HB1.out.size (by have := HL.out; simp; omega) ?_; intro v2 w2 ho2 hb2 hg2 hat2; rw [List.nil_append] at ho2; have HO2 := Aside0.mk ho2; have HB2 := Aside0.mk hb2; clear ho2 hb2 hg2 hat2))
    go_ret
    exact ⟨_, rfl, HO2.out, HB2.out⟩
theorem R_some {α : Type} {d : Kd α} {e : Nat} {w : World} {base : Nat} {ok : Nat → Prop} {A : Option Addr} {n c : Nat} {xs : List α} (h : d.R e w base ok (.slice A n c) xs) (hn : 0 < xs.length) : ∃ g, A = some ⟨g, 0, none⟩ := by
  obtain ⟨_, inner, ho, _⟩ := h
  obtain ⟨_, ⟨hv, h0⟩ | ⟨g, cap, cur, hv, _⟩⟩ := ho
  · omega
  · injection hv with hv
    exact ⟨g, hv⟩
set_option maxHeartbeats 4000000 in
set_option maxRecDepth 100000 in
theorem book_clone (g : Nat) (A0 A1 : Option Addr) (c0 c1 : Nat) (bs : List Int) (L : List S44) (w : World) (hb : w.heap[g]? = some (.cells #[.slice A0 bs.length c0, .slice A1 L.length c1] 57 (0, 0))) (h0 : Kd.C (Kd.int .i64) w A0 bs.length bs) (hc0 : bs.length ≤ c0) (h1 : Kd.C k44 w A1 L.length L) (hc1 : L.length ≤ c1) (hl0 : bs.length = 16) (hl1 : L.length < 1073741824) :
    Calls Try.prog 20 #[.pointer (some ⟨g, 0, none⟩)] w fun e w' => ∃ g' gb c cl Al, e = .returned (.pointer (some ⟨g', 0, none⟩)) ∧ w.heap.size ≤ g' ∧ Book w' w.heap.size g' gb c (.slice Al L.length cl) bs L ∧ Below w.heap.size w w' := by
  have HB0 := Aside0.mk hb
  have H0 := Aside0.mk h0
  have H1 := Aside0.mk h1
  have HC0 := Aside0.mk hc0
  have HC1 := Aside0.mk hc1
  have hgl := blk_lt hb
  have p0 : w.cell? ⟨g, 0, none⟩ = some (.slice A0 bs.length c0) := (blk_cell hb 0).trans rfl
  have p1 : w.cell? ⟨g, 1, none⟩ = some (.slice A1 L.length c1) := (blk_cell hb 1).trans rfl
  have HF0 : Aside0 (slices_Clone_int_int.f bs = some bs) := ⟨by unfold slices_Clone_int_int.f; rw [if_pos (by omega)]⟩
  have HF1 : Aside0 (api_Entry.f L = some L) := ⟨by unfold api_Entry.f; rw [if_pos (by omega)]⟩
  have HL0 := Aside0.mk hl0
  clear hb h0 h1 hc0 hc1 hl0 hl1
  go_enter Try.func20, Try.ntmps20
  go_wp2_with fail
  refine region_tail (B := _) (w0 := _) 15 [(3, (fun v _ => v = .pointer (some ⟨g, 0, none⟩))), (4, (fun v _ => v = .pointer (some ⟨g, 0, none⟩))), (5, (fun v _ => v = .pointer (some ⟨g, 0, none⟩))), (6, (fun v _ => v = .pointer (some ⟨g, 0, none⟩))), (7, (fun v _ => v = .slice A0 bs.length c0)), (8, (fun v W => ∃ A c, v = .slice A bs.length c ∧ Kd.R (Kd.int .i64) 3 W w.heap.size (fun _ => True) (.slice A bs.length c) bs)), (9, (fun v _ => v = .pointer (some ⟨g, 0, none⟩))), (10, (fun v _ => v = .pointer (some ⟨g, 0, none⟩))), (11, (fun v _ => v = .pointer (some ⟨g, 0, none⟩))), (12, (fun v _ => v = .pointer (some ⟨g, 1, none⟩))), (13, (fun v _ => v = .slice A1 L.length c1)), (14, (fun v W => ∃ A c, v = .slice A L.length c ∧ Kd.R k44 44 W w.heap.size (fun _ => True) (.slice A L.length c) L)), (15, (fun v W => ∃ Ab cb Al cl, v = .agg #[.slice Ab bs.length cb, .slice Al L.length cl] ∧ Kd.R (Kd.int .i64) 3 W w.heap.size (fun _ => True) (.slice Ab bs.length cb) bs ∧ Kd.R k44 44 W w.heap.size (fun _ => True) (.slice Al L.length cl) L)), (16, (fun v W => ∃ Ab cb Al cl, v = .agg #[.slice Ab bs.length cb, .slice Al L.length cl] ∧ Kd.R (Kd.int .i64) 3 W w.heap.size (fun _ => True) (.slice Ab bs.length cb) bs ∧ Kd.R k44 44 W w.heap.size (fun _ => True) (.slice Al L.length cl) L)), (17, (fun v W => ∃ g' gb c Al cl, v = .pointer (some ⟨g', 0, none⟩) ∧ w.heap.size ≤ g' ∧ Book W w.heap.size g' gb c (.slice Al L.length cl) bs L))] (by kernel_rfl) (by kernel_rfl) (by decide) (by kernel_rfl) (by kernel_rfl) (by rfl) (show ([3, 4, 5, 6, 7, 8, 9, 10, 11, 12, 13, 14, 15, 16, 17] : List Nat).Nodup by decide) ?hsz ?hst (Below.refl _ _) (Nat.le_refl _) ?step ?fin
  case hsz => exact List.forall_mem_cons.2 ⟨(show 3 < 18 by decide), List.forall_mem_cons.2 ⟨(show 4 < 18 by decide), List.forall_mem_cons.2 ⟨(show 5 < 18 by decide), List.forall_mem_cons.2 ⟨(show 6 < 18 by decide), List.forall_mem_cons.2 ⟨(show 7 < 18 by decide), List.forall_mem_cons.2 ⟨(show 8 < 18 by decide), List.forall_mem_cons.2 ⟨(show 9 < 18 by decide), List.forall_mem_cons.2 ⟨(show 10 < 18 by decide), List.forall_mem_cons.2 ⟨(show 11 < 18 by decide), List.forall_mem_cons.2 ⟨(show 12 < 18 by decide), List.forall_mem_cons.2 ⟨(show 13 < 18 by decide), List.forall_mem_cons.2 ⟨(show 14 < 18 by decide), List.forall_mem_cons.2 ⟨(show 15 < 18 by decide), List.forall_mem_cons.2 ⟨(show 16 < 18 by decide), List.forall_mem_cons.2 ⟨(show 17 < 18 by decide), fun _ h => nomatch h⟩⟩⟩⟩⟩⟩⟩⟩⟩⟩⟩⟩⟩⟩⟩
  case hst => exact List.forall_mem_cons.2 ⟨(fun v w1 w2 hb h => h), List.forall_mem_cons.2 ⟨(fun v w1 w2 hb h => h), List.forall_mem_cons.2 ⟨(fun v w1 w2 hb h => h), List.forall_mem_cons.2 ⟨(fun v w1 w2 hb h => h), List.forall_mem_cons.2 ⟨(fun v w1 w2 hb h => h), List.forall_mem_cons.2 ⟨(fun v w1 w2 hb h => h.imp fun A h => h.imp fun c h => ⟨h.1, Kd.R_below h.2 hb⟩), List.forall_mem_cons.2 ⟨(fun v w1 w2 hb h => h), List.forall_mem_cons.2 ⟨(fun v w1 w2 hb h => h), List.forall_mem_cons.2 ⟨(fun v w1 w2 hb h => h), List.forall_mem_cons.2 ⟨(fun v w1 w2 hb h => h), List.forall_mem_cons.2 ⟨(fun v w1 w2 hb h => h), List.forall_mem_cons.2 ⟨(fun v w1 w2 hb h => h.imp fun A h => h.imp fun c h => ⟨h.1, Kd.R_below h.2 hb⟩), List.forall_mem_cons.2 ⟨(fun v w1 w2 hb h => h.imp fun A h => h.imp fun c h => h.imp fun A' h => h.imp fun c' h => ⟨h.1, Kd.R_below h.2.1 hb, Kd.R_below h.2.2 hb⟩), List.forall_mem_cons.2 ⟨(fun v w1 w2 hb h => h.imp fun A h => h.imp fun c h => h.imp fun A' h => h.imp fun c' h => ⟨h.1, Kd.R_below h.2.1 hb, Kd.R_below h.2.2 hb⟩), List.forall_mem_cons.2 ⟨(fun v w1 w2 hb h => h.imp fun A h => h.imp fun c h => h.imp fun A' h => h.imp fun c' h => h.imp fun c'' h => ⟨h.1, h.2.1, h.2.2.below hb⟩), fun _ h => nomatch h⟩⟩⟩⟩⟩⟩⟩⟩⟩⟩⟩⟩⟩⟩⟩
  case step =>
    intro i_ o_ e_ ho he a w1_ hs hdf hfr hbl hbs hpre
    match i_, ho, he with
    | 0, ho, he => obtain rfl : o_ = ⟨_, _, _, _, _, _⟩ := (Option.some.inj ho).symm; obtain rfl := Option.some.inj he; clear he; have f0 : a.tmps.getD 0 undef = .pointer (some ⟨g, 0, none⟩) := (by rw [Array.getD_eq_getD_getElem?, hfr 0 (show ¬ 0 ∈ ([3, 4, 5, 6, 7, 8, 9, 10, 11, 12, 13, 14, 15, 16, 17] : List Nat) by decide)]; rfl); clear hpre hfr; refine wpOp_value (v := .pointer (some ⟨g, 0, none⟩)) ho rfl ?_ ⟨_, rfl, rfl, Below.refl _ _⟩; simp only [execOp, Act.eval, List.map_toArray, List.map_cons, List.map_nil, f0]; first | rfl | (go_simp; done) | (go_simp; rfl) | (go_simp; intro h_; exfalso; omega)
    | 1, ho, he => obtain rfl : o_ = ⟨_, _, _, _, _, _⟩ := (Option.some.inj ho).symm; obtain rfl := Option.some.inj he; clear he; have e3 : a.tmps.getD 3 undef = .pointer (some ⟨g, 0, none⟩) := hpre ⟨0, .data⟩ (by simp) rfl _ rfl; clear hpre hfr; refine wpOp_value (v := .pointer (some ⟨g, 0, none⟩)) ho rfl ?_ ⟨_, rfl, rfl, Below.refl _ _⟩; simp only [execOp, Act.eval, List.map_toArray, List.map_cons, List.map_nil, e3]; first | rfl | (go_simp; done) | (go_simp; rfl) | (go_simp; intro h_; exfalso; omega)
    | 2, ho, he => obtain rfl : o_ = ⟨_, _, _, _, _, _⟩ := (Option.some.inj ho).symm; obtain rfl := Option.some.inj he; clear he; have e4 : a.tmps.getD 4 undef = .pointer (some ⟨g, 0, none⟩) := hpre ⟨1, .data⟩ (by simp) rfl _ rfl; clear hpre hfr; refine wpOp_value (v := .pointer (some ⟨g, 0, none⟩)) ho rfl ?_ ⟨_, rfl, rfl, Below.refl _ _⟩; simp only [execOp, Act.eval, List.map_toArray, List.map_cons, List.map_nil, e4]; first | rfl | (go_simp; done) | (go_simp; rfl) | (go_simp; intro h_; exfalso; omega)
    | 3, ho, he => obtain rfl : o_ = ⟨_, _, _, _, _, _⟩ := (Option.some.inj ho).symm; obtain rfl := Option.some.inj he; clear he; have e5 : a.tmps.getD 5 undef = .pointer (some ⟨g, 0, none⟩) := hpre ⟨2, .data⟩ (by simp) rfl _ rfl; clear hpre hfr; refine wpOp_value (v := .pointer (some ⟨g, 0, none⟩)) ho rfl ?_ ⟨_, rfl, rfl, Below.refl _ _⟩; simp only [execOp, Act.eval, List.map_toArray, List.map_cons, List.map_nil, e5]; first | rfl | (go_simp; done) | (go_simp; rfl) | (go_simp; intro h_; exfalso; omega)
    | 4, ho, he => obtain rfl : o_ = ⟨_, _, _, _, _, _⟩ := (Option.some.inj ho).symm; obtain rfl := Option.some.inj he; clear he; have e6 : a.tmps.getD 6 undef = .pointer (some ⟨g, 0, none⟩) := hpre ⟨3, .data⟩ (by simp) rfl _ rfl; clear hpre hfr; have k_p0 := (hbl.cell (World.block_lt_of_cell? _ _ p0)).trans p0; refine wpOp_value (v := .slice A0 bs.length c0) ho rfl ?_ ⟨_, rfl, rfl, Below.refl _ _⟩; simp only [execOp, Act.eval, List.map_toArray, List.map_cons, List.map_nil, e6]; first | rfl | (go_simp; done) | (go_simp; rfl) | (go_simp; intro h_; exfalso; omega)
    | 5, ho, he => obtain rfl : o_ = ⟨_, _, _, _, _, _⟩ := (Option.some.inj ho).symm; obtain rfl := Option.some.inj he; clear he; have e7 : a.tmps.getD 7 undef = .slice A0 bs.length c0 := hpre ⟨4, .data⟩ (by simp) rfl _ rfl; clear hpre hfr; refine wpOp_call (fn := Try.f29) ho rfl rfl rfl rfl #[.slice A0 bs.length c0] rfl (by simp only [List.map_toArray, List.map_cons, List.map_nil, Act.eval, e7]) ?_; refine (slices_Clone_int_int.calls A0 c0 bs bs _ (Kd.C_below H0.out hbl) HC0.out HF0.out).mono ?_; rintro e w2 ⟨v0, rfl, hr, hb2⟩; obtain ⟨Ab, cb, rfl⟩ := Kd.R_slice hr; exact ⟨_, rfl, _, rfl, ⟨Ab, cb, rfl, Kd.R_lower hr hbs⟩, hb2⟩
    | 6, ho, he => obtain rfl : o_ = ⟨_, _, _, _, _, _⟩ := (Option.some.inj ho).symm; obtain rfl := Option.some.inj he; clear he; have f0 : a.tmps.getD 0 undef = .pointer (some ⟨g, 0, none⟩) := (by rw [Array.getD_eq_getD_getElem?, hfr 0 (show ¬ 0 ∈ ([3, 4, 5, 6, 7, 8, 9, 10, 11, 12, 13, 14, 15, 16, 17] : List Nat) by decide)]; rfl); clear hpre hfr; refine wpOp_value (v := .pointer (some ⟨g, 0, none⟩)) ho rfl ?_ ⟨_, rfl, rfl, Below.refl _ _⟩; simp only [execOp, Act.eval, List.map_toArray, List.map_cons, List.map_nil, f0]; first | rfl | (go_simp; done) | (go_simp; rfl) | (go_simp; intro h_; exfalso; omega)
    | 7, ho, he => obtain rfl : o_ = ⟨_, _, _, _, _, _⟩ := (Option.some.inj ho).symm; obtain rfl := Option.some.inj he; clear he; have e9 : a.tmps.getD 9 undef = .pointer (some ⟨g, 0, none⟩) := hpre ⟨6, .data⟩ (by simp) rfl _ rfl; clear hpre hfr; refine wpOp_value (v := .pointer (some ⟨g, 0, none⟩)) ho rfl ?_ ⟨_, rfl, rfl, Below.refl _ _⟩; simp only [execOp, Act.eval, List.map_toArray, List.map_cons, List.map_nil, e9]; first | rfl | (go_simp; done) | (go_simp; rfl) | (go_simp; intro h_; exfalso; omega)
    | 8, ho, he => obtain rfl : o_ = ⟨_, _, _, _, _, _⟩ := (Option.some.inj ho).symm; obtain rfl := Option.some.inj he; clear he; have e10 : a.tmps.getD 10 undef = .pointer (some ⟨g, 0, none⟩) := hpre ⟨7, .data⟩ (by simp) rfl _ rfl; clear hpre hfr; refine wpOp_value (v := .pointer (some ⟨g, 0, none⟩)) ho rfl ?_ ⟨_, rfl, rfl, Below.refl _ _⟩; simp only [execOp, Act.eval, List.map_toArray, List.map_cons, List.map_nil, e10]; first | rfl | (go_simp; done) | (go_simp; rfl) | (go_simp; intro h_; exfalso; omega)
    | 9, ho, he => obtain rfl : o_ = ⟨_, _, _, _, _, _⟩ := (Option.some.inj ho).symm; obtain rfl := Option.some.inj he; clear he; have e11 : a.tmps.getD 11 undef = .pointer (some ⟨g, 0, none⟩) := hpre ⟨8, .data⟩ (by simp) rfl _ rfl; clear hpre hfr; refine wpOp_value (v := .pointer (some ⟨g, 1, none⟩)) ho rfl ?_ ⟨_, rfl, rfl, Below.refl _ _⟩; simp only [execOp, Act.eval, List.map_toArray, List.map_cons, List.map_nil, e11]; first | rfl | (go_simp; done) | (go_simp; rfl) | (go_simp; intro h_; exfalso; omega)
    | 10, ho, he => obtain rfl : o_ = ⟨_, _, _, _, _, _⟩ := (Option.some.inj ho).symm; obtain rfl := Option.some.inj he; clear he; have e12 : a.tmps.getD 12 undef = .pointer (some ⟨g, 1, none⟩) := hpre ⟨9, .data⟩ (by simp) rfl _ rfl; clear hpre hfr; have k_p1 := (hbl.cell (World.block_lt_of_cell? _ _ p1)).trans p1; refine wpOp_value (v := .slice A1 L.length c1) ho rfl ?_ ⟨_, rfl, rfl, Below.refl _ _⟩; simp only [execOp, Act.eval, List.map_toArray, List.map_cons, List.map_nil, e12]; first | rfl | (go_simp; done) | (go_simp; rfl) | (go_simp; intro h_; exfalso; omega)
    | 11, ho, he => obtain rfl : o_ = ⟨_, _, _, _, _, _⟩ := (Option.some.inj ho).symm; obtain rfl := Option.some.inj he; clear he; have e13 : a.tmps.getD 13 undef = .slice A1 L.length c1 := hpre ⟨10, .data⟩ (by simp) rfl _ rfl; clear hpre hfr; refine wpOp_call (fn := Try.f30) ho rfl rfl rfl rfl #[.slice A1 L.length c1] rfl (by simp only [List.map_toArray, List.map_cons, List.map_nil, Act.eval, e13]) ?_; refine (api_Entry.calls A1 c1 L L _ (Kd.C_below H1.out hbl) HC1.out HF1.out).mono ?_; rintro e w2 ⟨v0, rfl, hr, hb2⟩; obtain ⟨Ab, cb, rfl⟩ := Kd.R_slice hr; exact ⟨_, rfl, _, rfl, ⟨Ab, cb, rfl, Kd.R_lower hr hbs⟩, hb2⟩
    | 12, ho, he => obtain rfl : o_ = ⟨_, _, _, _, _, _⟩ := (Option.some.inj ho).symm; obtain rfl := Option.some.inj he; clear he; have e8 := hpre ⟨5, .data⟩ (by simp) rfl _ rfl; dsimp only at e8; have e14 := hpre ⟨11, .data⟩ (by simp) rfl _ rfl; dsimp only at e14; clear hpre hfr; obtain ⟨Ab, cb, e8, hr8⟩ := e8; obtain ⟨Al, cl, e14, hr14⟩ := e14; refine wpOp_value (v := .agg #[.slice Ab bs.length cb, .slice Al L.length cl]) ho rfl ?_ ⟨_, rfl, ⟨Ab, cb, Al, cl, rfl, hr8, hr14⟩, Below.refl _ _⟩; simp only [execOp, Act.eval, List.map_toArray, List.map_cons, List.map_nil, e8, e14]; first | rfl | (go_simp; done) | (go_simp; rfl)
    | 13, ho, he => obtain rfl : o_ = ⟨_, _, _, _, _, _⟩ := (Option.some.inj ho).symm; obtain rfl := Option.some.inj he; clear he; have e15 := hpre ⟨12, .data⟩ (by simp) rfl _ rfl; dsimp only at e15; clear hpre hfr; obtain ⟨Ab, cb, Al, cl, e15, hr8, hr14⟩ := e15; refine wpOp_value (v := .agg #[.slice Ab bs.length cb, .slice Al L.length cl]) ho rfl ?_ ⟨_, rfl, ⟨Ab, cb, Al, cl, rfl, hr8, hr14⟩, Below.refl _ _⟩; simp only [execOp, Act.eval, List.map_toArray, List.map_cons, List.map_nil, e15]; first | rfl | (go_simp; done) | (go_simp; rfl)
    | 14, ho, he => obtain rfl : o_ = ⟨_, _, _, _, _, _⟩ := (Option.some.inj ho).symm; obtain rfl := Option.some.inj he; clear he; have e16 := hpre ⟨13, .data⟩ (by simp) rfl _ rfl; dsimp only at e16; clear hpre hfr; obtain ⟨Ab, cb, Al, cl, e16, hr8, hr14⟩ := e16; obtain ⟨gb, rfl⟩ := R_some hr8 (by have := HL0.out; omega); refine wpOp_value (w1 := w1_.alloc (.cells #[.slice (some ⟨gb, 0, none⟩) bs.length cb, .slice Al L.length cl] 57)) (v := .pointer (some ⟨w1_.heap.size, 0, none⟩)) ho rfl ?_ ⟨_, rfl, ⟨_, gb, cb, Al, cl, rfl, hbs, heap_new1 _ _, Kd.R_alloc hr8 _, Kd.R_alloc hr14 _⟩, below_alloc (Below.refl _ _) _⟩; simp only [execOp, Act.eval, List.map_toArray, List.map_cons, List.map_nil, e16]; first | rfl | (go_simp; done) | (go_simp; rfl)
    | n_ + 15, ho, he => simp at he
  case fin =>
    intro xv_ w1_ hbl hbs hx
    simp only [List.forall_mem_cons] at hx
    obtain ⟨x3, x4, x5, x6, x7, ⟨Ab, cb, x8, hr8⟩, x9, x10, x11, x12, x13, ⟨Al, cl, x14, hr14⟩, ⟨Ac, cc, Ad, cd, x15, _, _⟩, ⟨Ae, ce, Af, cf, x16, _, _⟩, ⟨g', gb, cb', Al', cl', x17, hg', hbk⟩, _⟩ := hx
    simp only [List.map_cons, List.map_nil, putL, Act.put, List.setIfInBounds_toArray, List.set_cons_zero, List.set_cons_succ, x3, x4, x5, x6, x7, x8, x9, x10, x11, x12, x13, x14, x15, x16, x17]
    simp only [List.drop_succ_cons, List.drop_zero]
    clear x3 x4 x5 x6 x7 x8 x9 x10 x11 x12 x13 x14 x15 x16 x17
    have HBK := Aside0.mk hbk
    have HBL := Aside0.mk hbl
    clear hbk hbl
    go_wp2
    go_ret
    exact ⟨g', gb, cb', cl', Al', rfl, hg', HBK.out, HBL.out⟩
end Go.Proofs.Ytbegdgdghiigpaa.G
end

section
namespace Go.Proofs.Ytbegdgdghiigpaa.G
open WB Go.RowKit Go.Proofs.YtbegdgdghiigpaaW.PrintWords Go.Proofs.YtbegdgdghiigpaaW.PrintLast Go.Proofs.YtbegdgdghiigpaaW.PrintMore
attribute [local go_sem] max2_int min2_int max_two min_two max_three min_three max_four min_four   -- for this text's walks alone
set_option linter.unusedVariables false
set_option linter.unusedSimpArgs false
/-- May an op be? -/
def chkL (o : S35) : Int := (ledger_Check.f 2 o.f0 o.f1 o.f2 o.f3).getD 0
theorem chk_j1 (b : Bool) (x0 x1 x2 x3 : Int) : ∃ e, ledger_Check.j1 1 b x0 x1 x2 x3 = some e ∧ (e = 0 → b = false) := by
  obtain ⟨u, hu⟩ : ∃ u, ledger_used.f x0 x1 x2 x3 = some u := by
    unfold ledger_used.f
    split
    · exact ⟨_, rfl⟩
    split
    · exact ⟨_, rfl⟩
    split <;> exact ⟨_, rfl⟩
  simp only [ledger_Check.j1]
  rw [hu]
  cases b
  · rw [if_neg (by simp), Option.bind_some]
    split
    · exact ⟨_, rfl, fun _ => rfl⟩
    · exact ⟨_, rfl, fun _ => rfl⟩
  · rw [if_pos rfl]
    exact ⟨_, rfl, fun h => by cases h⟩
theorem chk_j0 (m x0 x1 x2 x3 : Int) : ∃ e, ledger_Check.j0 2 m x0 x1 x2 x3 = some e ∧ (e = 0 → 0 ≤ x1 ∧ 0 ≤ x2 ∧ x1 < 16 ∧ x2 < 16 ∧ m ≤ x3 ∧ x3 ≤ 1073741824) := by
  simp only [ledger_Check.j0]
  by_cases h1 : mn x1 x2 < 0
  · rw [if_pos h1]
    obtain ⟨e, he, h⟩ := chk_j1 true x0 x1 x2 x3
    exact ⟨e, he, fun h0 => by have := h h0; cases this⟩
  rw [if_neg h1]
  by_cases h2 : mx x1 x2 ≥ 16
  · rw [if_pos h2]
    obtain ⟨e, he, h⟩ := chk_j1 true x0 x1 x2 x3
    exact ⟨e, he, fun h0 => by have := h h0; cases this⟩
  rw [if_neg h2]
  by_cases h3 : x3 < m
  · rw [if_pos h3]
    obtain ⟨e, he, h⟩ := chk_j1 true x0 x1 x2 x3
    exact ⟨e, he, fun h0 => by have := h h0; cases this⟩
  rw [if_neg h3]
  obtain ⟨e, he, h⟩ := chk_j1 (decide (x3 > 1073741824)) x0 x1 x2 x3
  refine ⟨e, he, fun h0 => ?_⟩
  have h4 := of_decide_eq_false (h h0)
  unfold mn at h1
  unfold mx at h2
  split at h1 <;> split at h2 <;> omega
theorem chkL_all (o : S35) : ledger_Check.f 2 o.f0 o.f1 o.f2 o.f3 = some (chkL o) ∧ (chkL o = 0 → OpOk o) := by
  have key : ∃ e, ledger_Check.f 2 o.f0 o.f1 o.f2 o.f3 = some e ∧ (e = 0 → OpOk o) := by
    unfold ledger_Check.f ledger_Once.f
    by_cases h1 : o.f0 < 1
    · rw [if_pos h1]
      exact ⟨23, rfl, fun h => by cases h⟩
    rw [if_neg h1]
    by_cases h2 : o.f0 > 4
    · rw [if_pos h2]
      exact ⟨23, rfl, fun h => by cases h⟩
    rw [if_neg h2]
    simp only [Option.bind_some, if_true]
    split
    · obtain ⟨e, he, h⟩ := chk_j0 0 o.f0 o.f1 o.f2 o.f3
      exact ⟨e, he, fun h0 => by obtain ⟨a, b, c, d, e, f⟩ := h h0; exact ⟨by omega, by omega, a, c, b, d, by omega, f⟩⟩
    · obtain ⟨e, he, h⟩ := chk_j0 (-1073741824) o.f0 o.f1 o.f2 o.f3
      exact ⟨e, he, fun h0 => by obtain ⟨a, b, c, d, e, f⟩ := h h0; exact ⟨by omega, by omega, a, c, b, d, e, f⟩⟩
  obtain ⟨e, he, h⟩ := key
  have hc : chkL o = e := by unfold chkL; rw [he]; rfl
  rw [hc]
  exact ⟨he, h⟩
theorem chkL_f (o : S35) : ledger_Check.f 2 o.f0 o.f1 o.f2 o.f3 = some (chkL o) := (chkL_all o).1
theorem chkL_ok {o : S35} (h : chkL o = 0) : OpOk o := (chkL_all o).2 h
/-- A log, replayed. -/
def replF : List Int × List S44 → List S44 → List Int × List S44 × Int
  | s, [] => (s.1, s.2, 0)
  | s, x :: r => if chkL x.f0 ≠ 0 then ([], [], chkL x.f0) else if 2 < x.f0.f0 then ([], [], 23) else if (doL s x.f0).2.f0 = x.f1.f0 ∧ (doL s x.f0).2.f1 = x.f1.f1 ∧ (doL s x.f0).2.f2 = x.f1.f2 then replF (doL s x.f0).1 r else ([], [], 9)
def replL (l : List S44) : List Int × List S44 × Int := if 1024 < l.length then ([], [], 3) else replF (List.replicate 16 0, []) l
theorem replF_bad {s : List Int × List S44} {x : S44} (r : List S44) (h : chkL x.f0 ≠ 0) : replF s (x :: r) = ([], [], chkL x.f0) := by simp only [replF]; rw [if_pos h]
theorem replF_kind {s : List Int × List S44} {x : S44} (r : List S44) (h : chkL x.f0 = 0) (h2 : 2 < x.f0.f0) : replF s (x :: r) = ([], [], 23) := by simp only [replF]; rw [if_neg (by rw [h]; simp), if_pos h2]
theorem replF_go {s : List Int × List S44} {x : S44} (r : List S44) (h : chkL x.f0 = 0) (h2 : ¬ 2 < x.f0.f0) : replF s (x :: r) = if (doL s x.f0).2.f0 = x.f1.f0 ∧ (doL s x.f0).2.f1 = x.f1.f1 ∧ (doL s x.f0).2.f2 = x.f1.f2 then replF (doL s x.f0).1 r else ([], [], 9) := by simp only [replF]; rw [if_neg (by rw [h]; simp), if_neg h2]
theorem replF_ok : ∀ (l : List S44) (s : List Int × List S44), replF s l = ([], [], (replF s l).2.2) ∨ (replF s l).2.2 = 0
  | [], s => .inr rfl
  | x :: r, s => by
    simp only [replF]
    split
    · exact .inl rfl
    split
    · exact .inl rfl
    split
    · exact replF_ok r _
    · exact .inl rfl
theorem Moved.blk {w w' : World} {S : Nat → Prop} {k : Nat} {o : Obj} (h : Moved w w' S) (hb : w.heap[k]? = some o) (hn : ¬ S k) : w'.heap[k]? = some o := (h.block k (blk_lt hb) hn).trans hb
theorem Moved.trans {w w1 w2 : World} {S : Nat → Prop} (h : Moved w w1 S) (h' : Moved w1 w2 S) : Moved w w2 S := ⟨h'.os.trans h.os, h'.tape.trans h.tape, h'.output.trans h.output, Nat.le_trans h.size h'.size, fun k hk hn => (h'.block k (by have := h.size; omega) hn).trans (h.block k hk hn)⟩
/-- A do among other operations. -/
structure ReplTr (w2 : World) (base g gb c : Nat) (vl : Value) (s : List Int × List S44) (i : Nat) (f : Nat → Bool) (W : World) : Prop where
  mv : Moved w2 W (DoS g gb vl)
  bk : f i = false → Book W base g gb c vl s.1 s.2
section
variable {w2 W W1 : World} {base g gb c : Nat} {vl : Value} {s : List Int × List S44} {i : Nat} {f : Nat → Bool}
theorem ReplTr.up (h : ReplTr w2 base g gb c vl s i f W) (j : Nat) : ReplTr w2 base g gb c vl s i (fun q => if q = j then true else f q) W := ⟨h.mv, fun hf => h.bk (by by_cases hi : i = j <;> simp_all)⟩
theorem ReplTr.did (h : ReplTr w2 base g gb c vl s i f W) (hm : Moved W W1 (DoS g gb vl)) : ReplTr w2 base g gb c vl s i (fun q => if q = i then true else f q) W1 := ⟨h.mv.trans hm, fun hf => by simp at hf⟩
end
/-- Where a replay stands. -/
structure ReplInv (w0 : World) (g k : Nat) (tot : List Int × List S44 × Int) (l : List S44) (wr : World) (gb c : Nat) (vl : Value) (s : List Int × List S44) : Prop where
  bk : Book wr w0.heap.size g gb c vl s.1 s.2
  ok : BalOk s.1
  ll : s.2.length ≤ k
  st : replF s (l.drop k) = tot
  res : wr.heap[w0.heap.size]? = some (.cells #[.slice none 0 0, .slice none 0 0] 25 (0, 0))
  bel : Below w0.heap.size w0 wr
def ledger_Replay.f (l0 : List (S44)) : Option (List Int × (List (S44)) × Int) := some (replL l0)
set_option maxHeartbeats 4000000 in
set_option maxRecDepth 100000 in
theorem ledger_Replay.calls (A0 : Option Addr) (c0 : Nat) (l0 : List (S44)) (r1 : List Int) (r2 : List (S44)) (r3 : Int) (w : World) (hr0 : Kd.C k44 w A0 l0.length l0) (hc0 : l0.length ≤ c0) (h : ledger_Replay.f l0 = some (r1, r2, r3)) :
    Calls Try.prog 22 #[.slice A0 l0.length c0] w fun e w' => ∃ v0_ v1_ : Value, e = .returned (.tuple #[.agg #[v0_, v1_], .int .i64 r3]) ∧ Kd.R (Kd.int .i64) 3 w' w.heap.size (fun _ => True) v0_ r1 ∧ Kd.R k44 44 w' w.heap.size (fun _ => True) v1_ r2 ∧ Below w.heap.size w w' := by
  unfold ledger_Replay.f at h
  replace h := Option.some.inj h
  have HH := Aside0.mk h
  have HR := Aside0.mk hr0
  have HC := Aside0.mk hc0
  have hm0 : l0.length ≤ 9223372036854775807 := hr0.2.1
  clear h hr0 hc0
  have HRES := Aside0.mk (heap_new1 w (.cells #[.slice none 0 0, .slice none 0 0] 25))
  by_cases hbig : 1024 < l0.length
  · have t1 : decide (1024 < l0.length) = true := decide_eq_true hbig
    have HE : Aside0 (replL l0 = ([], [], 3)) := ⟨by unfold replL; rw [if_pos hbig]⟩
    rw [HE.out] at HH
    obtain ⟨⟨⟩⟩ := HH
    go_enter Try.func22, Try.ntmps22
    go_wp2
    refine bodyPost_ret (results_list (rs := [.cell 2 25, .tmp 3]) rfl (by simp) (.cell (w.heap.size) 25 #[.slice none 0 0, .slice none 0 0] (0, 0) _ rfl HRES.out Try.underlying25 rfl (by kernel_rfl) (.tmp .nil))) rfl ?_
    exact ⟨_, _, rfl, Kd.R_nil _ _ _ _ _, Kd.R_nil _ _ _ _ _, below_alloc (Below.refl _ _) _⟩
  · have t1 : decide (1024 < l0.length) = false := decide_eq_false hbig
    have HE : Aside0 (replL l0 = replF (List.replicate 16 0, []) l0) := ⟨by unfold replL; rw [if_neg hbig]⟩
    rw [HE.out] at HH
    clear HE
    go_enter Try.func22, Try.ntmps22
    go_wp2_with fail
    go_at_call 16
    with_reducible refine (ledger_New.calls (List.replicate 16 0) [] _ rfl).mono ?_
    rintro e w1 ⟨v0, v1, rfl, hr0, hr1, hb⟩
    obtain ⟨Ab, cb, rfl⟩ := Kd.R_slice hr0
    obtain ⟨Al, cl, rfl⟩ := Kd.R_slice hr1
    obtain ⟨gb, rfl⟩ := R_some hr0 (by simp)
    have HI0 : Aside0 (ReplInv w w1.heap.size 0 (r1, r2, r3) l0 (w1.alloc (.cells #[.slice (some ⟨gb, 0, none⟩) (List.replicate 16 (0 : Int)).length cb, .slice Al 0 cl] 57)) gb cb (.slice Al 0 cl) (List.replicate 16 0, [])) := ⟨⟨⟨heap_new1 _ _, Kd.R_alloc (Kd.R_lower hr0 (by simp)) _, Kd.R_alloc (Kd.R_lower hr1 (by simp)) _⟩, ⟨rfl, by intro x hx; rw [List.eq_of_mem_replicate hx]; omega⟩, Nat.le_refl _, HH.out, blk_alloc (blk_below HRES.out hb) _, below_alloc (below_then (below_alloc (Below.refl _ _) _) (by simp) hb) _⟩⟩
    have HG0 : Aside0 (w.heap.size ≤ w1.heap.size) := ⟨by have := hb.size; simp at this; omega⟩
    clear hr0 hr1 hb
    go_wp2_with fail
    go_loopw [17] (fun v17 wr => ∃ (k c : Nat) (vl : Value) (s : List Int × List S44), v17 = .int .i64 k ∧ k ≤ l0.length ∧ Aside0 (ReplInv w w1.heap.size k (r1, r2, r3) l0 wr gb c vl s)) (fun v17 _ => l0.length - (intOf v17).toNat)
    case atStart => exact ⟨0, cb, _, _, rfl, by omega, HI0⟩
    case round =>
      obtain ⟨k, c, vl, s, rfl, hk, HI⟩ := hrel
      obtain ⟨Al, cl, rfl⟩ := Kd.R_slice HI.out.bk.rl
      have z0 : wr.cell? ⟨w.heap.size, 0, none⟩ = some (.slice none 0 0) := (blk_cell HI.out.res 0).trans rfl
      have z1 : wr.cell? ⟨w.heap.size, 1, none⟩ = some (.slice none 0 0) := (blk_cell HI.out.res 1).trans rfl
      have fz0 := blk_frozen HI.out.res 0
      have fz1 := blk_frozen HI.out.res 1
      have hzl := blk_lt HI.out.res
      have hgl := blk_lt HI.out.bk.b0
      have hgw : w.heap.size ≤ w1.heap.size := HG0.out
      by_cases hlt : k < l0.length
      · obtain ⟨ad, e1, q0', q1', q2', q3', q4', q5', q6'⟩ := at_T44 HR.out (k : Int) (by omega) (by omega)
        have q0 := (HI.out.bel.cell (World.block_lt_of_cell? _ _ q0')).trans q0'
        have q1 := (HI.out.bel.cell (World.block_lt_of_cell? _ _ q1')).trans q1'
        have q2 := (HI.out.bel.cell (World.block_lt_of_cell? _ _ q2')).trans q2'
        have q3 := (HI.out.bel.cell (World.block_lt_of_cell? _ _ q3')).trans q3'
        have q4 := (HI.out.bel.cell (World.block_lt_of_cell? _ _ q4')).trans q4'
        have q5 := (HI.out.bel.cell (World.block_lt_of_cell? _ _ q5')).trans q5'
        have q6 := (HI.out.bel.cell (World.block_lt_of_cell? _ _ q6')).trans q6'
        simp only [Int.toNat_natCast] at q0 q1 q2 q3 q4 q5 q6
        have hrd : rd_T44 l0 (k : Int) = l0[k] := by simp [rd_T44, List.getElem?_eq_getElem hlt]
        rw [hrd] at q0 q1 q2 q3 q4 q5 q6
        obtain ⟨x, hx⟩ : ∃ x, x = l0[k] := ⟨_, rfl⟩
        rw [← hx] at q0 q1 q2 q3 q4 q5 q6
        have HST : Aside0 (replF s (x :: l0.drop (k + 1)) = (r1, r2, r3)) := ⟨by rw [← HI.out.st, List.drop_eq_getElem_cons hlt, hx]⟩
        have b1 : decide ((k : Int) < (l0.length : Int)) = true := decide_eq_true (by omega)
        have b1' : decide (k < l0.length) = true := decide_eq_true hlt
        have BX := Aside0.mk (heap_new1 wr (.cells #[.int .i64 x.f0.f0, .int .i64 x.f0.f1, .int .i64 x.f0.f2, .int .i64 x.f0.f3, .int .i64 x.f1.f0, .int .i64 x.f1.f1, .int .i64 x.f1.f2] 44))
        have HK := Aside0.mk hk
        subst e1
        clear q0' q1' q2' q3' q4' q5' q6' hrd hx
        go_wp2_with fail
        go_at_call 18
        with_reducible refine (ledger_Check.calls 2 x.f0.f0 x.f0.f1 x.f0.f2 x.f0.f3 (chkL x.f0) _ (chkL_f x.f0)).mono ?_
        rintro e w2 ⟨rfl, hb⟩
        have BX2 := Aside0.mk (blk_below BX.out hb)
        have HB2 := Aside0.mk (below_then (below_alloc (Below.refl wr.heap.size wr) (.cells #[.int .i64 x.f0.f0, .int .i64 x.f0.f1, .int .i64 x.f0.f2, .int .i64 x.f0.f3, .int .i64 x.f1.f0, .int .i64 x.f1.f1, .int .i64 x.f1.f2] 44)) (by simp) hb)
        have RS2 := Aside0.mk (blk_below HI.out.res HB2.out)
        clear hb z0 z1 fz0 fz1 q0 q1 q2 q3 q4 q5 q6
        have hxl : wr.heap.size < w2.heap.size := blk_lt BX2.out
        have z0 : w2.cell? ⟨w.heap.size, 0, none⟩ = some (.slice none 0 0) := (blk_cell RS2.out 0).trans rfl
        have z1 : w2.cell? ⟨w.heap.size, 1, none⟩ = some (.slice none 0 0) := (blk_cell RS2.out 1).trans rfl
        have fz0 := blk_frozen RS2.out 0
        have fz1 := blk_frozen RS2.out 1
        have y0 : w2.cell? ⟨wr.heap.size, 0, none⟩ = some (.int .i64 x.f0.f0) := (blk_cell BX2.out 0).trans rfl
        have HBW : Aside0 (Below w.heap.size w w2) := ⟨below_then HI.out.bel HI.out.bel.size HB2.out⟩
        by_cases hc0 : chkL x.f0 = 0
        · rw [hc0]
          by_cases hw2 : 2 < x.f0.f0
          · have t2 : decide (2 < x.f0.f0) = true := decide_eq_true hw2
            obtain ⟨⟨⟩⟩ : Aside0 ((([], [], 23) : List Int × List S44 × Int) = (r1, r2, r3)) := ⟨by rw [← HST.out, replF_kind _ hc0 hw2]⟩
            go_wp2
            refine bodyPost_ret (results_list (rs := [.cell 2 25, .tmp 3]) rfl (by simp) (.cell (w.heap.size) 25 #[.slice none 0 0, .slice none 0 0] (0, 0) _ rfl (blk_put (cs := #[.slice none 0 0, .slice none 0 0]) (blk_put (cs := #[.slice none 0 0, .slice none 0 0]) RS2.out 0 _ rfl) 1 _ rfl) Try.underlying25 rfl (by kernel_rfl) (.tmp .nil))) rfl ?_
            exact ⟨_, _, rfl, Kd.R_nil _ _ _ _ _, Kd.R_nil _ _ _ _ _, below_set (below_set HBW.out (by simp)) (by simp)⟩
          · have t2 : decide (2 < x.f0.f0) = false := decide_eq_false hw2
            have HOK : Aside0 (OpOk x.f0) := ⟨chkL_ok hc0⟩
            have HST2 : Aside0 ((if (doL s x.f0).2.f0 = x.f1.f0 ∧ (doL s x.f0).2.f1 = x.f1.f1 ∧ (doL s x.f0).2.f2 = x.f1.f2 then replF (doL s x.f0).1 (l0.drop (k + 1)) else ([], [], 9)) = (r1, r2, r3)) := ⟨by rw [← HST.out, replF_go _ hc0 hw2]⟩
            have HNS : Aside0 (¬ DoS w1.heap.size gb (.slice Al s.2.length cl) wr.heap.size ∧ ¬ DoS w1.heap.size gb (.slice Al s.2.length cl) w.heap.size) := ⟨by
              have h1 := Kd.R_lt HI.out.bk.rb gb rfl
              have h2 := Kd.R_base HI.out.bk.rb gb rfl
              refine ⟨?_, ?_⟩
              · rintro (h | h | h)
                · omega
                · omega
                · have := Kd.R_lt HI.out.bk.rl _ h.symm; omega
              · rintro (h | h | h)
                · exact blk_ne HI.out.res HI.out.bk.b0 (by decide) h
                · exact Kd.R_ne HI.out.bk.rb HI.out.res (by decide) (by rw [h]; rfl)
                · exact Kd.R_ne HI.out.bk.rl HI.out.res (by decide) h⟩
            have BK2 := Aside0.mk (HI.out.bk.below HB2.out)
            go_wp2_with fail
            clear z0 z1 fz0 fz1 y0
            have y0 : ∀ f W, ReplTr w2 w.heap.size w1.heap.size gb c (.slice Al s.2.length cl) s 3 f W → W.cell? ⟨wr.heap.size, 0, none⟩ = some (.int .i64 x.f0.f0) := fun f W h => (blk_cell (h.mv.blk BX2.out HNS.out.1) 0).trans rfl
            have y1 : ∀ f W, ReplTr w2 w.heap.size w1.heap.size gb c (.slice Al s.2.length cl) s 3 f W → W.cell? ⟨wr.heap.size, 1, none⟩ = some (.int .i64 x.f0.f1) := fun f W h => (blk_cell (h.mv.blk BX2.out HNS.out.1) 1).trans rfl
            have y2 : ∀ f W, ReplTr w2 w.heap.size w1.heap.size gb c (.slice Al s.2.length cl) s 3 f W → W.cell? ⟨wr.heap.size, 2, none⟩ = some (.int .i64 x.f0.f2) := fun f W h => (blk_cell (h.mv.blk BX2.out HNS.out.1) 2).trans rfl
            have y3 : ∀ f W, ReplTr w2 w.heap.size w1.heap.size gb c (.slice Al s.2.length cl) s 3 f W → W.cell? ⟨wr.heap.size, 3, none⟩ = some (.int .i64 x.f0.f3) := fun f W h => (blk_cell (h.mv.blk BX2.out HNS.out.1) 3).trans rfl
            have y4 : ∀ f W, ReplTr w2 w.heap.size w1.heap.size gb c (.slice Al s.2.length cl) s 3 f W → W.cell? ⟨wr.heap.size, 4, none⟩ = some (.int .i64 x.f1.f0) := fun f W h => (blk_cell (h.mv.blk BX2.out HNS.out.1) 4).trans rfl
            have y5 : ∀ f W, ReplTr w2 w.heap.size w1.heap.size gb c (.slice Al s.2.length cl) s 3 f W → W.cell? ⟨wr.heap.size, 5, none⟩ = some (.int .i64 x.f1.f1) := fun f W h => (blk_cell (h.mv.blk BX2.out HNS.out.1) 5).trans rfl
            have y6 : ∀ f W, ReplTr w2 w.heap.size w1.heap.size gb c (.slice Al s.2.length cl) s 3 f W → W.cell? ⟨wr.heap.size, 6, none⟩ = some (.int .i64 x.f1.f2) := fun f W h => (blk_cell (h.mv.blk BX2.out HNS.out.1) 6).trans rfl
            refine region_moves 6 (fun i => if i = 3 then (fun u1 u2 => Moved u1 u2 (DoS w1.heap.size gb (.slice Al s.2.length cl))) else fun w1 w2 => w2 = w1) (ReplTr w2 w.heap.size w1.heap.size gb c (.slice Al s.2.length cl) s 3) [(33, (fun v _ => v = .pointer (some ⟨w1.heap.size, 0, none⟩))), (34, (fun v _ => v = .pointer (some ⟨wr.heap.size, 0, none⟩))), (35, (fun v _ => v = .agg #[.int .i64 x.f0.f0, .int .i64 x.f0.f1, .int .i64 x.f0.f2, .int .i64 x.f0.f3])), (36, (fun v W => ∃ vl', v = .agg #[.int .i64 (doL s x.f0).2.f0, .int .i64 (doL s x.f0).2.f1, .int .i64 (doL s x.f0).2.f2] ∧ Book W w.heap.size w1.heap.size gb c vl' (doL s x.f0).1.1 (doL s x.f0).1.2)), (37, (fun v _ => v = .pointer (some ⟨wr.heap.size, 4, none⟩))), (38, (fun v _ => v = .agg #[.int .i64 x.f1.f0, .int .i64 x.f1.f1, .int .i64 x.f1.f2]))] (by kernel_rfl) (by kernel_rfl) (by decide) (by kernel_rfl) (by kernel_rfl) (by rfl) (show ([33, 34, 35, 36, 37, 38] : List Nat).Nodup by decide) ?hsz ?hst ?hT0 ?hT ?step ?fin
            case hsz => exact List.forall_mem_cons.2 ⟨(show 33 < 46 by decide), List.forall_mem_cons.2 ⟨(show 34 < 46 by decide), List.forall_mem_cons.2 ⟨(show 35 < 46 by decide), List.forall_mem_cons.2 ⟨(show 36 < 46 by decide), List.forall_mem_cons.2 ⟨(show 37 < 46 by decide), List.forall_mem_cons.2 ⟨(show 38 < 46 by decide), fun _ h => nomatch h⟩⟩⟩⟩⟩⟩
            case hT0 => exact fun f _ => ⟨Moved.drew ⟨rfl, rfl, rfl, Nat.le_refl _, fun _ _ _ => rfl⟩, fun _ => BK2.out.below (below_drew (Below.refl _ _))⟩
            case hT =>
              intro f i_ w1 w2 hfi ht hr
              try dsimp only at hr
              by_cases hi36 : i_ = 3
              · subst hi36; simp only [if_true, reduceIte, Nat.reduceEqDiff] at hr; exact ht.did hr
              simp only [if_neg hi36] at hr
              subst hr
              exact ht.up _
            case hst =>
              intro i_ j_ q_ hq hij hin
              by_cases hi36 : i_ = 3
              · subst hi36; simp only [if_true, reduceIte, Nat.reduceEqDiff]
                match j_, hq with
                | 0, hq => exact .inr (by obtain rfl := Option.some.inj hq; exact fun f v w1 w2 ht hr h => h)
                | 1, hq => exact .inr (by obtain rfl := Option.some.inj hq; exact fun f v w1 w2 ht hr h => h)
                | 2, hq => exact .inr (by obtain rfl := Option.some.inj hq; exact fun f v w1 w2 ht hr h => h)
                | 3, hq => exact absurd rfl hij
                | 4, hq => exact .inr (by obtain rfl := Option.some.inj hq; exact fun f v w1 w2 ht hr h => h)
                | 5, hq => exact .inr (by obtain rfl := Option.some.inj hq; exact fun f v w1 w2 ht hr h => h)
                | n_ + 6, hq => simp at hq
              simp only [if_neg hi36]
              exact .inr fun f v w1 w2 _ hr h => hr ▸ h
            case step =>
              intro i_ o_ e_ ho he f a w1_ hfi hs hdf hfr htr hpre
              try dsimp only
              match i_, ho, he, hfi with
              | 0, ho, he, hfi => obtain rfl : o_ = ⟨_, _, _, _, _, _⟩ := (Option.some.inj ho).symm; obtain rfl := Option.some.inj he; clear he; have f4 : a.tmps.getD 4 undef = .pointer (some ⟨w1.heap.size, 0, none⟩) := (by rw [Array.getD_eq_getD_getElem?, hfr 4 (show ¬ 4 ∈ ([33, 34, 35, 36, 37, 38] : List Nat) by decide)]; rfl); clear hpre hfr; refine wpOp_value (v := .pointer (some ⟨w1.heap.size, 0, none⟩)) ho rfl ?_ ⟨_, rfl, rfl, rfl⟩; simp only [execOp, Act.eval, List.map_toArray, List.map_cons, List.map_nil, f4]; first | rfl | (go_simp; done) | (go_simp; rfl) | (go_simp; intro h_; exfalso; omega)
              | 1, ho, he, hfi => obtain rfl : o_ = ⟨_, _, _, _, _, _⟩ := (Option.some.inj ho).symm; obtain rfl := Option.some.inj he; clear he; have f6 : a.tmps.getD 6 undef = .pointer (some ⟨wr.heap.size, 0, none⟩) := (by rw [Array.getD_eq_getD_getElem?, hfr 6 (show ¬ 6 ∈ ([33, 34, 35, 36, 37, 38] : List Nat) by decide)]; rfl); clear hpre hfr; refine wpOp_value (v := .pointer (some ⟨wr.heap.size, 0, none⟩)) ho rfl ?_ ⟨_, rfl, rfl, rfl⟩; simp only [execOp, Act.eval, List.map_toArray, List.map_cons, List.map_nil, f6]; first | rfl | (go_simp; done) | (go_simp; rfl) | (go_simp; intro h_; exfalso; omega)
              | 2, ho, he, hfi => obtain rfl : o_ = ⟨_, _, _, _, _, _⟩ := (Option.some.inj ho).symm; obtain rfl := Option.some.inj he; clear he; have e34 : a.tmps.getD 34 undef = .pointer (some ⟨wr.heap.size, 0, none⟩) := hpre ⟨1, .data⟩ (by simp) rfl _ rfl; clear hpre hfr; have k_y0 := y0 _ _ htr; have k_y1 := y1 _ _ htr; have k_y2 := y2 _ _ htr; have k_y3 := y3 _ _ htr; refine wpOp_value (v := .agg #[.int .i64 x.f0.f0, .int .i64 x.f0.f1, .int .i64 x.f0.f2, .int .i64 x.f0.f3]) ho rfl ?_ ⟨_, rfl, rfl, rfl⟩; simp only [execOp, Act.eval, List.map_toArray, List.map_cons, List.map_nil, e34]; first | rfl | (go_simp; done) | (go_simp; rfl) | (go_simp; intro h_; exfalso; omega)
              | 3, ho, he, hfi => obtain rfl : o_ = ⟨_, _, _, _, _, _⟩ := (Option.some.inj ho).symm; obtain rfl := Option.some.inj he; clear he; have e33 : a.tmps.getD 33 undef = .pointer (some ⟨w1.heap.size, 0, none⟩) := hpre ⟨0, .data⟩ (by simp) rfl _ rfl; have e35 : a.tmps.getD 35 undef = .agg #[.int .i64 x.f0.f0, .int .i64 x.f0.f1, .int .i64 x.f0.f2, .int .i64 x.f0.f3] := hpre ⟨2, .data⟩ (by simp) rfl _ rfl; clear hpre hfr; refine wpOp_call (fn := Try.f21) ho rfl rfl rfl rfl #[.pointer (some ⟨w1.heap.size, 0, none⟩), .agg #[.int .i64 x.f0.f0, .int .i64 x.f0.f1, .int .i64 x.f0.f2, .int .i64 x.f0.f3]] rfl (by simp only [List.map_toArray, List.map_cons, List.map_nil, Act.eval, e33, e35]) ?_; refine (book_do w.heap.size w1.heap.size gb c cl Al s.1 s.2 x.f0 _ (htr.bk hfi) HOK.out HI.out.ok (by have := HI.out.ll; omega) (by have := htr.mv.size; have := HBW.out.size; omega)).mono ?_; rintro e w3 ⟨rfl, ⟨vl', hb', hat⟩, hm⟩; exact ⟨_, rfl, _, rfl, ⟨vl', rfl, hb'⟩, hm⟩
              | 4, ho, he, hfi => obtain rfl : o_ = ⟨_, _, _, _, _, _⟩ := (Option.some.inj ho).symm; obtain rfl := Option.some.inj he; clear he; have f6 : a.tmps.getD 6 undef = .pointer (some ⟨wr.heap.size, 0, none⟩) := (by rw [Array.getD_eq_getD_getElem?, hfr 6 (show ¬ 6 ∈ ([33, 34, 35, 36, 37, 38] : List Nat) by decide)]; rfl); clear hpre hfr; refine wpOp_value (v := .pointer (some ⟨wr.heap.size, 4, none⟩)) ho rfl ?_ ⟨_, rfl, rfl, rfl⟩; simp only [execOp, Act.eval, List.map_toArray, List.map_cons, List.map_nil, f6]; first | rfl | (go_simp; done) | (go_simp; rfl) | (go_simp; intro h_; exfalso; omega)
              | 5, ho, he, hfi => obtain rfl : o_ = ⟨_, _, _, _, _, _⟩ := (Option.some.inj ho).symm; obtain rfl := Option.some.inj he; clear he; have e37 : a.tmps.getD 37 undef = .pointer (some ⟨wr.heap.size, 4, none⟩) := hpre ⟨4, .data⟩ (by simp) rfl _ rfl; clear hpre hfr; have k_y4 := y4 _ _ htr; have k_y5 := y5 _ _ htr; have k_y6 := y6 _ _ htr; refine wpOp_value (v := .agg #[.int .i64 x.f1.f0, .int .i64 x.f1.f1, .int .i64 x.f1.f2]) ho rfl ?_ ⟨_, rfl, rfl, rfl⟩; simp only [execOp, Act.eval, List.map_toArray, List.map_cons, List.map_nil, e37]; first | rfl | (go_simp; done) | (go_simp; rfl) | (go_simp; intro h_; exfalso; omega)
              | n_ + 6, ho, he, hfi => simp at he
            case fin =>
              intro xv_ f_ w1_ htr hx
              simp only [List.forall_mem_cons] at hx
              obtain ⟨x33, x34, x35, ⟨vl', x36, hbk⟩, x37, x38, _⟩ := hx
              simp only [List.map_cons, List.map_nil, putL, Act.put, List.setIfInBounds_toArray, List.set_cons_zero, List.set_cons_succ, x33, x34, x35, x36, x37, x38]
              simp only [List.drop_succ_cons, List.drop_zero]
              clear x33 x34 x35 x36 x37 x38
              have HM := Aside0.mk htr.mv
              have HBK := Aside0.mk hbk
              have hsz := htr.mv.size
              have RS3 := Aside0.mk (htr.mv.blk RS2.out HNS.out.2)
              have HBL3 : Aside0 (Below w.heap.size w w1_) := ⟨htr.mv.below HBW.out HBW.out.size (fun q hq => by
                rcases hq with rfl | rfl | hq
                · exact hgw
                · exact Kd.R_base HI.out.bk.rb _ rfl
                · exact Kd.R_base HI.out.bk.rl _ hq.symm)⟩
              clear y0 y1 y2 y3 y4 y5 y6 htr hbk
              have z0 : w1_.cell? ⟨w.heap.size, 0, none⟩ = some (.slice none 0 0) := (blk_cell RS3.out 0).trans rfl
              have z1 : w1_.cell? ⟨w.heap.size, 1, none⟩ = some (.slice none 0 0) := (blk_cell RS3.out 1).trans rfl
              have fz0 := blk_frozen RS3.out 0
              have fz1 := blk_frozen RS3.out 1
              have HOK1 : Aside0 (BalOk (doL s x.f0).1.1 ∧ (doL s x.f0).1.2.length ≤ k + 1) := ⟨change_ok HI.out.ok x.f0, by have := HI.out.ll; simp only [doL]; split <;> simp <;> omega⟩
              obtain ⟨d, hd⟩ : ∃ d, d = (doL s x.f0).2 := ⟨_, rfl⟩
              obtain ⟨s', hs'⟩ : ∃ s', s' = (doL s x.f0).1 := ⟨_, rfl⟩
              rw [← hs'] at HBK HOK1 HST2
              rw [← hd] at HST2 ⊢
              clear hd hs'
              by_cases h0 : d.f0 = x.f1.f0
              · by_cases h1 : d.f1 = x.f1.f1
                · by_cases h2 : d.f2 = x.f1.f2
                  · have HST3 : Aside0 (replF s' (l0.drop (k + 1)) = (r1, r2, r3)) := ⟨by rw [← HST2.out, if_pos ⟨h0, h1, h2⟩]⟩
                    have e0 : (d.f0 == x.f1.f0) = true := by simpa using h0
                    have e1 : (d.f1 == x.f1.f1) = true := by simpa using h1
                    have e2 : (d.f2 == x.f1.f2) = true := by simpa using h2
                    go_wp2
                    go_roundw
                    case rel => exact ⟨k + 1, c, vl', s', by go_num, by omega, ⟨HBK.out, HOK1.out.1, HOK1.out.2, HST3.out, RS3.out, HBL3.out⟩⟩
                    case measure => simp [intOf]; omega
                  · obtain ⟨⟨⟩⟩ : Aside0 ((([], [], 9) : List Int × List S44 × Int) = (r1, r2, r3)) := ⟨by rw [← HST2.out, if_neg (fun h => h2 h.2.2)]⟩
                    have e0 : (d.f0 == x.f1.f0) = true := by simpa using h0
                    have e1 : (d.f1 == x.f1.f1) = true := by simpa using h1
                    have e2 : (d.f2 == x.f1.f2) = false := by simpa using h2
                    go_wp2
                    refine bodyPost_ret (results_list (rs := [.cell 2 25, .tmp 3]) rfl (by simp) (.cell (w.heap.size) 25 #[.slice none 0 0, .slice none 0 0] (0, 0) _ rfl (blk_put (cs := #[.slice none 0 0, .slice none 0 0]) (blk_put (cs := #[.slice none 0 0, .slice none 0 0]) RS3.out 0 _ rfl) 1 _ rfl) Try.underlying25 rfl (by kernel_rfl) (.tmp .nil))) rfl ?_
                    exact ⟨_, _, rfl, Kd.R_nil _ _ _ _ _, Kd.R_nil _ _ _ _ _, below_set (below_set HBL3.out (by simp)) (by simp)⟩
                · obtain ⟨⟨⟩⟩ : Aside0 ((([], [], 9) : List Int × List S44 × Int) = (r1, r2, r3)) := ⟨by rw [← HST2.out, if_neg (fun h => h1 h.2.1)]⟩
                  have e0 : (d.f0 == x.f1.f0) = true := by simpa using h0
                  have e1 : (d.f1 == x.f1.f1) = false := by simpa using h1
                  go_wp2
                  refine bodyPost_ret (results_list (rs := [.cell 2 25, .tmp 3]) rfl (by simp) (.cell (w.heap.size) 25 #[.slice none 0 0, .slice none 0 0] (0, 0) _ rfl (blk_put (cs := #[.slice none 0 0, .slice none 0 0]) (blk_put (cs := #[.slice none 0 0, .slice none 0 0]) RS3.out 0 _ rfl) 1 _ rfl) Try.underlying25 rfl (by kernel_rfl) (.tmp .nil))) rfl ?_
                  exact ⟨_, _, rfl, Kd.R_nil _ _ _ _ _, Kd.R_nil _ _ _ _ _, below_set (below_set HBL3.out (by simp)) (by simp)⟩
              · obtain ⟨⟨⟩⟩ : Aside0 ((([], [], 9) : List Int × List S44 × Int) = (r1, r2, r3)) := ⟨by rw [← HST2.out, if_neg (fun h => h0 h.1)]⟩
                have e0 : (d.f0 == x.f1.f0) = false := by simpa using h0
                go_wp2
                refine bodyPost_ret (results_list (rs := [.cell 2 25, .tmp 3]) rfl (by simp) (.cell (w.heap.size) 25 #[.slice none 0 0, .slice none 0 0] (0, 0) _ rfl (blk_put (cs := #[.slice none 0 0, .slice none 0 0]) (blk_put (cs := #[.slice none 0 0, .slice none 0 0]) RS3.out 0 _ rfl) 1 _ rfl) Try.underlying25 rfl (by kernel_rfl) (.tmp .nil))) rfl ?_
                exact ⟨_, _, rfl, Kd.R_nil _ _ _ _ _, Kd.R_nil _ _ _ _ _, below_set (below_set HBL3.out (by simp)) (by simp)⟩
        · obtain ⟨⟨⟩⟩ : Aside0 ((([], [], chkL x.f0) : List Int × List S44 × Int) = (r1, r2, r3)) := ⟨by rw [← HST.out, replF_bad _ hc0]⟩
          have t3 : (chkL x.f0 == 0) = false := by simpa using hc0
          go_wp2
          refine bodyPost_ret (results_list (rs := [.cell 2 25, .tmp 3]) rfl (by simp) (.cell (w.heap.size) 25 #[.slice none 0 0, .slice none 0 0] (0, 0) _ rfl (blk_put (cs := #[.slice none 0 0, .slice none 0 0]) (blk_put (cs := #[.slice none 0 0, .slice none 0 0]) RS2.out 0 _ rfl) 1 _ rfl) Try.underlying25 rfl (by kernel_rfl) (.tmp .nil))) rfl ?_
          exact ⟨_, _, rfl, Kd.R_nil _ _ _ _ _, Kd.R_nil _ _ _ _ _, below_set (below_set HBW.out (by simp)) (by simp)⟩
      · have b1 : decide ((k : Int) < (l0.length : Int)) = false := decide_eq_false (by omega)
        have b1' : decide (k < l0.length) = false := decide_eq_false hlt
        have hst := HI.out.st
        rw [List.drop_of_length_le (by omega)] at hst
        obtain ⟨⟨⟩⟩ := Aside0.mk hst
        have g0 : wr.cell? ⟨w1.heap.size, 0, none⟩ = some (.slice (some ⟨gb, 0, none⟩) s.1.length c) := (blk_cell HI.out.bk.b0 0).trans rfl
        have g1 : wr.cell? ⟨w1.heap.size, 1, none⟩ = some (.slice Al s.2.length cl) := (blk_cell HI.out.bk.b0 1).trans rfl
        go_wp2
        have hp1 := blk_put (cs := #[.slice none 0 0, .slice none 0 0]) HI.out.res 0 (.slice (some ⟨gb, 0, none⟩) s.1.length c) rfl
        refine bodyPost_ret (results_list (rs := [.cell 2 25, .tmp 3]) rfl (by simp) (.cell (w.heap.size) 25 #[.slice (some ⟨gb, 0, none⟩) s.1.length c, .slice Al s.2.length cl] (0, 0) _ rfl (blk_put (cs := #[.slice (some ⟨gb, 0, none⟩) s.1.length c, .slice none 0 0]) hp1 1 _ rfl) Try.underlying25 rfl (by kernel_rfl) (.tmp .nil))) rfl ?_
        exact ⟨_, _, rfl, Kd.R_set (Kd.R_set HI.out.bk.rb HI.out.res (by decide) 0 _) hp1 (by decide) 1 _, Kd.R_set (Kd.R_set HI.out.bk.rl HI.out.res (by decide) 0 _) hp1 (by decide) 1 _, below_set (below_set HI.out.bel (by simp)) (by simp)⟩
end Go.Proofs.Ytbegdgdghiigpaa.G
end
