-- Made by wip/tools/xprint.py (over the kit's print program) for this claim.
import Derived.Test.YtbegdgdghiigpaaGx0
import Derived.Test.YtbegdgdghiigpaaGx8
import Derived.Test.YtbegdgdghiigpaaGx11
import Derived.Test.YtbegdgdghiigpaaGx12
namespace Go.Proofs.Ytbegdgdghiigpaa.G
open WB Go.RowKit Go.Proofs.YtbegdgdghiigpaaW.PrintWords Go.Proofs.YtbegdgdghiigpaaW.PrintLast Go.Proofs.YtbegdgdghiigpaaW.PrintMore
attribute [local go_sem] max2_int min2_int max_two min_two max_three min_three max_four min_four   -- for this text's walks alone
set_option linter.unusedVariables false
set_option linter.unusedSimpArgs false

/-! ### ledger_book_clone: function 20 -/
theorem R_some {α : Type} {d : Kd α} {e : Nat} {w : World} {base : Nat} {ok : Nat → Prop} {A : Option Addr} {n c : Nat} {xs : List α} (h : d.R e w base ok (.slice A n c) xs) (hn : 0 < xs.length) : ∃ g, A = some ⟨g, 0, none⟩ := by
  obtain ⟨_, inner, ho, _⟩ := h
  obtain ⟨_, ⟨hv, h0⟩ | ⟨g, cap, cur, hv, _⟩⟩ := ho
  · omega
  · injection hv with hv
    exact ⟨g, hv⟩
set_option maxHeartbeats 4000000 in
set_option maxRecDepth 100000 in
theorem book_clone (g : Nat) (A0 A1 : Option Addr) (c0 c1 : Nat) (bs : List Int) (L : List S44) (w : World) (hb : w.heap[g]? = some (.cells #[.slice A0 bs.length c0, .slice A1 L.length c1] 57 (0, 0))) (h0 : Kd.C (Kd.int .i64) w A0 bs.length bs) (hc0 : bs.length ≤ c0) (h1 : Kd.C k44 w A1 L.length L) (hc1 : L.length ≤ c1) (hl0 : bs.length = 16) (hl1 : L.length < 1073741824) :
    Calls Try.prog 20 #[.pointer (some ⟨g, 0, none⟩)] w fun e w' => ∃ g' gb c cl Al, e = .returned (.pointer (some ⟨g', 0, none⟩)) ∧ w.heap.size ≤ g' ∧ Book w' w.heap.size g' gb c (.slice Al L.length cl) bs L ∧ Below w.heap.size w w' := by
  have HB0 := Aside0.mk hb
  have H0 := Aside0.mk h0
  have H1 := Aside0.mk h1
  have HC0 := Aside0.mk hc0
  have HC1 := Aside0.mk hc1
  have hgl := blk_lt hb
  have p0 : w.cell? ⟨g, 0, none⟩ = some (.slice A0 bs.length c0) := (blk_cell hb 0).trans rfl
  have p1 : w.cell? ⟨g, 1, none⟩ = some (.slice A1 L.length c1) := (blk_cell hb 1).trans rfl
  have HF0 : Aside0 (slices_Clone_int_int.f bs = some bs) := ⟨by unfold slices_Clone_int_int.f; rw [if_pos (by omega)]⟩
  have HF1 : Aside0 (api_Entry.f L = some L) := ⟨by unfold api_Entry.f; rw [if_pos (by omega)]⟩
  have HL0 := Aside0.mk hl0
  clear hb h0 h1 hc0 hc1 hl0 hl1
  go_enter Try.func20, Try.ntmps20
  go_wp2_with fail
  refine region_tail (B := _) (w0 := _) 15 [(3, (fun v _ => v = .pointer (some ⟨g, 0, none⟩))), (4, (fun v _ => v = .pointer (some ⟨g, 0, none⟩))), (5, (fun v _ => v = .pointer (some ⟨g, 0, none⟩))), (6, (fun v _ => v = .pointer (some ⟨g, 0, none⟩))), (7, (fun v _ => v = .slice A0 bs.length c0)), (8, (fun v W => ∃ A c, v = .slice A bs.length c ∧ Kd.R (Kd.int .i64) 3 W w.heap.size (fun _ => True) (.slice A bs.length c) bs)), (9, (fun v _ => v = .pointer (some ⟨g, 0, none⟩))), (10, (fun v _ => v = .pointer (some ⟨g, 0, none⟩))), (11, (fun v _ => v = .pointer (some ⟨g, 0, none⟩))), (12, (fun v _ => v = .pointer (some ⟨g, 1, none⟩))), (13, (fun v _ => v = .slice A1 L.length c1)), (14, (fun v W => ∃ A c, v = .slice A L.length c ∧ Kd.R k44 44 W w.heap.size (fun _ => True) (.slice A L.length c) L)), (15, (fun v W => ∃ Ab cb Al cl, v = .agg #[.slice Ab bs.length cb, .slice Al L.length cl] ∧ Kd.R (Kd.int .i64) 3 W w.heap.size (fun _ => True) (.slice Ab bs.length cb) bs ∧ Kd.R k44 44 W w.heap.size (fun _ => True) (.slice Al L.length cl) L)), (16, (fun v W => ∃ Ab cb Al cl, v = .agg #[.slice Ab bs.length cb, .slice Al L.length cl] ∧ Kd.R (Kd.int .i64) 3 W w.heap.size (fun _ => True) (.slice Ab bs.length cb) bs ∧ Kd.R k44 44 W w.heap.size (fun _ => True) (.slice Al L.length cl) L)), (17, (fun v W => ∃ g' gb c Al cl, v = .pointer (some ⟨g', 0, none⟩) ∧ w.heap.size ≤ g' ∧ Book W w.heap.size g' gb c (.slice Al L.length cl) bs L))] (by kernel_rfl) (by kernel_rfl) (by decide) (by kernel_rfl) (by kernel_rfl) (by rfl) (show ([3, 4, 5, 6, 7, 8, 9, 10, 11, 12, 13, 14, 15, 16, 17] : List Nat).Nodup by decide) ?hsz ?hst (Below.refl _ _) (Nat.le_refl _) ?step ?fin
  case hsz => exact List.forall_mem_cons.2 ⟨(show 3 < 18 by decide), List.forall_mem_cons.2 ⟨(show 4 < 18 by decide), List.forall_mem_cons.2 ⟨(show 5 < 18 by decide), List.forall_mem_cons.2 ⟨(show 6 < 18 by decide), List.forall_mem_cons.2 ⟨(show 7 < 18 by decide), List.forall_mem_cons.2 ⟨(show 8 < 18 by decide), List.forall_mem_cons.2 ⟨(show 9 < 18 by decide), List.forall_mem_cons.2 ⟨(show 10 < 18 by decide), List.forall_mem_cons.2 ⟨(show 11 < 18 by decide), List.forall_mem_cons.2 ⟨(show 12 < 18 by decide), List.forall_mem_cons.2 ⟨(show 13 < 18 by decide), List.forall_mem_cons.2 ⟨(show 14 < 18 by decide), List.forall_mem_cons.2 ⟨(show 15 < 18 by decide), List.forall_mem_cons.2 ⟨(show 16 < 18 by decide), List.forall_mem_cons.2 ⟨(show 17 < 18 by decide), fun _ h => nomatch h⟩⟩⟩⟩⟩⟩⟩⟩⟩⟩⟩⟩⟩⟩⟩
  case hst => exact List.forall_mem_cons.2 ⟨(fun v w1 w2 hb h => h), List.forall_mem_cons.2 ⟨(fun v w1 w2 hb h => h), List.forall_mem_cons.2 ⟨(fun v w1 w2 hb h => h), List.forall_mem_cons.2 ⟨(fun v w1 w2 hb h => h), List.forall_mem_cons.2 ⟨(fun v w1 w2 hb h => h), List.forall_mem_cons.2 ⟨(fun v w1 w2 hb h => h.imp fun A h => h.imp fun c h => ⟨h.1, Kd.R_below h.2 hb⟩), List.forall_mem_cons.2 ⟨(fun v w1 w2 hb h => h), List.forall_mem_cons.2 ⟨(fun v w1 w2 hb h => h), List.forall_mem_cons.2 ⟨(fun v w1 w2 hb h => h), List.forall_mem_cons.2 ⟨(fun v w1 w2 hb h => h), List.forall_mem_cons.2 ⟨(fun v w1 w2 hb h => h), List.forall_mem_cons.2 ⟨(fun v w1 w2 hb h => h.imp fun A h => h.imp fun c h => ⟨h.1, Kd.R_below h.2 hb⟩), List.forall_mem_cons.2 ⟨(fun v w1 w2 hb h => h.imp fun A h => h.imp fun c h => h.imp fun A' h => h.imp fun c' h => ⟨h.1, Kd.R_below h.2.1 hb, Kd.R_below h.2.2 hb⟩), List.forall_mem_cons.2 ⟨(fun v w1 w2 hb h => h.imp fun A h => h.imp fun c h => h.imp fun A' h => h.imp fun c' h => ⟨h.1, Kd.R_below h.2.1 hb, Kd.R_below h.2.2 hb⟩), List.forall_mem_cons.2 ⟨(fun v w1 w2 hb h => h.imp fun A h => h.imp fun c h => h.imp fun A' h => h.imp fun c' h => h.imp fun c'' h => ⟨h.1, h.2.1, h.2.2.below hb⟩), fun _ h => nomatch h⟩⟩⟩⟩⟩⟩⟩⟩⟩⟩⟩⟩⟩⟩⟩
  case step =>
    intro i_ o_ e_ ho he a w1_ hs hdf hfr hbl hbs hpre
    match i_, ho, he with
    | 0, ho, he =>
      obtain rfl : o_ = { dst := some 3, op := Go.Op.move (Go.Operand.tmp 0), type := 55, pos := "ledger.go:71", after := #[], guard := none } := (Option.some.inj ho).symm
      obtain rfl := Option.some.inj he; clear he
      have f0 : a.tmps.getD 0 undef = .pointer (some ⟨g, 0, none⟩) := by rw [Array.getD_eq_getD_getElem?, hfr 0 (show ¬ 0 ∈ ([3, 4, 5, 6, 7, 8, 9, 10, 11, 12, 13, 14, 15, 16, 17] : List Nat) by decide)]; rfl
      clear hpre hfr
      refine wpOp_value (v := .pointer (some ⟨g, 0, none⟩)) ho rfl ?_ ⟨_, rfl, rfl, Below.refl _ _⟩
      simp only [execOp, Act.eval, List.map_toArray, List.map_cons, List.map_nil, f0]
      first | rfl | (go_simp; done) | (go_simp; rfl) | (go_simp; intro h_; exfalso; omega)
    | 1, ho, he =>
      obtain rfl : o_ = { dst := some 4, op := Go.Op.nilCheck (Go.Operand.tmp 3), type := 0, pos := "ledger.go:71", after := #[{ on := 0, ground := Go.Ground.data }], guard := none } := (Option.some.inj ho).symm
      obtain rfl := Option.some.inj he; clear he
      have e3 : a.tmps.getD 3 undef = .pointer (some ⟨g, 0, none⟩) := hpre ⟨0, .data⟩ (by simp) rfl _ rfl
      clear hpre hfr
      refine wpOp_value (v := .pointer (some ⟨g, 0, none⟩)) ho rfl ?_ ⟨_, rfl, rfl, Below.refl _ _⟩
      simp only [execOp, Act.eval, List.map_toArray, List.map_cons, List.map_nil, e3]
      first | rfl | (go_simp; done) | (go_simp; rfl) | (go_simp; intro h_; exfalso; omega)
    | 2, ho, he =>
      obtain rfl : o_ = { dst := some 5, op := Go.Op.fieldAddr 57 (Go.Operand.tmp 4) 0, type := 0, pos := "ledger.go:71", after := #[{ on := 1, ground := Go.Ground.data }], guard := none } := (Option.some.inj ho).symm
      obtain rfl := Option.some.inj he; clear he
      have e4 : a.tmps.getD 4 undef = .pointer (some ⟨g, 0, none⟩) := hpre ⟨1, .data⟩ (by simp) rfl _ rfl
      clear hpre hfr
      refine wpOp_value (v := .pointer (some ⟨g, 0, none⟩)) ho rfl ?_ ⟨_, rfl, rfl, Below.refl _ _⟩
      simp only [execOp, Act.eval, List.map_toArray, List.map_cons, List.map_nil, e4]
      first | rfl | (go_simp; done) | (go_simp; rfl) | (go_simp; intro h_; exfalso; omega)
    | 3, ho, he =>
      obtain rfl : o_ = { dst := some 6, op := Go.Op.fieldAddr 25 (Go.Operand.tmp 5) 0, type := 0, pos := "ledger.go:71", after := #[{ on := 2, ground := Go.Ground.data }], guard := none } := (Option.some.inj ho).symm
      obtain rfl := Option.some.inj he; clear he
      have e5 : a.tmps.getD 5 undef = .pointer (some ⟨g, 0, none⟩) := hpre ⟨2, .data⟩ (by simp) rfl _ rfl
      clear hpre hfr
      refine wpOp_value (v := .pointer (some ⟨g, 0, none⟩)) ho rfl ?_ ⟨_, rfl, rfl, Below.refl _ _⟩
      simp only [execOp, Act.eval, List.map_toArray, List.map_cons, List.map_nil, e5]
      first | rfl | (go_simp; done) | (go_simp; rfl) | (go_simp; intro h_; exfalso; omega)
    | 4, ho, he =>
      obtain rfl : o_ = { dst := some 7, op := Go.Op.load 22 (Go.Operand.tmp 6), type := 22, pos := "ledger.go:71", after := #[{ on := 3, ground := Go.Ground.data }], guard := none } := (Option.some.inj ho).symm
      obtain rfl := Option.some.inj he; clear he
      have e6 : a.tmps.getD 6 undef = .pointer (some ⟨g, 0, none⟩) := hpre ⟨3, .data⟩ (by simp) rfl _ rfl
      clear hpre hfr
      have k_p0 := (hbl.cell (World.block_lt_of_cell? _ _ p0)).trans p0
      refine wpOp_value (v := .slice A0 bs.length c0) ho rfl ?_ ⟨_, rfl, rfl, Below.refl _ _⟩
      simp only [execOp, Act.eval, List.map_toArray, List.map_cons, List.map_nil, e6]
      first | rfl | (go_simp; done) | (go_simp; rfl) | (go_simp; intro h_; exfalso; omega)
    | 5, ho, he =>
      obtain rfl : o_ = { dst := some 8, op := Go.Op.call { callee := Go.Callee.value (Go.Operand.func 29), args := #[Go.Operand.tmp 7], argTypes := #[22] }, type := 22, pos := "ledger.go:71", after := #[{ on := 4, ground := Go.Ground.data }], guard := none } := (Option.some.inj ho).symm
      obtain rfl := Option.some.inj he; clear he
      have e7 : a.tmps.getD 7 undef = .slice A0 bs.length c0 := hpre ⟨4, .data⟩ (by simp) rfl _ rfl
      clear hpre hfr
      refine wpOp_call (fn := Try.f29) ho rfl rfl rfl rfl #[.slice A0 bs.length c0] rfl (by simp only [List.map_toArray, List.map_cons, List.map_nil, Act.eval, e7]) ?_
      refine (slices_Clone_int_int.calls A0 c0 bs bs _ (Kd.C_below H0.out hbl) HC0.out HF0.out).mono ?_
      rintro e w2 ⟨v0, rfl, hr, hb2⟩
      obtain ⟨Ab, cb, rfl⟩ := Kd.R_slice hr
      exact ⟨_, rfl, _, rfl, ⟨Ab, cb, rfl, Kd.R_lower hr hbs⟩, hb2⟩
    | 6, ho, he =>
      obtain rfl : o_ = { dst := some 9, op := Go.Op.move (Go.Operand.tmp 0), type := 55, pos := "ledger.go:71", after := #[], guard := none } := (Option.some.inj ho).symm
      obtain rfl := Option.some.inj he; clear he
      have f0 : a.tmps.getD 0 undef = .pointer (some ⟨g, 0, none⟩) := by rw [Array.getD_eq_getD_getElem?, hfr 0 (show ¬ 0 ∈ ([3, 4, 5, 6, 7, 8, 9, 10, 11, 12, 13, 14, 15, 16, 17] : List Nat) by decide)]; rfl
      clear hpre hfr
      refine wpOp_value (v := .pointer (some ⟨g, 0, none⟩)) ho rfl ?_ ⟨_, rfl, rfl, Below.refl _ _⟩
      simp only [execOp, Act.eval, List.map_toArray, List.map_cons, List.map_nil, f0]
      first | rfl | (go_simp; done) | (go_simp; rfl) | (go_simp; intro h_; exfalso; omega)
    | 7, ho, he =>
      obtain rfl : o_ = { dst := some 10, op := Go.Op.nilCheck (Go.Operand.tmp 9), type := 0, pos := "ledger.go:71", after := #[{ on := 6, ground := Go.Ground.data }], guard := none } := (Option.some.inj ho).symm
      obtain rfl := Option.some.inj he; clear he
      have e9 : a.tmps.getD 9 undef = .pointer (some ⟨g, 0, none⟩) := hpre ⟨6, .data⟩ (by simp) rfl _ rfl
      clear hpre hfr
      refine wpOp_value (v := .pointer (some ⟨g, 0, none⟩)) ho rfl ?_ ⟨_, rfl, rfl, Below.refl _ _⟩
      simp only [execOp, Act.eval, List.map_toArray, List.map_cons, List.map_nil, e9]
      first | rfl | (go_simp; done) | (go_simp; rfl) | (go_simp; intro h_; exfalso; omega)
    | 8, ho, he =>
      obtain rfl : o_ = { dst := some 11, op := Go.Op.fieldAddr 57 (Go.Operand.tmp 10) 0, type := 0, pos := "ledger.go:71", after := #[{ on := 7, ground := Go.Ground.data }], guard := none } := (Option.some.inj ho).symm
      obtain rfl := Option.some.inj he; clear he
      have e10 : a.tmps.getD 10 undef = .pointer (some ⟨g, 0, none⟩) := hpre ⟨7, .data⟩ (by simp) rfl _ rfl
      clear hpre hfr
      refine wpOp_value (v := .pointer (some ⟨g, 0, none⟩)) ho rfl ?_ ⟨_, rfl, rfl, Below.refl _ _⟩
      simp only [execOp, Act.eval, List.map_toArray, List.map_cons, List.map_nil, e10]
      first | rfl | (go_simp; done) | (go_simp; rfl) | (go_simp; intro h_; exfalso; omega)
    | 9, ho, he =>
      obtain rfl : o_ = { dst := some 12, op := Go.Op.fieldAddr 25 (Go.Operand.tmp 11) 1, type := 0, pos := "ledger.go:71", after := #[{ on := 8, ground := Go.Ground.data }], guard := none } := (Option.some.inj ho).symm
      obtain rfl := Option.some.inj he; clear he
      have e11 : a.tmps.getD 11 undef = .pointer (some ⟨g, 0, none⟩) := hpre ⟨8, .data⟩ (by simp) rfl _ rfl
      clear hpre hfr
      refine wpOp_value (v := .pointer (some ⟨g, 1, none⟩)) ho rfl ?_ ⟨_, rfl, rfl, Below.refl _ _⟩
      simp only [execOp, Act.eval, List.map_toArray, List.map_cons, List.map_nil, e11]
      first | rfl | (go_simp; done) | (go_simp; rfl) | (go_simp; intro h_; exfalso; omega)
    | 10, ho, he =>
      obtain rfl : o_ = { dst := some 13, op := Go.Op.load 23 (Go.Operand.tmp 12), type := 23, pos := "ledger.go:71", after := #[{ on := 9, ground := Go.Ground.data }], guard := none } := (Option.some.inj ho).symm
      obtain rfl := Option.some.inj he; clear he
      have e12 : a.tmps.getD 12 undef = .pointer (some ⟨g, 1, none⟩) := hpre ⟨9, .data⟩ (by simp) rfl _ rfl
      clear hpre hfr
      have k_p1 := (hbl.cell (World.block_lt_of_cell? _ _ p1)).trans p1
      refine wpOp_value (v := .slice A1 L.length c1) ho rfl ?_ ⟨_, rfl, rfl, Below.refl _ _⟩
      simp only [execOp, Act.eval, List.map_toArray, List.map_cons, List.map_nil, e12]
      first | rfl | (go_simp; done) | (go_simp; rfl) | (go_simp; intro h_; exfalso; omega)
    | 11, ho, he =>
      obtain rfl : o_ = { dst := some 14, op := Go.Op.call { callee := Go.Callee.value (Go.Operand.func 30), args := #[Go.Operand.tmp 13], argTypes := #[23] }, type := 23, pos := "ledger.go:71", after := #[{ on := 10, ground := Go.Ground.data }, { on := 5, ground := Go.Ground.chain }], guard := none } := (Option.some.inj ho).symm
      obtain rfl := Option.some.inj he; clear he
      have e13 : a.tmps.getD 13 undef = .slice A1 L.length c1 := hpre ⟨10, .data⟩ (by simp) rfl _ rfl
      clear hpre hfr
      refine wpOp_call (fn := Try.f30) ho rfl rfl rfl rfl #[.slice A1 L.length c1] rfl (by simp only [List.map_toArray, List.map_cons, List.map_nil, Act.eval, e13]) ?_
      refine (api_Entry.calls A1 c1 L L _ (Kd.C_below H1.out hbl) HC1.out HF1.out).mono ?_
      rintro e w2 ⟨v0, rfl, hr, hb2⟩
      obtain ⟨Ab, cb, rfl⟩ := Kd.R_slice hr
      exact ⟨_, rfl, _, rfl, ⟨Ab, cb, rfl, Kd.R_lower hr hbs⟩, hb2⟩
    | 12, ho, he =>
      obtain rfl : o_ = { dst := some 15, op := Go.Op.build 25 #[(0, Go.Operand.tmp 8), (1, Go.Operand.tmp 14)], type := 25, pos := "ledger.go:71", after := #[{ on := 5, ground := Go.Ground.data }, { on := 11, ground := Go.Ground.data }], guard := none } := (Option.some.inj ho).symm
      obtain rfl := Option.some.inj he; clear he
      have e8 := hpre ⟨5, .data⟩ (by simp) rfl _ rfl; dsimp only at e8
      have e14 := hpre ⟨11, .data⟩ (by simp) rfl _ rfl; dsimp only at e14
      clear hpre hfr
      obtain ⟨Ab, cb, e8, hr8⟩ := e8
      obtain ⟨Al, cl, e14, hr14⟩ := e14
      refine wpOp_value (v := .agg #[.slice Ab bs.length cb, .slice Al L.length cl]) ho rfl ?_ ⟨_, rfl, ⟨Ab, cb, Al, cl, rfl, hr8, hr14⟩, Below.refl _ _⟩
      simp only [execOp, Act.eval, List.map_toArray, List.map_cons, List.map_nil, e8, e14]
      first | rfl | (go_simp; done) | (go_simp; rfl)
    | 13, ho, he =>
      obtain rfl : o_ = { dst := some 16, op := Go.Op.build 57 #[(0, Go.Operand.tmp 15)], type := 57, pos := "ledger.go:71", after := #[{ on := 12, ground := Go.Ground.data }], guard := none } := (Option.some.inj ho).symm
      obtain rfl := Option.some.inj he; clear he
      have e15 := hpre ⟨12, .data⟩ (by simp) rfl _ rfl; dsimp only at e15
      clear hpre hfr
      obtain ⟨Ab, cb, Al, cl, e15, hr8, hr14⟩ := e15
      refine wpOp_value (v := .agg #[.slice Ab bs.length cb, .slice Al L.length cl]) ho rfl ?_ ⟨_, rfl, ⟨Ab, cb, Al, cl, rfl, hr8, hr14⟩, Below.refl _ _⟩
      simp only [execOp, Act.eval, List.map_toArray, List.map_cons, List.map_nil, e15]
      first | rfl | (go_simp; done) | (go_simp; rfl)
    | 14, ho, he =>
      obtain rfl : o_ = { dst := some 17, op := Go.Op.box 57 (Go.Operand.tmp 16), type := 55, pos := "ledger.go:71", after := #[{ on := 13, ground := Go.Ground.data }], guard := none } := (Option.some.inj ho).symm
      obtain rfl := Option.some.inj he; clear he
      have e16 := hpre ⟨13, .data⟩ (by simp) rfl _ rfl; dsimp only at e16
      clear hpre hfr
      obtain ⟨Ab, cb, Al, cl, e16, hr8, hr14⟩ := e16
      obtain ⟨gb, rfl⟩ := R_some hr8 (by have := HL0.out; omega)
      refine wpOp_value (w1 := w1_.alloc (.cells #[.slice (some ⟨gb, 0, none⟩) bs.length cb, .slice Al L.length cl] 57)) (v := .pointer (some ⟨w1_.heap.size, 0, none⟩)) ho rfl ?_ ⟨_, rfl, ⟨_, gb, cb, Al, cl, rfl, hbs, heap_new1 _ _, Kd.R_alloc hr8 _, Kd.R_alloc hr14 _⟩, below_alloc (Below.refl _ _) _⟩
      simp only [execOp, Act.eval, List.map_toArray, List.map_cons, List.map_nil, e16]
      first | rfl | (go_simp; done) | (go_simp; rfl)
    | n_ + 15, ho, he => simp at he
  case fin =>
    intro xv_ w1_ hbl hbs hx
    simp only [List.forall_mem_cons] at hx
    obtain ⟨x3, x4, x5, x6, x7, ⟨Ab, cb, x8, hr8⟩, x9, x10, x11, x12, x13, ⟨Al, cl, x14, hr14⟩, ⟨Ac, cc, Ad, cd, x15, _, _⟩, ⟨Ae, ce, Af, cf, x16, _, _⟩, ⟨g', gb, cb', Al', cl', x17, hg', hbk⟩, _⟩ := hx
    simp only [List.map_cons, List.map_nil, putL, Act.put, List.setIfInBounds_toArray, List.set_cons_zero, List.set_cons_succ, x3, x4, x5, x6, x7, x8, x9, x10, x11, x12, x13, x14, x15, x16, x17]
    simp only [List.drop_succ_cons, List.drop_zero]
    clear x3 x4 x5 x6 x7 x8 x9 x10 x11 x12 x13 x14 x15 x16 x17
    have HBK := Aside0.mk hbk
    have HBL := Aside0.mk hbl
    clear hbk hbl
    go_wp2
    go_ret
    exact ⟨g', gb, cb', cl', Al', rfl, hg', HBK.out, HBL.out⟩

end Go.Proofs.Ytbegdgdghiigpaa.G
