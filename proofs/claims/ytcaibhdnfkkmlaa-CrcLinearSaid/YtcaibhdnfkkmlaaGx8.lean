-- Made by wip/tools/xprint.py (over the kit's print program) for this claim.
import Derived.Test.YtcaibhdnfkkmlaaGx0
import Derived.Test.YtcaibhdnfkkmlaaGx6
import Derived.Test.YtcaibhdnfkkmlaaGx7
namespace Go.Proofs.Ytcaibhdnfkkmlaa.G
open WB Go.RowKit Go.Proofs.YtcaibhdnfkkmlaaW.PrintWords Go.Proofs.YtcaibhdnfkkmlaaW.PrintLast Go.Proofs.YtcaibhdnfkkmlaaW.PrintMore
attribute [local go_sem] max2_int min2_int max_two min_two max_three min_three max_four min_four   -- for this text's walks alone
set_option linter.unusedVariables false
set_option linter.unusedSimpArgs false

/-! ### waybilllaw02_CrcLinear: function 3 -/
def xor3 (l0 l1 l2 : List Int) (i : Nat) : Int := Go.bits .xor .u8 (Go.bits .xor .u8 (l0.getD i 0) (l1.getD i 0)) (l2.getD i 0)
def xorN (l0 l1 l2 : List Int) (n : Nat) : List Int := (List.range n).map (xor3 l0 l1 l2)
def sumO (l : List Int) : BitVec 32 := ~~~ (runO (BitVec.allOnes 32) l)
def linL (l0 l1 l2 : List Int) : Nat := min l0.length (min l1.length l2.length)
theorem xorN_succ (l0 l1 l2 : List Int) (n : Nat) : xorN l0 l1 l2 (n + 1) = xorN l0 l1 l2 n ++ [xor3 l0 l1 l2 n] := by
  unfold xorN
  rw [List.range_succ, List.map_append]
  rfl
theorem xorN_len (l0 l1 l2 : List Int) (n : Nat) : (xorN l0 l1 l2 n).length = n := by simp [xorN]
theorem xor8_ok (x y : Int) (hx : 0 ≤ x ∧ x < 256) (hy : 0 ≤ y ∧ y < 256) : 0 ≤ Go.bits .xor .u8 x y ∧ Go.bits .xor .u8 x y < 256 := by
  rw [u8_xor x y hx.1 hx.2 hy.1 hy.2]
  have : x.toNat ^^^ y.toNat < 2 ^ 8 := Nat.xor_lt_two_pow (by omega) (by omega)
  omega
theorem xorN_ok (l0 l1 l2 : List Int) (n : Nat) (h0 : octetsOk l0 = true) (h1 : octetsOk l1 = true) (h2 : octetsOk l2 = true) : octetsOk (xorN l0 l1 l2 n) = true := by
  unfold octetsOk
  rw [List.all_eq_true]
  intro x hx
  obtain ⟨i, _, rfl⟩ := List.mem_map.1 hx
  have := xor8_ok _ _ (xor8_ok _ _ (octetsOk_get h0 i) (octetsOk_get h1 i)) (octetsOk_get h2 i)
  simpa [xor3] using this
theorem take_ok (l : List Int) (n : Nat) (h : octetsOk l = true) : octetsOk (l.take n) = true := by
  unfold octetsOk at h ⊢
  rw [List.all_eq_true] at h ⊢
  exact fun x hx => h x (List.mem_of_mem_take hx)
def waybilllaw02_CrcLinear.f (l0 : List Int) (l1 : List Int) (l2 : List Int) : Option (Bool) := if octetsOk l0 = true ∧ octetsOk l1 = true ∧ octetsOk l2 = true ∧ l0.length ≤ 140737488351232 then some (ofB (sumO (xorN l0 l1 l2 (linL l0 l1 l2))) == ofB (sumO (l0.take (linL l0 l1 l2)) ^^^ sumO (l1.take (linL l0 l1 l2)) ^^^ sumO (l2.take (linL l0 l1 l2)))) else none
theorem sum_f (l : List Int) (h : octetsOk l = true) : crc_Sum.f [l] = some (ofB (sumO l)) := by
  unfold crc_Sum.f
  rw [if_pos (by simp [h])]
  simp [sumO]
set_option maxHeartbeats 4000000 in
set_option maxRecDepth 100000 in
theorem waybilllaw02_CrcLinear.calls (A0 : Option Addr) (c0 : Nat) (l0 : List Int) (A1 : Option Addr) (c1 : Nat) (l1 : List Int) (A2 : Option Addr) (c2 : Nat) (l2 : List Int) (r : Bool) (w : World) (hr0 : Kd.C (Kd.int .u8) w A0 l0.length l0) (hc0 : l0.length ≤ c0) (hr1 : Kd.C (Kd.int .u8) w A1 l1.length l1) (hc1 : l1.length ≤ c1) (hr2 : Kd.C (Kd.int .u8) w A2 l2.length l2) (hc2 : l2.length ≤ c2) (h : waybilllaw02_CrcLinear.f l0 l1 l2 = some r) :
    Calls Try.prog 3 #[.slice A0 l0.length c0, .slice A1 l1.length c1, .slice A2 l2.length c2] w fun e w' => e = .returned (.bool r) ∧ Below w.heap.size w w' := by
  unfold waybilllaw02_CrcLinear.f at h
  split at h
  case isFalse => cases h
  case isTrue ho =>
  obtain rfl := Option.some.inj h
  clear h
  obtain ⟨ho0, ho1, ho2, hl0⟩ := ho
  have HR0 := Aside0.mk hr0
  have HC0 := Aside0.mk hc0
  have HR1 := Aside0.mk hr1
  have HC1 := Aside0.mk hc1
  have HR2 := Aside0.mk hr2
  have HC2 := Aside0.mk hc2
  have HO0 := Aside0.mk ho0
  have HO1 := Aside0.mk ho1
  have HO2 := Aside0.mk ho2
  have HL := Aside0.mk hl0
  have hm1 : l1.length ≤ 9223372036854775807 := hr1.2.1
  have hm2 : l2.length ≤ 9223372036854775807 := hr2.2.1
  have HA : Aside0 (waybilllaw02_alive.f = some true) := ⟨by decide +kernel⟩
  obtain ⟨n, hn⟩ : ∃ n, n = linL l0 l1 l2 := ⟨_, rfl⟩
  have hn0 : n ≤ l0.length := by rw [hn]; unfold linL; omega
  have hn1 : n ≤ l1.length := by rw [hn]; unfold linL; omega
  have hn2 : n ≤ l2.length := by rw [hn]; unfold linL; omega
  obtain ⟨m, hm⟩ : ∃ m, m = min l1.length l2.length := ⟨_, rfl⟩
  have ha : (if l2.length < l1.length then (l2.length : Int) else (l1.length : Int)) = (m : Int) := by rw [hm]; split <;> omega
  have ha' : (if (l2.length : Int) < (l1.length : Int) then (l2.length : Int) else (l1.length : Int)) = (m : Int) := by rw [hm]; split <;> omega
  have hb : (if m < l0.length then (m : Int) else (l0.length : Int)) = (n : Int) := by rw [hn, hm]; unfold linL; split <;> omega
  have hb' : (if (m : Int) < (l0.length : Int) then (m : Int) else (l0.length : Int)) = (n : Int) := by rw [hn, hm]; unfold linL; split <;> omega
  rw [← hn]
  clear hr0 hc0 hr1 hc1 hr2 hc2 ho0 ho1 ho2 hl0 hn hm
  obtain ⟨i08, hi08, _, hsz8, _⟩ := info_parts info5
  go_enter Try.func3, Try.ntmps3
  go_wp2_with (go_at_call 9; (refine (waybilllaw02_alive.calls true _ HA.out).mono ?_); rintro e w1 ⟨rfl, hb⟩; have HB1 := Aside0.mk hb; clear hb)
  clear ha ha' hb hb'
  go_loopw [8, 9] (fun v8 v9 wr => ∃ i : Nat, v9 = .int .i64 i ∧ i ≤ n ∧ Aside0 ((Kd.int .u8).R 5 wr w.heap.size (fun _ => True) v8 (xorN l0 l1 l2 i)) ∧ Aside0 (Below w.heap.size w wr)) (fun _ v9 _ => n - (intOf v9).toNat)
  case atStart => exact ⟨0, rfl, by omega, ⟨Kd.R_nil _ _ _ _ _⟩, HB1⟩
  case round =>
    obtain ⟨i, rfl, hi, HX, HB⟩ := hrel
    by_cases hlt : i < n
    · obtain ⟨ad0, e0, q0⟩ := Kd.at_int (Kd.C_below HR0.out HB.out) (i : Int) (by omega) (by omega)
      obtain ⟨ad1, e1, q1⟩ := Kd.at_int (Kd.C_below HR1.out HB.out) (i : Int) (by omega) (by omega)
      obtain ⟨ad2, e2, q2⟩ := Kd.at_int (Kd.C_below HR2.out HB.out) (i : Int) (by omega) (by omega)
      simp only [Int.toNat_natCast] at q0 q1 q2
      obtain ⟨x0, hx0⟩ : ∃ x, x = rd l0 (i : Int) := ⟨_, rfl⟩
      obtain ⟨x1, hx1⟩ : ∃ x, x = rd l1 (i : Int) := ⟨_, rfl⟩
      obtain ⟨x2, hx2⟩ : ∃ x, x = rd l2 (i : Int) := ⟨_, rfl⟩
      rw [← hx0] at q0
      rw [← hx1] at q1
      rw [← hx2] at q2
      have HS : Aside0 (xorN l0 l1 l2 (i + 1) = xorN l0 l1 l2 i ++ [Go.bits .xor .u8 (Go.bits .xor .u8 x0 x1) x2]) := ⟨by rw [xorN_succ, xor3, hx0, hx1, hx2]; simp [rd]⟩
      have b1 : decide ((i : Int) < (n : Int)) = true := decide_eq_true (by omega)
      have b1' : decide (i < n) = true := decide_eq_true hlt
      clear hx0 hx1 hx2
      obtain ⟨A, c, rfl⟩ := Kd.R_slice HX.out
      subst e0 e1 e2
      have i0 : i < l0.length := by omega
      have i1 : i < l1.length := by omega
      have i2 : i < l2.length := by omega
      go_wp2_with fail
      refine region_tail (B := _) (w0 := _) 16 [(25, (fun v _ => v = .slice A (xorN l0 l1 l2 i).length c)), (26, (fun v _ => v = .slice (some ad0) l0.length c0)), (27, (fun v _ => v = .int .i64 i)), (28, (fun v _ => v = .pointer (some (ad0.add i)))), (29, (fun v _ => v = .int .u8 x0)), (30, (fun v _ => v = .slice (some ad1) l1.length c1)), (31, (fun v _ => v = .int .i64 i)), (32, (fun v _ => v = .pointer (some (ad1.add i)))), (33, (fun v _ => v = .int .u8 x1)), (34, (fun v _ => v = .int .u8 (Go.bits .xor .u8 x0 x1))), (35, (fun v _ => v = .slice (some ad2) l2.length c2)), (36, (fun v _ => v = .int .i64 i)), (37, (fun v _ => v = .pointer (some (ad2.add i)))), (38, (fun v _ => v = .int .u8 x2)), (39, (fun v _ => v = .int .u8 (Go.bits .xor .u8 (Go.bits .xor .u8 x0 x1) x2))), (40, (fun v W => ∃ g, v = .slice (some ⟨g, 0, none⟩) 1 1 ∧ wr.heap.size ≤ g ∧ W.heap[g]? = some (.cells #[.int .u8 (Go.bits .xor .u8 (Go.bits .xor .u8 x0 x1) x2)] 5 (0, 0))))] (by kernel_rfl) (by kernel_rfl) (by decide) (by kernel_rfl) (by kernel_rfl) (by rfl) (show ([25, 26, 27, 28, 29, 30, 31, 32, 33, 34, 35, 36, 37, 38, 39, 40] : List Nat).Nodup by decide) ?hsz ?hst (Below.refl _ _) (Nat.le_refl _) ?step ?fin
      case hsz => exact List.forall_mem_cons.2 ⟨(show 25 < 63 by decide), List.forall_mem_cons.2 ⟨(show 26 < 63 by decide), List.forall_mem_cons.2 ⟨(show 27 < 63 by decide), List.forall_mem_cons.2 ⟨(show 28 < 63 by decide), List.forall_mem_cons.2 ⟨(show 29 < 63 by decide), List.forall_mem_cons.2 ⟨(show 30 < 63 by decide), List.forall_mem_cons.2 ⟨(show 31 < 63 by decide), List.forall_mem_cons.2 ⟨(show 32 < 63 by decide), List.forall_mem_cons.2 ⟨(show 33 < 63 by decide), List.forall_mem_cons.2 ⟨(show 34 < 63 by decide), List.forall_mem_cons.2 ⟨(show 35 < 63 by decide), List.forall_mem_cons.2 ⟨(show 36 < 63 by decide), List.forall_mem_cons.2 ⟨(show 37 < 63 by decide), List.forall_mem_cons.2 ⟨(show 38 < 63 by decide), List.forall_mem_cons.2 ⟨(show 39 < 63 by decide), List.forall_mem_cons.2 ⟨(show 40 < 63 by decide), fun _ h => nomatch h⟩⟩⟩⟩⟩⟩⟩⟩⟩⟩⟩⟩⟩⟩⟩⟩
      case hst => exact List.forall_mem_cons.2 ⟨(fun v w1 w2 hb h => h), List.forall_mem_cons.2 ⟨(fun v w1 w2 hb h => h), List.forall_mem_cons.2 ⟨(fun v w1 w2 hb h => h), List.forall_mem_cons.2 ⟨(fun v w1 w2 hb h => h), List.forall_mem_cons.2 ⟨(fun v w1 w2 hb h => h), List.forall_mem_cons.2 ⟨(fun v w1 w2 hb h => h), List.forall_mem_cons.2 ⟨(fun v w1 w2 hb h => h), List.forall_mem_cons.2 ⟨(fun v w1 w2 hb h => h), List.forall_mem_cons.2 ⟨(fun v w1 w2 hb h => h), List.forall_mem_cons.2 ⟨(fun v w1 w2 hb h => h), List.forall_mem_cons.2 ⟨(fun v w1 w2 hb h => h), List.forall_mem_cons.2 ⟨(fun v w1 w2 hb h => h), List.forall_mem_cons.2 ⟨(fun v w1 w2 hb h => h), List.forall_mem_cons.2 ⟨(fun v w1 w2 hb h => h), List.forall_mem_cons.2 ⟨(fun v w1 w2 hb h => h), List.forall_mem_cons.2 ⟨(fun v w1 w2 hb h => h.imp fun g hg => ⟨hg.1, hg.2.1, blk_below hg.2.2 hb⟩), fun _ h => nomatch h⟩⟩⟩⟩⟩⟩⟩⟩⟩⟩⟩⟩⟩⟩⟩⟩
      case step =>
        intro i_ o_ e_ ho he a w1 hs hdf hfr hbl hbs hpre
        match i_, ho, he with
        | 0, ho, he =>
          obtain rfl : o_ = { dst := some 25, op := Go.Op.move (Go.Operand.tmp 8), type := 22, pos := "law.go:66", after := #[], guard := none } := (Option.some.inj ho).symm
          obtain rfl := Option.some.inj he; clear he
          have f8 : a.tmps.getD 8 undef = .slice A (xorN l0 l1 l2 i).length c := by rw [Array.getD_eq_getD_getElem?, hfr 8 (show ¬ 8 ∈ ([25, 26, 27, 28, 29, 30, 31, 32, 33, 34, 35, 36, 37, 38, 39, 40] : List Nat) by decide)]; rfl
          clear hpre hfr
          refine wpOp_value (v := .slice A (xorN l0 l1 l2 i).length c) ho rfl ?_ ⟨_, rfl, rfl, Below.refl _ _⟩
          simp only [execOp, Act.eval, List.map_toArray, List.map_cons, List.map_nil, f8]
          first | rfl | (go_simp; done) | (go_simp; rfl)
        | 1, ho, he =>
          obtain rfl : o_ = { dst := some 26, op := Go.Op.move (Go.Operand.tmp 0), type := 22, pos := "law.go:66", after := #[], guard := none } := (Option.some.inj ho).symm
          obtain rfl := Option.some.inj he; clear he
          have f0 : a.tmps.getD 0 undef = .slice (some ad0) l0.length c0 := by rw [Array.getD_eq_getD_getElem?, hfr 0 (show ¬ 0 ∈ ([25, 26, 27, 28, 29, 30, 31, 32, 33, 34, 35, 36, 37, 38, 39, 40] : List Nat) by decide)]; rfl
          clear hpre hfr
          refine wpOp_value (v := .slice (some ad0) l0.length c0) ho rfl ?_ ⟨_, rfl, rfl, Below.refl _ _⟩
          simp only [execOp, Act.eval, List.map_toArray, List.map_cons, List.map_nil, f0]
          first | rfl | (go_simp; done) | (go_simp; rfl)
        | 2, ho, he =>
          obtain rfl : o_ = { dst := some 27, op := Go.Op.move (Go.Operand.tmp 9), type := 3, pos := "law.go:66", after := #[], guard := none } := (Option.some.inj ho).symm
          obtain rfl := Option.some.inj he; clear he
          have f9 : a.tmps.getD 9 undef = .int .i64 i := by rw [Array.getD_eq_getD_getElem?, hfr 9 (show ¬ 9 ∈ ([25, 26, 27, 28, 29, 30, 31, 32, 33, 34, 35, 36, 37, 38, 39, 40] : List Nat) by decide)]; rfl
          clear hpre hfr
          refine wpOp_value (v := .int .i64 i) ho rfl ?_ ⟨_, rfl, rfl, Below.refl _ _⟩
          simp only [execOp, Act.eval, List.map_toArray, List.map_cons, List.map_nil, f9]
          first | rfl | (go_simp; done) | (go_simp; rfl)
        | 3, ho, he =>
          obtain rfl : o_ = { dst := some 28, op := Go.Op.indexAddr 22 (Go.Operand.tmp 26) (Go.Operand.tmp 27), type := 0, pos := "law.go:66", after := #[{ on := 1, ground := Go.Ground.data }, { on := 2, ground := Go.Ground.data }], guard := none } := (Option.some.inj ho).symm
          obtain rfl := Option.some.inj he; clear he
          have e26 : a.tmps.getD 26 undef = .slice (some ad0) l0.length c0 := hpre ⟨1, .data⟩ (by simp) rfl _ rfl
          have e27 : a.tmps.getD 27 undef = .int .i64 i := hpre ⟨2, .data⟩ (by simp) rfl _ rfl
          clear hpre hfr
          refine wpOp_value (v := .pointer (some (ad0.add i))) ho rfl ?_ ⟨_, rfl, rfl, Below.refl _ _⟩
          simp only [execOp, Act.eval, List.map_toArray, List.map_cons, List.map_nil, e26, e27]
          first | rfl | (go_simp; done) | (go_simp; rfl)
        | 4, ho, he =>
          obtain rfl : o_ = { dst := some 29, op := Go.Op.load 5 (Go.Operand.tmp 28), type := 5, pos := "law.go:66", after := #[{ on := 3, ground := Go.Ground.data }], guard := none } := (Option.some.inj ho).symm
          obtain rfl := Option.some.inj he; clear he
          have e28 : a.tmps.getD 28 undef = .pointer (some (ad0.add i)) := hpre ⟨3, .data⟩ (by simp) rfl _ rfl
          clear hpre hfr
          have k_q0 := (hbl.cell (World.block_lt_of_cell? _ _ q0)).trans q0
          refine wpOp_value (v := .int .u8 x0) ho rfl ?_ ⟨_, rfl, rfl, Below.refl _ _⟩
          simp only [execOp, Act.eval, List.map_toArray, List.map_cons, List.map_nil, e28]
          first | rfl | (go_simp; done) | (go_simp; rfl)
        | 5, ho, he =>
          obtain rfl : o_ = { dst := some 30, op := Go.Op.move (Go.Operand.tmp 1), type := 22, pos := "law.go:66", after := #[], guard := none } := (Option.some.inj ho).symm
          obtain rfl := Option.some.inj he; clear he
          have f1 : a.tmps.getD 1 undef = .slice (some ad1) l1.length c1 := by rw [Array.getD_eq_getD_getElem?, hfr 1 (show ¬ 1 ∈ ([25, 26, 27, 28, 29, 30, 31, 32, 33, 34, 35, 36, 37, 38, 39, 40] : List Nat) by decide)]; rfl
          clear hpre hfr
          refine wpOp_value (v := .slice (some ad1) l1.length c1) ho rfl ?_ ⟨_, rfl, rfl, Below.refl _ _⟩
          simp only [execOp, Act.eval, List.map_toArray, List.map_cons, List.map_nil, f1]
          first | rfl | (go_simp; done) | (go_simp; rfl)
        | 6, ho, he =>
          obtain rfl : o_ = { dst := some 31, op := Go.Op.move (Go.Operand.tmp 9), type := 3, pos := "law.go:66", after := #[], guard := none } := (Option.some.inj ho).symm
          obtain rfl := Option.some.inj he; clear he
          have f9 : a.tmps.getD 9 undef = .int .i64 i := by rw [Array.getD_eq_getD_getElem?, hfr 9 (show ¬ 9 ∈ ([25, 26, 27, 28, 29, 30, 31, 32, 33, 34, 35, 36, 37, 38, 39, 40] : List Nat) by decide)]; rfl
          clear hpre hfr
          refine wpOp_value (v := .int .i64 i) ho rfl ?_ ⟨_, rfl, rfl, Below.refl _ _⟩
          simp only [execOp, Act.eval, List.map_toArray, List.map_cons, List.map_nil, f9]
          first | rfl | (go_simp; done) | (go_simp; rfl)
        | 7, ho, he =>
          obtain rfl : o_ = { dst := some 32, op := Go.Op.indexAddr 22 (Go.Operand.tmp 30) (Go.Operand.tmp 31), type := 0, pos := "law.go:66", after := #[{ on := 5, ground := Go.Ground.data }, { on := 6, ground := Go.Ground.data }], guard := none } := (Option.some.inj ho).symm
          obtain rfl := Option.some.inj he; clear he
          have e30 : a.tmps.getD 30 undef = .slice (some ad1) l1.length c1 := hpre ⟨5, .data⟩ (by simp) rfl _ rfl
          have e31 : a.tmps.getD 31 undef = .int .i64 i := hpre ⟨6, .data⟩ (by simp) rfl _ rfl
          clear hpre hfr
          refine wpOp_value (v := .pointer (some (ad1.add i))) ho rfl ?_ ⟨_, rfl, rfl, Below.refl _ _⟩
          simp only [execOp, Act.eval, List.map_toArray, List.map_cons, List.map_nil, e30, e31]
          first | rfl | (go_simp; done) | (go_simp; rfl)
        | 8, ho, he =>
          obtain rfl : o_ = { dst := some 33, op := Go.Op.load 5 (Go.Operand.tmp 32), type := 5, pos := "law.go:66", after := #[{ on := 7, ground := Go.Ground.data }], guard := none } := (Option.some.inj ho).symm
          obtain rfl := Option.some.inj he; clear he
          have e32 : a.tmps.getD 32 undef = .pointer (some (ad1.add i)) := hpre ⟨7, .data⟩ (by simp) rfl _ rfl
          clear hpre hfr
          have k_q1 := (hbl.cell (World.block_lt_of_cell? _ _ q1)).trans q1
          refine wpOp_value (v := .int .u8 x1) ho rfl ?_ ⟨_, rfl, rfl, Below.refl _ _⟩
          simp only [execOp, Act.eval, List.map_toArray, List.map_cons, List.map_nil, e32]
          first | rfl | (go_simp; done) | (go_simp; rfl)
        | 9, ho, he =>
          obtain rfl : o_ = { dst := some 34, op := Go.Op.binOp Go.BinOp.xor 5 (Go.Operand.tmp 29) (Go.Operand.tmp 33) 5, type := 5, pos := "law.go:66", after := #[{ on := 4, ground := Go.Ground.data }, { on := 8, ground := Go.Ground.data }], guard := none } := (Option.some.inj ho).symm
          obtain rfl := Option.some.inj he; clear he
          have e29 : a.tmps.getD 29 undef = .int .u8 x0 := hpre ⟨4, .data⟩ (by simp) rfl _ rfl
          have e33 : a.tmps.getD 33 undef = .int .u8 x1 := hpre ⟨8, .data⟩ (by simp) rfl _ rfl
          clear hpre hfr
          refine wpOp_value (v := .int .u8 (Go.bits .xor .u8 x0 x1)) ho rfl ?_ ⟨_, rfl, rfl, Below.refl _ _⟩
          simp only [execOp, Act.eval, List.map_toArray, List.map_cons, List.map_nil, e29, e33]
          first | rfl | (go_simp; done) | (go_simp; rfl)
        | 10, ho, he =>
          obtain rfl : o_ = { dst := some 35, op := Go.Op.move (Go.Operand.tmp 2), type := 22, pos := "law.go:66", after := #[], guard := none } := (Option.some.inj ho).symm
          obtain rfl := Option.some.inj he; clear he
          have f2 : a.tmps.getD 2 undef = .slice (some ad2) l2.length c2 := by rw [Array.getD_eq_getD_getElem?, hfr 2 (show ¬ 2 ∈ ([25, 26, 27, 28, 29, 30, 31, 32, 33, 34, 35, 36, 37, 38, 39, 40] : List Nat) by decide)]; rfl
          clear hpre hfr
          refine wpOp_value (v := .slice (some ad2) l2.length c2) ho rfl ?_ ⟨_, rfl, rfl, Below.refl _ _⟩
          simp only [execOp, Act.eval, List.map_toArray, List.map_cons, List.map_nil, f2]
          first | rfl | (go_simp; done) | (go_simp; rfl)
        | 11, ho, he =>
          obtain rfl : o_ = { dst := some 36, op := Go.Op.move (Go.Operand.tmp 9), type := 3, pos := "law.go:66", after := #[], guard := none } := (Option.some.inj ho).symm
          obtain rfl := Option.some.inj he; clear he
          have f9 : a.tmps.getD 9 undef = .int .i64 i := by rw [Array.getD_eq_getD_getElem?, hfr 9 (show ¬ 9 ∈ ([25, 26, 27, 28, 29, 30, 31, 32, 33, 34, 35, 36, 37, 38, 39, 40] : List Nat) by decide)]; rfl
          clear hpre hfr
          refine wpOp_value (v := .int .i64 i) ho rfl ?_ ⟨_, rfl, rfl, Below.refl _ _⟩
          simp only [execOp, Act.eval, List.map_toArray, List.map_cons, List.map_nil, f9]
          first | rfl | (go_simp; done) | (go_simp; rfl)
        | 12, ho, he =>
          obtain rfl : o_ = { dst := some 37, op := Go.Op.indexAddr 22 (Go.Operand.tmp 35) (Go.Operand.tmp 36), type := 0, pos := "law.go:66", after := #[{ on := 10, ground := Go.Ground.data }, { on := 11, ground := Go.Ground.data }], guard := none } := (Option.some.inj ho).symm
          obtain rfl := Option.some.inj he; clear he
          have e35 : a.tmps.getD 35 undef = .slice (some ad2) l2.length c2 := hpre ⟨10, .data⟩ (by simp) rfl _ rfl
          have e36 : a.tmps.getD 36 undef = .int .i64 i := hpre ⟨11, .data⟩ (by simp) rfl _ rfl
          clear hpre hfr
          refine wpOp_value (v := .pointer (some (ad2.add i))) ho rfl ?_ ⟨_, rfl, rfl, Below.refl _ _⟩
          simp only [execOp, Act.eval, List.map_toArray, List.map_cons, List.map_nil, e35, e36]
          first | rfl | (go_simp; done) | (go_simp; rfl)
        | 13, ho, he =>
          obtain rfl : o_ = { dst := some 38, op := Go.Op.load 5 (Go.Operand.tmp 37), type := 5, pos := "law.go:66", after := #[{ on := 12, ground := Go.Ground.data }], guard := none } := (Option.some.inj ho).symm
          obtain rfl := Option.some.inj he; clear he
          have e37 : a.tmps.getD 37 undef = .pointer (some (ad2.add i)) := hpre ⟨12, .data⟩ (by simp) rfl _ rfl
          clear hpre hfr
          have k_q2 := (hbl.cell (World.block_lt_of_cell? _ _ q2)).trans q2
          refine wpOp_value (v := .int .u8 x2) ho rfl ?_ ⟨_, rfl, rfl, Below.refl _ _⟩
          simp only [execOp, Act.eval, List.map_toArray, List.map_cons, List.map_nil, e37]
          first | rfl | (go_simp; done) | (go_simp; rfl)
        | 14, ho, he =>
          obtain rfl : o_ = { dst := some 39, op := Go.Op.binOp Go.BinOp.xor 5 (Go.Operand.tmp 34) (Go.Operand.tmp 38) 5, type := 5, pos := "law.go:66", after := #[{ on := 9, ground := Go.Ground.data }, { on := 13, ground := Go.Ground.data }], guard := none } := (Option.some.inj ho).symm
          obtain rfl := Option.some.inj he; clear he
          have e34 : a.tmps.getD 34 undef = .int .u8 (Go.bits .xor .u8 x0 x1) := hpre ⟨9, .data⟩ (by simp) rfl _ rfl
          have e38 : a.tmps.getD 38 undef = .int .u8 x2 := hpre ⟨13, .data⟩ (by simp) rfl _ rfl
          clear hpre hfr
          refine wpOp_value (v := .int .u8 (Go.bits .xor .u8 (Go.bits .xor .u8 x0 x1) x2)) ho rfl ?_ ⟨_, rfl, rfl, Below.refl _ _⟩
          simp only [execOp, Act.eval, List.map_toArray, List.map_cons, List.map_nil, e34, e38]
          first | rfl | (go_simp; done) | (go_simp; rfl)
        | 15, ho, he =>
          obtain rfl : o_ = { dst := some 40, op := Go.Op.buildSlice 22 1 #[(0, Go.Operand.tmp 39)], type := 22, pos := "law.go:66", after := #[{ on := 14, ground := Go.Ground.data }], guard := none } := (Option.some.inj ho).symm
          obtain rfl := Option.some.inj he; clear he
          have e39 : a.tmps.getD 39 undef = .int .u8 (Go.bits .xor .u8 (Go.bits .xor .u8 x0 x1) x2) := hpre ⟨14, .data⟩ (by simp) rfl _ rfl
          clear hpre hfr
          refine wpOp_value (w1 := w1.alloc (.cells #[.int .u8 (Go.bits .xor .u8 (Go.bits .xor .u8 x0 x1) x2)] 5)) (v := .slice (some ⟨w1.heap.size, 0, none⟩) 1 1) ho rfl ?_ ⟨_, rfl, ⟨_, rfl, hbs, heap_new1 _ _⟩, below_alloc (Below.refl _ _) _⟩
          simp only [execOp, Act.eval, List.map_toArray, List.map_cons, List.map_nil, e39]
          first | rfl | (go_simp; done) | (go_simp; rfl)
        | n_ + 16, ho, he => simp at he
      case fin =>
        intro x w1 hbl hbs hx
        simp only [List.forall_mem_cons] at hx
        obtain ⟨x25, x26, x27, x28, x29, x30, x31, x32, x33, x34, x35, x36, x37, x38, x39, ⟨g, x40, hg1, hg2⟩, _⟩ := hx
        simp only [List.map_cons, List.map_nil, putL, Act.put, List.setIfInBounds_toArray, List.set_cons_zero, List.set_cons_succ, x25, x26, x27, x28, x29, x30, x31, x32, x33, x34, x35, x36, x37, x38, x39, x40]
        simp only [List.drop_succ_cons, List.drop_zero]
        clear x25 x26 x27 x28 x29 x30 x31 x32 x33 x34 x35 x36 x37 x38 x39 x40
        have HXX := Aside0.mk (Kd.R_below HX.out hbl)
        have HBB := Aside0.mk (below_then HB.out HB.out.size hbl)
        have HCS := Aside0.mk (C_ints (k := .u8) (l := [Go.bits .xor .u8 (Go.bits .xor .u8 x0 x1) x2]) hg2 (by simp) rfl)
        clear hg1 hg2 hbs hbl
        go_wp2_with ((with_reducible refine gate_builtin (b := .append) (xs := #[.tmp 25, .tmp 40]) rfl ?_); at_builtin; refine Kd.R_append_rows (Kd.int .u8) (w0 := w) w.heap.size rfl (.tmp 25) (.tmp 40) 22 5 (.int .u8 0) 1 rfl Try.underlying22 info5 rfl (by decide) (by omega) _ (xorN l0 l1 l2 i) [Go.bits .xor .u8 (Go.bits .xor .u8 x0 x1) x2] _ _ _ (fun _ => True) (fun _ => False) rfl rfl HXX.out HCS.out (fun _ _ h => h) (fun _ h => h.elim) (fun _ _ => trivial) HBB.out HBB.out.size (by have := HL.out; rw [xorN_len]; omega) ?_; intro v2 w2 ho2 hb2 hg2 hat2; rw [← HS.out] at ho2; have HO2 := Aside0.mk ho2; have HB2 := Aside0.mk hb2; clear ho2 hb2 hg2 hat2)
        go_roundw
        case rel => exact ⟨i + 1, by go_num, by omega, HO2, HB2⟩
        case measure => simp [intOf]; omega
    · have b1 : decide ((i : Int) < (n : Int)) = false := decide_eq_false (by omega)
      have b1' : decide (i < n) = false := decide_eq_false hlt
      obtain rfl : i = n := by omega
      obtain ⟨A, c, hv8, hcl, hCX⟩ := Kd.R_reads HX.out
      subst hv8
      go_wp2
      have hcut0 : ∀ W, (Instr.slice 22 (.slice A0 l0.length c0) none (some (.int .i64 (i : Int))) none).run Try.prog W = .ok (.slice A0 (l0.take i).length c0) W := fun W => by
        have := (print_take_of (P := Try.prog) (Value.int .u8) 0 22 5 .i64 Try.underlying22 hi08 hsz8 A0 c0 l0 (i : Int) (by omega) (by omega) HC0.out).1 W
        simpa using this
      have hcut1 : ∀ W, (Instr.slice 22 (.slice A1 l1.length c1) none (some (.int .i64 (i : Int))) none).run Try.prog W = .ok (.slice A1 (l1.take i).length c1) W := fun W => by
        have := (print_take_of (P := Try.prog) (Value.int .u8) 0 22 5 .i64 Try.underlying22 hi08 hsz8 A1 c1 l1 (i : Int) (by omega) (by omega) HC1.out).1 W
        simpa using this
      have hcut2 : ∀ W, (Instr.slice 22 (.slice A2 l2.length c2) none (some (.int .i64 (i : Int))) none).run Try.prog W = .ok (.slice A2 (l2.take i).length c2) W := fun W => by
        have := (print_take_of (P := Try.prog) (Value.int .u8) 0 22 5 .i64 Try.underlying22 hi08 hsz8 A2 c2 l2 (i : Int) (by omega) (by omega) HC2.out).1 W
        simpa using this
      have HT0 := Aside0.mk (Kd.C_take (Kd.C_below HR0.out HB.out) hn0)
      have HT1 := Aside0.mk (Kd.C_take (Kd.C_below HR1.out HB.out) hn1)
      have HT2 := Aside0.mk (Kd.C_take (Kd.C_below HR2.out HB.out) hn2)
      have HCX := Aside0.mk hCX
      clear hCX
      have tl0 : (l0.take i).length ≤ c0 := by have := HC0.out; rw [List.length_take]; omega
      have tl1 : (l1.take i).length ≤ c1 := by have := HC1.out; rw [List.length_take]; omega
      have tl2 : (l2.take i).length ≤ c2 := by have := HC2.out; rw [List.length_take]; omega
      go_wp2
      refine region_facts (B := _) (w0 := _) [(42, (fun v _ => v = .slice A (xorN l0 l1 l2 i).length c)), (43, (fun v W => ∃ g, v = .slice (some ⟨g, 0, none⟩) 1 1 ∧ wr.heap.size ≤ g ∧ (Kd.slice 5 (Kd.int .u8)).C W (some ⟨g, 0, none⟩) [xorN l0 l1 l2 i].length [xorN l0 l1 l2 i])), (44, (fun v W => v = .int .u32 (ofB (sumO (xorN l0 l1 l2 i))))), (45, (fun v _ => v = .slice A0 l0.length c0)), (46, (fun v _ => v = .int .i64 (i : Int))), (47, (fun v _ => v = .slice A0 (l0.take i).length c0)), (48, (fun v W => ∃ g, v = .slice (some ⟨g, 0, none⟩) 1 1 ∧ wr.heap.size ≤ g ∧ (Kd.slice 5 (Kd.int .u8)).C W (some ⟨g, 0, none⟩) [l0.take i].length [l0.take i])), (49, (fun v W => v = .int .u32 (ofB (sumO (l0.take i))))), (50, (fun v _ => v = .slice A1 l1.length c1)), (51, (fun v _ => v = .int .i64 (i : Int))), (52, (fun v _ => v = .slice A1 (l1.take i).length c1)), (53, (fun v W => ∃ g, v = .slice (some ⟨g, 0, none⟩) 1 1 ∧ wr.heap.size ≤ g ∧ (Kd.slice 5 (Kd.int .u8)).C W (some ⟨g, 0, none⟩) [l1.take i].length [l1.take i])), (54, (fun v W => v = .int .u32 (ofB (sumO (l1.take i))))), (55, (fun v _ => v = .int .u32 (Go.bits .xor .u32 (ofB (sumO (l0.take i))) (ofB (sumO (l1.take i)))))), (56, (fun v _ => v = .slice A2 l2.length c2)), (57, (fun v _ => v = .int .i64 (i : Int))), (58, (fun v _ => v = .slice A2 (l2.take i).length c2)), (59, (fun v W => ∃ g, v = .slice (some ⟨g, 0, none⟩) 1 1 ∧ wr.heap.size ≤ g ∧ (Kd.slice 5 (Kd.int .u8)).C W (some ⟨g, 0, none⟩) [l2.take i].length [l2.take i])), (60, (fun v W => v = .int .u32 (ofB (sumO (l2.take i))))), (61, (fun v _ => v = .int .u32 (Go.bits .xor .u32 (Go.bits .xor .u32 (ofB (sumO (l0.take i))) (ofB (sumO (l1.take i)))) (ofB (sumO (l2.take i)))))), (62, (fun v _ => v = .bool (ofB (sumO (xorN l0 l1 l2 i)) == Go.bits .xor .u32 (Go.bits .xor .u32 (ofB (sumO (l0.take i))) (ofB (sumO (l1.take i)))) (ofB (sumO (l2.take i)))))), (6, (fun v _ => v = .bool (ofB (sumO (xorN l0 l1 l2 i)) == Go.bits .xor .u32 (Go.bits .xor .u32 (ofB (sumO (l0.take i))) (ofB (sumO (l1.take i)))) (ofB (sumO (l2.take i))))))] (by kernel_rfl) (by kernel_rfl) (by rfl) (show ([42, 43, 44, 45, 46, 47, 48, 49, 50, 51, 52, 53, 54, 55, 56, 57, 58, 59, 60, 61, 62, 6] : List Nat).Nodup by decide) ?hsz ?hst (Below.refl _ _) (Nat.le_refl _) ?step ?fin
      case hsz => exact List.forall_mem_cons.2 ⟨(show 42 < 63 by decide), List.forall_mem_cons.2 ⟨(show 43 < 63 by decide), List.forall_mem_cons.2 ⟨(show 44 < 63 by decide), List.forall_mem_cons.2 ⟨(show 45 < 63 by decide), List.forall_mem_cons.2 ⟨(show 46 < 63 by decide), List.forall_mem_cons.2 ⟨(show 47 < 63 by decide), List.forall_mem_cons.2 ⟨(show 48 < 63 by decide), List.forall_mem_cons.2 ⟨(show 49 < 63 by decide), List.forall_mem_cons.2 ⟨(show 50 < 63 by decide), List.forall_mem_cons.2 ⟨(show 51 < 63 by decide), List.forall_mem_cons.2 ⟨(show 52 < 63 by decide), List.forall_mem_cons.2 ⟨(show 53 < 63 by decide), List.forall_mem_cons.2 ⟨(show 54 < 63 by decide), List.forall_mem_cons.2 ⟨(show 55 < 63 by decide), List.forall_mem_cons.2 ⟨(show 56 < 63 by decide), List.forall_mem_cons.2 ⟨(show 57 < 63 by decide), List.forall_mem_cons.2 ⟨(show 58 < 63 by decide), List.forall_mem_cons.2 ⟨(show 59 < 63 by decide), List.forall_mem_cons.2 ⟨(show 60 < 63 by decide), List.forall_mem_cons.2 ⟨(show 61 < 63 by decide), List.forall_mem_cons.2 ⟨(show 62 < 63 by decide), List.forall_mem_cons.2 ⟨(show 6 < 63 by decide), fun _ h => nomatch h⟩⟩⟩⟩⟩⟩⟩⟩⟩⟩⟩⟩⟩⟩⟩⟩⟩⟩⟩⟩⟩⟩
      case hst => exact List.forall_mem_cons.2 ⟨(fun v w1 w2 hb h => h), List.forall_mem_cons.2 ⟨(fun v w1 w2 hb h => h.imp fun g hg => ⟨hg.1, hg.2.1, Kd.C_below hg.2.2 hb⟩), List.forall_mem_cons.2 ⟨(fun v w1 w2 hb h => h), List.forall_mem_cons.2 ⟨(fun v w1 w2 hb h => h), List.forall_mem_cons.2 ⟨(fun v w1 w2 hb h => h), List.forall_mem_cons.2 ⟨(fun v w1 w2 hb h => h), List.forall_mem_cons.2 ⟨(fun v w1 w2 hb h => h.imp fun g hg => ⟨hg.1, hg.2.1, Kd.C_below hg.2.2 hb⟩), List.forall_mem_cons.2 ⟨(fun v w1 w2 hb h => h), List.forall_mem_cons.2 ⟨(fun v w1 w2 hb h => h), List.forall_mem_cons.2 ⟨(fun v w1 w2 hb h => h), List.forall_mem_cons.2 ⟨(fun v w1 w2 hb h => h), List.forall_mem_cons.2 ⟨(fun v w1 w2 hb h => h.imp fun g hg => ⟨hg.1, hg.2.1, Kd.C_below hg.2.2 hb⟩), List.forall_mem_cons.2 ⟨(fun v w1 w2 hb h => h), List.forall_mem_cons.2 ⟨(fun v w1 w2 hb h => h), List.forall_mem_cons.2 ⟨(fun v w1 w2 hb h => h), List.forall_mem_cons.2 ⟨(fun v w1 w2 hb h => h), List.forall_mem_cons.2 ⟨(fun v w1 w2 hb h => h), List.forall_mem_cons.2 ⟨(fun v w1 w2 hb h => h.imp fun g hg => ⟨hg.1, hg.2.1, Kd.C_below hg.2.2 hb⟩), List.forall_mem_cons.2 ⟨(fun v w1 w2 hb h => h), List.forall_mem_cons.2 ⟨(fun v w1 w2 hb h => h), List.forall_mem_cons.2 ⟨(fun v w1 w2 hb h => h), List.forall_mem_cons.2 ⟨(fun v w1 w2 hb h => h), fun _ h => nomatch h⟩⟩⟩⟩⟩⟩⟩⟩⟩⟩⟩⟩⟩⟩⟩⟩⟩⟩⟩⟩⟩⟩
      case step =>
        intro i_ o_ e_ ho he a w1 hs hdf hfr hbl hbs hpre
        match i_, ho, he with
        | 0, ho, he =>
          obtain rfl : o_ = { dst := some 42, op := Go.Op.move (Go.Operand.tmp 8), type := 22, pos := "law.go:68", after := #[], guard := none } := (Option.some.inj ho).symm
          obtain rfl := Option.some.inj he; clear he
          have f8 : a.tmps.getD 8 undef = .slice A (xorN l0 l1 l2 i).length c := by rw [Array.getD_eq_getD_getElem?, hfr 8 (show ¬ 8 ∈ ([42, 43, 44, 45, 46, 47, 48, 49, 50, 51, 52, 53, 54, 55, 56, 57, 58, 59, 60, 61, 62, 6] : List Nat) by decide)]; rfl
          clear hpre hfr
          refine wpOp_value (v := .slice A (xorN l0 l1 l2 i).length c) ho rfl ?_ ⟨_, rfl, rfl, Below.refl _ _⟩
          simp only [execOp, Act.eval, List.map_toArray, List.map_cons, List.map_nil, f8]
          first | rfl | (go_simp; done) | (go_simp; rfl)
        | 1, ho, he =>
          obtain rfl : o_ = { dst := some 43, op := Go.Op.buildSlice 43 1 #[(0, Go.Operand.tmp 42)], type := 43, pos := "law.go:68", after := #[{ on := 0, ground := Go.Ground.data }], guard := none } := (Option.some.inj ho).symm
          obtain rfl := Option.some.inj he; clear he
          have e42 : a.tmps.getD 42 undef = .slice A (xorN l0 l1 l2 i).length c := hpre ⟨0, .data⟩ (by simp) rfl _ rfl
          clear hpre hfr
          refine wpOp_value (w1 := w1.alloc (.cells #[.slice A (xorN l0 l1 l2 i).length c] 22)) (v := .slice (some ⟨w1.heap.size, 0, none⟩) 1 1) ho rfl ?_ ⟨_, rfl, ⟨_, rfl, hbs, C_lit1 (heap_new1 _ _) hcl (Kd.C_alloc (Kd.C_below HCX.out hbl) _)⟩, below_alloc (Below.refl _ _) _⟩
          simp only [execOp, Act.eval, List.map_toArray, List.map_cons, List.map_nil, e42]
          first | rfl | (go_simp; done) | (go_simp; rfl)
        | 2, ho, he =>
          obtain rfl : o_ = { dst := some 44, op := Go.Op.call { callee := Go.Callee.value (Go.Operand.func 10), args := #[Go.Operand.tmp 43], argTypes := #[43] }, type := 24, pos := "law.go:68", after := #[{ on := 1, ground := Go.Ground.data }], guard := none } := (Option.some.inj ho).symm
          obtain rfl := Option.some.inj he; clear he
          have e43 := hpre ⟨1, .data⟩ (by simp) rfl _ rfl; dsimp only at e43
          clear hpre hfr
          obtain ⟨g, e1, e2, e3⟩ := e43
          refine wpOp_call ho rfl Try.func10 (by kernel_rfl) rfl #[.slice (some ⟨g, 0, none⟩) 1 1] rfl (by simp only [List.map_toArray, List.map_cons, List.map_nil, Act.eval, e1]) ?_
          refine (crc_Sum.calls (some ⟨g, 0, none⟩) 1 [xorN l0 l1 l2 i] _ w1 e3 (Nat.le_refl _) (sum_f _ (xorN_ok l0 l1 l2 i HO0.out HO1.out HO2.out))).mono ?_
          rintro e w2 ⟨rfl, hb⟩
          exact ⟨_, rfl, ⟨_, rfl, rfl, hb⟩⟩
        | 3, ho, he =>
          obtain rfl : o_ = { dst := some 45, op := Go.Op.move (Go.Operand.tmp 0), type := 22, pos := "law.go:68", after := #[], guard := none } := (Option.some.inj ho).symm
          obtain rfl := Option.some.inj he; clear he
          have f0 : a.tmps.getD 0 undef = .slice A0 l0.length c0 := by rw [Array.getD_eq_getD_getElem?, hfr 0 (show ¬ 0 ∈ ([42, 43, 44, 45, 46, 47, 48, 49, 50, 51, 52, 53, 54, 55, 56, 57, 58, 59, 60, 61, 62, 6] : List Nat) by decide)]; rfl
          clear hpre hfr
          refine wpOp_value (v := .slice A0 l0.length c0) ho rfl ?_ ⟨_, rfl, rfl, Below.refl _ _⟩
          simp only [execOp, Act.eval, List.map_toArray, List.map_cons, List.map_nil, f0]
          first | rfl | (go_simp; done) | (go_simp; rfl)
        | 4, ho, he =>
          obtain rfl : o_ = { dst := some 46, op := Go.Op.move (Go.Operand.tmp 7), type := 3, pos := "law.go:68", after := #[], guard := none } := (Option.some.inj ho).symm
          obtain rfl := Option.some.inj he; clear he
          have f7 : a.tmps.getD 7 undef = .int .i64 (i : Int) := by rw [Array.getD_eq_getD_getElem?, hfr 7 (show ¬ 7 ∈ ([42, 43, 44, 45, 46, 47, 48, 49, 50, 51, 52, 53, 54, 55, 56, 57, 58, 59, 60, 61, 62, 6] : List Nat) by decide)]; rfl
          clear hpre hfr
          refine wpOp_value (v := .int .i64 (i : Int)) ho rfl ?_ ⟨_, rfl, rfl, Below.refl _ _⟩
          simp only [execOp, Act.eval, List.map_toArray, List.map_cons, List.map_nil, f7]
          first | rfl | (go_simp; done) | (go_simp; rfl)
        | 5, ho, he =>
          obtain rfl : o_ = { dst := some 47, op := Go.Op.slice 22 (Go.Operand.tmp 45) none (some (Go.Operand.tmp 46)) none, type := 22, pos := "law.go:68", after := #[{ on := 3, ground := Go.Ground.data }, { on := 4, ground := Go.Ground.data }], guard := none } := (Option.some.inj ho).symm
          obtain rfl := Option.some.inj he; clear he
          have e45 : a.tmps.getD 45 undef = .slice A0 l0.length c0 := hpre ⟨3, .data⟩ (by simp) rfl _ rfl
          have e46 : a.tmps.getD 46 undef = .int .i64 (i : Int) := hpre ⟨4, .data⟩ (by simp) rfl _ rfl
          clear hpre hfr
          refine wpOp_value (v := .slice A0 (l0.take i).length c0) ho rfl ?_ ⟨_, rfl, rfl, Below.refl _ _⟩
          simp only [execOp, Act.eval, List.map_toArray, List.map_cons, List.map_nil, e45, e46]
          first | rfl | (go_simp; done) | (go_simp; rfl)
        | 6, ho, he =>
          obtain rfl : o_ = { dst := some 48, op := Go.Op.buildSlice 43 1 #[(0, Go.Operand.tmp 47)], type := 43, pos := "law.go:68", after := #[{ on := 5, ground := Go.Ground.data }], guard := none } := (Option.some.inj ho).symm
          obtain rfl := Option.some.inj he; clear he
          have e47 : a.tmps.getD 47 undef = .slice A0 (l0.take i).length c0 := hpre ⟨5, .data⟩ (by simp) rfl _ rfl
          clear hpre hfr
          refine wpOp_value (w1 := w1.alloc (.cells #[.slice A0 (l0.take i).length c0] 22)) (v := .slice (some ⟨w1.heap.size, 0, none⟩) 1 1) ho rfl ?_ ⟨_, rfl, ⟨_, rfl, hbs, C_lit1 (heap_new1 _ _) tl0 (Kd.C_alloc (Kd.C_below HT0.out hbl) _)⟩, below_alloc (Below.refl _ _) _⟩
          simp only [execOp, Act.eval, List.map_toArray, List.map_cons, List.map_nil, e47]
          first | rfl | (go_simp; done) | (go_simp; rfl)
        | 7, ho, he =>
          obtain rfl : o_ = { dst := some 49, op := Go.Op.call { callee := Go.Callee.value (Go.Operand.func 10), args := #[Go.Operand.tmp 48], argTypes := #[43] }, type := 24, pos := "law.go:68", after := #[{ on := 6, ground := Go.Ground.data }, { on := 2, ground := Go.Ground.chain }], guard := none } := (Option.some.inj ho).symm
          obtain rfl := Option.some.inj he; clear he
          have e48 := hpre ⟨6, .data⟩ (by simp) rfl _ rfl; dsimp only at e48
          clear hpre hfr
          obtain ⟨g, e1, e2, e3⟩ := e48
          refine wpOp_call ho rfl Try.func10 (by kernel_rfl) rfl #[.slice (some ⟨g, 0, none⟩) 1 1] rfl (by simp only [List.map_toArray, List.map_cons, List.map_nil, Act.eval, e1]) ?_
          refine (crc_Sum.calls (some ⟨g, 0, none⟩) 1 [l0.take i] _ w1 e3 (Nat.le_refl _) (sum_f _ (take_ok l0 i HO0.out))).mono ?_
          rintro e w2 ⟨rfl, hb⟩
          exact ⟨_, rfl, ⟨_, rfl, rfl, hb⟩⟩
        | 8, ho, he =>
          obtain rfl : o_ = { dst := some 50, op := Go.Op.move (Go.Operand.tmp 1), type := 22, pos := "law.go:68", after := #[], guard := none } := (Option.some.inj ho).symm
          obtain rfl := Option.some.inj he; clear he
          have f1 : a.tmps.getD 1 undef = .slice A1 l1.length c1 := by rw [Array.getD_eq_getD_getElem?, hfr 1 (show ¬ 1 ∈ ([42, 43, 44, 45, 46, 47, 48, 49, 50, 51, 52, 53, 54, 55, 56, 57, 58, 59, 60, 61, 62, 6] : List Nat) by decide)]; rfl
          clear hpre hfr
          refine wpOp_value (v := .slice A1 l1.length c1) ho rfl ?_ ⟨_, rfl, rfl, Below.refl _ _⟩
          simp only [execOp, Act.eval, List.map_toArray, List.map_cons, List.map_nil, f1]
          first | rfl | (go_simp; done) | (go_simp; rfl)
        | 9, ho, he =>
          obtain rfl : o_ = { dst := some 51, op := Go.Op.move (Go.Operand.tmp 7), type := 3, pos := "law.go:68", after := #[], guard := none } := (Option.some.inj ho).symm
          obtain rfl := Option.some.inj he; clear he
          have f7 : a.tmps.getD 7 undef = .int .i64 (i : Int) := by rw [Array.getD_eq_getD_getElem?, hfr 7 (show ¬ 7 ∈ ([42, 43, 44, 45, 46, 47, 48, 49, 50, 51, 52, 53, 54, 55, 56, 57, 58, 59, 60, 61, 62, 6] : List Nat) by decide)]; rfl
          clear hpre hfr
          refine wpOp_value (v := .int .i64 (i : Int)) ho rfl ?_ ⟨_, rfl, rfl, Below.refl _ _⟩
          simp only [execOp, Act.eval, List.map_toArray, List.map_cons, List.map_nil, f7]
          first | rfl | (go_simp; done) | (go_simp; rfl)
        | 10, ho, he =>
          obtain rfl : o_ = { dst := some 52, op := Go.Op.slice 22 (Go.Operand.tmp 50) none (some (Go.Operand.tmp 51)) none, type := 22, pos := "law.go:68", after := #[{ on := 8, ground := Go.Ground.data }, { on := 9, ground := Go.Ground.data }], guard := none } := (Option.some.inj ho).symm
          obtain rfl := Option.some.inj he; clear he
          have e50 : a.tmps.getD 50 undef = .slice A1 l1.length c1 := hpre ⟨8, .data⟩ (by simp) rfl _ rfl
          have e51 : a.tmps.getD 51 undef = .int .i64 (i : Int) := hpre ⟨9, .data⟩ (by simp) rfl _ rfl
          clear hpre hfr
          refine wpOp_value (v := .slice A1 (l1.take i).length c1) ho rfl ?_ ⟨_, rfl, rfl, Below.refl _ _⟩
          simp only [execOp, Act.eval, List.map_toArray, List.map_cons, List.map_nil, e50, e51]
          first | rfl | (go_simp; done) | (go_simp; rfl)
        | 11, ho, he =>
          obtain rfl : o_ = { dst := some 53, op := Go.Op.buildSlice 43 1 #[(0, Go.Operand.tmp 52)], type := 43, pos := "law.go:68", after := #[{ on := 10, ground := Go.Ground.data }], guard := none } := (Option.some.inj ho).symm
          obtain rfl := Option.some.inj he; clear he
          have e52 : a.tmps.getD 52 undef = .slice A1 (l1.take i).length c1 := hpre ⟨10, .data⟩ (by simp) rfl _ rfl
          clear hpre hfr
          refine wpOp_value (w1 := w1.alloc (.cells #[.slice A1 (l1.take i).length c1] 22)) (v := .slice (some ⟨w1.heap.size, 0, none⟩) 1 1) ho rfl ?_ ⟨_, rfl, ⟨_, rfl, hbs, C_lit1 (heap_new1 _ _) tl1 (Kd.C_alloc (Kd.C_below HT1.out hbl) _)⟩, below_alloc (Below.refl _ _) _⟩
          simp only [execOp, Act.eval, List.map_toArray, List.map_cons, List.map_nil, e52]
          first | rfl | (go_simp; done) | (go_simp; rfl)
        | 12, ho, he =>
          obtain rfl : o_ = { dst := some 54, op := Go.Op.call { callee := Go.Callee.value (Go.Operand.func 10), args := #[Go.Operand.tmp 53], argTypes := #[43] }, type := 24, pos := "law.go:68", after := #[{ on := 11, ground := Go.Ground.data }, { on := 7, ground := Go.Ground.chain }], guard := none } := (Option.some.inj ho).symm
          obtain rfl := Option.some.inj he; clear he
          have e53 := hpre ⟨11, .data⟩ (by simp) rfl _ rfl; dsimp only at e53
          clear hpre hfr
          obtain ⟨g, e1, e2, e3⟩ := e53
          refine wpOp_call ho rfl Try.func10 (by kernel_rfl) rfl #[.slice (some ⟨g, 0, none⟩) 1 1] rfl (by simp only [List.map_toArray, List.map_cons, List.map_nil, Act.eval, e1]) ?_
          refine (crc_Sum.calls (some ⟨g, 0, none⟩) 1 [l1.take i] _ w1 e3 (Nat.le_refl _) (sum_f _ (take_ok l1 i HO1.out))).mono ?_
          rintro e w2 ⟨rfl, hb⟩
          exact ⟨_, rfl, ⟨_, rfl, rfl, hb⟩⟩
        | 13, ho, he =>
          obtain rfl : o_ = { dst := some 55, op := Go.Op.binOp Go.BinOp.xor 24 (Go.Operand.tmp 49) (Go.Operand.tmp 54) 24, type := 24, pos := "law.go:68", after := #[{ on := 7, ground := Go.Ground.data }, { on := 12, ground := Go.Ground.data }], guard := none } := (Option.some.inj ho).symm
          obtain rfl := Option.some.inj he; clear he
          have e49 := hpre ⟨7, .data⟩ (by simp) rfl _ rfl; dsimp only at e49
          have e54 := hpre ⟨12, .data⟩ (by simp) rfl _ rfl; dsimp only at e54
          clear hpre hfr
          refine wpOp_value (v := .int .u32 (Go.bits .xor .u32 (ofB (sumO (l0.take i))) (ofB (sumO (l1.take i))))) ho rfl ?_ ⟨_, rfl, rfl, Below.refl _ _⟩
          simp only [execOp, Act.eval, List.map_toArray, List.map_cons, List.map_nil]
          first | rfl | (go_simp; done) | (go_simp; rfl)
        | 14, ho, he =>
          obtain rfl : o_ = { dst := some 56, op := Go.Op.move (Go.Operand.tmp 2), type := 22, pos := "law.go:68", after := #[], guard := none } := (Option.some.inj ho).symm
          obtain rfl := Option.some.inj he; clear he
          have f2 : a.tmps.getD 2 undef = .slice A2 l2.length c2 := by rw [Array.getD_eq_getD_getElem?, hfr 2 (show ¬ 2 ∈ ([42, 43, 44, 45, 46, 47, 48, 49, 50, 51, 52, 53, 54, 55, 56, 57, 58, 59, 60, 61, 62, 6] : List Nat) by decide)]; rfl
          clear hpre hfr
          refine wpOp_value (v := .slice A2 l2.length c2) ho rfl ?_ ⟨_, rfl, rfl, Below.refl _ _⟩
          simp only [execOp, Act.eval, List.map_toArray, List.map_cons, List.map_nil, f2]
          first | rfl | (go_simp; done) | (go_simp; rfl)
        | 15, ho, he =>
          obtain rfl : o_ = { dst := some 57, op := Go.Op.move (Go.Operand.tmp 7), type := 3, pos := "law.go:68", after := #[], guard := none } := (Option.some.inj ho).symm
          obtain rfl := Option.some.inj he; clear he
          have f7 : a.tmps.getD 7 undef = .int .i64 (i : Int) := by rw [Array.getD_eq_getD_getElem?, hfr 7 (show ¬ 7 ∈ ([42, 43, 44, 45, 46, 47, 48, 49, 50, 51, 52, 53, 54, 55, 56, 57, 58, 59, 60, 61, 62, 6] : List Nat) by decide)]; rfl
          clear hpre hfr
          refine wpOp_value (v := .int .i64 (i : Int)) ho rfl ?_ ⟨_, rfl, rfl, Below.refl _ _⟩
          simp only [execOp, Act.eval, List.map_toArray, List.map_cons, List.map_nil, f7]
          first | rfl | (go_simp; done) | (go_simp; rfl)
        | 16, ho, he =>
          obtain rfl : o_ = { dst := some 58, op := Go.Op.slice 22 (Go.Operand.tmp 56) none (some (Go.Operand.tmp 57)) none, type := 22, pos := "law.go:68", after := #[{ on := 14, ground := Go.Ground.data }, { on := 15, ground := Go.Ground.data }], guard := none } := (Option.some.inj ho).symm
          obtain rfl := Option.some.inj he; clear he
          have e56 : a.tmps.getD 56 undef = .slice A2 l2.length c2 := hpre ⟨14, .data⟩ (by simp) rfl _ rfl
          have e57 : a.tmps.getD 57 undef = .int .i64 (i : Int) := hpre ⟨15, .data⟩ (by simp) rfl _ rfl
          clear hpre hfr
          refine wpOp_value (v := .slice A2 (l2.take i).length c2) ho rfl ?_ ⟨_, rfl, rfl, Below.refl _ _⟩
          simp only [execOp, Act.eval, List.map_toArray, List.map_cons, List.map_nil, e56, e57]
          first | rfl | (go_simp; done) | (go_simp; rfl)
        | 17, ho, he =>
          obtain rfl : o_ = { dst := some 59, op := Go.Op.buildSlice 43 1 #[(0, Go.Operand.tmp 58)], type := 43, pos := "law.go:68", after := #[{ on := 16, ground := Go.Ground.data }], guard := none } := (Option.some.inj ho).symm
          obtain rfl := Option.some.inj he; clear he
          have e58 : a.tmps.getD 58 undef = .slice A2 (l2.take i).length c2 := hpre ⟨16, .data⟩ (by simp) rfl _ rfl
          clear hpre hfr
          refine wpOp_value (w1 := w1.alloc (.cells #[.slice A2 (l2.take i).length c2] 22)) (v := .slice (some ⟨w1.heap.size, 0, none⟩) 1 1) ho rfl ?_ ⟨_, rfl, ⟨_, rfl, hbs, C_lit1 (heap_new1 _ _) tl2 (Kd.C_alloc (Kd.C_below HT2.out hbl) _)⟩, below_alloc (Below.refl _ _) _⟩
          simp only [execOp, Act.eval, List.map_toArray, List.map_cons, List.map_nil, e58]
          first | rfl | (go_simp; done) | (go_simp; rfl)
        | 18, ho, he =>
          obtain rfl : o_ = { dst := some 60, op := Go.Op.call { callee := Go.Callee.value (Go.Operand.func 10), args := #[Go.Operand.tmp 59], argTypes := #[43] }, type := 24, pos := "law.go:68", after := #[{ on := 17, ground := Go.Ground.data }, { on := 12, ground := Go.Ground.chain }], guard := none } := (Option.some.inj ho).symm
          obtain rfl := Option.some.inj he; clear he
          have e59 := hpre ⟨17, .data⟩ (by simp) rfl _ rfl; dsimp only at e59
          clear hpre hfr
          obtain ⟨g, e1, e2, e3⟩ := e59
          refine wpOp_call ho rfl Try.func10 (by kernel_rfl) rfl #[.slice (some ⟨g, 0, none⟩) 1 1] rfl (by simp only [List.map_toArray, List.map_cons, List.map_nil, Act.eval, e1]) ?_
          refine (crc_Sum.calls (some ⟨g, 0, none⟩) 1 [l2.take i] _ w1 e3 (Nat.le_refl _) (sum_f _ (take_ok l2 i HO2.out))).mono ?_
          rintro e w2 ⟨rfl, hb⟩
          exact ⟨_, rfl, ⟨_, rfl, rfl, hb⟩⟩
        | 19, ho, he =>
          obtain rfl : o_ = { dst := some 61, op := Go.Op.binOp Go.BinOp.xor 24 (Go.Operand.tmp 55) (Go.Operand.tmp 60) 24, type := 24, pos := "law.go:68", after := #[{ on := 13, ground := Go.Ground.data }, { on := 18, ground := Go.Ground.data }], guard := none } := (Option.some.inj ho).symm
          obtain rfl := Option.some.inj he; clear he
          have e55 : a.tmps.getD 55 undef = .int .u32 (Go.bits .xor .u32 (ofB (sumO (l0.take i))) (ofB (sumO (l1.take i)))) := hpre ⟨13, .data⟩ (by simp) rfl _ rfl
          have e60 := hpre ⟨18, .data⟩ (by simp) rfl _ rfl; dsimp only at e60
          clear hpre hfr
          refine wpOp_value (v := .int .u32 (Go.bits .xor .u32 (Go.bits .xor .u32 (ofB (sumO (l0.take i))) (ofB (sumO (l1.take i)))) (ofB (sumO (l2.take i))))) ho rfl ?_ ⟨_, rfl, rfl, Below.refl _ _⟩
          simp only [execOp, Act.eval, List.map_toArray, List.map_cons, List.map_nil, e55]
          first | rfl | (go_simp; done) | (go_simp; rfl)
        | 20, ho, he =>
          obtain rfl : o_ = { dst := some 62, op := Go.Op.binOp Go.BinOp.eql 24 (Go.Operand.tmp 44) (Go.Operand.tmp 61) 24, type := 4, pos := "law.go:68", after := #[{ on := 2, ground := Go.Ground.data }, { on := 19, ground := Go.Ground.data }], guard := none } := (Option.some.inj ho).symm
          obtain rfl := Option.some.inj he; clear he
          have e44 := hpre ⟨2, .data⟩ (by simp) rfl _ rfl; dsimp only at e44
          have e61 : a.tmps.getD 61 undef = .int .u32 (Go.bits .xor .u32 (Go.bits .xor .u32 (ofB (sumO (l0.take i))) (ofB (sumO (l1.take i)))) (ofB (sumO (l2.take i)))) := hpre ⟨19, .data⟩ (by simp) rfl _ rfl
          clear hpre hfr
          refine wpOp_value (v := .bool (ofB (sumO (xorN l0 l1 l2 i)) == Go.bits .xor .u32 (Go.bits .xor .u32 (ofB (sumO (l0.take i))) (ofB (sumO (l1.take i)))) (ofB (sumO (l2.take i))))) ho rfl ?_ ⟨_, rfl, rfl, Below.refl _ _⟩
          simp only [execOp, Act.eval, List.map_toArray, List.map_cons, List.map_nil, e61]
          first | rfl | (go_simp; done) | (go_simp; rfl)
        | 21, ho, he =>
          obtain rfl : o_ = { dst := some 6, op := Go.Op.assign (Go.Operand.tmp 62), type := 4, pos := "law.go:68", after := #[{ on := 20, ground := Go.Ground.data }, { on := 18, ground := Go.Ground.chain }, { on := 0, ground := Go.Ground.phase }, { on := 1, ground := Go.Ground.phase }, { on := 2, ground := Go.Ground.phase }, { on := 3, ground := Go.Ground.phase }, { on := 4, ground := Go.Ground.phase }, { on := 5, ground := Go.Ground.phase }, { on := 6, ground := Go.Ground.phase }, { on := 7, ground := Go.Ground.phase }, { on := 8, ground := Go.Ground.phase }, { on := 9, ground := Go.Ground.phase }, { on := 10, ground := Go.Ground.phase }, { on := 11, ground := Go.Ground.phase }, { on := 12, ground := Go.Ground.phase }, { on := 13, ground := Go.Ground.phase }, { on := 14, ground := Go.Ground.phase }, { on := 15, ground := Go.Ground.phase }, { on := 16, ground := Go.Ground.phase }, { on := 17, ground := Go.Ground.phase }, { on := 18, ground := Go.Ground.phase }, { on := 19, ground := Go.Ground.phase }, { on := 20, ground := Go.Ground.phase }], guard := none } := (Option.some.inj ho).symm
          obtain rfl := Option.some.inj he; clear he
          have e62 : a.tmps.getD 62 undef = .bool (ofB (sumO (xorN l0 l1 l2 i)) == Go.bits .xor .u32 (Go.bits .xor .u32 (ofB (sumO (l0.take i))) (ofB (sumO (l1.take i)))) (ofB (sumO (l2.take i)))) := hpre ⟨20, .data⟩ (by simp) rfl _ rfl
          clear hpre hfr
          refine wpOp_value (v := .bool (ofB (sumO (xorN l0 l1 l2 i)) == Go.bits .xor .u32 (Go.bits .xor .u32 (ofB (sumO (l0.take i))) (ofB (sumO (l1.take i)))) (ofB (sumO (l2.take i))))) ho rfl ?_ ⟨_, rfl, rfl, Below.refl _ _⟩
          simp only [execOp, Act.eval, List.map_toArray, List.map_cons, List.map_nil, e62]
          first | rfl | (go_simp; done) | (go_simp; rfl)
        | n_ + 22, ho, he => simp at he
      case fin =>
        intro x w1 hbl hx
        simp only [List.forall_mem_cons] at hx
        obtain ⟨x42, ⟨g43, x43, hg43, hc43⟩, x44, x45, x46, x47, ⟨g48, x48, hg48, hc48⟩, x49, x50, x51, x52, ⟨g53, x53, hg53, hc53⟩, x54, x55, x56, x57, x58, ⟨g59, x59, hg59, hc59⟩, x60, x61, x62, x6, _⟩ := hx
        simp only [List.map_cons, List.map_nil, putL, Act.put, List.setIfInBounds_toArray, List.set_cons_zero, List.set_cons_succ, x42, x43, x44, x45, x46, x47, x48, x49, x50, x51, x52, x53, x54, x55, x56, x57, x58, x59, x60, x61, x62, x6]
        clear x42 x43 x44 x45 x46 x47 x48 x49 x50 x51 x52 x53 x54 x55 x56 x57 x58 x59 x60 x61 x62 x6
        clear hg43 hc43 hg48 hc48 hg53 hc53 hg59 hc59
        go_wp2
        go_ret
        exact ⟨by rw [xor_B, xor_B]; rfl, below_then HB.out HB.out.size hbl⟩

end Go.Proofs.Ytcaibhdnfkkmlaa.G
