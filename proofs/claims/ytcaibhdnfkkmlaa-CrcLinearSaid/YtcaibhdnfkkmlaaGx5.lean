-- Made by wip/tools/xprint.py (over the kit's print program) for this claim.
import Derived.Test.YtcaibhdnfkkmlaaGx0
import Derived.Test.YtcaibhdnfkkmlaaGx3
namespace Go.Proofs.Ytcaibhdnfkkmlaa.G
open WB Go.RowKit Go.Proofs.YtcaibhdnfkkmlaaW.PrintWords Go.Proofs.YtcaibhdnfkkmlaaW.PrintLast Go.Proofs.YtcaibhdnfkkmlaaW.PrintMore
attribute [local go_sem] max2_int min2_int max_two min_two max_three min_three max_four min_four   -- for this text's walks alone
set_option linter.unusedVariables false
set_option linter.unusedSimpArgs false

/-! ### crc_at: function 24 -/
theorem eight_l (c : BitVec 32) (d : Nat) : ∀ (c : BitVec 32) (i : Nat), i + d = 8 → crc_eight.l0 (d + 1) (ofB c) (i : Int) = some (ofB (stps d c)) := by
  induction d with
  | zero =>
    intro c i hi
    rw [crc_eight.l0, if_neg (by omega)]
    rfl
  | succ d ih =>
    intro c i hi
    rw [crc_eight.l0, if_pos (by omega), ← stp_B', show wrap64 ((i : Int) + 1) = ((i + 1 : Nat) : Int) by unfold wrap64; omega, ih _ _ (by omega)]
    rfl
theorem eight_f (c : BitVec 32) : crc_eight.f 9 (ofB c) = some (ofB (stps 8 c)) := eight_l c 8 c 0 rfl
def tabV : Array Value := (Array.range 256).map fun i => .int .u32 (tabI i)
def tabK (k : Nat) : Array Value := (Array.range 256).map fun i => .int .u32 (if i < k then tabI i else 0)
theorem tabV_size : tabV.size = 256 := by simp [tabV]
theorem tabK_size (k : Nat) : (tabK k).size = 256 := by simp [tabK]
theorem tabK_get (k i : Nat) (h : i < 256) : (tabK k)[i]? = some (.int .u32 (if i < k then tabI i else 0)) := by
  unfold tabK
  rw [Array.getElem?_map]
  simp [h]
theorem tabV_get (i : Nat) (h : i < 256) : tabV[i]? = some (.int .u32 (tabI i)) := by
  unfold tabV
  rw [Array.getElem?_map]
  simp [h]
theorem tabK_step (k : Nat) (h : k < 256) : (tabK k).setIfInBounds k (.int .u32 (tabI k)) = tabK (k + 1) := by
  apply Array.ext_getElem?
  intro i
  rcases Nat.lt_or_ge i 256 with hi | hi
  · rw [tabK_get _ _ hi]
    by_cases he : k = i
    · subst he
      rw [Array.getElem?_setIfInBounds_self_of_lt (by rw [tabK_size]; exact h), if_pos (by omega)]
    · rw [Array.getElem?_setIfInBounds_ne he, tabK_get _ _ hi]
      by_cases h2 : i < k
      · rw [if_pos h2, if_pos (by omega)]
      · rw [if_neg h2, if_neg (by omega)]
  · rw [Array.getElem?_eq_none (by simp [tabK_size]; omega), Array.getElem?_eq_none (by rw [tabK_size]; omega)]
theorem tabK_done : tabK 256 = tabV := by
  apply Array.ext_getElem?
  intro i
  rcases Nat.lt_or_ge i 256 with hi | hi
  · rw [tabK_get _ _ hi, tabV_get _ hi, if_pos hi]
  · rw [Array.getElem?_eq_none (by rw [tabK_size]; omega), Array.getElem?_eq_none (by rw [tabV_size]; omega)]
theorem tabV_one : ∀ q ∈ tabV, q.oneCell' = true := by
  intro q hq
  unfold tabV at hq
  rw [Array.mem_map] at hq
  obtain ⟨i, _, rfl⟩ := hq
  rfl
theorem tabI_of (i : Nat) : ofB (stps 8 (BitVec.ofNat 32 i)) = tabI i := rfl
set_option maxHeartbeats 2000000 in
set_option maxRecDepth 100000 in
theorem table_any (w : World) : Calls Try.prog 32 #[] w fun e w' => e = .returned (.agg tabV) ∧ Below w.heap.size w w' := by
  have hz : ∀ W, (zeroValue 51).run Try.prog W = .ok (.agg (tabK 0)) W := fun W => by kernel_rfl
  go_enter Try.func32, Try.ntmps32
  go_wp2
  go_loopw [2] (fun v2 wr => ∃ k : Nat, v2 = .int .i64 k ∧ k ≤ 256 ∧ Aside0 (wr.heap[w.heap.size]? = some (.cells (tabK k) 51 (0, 0))) ∧ Aside0 (Below w.heap.size w wr)) (fun v2 _ => 256 - (intOf v2).toNat)
  case atStart => exact ⟨0, rfl, by omega, ⟨heap_new1 _ _⟩, ⟨below_alloc (Below.refl _ _) _⟩⟩
  case round =>
    obtain ⟨k, rfl, hk, HG, HB⟩ := hrel
    have hlt0 : w.heap.size < wr.heap.size := blk_lt HG.out
    by_cases hlt : k < 256
    · have b1 : decide ((k : Int) < 256) = true := decide_eq_true (by omega)
      have c0 : wr.cell? ⟨w.heap.size, k, none⟩ = some (.int .u32 0) := by rw [blk_cell HG.out, tabK_get k k hlt, if_neg (by omega)]
      have f0 := blk_frozen HG.out k
      have hw : (k : Int) = ofB (BitVec.ofNat 32 k) := by unfold ofB; rw [BitVec.toNat_ofNat]; omega
      have HE : Aside0 (crc_eight.f 9 (k : Int) = some (tabI k)) := ⟨by rw [hw]; exact eight_f _⟩
      clear hw
      go_wp2_with (go_at_call 36; (with_reducible refine (crc_eight.calls 9 _ _ _ HE.out).mono ?_); rintro e w1 ⟨rfl, ⟨nd, rfl⟩⟩)
      go_roundw
      case rel =>
        exact ⟨k + 1, by go_num, by omega, ⟨blk_put (cs := tabK k) (w := wr.drewN nd) HG.out k _ (tabK_step k hlt)⟩, ⟨below_set (pw_below_drewN HB.out _) (Nat.le_refl _)⟩⟩
      case measure => simp [intOf]; omega
    · have b1 : decide ((k : Int) < 256) = false := decide_eq_false (by omega)
      obtain rfl : k = 256 := by omega
      rw [tabK_done] at HG
      go_wp2_with (first | ((with_reducible refine gate_dst (N := 11) rfl ?_); refine wp_load_whole rfl _ _ rfl rfl HG.out Try.underlying51 rfl (by rw [tabV_size]; kernel_rfl) ?_) | (refine wp_store_whole rfl rfl _ _ _ rfl rfl rfl HG.out (by rw [tabV_size]; kernel_rfl) rfl tabV_one ?_; intro w1 hg1 hr1 hs1))
      refine bodyPost_ret (results_cell_row rfl _ _ w.heap.size 51 tabV (0, 0) _ rfl hg1 Try.underlying51 rfl (by rw [tabV_size]; kernel_rfl)) rfl ?_
      exact ⟨rfl, below_grown_own HB.out hr1 (fun q hq => by injection hq with hq; omega)⟩
theorem regV_build (x : Int) (W : World) : (Instr.build 54 #[(0, .int .u32 x), (1, .agg tabV)]).run Try.prog W = .ok (.agg (#[.int .u32 x] ++ tabV)) W := by
  have hz : ∀ W, (zeroValue 54).run Try.prog W = .ok (.agg (#[.int .u32 0] ++ tabK 0)) W := fun W => by kernel_rfl
  have hu := fun W => run_underlying (w := W) Try.underlying54
  have h1 : ∀ W, (sizeOf 24).run Try.prog W = .ok 1 W := fun W => by kernel_rfl
  have h2 : ∀ W, (sizeOf 51).run Try.prog W = .ok 256 W := fun W => by kernel_rfl
  unfold Instr.build
  have c1 : (Value.int .u32 x).cells = #[.int .u32 x] := rfl
  have c2 : (Value.agg tabV).cells = tabV := rfl
  have c3 : (Value.agg (#[Value.int .u32 0] ++ tabK 0)).cells = #[Value.int .u32 0] ++ tabK 0 := rfl
  have e1 : Array.foldl (fun (cs : Array Value) (x : Value × Nat) => cs.setIfInBounds x.snd x.fst) (#[Value.int .u32 0] ++ tabK 0) (#[Value.int .u32 x] : Array Value).zipIdx = #[Value.int .u32 x] ++ tabK 0 := by
    apply Array.ext'
    simp
  have e2 : Array.foldl (fun (cs : Array Value) (x : Value × Nat) => cs.setIfInBounds (1 + x.snd) x.fst) (#[Value.int .u32 x] ++ tabK 0) tabV.zipIdx = #[Value.int .u32 x] ++ tabV := by
    have := fold_set_arr tabV 1 (#[Value.int .u32 x] ++ tabK 0) (by simp [tabV_size, tabK_size])
    apply Array.ext'
    rw [this]
    have hl : (tabK 0).size = 256 := tabK_size 0
    simp [tabV_size]
    omega
  simp [hz, hu, h1, h2, Instr.fill, c1, c2, c3]
  simp at e2
  rw [if_neg (by rw [tabV_size, tabK_size]; omega), e2]
  rfl
set_option maxHeartbeats 2000000 in
set_option maxRecDepth 100000 in
theorem crc_at (c : BitVec 32) (w : World) : Calls Try.prog 24 #[.int .u32 (ofB c)] w fun e w' => ∃ g, e = .returned (.pointer (some ⟨g, 0, none⟩)) ∧ w.heap.size ≤ g ∧ w'.heap[g]? = some (.cells (#[.int .u32 (ofB (~~~c))] ++ tabV) 54 (0, 0)) ∧ Below w.heap.size w w' := by
  have hb := fun W => Aside0.mk (regV_build (ofB (~~~c)) W)
  have HB := Aside0.mk hb
  clear hb
  have hn := not_B' c
  have hsg : IntKind.u32.signed = false := rfl
  have hmx : IntKind.u32.max = 4294967295 := rfl
  go_enter Try.func24, Try.ntmps24
  go_wp2_with (first | (go_at_call 32; (with_reducible refine (table_any _).mono ?_); rintro e w1 ⟨rfl, hb1⟩; have HB1 := Aside0.mk hb1; clear hb1) | ((with_reducible refine gate_dst (N := 6) rfl ?_); refine wp_build_by rfl _ _ rfl #[(0, .int .u32 (ofB (~~~c))), (1, .agg tabV)] (by simp [Act.eval]) ((HB.out _).out) ?_))
  go_ret
  exact ⟨_, rfl, HB1.out.size, heap_new1 _ _, below_alloc HB1.out _⟩
set_option maxHeartbeats 2000000 in
set_option maxRecDepth 100000 in
theorem crc_on (g : Nat) (c : BitVec 32) (A : Option Addr) (n0 : Nat) (l : List Int) (w : World) (hg : w.heap[g]? = some (.cells (#[.int .u32 (ofB c)] ++ tabV) 54 (0, 0))) (hr : Kd.C (Kd.int .u8) w A l.length l) (hc : l.length ≤ n0) (hf : ∀ ad, A = some ad → 0 < l.length → ad.block ≠ g) (ho : octetsOk l = true) :
    Calls Try.prog 25 #[.pointer (some ⟨g, 0, none⟩), .slice A l.length n0] w fun e w' => e = .returned (.tuple #[]) ∧ w'.heap[g]? = some (.cells (#[.int .u32 (ofB (runO c l))] ++ tabV) 54 (0, 0)) ∧ KeepBut w w' g none ∧ w.grownBy w' (some g) := by
  have hc0 : ∀ l', ofB (runO c l') = ofB (runO c l') := fun _ => rfl
  clear hc0
  have HR := Aside0.mk hr
  have HF := Aside0.mk hf
  have HO := Aside0.mk ho
  have HN := Aside0.mk hc
  have hgl := blk_lt hg
  have HG0 := Aside0.mk hg
  clear hg hr hf ho hc
  go_enter Try.func25, Try.ntmps25
  go_wp2
  go_loopw [8] (fun v8 wr => ∃ k : Nat, v8 = .int .i64 k ∧ k ≤ l.length ∧ Aside0 (wr.heap[g]? = some (.cells (#[.int .u32 (ofB (runO c (l.take k)))] ++ tabV) 54 (0, 0))) ∧ Aside0 (KeepBut w wr g none ∧ w.grownBy wr (some g))) (fun v8 _ => l.length - (intOf v8).toNat)
  case atStart => exact ⟨0, rfl, by omega, HG0, ⟨KeepBut.refl _ _ _, grown_of_below (Below.refl _ _) _⟩⟩
  case round =>
    obtain ⟨k, rfl, hk, HG, HK⟩ := hrel
    by_cases hlt : k < l.length
    · have b1 : decide ((k : Int) < (l.length : Int)) = true := decide_eq_true (by omega)
      have b1' : decide (k < l.length) = true := decide_eq_true hlt
      obtain ⟨ad, e1, q0⟩ := Kd.at_int (Kd.C_keep 0 HR.out HK.out.1 HF.out) (k : Int) (by omega) (by omega)
      have hrd : rd l (k : Int) = l.getD k 0 := by simp [rd]
      rw [hrd] at q0
      simp only [Int.toNat_natCast] at q0
      have HX := Aside0.mk (octetsOk_get HO.out k)
      have hmax : l.length ≤ 9223372036854775807 := HR.out.2.1
      have hwk : wrap64 ((k : Int) + 1) = ((k + 1 : Nat) : Int) := by unfold wrap64; omega
      obtain ⟨x, hx⟩ : ∃ x, x = l.getD k 0 := ⟨_, rfl⟩
      rw [← hx] at q0 HX
      obtain ⟨C, hC⟩ : ∃ C, C = runO c (l.take k) := ⟨_, rfl⟩
      rw [← hC] at HG
      have HS : Aside0 (runO c (l.take (k + 1)) = onO C x) := ⟨by rw [List.take_succ_eq_append_getElem hlt, runO_append, hC, hx]; simp [runO, List.getElem?_eq_getElem hlt]⟩
      obtain ⟨i, hi, hi1, hi2⟩ := idx_B C x HX.out.1 HX.out.2
      have c0 : wr.cell? ⟨g, 0, none⟩ = some (.int .u32 (ofB C)) := by rw [blk_cell HG.out, Array.getElem?_append_left (by simp)]; rfl
      have c1 : wr.cell? ⟨g, 1 + i, none⟩ = some (.int .u32 (tabI i)) := by rw [blk_cell HG.out, Array.getElem?_append_right (by simp)]; simpa using tabV_get i hi
      have f0 := blk_frozen HG.out 0
      have hi2' : bits .xor .u32 (ofB C / 256) (tabI i) = ofB (onO C x) := hi2
      have hi1w : bits .xor .u8 (IntKind.u8.wrap (ofB C)) x = (i : Int) := by rw [IntKind.wrap_u8]; exact hi1
      have hi0 : (0 : Int) ≤ (i : Int) := by omega
      have hi3 : (i : Int) < 256 := by omega
      clear hrd hx hC hi2
      subst e1
      go_wp2_with fail
      go_still_tail 21, (by kernel_rfl)
      go_wp2
      go_roundw
      case rel =>
        refine ⟨k + 1, by first | rw [hwk] | go_num, by omega, ⟨?_⟩, ⟨(HK.out.1.set_ 0 _), grown_drew (grown_set HK.out.2)⟩⟩
        rw [HS.out]
        exact blk_put (cs := #[.int .u32 (ofB C)] ++ tabV) HG.out 0 _ (by simp [Array.setIfInBounds_append])
      case measure => first | (rw [hwk]; simp [intOf]; omega) | (simp [intOf]; omega)
    · have b1 : decide ((k : Int) < (l.length : Int)) = false := decide_eq_false (by omega)
      have b1' : decide (k < l.length) = false := decide_eq_false hlt
      rw [List.take_of_length_le (by omega)] at HG
      go_wp2
      go_end0
      exact ⟨rfl, HG.out, HK.out.1, HK.out.2⟩
set_option maxHeartbeats 2000000 in
theorem crc_sum (g : Nat) (c : BitVec 32) (w : World) (hg : w.heap[g]? = some (.cells (#[.int .u32 (ofB c)] ++ tabV) 54 (0, 0))) :
    Calls Try.prog 26 #[.pointer (some ⟨g, 0, none⟩)] w fun e w' => e = .returned (.int .u32 (ofB (~~~c))) ∧ w = w' := by
  have c0 : w.cell? ⟨g, 0, none⟩ = some (.int .u32 (ofB c)) := by rw [blk_cell hg, Array.getElem?_append_left (by simp)]; rfl
  have hn := not_B' c
  have hsg : IntKind.u32.signed = false := rfl
  have hmx : IntKind.u32.max = 4294967295 := rfl
  clear hg
  go_enter Try.func26, Try.ntmps26
  go_wp2
  go_ret
  exact ⟨rfl, rfl⟩

end Go.Proofs.Ytcaibhdnfkkmlaa.G
