-- Made by wip/tools/xprint.py (over the kit's print program) for this claim.
import Derived.Test.YtcaibhdnfkkmlaaGx0
import Derived.Test.YtcaibhdnfkkmlaaGx5
namespace Go.Proofs.Ytcaibhdnfkkmlaa.G
open WB Go.RowKit Go.Proofs.YtcaibhdnfkkmlaaW.PrintWords Go.Proofs.YtcaibhdnfkkmlaaW.PrintLast Go.Proofs.YtcaibhdnfkkmlaaW.PrintMore
attribute [local go_sem] max2_int min2_int max_two min_two max_three min_three max_four min_four   -- for this text's walks alone
set_option linter.unusedVariables false
set_option linter.unusedSimpArgs false

/-! ### crc_register_out: function 29 -/
set_option maxHeartbeats 2000000 in
theorem out_test (gb g : Nat) (c : BitVec 32) (x : Int) (w : World) (hg : w.heap[g]? = some (.cells (#[.int .u32 (ofB c)] ++ tabV) 54 (0, 0))) (hb : w.heap[gb]? = some (.cells #[.pointer (some ⟨g, 0, none⟩)] 44 (0, 0))) :
    Calls Try.prog 35 #[.int .u32 x, .pointer (some ⟨gb, 0, none⟩)] w fun e w' => e = .returned (.bool (x / 16777216 == ofB c / 16777216)) ∧ w = w' := by
  have c0 : w.cell? ⟨g, 0, none⟩ = some (.int .u32 (ofB c)) := by rw [blk_cell hg, Array.getElem?_append_left (by simp)]; rfl
  have c1 : w.cell? ⟨gb, 0, none⟩ = some (.pointer (some ⟨g, 0, none⟩)) := by rw [blk_cell hb]; rfl
  clear hg hb
  go_enter Try.func35, Try.ntmps35
  go_wp2
  go_ret
  exact ⟨rfl, rfl⟩
set_option maxHeartbeats 2000000 in
set_option maxRecDepth 100000 in
theorem out_index (gb g : Nat) (c : BitVec 32) (w : World) (hg : w.heap[g]? = some (.cells (#[.int .u32 (ofB c)] ++ tabV) 54 (0, 0))) (hb : w.heap[gb]? = some (.cells #[.pointer (some ⟨g, 0, none⟩)] 44 (0, 0))) :
    Calls Try.prog 34 #[.slice (some ⟨g, 1, none⟩) 256 256, .func (.func 35) #[] #[.pointer (some ⟨gb, 0, none⟩)]] w fun e w' => e = .returned (.int .i64 (outIx c : Int)) ∧ w = w' := by
  have HG := Aside0.mk hg
  have HB := Aside0.mk hb
  clear hg hb
  go_enter Try.func34, Try.ntmps34
  go_wp2
  go_loop [8] (fun v8 => ∃ k : Nat, v8 = .int .i64 k ∧ k ≤ outIx c) (fun v8 => 256 - (intOf v8).toNat)
  case atStart => exact ⟨0, rfl, by omega⟩
  case round =>
    obtain ⟨k, rfl, hk⟩ := hrel
    have hix := outIx_lt c
    have hk2 : k < 256 := by omega
    have b1 : decide ((k : Int) < 256) = true := decide_eq_true (by omega)
    have c0 : w.cell? ⟨g, 1 + k, none⟩ = some (.int .u32 (tabI k)) := by rw [blk_cell HG.out, Array.getElem?_append_right (by simp)]; simpa using tabV_get k hk2
    have c0' : w.cell? ((⟨g, 1, none⟩ : Addr).add k) = some (.int .u32 (tabI k)) := by rw [Addr.add_lit]; exact c0
    by_cases he : k = outIx c
    · have ht : (tabI k / 16777216 == ofB c / 16777216) = true := by rw [he, tab_top]; exact beq_self_eq_true _
      have HE := Aside0.mk he
      clear he
      go_wp2_with (go_at_call 35; (with_reducible refine (out_test gb g c (tabI k) _ HG.out HB.out).mono ?_); rintro e w1 ⟨rfl, rfl⟩)
      go_ret
      exact ⟨by rw [← HE.out]; rfl, rfl⟩
    · have ht : (tabI k / 16777216 == ofB c / 16777216) = false := beq_eq_false_iff_ne.2 (fun hx => he (tab_top_inj k _ hk2 hix (hx.trans (tab_top c).symm)))
      go_wp2_with (go_at_call 35; (with_reducible refine (out_test gb g c (tabI k) _ HG.out HB.out).mono ?_); rintro e w1 ⟨rfl, rfl⟩)
      go_round
      case rel => exact ⟨k + 1, by go_num, by omega⟩
      case measure => simp [intOf]; omega
set_option maxHeartbeats 2000000 in
set_option maxRecDepth 100000 in
theorem crc_out (g : Nat) (c : BitVec 32) (x : Int) (w : World) (hg : w.heap[g]? = some (.cells (#[.int .u32 (ofB c)] ++ tabV) 54 (0, 0))) (h0 : 0 ≤ x) (h1 : x < 256) :
    Calls Try.prog 29 #[.pointer (some ⟨g, 0, none⟩), .int .u8 x] w fun e w' => e = .returned (.tuple #[]) ∧ w'.heap[g]? = some (.cells (#[.int .u32 (ofB (backO c x))] ++ tabV) 54 (0, 0)) ∧ w.grownBy w' (some g) := by
  have hlt := blk_lt hg
  have HG1 := Aside0.mk (blk_alloc hg (.cells #[.pointer (some ⟨g, 0, none⟩)] 44))
  have HB1 := Aside0.mk (heap_new1 w (.cells #[.pointer (some ⟨g, 0, none⟩)] 44))
  have HGR := Aside0.mk (World.grownBy_alloc w (.cells #[.pointer (some ⟨g, 0, none⟩)] 44) (some g))
  clear hg
  go_enter Try.func29, Try.ntmps29
  go_wp2_with fail
  go_at_call 34
  with_reducible refine (out_index w.heap.size g c _ HG1.out HB1.out).mono ?_
  rintro e w1 ⟨rfl, rfl⟩
  obtain ⟨W1, hW1⟩ : ∃ W1, W1 = w.alloc (.cells #[.pointer (some ⟨g, 0, none⟩)] 44) := ⟨_, rfl⟩
  rw [← hW1] at HG1 HB1 HGR ⊢
  clear hW1
  have c0 : W1.cell? ⟨g, 0, none⟩ = some (.int .u32 (ofB c)) := by rw [blk_cell HG1.out, Array.getElem?_append_left (by simp)]; rfl
  have cb : W1.cell? ⟨w.heap.size, 0, none⟩ = some (.pointer (some ⟨g, 0, none⟩)) := by rw [blk_cell HB1.out]; rfl
  have f0 := blk_frozen HG1.out 0
  have hix := outIx_lt c
  have c1 : W1.cell? ⟨g, 1 + outIx c, none⟩ = some (.int .u32 (tabI (outIx c))) := by rw [blk_cell HG1.out, Array.getElem?_append_right (by simp)]; simpa using tabV_get _ hix
  have hout := out_B c x h0 h1
  have hxr : bits .xor .u8 (outIx c : Int) x % 4294967296 = bits .xor .u8 (outIx c : Int) x := by
    obtain ⟨n, rfl⟩ := Int.eq_ofNat_of_zero_le h0
    have := outIx_lt c
    have h9 : outIx c ^^^ n < 256 := Nat.xor_lt_two_pow (n := 8) this (by omega)
    rw [u8_xor_nat _ _ this (by omega)]
    omega
  have hout' : bits .or .u32 (IntKind.u32.wrap (bits .xor .u32 (ofB c) (tabI (outIx c)) * 256)) (bits .xor .u8 (outIx c : Int) x) = ofB (backO c x) := by rw [IntKind.wrap_u32]; exact hout
  obtain ⟨i, hi⟩ : ∃ i, i = outIx c := ⟨_, rfl⟩
  rw [← hi] at hix c1 hout hout' hxr ⊢
  have hi0 : (0 : Int) ≤ (i : Int) := by omega
  have hi3 : (i : Int) < 256 := by omega
  have hi4 : (i : Int) % 256 = (i : Int) := by omega
  have hi5 : IntKind.u8.wrap (i : Int) = (i : Int) := by rw [IntKind.wrap_u8]; omega
  have HI := Aside0.mk hi
  clear hi
  go_wp2_with fail
  go_still_tail 21, (by kernel_rfl)
  go_wp2
  go_end0
  exact ⟨rfl, blk_put (cs := #[.int .u32 (ofB c)] ++ tabV) HG1.out 0 _ (by first | (simp [Array.setIfInBounds_append]; done) | (simp [Array.setIfInBounds_append, hxr, hout]; done) | (simp [Array.setIfInBounds_append, IntKind.wrap_u32, hxr, hout])), grown_drew (grown_set HGR.out)⟩

end Go.Proofs.Ytcaibhdnfkkmlaa.G
