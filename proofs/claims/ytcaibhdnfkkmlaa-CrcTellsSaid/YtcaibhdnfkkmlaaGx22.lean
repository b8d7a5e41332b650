-- Made by wip/tools/xprint.py (over the kit's print program) for this claim.
import Derived.RangeFuncNested
import Derived.RangeFuncBound
import Derived.RangeFuncCalls
import Derived.RangeFuncLeaves
import Derived.RangeFuncBox
import Derived.Shelf.Abstract
import Derived.OwnWalkIn
import Derived.TacticsInMore
import Derived.LoopNIn
import Derived.LoopIn
import Derived.Test.YtcaibhdnfkkmlaaGx0
import Derived.Test.YtcaibhdnfkkmlaaGx5
import Derived.Test.YtcaibhdnfkkmlaaGx20
namespace Go.Proofs.Ytcaibhdnfkkmlaa.G
open WB Go.RowKit Go.Proofs.YtcaibhdnfkkmlaaW.PrintWords Go.Proofs.YtcaibhdnfkkmlaaW.PrintLast Go.Proofs.YtcaibhdnfkkmlaaW.PrintMore
attribute [local go_sem] max2_int min2_int max_two min_two max_three min_three max_four min_four   -- for this text's walks alone
set_option linter.unusedVariables false
set_option linter.unusedSimpArgs false

/-! ### crc_Back: function 18 -/
attribute [local go_sem] Oper.semAt_some
/-- What a round keeps: all that lay when the loop began, but the register. -/
def KpR (g B : Nat) (W W' : World) : Prop := W.heap.size ≤ W'.heap.size ∧ ∀ k, k < B → k ≠ g → W'.heap[k]? = W.heap[k]?
theorem KpR.cell {g B : Nat} {W W' : World} (h : KpR g B W W') {a : Addr} (h1 : a.block < B) (h2 : a.block ≠ g) : W'.cell? a = W.cell? a := World.cell?_of_block (h.2 _ h1 h2)
theorem KpR.trans {g B : Nat} {X Y Z : World} (h : KpR g B X Y) (k : KpR g B Y Z) : KpR g B X Z := ⟨Nat.le_trans h.1 k.1, fun i h1 h2 => (k.2 i h1 h2).trans (h.2 i h1 h2)⟩
def downs (n k : Nat) : List Nat := (List.range k).map fun j => n - 1 - j
theorem downs_succ (n k : Nat) : downs n (k + 1) = downs n k ++ [n - 1 - k] := by simp [downs, List.range_succ]
theorem downs_length (n k : Nat) : (downs n k).length = k := by simp [downs]
set_option maxRecDepth 100000 in
set_option maxHeartbeats 2000000 in
theorem backward_in (F : Fence) (n : Nat) (hF : F.fn 33) (hro : F.round = none) (hn : 1 ≤ n) (l Bs g B : Nat) (A : Option Addr) (len cap : Nat) (zs : List Int) (hmax : len ≤ 9223372036854775807) (hB1 : Bs < B) (hB2 : Bs ≠ g) (hA : ∀ ad, A = some ad → 0 < len → ad.block < B ∧ ad.block ≠ g) (J Jx : List Nat → World → Prop)
    (hY : ∀ pre (x : Nat) W, J pre W → pre.length < len → YieldAt F (n - 1) Try.prog l #[.int .i64 (x : Int), .int .u8 (zs[x]?.getD 0)] W fun e W' =>
      (e = .returned (.bool true) ∧ J (pre ++ [x]) W' ∧ KpR g B W W') ∨ (e = .returned (.bool false) ∧ Jx (pre ++ [x]) W'))
    (W : World) (hBc : W.cell? ⟨Bs, 0, none⟩ = some (.slice A len cap)) (hc : ∀ j, j < len → ∃ ad, A = some ad ∧ W.cell? (ad.add j) = some (.int .u8 (zs[j]?.getD 0))) (h0 : J [] W) :
    CallsIn F n Try.prog 33 #[.func (.yield l) #[] #[], .pointer (some ⟨Bs, 0, none⟩)] W fun e W' => (∃ v, e = .returned v) ∧
      ((∃ ys, ys = downs len len ∧ J ys W') ∨ (∃ pre, True ∧ Jx pre W')) := by
  refine callsIn_of_wp Try.func33 rfl hF ?_ hro
  simp only [Try.ntmps33, List.size_toArray, List.length_cons, List.length_nil, Nat.reduceAdd, Nat.reduceSub, Array.replicate_succ, Array.replicate_zero, List.push_toArray, List.append_toArray, List.nil_append, List.cons_append]
  gi_wp2
  gi_loopw [3] (fun i wr => ∃ k : Nat, k ≤ len ∧ i = .int .i64 ((len : Int) - 1 - k) ∧ J (downs len k) wr ∧ KpR g B W wr) (fun i _ => (intOf i + 1).toNat)
  case atStart => exact ⟨0, Nat.zero_le _, by simp, h0, ⟨Nat.le_refl _, fun _ _ _ => rfl⟩⟩
  case round =>
    obtain ⟨k, hk, rfl, hJs, hnx⟩ := hrel
    have hb := (hnx.cell (a := ⟨Bs, 0, none⟩) hB1 hB2).trans hBc
    by_cases hlt : k < len
    · obtain ⟨ad, rfl, hce⟩ := hc (len - 1 - k) (by omega)
      obtain ⟨hA1, hA2⟩ := hA ad rfl (by omega)
      have hcx := (hnx.cell (a := ad.add (len - 1 - k)) (by rw [add_block]; exact hA1) (by rw [add_block]; exact hA2)).trans hce
      obtain ⟨x, hx⟩ : ∃ x, x = len - 1 - k := ⟨_, rfl⟩
      rw [← hx] at hcx
      have hxe : (len : Int) - 1 - k = (x : Int) := by omega
      obtain ⟨fn, tmps, assign, body, hy, hR⟩ := hY _ x wr hJs (by rw [downs_length]; exact hlt)
      rw [hxe]
      have hx0 : (0 : Int) ≤ (x : Int) := by omega
      have hx1 : x < len := by omega
      have hx2 : (x : Int) < (len : Int) := by omega
      have HX := Aside0.mk hx
      clear hx hxe
      gi_wp2
      refine hR.mono ?_
      rintro e W3 (⟨rfl, hJ3, hk3⟩ | ⟨rfl, hJx3⟩)
      · gi_wp2
        go_roundw
        case rel => exact ⟨k + 1, by omega, by have := HX.out; simp; omega, by rw [downs_succ, ← HX.out]; exact hJ3, hnx.trans hk3⟩
        case measure => first | (simp [intOf]; done) | (simp [intOf]; omega)
      · gi_wp2
        refine bodyPost_ret (results_none rfl _ _ _) rfl ?_
        exact ⟨⟨_, rfl⟩, .inr ⟨_, trivial, hJx3⟩⟩
    · have hkl : k = len := by omega
      rw [hkl] at hJs
      have hneg : (len : Int) - 1 - k = -1 := by omega
      rw [hneg]
      gi_wp2
      go_end0
      exact ⟨⟨_, rfl⟩, .inl ⟨_, rfl, hJs⟩⟩
def crc_Back.f (a0 : Int) (l1 : List Int) : Option (Int) := if (0 ≤ a0 ∧ a0 < 4294967296) ∧ octetsOk l1 then some (ofB (~~~ (unrun (~~~ (toB a0)) l1))) else none
set_option maxHeartbeats 2000000 in
set_option maxRecDepth 100000 in
set_option maxHeartbeats 2000000 in
theorem backward_any (A : Option Addr) (n c : Nat) (w : World) : Calls Try.prog 28 #[.slice A n c] w fun e w' => e = .returned (.func (.func 33) #[] #[.pointer (some ⟨w.heap.size, 0, none⟩)]) ∧ w' = w.alloc (.cells #[.slice A n c] 22) := by
  go_enter Try.func28, Try.ntmps28
  go_wp2
  go_ret
  exact ⟨rfl, rfl⟩
theorem back_stops (F : Fence) (n : Nat) (hF : F.fn 33) (hro : F.round = none) (hn : 1 ≤ n) (Bs g : Nat) (A : Option Addr) (cap : Nat) (l : List Int) (w : World) (hB1 : Bs < w.heap.size) (hB2 : Bs ≠ g) (hr : Kd.C (Kd.int .u8) w A l.length l) (hfar : ∀ ad, A = some ad → 0 < l.length → ad.block ≠ g)
    (hBc : w.cell? ⟨Bs, 0, none⟩ = some (.slice A l.length cap)) :
    SeqStopsK F n Try.prog 33 #[.pointer (some ⟨Bs, 0, none⟩)] (fun x : Nat => #[Value.int .i64 (x : Int), Value.int .u8 (l[x]?.getD 0)]) (KpR g w.heap.size) (fun ys => ys = downs l.length l.length) (fun _ => True) l.length w := fun l' J Jx W hW _ _ hY h0 => by
  refine backward_in F n hF hro hn l' Bs g w.heap.size A l.length cap l hr.2.1 hB1 hB2 ?_ J Jx hY W ((hW.cell hB1).trans hBc) ?_ h0
  · intro ad he h
    refine ⟨?_, hfar ad he h⟩
    obtain ⟨ad', e1, q0⟩ := Kd.at_int hr 0 (by omega) (by omega)
    obtain rfl : ad = ad' := Option.some.inj (he.symm.trans e1)
    have := World.block_lt_of_cell? w _ q0
    rwa [add_block] at this
  · intro j hj
    obtain ⟨ad, e1, q0⟩ := Kd.at_int hr (j : Int) (by omega) (by omega)
    refine ⟨ad, e1, ?_⟩
    have hlt := World.block_lt_of_cell? w _ q0
    have := (hW.cell hlt).trans q0
    simpa [rd] using this
theorem unrun_downs (c : BitVec 32) (l : List Int) : ∀ k, k ≤ l.length → (downs l.length k).foldl (fun c j => backO c (l.getD j 0)) c = unrun c (l.drop (l.length - k)) := by
  intro k
  induction k with
  | zero => intro _; simp [downs, unrun]
  | succ k ih =>
    intro hk
    rw [downs_succ, List.foldl_append, ih (by omega), show l.length - (k + 1) = l.length - 1 - k by omega]
    have hlt : l.length - 1 - k < l.length := by omega
    rw [List.drop_eq_getElem_cons hlt, show l.length - 1 - k + 1 = l.length - k by omega, unrun_cons]
    simp [List.getElem?_eq_getElem hlt]
set_option maxHeartbeats 4000000 in
set_option maxRecDepth 100000 in
theorem back_aux (c : Int) (A : Option Addr) (n0 : Nat) (l : List Int) (w : World) (hc0 : 0 ≤ c) (hc1 : c < 4294967296) (hok : octetsOk l = true) (hr : Kd.C (Kd.int .u8) w A l.length l) (hn : l.length ≤ n0) :
    CallsIn Fence.wide 20 Try.prog 18 #[.int .u32 c, .slice A l.length n0] w fun e w' => e = .returned (.int .u32 (ofB (~~~ (unrun (~~~ (toB c)) l)))) ∧ Below w.heap.size w w' := by
  have HR := Aside0.mk hr
  have HOK := Aside0.mk hok
  have hat := crc_at (toB c)
  rw [ofB_toB c hc0 hc1] at hat
  have HAT := Aside0.mk hat
  clear hat hr hok
  refine callsIn_of_wp_marks Try.func18 rfl trivial ?_ rfl
  simp only [Try.ntmps18, List.size_toArray, List.length_cons, List.length_nil, Nat.reduceAdd, Nat.reduceSub, Array.replicate_succ, Array.replicate_zero, List.push_toArray, List.append_toArray, List.nil_append, List.cons_append]
  gi_wp2
  refine ⟨trivial, ?_⟩
  refine (callsIn_wide.2 (HAT.out _)).mono ?_
  rintro e w1 ⟨g, rfl, hg1, hg2, hb⟩
  have HB1 := Aside0.mk hb
  have HG1 := Aside0.mk hg1
  have HG2 := Aside0.mk hg2
  clear hg1 hg2 hb
  have hlt1 := blk_lt HG2.out
  have hw2 : ∃ w2, w2 = w1.alloc (.cells #[.pointer (some ⟨g, 0, none⟩)] 44) := ⟨_, rfl⟩
  gi_wp2
  refine ⟨trivial, ?_⟩
  refine (callsIn_wide.2 (backward_any A l.length n0 _)).mono ?_
  rintro e w3 ⟨rfl, rfl⟩
  obtain ⟨w2, hw2⟩ := hw2
  rw [← hw2]
  have G2 := blk_alloc HG2.out (.cells #[.pointer (some ⟨g, 0, none⟩)] 44)
  have R2 := heap_new1 w1 (.cells #[.pointer (some ⟨g, 0, none⟩)] 44)
  have B2 := below_alloc HB1.out (.cells #[.pointer (some ⟨g, 0, none⟩)] 44)
  have S2 : w2.heap.size = w1.heap.size + 1 := by rw [hw2, World.size_alloc]
  rw [← hw2] at G2 R2 B2
  clear hw2
  have G3 := blk_alloc G2 (.cells #[.slice A l.length n0] 22)
  have R3 := blk_alloc R2 (.cells #[.slice A l.length n0] 22)
  have N3 := heap_new1 w2 (.cells #[.slice A l.length n0] 22)
  have B3 := below_alloc B2 (.cells #[.slice A l.length n0] 22)
  have S3 : (w2.alloc (.cells #[.slice A l.length n0] 22)).heap.size = w1.heap.size + 2 := by rw [World.size_alloc, S2]
  obtain ⟨w3, hw3⟩ : ∃ w3, w3 = w2.alloc (.cells #[.slice A l.length n0] 22) := ⟨_, rfl⟩
  rw [← hw3] at G3 R3 N3 B3 S3 ⊢
  clear hw3
  have S2' : w2.heap.size = w1.heap.size + 1 := S2
  rw [S2] at N3 ⊢
  have hfar := Kd.far_C 0 HR.out HG1.out
  have HR3 := Kd.C_below HR.out B3
  have hBc : w3.cell? ⟨w1.heap.size + 1, 0, none⟩ = some (.slice A l.length n0) := by rw [blk_cell N3]; rfl
  have hsz := HB1.out.size
  gi_wp2
  refine wpIn_rangeFunc_ownG (α := Nat) (n := 20) (Kp := KpR g w3.heap.size) rfl (by decide) (gf := 33) (lb := #[.pointer (some ⟨w1.heap.size + 1, 0, none⟩)]) ?hgv trivial (enters_of Try.func33 (by kernel_rfl) rfl)
    (back_stops Fence.wide 19 trivial rfl (by omega) (w1.heap.size + 1) g A n0 l w3 (by omega) (by omega) HR3 hfar hBc) (fun h k => KpR.trans h k) (fun W l o o' hl hW _ _ => ⟨by simp, fun k hk _ => World.putObj_heap_other (by omega)⟩) (Below.refl _ _) ?hps
    (fun (pre : List Nat) (W : World) => (W.heap[g]? = some (.cells (#[.int .u32 (ofB (pre.foldl (fun (c : BitVec 32) (j : Nat) => backO c (l[j]?.getD 0)) (~~~ (toB c))))] ++ tabV) 54 (0, 0)) ∧ W.heap[w1.heap.size]? = some (.cells #[.pointer (some ⟨g, 0, none⟩)] 44 (0, 0)) ∧ w3.heap.size ≤ W.heap.size) ∧ Below w.heap.size w W)
    (fun _ _ _ => False)
    (OwnFrom.and (fun s X Y row hs hg hr => ⟨(hg.block g (blk_lt hs.1) (fun e => by obtain ⟨_, o, h1, h2⟩ := hr g e.symm; rw [hs.1] at h1; cases h1; cases h2)).trans hs.1, (hg.block _ (blk_lt hs.2.1) (fun e => by obtain ⟨_, o, h1, h2⟩ := hr _ e.symm; rw [hs.2.1] at h1; cases h1; cases h2)).trans hs.2.1, Nat.le_trans hs.2.2 hg.size⟩) (ownFrom_below (by omega) (by omega)))
    (fun _ _ _ _ _ hs _ _ => hs)
    ⟨⟨G3, R3, Nat.le_refl _⟩, B3⟩
    (fun (x : Nat) => { tmps := #[.int .u32 c, .slice A l.length n0, undef, undef, .int .u32 0, .pointer (some ⟨w1.heap.size, 0, none⟩), undef, .int .u8 (l[x]?.getD 0), .int .u32 c, .pointer (some ⟨g, 0, none⟩), .slice A l.length n0, .func (.func 33) #[] #[.pointer (some ⟨w1.heap.size + 1, 0, none⟩)], .int .i64 (x : Int), .int .u8 (l[x]?.getD 0), undef, undef, undef, undef, undef], defers := [] }) ?assign ?body ?done ?stop
  case hps => exact fun _ => rfl
  case hgv => rfl
  case assign =>
    intro l' x W K hK
    gi_wp2
    exact hK
  case body =>
    rintro l' pre x W ⟨⟨hG, hRr, hs3⟩, hB⟩ _
    have hcr : W.cell? ⟨w1.heap.size, 0, none⟩ = some (.pointer (some ⟨g, 0, none⟩)) := by rw [blk_cell hRr]; rfl
    have hx := octetsOk_get HOK.out x
    rw [List.getD_eq_getElem?_getD] at hx
    have HG := Aside0.mk hG
    have HX := Aside0.mk hx
    clear hG hx
    gi_wp2
    refine ⟨trivial, ?_⟩
    refine (CallsIn.inRound l' (callsIn_wide.2 (crc_out g _ _ W HG.out HX.out.1 HX.out.2))).mono ?_
    rintro e W' ⟨rfl, hG', hgr⟩
    gi_wp2
    refine ⟨KeepsFrom.of_grownBy hgr (fun j e => by injection e with e; omega), ⟨hgr.size, fun k hk hne => hgr.block k (by omega) (fun e => hne (by injection e))⟩, ⟨by rw [List.foldl_append]; exact hG', (hgr.block _ (blk_lt hRr) (fun e => by injection e with e; omega)).trans hRr, Nat.le_trans hs3 hgr.size⟩, below_grown_own hB hgr (fun k e => by injection e with e; have := HG1.out; omega) hB.size⟩
  case done =>
    rintro D ys W hD rfl ⟨⟨hG, hRr, hs3⟩, hB⟩ hK
    have hcr : W.cell? ⟨w1.heap.size, 0, none⟩ = some (.pointer (some ⟨g, 0, none⟩)) := by rw [blk_cell hRr]; rfl
    have HK := Aside0.mk hK
    have HG := Aside0.mk hG
    have hun := unrun_downs (~~~ (toB c)) l l.length (Nat.le_refl _)
    rw [Nat.sub_self, List.drop_zero] at hun
    simp only [List.getD_eq_getElem?_getD] at hun
    have HUN := Aside0.mk hun
    clear hK hG hun
    gi_wp2
    refine ⟨trivial, ?_⟩
    refine (callsIn_wide.2 (crc_sum g _ W HG.out)).mono ?_
    rintro e W' ⟨rfl, rfl⟩
    gi_wp2
    refine ⟨by simp, .inl ⟨_, _, rfl, run_takeDeferred HK.out, ?_⟩⟩
    exact ⟨_, results_tmp rfl _ _ _, by rw [← HUN.out]; rfl, hB.trans (belowK_b (w := w) (Nat.le_refl _) W D _ _ (by omega) HK.out rfl rfl)⟩
  case stop =>
    rintro D c' pre W _ _ h _
    exact h.elim
set_option maxHeartbeats 2000000 in
theorem crc_Back.calls (a0 : Int) (A1 : Option Addr) (c1 : Nat) (l1 : List Int) (r : Int) (w : World) (hr1 : Kd.C (Kd.int .u8) w A1 l1.length l1) (hc1 : l1.length ≤ c1) (h : crc_Back.f a0 l1 = some r) :
    Calls Try.prog 18 #[.int .u32 a0, .slice A1 l1.length c1] w fun e w' => e = .returned (.int .u32 r) ∧ Below w.heap.size w w' := by
  unfold crc_Back.f at h
  split at h
  case isFalse => cases h
  case isTrue ho =>
  obtain rfl := Option.some.inj h
  exact callsIn_wide.1 (back_aux a0 A1 c1 l1 w ho.1.1 ho.1.2 ho.2 hr1 hc1)

end Go.Proofs.Ytcaibhdnfkkmlaa.G
