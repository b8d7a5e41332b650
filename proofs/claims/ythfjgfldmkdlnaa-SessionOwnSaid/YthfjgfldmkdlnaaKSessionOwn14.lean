/- SessionOwn: texts of this claim, packed: what the kit's print has written for it and own texts, without what its proof does not reach. -/
import Derived.Test.YthfjgfldmkdlnaaKSessionOwn11
import Derived.Test.YthfjgfldmkdlnaaKSessionOwn12
import Derived.Test.YthfjgfldmkdlnaaKSessionOwn13
set_option linter.unusedVariables false
set_option linter.unusedSimpArgs false
set_option linter.unusedSectionVars false
section
namespace Go.Proofs.Ythfjgfldmkdlnaa.G
open WB Go.RowKit Go.Proofs.YthfjgfldmkdlnaaW.PrintWords Go.Proofs.YthfjgfldmkdlnaaW.PrintLast Go.Proofs.YthfjgfldmkdlnaaW.PrintMore
attribute [local go_sem] max2_int min2_int max_two min_two max_three min_three max_four min_four   -- for this text's walks alone
set_option linter.unusedVariables false
set_option linter.unusedSimpArgs false
def session_Clone.f (l0 : List (S38)) : Option ((List (S38))) := if decide (l0.length < 1000000) && l0.all (fun x => decide (x.f3.f1.length < 1000000000) && x.f3.f1.all fun d => decide (d.f2.length < 140737488355328)) then some l0 else none
theorem session_Clone.ok {l : List S38} (h : SmallS l) : session_Clone.f l = some l := by
  unfold session_Clone.f
  rw [if_pos]
  simp only [Bool.and_eq_true, decide_eq_true_eq, List.all_eq_true]
  exact h
/-- How far the copy is. -/
structure SessInv (w : World) (l : List S38) (A : Option Addr) (c k : Nat) (rows : List (List Value)) (f : Nat → Nat) (wr : World) : Prop where
  len : rows.length = l.length
  raw : (Kd.raw 5).R 38 wr w.heap.size (fun _ => True) (.slice A l.length c) rows
  new : ∀ (j : Nat) x cs, j < k → l[j]? = some x → rows[j]? = some cs → k38.M wr w.heap.size (fun q => (True ∧ some q ≠ (Value.slice A l.length c).ownBlock) ∧ f q = j) x cs
  old : ∀ (j : Nat) x cs, k ≤ j → l[j]? = some x → rows[j]? = some cs → k38.K w x cs
  bel : Below w.heap.size w wr
set_option maxHeartbeats 2000000 in
set_option maxRecDepth 100000 in
theorem session_Clone.calls (A0 : Option Addr) (c0 : Nat) (l0 : List (S38)) (r : List (S38)) (w : World) (hr0 : Kd.C k38 w A0 l0.length l0) (hc0 : l0.length ≤ c0) (h : session_Clone.f l0 = some r) :
    Calls Try.prog 31 #[.slice A0 l0.length c0] w fun e w' => ∃ v0_ : Value, e = .returned (v0_) ∧ Kd.R k38 38 w' w.heap.size (fun _ => True) v0_ r ∧ Below w.heap.size w w' := by
  unfold session_Clone.f at h
  split at h
  case isFalse => cases h
  case isTrue hl =>
  obtain ⟨⟨⟩⟩ := h
  simp only [Bool.and_eq_true, decide_eq_true_eq, List.all_eq_true] at hl
  have HL := Aside0.mk hl.1
  have HDA := Aside0.mk hl.2
  obtain ⟨css, hcl, hcr, hK⟩ := Kd.reads_raw hr0 (fun y c hk => ⟨k38.K_len hk, k38.K_one hk⟩)
  have HCL := Aside0.mk hcl
  have HCR := Aside0.mk hcr
  have HK := Aside0.mk hK
  have HC := Aside0.mk hc0
  clear hr0 hc0 hl hcl hcr hK
  go_enter Try.func31, Try.ntmps31
  go_wp2_with fail
  go_at_call 46
  with_reducible refine (clone_sess A0 c0 l0.length css _ ?hr1 HC.out (by have := HL.out; omega)).mono ?_
  case hr1 => exact ReadsRow.imp_ HCR.out (Below.refl _ _) (fun _ _ hp => hp)
  rintro e w1 ⟨v1, rfl, hR, hb⟩
  obtain ⟨A1, c1, rfl⟩ := Kd.R_slice hR
  rw [HCL.out] at hR ⊢
  have HRW := Aside0.mk hR
  have HB1 := Aside0.mk hb
  clear hR hb
  go_wp2_with fail
  go_loopw [10] (fun v10 wr => ∃ (k : Nat) (rows : List (List Value)) (f : Nat → Nat), v10 = .int .i64 k ∧ k ≤ l0.length ∧ Aside0 (SessInv w l0 A1 c1 k rows f wr)) (fun v10 _ => l0.length - (intOf v10).toNat)
  case atStart => exact ⟨0, css, fun _ => 0, rfl, by omega, ⟨HCL.out, HRW.out, fun j x cs hj => by omega, fun j x cs _ hx hc => HK.out j x cs hx hc, HB1.out⟩⟩
  case round =>
    obtain ⟨k, rows, f, rfl, hk, HI⟩ := hrel
    by_cases hlt : k < l0.length
    · have b1 : decide ((k : Int) < (l0.length : Int)) = true := decide_eq_true (by omega)
      have b1' : decide (k < l0.length) = true := decide_eq_true hlt
      obtain ⟨g, rfl⟩ : ∃ g, A1 = some ⟨g, 0, none⟩ := by
        rcases A1 with _ | ad
        · obtain ⟨A, c, he, _, hC⟩ := Kd.R_reads HI.out.raw
          rw [HI.out.len] at he hC
          obtain ⟨ad, h1, _⟩ := hC.2.2 (by omega)
          injection he with he
          rw [h1] at he
          cases he
        · obtain ⟨g, rfl⟩ := Kd.R_head HI.out.raw
          exact ⟨g, rfl⟩
      obtain ⟨cs, hc1, hc2, hc3, hc4⟩ := Kd.R_elem HI.out.raw [] (k : Int) (by omega) (by omega)
      have hrk : rows[k]? = some cs := by
        have h5 : cs = rows.getD k [] := hc2.1
        rw [h5, List.getD_eq_getElem?_getD, List.getElem?_eq_getElem (by rw [HI.out.len]; exact hlt)]
        rfl
      obtain ⟨x, hx⟩ : ∃ x, l0[k]? = some x := ⟨_, List.getElem?_eq_getElem hlt⟩
      obtain ⟨A2, c2, rfl, l2, g2⟩ := k38_open (k38.K_below HI.out.bel (HI.out.old k x cs (Nat.le_refl _) hx hrk))
      have q0 : wr.cell? ⟨g, k * 5, none⟩ = some (.int .i64 x.f0) := hc3 0 _ rfl
      have q1 : wr.cell? ⟨g, k * 5 + 1, none⟩ = some (.int .i64 x.f1) := hc3 1 _ rfl
      have q2 : wr.cell? ⟨g, k * 5 + 2, none⟩ = some (.int .i64 x.f2) := hc3 2 _ rfl
      have q3 : wr.cell? ⟨g, k * 5 + 3, none⟩ = some (.int .i64 x.f3.f0) := hc3 3 _ rfl
      have q4 : wr.cell? ⟨g, k * 5 + 4, none⟩ = some (.slice A2 x.f3.f1.length c2) := hc3 4 _ rfl
      have hgl : g < wr.heap.size := Kd.R_lt HI.out.raw g (by simp [Value.ownBlock])
      have HX := Aside0.mk hx
      have L2 := Aside0.mk l2
      have G2 := Aside0.mk g2
      have HRK := Aside0.mk hrk
      have HGL := Aside0.mk hgl
      have HCD : Aside0 (window_Clone.f x.f3.f0 x.f3.f1 = some (x.f3.f0, x.f3.f1)) := ⟨by unfold window_Clone.f; rw [if_pos (by have := HDA.out x (List.mem_of_getElem? HX.out); exact this)]⟩
      clear hc1 hc2 hc3 hc4 hx l2 g2 hrk hgl
      go_wp2_with fail
      go_at_call 36
      with_reducible refine (window_Clone.calls x.f3.f0 A2 c2 x.f3.f1 x.f3.f0 x.f3.f1 _ (Kd.C_alloc G2.out _) L2.out HCD.out).mono ?_
      rintro e w2 ⟨v2, rfl, hS, hb⟩
      have HBW := Aside0.mk (below_then (below_alloc (Below.refl wr.heap.size wr) (.cells #[.int .i64 x.f0, .int .i64 x.f1, .int .i64 x.f2, .int .i64 x.f3.f0, .slice A2 x.f3.f1.length c2] 38)) (by simp) hb)
      have hR2 := Kd.S_R hS
      rw [World.size_alloc] at hR2
      have HR2 := Aside0.mk hR2
      have RW2 := Aside0.mk (Kd.R_below HI.out.raw HBW.out)
      obtain ⟨Ao, co, rfl⟩ := Kd.R_slice HR2.out
      obtain ⟨csz, hz1, hz2, hz3, hz4⟩ := Kd.R_elem RW2.out [] (k : Int) (by omega) (by omega)
      have HZ1 := Aside0.mk hz1
      have HZ3 := Aside0.mk hz3
      have e3 : csz = [.int .i64 x.f0, .int .i64 x.f1, .int .i64 x.f2, .int .i64 x.f3.f0, .slice A2 x.f3.f1.length c2] := by
        have h5 : csz = rows.getD k [] := hz2.1
        rw [h5, List.getD_eq_getElem?_getD, HRK.out]
        rfl
      subst e3
      have t3 := (HBW.out.cell (p := ⟨g, k * 5 + 3, none⟩) HGL.out).trans q3
      have t4 := (HBW.out.cell (p := ⟨g, k * 5 + 4, none⟩) HGL.out).trans q4
      have z3 : w2.frozen? ⟨g, k * 5 + 3, none⟩ = false := hz4 3
      have z4 : w2.frozen? ⟨g, k * 5 + 4, none⟩ = false := hz4 4
      clear hz1 hz2 hz3 hz4 hS hb hR2 q0 q1 q2 q3 q4
      have hwk : wrap64 ((k : Int) + 1) = ((k + 1 : Nat) : Int) := by have := HL.out; unfold wrap64; omega
      go_wp2_with fail
      go_roundw
      case rel =>
        have hone : ∀ u ∈ [Value.int .i64 x.f3.f0, .slice Ao x.f3.f1.length co], u.oneCell' = true := by
          intro u hu
          simp at hu
          rcases hu with rfl | rfl <;> rfl
        have hone5 : ∀ u ∈ [Value.int .i64 x.f0, .int .i64 x.f1, .int .i64 x.f2, .int .i64 x.f3.f0, .slice Ao x.f3.f1.length co], u.oneCell' = true := by
          intro u hu
          simp at hu
          rcases hu with rfl | rfl | rfl | rfl | rfl <;> rfl
        obtain ⟨hraw, hgr⟩ := Kd.R_seg RW2.out (k : Int) (by omega) (by omega) (seg := [.int .i64 x.f3.f0, .slice Ao x.f3.f1.length co]) (j := 3) (x' := [.int .i64 x.f0, .int .i64 x.f1, .int .i64 x.f2, .int .i64 x.f3.f0, .slice Ao x.f3.f1.length co]) (okp := fun _ => False) HZ1.out HZ3.out (by show 3 + 2 ≤ 5; omega) ⟨rfl, rfl, hone5⟩ (fun _ hk => hk.elim)
        have hmv : ∀ q, q < wr.heap.size → q ≠ g → (w2.setCells g ((k : Int).toNat * 5 + 3) [.int .i64 x.f3.f0, .slice Ao x.f3.f1.length co]).heap[q]? = wr.heap[q]? := fun q hq hn => (hgr.block q (by have := HBW.out.size; omega) (by simpa using hn)).trans (HBW.out.block q hq)
        refine ⟨k + 1, rows.set k [.int .i64 x.f0, .int .i64 x.f1, .int .i64 x.f2, .int .i64 x.f3.f0, .slice Ao x.f3.f1.length co], fun q => if q < wr.heap.size + 1 then f q else k, by rw [hwk], by omega, ⟨?_⟩⟩
        refine ⟨by rw [List.length_set]; exact HI.out.len, hraw, fun j y cs hj hy hc => ?_, fun j y cs hj hy hc => ?_, ?_⟩
        · rcases Nat.lt_or_ge j k with hjk | hjk
          · rw [List.getElem?_set_ne (by omega)] at hc
            have h7 := k38.M_bound (HI.out.new j y cs hjk hy hc)
            have h8 := k38.M_move (w1 := w2.setCells g ((k : Int).toNat * 5 + 3) [.int .i64 x.f3.f0, .slice Ao x.f3.f1.length co]) (fun q hq => hmv q hq.2.2.1 (fun he => hq.1.1.2 (by simp [Value.ownBlock, he]))) h7
            exact k38.M_mono (fun q hq => ⟨hq.1.1, by have h9 := hq.2.2.1; rw [if_pos (by omega)]; exact hq.1.2⟩) h8
          · obtain rfl : j = k := by omega
            rw [List.getElem?_set_self (by rw [HI.out.len]; exact hlt)] at hc
            rw [HX.out] at hy
            injection hc with hc
            injection hy with hy
            subst hc hy
            have h7 := Kd.R_step (Kd.R_mono (ok' := fun q => (True ∧ some q ≠ (Value.slice (some ⟨g, 0, none⟩) l0.length c1).ownBlock) ∧ (if q < wr.heap.size + 1 then f q else j) = j) (Kd.R_bound HR2.out) (fun q hq => by
              have h9 : wr.heap.size + 1 ≤ q := hq.2.1
              have h10 := HGL.out
              exact ⟨⟨trivial, fun he => by simp [Value.ownBlock] at he; omega⟩, by rw [if_neg (by omega)]⟩)) (w1 := w2.setCells g ((j : Int).toNat * 5 + 3) [.int .i64 x.f3.f0, .slice Ao x.f3.f1.length co]) (fun q hq hlt => hgr.block q hlt (fun he => hq.1.2 (by rw [he]; rfl)))
            exact k38_mkM _ _ _ x (Kd.R_lower h7 (by have := HI.out.bel.size; omega))
        · rw [List.getElem?_set_ne (by omega)] at hc
          exact HI.out.old j y cs (by omega) hy hc
        · have hbg : w.heap.size ≤ g := Kd.R_base HI.out.raw g (by simp [Value.ownBlock])
          exact below_set (below_set (below_then HI.out.bel HI.out.bel.size HBW.out) hbg) hbg
      case measure => rw [hwk]; simp [intOf]; omega
    · have b1 : decide ((k : Int) < (l0.length : Int)) = false := decide_eq_false (by omega)
      have b1' : decide (k < l0.length) = false := decide_eq_false hlt
      go_wp2
      have hS : Kd.S k38 38 wr w.heap.size (fun _ => True) (.slice A1 l0.length c1) l0 := S_close (t := fun j => j) (fun _ _ => trivial) HI.out.len HI.out.raw (fun i j _ _ h => h) (fun j x cs hx hc => HI.out.new j x cs (by have := (List.getElem?_eq_some_iff.1 hx).1; omega) hx hc)
      go_ret
      exact ⟨_, rfl, Kd.S_R hS, HI.out.bel⟩
end Go.Proofs.Ythfjgfldmkdlnaa.G
end

section
namespace Go.Proofs.Ythfjgfldmkdlnaa.G
open WB Go.RowKit Go.Proofs.YthfjgfldmkdlnaaW.PrintWords Go.Proofs.YthfjgfldmkdlnaaW.PrintLast Go.Proofs.YthfjgfldmkdlnaaW.PrintMore
attribute [local go_sem] max2_int min2_int max_two min_two max_three min_three max_four min_four   -- for this text's walks alone
set_option linter.unusedVariables false
set_option linter.unusedSimpArgs false
def window_New.f  : Option (Int × (List (S51))) := some (1, ([] : List (S51)))
set_option maxHeartbeats 8000000 in
set_option maxRecDepth 100000 in
theorem window_New.calls  (r1 : Int) (r2 : List (S51)) (w : World) (h : window_New.f  = some (r1, r2)) :
    Calls Try.prog 32 #[] w fun e w' => ∃ v1_ : Value, e = .returned (.agg #[.int .i64 r1, v1_]) ∧ Kd.S k51 51 w' w.heap.size (fun _ => True) v1_ r2 ∧ Below w.heap.size w w' := by
  have hu36 := Try.underlying36
  have HB := Aside0.mk (Below.refl w.heap.size w)
  have H : (some (1, ([] : List (S51)))) = some (r1, r2) := h
  clear h
  simp only [Option.some.injEq, Prod.mk.injEq] at H
  obtain ⟨rfl, rfl⟩ := H
  go_enter Try.func32, Try.ntmps32
  go_wp2_with (first | ((with_reducible refine gate_dst (N := 0) rfl ?_); refine box_event ?hg (N := 0) ?hd (cs := #[.int .i64 0, .slice none 0 0]) (t := 36) ?hr ?_; (case hd => rfl); (case hg => rfl); (case hr => first | (go_simp; done) | (go_simp; rfl)); intro gb114 hg w1 hbox hb; have n0_ := Aside0.mk (below_step (by repeat (first | (with_reducible first | exact HB.out | apply below_alloc | apply pw_below_drewN | apply below_drew1) | exact HB.out)) hb); have n1_ := Aside0.mk (hbox); have n2_ := Aside0.mk ((by rw [hg]; exact (below_size (by repeat (first | (with_reducible first | exact HB.out | apply below_alloc | apply pw_below_drewN | apply below_drew1) | exact HB.out))) : w.heap.size ≤ gb114)); have n3_ := Aside0.mk ((by rw [hg]; exact (below_size (by repeat (first | (with_reducible first | exact HB.out | apply below_alloc | apply pw_below_drewN | apply below_drew1) | exact HB.out))) : w.heap.size ≤ gb114)); clear HB; have HB := n0_; have BK114 := n1_; have GW114 := n2_; have GE114 := n3_; clear n0_ n1_ n2_ n3_; clear hb hbox hg; have hcz2_0 : w1.cell? ⟨gb114, 0, none⟩ = some (.int .i64 0) := (blk_cell BK114.out 0).trans rfl; have hcz2_1 : w1.cell? ⟨gb114, 1, none⟩ = some (.slice none 0 0) := (blk_cell BK114.out 1).trans rfl; have hfz2_0 := blk_frozen BK114.out 0; have hfz2_1 := blk_frozen BK114.out 1))
  refine bodyPost_ret (results_cell_row rfl _ _ gb114 36 #[.int .i64 1, .slice none 0 0] (0, 0) _ rfl (by (with_reducible repeat (first | refine blk_drewN ?_ _ | refine blk_drew ?_ | refine blk_alloc ?_ _)); refine blk_put (cs := #[.int .i64 1, .slice none 0 0]) ?_ 1 _ rfl; (with_reducible repeat (first | refine blk_drewN ?_ _ | refine blk_drew ?_ | refine blk_alloc ?_ _)); refine blk_put (cs := #[.int .i64 0, .slice none 0 0]) ?_ 0 _ rfl; (with_reducible repeat (first | refine blk_drewN ?_ _ | refine blk_drew ?_ | refine blk_alloc ?_ _)); exact BK114.out) Try.underlying36 rfl (by kernel_rfl)) rfl ?_
  exact ⟨_, by first | rfl | (simp [errW_none, errW_some] <;> rfl) | (simp [*, errW_none, errW_some] <;> rfl), by first | exact Kd.S_nil _ _ _ _ _ | exact Kd.N_nil _ _ _ _ _ | exact Kd.V_nil _ _ _ _ _ | exact Kd.Q_nil _ _ _ _ _ | exact Kd.R_nil _ _ _ _ _, by repeat (first | (with_reducible first | exact HB.out | apply below_alloc | apply pw_below_drewN | apply below_drew1 | refine below_set ?_ GE114.out) | exact HB.out)⟩
end Go.Proofs.Ythfjgfldmkdlnaa.G
end

section
namespace Go.Proofs.Ythfjgfldmkdlnaa.G
open WB Go.RowKit Go.Proofs.YthfjgfldmkdlnaaW.PrintWords Go.Proofs.YthfjgfldmkdlnaaW.PrintLast Go.Proofs.YthfjgfldmkdlnaaW.PrintMore
attribute [local go_sem] max2_int min2_int max_two min_two max_three min_three max_four min_four   -- for this text's walks alone
set_option linter.unusedVariables false
set_option linter.unusedSimpArgs false
def openS (l : List S38) (s0 s1 s2 next tick client : Int) : List S38 × Int × Int :=
  if checkS l s0 s1 s2 next tick ≠ 0 then ([], 0, checkS l s0 s1 s2 next tick) else if outB client 0 2147483647 = true then ([], 0, 4) else if (l.length : Int) = s0 ∨ next = 1073741824 then ([], 0, 72) else (l ++ [⟨next, client, tick, ⟨1, []⟩⟩], next + 1, 0)
def session_Open.f (l0 : List (S38)) (a1_0 : Int) (a1_1 : Int) (a1_2 : Int) (a2 : Int) (a3 : Int) (a4 : Int) : Option ((List (S38)) × Int × Int) := some (openS l0 a1_0 a1_1 a1_2 a2 a3 a4)
set_option maxHeartbeats 4000000 in
set_option maxRecDepth 100000 in
theorem session_Open.calls (A0 : Option Addr) (c0 : Nat) (l0 : List (S38)) (a1_0 : Int) (a1_1 : Int) (a1_2 : Int) (a2 : Int) (a3 : Int) (a4 : Int) (r1 : List (S38)) (r2 : Int) (r3 : Int) (w : World) (hr0 : Kd.C k38 w A0 l0.length l0) (hc0 : l0.length ≤ c0) (h : session_Open.f l0 a1_0 a1_1 a1_2 a2 a3 a4 = some (r1, r2, r3)) :
    Calls Try.prog 10 #[.slice A0 l0.length c0, .agg #[.int .i64 a1_0, .int .i64 a1_1, .int .i64 a1_2], .int .i64 a2, .int .i64 a3, .int .i64 a4] w fun e w' => ∃ v0_ : Value, e = .returned (.tuple #[v0_, .int .i64 r2, .int .i64 r3]) ∧ Kd.R k38 38 w' w.heap.size (fun _ => True) v0_ r1 ∧ Below w.heap.size w w' := by
  replace h := Option.some.inj h
  have HH := Aside0.mk h
  have HR := Aside0.mk hr0
  have HC := Aside0.mk hc0
  have HBW := Aside0.mk (below_alloc (Below.refl w.heap.size w) (.cells #[.int .i64 a1_0, .int .i64 a1_1, .int .i64 a1_2] 24))
  have hm0 : l0.length ≤ 9223372036854775807 := hr0.2.1
  clear h hr0 hc0
  go_enter Try.func10, Try.ntmps10
  go_wp2_with fail
  go_at_call 29
  with_reducible refine (session_ask A0 c0 l0 a1_0 a1_1 a1_2 a2 a3 _ (Kd.C_alloc HR.out _) HC.out).mono ?_
  rintro e w1 ⟨g, rfl, ht⟩
  have HB1 := Aside0.mk (below_then HBW.out (by simp) ht.bel)
  have HT := Aside0.mk ht.b
  clear ht
  by_cases hc0 : checkS l0 a1_0 a1_1 a1_2 a2 a3 = 0
  · rw [hc0]
    have HM := Aside0.mk (mayS_of hc0)
    have HLN : Aside0 (l0.length ≤ 64) := ⟨by have := HM.out.len; have := HM.out.s; omega⟩
    have HH1 : Aside0 ((if outB a4 0 2147483647 = true then ([], 0, 4) else if (l0.length : Int) = a1_0 ∨ a2 = 1073741824 then ([], 0, 72) else (l0 ++ [⟨a2, a4, a3, ⟨1, []⟩⟩], a2 + 1, 0)) = (r1, r2, r3)) := ⟨by have h := HH.out; unfold openS at h; rwa [if_neg (show ¬ checkS l0 a1_0 a1_1 a1_2 a2 a3 ≠ 0 by rw [hc0]; simp)] at h⟩
    clear hc0
    go_wp2_with fail
    go_at_call 30
    with_reducible refine (session_in.calls a4 0 2147483647 (!outB a4 0 2147483647) _ (in_f a4 0 2147483647)).mono ?_
    rintro e w2 ⟨rfl, hd⟩
    have HB2 := Aside0.mk (below_then HB1.out HB1.out.size hd.below)
    have HT2 := Aside0.mk (blk_below HT.out hd.below)
    clear hd HB1 HT
    by_cases ho : outB a4 0 2147483647 = true
    · rw [ho]
      obtain ⟨⟨⟩⟩ : Aside0 ((([], 0, 4) : List S38 × Int × Int) = (r1, r2, r3)) := ⟨by rw [← HH1.out, if_pos ho]⟩
      go_wp2_with fail
      go_ret3
      exact ⟨_, rfl, Kd.R_nil _ _ _ _ _, HB2.out⟩
    · have ho' : outB a4 0 2147483647 = false := Bool.of_not_eq_true ho
      rw [ho']
      have HH2 : Aside0 ((if (l0.length : Int) = a1_0 ∨ a2 = 1073741824 then ([], 0, 72) else (l0 ++ [⟨a2, a4, a3, ⟨1, []⟩⟩], a2 + 1, 0)) = (r1, r2, r3)) := ⟨by rw [← HH1.out, if_neg ho]⟩
      have t0 : w2.cell? ⟨g, 0, none⟩ = some (.int .i64 a1_0) := (blk_cell HT2.out 0).trans rfl
      clear ho ho'
      by_cases hl : (l0.length : Int) = a1_0
      · have e1 : ((l0.length : Int) == a1_0) = true := by simpa using hl
        obtain ⟨⟨⟩⟩ : Aside0 ((([], 0, 72) : List S38 × Int × Int) = (r1, r2, r3)) := ⟨by rw [← HH2.out, if_pos (.inl hl)]⟩
        clear hl
        go_wp2_with fail
        go_ret3
        exact ⟨_, rfl, Kd.R_nil _ _ _ _ _, HB2.out⟩
      · have e1 : ((l0.length : Int) == a1_0) = false := by simpa using hl
        by_cases hn : a2 = 1073741824
        · have e2 : (a2 == 1073741824) = true := by simpa using hn
          obtain ⟨⟨⟩⟩ : Aside0 ((([], 0, 72) : List S38 × Int × Int) = (r1, r2, r3)) := ⟨by rw [← HH2.out, if_pos (.inr hn)]⟩
          clear hl hn
          go_wp2_with fail
          go_ret3
          exact ⟨_, rfl, Kd.R_nil _ _ _ _ _, HB2.out⟩
        · have e2 : (a2 == 1073741824) = false := by simpa using hn
          obtain ⟨⟨⟩⟩ : Aside0 (((l0 ++ [⟨a2, a4, a3, ⟨1, []⟩⟩], a2 + 1, 0) : List S38 × Int × Int) = (r1, r2, r3)) := ⟨by rw [← HH2.out, if_neg (by rw [not_or]; exact ⟨hl, hn⟩)]⟩
          have hwn : IntKind.i64.wrap (a2 + 1) = a2 + 1 := by have := HM.out.n; rw [IntKind.wrap_i64]; omega
          clear hl hn
          go_wp2_with fail
          go_at_call 31
          with_reducible refine (session_Clone.calls A0 c0 l0 l0 _ (Kd.C_below HR.out HB2.out) HC.out (session_Clone.ok HM.out.small)).mono ?_
          rintro e w3 ⟨v3, rfl, hr3, hb3⟩
          obtain ⟨A3, c3, rfl⟩ := Kd.R_slice hr3
          have HR3 := Aside0.mk hr3
          have HB3 := Aside0.mk hb3
          clear hr3 hb3 t0
          go_wp2_with fail
          go_at_call 32
          with_reducible refine (window_New.calls 1 [] _ rfl).mono ?_
          rintro e w4 ⟨v4, rfl, hr4, hb4⟩
          have hr4' := Kd.S_R hr4
          obtain ⟨A4, c4, rfl⟩ := Kd.R_slice hr4'
          have HR4 : Aside0 (Kd.R k51 51 w4 w2.heap.size (fun k => True ∧ some k ≠ (Value.slice A3 l0.length c3).ownBlock) (.slice A4 ([] : List S51).length c4) []) := ⟨Kd.R_lower (Kd.R_mono (Kd.R_bound hr4') (fun q hq => ⟨trivial, fun he => by have := Kd.R_lt HR3.out q he.symm; have := hq.2.1; omega⟩)) HB3.out.size⟩
          have HR34 := Aside0.mk (Kd.R_below HR3.out hb4)
          have HB4 := Aside0.mk (below_then HB3.out HB3.out.size hb4)
          clear hr4 hr4' hb4
          go_wp2_with (first | ((with_reducible refine gate_builtin (b := .append) (xs := #[.tmp 45, .tmp 51]) rfl ?_); at_builtin; refine Kd.R_append k38 (w0 := w2) w2.heap.size rfl (.tmp 45) (.tmp 51) 22 38 (.agg #[.int .i64 0, .int .i64 0, .int .i64 0, .int .i64 0, .slice none 0 0]) 56 rfl Try.underlying22 info38 rfl (by decide) (by omega) _ l0 ⟨a2, a4, a3, ⟨1, []⟩⟩ [.int .i64 a2, .int .i64 a4, .int .i64 a3, .int .i64 1, .slice A4 ([] : List S51).length c4] (fun _ => True) (fun k => True ∧ some k ≠ (Value.slice A3 l0.length c3).ownBlock) rfl rfl (k38_mkM _ _ _ (⟨a2, a4, a3, ⟨1, []⟩⟩ : S38) HR4.out) (fun _ h => h) (fun _ _ => trivial) HR34.out HB4.out HB4.out.size (by have := HLN.out; omega) ?_; intro v5 w5 ho5 hb5 hg5 hat5; have HO5 := Aside0.mk ho5; have HB5 := Aside0.mk hb5; clear ho5 hb5 hg5 hat5) | fail)
          go_ret3
          exact ⟨_, rfl, Kd.R_lower HO5.out HB2.out.size, below_then HB2.out HB2.out.size HB5.out⟩
  · have t1 : (checkS l0 a1_0 a1_1 a1_2 a2 a3 == 0) = false := by simpa using hc0
    obtain ⟨⟨⟩⟩ : Aside0 ((([], 0, checkS l0 a1_0 a1_1 a1_2 a2 a3) : List S38 × Int × Int) = (r1, r2, r3)) := ⟨by rw [← HH.out]; unfold openS; rw [if_pos hc0]⟩
    go_wp2_with fail
    go_ret3
    exact ⟨_, rfl, Kd.R_nil _ _ _ _ _, HB1.out⟩
end Go.Proofs.Ythfjgfldmkdlnaa.G
end

section
namespace Go.Proofs.Ythfjgfldmkdlnaa.G
open WB Go.RowKit Go.Proofs.YthfjgfldmkdlnaaW.PrintWords Go.Proofs.YthfjgfldmkdlnaaW.PrintLast Go.Proofs.YthfjgfldmkdlnaaW.PrintMore
attribute [local go_sem] max2_int min2_int max_two min_two max_three min_three max_four min_four   -- for this text's walks alone
set_option linter.unusedVariables false
set_option linter.unusedSimpArgs false
def waybilllaw23_num.f (a0 : Int) : Option (Int) := some a0
set_option maxHeartbeats 8000000 in
set_option maxRecDepth 100000 in
theorem waybilllaw23_num.calls (a0 : Int) (r : Int) (w : World) (h : waybilllaw23_num.f a0 = some r) :
    Calls Try.prog 11 #[.int .i64 a0] w fun e w' => e = .returned (.int .i64 r) ∧ Drawn0 w w' := by
  have H : (some a0) = some r := h
  clear h
  obtain rfl := Option.some.inj H
  simp only [Option.some.injEq, Prod.mk.injEq] at H
  obtain ⟨rfl⟩ := H
  go_enter Try.func11, Try.ntmps11
  go_wp2
  go_ret
  exact ⟨by first | rfl | (simp; done) | (simp [*]; done), by repeat (first | exact Drawn0.refl _ | apply Drawn0.step)⟩
end Go.Proofs.Ythfjgfldmkdlnaa.G
end

section
namespace Go.Proofs.Ythfjgfldmkdlnaa.G
open WB Go.RowKit Go.Proofs.YthfjgfldmkdlnaaW.PrintWords Go.Proofs.YthfjgfldmkdlnaaW.PrintLast Go.Proofs.YthfjgfldmkdlnaaW.PrintMore
attribute [local go_sem] max2_int min2_int max_two min_two max_three min_three max_four min_four   -- for this text's walks alone
set_option linter.unusedVariables false
set_option linter.unusedSimpArgs false
def waybilllaw23_alive.f  : Option (Bool) := (session_Open.f ([] : List (S38)) 2 3 4 1 5 6).bind fun bt115 => ((waybilllaw23_num.f bt115.2.2).bind fun t120 => (if t120 = 0 then (if bt115.2.1 = 2 then (if (bt115.1.length : Int) = 1 then (if 0 < (bt115.1.length : Int) then (if ((rd_T38 bt115.1 0).f0) = 1 then (if ((rd_T38 bt115.1 0).f1) = 6 then (some (((rd_T38 bt115.1 0).f2) == 5)) else (some false)) else (some false)) else (none)) else (some false)) else (some false)) else (some false)))
set_option maxHeartbeats 8000000 in
set_option maxRecDepth 100000 in
theorem waybilllaw23_alive.calls  (r : Bool) (w : World) (h : waybilllaw23_alive.f  = some r) :
    Calls Try.prog 9 #[] w fun e w' => e = .returned (.bool r) ∧ Below w.heap.size w w' := by
  have hu24 := Try.underlying24
  have HB := Aside0.mk (Below.refl w.heap.size w)
  have H : ((session_Open.f ([] : List (S38)) 2 3 4 1 5 6).bind fun bt115 => ((waybilllaw23_num.f bt115.2.2).bind fun t120 => (if t120 = 0 then (if bt115.2.1 = 2 then (if (bt115.1.length : Int) = 1 then (if 0 < (bt115.1.length : Int) then (if ((rd_T38 bt115.1 0).f0) = 1 then (if ((rd_T38 bt115.1 0).f1) = 6 then (some (((rd_T38 bt115.1 0).f2) == 5)) else (some false)) else (some false)) else (none)) else (some false)) else (some false)) else (some false)))) = some r := h
  clear h
  replace H := Option.bind_eq_some_iff.mp H
  obtain ⟨⟨t115, t118, t119⟩, A10, H⟩ := H
  replace H : ((waybilllaw23_num.f t119).bind fun t120 => (if t120 = 0 then (if t118 = 2 then (if (t115.length : Int) = 1 then (if 0 < (t115.length : Int) then (if ((rd_T38 t115 0).f0) = 1 then (if ((rd_T38 t115 0).f1) = 6 then (some (((rd_T38 t115 0).f2) == 5)) else (some false)) else (some false)) else (none)) else (some false)) else (some false)) else (some false))) = some r := H
  have A1 := Aside0.mk A10
  clear A10
  replace H := Option.bind_eq_some_iff.mp H
  obtain ⟨t120, A20, H⟩ := H
  replace H : (if t120 = 0 then (if t118 = 2 then (if (t115.length : Int) = 1 then (if 0 < (t115.length : Int) then (if ((rd_T38 t115 0).f0) = 1 then (if ((rd_T38 t115 0).f1) = 6 then (some (((rd_T38 t115 0).f2) == 5)) else (some false)) else (some false)) else (none)) else (some false)) else (some false)) else (some false)) = some r := H
  have A2 := Aside0.mk A20
  clear A20
  by_cases c3 : t120 = 0
  · rw [if_pos c3] at H
    have c3b0 : (t120 == 0) = true := beq_iff_eq.mpr c3
    have c3b1 : (t120 != 0) = false := bne_eq_false_iff_eq.mpr c3
    clear c3
    by_cases c4 : t118 = 2
    · rw [if_pos c4] at H
      have c4b0 : (t118 == 2) = true := beq_iff_eq.mpr c4
      have c4b1 : (t118 != 2) = false := bne_eq_false_iff_eq.mpr c4
      clear c4
      by_cases c5 : (t115.length : Int) = 1
      · rw [if_pos c5] at H
        have c5b0 : ((t115.length : Int) == 1) = true := beq_iff_eq.mpr c5
        have c5b1 : ((t115.length : Int) != 1) = false := bne_eq_false_iff_eq.mpr c5
        clear c5
        by_cases c6 : 0 < (t115.length : Int)
        · rw [if_pos c6] at H
          have c6b0 : decide (0 < (t115.length : Int)) = true := decide_eq_true c6
          have c6b1 : decide (0 < t115.length) = true := decide_eq_true (by omega)
          clear c6
          by_cases c7 : ((rd_T38 t115 0).f0) = 1
          · rw [if_pos c7] at H
            have c7b0 : (((rd_T38 t115 0).f0) == 1) = true := beq_iff_eq.mpr c7
            have c7b1 : (((rd_T38 t115 0).f0) != 1) = false := bne_eq_false_iff_eq.mpr c7
            clear c7
            by_cases c8 : ((rd_T38 t115 0).f1) = 6
            · rw [if_pos c8] at H
              have c8b0 : (((rd_T38 t115 0).f1) == 6) = true := beq_iff_eq.mpr c8
              have c8b1 : (((rd_T38 t115 0).f1) != 6) = false := bne_eq_false_iff_eq.mpr c8
              clear c8
              obtain rfl := Option.some.inj H
              simp only [Option.some.injEq, Prod.mk.injEq] at H
              obtain ⟨rfl⟩ := H
              go_enter Try.func9, Try.ntmps9
              go_wp2_with (first | ((with_reducible refine gate_callee (f := 10) rfl ?_); refine goesL_ (some 6) rfl rfl Try.func10 (by kernel_rfl) rfl #[.slice none 0 0, .agg #[.int .i64 2, .int .i64 3, .int .i64 4], .int .i64 1, .int .i64 5, .int .i64 6] rfl (by (try simp only [List.map_toArray, List.map_cons, List.map_nil]); first | done | rfl | (simp only [List.length_drop, List.length_take]; rfl)) ?_; (refine (session_Open.calls _ _ ([] : List (S38)) 2 3 4 1 5 6 t115 t118 t119 _ ?side1 ?side2 A1.out).mono ?_); (case side1 => exact Kd.C_nil _ _); (case side2 => exact Nat.le_refl _); rintro e w9 ⟨v116, rfl, ho0, hb⟩; refine ⟨_, rfl, ?_⟩; have n0_ := Aside0.mk (Kd.R_lower ho0 (below_size (by repeat (first | (with_reducible first | exact HB.out | apply below_alloc | apply pw_below_drewN | apply below_drew1) | exact HB.out)))); have n1_ := Aside0.mk (below_step (by repeat (first | (with_reducible first | exact HB.out | apply below_alloc | apply pw_below_drewN | apply below_drew1) | exact HB.out)) hb); clear HB; have HO117 := n0_; have HB := n1_; clear n0_ n1_; (try clear hb); (try clear hb2); (try clear hk); (try clear hi); (try clear ho0)) | ((with_reducible refine gate_callee (f := 11) rfl ?_); refine goesL_ (some 11) rfl rfl Try.func11 (by kernel_rfl) rfl #[.int .i64 t119] rfl (by (try simp only [List.map_toArray, List.map_cons, List.map_nil]); first | done | rfl | (simp only [List.length_drop, List.length_take]; rfl)) ?_; (with_reducible refine (waybilllaw23_num.calls t119 t120 _ A2.out).mono ?_); rintro e w' ⟨rfl, ⟨nd, rfl⟩⟩; refine ⟨_, rfl, ?_⟩; obtain ⟨Ao10, co10, eo10⟩ := Kd.R_slice HO117.out; subst eo10; have p121 : 0 ≤ (0 : Int) := (by omega); have q121 : 0 < (t115.length : Int) := of_decide_eq_true (by first | (with_reducible assumption) | assumption); obtain ⟨ad121, A121_4, c121_4, e121, hx121_0, hx121_1, hx121_2, hx121_3, hx121_4, hl121_4, hi121_4⟩ := at_T38 (Kd.R_reads' HO117.out).2.2 0 p121 q121; cases e121; obtain ⟨ce121, hce121, hMe121, hcc121⟩ := Kd.R_get HO117.out z38 0 p121 (by first | exact q121 | exact of_decide_eq_true (by first | (with_reducible assumption) | assumption) | (have e_ := (Kd.R_reads' HO117.out).1; omega)); obtain ⟨ve121_4, rfl, ge121_4⟩ := k38_openM hMe121; have hv121_4 := hcc121 4 _ rfl; rw [add_field _ _ 4 (by omega)] at hv121_4; replace hv121_4 := Option.some.inj (hv121_4.symm.trans hx121_4); rw [hv121_4] at ge121_4; have HL121_4 := Aside0.mk (show Kd.R k51 51 _ _ _ _ ((rd_T38 t115 0).f3.f1) from ge121_4); clear hv121_4 ge121_4; clear hcc121 hce121; have qi121 : (0 < t115.length) = True := eq_true (by omega); (try rw [show ((0 : Int)).toNat = 0 from rfl] at hx121_0); (try rw [show 0 * 5 = 0 from rfl] at hx121_0); (try rw [Addr.add_zero'] at hx121_0); (try rw [show ((0 : Int)).toNat = 0 from rfl] at hx121_1); (try rw [show 0 * 5 = 0 from rfl] at hx121_1); (try rw [Addr.add_zero'] at hx121_1); (try rw [show ((0 : Int)).toNat = 0 from rfl] at hx121_2); (try rw [show 0 * 5 = 0 from rfl] at hx121_2); (try rw [Addr.add_zero'] at hx121_2); (try rw [show ((0 : Int)).toNat = 0 from rfl] at hx121_3); (try rw [show 0 * 5 = 0 from rfl] at hx121_3); (try rw [Addr.add_zero'] at hx121_3); (try rw [show ((0 : Int)).toNat = 0 from rfl] at hx121_4); (try rw [show 0 * 5 = 0 from rfl] at hx121_4); (try rw [Addr.add_zero'] at hx121_4); have HR121_4 := Aside0.mk hi121_4; have HC121_4 := Aside0.mk hl121_4; clear hi121_4 hl121_4; replace p121 := eq_true p121; replace q121 := eq_true q121; have p122 : 0 ≤ (0 : Int) := (by omega); have q122 : 0 < (t115.length : Int) := of_decide_eq_true (by first | (with_reducible assumption) | assumption); obtain ⟨ad122, A122_4, c122_4, e122, hx122_0, hx122_1, hx122_2, hx122_3, hx122_4, hl122_4, hi122_4⟩ := at_T38 (Kd.R_reads' HO117.out).2.2 0 p122 q122; obtain rfl : ad121 = ad122 := (by injection e122); obtain ⟨ce122, hce122, hMe122, hcc122⟩ := Kd.R_get HO117.out z38 0 p122 (by first | exact q122 | exact of_decide_eq_true (by first | (with_reducible assumption) | assumption) | (have e_ := (Kd.R_reads' HO117.out).1; omega)); obtain ⟨ve122_4, rfl, ge122_4⟩ := k38_openM hMe122; have hv122_4 := hcc122 4 _ rfl; rw [add_field _ _ 4 (by omega)] at hv122_4; replace hv122_4 := Option.some.inj (hv122_4.symm.trans hx122_4); rw [hv122_4] at ge122_4; have HL122_4 := Aside0.mk (show Kd.R k51 51 _ _ _ _ ((rd_T38 t115 0).f3.f1) from ge122_4); clear hv122_4 ge122_4; clear hcc122 hce122; have qi122 : (0 < t115.length) = True := eq_true (by omega); (try rw [show ((0 : Int)).toNat = 0 from rfl] at hx122_0); (try rw [show 0 * 5 = 0 from rfl] at hx122_0); (try rw [Addr.add_zero'] at hx122_0); (try rw [show ((0 : Int)).toNat = 0 from rfl] at hx122_1); (try rw [show 0 * 5 = 0 from rfl] at hx122_1); (try rw [Addr.add_zero'] at hx122_1); (try rw [show ((0 : Int)).toNat = 0 from rfl] at hx122_2); (try rw [show 0 * 5 = 0 from rfl] at hx122_2); (try rw [Addr.add_zero'] at hx122_2); (try rw [show ((0 : Int)).toNat = 0 from rfl] at hx122_3); (try rw [show 0 * 5 = 0 from rfl] at hx122_3); (try rw [Addr.add_zero'] at hx122_3); (try rw [show ((0 : Int)).toNat = 0 from rfl] at hx122_4); (try rw [show 0 * 5 = 0 from rfl] at hx122_4); (try rw [Addr.add_zero'] at hx122_4); have HR122_4 := Aside0.mk hi122_4; have HC122_4 := Aside0.mk hl122_4; clear hi122_4 hl122_4; replace p122 := eq_true p122; replace q122 := eq_true q122; have ea_ := Option.some.inj (hx121_4.symm.trans hx122_4); injection ea_ with ea_ en_ ec_; subst ea_; subst ec_; clear en_; have p123 : 0 ≤ (0 : Int) := (by omega); have q123 : 0 < (t115.length : Int) := of_decide_eq_true (by first | (with_reducible assumption) | assumption); obtain ⟨ad123, A123_4, c123_4, e123, hx123_0, hx123_1, hx123_2, hx123_3, hx123_4, hl123_4, hi123_4⟩ := at_T38 (Kd.R_reads' HO117.out).2.2 0 p123 q123; obtain rfl : ad121 = ad123 := (by injection e123); obtain ⟨ce123, hce123, hMe123, hcc123⟩ := Kd.R_get HO117.out z38 0 p123 (by first | exact q123 | exact of_decide_eq_true (by first | (with_reducible assumption) | assumption) | (have e_ := (Kd.R_reads' HO117.out).1; omega)); obtain ⟨ve123_4, rfl, ge123_4⟩ := k38_openM hMe123; have hv123_4 := hcc123 4 _ rfl; rw [add_field _ _ 4 (by omega)] at hv123_4; replace hv123_4 := Option.some.inj (hv123_4.symm.trans hx123_4); rw [hv123_4] at ge123_4; have HL123_4 := Aside0.mk (show Kd.R k51 51 _ _ _ _ ((rd_T38 t115 0).f3.f1) from ge123_4); clear hv123_4 ge123_4; clear hcc123 hce123; have qi123 : (0 < t115.length) = True := eq_true (by omega); (try rw [show ((0 : Int)).toNat = 0 from rfl] at hx123_0); (try rw [show 0 * 5 = 0 from rfl] at hx123_0); (try rw [Addr.add_zero'] at hx123_0); (try rw [show ((0 : Int)).toNat = 0 from rfl] at hx123_1); (try rw [show 0 * 5 = 0 from rfl] at hx123_1); (try rw [Addr.add_zero'] at hx123_1); (try rw [show ((0 : Int)).toNat = 0 from rfl] at hx123_2); (try rw [show 0 * 5 = 0 from rfl] at hx123_2); (try rw [Addr.add_zero'] at hx123_2); (try rw [show ((0 : Int)).toNat = 0 from rfl] at hx123_3); (try rw [show 0 * 5 = 0 from rfl] at hx123_3); (try rw [Addr.add_zero'] at hx123_3); (try rw [show ((0 : Int)).toNat = 0 from rfl] at hx123_4); (try rw [show 0 * 5 = 0 from rfl] at hx123_4); (try rw [Addr.add_zero'] at hx123_4); have HR123_4 := Aside0.mk hi123_4; have HC123_4 := Aside0.mk hl123_4; clear hi123_4 hl123_4; replace p123 := eq_true p123; replace q123 := eq_true q123; have ea_ := Option.some.inj (hx121_4.symm.trans hx123_4); injection ea_ with ea_ en_ ec_; subst ea_; subst ec_; clear en_))
              go_ret
              exact ⟨by first | rfl | (simp [errW_none, errW_some] <;> rfl) | (simp [*, errW_none, errW_some] <;> rfl), by repeat (first | (with_reducible first | exact HB.out | apply below_alloc | apply pw_below_drewN | apply below_drew1) | exact HB.out)⟩
            · rw [if_neg c8] at H
              have c8b0 : (((rd_T38 t115 0).f1) == 6) = false := beq_eq_false_iff_ne.mpr c8
              have c8b1 : (((rd_T38 t115 0).f1) != 6) = true := bne_iff_ne.mpr c8
              obtain rfl := Option.some.inj H
              simp only [Option.some.injEq, Prod.mk.injEq] at H
              obtain ⟨rfl⟩ := H
              go_enter Try.func9, Try.ntmps9
              go_wp2_with (first | ((with_reducible refine gate_callee (f := 10) rfl ?_); refine goesL_ (some 6) rfl rfl Try.func10 (by kernel_rfl) rfl #[.slice none 0 0, .agg #[.int .i64 2, .int .i64 3, .int .i64 4], .int .i64 1, .int .i64 5, .int .i64 6] rfl (by (try simp only [List.map_toArray, List.map_cons, List.map_nil]); first | done | rfl | (simp only [List.length_drop, List.length_take]; rfl)) ?_; (refine (session_Open.calls _ _ ([] : List (S38)) 2 3 4 1 5 6 t115 t118 t119 _ ?side1 ?side2 A1.out).mono ?_); (case side1 => exact Kd.C_nil _ _); (case side2 => exact Nat.le_refl _); rintro e w11 ⟨v116, rfl, ho0, hb⟩; refine ⟨_, rfl, ?_⟩; have n0_ := Aside0.mk (Kd.R_lower ho0 (below_size (by repeat (first | (with_reducible first | exact HB.out | apply below_alloc | apply pw_below_drewN | apply below_drew1) | exact HB.out)))); have n1_ := Aside0.mk (below_step (by repeat (first | (with_reducible first | exact HB.out | apply below_alloc | apply pw_below_drewN | apply below_drew1) | exact HB.out)) hb); clear HB; have HO117 := n0_; have HB := n1_; clear n0_ n1_; (try clear hb); (try clear hb2); (try clear hk); (try clear hi); (try clear ho0)) | ((with_reducible refine gate_callee (f := 11) rfl ?_); refine goesL_ (some 11) rfl rfl Try.func11 (by kernel_rfl) rfl #[.int .i64 t119] rfl (by (try simp only [List.map_toArray, List.map_cons, List.map_nil]); first | done | rfl | (simp only [List.length_drop, List.length_take]; rfl)) ?_; (with_reducible refine (waybilllaw23_num.calls t119 t120 _ A2.out).mono ?_); rintro e w' ⟨rfl, ⟨nd, rfl⟩⟩; refine ⟨_, rfl, ?_⟩; obtain ⟨Ao12, co12, eo12⟩ := Kd.R_slice HO117.out; subst eo12; have p121 : 0 ≤ (0 : Int) := (by omega); have q121 : 0 < (t115.length : Int) := of_decide_eq_true (by first | (with_reducible assumption) | assumption); obtain ⟨ad121, A121_4, c121_4, e121, hx121_0, hx121_1, hx121_2, hx121_3, hx121_4, hl121_4, hi121_4⟩ := at_T38 (Kd.R_reads' HO117.out).2.2 0 p121 q121; cases e121; obtain ⟨ce121, hce121, hMe121, hcc121⟩ := Kd.R_get HO117.out z38 0 p121 (by first | exact q121 | exact of_decide_eq_true (by first | (with_reducible assumption) | assumption) | (have e_ := (Kd.R_reads' HO117.out).1; omega)); obtain ⟨ve121_4, rfl, ge121_4⟩ := k38_openM hMe121; have hv121_4 := hcc121 4 _ rfl; rw [add_field _ _ 4 (by omega)] at hv121_4; replace hv121_4 := Option.some.inj (hv121_4.symm.trans hx121_4); rw [hv121_4] at ge121_4; have HL121_4 := Aside0.mk (show Kd.R k51 51 _ _ _ _ ((rd_T38 t115 0).f3.f1) from ge121_4); clear hv121_4 ge121_4; clear hcc121 hce121; have qi121 : (0 < t115.length) = True := eq_true (by omega); (try rw [show ((0 : Int)).toNat = 0 from rfl] at hx121_0); (try rw [show 0 * 5 = 0 from rfl] at hx121_0); (try rw [Addr.add_zero'] at hx121_0); (try rw [show ((0 : Int)).toNat = 0 from rfl] at hx121_1); (try rw [show 0 * 5 = 0 from rfl] at hx121_1); (try rw [Addr.add_zero'] at hx121_1); (try rw [show ((0 : Int)).toNat = 0 from rfl] at hx121_2); (try rw [show 0 * 5 = 0 from rfl] at hx121_2); (try rw [Addr.add_zero'] at hx121_2); (try rw [show ((0 : Int)).toNat = 0 from rfl] at hx121_3); (try rw [show 0 * 5 = 0 from rfl] at hx121_3); (try rw [Addr.add_zero'] at hx121_3); (try rw [show ((0 : Int)).toNat = 0 from rfl] at hx121_4); (try rw [show 0 * 5 = 0 from rfl] at hx121_4); (try rw [Addr.add_zero'] at hx121_4); have HR121_4 := Aside0.mk hi121_4; have HC121_4 := Aside0.mk hl121_4; clear hi121_4 hl121_4; replace p121 := eq_true p121; replace q121 := eq_true q121; have p122 : 0 ≤ (0 : Int) := (by omega); have q122 : 0 < (t115.length : Int) := of_decide_eq_true (by first | (with_reducible assumption) | assumption); obtain ⟨ad122, A122_4, c122_4, e122, hx122_0, hx122_1, hx122_2, hx122_3, hx122_4, hl122_4, hi122_4⟩ := at_T38 (Kd.R_reads' HO117.out).2.2 0 p122 q122; obtain rfl : ad121 = ad122 := (by injection e122); obtain ⟨ce122, hce122, hMe122, hcc122⟩ := Kd.R_get HO117.out z38 0 p122 (by first | exact q122 | exact of_decide_eq_true (by first | (with_reducible assumption) | assumption) | (have e_ := (Kd.R_reads' HO117.out).1; omega)); obtain ⟨ve122_4, rfl, ge122_4⟩ := k38_openM hMe122; have hv122_4 := hcc122 4 _ rfl; rw [add_field _ _ 4 (by omega)] at hv122_4; replace hv122_4 := Option.some.inj (hv122_4.symm.trans hx122_4); rw [hv122_4] at ge122_4; have HL122_4 := Aside0.mk (show Kd.R k51 51 _ _ _ _ ((rd_T38 t115 0).f3.f1) from ge122_4); clear hv122_4 ge122_4; clear hcc122 hce122; have qi122 : (0 < t115.length) = True := eq_true (by omega); (try rw [show ((0 : Int)).toNat = 0 from rfl] at hx122_0); (try rw [show 0 * 5 = 0 from rfl] at hx122_0); (try rw [Addr.add_zero'] at hx122_0); (try rw [show ((0 : Int)).toNat = 0 from rfl] at hx122_1); (try rw [show 0 * 5 = 0 from rfl] at hx122_1); (try rw [Addr.add_zero'] at hx122_1); (try rw [show ((0 : Int)).toNat = 0 from rfl] at hx122_2); (try rw [show 0 * 5 = 0 from rfl] at hx122_2); (try rw [Addr.add_zero'] at hx122_2); (try rw [show ((0 : Int)).toNat = 0 from rfl] at hx122_3); (try rw [show 0 * 5 = 0 from rfl] at hx122_3); (try rw [Addr.add_zero'] at hx122_3); (try rw [show ((0 : Int)).toNat = 0 from rfl] at hx122_4); (try rw [show 0 * 5 = 0 from rfl] at hx122_4); (try rw [Addr.add_zero'] at hx122_4); have HR122_4 := Aside0.mk hi122_4; have HC122_4 := Aside0.mk hl122_4; clear hi122_4 hl122_4; replace p122 := eq_true p122; replace q122 := eq_true q122; have ea_ := Option.some.inj (hx121_4.symm.trans hx122_4); injection ea_ with ea_ en_ ec_; subst ea_; subst ec_; clear en_))
              go_ret
              exact ⟨by first | rfl | (simp [errW_none, errW_some] <;> rfl) | (simp [*, errW_none, errW_some] <;> rfl), by repeat (first | (with_reducible first | exact HB.out | apply below_alloc | apply pw_below_drewN | apply below_drew1) | exact HB.out)⟩
          · rw [if_neg c7] at H
            have c7b0 : (((rd_T38 t115 0).f0) == 1) = false := beq_eq_false_iff_ne.mpr c7
            have c7b1 : (((rd_T38 t115 0).f0) != 1) = true := bne_iff_ne.mpr c7
            obtain rfl := Option.some.inj H
            simp only [Option.some.injEq, Prod.mk.injEq] at H
            obtain ⟨rfl⟩ := H
            go_enter Try.func9, Try.ntmps9
            go_wp2_with (first | ((with_reducible refine gate_callee (f := 10) rfl ?_); refine goesL_ (some 6) rfl rfl Try.func10 (by kernel_rfl) rfl #[.slice none 0 0, .agg #[.int .i64 2, .int .i64 3, .int .i64 4], .int .i64 1, .int .i64 5, .int .i64 6] rfl (by (try simp only [List.map_toArray, List.map_cons, List.map_nil]); first | done | rfl | (simp only [List.length_drop, List.length_take]; rfl)) ?_; (refine (session_Open.calls _ _ ([] : List (S38)) 2 3 4 1 5 6 t115 t118 t119 _ ?side1 ?side2 A1.out).mono ?_); (case side1 => exact Kd.C_nil _ _); (case side2 => exact Nat.le_refl _); rintro e w13 ⟨v116, rfl, ho0, hb⟩; refine ⟨_, rfl, ?_⟩; have n0_ := Aside0.mk (Kd.R_lower ho0 (below_size (by repeat (first | (with_reducible first | exact HB.out | apply below_alloc | apply pw_below_drewN | apply below_drew1) | exact HB.out)))); have n1_ := Aside0.mk (below_step (by repeat (first | (with_reducible first | exact HB.out | apply below_alloc | apply pw_below_drewN | apply below_drew1) | exact HB.out)) hb); clear HB; have HO117 := n0_; have HB := n1_; clear n0_ n1_; (try clear hb); (try clear hb2); (try clear hk); (try clear hi); (try clear ho0)) | ((with_reducible refine gate_callee (f := 11) rfl ?_); refine goesL_ (some 11) rfl rfl Try.func11 (by kernel_rfl) rfl #[.int .i64 t119] rfl (by (try simp only [List.map_toArray, List.map_cons, List.map_nil]); first | done | rfl | (simp only [List.length_drop, List.length_take]; rfl)) ?_; (with_reducible refine (waybilllaw23_num.calls t119 t120 _ A2.out).mono ?_); rintro e w' ⟨rfl, ⟨nd, rfl⟩⟩; refine ⟨_, rfl, ?_⟩; obtain ⟨Ao14, co14, eo14⟩ := Kd.R_slice HO117.out; subst eo14; have p121 : 0 ≤ (0 : Int) := (by omega); have q121 : 0 < (t115.length : Int) := of_decide_eq_true (by first | (with_reducible assumption) | assumption); obtain ⟨ad121, A121_4, c121_4, e121, hx121_0, hx121_1, hx121_2, hx121_3, hx121_4, hl121_4, hi121_4⟩ := at_T38 (Kd.R_reads' HO117.out).2.2 0 p121 q121; cases e121; obtain ⟨ce121, hce121, hMe121, hcc121⟩ := Kd.R_get HO117.out z38 0 p121 (by first | exact q121 | exact of_decide_eq_true (by first | (with_reducible assumption) | assumption) | (have e_ := (Kd.R_reads' HO117.out).1; omega)); obtain ⟨ve121_4, rfl, ge121_4⟩ := k38_openM hMe121; have hv121_4 := hcc121 4 _ rfl; rw [add_field _ _ 4 (by omega)] at hv121_4; replace hv121_4 := Option.some.inj (hv121_4.symm.trans hx121_4); rw [hv121_4] at ge121_4; have HL121_4 := Aside0.mk (show Kd.R k51 51 _ _ _ _ ((rd_T38 t115 0).f3.f1) from ge121_4); clear hv121_4 ge121_4; clear hcc121 hce121; have qi121 : (0 < t115.length) = True := eq_true (by omega); (try rw [show ((0 : Int)).toNat = 0 from rfl] at hx121_0); (try rw [show 0 * 5 = 0 from rfl] at hx121_0); (try rw [Addr.add_zero'] at hx121_0); (try rw [show ((0 : Int)).toNat = 0 from rfl] at hx121_1); (try rw [show 0 * 5 = 0 from rfl] at hx121_1); (try rw [Addr.add_zero'] at hx121_1); (try rw [show ((0 : Int)).toNat = 0 from rfl] at hx121_2); (try rw [show 0 * 5 = 0 from rfl] at hx121_2); (try rw [Addr.add_zero'] at hx121_2); (try rw [show ((0 : Int)).toNat = 0 from rfl] at hx121_3); (try rw [show 0 * 5 = 0 from rfl] at hx121_3); (try rw [Addr.add_zero'] at hx121_3); (try rw [show ((0 : Int)).toNat = 0 from rfl] at hx121_4); (try rw [show 0 * 5 = 0 from rfl] at hx121_4); (try rw [Addr.add_zero'] at hx121_4); have HR121_4 := Aside0.mk hi121_4; have HC121_4 := Aside0.mk hl121_4; clear hi121_4 hl121_4; replace p121 := eq_true p121; replace q121 := eq_true q121))
            go_ret
            exact ⟨by first | rfl | (simp [errW_none, errW_some] <;> rfl) | (simp [*, errW_none, errW_some] <;> rfl), by repeat (first | (with_reducible first | exact HB.out | apply below_alloc | apply pw_below_drewN | apply below_drew1) | exact HB.out)⟩
        · rw [if_neg c6] at H
          exact absurd H (by simp)
      · rw [if_neg c5] at H
        have c5b0 : ((t115.length : Int) == 1) = false := beq_eq_false_iff_ne.mpr c5
        have c5b1 : ((t115.length : Int) != 1) = true := bne_iff_ne.mpr c5
        obtain rfl := Option.some.inj H
        simp only [Option.some.injEq, Prod.mk.injEq] at H
        obtain ⟨rfl⟩ := H
        go_enter Try.func9, Try.ntmps9
        go_wp2_with (first | ((with_reducible refine gate_callee (f := 10) rfl ?_); refine goesL_ (some 6) rfl rfl Try.func10 (by kernel_rfl) rfl #[.slice none 0 0, .agg #[.int .i64 2, .int .i64 3, .int .i64 4], .int .i64 1, .int .i64 5, .int .i64 6] rfl (by (try simp only [List.map_toArray, List.map_cons, List.map_nil]); first | done | rfl | (simp only [List.length_drop, List.length_take]; rfl)) ?_; (refine (session_Open.calls _ _ ([] : List (S38)) 2 3 4 1 5 6 t115 t118 t119 _ ?side1 ?side2 A1.out).mono ?_); (case side1 => exact Kd.C_nil _ _); (case side2 => exact Nat.le_refl _); rintro e w15 ⟨v116, rfl, ho0, hb⟩; refine ⟨_, rfl, ?_⟩; have n0_ := Aside0.mk (Kd.R_lower ho0 (below_size (by repeat (first | (with_reducible first | exact HB.out | apply below_alloc | apply pw_below_drewN | apply below_drew1) | exact HB.out)))); have n1_ := Aside0.mk (below_step (by repeat (first | (with_reducible first | exact HB.out | apply below_alloc | apply pw_below_drewN | apply below_drew1) | exact HB.out)) hb); clear HB; have HO117 := n0_; have HB := n1_; clear n0_ n1_; (try clear hb); (try clear hb2); (try clear hk); (try clear hi); (try clear ho0)) | ((with_reducible refine gate_callee (f := 11) rfl ?_); refine goesL_ (some 11) rfl rfl Try.func11 (by kernel_rfl) rfl #[.int .i64 t119] rfl (by (try simp only [List.map_toArray, List.map_cons, List.map_nil]); first | done | rfl | (simp only [List.length_drop, List.length_take]; rfl)) ?_; (with_reducible refine (waybilllaw23_num.calls t119 t120 _ A2.out).mono ?_); rintro e w' ⟨rfl, ⟨nd, rfl⟩⟩; refine ⟨_, rfl, ?_⟩; obtain ⟨Ao16, co16, eo16⟩ := Kd.R_slice HO117.out; subst eo16))
        go_ret
        exact ⟨by first | rfl | (simp [errW_none, errW_some] <;> rfl) | (simp [*, errW_none, errW_some] <;> rfl), by repeat (first | (with_reducible first | exact HB.out | apply below_alloc | apply pw_below_drewN | apply below_drew1) | exact HB.out)⟩
    · rw [if_neg c4] at H
      have c4b0 : (t118 == 2) = false := beq_eq_false_iff_ne.mpr c4
      have c4b1 : (t118 != 2) = true := bne_iff_ne.mpr c4
      obtain rfl := Option.some.inj H
      simp only [Option.some.injEq, Prod.mk.injEq] at H
      obtain ⟨rfl⟩ := H
      go_enter Try.func9, Try.ntmps9
      go_wp2_with (first | ((with_reducible refine gate_callee (f := 10) rfl ?_); refine goesL_ (some 6) rfl rfl Try.func10 (by kernel_rfl) rfl #[.slice none 0 0, .agg #[.int .i64 2, .int .i64 3, .int .i64 4], .int .i64 1, .int .i64 5, .int .i64 6] rfl (by (try simp only [List.map_toArray, List.map_cons, List.map_nil]); first | done | rfl | (simp only [List.length_drop, List.length_take]; rfl)) ?_; (refine (session_Open.calls _ _ ([] : List (S38)) 2 3 4 1 5 6 t115 t118 t119 _ ?side1 ?side2 A1.out).mono ?_); (case side1 => exact Kd.C_nil _ _); (case side2 => exact Nat.le_refl _); rintro e w17 ⟨v116, rfl, ho0, hb⟩; refine ⟨_, rfl, ?_⟩; have n0_ := Aside0.mk (Kd.R_lower ho0 (below_size (by repeat (first | (with_reducible first | exact HB.out | apply below_alloc | apply pw_below_drewN | apply below_drew1) | exact HB.out)))); have n1_ := Aside0.mk (below_step (by repeat (first | (with_reducible first | exact HB.out | apply below_alloc | apply pw_below_drewN | apply below_drew1) | exact HB.out)) hb); clear HB; have HO117 := n0_; have HB := n1_; clear n0_ n1_; (try clear hb); (try clear hb2); (try clear hk); (try clear hi); (try clear ho0)) | ((with_reducible refine gate_callee (f := 11) rfl ?_); refine goesL_ (some 11) rfl rfl Try.func11 (by kernel_rfl) rfl #[.int .i64 t119] rfl (by (try simp only [List.map_toArray, List.map_cons, List.map_nil]); first | done | rfl | (simp only [List.length_drop, List.length_take]; rfl)) ?_; (with_reducible refine (waybilllaw23_num.calls t119 t120 _ A2.out).mono ?_); rintro e w' ⟨rfl, ⟨nd, rfl⟩⟩; refine ⟨_, rfl, ?_⟩))
      go_ret
      exact ⟨by first | rfl | (simp [errW_none, errW_some] <;> rfl) | (simp [*, errW_none, errW_some] <;> rfl), by repeat (first | (with_reducible first | exact HB.out | apply below_alloc | apply pw_below_drewN | apply below_drew1) | exact HB.out)⟩
  · rw [if_neg c3] at H
    have c3b0 : (t120 == 0) = false := beq_eq_false_iff_ne.mpr c3
    have c3b1 : (t120 != 0) = true := bne_iff_ne.mpr c3
    obtain rfl := Option.some.inj H
    simp only [Option.some.injEq, Prod.mk.injEq] at H
    obtain ⟨rfl⟩ := H
    go_enter Try.func9, Try.ntmps9
    go_wp2_with (first | ((with_reducible refine gate_callee (f := 10) rfl ?_); refine goesL_ (some 6) rfl rfl Try.func10 (by kernel_rfl) rfl #[.slice none 0 0, .agg #[.int .i64 2, .int .i64 3, .int .i64 4], .int .i64 1, .int .i64 5, .int .i64 6] rfl (by (try simp only [List.map_toArray, List.map_cons, List.map_nil]); first | done | rfl | (simp only [List.length_drop, List.length_take]; rfl)) ?_; (refine (session_Open.calls _ _ ([] : List (S38)) 2 3 4 1 5 6 t115 t118 t119 _ ?side1 ?side2 A1.out).mono ?_); (case side1 => exact Kd.C_nil _ _); (case side2 => exact Nat.le_refl _); rintro e w18 ⟨v116, rfl, ho0, hb⟩; refine ⟨_, rfl, ?_⟩; have n0_ := Aside0.mk (Kd.R_lower ho0 (below_size (by repeat (first | (with_reducible first | exact HB.out | apply below_alloc | apply pw_below_drewN | apply below_drew1) | exact HB.out)))); have n1_ := Aside0.mk (below_step (by repeat (first | (with_reducible first | exact HB.out | apply below_alloc | apply pw_below_drewN | apply below_drew1) | exact HB.out)) hb); clear HB; have HO117 := n0_; have HB := n1_; clear n0_ n1_; (try clear hb); (try clear hb2); (try clear hk); (try clear hi); (try clear ho0)) | ((with_reducible refine gate_callee (f := 11) rfl ?_); refine goesL_ (some 11) rfl rfl Try.func11 (by kernel_rfl) rfl #[.int .i64 t119] rfl (by (try simp only [List.map_toArray, List.map_cons, List.map_nil]); first | done | rfl | (simp only [List.length_drop, List.length_take]; rfl)) ?_; (with_reducible refine (waybilllaw23_num.calls t119 t120 _ A2.out).mono ?_); rintro e w' ⟨rfl, ⟨nd, rfl⟩⟩; refine ⟨_, rfl, ?_⟩))
    go_ret
    exact ⟨by first | rfl | (simp [errW_none, errW_some] <;> rfl) | (simp [*, errW_none, errW_some] <;> rfl), by repeat (first | (with_reducible first | exact HB.out | apply below_alloc | apply pw_below_drewN | apply below_drew1) | exact HB.out)⟩
end Go.Proofs.Ythfjgfldmkdlnaa.G
end
