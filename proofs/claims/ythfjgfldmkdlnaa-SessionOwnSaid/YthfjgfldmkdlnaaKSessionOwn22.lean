/- SessionOwn: texts of this claim, packed: what the kit's print has written for it and own texts, without what its proof does not reach. -/
import Derived.Test.YthfjgfldmkdlnaaKSessionOwn11
import Derived.Test.YthfjgfldmkdlnaaKSessionOwn21
set_option linter.unusedVariables false
set_option linter.unusedSimpArgs false
set_option linter.unusedSectionVars false
section
namespace Go.Proofs.Ythfjgfldmkdlnaa.G
open WB Go.RowKit Go.Proofs.YthfjgfldmkdlnaaW.PrintWords Go.Proofs.YthfjgfldmkdlnaaW.PrintLast Go.Proofs.YthfjgfldmkdlnaaW.PrintMore
attribute [local go_sem] max2_int min2_int max_two min_two max_three min_three max_four min_four   -- for this text's walks alone
set_option linter.unusedVariables false
set_option linter.unusedSimpArgs false
/-- Are two sessions one? -/
def oneS (x y : S38) : Bool := !((x.f0 != y.f0) || (x.f1 != y.f1) || (x.f2 != y.f2) || !sameW x.f3.f0 x.f3.f1 y.f3.f0 y.f3.f1)
def sameS (l l2 : List S38) : Bool := decide (l.length = l2.length) && (List.range l.length).all fun i => oneS (l.getD i z38) (l2.getD i z38)
theorem sameS_no {l l2 : List S38} {i : Nat} (hi : i < l.length) (h : oneS (l.getD i z38) (l2.getD i z38) = false) : sameS l l2 = false := by
  unfold sameS
  rw [Bool.and_eq_false_iff]
  refine Or.inr ?_
  rw [← Bool.not_eq_true, List.all_eq_true]
  exact fun ha => by have := ha i (List.mem_range.2 hi); rw [h] at this; cases this
theorem sameS_yes {l l2 : List S38} (hl : l.length = l2.length) (h : ∀ j, j < l.length → oneS (l.getD j z38) (l2.getD j z38) = true) : sameS l l2 = true := by
  unfold sameS
  rw [decide_eq_true hl, Bool.true_and, List.all_eq_true]
  exact fun j hj => h j (List.mem_range.1 hj)
def waybillref23_Same.f (l0 : List (S38)) (l1 : List (S38)) : Option (Bool) := some (sameS l0 l1)
set_option maxHeartbeats 8000000 in
set_option maxRecDepth 100000 in
theorem waybillref23_Same.calls (A0 : Option Addr) (c0 : Nat) (l0 : List (S38)) (A1 : Option Addr) (c1 : Nat) (l1 : List (S38)) (r : Bool) (w : World) (hr0 : Kd.C k38 w A0 l0.length l0) (hc0 : l0.length ≤ c0) (hr1 : Kd.C k38 w A1 l1.length l1) (hc1 : l1.length ≤ c1) (h : waybillref23_Same.f l0 l1 = some r) :
    Calls Try.prog 21 #[.slice A0 l0.length c0, .slice A1 l1.length c1] w fun e w' => e = .returned (.bool r) ∧ Below w.heap.size w w' := by
  obtain rfl := Option.some.inj h
  have HR := Aside0.mk hr0
  have HC := Aside0.mk hc0
  have HR1 := Aside0.mk hr1
  have HC1 := Aside0.mk hc1
  have hm0 : l0.length ≤ 9223372036854775807 := hr0.2.1
  have hm1 : l1.length ≤ 9223372036854775807 := hr1.2.1
  clear h hr0 hc0 hr1 hc1
  by_cases hlen : l0.length = l1.length
  · have d0 : ((l0.length : Int) != (l1.length : Int)) = false := by rw [hlen]; simp
    have d0' : (l0.length != l1.length) = false := by rw [hlen]; simp
    have HLE := Aside0.mk hlen
    clear hlen
    go_enter Try.func21, Try.ntmps21
    go_wp2_with fail
    go_loopw [5] (fun v5 wr => ∃ k : Nat, v5 = .int .i64 k ∧ k ≤ l0.length ∧ Aside0 (∀ j, j < k → oneS (l0.getD j z38) (l1.getD j z38) = true) ∧ Aside0 (Below w.heap.size w wr)) (fun v5 _ => l0.length - (intOf v5).toNat)
    case atStart => exact ⟨0, rfl, by omega, ⟨fun j hj => by omega⟩, ⟨Below.refl _ _⟩⟩
    case round =>
      obtain ⟨k, rfl, hk, HF, HB⟩ := hrel
      clear d0 d0'
      by_cases hlt : k < l0.length
      · have b0 : decide ((k : Int) < (l0.length : Int)) = true := decide_eq_true (by omega)
        have b0' : decide (k < l0.length) = true := decide_eq_true hlt
        have hlt1 : k < l1.length := by have := HLE.out; omega
        obtain ⟨ad, A2, c2, e1, q0, q1, q2, q3, q4, q5, q6⟩ := at_T38 (Kd.C_below HR.out HB.out) (k : Int) (by omega) (by omega)
        obtain ⟨ae, A3, c3, e2, r0, r1, r2, r3, r4, r5, r6⟩ := at_T38 (Kd.C_below HR1.out HB.out) (k : Int) (by omega) (by omega)
        simp only [Int.toNat_natCast] at q0 q1 q2 q3 q4 r0 r1 r2 r3 r4
        have hrd : rd_T38 l0 (k : Int) = l0.getD k z38 := by simp [rd_T38]
        have hre : rd_T38 l1 (k : Int) = l1.getD k z38 := by simp [rd_T38]
        rw [hrd] at q0 q1 q2 q3 q4 q5 q6
        rw [hre] at r0 r1 r2 r3 r4 r5 r6
        obtain ⟨x, hx⟩ : ∃ x, x = l0.getD k z38 := ⟨_, rfl⟩
        obtain ⟨y, hy⟩ : ∃ y, y = l1.getD k z38 := ⟨_, rfl⟩
        rw [← hx] at q0 q1 q2 q3 q4 q5 q6
        rw [← hy] at r0 r1 r2 r3 r4 r5 r6
        obtain ⟨b1, hb1⟩ : ∃ b, (x.f0 != y.f0) = b := ⟨_, rfl⟩
        obtain ⟨b2, hb2⟩ : ∃ b, (x.f1 != y.f1) = b := ⟨_, rfl⟩
        obtain ⟨b3, hb3⟩ : ∃ b, (x.f2 != y.f2) = b := ⟨_, rfl⟩
        obtain ⟨sm, hsm⟩ : ∃ b, sameW x.f3.f0 x.f3.f1 y.f3.f0 y.f3.f1 = b := ⟨_, rfl⟩
        have I4 : Aside0 (waybillref22_Same.f x.f3.f0 x.f3.f1 y.f3.f0 y.f3.f1 = some sm) := ⟨by rw [← hsm]; rfl⟩
        have HON : Aside0 (oneS (l0.getD k z38) (l1.getD k z38) = !(b1 || b2 || b3 || !sm)) := ⟨by rw [← hx, ← hy]; unfold oneS; rw [hb1, hb2, hb3, hsm]⟩
        have G2 := Aside0.mk q6
        have L2 := Aside0.mk q5
        have G3 := Aside0.mk r6
        have L3 := Aside0.mk r5
        subst e1 e2
        clear hrd hre hx hy hsm q5 q6 r5 r6
        go_upto_region 6 with fail
        refine region_facts (B := _) (w0 := _) [(17, (fun v _ => v = .slice (some ad) l0.length c0)), (18, (fun v _ => v = .int .i64 k)), (19, (fun v _ => v = .pointer (some (ad.add (k * 5))))), (20, (fun v _ => v = .pointer (some (ad.add (k * 5))))), (21, (fun v _ => v = .int .i64 x.f0)), (22, (fun v _ => v = .slice (some ae) l1.length c1)), (23, (fun v _ => v = .int .i64 k)), (24, (fun v _ => v = .pointer (some (ae.add (k * 5))))), (25, (fun v _ => v = .pointer (some (ae.add (k * 5))))), (26, (fun v _ => v = .int .i64 y.f0)), (27, (fun v _ => v = .bool (b1))), (28, (fun v _ => v = .bool (b1))), (29, (fun v _ => v = if (b1) = false then .slice (some ad) l0.length c0 else undef)), (30, (fun v _ => v = if (b1) = false then .int .i64 k else undef)), (31, (fun v _ => v = if (b1) = false then .pointer (some (ad.add (k * 5))) else undef)), (32, (fun v _ => v = if (b1) = false then .pointer (some ⟨(ad.add (k * 5)).block, (ad.add (k * 5)).off + 1, none⟩) else undef)), (33, (fun v _ => v = if (b1) = false then .int .i64 x.f1 else undef)), (34, (fun v _ => v = if (b1) = false then .slice (some ae) l1.length c1 else undef)), (35, (fun v _ => v = if (b1) = false then .int .i64 k else undef)), (36, (fun v _ => v = if (b1) = false then .pointer (some (ae.add (k * 5))) else undef)), (37, (fun v _ => v = if (b1) = false then .pointer (some ⟨(ae.add (k * 5)).block, (ae.add (k * 5)).off + 1, none⟩) else undef)), (38, (fun v _ => v = if (b1) = false then .int .i64 y.f1 else undef)), (39, (fun v _ => v = if (b1) = false then .bool (b2) else undef)), (40, (fun v _ => v = .bool (b1 || b2))), (41, (fun v _ => v = .bool (b1 || b2))), (42, (fun v _ => v = if (b1 || b2) = false then .slice (some ad) l0.length c0 else undef)), (43, (fun v _ => v = if (b1 || b2) = false then .int .i64 k else undef)), (44, (fun v _ => v = if (b1 || b2) = false then .pointer (some (ad.add (k * 5))) else undef)), (45, (fun v _ => v = if (b1 || b2) = false then .pointer (some ⟨(ad.add (k * 5)).block, (ad.add (k * 5)).off + 2, none⟩) else undef)), (46, (fun v _ => v = if (b1 || b2) = false then .int .i64 x.f2 else undef)), (47, (fun v _ => v = if (b1 || b2) = false then .slice (some ae) l1.length c1 else undef)), (48, (fun v _ => v = if (b1 || b2) = false then .int .i64 k else undef)), (49, (fun v _ => v = if (b1 || b2) = false then .pointer (some (ae.add (k * 5))) else undef)), (50, (fun v _ => v = if (b1 || b2) = false then .pointer (some ⟨(ae.add (k * 5)).block, (ae.add (k * 5)).off + 2, none⟩) else undef)), (51, (fun v _ => v = if (b1 || b2) = false then .int .i64 y.f2 else undef)), (52, (fun v _ => v = if (b1 || b2) = false then .bool (b3) else undef)), (53, (fun v _ => v = .bool (b1 || b2 || b3))), (54, (fun v _ => v = .bool (b1 || b2 || b3))), (55, (fun v _ => v = if (b1 || b2 || b3) = false then .slice (some ad) l0.length c0 else undef)), (56, (fun v _ => v = if (b1 || b2 || b3) = false then .int .i64 k else undef)), (57, (fun v _ => v = if (b1 || b2 || b3) = false then .pointer (some (ad.add (k * 5))) else undef)), (58, (fun v _ => v = if (b1 || b2 || b3) = false then .pointer (some ⟨(ad.add (k * 5)).block, (ad.add (k * 5)).off + 3, none⟩) else undef)), (59, (fun v _ => v = if (b1 || b2 || b3) = false then .agg #[.int .i64 x.f3.f0, .slice A2 x.f3.f1.length c2] else undef)), (60, (fun v _ => v = if (b1 || b2 || b3) = false then .slice (some ae) l1.length c1 else undef)), (61, (fun v _ => v = if (b1 || b2 || b3) = false then .int .i64 k else undef)), (62, (fun v _ => v = if (b1 || b2 || b3) = false then .pointer (some (ae.add (k * 5))) else undef)), (63, (fun v _ => v = if (b1 || b2 || b3) = false then .pointer (some ⟨(ae.add (k * 5)).block, (ae.add (k * 5)).off + 3, none⟩) else undef)), (64, (fun v _ => v = if (b1 || b2 || b3) = false then .agg #[.int .i64 y.f3.f0, .slice A3 y.f3.f1.length c3] else undef)), (65, (fun v _ => v = if (b1 || b2 || b3) = false then .bool (sm) else undef)), (66, (fun v _ => v = if (b1 || b2 || b3) = false then .bool (!sm) else undef)), (67, (fun v _ => v = .bool (b1 || b2 || b3 || !sm)))] (by kernel_rfl) (by kernel_rfl) (by rfl) (show ([17, 18, 19, 20, 21, 22, 23, 24, 25, 26, 27, 28, 29, 30, 31, 32, 33, 34, 35, 36, 37, 38, 39, 40, 41, 42, 43, 44, 45, 46, 47, 48, 49, 50, 51, 52, 53, 54, 55, 56, 57, 58, 59, 60, 61, 62, 63, 64, 65, 66, 67] : List Nat).Nodup by decide) ?hsz ?hst (Below.refl _ _) (Nat.le_refl _) ?step ?fin
        case hsz => exact List.forall_mem_cons.2 ⟨(show 17 < 68 by decide), List.forall_mem_cons.2 ⟨(show 18 < 68 by decide), List.forall_mem_cons.2 ⟨(show 19 < 68 by decide), List.forall_mem_cons.2 ⟨(show 20 < 68 by decide), List.forall_mem_cons.2 ⟨(show 21 < 68 by decide), List.forall_mem_cons.2 ⟨(show 22 < 68 by decide), List.forall_mem_cons.2 ⟨(show 23 < 68 by decide), List.forall_mem_cons.2 ⟨(show 24 < 68 by decide), List.forall_mem_cons.2 ⟨(show 25 < 68 by decide), List.forall_mem_cons.2 ⟨(show 26 < 68 by decide), List.forall_mem_cons.2 ⟨(show 27 < 68 by decide), List.forall_mem_cons.2 ⟨(show 28 < 68 by decide), List.forall_mem_cons.2 ⟨(show 29 < 68 by decide), List.forall_mem_cons.2 ⟨(show 30 < 68 by decide), List.forall_mem_cons.2 ⟨(show 31 < 68 by decide), List.forall_mem_cons.2 ⟨(show 32 < 68 by decide), List.forall_mem_cons.2 ⟨(show 33 < 68 by decide), List.forall_mem_cons.2 ⟨(show 34 < 68 by decide), List.forall_mem_cons.2 ⟨(show 35 < 68 by decide), List.forall_mem_cons.2 ⟨(show 36 < 68 by decide), List.forall_mem_cons.2 ⟨(show 37 < 68 by decide), List.forall_mem_cons.2 ⟨(show 38 < 68 by decide), List.forall_mem_cons.2 ⟨(show 39 < 68 by decide), List.forall_mem_cons.2 ⟨(show 40 < 68 by decide), List.forall_mem_cons.2 ⟨(show 41 < 68 by decide), List.forall_mem_cons.2 ⟨(show 42 < 68 by decide), List.forall_mem_cons.2 ⟨(show 43 < 68 by decide), List.forall_mem_cons.2 ⟨(show 44 < 68 by decide), List.forall_mem_cons.2 ⟨(show 45 < 68 by decide), List.forall_mem_cons.2 ⟨(show 46 < 68 by decide), List.forall_mem_cons.2 ⟨(show 47 < 68 by decide), List.forall_mem_cons.2 ⟨(show 48 < 68 by decide), List.forall_mem_cons.2 ⟨(show 49 < 68 by decide), List.forall_mem_cons.2 ⟨(show 50 < 68 by decide), List.forall_mem_cons.2 ⟨(show 51 < 68 by decide), List.forall_mem_cons.2 ⟨(show 52 < 68 by decide), List.forall_mem_cons.2 ⟨(show 53 < 68 by decide), List.forall_mem_cons.2 ⟨(show 54 < 68 by decide), List.forall_mem_cons.2 ⟨(show 55 < 68 by decide), List.forall_mem_cons.2 ⟨(show 56 < 68 by decide), List.forall_mem_cons.2 ⟨(show 57 < 68 by decide), List.forall_mem_cons.2 ⟨(show 58 < 68 by decide), List.forall_mem_cons.2 ⟨(show 59 < 68 by decide), List.forall_mem_cons.2 ⟨(show 60 < 68 by decide), List.forall_mem_cons.2 ⟨(show 61 < 68 by decide), List.forall_mem_cons.2 ⟨(show 62 < 68 by decide), List.forall_mem_cons.2 ⟨(show 63 < 68 by decide), List.forall_mem_cons.2 ⟨(show 64 < 68 by decide), List.forall_mem_cons.2 ⟨(show 65 < 68 by decide), List.forall_mem_cons.2 ⟨(show 66 < 68 by decide), List.forall_mem_cons.2 ⟨(show 67 < 68 by decide), fun _ h => nomatch h⟩⟩⟩⟩⟩⟩⟩⟩⟩⟩⟩⟩⟩⟩⟩⟩⟩⟩⟩⟩⟩⟩⟩⟩⟩⟩⟩⟩⟩⟩⟩⟩⟩⟩⟩⟩⟩⟩⟩⟩⟩⟩⟩⟩⟩⟩⟩⟩⟩⟩⟩
        case hst => exact List.forall_mem_cons.2 ⟨(fun v w1 w2 hb h => h), List.forall_mem_cons.2 ⟨(fun v w1 w2 hb h => h), List.forall_mem_cons.2 ⟨(fun v w1 w2 hb h => h), List.forall_mem_cons.2 ⟨(fun v w1 w2 hb h => h), List.forall_mem_cons.2 ⟨(fun v w1 w2 hb h => h), List.forall_mem_cons.2 ⟨(fun v w1 w2 hb h => h), List.forall_mem_cons.2 ⟨(fun v w1 w2 hb h => h), List.forall_mem_cons.2 ⟨(fun v w1 w2 hb h => h), List.forall_mem_cons.2 ⟨(fun v w1 w2 hb h => h), List.forall_mem_cons.2 ⟨(fun v w1 w2 hb h => h), List.forall_mem_cons.2 ⟨(fun v w1 w2 hb h => h), List.forall_mem_cons.2 ⟨(fun v w1 w2 hb h => h), List.forall_mem_cons.2 ⟨(fun v w1 w2 hb h => h), List.forall_mem_cons.2 ⟨(fun v w1 w2 hb h => h), List.forall_mem_cons.2 ⟨(fun v w1 w2 hb h => h), List.forall_mem_cons.2 ⟨(fun v w1 w2 hb h => h), List.forall_mem_cons.2 ⟨(fun v w1 w2 hb h => h), List.forall_mem_cons.2 ⟨(fun v w1 w2 hb h => h), List.forall_mem_cons.2 ⟨(fun v w1 w2 hb h => h), List.forall_mem_cons.2 ⟨(fun v w1 w2 hb h => h), List.forall_mem_cons.2 ⟨(fun v w1 w2 hb h => h), List.forall_mem_cons.2 ⟨(fun v w1 w2 hb h => h), List.forall_mem_cons.2 ⟨(fun v w1 w2 hb h => h), List.forall_mem_cons.2 ⟨(fun v w1 w2 hb h => h), List.forall_mem_cons.2 ⟨(fun v w1 w2 hb h => h), List.forall_mem_cons.2 ⟨(fun v w1 w2 hb h => h), List.forall_mem_cons.2 ⟨(fun v w1 w2 hb h => h), List.forall_mem_cons.2 ⟨(fun v w1 w2 hb h => h), List.forall_mem_cons.2 ⟨(fun v w1 w2 hb h => h), List.forall_mem_cons.2 ⟨(fun v w1 w2 hb h => h), List.forall_mem_cons.2 ⟨(fun v w1 w2 hb h => h), List.forall_mem_cons.2 ⟨(fun v w1 w2 hb h => h), List.forall_mem_cons.2 ⟨(fun v w1 w2 hb h => h), List.forall_mem_cons.2 ⟨(fun v w1 w2 hb h => h), List.forall_mem_cons.2 ⟨(fun v w1 w2 hb h => h), List.forall_mem_cons.2 ⟨(fun v w1 w2 hb h => h), List.forall_mem_cons.2 ⟨(fun v w1 w2 hb h => h), List.forall_mem_cons.2 ⟨(fun v w1 w2 hb h => h), List.forall_mem_cons.2 ⟨(fun v w1 w2 hb h => h), List.forall_mem_cons.2 ⟨(fun v w1 w2 hb h => h), List.forall_mem_cons.2 ⟨(fun v w1 w2 hb h => h), List.forall_mem_cons.2 ⟨(fun v w1 w2 hb h => h), List.forall_mem_cons.2 ⟨(fun v w1 w2 hb h => h), List.forall_mem_cons.2 ⟨(fun v w1 w2 hb h => h), List.forall_mem_cons.2 ⟨(fun v w1 w2 hb h => h), List.forall_mem_cons.2 ⟨(fun v w1 w2 hb h => h), List.forall_mem_cons.2 ⟨(fun v w1 w2 hb h => h), List.forall_mem_cons.2 ⟨(fun v w1 w2 hb h => h), List.forall_mem_cons.2 ⟨(fun v w1 w2 hb h => h), List.forall_mem_cons.2 ⟨(fun v w1 w2 hb h => h), List.forall_mem_cons.2 ⟨(fun v w1 w2 hb h => h), fun _ h => nomatch h⟩⟩⟩⟩⟩⟩⟩⟩⟩⟩⟩⟩⟩⟩⟩⟩⟩⟩⟩⟩⟩⟩⟩⟩⟩⟩⟩⟩⟩⟩⟩⟩⟩⟩⟩⟩⟩⟩⟩⟩⟩⟩⟩⟩⟩⟩⟩⟩⟩⟩⟩
        case step =>
          intro i_ o_ e_ ho he a w1_ hs hdf hfr hbl hbs hpre
          match i_, ho, he with
          | 0, ho, he => obtain rfl : o_ = ⟨_, _, _, _, _, _⟩ := (Option.some.inj ho).symm; obtain rfl := Option.some.inj he; clear he; have f0 : a.tmps.getD 0 undef = .slice (some ad) l0.length c0 := (by rw [Array.getD_eq_getD_getElem?, hfr 0 (show ¬ 0 ∈ ([17, 18, 19, 20, 21, 22, 23, 24, 25, 26, 27, 28, 29, 30, 31, 32, 33, 34, 35, 36, 37, 38, 39, 40, 41, 42, 43, 44, 45, 46, 47, 48, 49, 50, 51, 52, 53, 54, 55, 56, 57, 58, 59, 60, 61, 62, 63, 64, 65, 66, 67] : List Nat) by decide)]; rfl); clear hpre hfr; refine wpOp_value (v := .slice (some ad) l0.length c0) ho rfl ?_ ⟨_, rfl, rfl, Below.refl _ _⟩; simp only [execOp, Act.eval, List.map_toArray, List.map_cons, List.map_nil, f0]; first | rfl | (go_simp; done) | (go_simp; rfl) | (go_simp; intro h_; exfalso; omega)
          | 1, ho, he => obtain rfl : o_ = ⟨_, _, _, _, _, _⟩ := (Option.some.inj ho).symm; obtain rfl := Option.some.inj he; clear he; have f5 : a.tmps.getD 5 undef = .int .i64 k := (by rw [Array.getD_eq_getD_getElem?, hfr 5 (show ¬ 5 ∈ ([17, 18, 19, 20, 21, 22, 23, 24, 25, 26, 27, 28, 29, 30, 31, 32, 33, 34, 35, 36, 37, 38, 39, 40, 41, 42, 43, 44, 45, 46, 47, 48, 49, 50, 51, 52, 53, 54, 55, 56, 57, 58, 59, 60, 61, 62, 63, 64, 65, 66, 67] : List Nat) by decide)]; rfl); clear hpre hfr; refine wpOp_value (v := .int .i64 k) ho rfl ?_ ⟨_, rfl, rfl, Below.refl _ _⟩; simp only [execOp, Act.eval, List.map_toArray, List.map_cons, List.map_nil, f5]; first | rfl | (go_simp; done) | (go_simp; rfl) | (go_simp; intro h_; exfalso; omega)
          | 2, ho, he => obtain rfl : o_ = ⟨_, _, _, _, _, _⟩ := (Option.some.inj ho).symm; obtain rfl := Option.some.inj he; clear he; have e17 : a.tmps.getD 17 undef = .slice (some ad) l0.length c0 := hpre ⟨0, .data⟩ (by simp) rfl _ rfl; have e18 : a.tmps.getD 18 undef = .int .i64 k := hpre ⟨1, .data⟩ (by simp) rfl _ rfl; clear hpre hfr; refine wpOp_value (v := .pointer (some (ad.add (k * 5)))) ho rfl ?_ ⟨_, rfl, rfl, Below.refl _ _⟩; simp only [execOp, Act.eval, List.map_toArray, List.map_cons, List.map_nil, e17, e18]; first | rfl | (go_simp; done) | (go_simp; rfl) | (go_simp; intro h_; exfalso; omega)
          | 3, ho, he => obtain rfl : o_ = ⟨_, _, _, _, _, _⟩ := (Option.some.inj ho).symm; obtain rfl := Option.some.inj he; clear he; have e19 : a.tmps.getD 19 undef = .pointer (some (ad.add (k * 5))) := hpre ⟨2, .data⟩ (by simp) rfl _ rfl; clear hpre hfr; refine wpOp_value (v := .pointer (some (ad.add (k * 5)))) ho rfl ?_ ⟨_, rfl, rfl, Below.refl _ _⟩; simp only [execOp, Act.eval, List.map_toArray, List.map_cons, List.map_nil, e19]; first | rfl | (go_simp; done) | (go_simp; rfl) | (go_simp; intro h_; exfalso; omega)
          | 4, ho, he => obtain rfl : o_ = ⟨_, _, _, _, _, _⟩ := (Option.some.inj ho).symm; obtain rfl := Option.some.inj he; clear he; have e20 : a.tmps.getD 20 undef = .pointer (some (ad.add (k * 5))) := hpre ⟨3, .data⟩ (by simp) rfl _ rfl; clear hpre hfr; have k_q0 := (hbl.cell (World.block_lt_of_cell? _ _ q0)).trans q0; refine wpOp_value (v := .int .i64 x.f0) ho rfl ?_ ⟨_, rfl, rfl, Below.refl _ _⟩; simp only [execOp, Act.eval, List.map_toArray, List.map_cons, List.map_nil, e20]; first | rfl | (go_simp; done) | (go_simp; rfl) | (go_simp; intro h_; exfalso; omega)
          | 5, ho, he => obtain rfl : o_ = ⟨_, _, _, _, _, _⟩ := (Option.some.inj ho).symm; obtain rfl := Option.some.inj he; clear he; have f1 : a.tmps.getD 1 undef = .slice (some ae) l1.length c1 := (by rw [Array.getD_eq_getD_getElem?, hfr 1 (show ¬ 1 ∈ ([17, 18, 19, 20, 21, 22, 23, 24, 25, 26, 27, 28, 29, 30, 31, 32, 33, 34, 35, 36, 37, 38, 39, 40, 41, 42, 43, 44, 45, 46, 47, 48, 49, 50, 51, 52, 53, 54, 55, 56, 57, 58, 59, 60, 61, 62, 63, 64, 65, 66, 67] : List Nat) by decide)]; rfl); clear hpre hfr; refine wpOp_value (v := .slice (some ae) l1.length c1) ho rfl ?_ ⟨_, rfl, rfl, Below.refl _ _⟩; simp only [execOp, Act.eval, List.map_toArray, List.map_cons, List.map_nil, f1]; first | rfl | (go_simp; done) | (go_simp; rfl) | (go_simp; intro h_; exfalso; omega)
          | 6, ho, he => obtain rfl : o_ = ⟨_, _, _, _, _, _⟩ := (Option.some.inj ho).symm; obtain rfl := Option.some.inj he; clear he; have f5 : a.tmps.getD 5 undef = .int .i64 k := (by rw [Array.getD_eq_getD_getElem?, hfr 5 (show ¬ 5 ∈ ([17, 18, 19, 20, 21, 22, 23, 24, 25, 26, 27, 28, 29, 30, 31, 32, 33, 34, 35, 36, 37, 38, 39, 40, 41, 42, 43, 44, 45, 46, 47, 48, 49, 50, 51, 52, 53, 54, 55, 56, 57, 58, 59, 60, 61, 62, 63, 64, 65, 66, 67] : List Nat) by decide)]; rfl); clear hpre hfr; refine wpOp_value (v := .int .i64 k) ho rfl ?_ ⟨_, rfl, rfl, Below.refl _ _⟩; simp only [execOp, Act.eval, List.map_toArray, List.map_cons, List.map_nil, f5]; first | rfl | (go_simp; done) | (go_simp; rfl) | (go_simp; intro h_; exfalso; omega)
          | 7, ho, he => obtain rfl : o_ = ⟨_, _, _, _, _, _⟩ := (Option.some.inj ho).symm; obtain rfl := Option.some.inj he; clear he; have e22 : a.tmps.getD 22 undef = .slice (some ae) l1.length c1 := hpre ⟨5, .data⟩ (by simp) rfl _ rfl; have e23 : a.tmps.getD 23 undef = .int .i64 k := hpre ⟨6, .data⟩ (by simp) rfl _ rfl; clear hpre hfr; refine wpOp_value (v := .pointer (some (ae.add (k * 5)))) ho rfl ?_ ⟨_, rfl, rfl, Below.refl _ _⟩; simp only [execOp, Act.eval, List.map_toArray, List.map_cons, List.map_nil, e22, e23]; first | rfl | (go_simp; done) | (go_simp; rfl) | (go_simp; intro h_; exfalso; omega)
          | 8, ho, he => obtain rfl : o_ = ⟨_, _, _, _, _, _⟩ := (Option.some.inj ho).symm; obtain rfl := Option.some.inj he; clear he; have e24 : a.tmps.getD 24 undef = .pointer (some (ae.add (k * 5))) := hpre ⟨7, .data⟩ (by simp) rfl _ rfl; clear hpre hfr; refine wpOp_value (v := .pointer (some (ae.add (k * 5)))) ho rfl ?_ ⟨_, rfl, rfl, Below.refl _ _⟩; simp only [execOp, Act.eval, List.map_toArray, List.map_cons, List.map_nil, e24]; first | rfl | (go_simp; done) | (go_simp; rfl) | (go_simp; intro h_; exfalso; omega)
          | 9, ho, he => obtain rfl : o_ = ⟨_, _, _, _, _, _⟩ := (Option.some.inj ho).symm; obtain rfl := Option.some.inj he; clear he; have e25 : a.tmps.getD 25 undef = .pointer (some (ae.add (k * 5))) := hpre ⟨8, .data⟩ (by simp) rfl _ rfl; clear hpre hfr; have k_r0 := (hbl.cell (World.block_lt_of_cell? _ _ r0)).trans r0; refine wpOp_value (v := .int .i64 y.f0) ho rfl ?_ ⟨_, rfl, rfl, Below.refl _ _⟩; simp only [execOp, Act.eval, List.map_toArray, List.map_cons, List.map_nil, e25]; first | rfl | (go_simp; done) | (go_simp; rfl) | (go_simp; intro h_; exfalso; omega)
          | 10, ho, he => obtain rfl : o_ = ⟨_, _, _, _, _, _⟩ := (Option.some.inj ho).symm; obtain rfl := Option.some.inj he; clear he; have e21 : a.tmps.getD 21 undef = .int .i64 x.f0 := hpre ⟨4, .data⟩ (by simp) rfl _ rfl; have e26 : a.tmps.getD 26 undef = .int .i64 y.f0 := hpre ⟨9, .data⟩ (by simp) rfl _ rfl; clear hpre hfr; refine wpOp_value (v := .bool (b1)) ho rfl ?_ ⟨_, rfl, rfl, Below.refl _ _⟩; simp only [execOp, Act.eval, List.map_toArray, List.map_cons, List.map_nil, e21, e26]; first | rfl | (go_simp; done) | (go_simp; rfl) | (go_simp; intro h_; exfalso; omega)
          | 11, ho, he => obtain rfl : o_ = ⟨_, _, _, _, _, _⟩ := (Option.some.inj ho).symm; obtain rfl := Option.some.inj he; clear he; have e27 : a.tmps.getD 27 undef = .bool (b1) := hpre ⟨10, .data⟩ (by simp) rfl _ rfl; clear hpre hfr; refine wpOp_value (v := .bool (b1)) ho rfl ?_ ⟨_, rfl, rfl, Below.refl _ _⟩; simp only [execOp, Act.eval, List.map_toArray, List.map_cons, List.map_nil, e27]; first | rfl | (go_simp; done) | (go_simp; rfl) | (go_simp; intro h_; exfalso; omega)
          | 12, ho, he =>
            obtain rfl : o_ = ⟨_, _, _, _, _, _⟩ := (Option.some.inj ho).symm
            obtain rfl := Option.some.inj he; clear he
            have e28 : a.tmps.getD 28 undef = .bool (b1) := hpre ⟨11, .guard⟩ (by simp) rfl _ rfl
            have f0 : a.tmps.getD 0 undef = .slice (some ad) l0.length c0 := by rw [Array.getD_eq_getD_getElem?, hfr 0 (show ¬ 0 ∈ ([17, 18, 19, 20, 21, 22, 23, 24, 25, 26, 27, 28, 29, 30, 31, 32, 33, 34, 35, 36, 37, 38, 39, 40, 41, 42, 43, 44, 45, 46, 47, 48, 49, 50, 51, 52, 53, 54, 55, 56, 57, 58, 59, 60, 61, 62, 63, 64, 65, 66, 67] : List Nat) by decide)]; rfl
            clear hpre hfr
            by_cases hq_ : (b1) = false
            · refine wpOp_value_w (v := .slice (some ad) l0.length c0) ho (wanted_of (n := 11) (d := 28) rfl rfl (by rw [hs]; exact (show 28 < 68 by decide)) (e28.trans (congrArg _ hq_))) ?_ ⟨_, by rw [if_pos hq_], rfl, Below.refl _ _⟩
              simp only [execOp, Act.eval, List.map_toArray, List.map_cons, List.map_nil, e28, f0]
              first | rfl | (go_simp; done) | (go_simp; rfl) | (go_simp; intro h_; exfalso; omega)
            · exact wpOp_unwanted ho (unwanted_if (n := 11) (d := 28) rfl rfl e28 hq_) ⟨_, by rw [if_neg hq_], rfl, Below.refl _ _⟩
          | 13, ho, he =>
            obtain rfl : o_ = ⟨_, _, _, _, _, _⟩ := (Option.some.inj ho).symm
            obtain rfl := Option.some.inj he; clear he
            have e28 : a.tmps.getD 28 undef = .bool (b1) := hpre ⟨11, .guard⟩ (by simp) rfl _ rfl
            have f5 : a.tmps.getD 5 undef = .int .i64 k := by rw [Array.getD_eq_getD_getElem?, hfr 5 (show ¬ 5 ∈ ([17, 18, 19, 20, 21, 22, 23, 24, 25, 26, 27, 28, 29, 30, 31, 32, 33, 34, 35, 36, 37, 38, 39, 40, 41, 42, 43, 44, 45, 46, 47, 48, 49, 50, 51, 52, 53, 54, 55, 56, 57, 58, 59, 60, 61, 62, 63, 64, 65, 66, 67] : List Nat) by decide)]; rfl
            clear hpre hfr
            by_cases hq_ : (b1) = false
            · refine wpOp_value_w (v := .int .i64 k) ho (wanted_of (n := 11) (d := 28) rfl rfl (by rw [hs]; exact (show 28 < 68 by decide)) (e28.trans (congrArg _ hq_))) ?_ ⟨_, by rw [if_pos hq_], rfl, Below.refl _ _⟩
              simp only [execOp, Act.eval, List.map_toArray, List.map_cons, List.map_nil, e28, f5]
              first | rfl | (go_simp; done) | (go_simp; rfl) | (go_simp; intro h_; exfalso; omega)
            · exact wpOp_unwanted ho (unwanted_if (n := 11) (d := 28) rfl rfl e28 hq_) ⟨_, by rw [if_neg hq_], rfl, Below.refl _ _⟩
          | 14, ho, he =>
            obtain rfl : o_ = ⟨_, _, _, _, _, _⟩ := (Option.some.inj ho).symm
            obtain rfl := Option.some.inj he; clear he
            have e29 : a.tmps.getD 29 undef = if (b1) = false then .slice (some ad) l0.length c0 else undef := hpre ⟨12, .data⟩ (by simp) rfl _ rfl
            have e30 : a.tmps.getD 30 undef = if (b1) = false then .int .i64 k else undef := hpre ⟨13, .data⟩ (by simp) rfl _ rfl
            have e28 : a.tmps.getD 28 undef = .bool (b1) := hpre ⟨11, .guard⟩ (by simp) rfl _ rfl
            clear hpre hfr
            by_cases hq_ : (b1) = false
            · rw [if_pos hq_] at e29
              rw [if_pos hq_] at e30
              refine wpOp_value_w (v := .pointer (some (ad.add (k * 5)))) ho (wanted_of (n := 11) (d := 28) rfl rfl (by rw [hs]; exact (show 28 < 68 by decide)) (e28.trans (congrArg _ hq_))) ?_ ⟨_, by rw [if_pos hq_], rfl, Below.refl _ _⟩
              simp only [execOp, Act.eval, List.map_toArray, List.map_cons, List.map_nil, e29, e30, e28]
              first | rfl | (go_simp; done) | (go_simp; rfl) | (go_simp; intro h_; exfalso; omega)
            · exact wpOp_unwanted ho (unwanted_if (n := 11) (d := 28) rfl rfl e28 hq_) ⟨_, by rw [if_neg hq_], rfl, Below.refl _ _⟩
          | 15, ho, he =>
            obtain rfl : o_ = ⟨_, _, _, _, _, _⟩ := (Option.some.inj ho).symm
            obtain rfl := Option.some.inj he; clear he
            have e31 : a.tmps.getD 31 undef = if (b1) = false then .pointer (some (ad.add (k * 5))) else undef := hpre ⟨14, .data⟩ (by simp) rfl _ rfl
            have e28 : a.tmps.getD 28 undef = .bool (b1) := hpre ⟨11, .guard⟩ (by simp) rfl _ rfl
            clear hpre hfr
            by_cases hq_ : (b1) = false
            · rw [if_pos hq_] at e31
              refine wpOp_value_w (v := .pointer (some ⟨(ad.add (k * 5)).block, (ad.add (k * 5)).off + 1, none⟩)) ho (wanted_of (n := 11) (d := 28) rfl rfl (by rw [hs]; exact (show 28 < 68 by decide)) (e28.trans (congrArg _ hq_))) ?_ ⟨_, by rw [if_pos hq_], rfl, Below.refl _ _⟩
              simp only [execOp, Act.eval, List.map_toArray, List.map_cons, List.map_nil, e31, e28]
              first | rfl | (go_simp; done) | (go_simp; rfl) | (go_simp; intro h_; exfalso; omega)
            · exact wpOp_unwanted ho (unwanted_if (n := 11) (d := 28) rfl rfl e28 hq_) ⟨_, by rw [if_neg hq_], rfl, Below.refl _ _⟩
          | 16, ho, he =>
            obtain rfl : o_ = ⟨_, _, _, _, _, _⟩ := (Option.some.inj ho).symm
            obtain rfl := Option.some.inj he; clear he
            have e32 : a.tmps.getD 32 undef = if (b1) = false then .pointer (some ⟨(ad.add (k * 5)).block, (ad.add (k * 5)).off + 1, none⟩) else undef := hpre ⟨15, .data⟩ (by simp) rfl _ rfl
            have e28 : a.tmps.getD 28 undef = .bool (b1) := hpre ⟨11, .guard⟩ (by simp) rfl _ rfl
            clear hpre hfr
            have k_q1 := (hbl.cell (World.block_lt_of_cell? _ _ q1)).trans q1
            by_cases hq_ : (b1) = false
            · rw [if_pos hq_] at e32
              refine wpOp_value_w (v := .int .i64 x.f1) ho (wanted_of (n := 11) (d := 28) rfl rfl (by rw [hs]; exact (show 28 < 68 by decide)) (e28.trans (congrArg _ hq_))) ?_ ⟨_, by rw [if_pos hq_], rfl, Below.refl _ _⟩
              simp only [execOp, Act.eval, List.map_toArray, List.map_cons, List.map_nil, e32, e28]
              first | rfl | (go_simp; done) | (go_simp; rfl) | (go_simp; intro h_; exfalso; omega)
            · exact wpOp_unwanted ho (unwanted_if (n := 11) (d := 28) rfl rfl e28 hq_) ⟨_, by rw [if_neg hq_], rfl, Below.refl _ _⟩
          | 17, ho, he =>
            obtain rfl : o_ = ⟨_, _, _, _, _, _⟩ := (Option.some.inj ho).symm
            obtain rfl := Option.some.inj he; clear he
            have e28 : a.tmps.getD 28 undef = .bool (b1) := hpre ⟨11, .guard⟩ (by simp) rfl _ rfl
            have f1 : a.tmps.getD 1 undef = .slice (some ae) l1.length c1 := by rw [Array.getD_eq_getD_getElem?, hfr 1 (show ¬ 1 ∈ ([17, 18, 19, 20, 21, 22, 23, 24, 25, 26, 27, 28, 29, 30, 31, 32, 33, 34, 35, 36, 37, 38, 39, 40, 41, 42, 43, 44, 45, 46, 47, 48, 49, 50, 51, 52, 53, 54, 55, 56, 57, 58, 59, 60, 61, 62, 63, 64, 65, 66, 67] : List Nat) by decide)]; rfl
            clear hpre hfr
            by_cases hq_ : (b1) = false
            · refine wpOp_value_w (v := .slice (some ae) l1.length c1) ho (wanted_of (n := 11) (d := 28) rfl rfl (by rw [hs]; exact (show 28 < 68 by decide)) (e28.trans (congrArg _ hq_))) ?_ ⟨_, by rw [if_pos hq_], rfl, Below.refl _ _⟩
              simp only [execOp, Act.eval, List.map_toArray, List.map_cons, List.map_nil, e28, f1]
              first | rfl | (go_simp; done) | (go_simp; rfl) | (go_simp; intro h_; exfalso; omega)
            · exact wpOp_unwanted ho (unwanted_if (n := 11) (d := 28) rfl rfl e28 hq_) ⟨_, by rw [if_neg hq_], rfl, Below.refl _ _⟩
          | 18, ho, he =>
            obtain rfl : o_ = ⟨_, _, _, _, _, _⟩ := (Option.some.inj ho).symm
            obtain rfl := Option.some.inj he; clear he
            have e28 : a.tmps.getD 28 undef = .bool (b1) := hpre ⟨11, .guard⟩ (by simp) rfl _ rfl
            have f5 : a.tmps.getD 5 undef = .int .i64 k := by rw [Array.getD_eq_getD_getElem?, hfr 5 (show ¬ 5 ∈ ([17, 18, 19, 20, 21, 22, 23, 24, 25, 26, 27, 28, 29, 30, 31, 32, 33, 34, 35, 36, 37, 38, 39, 40, 41, 42, 43, 44, 45, 46, 47, 48, 49, 50, 51, 52, 53, 54, 55, 56, 57, 58, 59, 60, 61, 62, 63, 64, 65, 66, 67] : List Nat) by decide)]; rfl
            clear hpre hfr
            by_cases hq_ : (b1) = false
            · refine wpOp_value_w (v := .int .i64 k) ho (wanted_of (n := 11) (d := 28) rfl rfl (by rw [hs]; exact (show 28 < 68 by decide)) (e28.trans (congrArg _ hq_))) ?_ ⟨_, by rw [if_pos hq_], rfl, Below.refl _ _⟩
              simp only [execOp, Act.eval, List.map_toArray, List.map_cons, List.map_nil, e28, f5]
              first | rfl | (go_simp; done) | (go_simp; rfl) | (go_simp; intro h_; exfalso; omega)
            · exact wpOp_unwanted ho (unwanted_if (n := 11) (d := 28) rfl rfl e28 hq_) ⟨_, by rw [if_neg hq_], rfl, Below.refl _ _⟩
          | 19, ho, he =>
            obtain rfl : o_ = ⟨_, _, _, _, _, _⟩ := (Option.some.inj ho).symm
            obtain rfl := Option.some.inj he; clear he
            have e34 : a.tmps.getD 34 undef = if (b1) = false then .slice (some ae) l1.length c1 else undef := hpre ⟨17, .data⟩ (by simp) rfl _ rfl
            have e35 : a.tmps.getD 35 undef = if (b1) = false then .int .i64 k else undef := hpre ⟨18, .data⟩ (by simp) rfl _ rfl
            have e28 : a.tmps.getD 28 undef = .bool (b1) := hpre ⟨11, .guard⟩ (by simp) rfl _ rfl
            clear hpre hfr
            by_cases hq_ : (b1) = false
            · rw [if_pos hq_] at e34
              rw [if_pos hq_] at e35
              refine wpOp_value_w (v := .pointer (some (ae.add (k * 5)))) ho (wanted_of (n := 11) (d := 28) rfl rfl (by rw [hs]; exact (show 28 < 68 by decide)) (e28.trans (congrArg _ hq_))) ?_ ⟨_, by rw [if_pos hq_], rfl, Below.refl _ _⟩
              simp only [execOp, Act.eval, List.map_toArray, List.map_cons, List.map_nil, e34, e35, e28]
              first | rfl | (go_simp; done) | (go_simp; rfl) | (go_simp; intro h_; exfalso; omega)
            · exact wpOp_unwanted ho (unwanted_if (n := 11) (d := 28) rfl rfl e28 hq_) ⟨_, by rw [if_neg hq_], rfl, Below.refl _ _⟩
          | 20, ho, he =>
            obtain rfl : o_ = ⟨_, _, _, _, _, _⟩ := (Option.some.inj ho).symm
            obtain rfl := Option.some.inj he; clear he
            have e36 : a.tmps.getD 36 undef = if (b1) = false then .pointer (some (ae.add (k * 5))) else undef := hpre ⟨19, .data⟩ (by simp) rfl _ rfl
            have e28 : a.tmps.getD 28 undef = .bool (b1) := hpre ⟨11, .guard⟩ (by simp) rfl _ rfl
            clear hpre hfr
            by_cases hq_ : (b1) = false
            · rw [if_pos hq_] at e36
              refine wpOp_value_w (v := .pointer (some ⟨(ae.add (k * 5)).block, (ae.add (k * 5)).off + 1, none⟩)) ho (wanted_of (n := 11) (d := 28) rfl rfl (by rw [hs]; exact (show 28 < 68 by decide)) (e28.trans (congrArg _ hq_))) ?_ ⟨_, by rw [if_pos hq_], rfl, Below.refl _ _⟩
              simp only [execOp, Act.eval, List.map_toArray, List.map_cons, List.map_nil, e36, e28]
              first | rfl | (go_simp; done) | (go_simp; rfl) | (go_simp; intro h_; exfalso; omega)
            · exact wpOp_unwanted ho (unwanted_if (n := 11) (d := 28) rfl rfl e28 hq_) ⟨_, by rw [if_neg hq_], rfl, Below.refl _ _⟩
          | 21, ho, he =>
            obtain rfl : o_ = ⟨_, _, _, _, _, _⟩ := (Option.some.inj ho).symm
            obtain rfl := Option.some.inj he; clear he
            have e37 : a.tmps.getD 37 undef = if (b1) = false then .pointer (some ⟨(ae.add (k * 5)).block, (ae.add (k * 5)).off + 1, none⟩) else undef := hpre ⟨20, .data⟩ (by simp) rfl _ rfl
            have e28 : a.tmps.getD 28 undef = .bool (b1) := hpre ⟨11, .guard⟩ (by simp) rfl _ rfl
            clear hpre hfr
            have k_r1 := (hbl.cell (World.block_lt_of_cell? _ _ r1)).trans r1
            by_cases hq_ : (b1) = false
            · rw [if_pos hq_] at e37
              refine wpOp_value_w (v := .int .i64 y.f1) ho (wanted_of (n := 11) (d := 28) rfl rfl (by rw [hs]; exact (show 28 < 68 by decide)) (e28.trans (congrArg _ hq_))) ?_ ⟨_, by rw [if_pos hq_], rfl, Below.refl _ _⟩
              simp only [execOp, Act.eval, List.map_toArray, List.map_cons, List.map_nil, e37, e28]
              first | rfl | (go_simp; done) | (go_simp; rfl) | (go_simp; intro h_; exfalso; omega)
            · exact wpOp_unwanted ho (unwanted_if (n := 11) (d := 28) rfl rfl e28 hq_) ⟨_, by rw [if_neg hq_], rfl, Below.refl _ _⟩
          | 22, ho, he =>
            obtain rfl : o_ = ⟨_, _, _, _, _, _⟩ := (Option.some.inj ho).symm
            obtain rfl := Option.some.inj he; clear he
            have e33 : a.tmps.getD 33 undef = if (b1) = false then .int .i64 x.f1 else undef := hpre ⟨16, .data⟩ (by simp) rfl _ rfl
            have e38 : a.tmps.getD 38 undef = if (b1) = false then .int .i64 y.f1 else undef := hpre ⟨21, .data⟩ (by simp) rfl _ rfl
            have e28 : a.tmps.getD 28 undef = .bool (b1) := hpre ⟨11, .guard⟩ (by simp) rfl _ rfl
            clear hpre hfr
            by_cases hq_ : (b1) = false
            · rw [if_pos hq_] at e33
              rw [if_pos hq_] at e38
              refine wpOp_value_w (v := .bool (b2)) ho (wanted_of (n := 11) (d := 28) rfl rfl (by rw [hs]; exact (show 28 < 68 by decide)) (e28.trans (congrArg _ hq_))) ?_ ⟨_, by rw [if_pos hq_], rfl, Below.refl _ _⟩
              simp only [execOp, Act.eval, List.map_toArray, List.map_cons, List.map_nil, e33, e38, e28]
              first | rfl | (go_simp; done) | (go_simp; rfl) | (go_simp; intro h_; exfalso; omega)
            · exact wpOp_unwanted ho (unwanted_if (n := 11) (d := 28) rfl rfl e28 hq_) ⟨_, by rw [if_neg hq_], rfl, Below.refl _ _⟩
          | 23, ho, he =>
            obtain rfl : o_ = ⟨_, _, _, _, _, _⟩ := (Option.some.inj ho).symm
            obtain rfl := Option.some.inj he; clear he
            have e28 : a.tmps.getD 28 undef = .bool (b1) := hpre ⟨11, .data⟩ (by simp) rfl _ rfl
            have e39 : a.tmps.getD 39 undef = if (b1) = false then .bool (b2) else undef := hpre ⟨22, .data⟩ (by simp) rfl _ rfl
            clear hpre hfr
            by_cases hq_ : (b1) = false
            · rw [if_pos hq_] at e39
              refine wpOp_value (v := .bool (b1 || b2)) ho rfl ?_ ⟨_, rfl, rfl, Below.refl _ _⟩
              simp only [execOp, Act.eval, List.map_toArray, List.map_cons, List.map_nil, hq_, e28, e39]
              first | rfl | (go_simp; done) | (go_simp; rfl) | (simp [hq_]; done)
            · rw [if_neg hq_] at e39
              replace hq_ : (b1) = true := Bool.of_not_eq_false hq_
              refine wpOp_value (v := .bool (b1 || b2)) ho rfl ?_ ⟨_, rfl, rfl, Below.refl _ _⟩
              simp only [execOp, Act.eval, List.map_toArray, List.map_cons, List.map_nil, hq_, e28, e39]
              first | rfl | (go_simp; done) | (go_simp; rfl) | (simp [hq_]; done)
          | 24, ho, he => obtain rfl : o_ = ⟨_, _, _, _, _, _⟩ := (Option.some.inj ho).symm; obtain rfl := Option.some.inj he; clear he; have e40 : a.tmps.getD 40 undef = .bool (b1 || b2) := hpre ⟨23, .data⟩ (by simp) rfl _ rfl; clear hpre hfr; refine wpOp_value (v := .bool (b1 || b2)) ho rfl ?_ ⟨_, rfl, rfl, Below.refl _ _⟩; simp only [execOp, Act.eval, List.map_toArray, List.map_cons, List.map_nil, e40]; first | rfl | (go_simp; done) | (go_simp; rfl) | (go_simp; intro h_; exfalso; omega)
          | 25, ho, he =>
            obtain rfl : o_ = ⟨_, _, _, _, _, _⟩ := (Option.some.inj ho).symm
            obtain rfl := Option.some.inj he; clear he
            have e41 : a.tmps.getD 41 undef = .bool (b1 || b2) := hpre ⟨24, .guard⟩ (by simp) rfl _ rfl
            have f0 : a.tmps.getD 0 undef = .slice (some ad) l0.length c0 := by rw [Array.getD_eq_getD_getElem?, hfr 0 (show ¬ 0 ∈ ([17, 18, 19, 20, 21, 22, 23, 24, 25, 26, 27, 28, 29, 30, 31, 32, 33, 34, 35, 36, 37, 38, 39, 40, 41, 42, 43, 44, 45, 46, 47, 48, 49, 50, 51, 52, 53, 54, 55, 56, 57, 58, 59, 60, 61, 62, 63, 64, 65, 66, 67] : List Nat) by decide)]; rfl
            clear hpre hfr
            by_cases hq_ : (b1 || b2) = false
            · refine wpOp_value_w (v := .slice (some ad) l0.length c0) ho (wanted_of (n := 24) (d := 41) rfl rfl (by rw [hs]; exact (show 41 < 68 by decide)) (e41.trans (congrArg _ hq_))) ?_ ⟨_, by rw [if_pos hq_], rfl, Below.refl _ _⟩
              simp only [execOp, Act.eval, List.map_toArray, List.map_cons, List.map_nil, e41, f0]
              first | rfl | (go_simp; done) | (go_simp; rfl) | (go_simp; intro h_; exfalso; omega)
            · exact wpOp_unwanted ho (unwanted_if (n := 24) (d := 41) rfl rfl e41 hq_) ⟨_, by rw [if_neg hq_], rfl, Below.refl _ _⟩
          | 26, ho, he =>
            obtain rfl : o_ = ⟨_, _, _, _, _, _⟩ := (Option.some.inj ho).symm
            obtain rfl := Option.some.inj he; clear he
            have e41 : a.tmps.getD 41 undef = .bool (b1 || b2) := hpre ⟨24, .guard⟩ (by simp) rfl _ rfl
            have f5 : a.tmps.getD 5 undef = .int .i64 k := by rw [Array.getD_eq_getD_getElem?, hfr 5 (show ¬ 5 ∈ ([17, 18, 19, 20, 21, 22, 23, 24, 25, 26, 27, 28, 29, 30, 31, 32, 33, 34, 35, 36, 37, 38, 39, 40, 41, 42, 43, 44, 45, 46, 47, 48, 49, 50, 51, 52, 53, 54, 55, 56, 57, 58, 59, 60, 61, 62, 63, 64, 65, 66, 67] : List Nat) by decide)]; rfl
            clear hpre hfr
            by_cases hq_ : (b1 || b2) = false
            · refine wpOp_value_w (v := .int .i64 k) ho (wanted_of (n := 24) (d := 41) rfl rfl (by rw [hs]; exact (show 41 < 68 by decide)) (e41.trans (congrArg _ hq_))) ?_ ⟨_, by rw [if_pos hq_], rfl, Below.refl _ _⟩
              simp only [execOp, Act.eval, List.map_toArray, List.map_cons, List.map_nil, e41, f5]
              first | rfl | (go_simp; done) | (go_simp; rfl) | (go_simp; intro h_; exfalso; omega)
            · exact wpOp_unwanted ho (unwanted_if (n := 24) (d := 41) rfl rfl e41 hq_) ⟨_, by rw [if_neg hq_], rfl, Below.refl _ _⟩
          | 27, ho, he =>
            obtain rfl : o_ = ⟨_, _, _, _, _, _⟩ := (Option.some.inj ho).symm
            obtain rfl := Option.some.inj he; clear he
            have e42 : a.tmps.getD 42 undef = if (b1 || b2) = false then .slice (some ad) l0.length c0 else undef := hpre ⟨25, .data⟩ (by simp) rfl _ rfl
            have e43 : a.tmps.getD 43 undef = if (b1 || b2) = false then .int .i64 k else undef := hpre ⟨26, .data⟩ (by simp) rfl _ rfl
            have e41 : a.tmps.getD 41 undef = .bool (b1 || b2) := hpre ⟨24, .guard⟩ (by simp) rfl _ rfl
            clear hpre hfr
            by_cases hq_ : (b1 || b2) = false
            · rw [if_pos hq_] at e42
              rw [if_pos hq_] at e43
              refine wpOp_value_w (v := .pointer (some (ad.add (k * 5)))) ho (wanted_of (n := 24) (d := 41) rfl rfl (by rw [hs]; exact (show 41 < 68 by decide)) (e41.trans (congrArg _ hq_))) ?_ ⟨_, by rw [if_pos hq_], rfl, Below.refl _ _⟩
              simp only [execOp, Act.eval, List.map_toArray, List.map_cons, List.map_nil, e42, e43, e41]
              first | rfl | (go_simp; done) | (go_simp; rfl) | (go_simp; intro h_; exfalso; omega)
            · exact wpOp_unwanted ho (unwanted_if (n := 24) (d := 41) rfl rfl e41 hq_) ⟨_, by rw [if_neg hq_], rfl, Below.refl _ _⟩
          | 28, ho, he =>
            obtain rfl : o_ = ⟨_, _, _, _, _, _⟩ := (Option.some.inj ho).symm
            obtain rfl := Option.some.inj he; clear he
            have e44 : a.tmps.getD 44 undef = if (b1 || b2) = false then .pointer (some (ad.add (k * 5))) else undef := hpre ⟨27, .data⟩ (by simp) rfl _ rfl
            have e41 : a.tmps.getD 41 undef = .bool (b1 || b2) := hpre ⟨24, .guard⟩ (by simp) rfl _ rfl
            clear hpre hfr
            by_cases hq_ : (b1 || b2) = false
            · rw [if_pos hq_] at e44
              refine wpOp_value_w (v := .pointer (some ⟨(ad.add (k * 5)).block, (ad.add (k * 5)).off + 2, none⟩)) ho (wanted_of (n := 24) (d := 41) rfl rfl (by rw [hs]; exact (show 41 < 68 by decide)) (e41.trans (congrArg _ hq_))) ?_ ⟨_, by rw [if_pos hq_], rfl, Below.refl _ _⟩
              simp only [execOp, Act.eval, List.map_toArray, List.map_cons, List.map_nil, e44, e41]
              first | rfl | (go_simp; done) | (go_simp; rfl) | (go_simp; intro h_; exfalso; omega)
            · exact wpOp_unwanted ho (unwanted_if (n := 24) (d := 41) rfl rfl e41 hq_) ⟨_, by rw [if_neg hq_], rfl, Below.refl _ _⟩
          | 29, ho, he =>
            obtain rfl : o_ = ⟨_, _, _, _, _, _⟩ := (Option.some.inj ho).symm
            obtain rfl := Option.some.inj he; clear he
            have e45 : a.tmps.getD 45 undef = if (b1 || b2) = false then .pointer (some ⟨(ad.add (k * 5)).block, (ad.add (k * 5)).off + 2, none⟩) else undef := hpre ⟨28, .data⟩ (by simp) rfl _ rfl
            have e41 : a.tmps.getD 41 undef = .bool (b1 || b2) := hpre ⟨24, .guard⟩ (by simp) rfl _ rfl
            clear hpre hfr
            have k_q2 := (hbl.cell (World.block_lt_of_cell? _ _ q2)).trans q2
            by_cases hq_ : (b1 || b2) = false
            · rw [if_pos hq_] at e45
              refine wpOp_value_w (v := .int .i64 x.f2) ho (wanted_of (n := 24) (d := 41) rfl rfl (by rw [hs]; exact (show 41 < 68 by decide)) (e41.trans (congrArg _ hq_))) ?_ ⟨_, by rw [if_pos hq_], rfl, Below.refl _ _⟩
              simp only [execOp, Act.eval, List.map_toArray, List.map_cons, List.map_nil, e45, e41]
              first | rfl | (go_simp; done) | (go_simp; rfl) | (go_simp; intro h_; exfalso; omega)
            · exact wpOp_unwanted ho (unwanted_if (n := 24) (d := 41) rfl rfl e41 hq_) ⟨_, by rw [if_neg hq_], rfl, Below.refl _ _⟩
          | 30, ho, he =>
            obtain rfl : o_ = ⟨_, _, _, _, _, _⟩ := (Option.some.inj ho).symm
            obtain rfl := Option.some.inj he; clear he
            have e41 : a.tmps.getD 41 undef = .bool (b1 || b2) := hpre ⟨24, .guard⟩ (by simp) rfl _ rfl
            have f1 : a.tmps.getD 1 undef = .slice (some ae) l1.length c1 := by rw [Array.getD_eq_getD_getElem?, hfr 1 (show ¬ 1 ∈ ([17, 18, 19, 20, 21, 22, 23, 24, 25, 26, 27, 28, 29, 30, 31, 32, 33, 34, 35, 36, 37, 38, 39, 40, 41, 42, 43, 44, 45, 46, 47, 48, 49, 50, 51, 52, 53, 54, 55, 56, 57, 58, 59, 60, 61, 62, 63, 64, 65, 66, 67] : List Nat) by decide)]; rfl
            clear hpre hfr
            by_cases hq_ : (b1 || b2) = false
            · refine wpOp_value_w (v := .slice (some ae) l1.length c1) ho (wanted_of (n := 24) (d := 41) rfl rfl (by rw [hs]; exact (show 41 < 68 by decide)) (e41.trans (congrArg _ hq_))) ?_ ⟨_, by rw [if_pos hq_], rfl, Below.refl _ _⟩
              simp only [execOp, Act.eval, List.map_toArray, List.map_cons, List.map_nil, e41, f1]
              first | rfl | (go_simp; done) | (go_simp; rfl) | (go_simp; intro h_; exfalso; omega)
            · exact wpOp_unwanted ho (unwanted_if (n := 24) (d := 41) rfl rfl e41 hq_) ⟨_, by rw [if_neg hq_], rfl, Below.refl _ _⟩
          | 31, ho, he =>
            obtain rfl : o_ = ⟨_, _, _, _, _, _⟩ := (Option.some.inj ho).symm
            obtain rfl := Option.some.inj he; clear he
            have e41 : a.tmps.getD 41 undef = .bool (b1 || b2) := hpre ⟨24, .guard⟩ (by simp) rfl _ rfl
            have f5 : a.tmps.getD 5 undef = .int .i64 k := by rw [Array.getD_eq_getD_getElem?, hfr 5 (show ¬ 5 ∈ ([17, 18, 19, 20, 21, 22, 23, 24, 25, 26, 27, 28, 29, 30, 31, 32, 33, 34, 35, 36, 37, 38, 39, 40, 41, 42, 43, 44, 45, 46, 47, 48, 49, 50, 51, 52, 53, 54, 55, 56, 57, 58, 59, 60, 61, 62, 63, 64, 65, 66, 67] : List Nat) by decide)]; rfl
            clear hpre hfr
            by_cases hq_ : (b1 || b2) = false
            · refine wpOp_value_w (v := .int .i64 k) ho (wanted_of (n := 24) (d := 41) rfl rfl (by rw [hs]; exact (show 41 < 68 by decide)) (e41.trans (congrArg _ hq_))) ?_ ⟨_, by rw [if_pos hq_], rfl, Below.refl _ _⟩
              simp only [execOp, Act.eval, List.map_toArray, List.map_cons, List.map_nil, e41, f5]
              first | rfl | (go_simp; done) | (go_simp; rfl) | (go_simp; intro h_; exfalso; omega)
            · exact wpOp_unwanted ho (unwanted_if (n := 24) (d := 41) rfl rfl e41 hq_) ⟨_, by rw [if_neg hq_], rfl, Below.refl _ _⟩
          | 32, ho, he =>
            obtain rfl : o_ = ⟨_, _, _, _, _, _⟩ := (Option.some.inj ho).symm
            obtain rfl := Option.some.inj he; clear he
            have e47 : a.tmps.getD 47 undef = if (b1 || b2) = false then .slice (some ae) l1.length c1 else undef := hpre ⟨30, .data⟩ (by simp) rfl _ rfl
            have e48 : a.tmps.getD 48 undef = if (b1 || b2) = false then .int .i64 k else undef := hpre ⟨31, .data⟩ (by simp) rfl _ rfl
            have e41 : a.tmps.getD 41 undef = .bool (b1 || b2) := hpre ⟨24, .guard⟩ (by simp) rfl _ rfl
            clear hpre hfr
            by_cases hq_ : (b1 || b2) = false
            · rw [if_pos hq_] at e47
              rw [if_pos hq_] at e48
              refine wpOp_value_w (v := .pointer (some (ae.add (k * 5)))) ho (wanted_of (n := 24) (d := 41) rfl rfl (by rw [hs]; exact (show 41 < 68 by decide)) (e41.trans (congrArg _ hq_))) ?_ ⟨_, by rw [if_pos hq_], rfl, Below.refl _ _⟩
              simp only [execOp, Act.eval, List.map_toArray, List.map_cons, List.map_nil, e47, e48, e41]
              first | rfl | (go_simp; done) | (go_simp; rfl) | (go_simp; intro h_; exfalso; omega)
            · exact wpOp_unwanted ho (unwanted_if (n := 24) (d := 41) rfl rfl e41 hq_) ⟨_, by rw [if_neg hq_], rfl, Below.refl _ _⟩
          | 33, ho, he =>
            obtain rfl : o_ = ⟨_, _, _, _, _, _⟩ := (Option.some.inj ho).symm
            obtain rfl := Option.some.inj he; clear he
            have e49 : a.tmps.getD 49 undef = if (b1 || b2) = false then .pointer (some (ae.add (k * 5))) else undef := hpre ⟨32, .data⟩ (by simp) rfl _ rfl
            have e41 : a.tmps.getD 41 undef = .bool (b1 || b2) := hpre ⟨24, .guard⟩ (by simp) rfl _ rfl
            clear hpre hfr
            by_cases hq_ : (b1 || b2) = false
            · rw [if_pos hq_] at e49
              refine wpOp_value_w (v := .pointer (some ⟨(ae.add (k * 5)).block, (ae.add (k * 5)).off + 2, none⟩)) ho (wanted_of (n := 24) (d := 41) rfl rfl (by rw [hs]; exact (show 41 < 68 by decide)) (e41.trans (congrArg _ hq_))) ?_ ⟨_, by rw [if_pos hq_], rfl, Below.refl _ _⟩
              simp only [execOp, Act.eval, List.map_toArray, List.map_cons, List.map_nil, e49, e41]
              first | rfl | (go_simp; done) | (go_simp; rfl) | (go_simp; intro h_; exfalso; omega)
            · exact wpOp_unwanted ho (unwanted_if (n := 24) (d := 41) rfl rfl e41 hq_) ⟨_, by rw [if_neg hq_], rfl, Below.refl _ _⟩
          | 34, ho, he =>
            obtain rfl : o_ = ⟨_, _, _, _, _, _⟩ := (Option.some.inj ho).symm
            obtain rfl := Option.some.inj he; clear he
            have e50 : a.tmps.getD 50 undef = if (b1 || b2) = false then .pointer (some ⟨(ae.add (k * 5)).block, (ae.add (k * 5)).off + 2, none⟩) else undef := hpre ⟨33, .data⟩ (by simp) rfl _ rfl
            have e41 : a.tmps.getD 41 undef = .bool (b1 || b2) := hpre ⟨24, .guard⟩ (by simp) rfl _ rfl
            clear hpre hfr
            have k_r2 := (hbl.cell (World.block_lt_of_cell? _ _ r2)).trans r2
            by_cases hq_ : (b1 || b2) = false
            · rw [if_pos hq_] at e50
              refine wpOp_value_w (v := .int .i64 y.f2) ho (wanted_of (n := 24) (d := 41) rfl rfl (by rw [hs]; exact (show 41 < 68 by decide)) (e41.trans (congrArg _ hq_))) ?_ ⟨_, by rw [if_pos hq_], rfl, Below.refl _ _⟩
              simp only [execOp, Act.eval, List.map_toArray, List.map_cons, List.map_nil, e50, e41]
              first | rfl | (go_simp; done) | (go_simp; rfl) | (go_simp; intro h_; exfalso; omega)
            · exact wpOp_unwanted ho (unwanted_if (n := 24) (d := 41) rfl rfl e41 hq_) ⟨_, by rw [if_neg hq_], rfl, Below.refl _ _⟩
          | 35, ho, he =>
            obtain rfl : o_ = ⟨_, _, _, _, _, _⟩ := (Option.some.inj ho).symm
            obtain rfl := Option.some.inj he; clear he
            have e46 : a.tmps.getD 46 undef = if (b1 || b2) = false then .int .i64 x.f2 else undef := hpre ⟨29, .data⟩ (by simp) rfl _ rfl
            have e51 : a.tmps.getD 51 undef = if (b1 || b2) = false then .int .i64 y.f2 else undef := hpre ⟨34, .data⟩ (by simp) rfl _ rfl
            have e41 : a.tmps.getD 41 undef = .bool (b1 || b2) := hpre ⟨24, .guard⟩ (by simp) rfl _ rfl
            clear hpre hfr
            by_cases hq_ : (b1 || b2) = false
            · rw [if_pos hq_] at e46
              rw [if_pos hq_] at e51
              refine wpOp_value_w (v := .bool (b3)) ho (wanted_of (n := 24) (d := 41) rfl rfl (by rw [hs]; exact (show 41 < 68 by decide)) (e41.trans (congrArg _ hq_))) ?_ ⟨_, by rw [if_pos hq_], rfl, Below.refl _ _⟩
              simp only [execOp, Act.eval, List.map_toArray, List.map_cons, List.map_nil, e46, e51, e41]
              first | rfl | (go_simp; done) | (go_simp; rfl) | (go_simp; intro h_; exfalso; omega)
            · exact wpOp_unwanted ho (unwanted_if (n := 24) (d := 41) rfl rfl e41 hq_) ⟨_, by rw [if_neg hq_], rfl, Below.refl _ _⟩
          | 36, ho, he =>
            obtain rfl : o_ = ⟨_, _, _, _, _, _⟩ := (Option.some.inj ho).symm
            obtain rfl := Option.some.inj he; clear he
            have e41 : a.tmps.getD 41 undef = .bool (b1 || b2) := hpre ⟨24, .data⟩ (by simp) rfl _ rfl
            have e52 : a.tmps.getD 52 undef = if (b1 || b2) = false then .bool (b3) else undef := hpre ⟨35, .data⟩ (by simp) rfl _ rfl
            clear hpre hfr
            by_cases hq_ : (b1 || b2) = false
            · rw [if_pos hq_] at e52
              refine wpOp_value (v := .bool (b1 || b2 || b3)) ho rfl ?_ ⟨_, rfl, rfl, Below.refl _ _⟩
              simp only [execOp, Act.eval, List.map_toArray, List.map_cons, List.map_nil, hq_, e41, e52]
              first | rfl | (go_simp; done) | (go_simp; rfl) | (simp [hq_]; done)
            · rw [if_neg hq_] at e52
              replace hq_ : (b1 || b2) = true := Bool.of_not_eq_false hq_
              refine wpOp_value (v := .bool (b1 || b2 || b3)) ho rfl ?_ ⟨_, rfl, rfl, Below.refl _ _⟩
              simp only [execOp, Act.eval, List.map_toArray, List.map_cons, List.map_nil, hq_, e41, e52]
              first | rfl | (go_simp; done) | (go_simp; rfl) | (simp [hq_]; done)
          | 37, ho, he => obtain rfl : o_ = ⟨_, _, _, _, _, _⟩ := (Option.some.inj ho).symm; obtain rfl := Option.some.inj he; clear he; have e53 : a.tmps.getD 53 undef = .bool (b1 || b2 || b3) := hpre ⟨36, .data⟩ (by simp) rfl _ rfl; clear hpre hfr; refine wpOp_value (v := .bool (b1 || b2 || b3)) ho rfl ?_ ⟨_, rfl, rfl, Below.refl _ _⟩; simp only [execOp, Act.eval, List.map_toArray, List.map_cons, List.map_nil, e53]; first | rfl | (go_simp; done) | (go_simp; rfl) | (go_simp; intro h_; exfalso; omega)
          | 38, ho, he =>
            obtain rfl : o_ = ⟨_, _, _, _, _, _⟩ := (Option.some.inj ho).symm
            obtain rfl := Option.some.inj he; clear he
            have e54 : a.tmps.getD 54 undef = .bool (b1 || b2 || b3) := hpre ⟨37, .guard⟩ (by simp) rfl _ rfl
            have f0 : a.tmps.getD 0 undef = .slice (some ad) l0.length c0 := by rw [Array.getD_eq_getD_getElem?, hfr 0 (show ¬ 0 ∈ ([17, 18, 19, 20, 21, 22, 23, 24, 25, 26, 27, 28, 29, 30, 31, 32, 33, 34, 35, 36, 37, 38, 39, 40, 41, 42, 43, 44, 45, 46, 47, 48, 49, 50, 51, 52, 53, 54, 55, 56, 57, 58, 59, 60, 61, 62, 63, 64, 65, 66, 67] : List Nat) by decide)]; rfl
            clear hpre hfr
            by_cases hq_ : (b1 || b2 || b3) = false
            · refine wpOp_value_w (v := .slice (some ad) l0.length c0) ho (wanted_of (n := 37) (d := 54) rfl rfl (by rw [hs]; exact (show 54 < 68 by decide)) (e54.trans (congrArg _ hq_))) ?_ ⟨_, by rw [if_pos hq_], rfl, Below.refl _ _⟩
              simp only [execOp, Act.eval, List.map_toArray, List.map_cons, List.map_nil, e54, f0]
              first | rfl | (go_simp; done) | (go_simp; rfl) | (go_simp; intro h_; exfalso; omega)
            · exact wpOp_unwanted ho (unwanted_if (n := 37) (d := 54) rfl rfl e54 hq_) ⟨_, by rw [if_neg hq_], rfl, Below.refl _ _⟩
          | 39, ho, he =>
            obtain rfl : o_ = ⟨_, _, _, _, _, _⟩ := (Option.some.inj ho).symm
            obtain rfl := Option.some.inj he; clear he
            have e54 : a.tmps.getD 54 undef = .bool (b1 || b2 || b3) := hpre ⟨37, .guard⟩ (by simp) rfl _ rfl
            have f5 : a.tmps.getD 5 undef = .int .i64 k := by rw [Array.getD_eq_getD_getElem?, hfr 5 (show ¬ 5 ∈ ([17, 18, 19, 20, 21, 22, 23, 24, 25, 26, 27, 28, 29, 30, 31, 32, 33, 34, 35, 36, 37, 38, 39, 40, 41, 42, 43, 44, 45, 46, 47, 48, 49, 50, 51, 52, 53, 54, 55, 56, 57, 58, 59, 60, 61, 62, 63, 64, 65, 66, 67] : List Nat) by decide)]; rfl
            clear hpre hfr
            by_cases hq_ : (b1 || b2 || b3) = false
            · refine wpOp_value_w (v := .int .i64 k) ho (wanted_of (n := 37) (d := 54) rfl rfl (by rw [hs]; exact (show 54 < 68 by decide)) (e54.trans (congrArg _ hq_))) ?_ ⟨_, by rw [if_pos hq_], rfl, Below.refl _ _⟩
              simp only [execOp, Act.eval, List.map_toArray, List.map_cons, List.map_nil, e54, f5]
              first | rfl | (go_simp; done) | (go_simp; rfl) | (go_simp; intro h_; exfalso; omega)
            · exact wpOp_unwanted ho (unwanted_if (n := 37) (d := 54) rfl rfl e54 hq_) ⟨_, by rw [if_neg hq_], rfl, Below.refl _ _⟩
          | 40, ho, he =>
            obtain rfl : o_ = ⟨_, _, _, _, _, _⟩ := (Option.some.inj ho).symm
            obtain rfl := Option.some.inj he; clear he
            have e55 : a.tmps.getD 55 undef = if (b1 || b2 || b3) = false then .slice (some ad) l0.length c0 else undef := hpre ⟨38, .data⟩ (by simp) rfl _ rfl
            have e56 : a.tmps.getD 56 undef = if (b1 || b2 || b3) = false then .int .i64 k else undef := hpre ⟨39, .data⟩ (by simp) rfl _ rfl
            have e54 : a.tmps.getD 54 undef = .bool (b1 || b2 || b3) := hpre ⟨37, .guard⟩ (by simp) rfl _ rfl
            clear hpre hfr
            by_cases hq_ : (b1 || b2 || b3) = false
            · rw [if_pos hq_] at e55
              rw [if_pos hq_] at e56
              refine wpOp_value_w (v := .pointer (some (ad.add (k * 5)))) ho (wanted_of (n := 37) (d := 54) rfl rfl (by rw [hs]; exact (show 54 < 68 by decide)) (e54.trans (congrArg _ hq_))) ?_ ⟨_, by rw [if_pos hq_], rfl, Below.refl _ _⟩
              simp only [execOp, Act.eval, List.map_toArray, List.map_cons, List.map_nil, e55, e56, e54]
              first | rfl | (go_simp; done) | (go_simp; rfl) | (go_simp; intro h_; exfalso; omega)
            · exact wpOp_unwanted ho (unwanted_if (n := 37) (d := 54) rfl rfl e54 hq_) ⟨_, by rw [if_neg hq_], rfl, Below.refl _ _⟩
          | 41, ho, he =>
            obtain rfl : o_ = ⟨_, _, _, _, _, _⟩ := (Option.some.inj ho).symm
            obtain rfl := Option.some.inj he; clear he
            have e57 : a.tmps.getD 57 undef = if (b1 || b2 || b3) = false then .pointer (some (ad.add (k * 5))) else undef := hpre ⟨40, .data⟩ (by simp) rfl _ rfl
            have e54 : a.tmps.getD 54 undef = .bool (b1 || b2 || b3) := hpre ⟨37, .guard⟩ (by simp) rfl _ rfl
            clear hpre hfr
            by_cases hq_ : (b1 || b2 || b3) = false
            · rw [if_pos hq_] at e57
              refine wpOp_value_w (v := .pointer (some ⟨(ad.add (k * 5)).block, (ad.add (k * 5)).off + 3, none⟩)) ho (wanted_of (n := 37) (d := 54) rfl rfl (by rw [hs]; exact (show 54 < 68 by decide)) (e54.trans (congrArg _ hq_))) ?_ ⟨_, by rw [if_pos hq_], rfl, Below.refl _ _⟩
              simp only [execOp, Act.eval, List.map_toArray, List.map_cons, List.map_nil, e57, e54]
              first | rfl | (go_simp; done) | (go_simp; rfl) | (go_simp; intro h_; exfalso; omega)
            · exact wpOp_unwanted ho (unwanted_if (n := 37) (d := 54) rfl rfl e54 hq_) ⟨_, by rw [if_neg hq_], rfl, Below.refl _ _⟩
          | 42, ho, he =>
            obtain rfl : o_ = ⟨_, _, _, _, _, _⟩ := (Option.some.inj ho).symm
            obtain rfl := Option.some.inj he; clear he
            have e58 : a.tmps.getD 58 undef = if (b1 || b2 || b3) = false then .pointer (some ⟨(ad.add (k * 5)).block, (ad.add (k * 5)).off + 3, none⟩) else undef := hpre ⟨41, .data⟩ (by simp) rfl _ rfl
            have e54 : a.tmps.getD 54 undef = .bool (b1 || b2 || b3) := hpre ⟨37, .guard⟩ (by simp) rfl _ rfl
            clear hpre hfr
            have k_q3 := (hbl.cell (World.block_lt_of_cell? _ _ q3)).trans q3
            have k_q4 := (hbl.cell (World.block_lt_of_cell? _ _ q4)).trans q4
            by_cases hq_ : (b1 || b2 || b3) = false
            · rw [if_pos hq_] at e58
              refine wpOp_value_w (v := .agg #[.int .i64 x.f3.f0, .slice A2 x.f3.f1.length c2]) ho (wanted_of (n := 37) (d := 54) rfl rfl (by rw [hs]; exact (show 54 < 68 by decide)) (e54.trans (congrArg _ hq_))) ?_ ⟨_, by rw [if_pos hq_], rfl, Below.refl _ _⟩
              simp only [execOp, Act.eval, List.map_toArray, List.map_cons, List.map_nil, e58, e54]
              first | rfl | (go_simp; done) | (go_simp; rfl) | (go_simp; intro h_; exfalso; omega)
            · exact wpOp_unwanted ho (unwanted_if (n := 37) (d := 54) rfl rfl e54 hq_) ⟨_, by rw [if_neg hq_], rfl, Below.refl _ _⟩
          | 43, ho, he =>
            obtain rfl : o_ = ⟨_, _, _, _, _, _⟩ := (Option.some.inj ho).symm
            obtain rfl := Option.some.inj he; clear he
            have e54 : a.tmps.getD 54 undef = .bool (b1 || b2 || b3) := hpre ⟨37, .guard⟩ (by simp) rfl _ rfl
            have f1 : a.tmps.getD 1 undef = .slice (some ae) l1.length c1 := by rw [Array.getD_eq_getD_getElem?, hfr 1 (show ¬ 1 ∈ ([17, 18, 19, 20, 21, 22, 23, 24, 25, 26, 27, 28, 29, 30, 31, 32, 33, 34, 35, 36, 37, 38, 39, 40, 41, 42, 43, 44, 45, 46, 47, 48, 49, 50, 51, 52, 53, 54, 55, 56, 57, 58, 59, 60, 61, 62, 63, 64, 65, 66, 67] : List Nat) by decide)]; rfl
            clear hpre hfr
            by_cases hq_ : (b1 || b2 || b3) = false
            · refine wpOp_value_w (v := .slice (some ae) l1.length c1) ho (wanted_of (n := 37) (d := 54) rfl rfl (by rw [hs]; exact (show 54 < 68 by decide)) (e54.trans (congrArg _ hq_))) ?_ ⟨_, by rw [if_pos hq_], rfl, Below.refl _ _⟩
              simp only [execOp, Act.eval, List.map_toArray, List.map_cons, List.map_nil, e54, f1]
              first | rfl | (go_simp; done) | (go_simp; rfl) | (go_simp; intro h_; exfalso; omega)
            · exact wpOp_unwanted ho (unwanted_if (n := 37) (d := 54) rfl rfl e54 hq_) ⟨_, by rw [if_neg hq_], rfl, Below.refl _ _⟩
          | 44, ho, he =>
            obtain rfl : o_ = ⟨_, _, _, _, _, _⟩ := (Option.some.inj ho).symm
            obtain rfl := Option.some.inj he; clear he
            have e54 : a.tmps.getD 54 undef = .bool (b1 || b2 || b3) := hpre ⟨37, .guard⟩ (by simp) rfl _ rfl
            have f5 : a.tmps.getD 5 undef = .int .i64 k := by rw [Array.getD_eq_getD_getElem?, hfr 5 (show ¬ 5 ∈ ([17, 18, 19, 20, 21, 22, 23, 24, 25, 26, 27, 28, 29, 30, 31, 32, 33, 34, 35, 36, 37, 38, 39, 40, 41, 42, 43, 44, 45, 46, 47, 48, 49, 50, 51, 52, 53, 54, 55, 56, 57, 58, 59, 60, 61, 62, 63, 64, 65, 66, 67] : List Nat) by decide)]; rfl
            clear hpre hfr
            by_cases hq_ : (b1 || b2 || b3) = false
            · refine wpOp_value_w (v := .int .i64 k) ho (wanted_of (n := 37) (d := 54) rfl rfl (by rw [hs]; exact (show 54 < 68 by decide)) (e54.trans (congrArg _ hq_))) ?_ ⟨_, by rw [if_pos hq_], rfl, Below.refl _ _⟩
              simp only [execOp, Act.eval, List.map_toArray, List.map_cons, List.map_nil, e54, f5]
              first | rfl | (go_simp; done) | (go_simp; rfl) | (go_simp; intro h_; exfalso; omega)
            · exact wpOp_unwanted ho (unwanted_if (n := 37) (d := 54) rfl rfl e54 hq_) ⟨_, by rw [if_neg hq_], rfl, Below.refl _ _⟩
          | 45, ho, he =>
            obtain rfl : o_ = ⟨_, _, _, _, _, _⟩ := (Option.some.inj ho).symm
            obtain rfl := Option.some.inj he; clear he
            have e60 : a.tmps.getD 60 undef = if (b1 || b2 || b3) = false then .slice (some ae) l1.length c1 else undef := hpre ⟨43, .data⟩ (by simp) rfl _ rfl
            have e61 : a.tmps.getD 61 undef = if (b1 || b2 || b3) = false then .int .i64 k else undef := hpre ⟨44, .data⟩ (by simp) rfl _ rfl
            have e54 : a.tmps.getD 54 undef = .bool (b1 || b2 || b3) := hpre ⟨37, .guard⟩ (by simp) rfl _ rfl
            clear hpre hfr
            by_cases hq_ : (b1 || b2 || b3) = false
            · rw [if_pos hq_] at e60
              rw [if_pos hq_] at e61
              refine wpOp_value_w (v := .pointer (some (ae.add (k * 5)))) ho (wanted_of (n := 37) (d := 54) rfl rfl (by rw [hs]; exact (show 54 < 68 by decide)) (e54.trans (congrArg _ hq_))) ?_ ⟨_, by rw [if_pos hq_], rfl, Below.refl _ _⟩
              simp only [execOp, Act.eval, List.map_toArray, List.map_cons, List.map_nil, e60, e61, e54]
              first | rfl | (go_simp; done) | (go_simp; rfl) | (go_simp; intro h_; exfalso; omega)
            · exact wpOp_unwanted ho (unwanted_if (n := 37) (d := 54) rfl rfl e54 hq_) ⟨_, by rw [if_neg hq_], rfl, Below.refl _ _⟩
          | 46, ho, he =>
            obtain rfl : o_ = ⟨_, _, _, _, _, _⟩ := (Option.some.inj ho).symm
            obtain rfl := Option.some.inj he; clear he
            have e62 : a.tmps.getD 62 undef = if (b1 || b2 || b3) = false then .pointer (some (ae.add (k * 5))) else undef := hpre ⟨45, .data⟩ (by simp) rfl _ rfl
            have e54 : a.tmps.getD 54 undef = .bool (b1 || b2 || b3) := hpre ⟨37, .guard⟩ (by simp) rfl _ rfl
            clear hpre hfr
            by_cases hq_ : (b1 || b2 || b3) = false
            · rw [if_pos hq_] at e62
              refine wpOp_value_w (v := .pointer (some ⟨(ae.add (k * 5)).block, (ae.add (k * 5)).off + 3, none⟩)) ho (wanted_of (n := 37) (d := 54) rfl rfl (by rw [hs]; exact (show 54 < 68 by decide)) (e54.trans (congrArg _ hq_))) ?_ ⟨_, by rw [if_pos hq_], rfl, Below.refl _ _⟩
              simp only [execOp, Act.eval, List.map_toArray, List.map_cons, List.map_nil, e62, e54]
              first | rfl | (go_simp; done) | (go_simp; rfl) | (go_simp; intro h_; exfalso; omega)
            · exact wpOp_unwanted ho (unwanted_if (n := 37) (d := 54) rfl rfl e54 hq_) ⟨_, by rw [if_neg hq_], rfl, Below.refl _ _⟩
          | 47, ho, he =>
            obtain rfl : o_ = ⟨_, _, _, _, _, _⟩ := (Option.some.inj ho).symm
            obtain rfl := Option.some.inj he; clear he
            have e63 : a.tmps.getD 63 undef = if (b1 || b2 || b3) = false then .pointer (some ⟨(ae.add (k * 5)).block, (ae.add (k * 5)).off + 3, none⟩) else undef := hpre ⟨46, .data⟩ (by simp) rfl _ rfl
            have e54 : a.tmps.getD 54 undef = .bool (b1 || b2 || b3) := hpre ⟨37, .guard⟩ (by simp) rfl _ rfl
            clear hpre hfr
            have k_r3 := (hbl.cell (World.block_lt_of_cell? _ _ r3)).trans r3
            have k_r4 := (hbl.cell (World.block_lt_of_cell? _ _ r4)).trans r4
            by_cases hq_ : (b1 || b2 || b3) = false
            · rw [if_pos hq_] at e63
              refine wpOp_value_w (v := .agg #[.int .i64 y.f3.f0, .slice A3 y.f3.f1.length c3]) ho (wanted_of (n := 37) (d := 54) rfl rfl (by rw [hs]; exact (show 54 < 68 by decide)) (e54.trans (congrArg _ hq_))) ?_ ⟨_, by rw [if_pos hq_], rfl, Below.refl _ _⟩
              simp only [execOp, Act.eval, List.map_toArray, List.map_cons, List.map_nil, e63, e54]
              first | rfl | (go_simp; done) | (go_simp; rfl) | (go_simp; intro h_; exfalso; omega)
            · exact wpOp_unwanted ho (unwanted_if (n := 37) (d := 54) rfl rfl e54 hq_) ⟨_, by rw [if_neg hq_], rfl, Below.refl _ _⟩
          | 48, ho, he =>
            obtain rfl : o_ = ⟨_, _, _, _, _, _⟩ := (Option.some.inj ho).symm
            obtain rfl := Option.some.inj he; clear he
            have e59 : a.tmps.getD 59 undef = if (b1 || b2 || b3) = false then .agg #[.int .i64 x.f3.f0, .slice A2 x.f3.f1.length c2] else undef := hpre ⟨42, .data⟩ (by simp) rfl _ rfl
            have e64 : a.tmps.getD 64 undef = if (b1 || b2 || b3) = false then .agg #[.int .i64 y.f3.f0, .slice A3 y.f3.f1.length c3] else undef := hpre ⟨47, .data⟩ (by simp) rfl _ rfl
            have e54 : a.tmps.getD 54 undef = .bool (b1 || b2 || b3) := hpre ⟨37, .guard⟩ (by simp) rfl _ rfl
            clear hpre hfr
            by_cases hq_ : (b1 || b2 || b3) = false
            · rw [if_pos hq_] at e59
              rw [if_pos hq_] at e64
              refine wpOp_call_w (fn := Try.f15) ho (wanted_of (n := 37) (d := 54) rfl rfl (by rw [hs]; exact (show 54 < 68 by decide)) (e54.trans (congrArg _ hq_))) rfl rfl rfl #[.agg #[.int .i64 x.f3.f0, .slice A2 x.f3.f1.length c2], .agg #[.int .i64 y.f3.f0, .slice A3 y.f3.f1.length c3]] rfl (by simp only [List.map_toArray, List.map_cons, List.map_nil, Act.eval, e59, e64]) ?_
              refine (waybillref22_Same.calls x.f3.f0 A2 c2 x.f3.f1 y.f3.f0 A3 c3 y.f3.f1 sm _ (Kd.C_below G2.out hbl) L2.out (Kd.C_below G3.out hbl) L3.out I4.out).mono ?_
              rintro e w3 ⟨rfl, hd⟩
              exact ⟨_, rfl, _, rfl, by rw [if_pos hq_], hd⟩
            · exact wpOp_unwanted ho (unwanted_if (n := 37) (d := 54) rfl rfl e54 hq_) ⟨_, by rw [if_neg hq_], rfl, Below.refl _ _⟩
          | 49, ho, he =>
            obtain rfl : o_ = ⟨_, _, _, _, _, _⟩ := (Option.some.inj ho).symm
            obtain rfl := Option.some.inj he; clear he
            have e65 : a.tmps.getD 65 undef = if (b1 || b2 || b3) = false then .bool (sm) else undef := hpre ⟨48, .data⟩ (by simp) rfl _ rfl
            have e54 : a.tmps.getD 54 undef = .bool (b1 || b2 || b3) := hpre ⟨37, .guard⟩ (by simp) rfl _ rfl
            clear hpre hfr
            by_cases hq_ : (b1 || b2 || b3) = false
            · rw [if_pos hq_] at e65
              refine wpOp_value_w (v := .bool (!sm)) ho (wanted_of (n := 37) (d := 54) rfl rfl (by rw [hs]; exact (show 54 < 68 by decide)) (e54.trans (congrArg _ hq_))) ?_ ⟨_, by rw [if_pos hq_], rfl, Below.refl _ _⟩
              simp only [execOp, Act.eval, List.map_toArray, List.map_cons, List.map_nil, e65, e54]
              first | rfl | (go_simp; done) | (go_simp; rfl) | (go_simp; intro h_; exfalso; omega)
            · exact wpOp_unwanted ho (unwanted_if (n := 37) (d := 54) rfl rfl e54 hq_) ⟨_, by rw [if_neg hq_], rfl, Below.refl _ _⟩
          | 50, ho, he =>
            obtain rfl : o_ = ⟨_, _, _, _, _, _⟩ := (Option.some.inj ho).symm
            obtain rfl := Option.some.inj he; clear he
            have e54 : a.tmps.getD 54 undef = .bool (b1 || b2 || b3) := hpre ⟨37, .data⟩ (by simp) rfl _ rfl
            have e66 : a.tmps.getD 66 undef = if (b1 || b2 || b3) = false then .bool (!sm) else undef := hpre ⟨49, .data⟩ (by simp) rfl _ rfl
            clear hpre hfr
            by_cases hq_ : (b1 || b2 || b3) = false
            · rw [if_pos hq_] at e66
              refine wpOp_value (v := .bool (b1 || b2 || b3 || !sm)) ho rfl ?_ ⟨_, rfl, rfl, Below.refl _ _⟩
              simp only [execOp, Act.eval, List.map_toArray, List.map_cons, List.map_nil, hq_, e54, e66]
              first | rfl | (go_simp; done) | (go_simp; rfl) | (simp [hq_]; done)
            · rw [if_neg hq_] at e66
              replace hq_ : (b1 || b2 || b3) = true := Bool.of_not_eq_false hq_
              refine wpOp_value (v := .bool (b1 || b2 || b3 || !sm)) ho rfl ?_ ⟨_, rfl, rfl, Below.refl _ _⟩
              simp only [execOp, Act.eval, List.map_toArray, List.map_cons, List.map_nil, hq_, e54, e66]
              first | rfl | (go_simp; done) | (go_simp; rfl) | (simp [hq_]; done)
          | n_ + 51, ho, he => simp at he
        case fin =>
          intro xv_ w1_ hbl hx
          simp only [List.forall_mem_cons] at hx
          obtain ⟨x17, x18, x19, x20, x21, x22, x23, x24, x25, x26, x27, x28, x29, x30, x31, x32, x33, x34, x35, x36, x37, x38, x39, x40, x41, x42, x43, x44, x45, x46, x47, x48, x49, x50, x51, x52, x53, x54, x55, x56, x57, x58, x59, x60, x61, x62, x63, x64, x65, x66, x67, _⟩ := hx
          simp only [List.map_cons, List.map_nil, putL, Act.put, List.setIfInBounds_toArray, List.set_cons_zero, List.set_cons_succ, x17, x18, x19, x20, x21, x22, x23, x24, x25, x26, x27, x28, x40, x41, x53, x54, x67]
          clear x17 x18 x19 x20 x21 x22 x23 x24 x25 x26 x27 x28 x29 x30 x31 x32 x33 x34 x35 x36 x37 x38 x39 x40 x41 x42 x43 x44 x45 x46 x47 x48 x49 x50 x51 x52 x53 x54 x55 x56 x57 x58 x59 x60 x61 x62 x63 x64 x65 x66 x67
          have HB2 : Aside0 (Below w.heap.size w w1_) := ⟨below_then HB.out HB.out.size hbl⟩
          obtain ⟨C, hC⟩ : ∃ C, C = (b1 || b2 || b3 || !sm) := ⟨_, rfl⟩
          rw [← hC] at HON ⊢
          clear hC hbl q0 q1 q2 q3 q4 r0 r1 r2 r3 r4
          cases C with
          | true =>
            have HE : Aside0 (sameS l0 l1 = false) := ⟨sameS_no hlt HON.out⟩
            go_wp2_with fail
            go_ret
            exact ⟨by rw [HE.out]; rfl, HB2.out⟩
          | false =>
            go_wp2_with fail
            go_roundw
            case rel => exact ⟨k + 1, by go_num, by omega, ⟨fun j hj => by
              rcases Nat.lt_or_ge j k with h | h
              · exact HF.out j h
              · obtain rfl : j = k := by omega
                exact HON.out⟩, HB2⟩
            case measure => simp [intOf]; omega
      · have b0 : decide ((k : Int) < (l0.length : Int)) = false := decide_eq_false (by omega)
        have b0' : decide (k < l0.length) = false := decide_eq_false hlt
        have HE : Aside0 (sameS l0 l1 = true) := ⟨sameS_yes HLE.out (fun j hj => HF.out j (by omega))⟩
        go_wp2_with fail
        go_ret
        exact ⟨by rw [HE.out]; rfl, HB.out⟩
  · have d0 : ((l0.length : Int) != (l1.length : Int)) = true := by simp; omega
    have HE : Aside0 (sameS l0 l1 = false) := ⟨by unfold sameS; rw [decide_eq_false hlen, Bool.false_and]⟩
    go_enter Try.func21, Try.ntmps21
    go_wp2_with fail
    go_ret
    exact ⟨by rw [HE.out]; rfl, Below.refl _ _⟩
end Go.Proofs.Ythfjgfldmkdlnaa.G
end
