/- SessionTells: texts of this claim, packed: what the kit's print has written for it and own texts, without what its proof does not reach. -/
import Derived.Test.YthfjgfldmkdlnaaKSessionTells11
import Derived.Test.YthfjgfldmkdlnaaKSessionTells14
import Derived.Test.YthfjgfldmkdlnaaKSessionTells15
import Derived.Test.YthfjgfldmkdlnaaKSessionTells17
import Derived.Test.YthfjgfldmkdlnaaKSessionTells19
import Derived.Test.YthfjgfldmkdlnaaKSessionTells20
import Derived.Test.YthfjgfldmkdlnaaKSessionTells22
import Derived.Test.YthfjgfldmkdlnaaKSessionTells23
import Derived.Test.YthfjgfldmkdlnaaKSessionTells24
set_option linter.unusedVariables false
set_option linter.unusedSimpArgs false
set_option linter.unusedSectionVars false
section
namespace Go.Proofs.Ythfjgfldmkdlnaa.G
open WB Go.RowKit Go.Proofs.YthfjgfldmkdlnaaW.PrintWords Go.Proofs.YthfjgfldmkdlnaaW.PrintLast Go.Proofs.YthfjgfldmkdlnaaW.PrintMore
attribute [local go_sem] max2_int min2_int max_two min_two max_three min_three max_four min_four   -- for this text's walks alone
set_option linter.unusedVariables false
set_option linter.unusedSimpArgs false
def waybilllaw23_SessionTells.j0 : Nat → List (S38) → Int → Int → List (S38) → List Int → Int → List Int → Int → Bool → Int → Int → Int → Option (Bool)
  | 0, _, _, _, _, _, _, _, _, _, _, _, _ => none
  | k + 1, x0, x2, x3, x15, x36, x37, x38, x39, x191, x301000, x301001, x301002 => if x191 = true then (some false) else ((waybillplain_SameInts.f k x36 x38).bind fun t363 => (if t363 = true then ((waybilllaw23_num.f x37).bind fun t364 => (if t364 = x39 then ((session_Check.f x15 x301000 x301001 x301002 x2 x3).bind fun t365 => ((waybilllaw23_num.f t365).bind fun t366 => ((waybillref23_Check.f x0 x301000 x301001 x301002 x2 x3).bind fun t367 => (if t366 = t367 then ((waybillref23_Same.f x15 x0).bind fun t368 => (if t368 = true then ((waybilllaw23_alive.f).bind fun t369 => (some t369)) else (some false))) else (some false))))) else (some false))) else (some false)))
def waybilllaw23_SessionTells.f (k : Nat) (l0 : List (S38)) (a1_0 : Int) (a1_1 : Int) (a1_2 : Int) (a2 : Int) (a3 : Int) (a4 : Int) (a5 : Int) (a6_0 : Int) (l6_1 : List (S51)) : Option (Bool) := (waybillref23_Own.f k l0).bind fun t302 => ((session_Open.f t302 a1_0 a1_1 a1_2 a2 a3 a5).bind fun bt305 => ((waybillref23_Open.f k l0 a1_0 a1_1 a1_2 a2 a3 a5).bind fun bt310 => ((session_Expire.f t302 a1_0 a1_1 a1_2 a2 a3).bind fun bt315 => ((waybillref23_Expire.f l0 a1_0 a1_1 a1_2 a2 a3).bind fun bt322 => ((session_Find.f t302 a1_0 a1_1 a1_2 a2 a3 a4 a5).bind fun bt329 => ((waybillref23_Find.f k l0 a1_0 a1_1 a1_2 a2 a3 a4 a5).bind fun bt331 => ((session_Touch.f t302 a1_0 a1_1 a1_2 a2 a3 a4 a6_0 l6_1).bind fun bt333 => ((waybillref23_Touch.f l0 a1_0 a1_1 a1_2 a2 a3 a4 a6_0 l6_1).bind fun bt337 => ((session_Of.f k t302 (([a5, a4] : List Int))).bind fun bt344 => ((waybillref23_Of.f k l0 (([a5, a4] : List Int))).bind fun bt351 => ((waybillref23_Same.f bt305.1 bt310.1).bind fun t355 => (if t355 = true then (if bt305.2.1 = bt310.2.1 then ((waybilllaw23_num.f bt305.2.2).bind fun t356 => (if t356 = bt310.2.2 then ((waybillref23_Same.f bt315.1 bt322.1).bind fun t357 => (if t357 = true then ((waybillplain_SameInts.f k bt315.2.1 bt322.2.1).bind fun t358 => (if t358 = true then ((waybilllaw23_num.f bt315.2.2).bind fun t359 => (if t359 = bt322.2.2 then (if bt329.1 = bt331.1 then ((waybilllaw23_num.f bt329.2).bind fun t360 => (if t360 = bt331.2 then ((waybillref23_Same.f bt333.1 bt337.1).bind fun t361 => (if t361 = true then ((waybilllaw23_num.f bt333.2).bind fun t362 => (waybilllaw23_SessionTells.j0 k l0 a2 a3 t302 bt344.1 bt344.2 bt351.1 bt351.2 (t362 != bt337.2) a1_0 a1_1 a1_2)) else (waybilllaw23_SessionTells.j0 k l0 a2 a3 t302 bt344.1 bt344.2 bt351.1 bt351.2 true a1_0 a1_1 a1_2))) else (waybilllaw23_SessionTells.j0 k l0 a2 a3 t302 bt344.1 bt344.2 bt351.1 bt351.2 true a1_0 a1_1 a1_2))) else (waybilllaw23_SessionTells.j0 k l0 a2 a3 t302 bt344.1 bt344.2 bt351.1 bt351.2 true a1_0 a1_1 a1_2)) else (waybilllaw23_SessionTells.j0 k l0 a2 a3 t302 bt344.1 bt344.2 bt351.1 bt351.2 true a1_0 a1_1 a1_2))) else (waybilllaw23_SessionTells.j0 k l0 a2 a3 t302 bt344.1 bt344.2 bt351.1 bt351.2 true a1_0 a1_1 a1_2))) else (waybilllaw23_SessionTells.j0 k l0 a2 a3 t302 bt344.1 bt344.2 bt351.1 bt351.2 true a1_0 a1_1 a1_2))) else (waybilllaw23_SessionTells.j0 k l0 a2 a3 t302 bt344.1 bt344.2 bt351.1 bt351.2 true a1_0 a1_1 a1_2))) else (waybilllaw23_SessionTells.j0 k l0 a2 a3 t302 bt344.1 bt344.2 bt351.1 bt351.2 true a1_0 a1_1 a1_2)) else (waybilllaw23_SessionTells.j0 k l0 a2 a3 t302 bt344.1 bt344.2 bt351.1 bt351.2 true a1_0 a1_1 a1_2)))))))))))))
theorem waybilllaw23_SessionTells.mono_l : ∀ k, (∀ y0 y1 y2 y3 y4 y5 y6 y7 y8 y9 y10 y11, LeO (waybilllaw23_SessionTells.j0 k y0 y1 y2 y3 y4 y5 y6 y7 y8 y9 y10 y11) (waybilllaw23_SessionTells.j0 (k + 1) y0 y1 y2 y3 y4 y5 y6 y7 y8 y9 y10 y11))
  | 0 => fun _ _ _ _ _ _ _ _ _ _ _ _ r h => by simp [waybilllaw23_SessionTells.j0] at h
  | k + 1 => by
    have ih0 := waybilllaw23_SessionTells.mono_l k
    · intro y0 y1 y2 y3 y4 y5 y6 y7 y8 y9 y10 y11
      unfold waybilllaw23_SessionTells.j0
      repeat' first
      | (with_reducible exact ih0 _ _ _ _ _ _ _ _ _ _ _ _)
      | (with_reducible exact session_Of.mono _ _ _)
      | (with_reducible exact waybillplain_SameInts.mono _ _ _)
      | (with_reducible exact waybillref23_Find.mono _ _ _ _ _ _ _ _ _)
      | (with_reducible exact waybillref23_Of.mono _ _ _)
      | (with_reducible exact waybillref23_Open.mono _ _ _ _ _ _ _ _)
      | (with_reducible exact waybillref23_Own.mono _ _)
      | (with_reducible exact LeO.refl _)
      | (with_reducible exact LeO.none _)
      | (with_reducible refine LeO.ite ?_ ?_)
      | (with_reducible refine LeO.bind ?_ (fun _ => ?_))
      | exact ih0 _ _ _ _ _ _ _ _ _ _ _ _
      | exact session_Of.mono _ _ _
      | exact waybillplain_SameInts.mono _ _ _
      | exact waybillref23_Find.mono _ _ _ _ _ _ _ _ _
      | exact waybillref23_Of.mono _ _ _
      | exact waybillref23_Open.mono _ _ _ _ _ _ _ _
      | exact waybillref23_Own.mono _ _
      | exact LeO.none _
      | refine LeO.ite ?_ ?_
      | refine LeO.bind ?_ (fun _ => ?_)
theorem waybilllaw23_SessionTells.mono : ∀ a0 a1 a2 a3 a4 a5 a6 a7 a8 a9 k, LeO (waybilllaw23_SessionTells.f k a0 a1 a2 a3 a4 a5 a6 a7 a8 a9) (waybilllaw23_SessionTells.f (k + 1) a0 a1 a2 a3 a4 a5 a6 a7 a8 a9) := by
  intro a0 a1 a2 a3 a4 a5 a6 a7 a8 a9 k
  have ih0 := waybilllaw23_SessionTells.mono_l k
  unfold waybilllaw23_SessionTells.f
  repeat' first
      | (with_reducible exact ih0 _ _ _ _ _ _ _ _ _ _ _ _)
      | (with_reducible exact session_Of.mono _ _ _)
      | (with_reducible exact waybillplain_SameInts.mono _ _ _)
      | (with_reducible exact waybillref23_Find.mono _ _ _ _ _ _ _ _ _)
      | (with_reducible exact waybillref23_Of.mono _ _ _)
      | (with_reducible exact waybillref23_Open.mono _ _ _ _ _ _ _ _)
      | (with_reducible exact waybillref23_Own.mono _ _)
      | (with_reducible exact LeO.refl _)
      | (with_reducible exact LeO.none _)
      | (with_reducible refine LeO.ite ?_ ?_)
      | (with_reducible refine LeO.bind ?_ (fun _ => ?_))
      | exact ih0 _ _ _ _ _ _ _ _ _ _ _ _
      | exact session_Of.mono _ _ _
      | exact waybillplain_SameInts.mono _ _ _
      | exact waybillref23_Find.mono _ _ _ _ _ _ _ _ _
      | exact waybillref23_Of.mono _ _ _
      | exact waybillref23_Open.mono _ _ _ _ _ _ _ _
      | exact waybillref23_Own.mono _ _
      | exact LeO.none _
      | refine LeO.ite ?_ ?_
      | refine LeO.bind ?_ (fun _ => ?_)
def waybilllaw23_SessionTells.T14 : Bool × List (List Nat × List Nat) := (true, [([], []), ([], []), ([0, 1], [0, 1]), ([2, 2], [2]), ([3], [3]), ([4, 3, 3], [3, 4]), ([3], [3]), ([5, 6, 3], [3, 5, 6]), ([3, 7], [3, 7]), ([8, 5], [8]), ([9], [9]), ([9], [9]), ([9], [9]), ([9], [9]), ([10, 11, 12, 13, 9, 9], [9, 10, 11, 12, 13]), ([14, 14, 9], [9, 14]), ([9], [9]), ([9], [9]), ([9], [9]), ([9], [9]), ([16, 17, 18, 19, 15, 9], [9, 16, 17, 18, 19]), ([15, 20, 9], [9, 15, 20]), ([9, 21], [9, 21]), ([22, 20], [22]), ([23], [23]), ([23], [23]), ([24, 25, 23, 23], [23, 24, 25]), ([23, 26], [23, 26]), ([27, 26], [27]), ([28, 28], [28]), ([28, 29], [28, 29]), ([30, 29, 0, 1, 2, 3, 4, 5, 6, 7, 8, 9, 10, 11, 12, 13, 14, 15, 16, 17, 18, 19, 20, 21, 22, 23, 24, 25, 26, 27, 28, 29, 30], [30])])
def waybilllaw23_SessionTells.B14 : List Nat := [0, 0, 3, 7, 15, 31, 15, 127, 255, 511, 1023, 1023, 1023, 1023, 16383, 32767, 1023, 1023, 1023, 1023, 1048575, 2097151, 4194303, 8388607, 16777215, 16777215, 67108863, 134217727, 268435455, 536870911, 1073741823, 2147483647]
theorem waybilllaw23_SessionTells.tab14 : rtab .any (opsOf Try.f8 14) = waybilllaw23_SessionTells.T14 := by kernel_rfl
theorem waybilllaw23_SessionTells.bits14 : waitsOk waybilllaw23_SessionTells.T14.2 waybilllaw23_SessionTells.B14 = true := by kernel_rfl
theorem waybilllaw23_SessionTells.j0_no (k : Nat) (x0_ : _) (x1_ : _) (x2_ : _) (x3_ : _) (x4_ : _) (x5_ : _) (x6_ : _) (x7_ : _) (x9_ : _) (x10_ : _) (x11_ : _) : waybilllaw23_SessionTells.j0 k x0_ x1_ x2_ x3_ x4_ x5_ x6_ x7_ true x9_ x10_ x11_ = some true → False := by
  cases k <;> simp [waybilllaw23_SessionTells.j0]
set_option maxHeartbeats 8000000 in
set_option maxRecDepth 100000 in
theorem waybilllaw23_SessionTells.calls (k : Nat) (A0 : Option Addr) (c0 : Nat) (l0 : List (S38)) (a1_0 : Int) (a1_1 : Int) (a1_2 : Int) (a2 : Int) (a3 : Int) (a4 : Int) (a5 : Int) (a6_0 : Int) (A6_1 : Option Addr) (c6_1 : Nat) (l6_1 : List (S51)) (r : Bool) (w : World) (hr0 : Kd.C k38 w A0 l0.length l0) (hc0 : l0.length ≤ c0) (hr6_1 : Kd.C k51 w A6_1 l6_1.length l6_1) (hc6_1 : l6_1.length ≤ c6_1) (h : waybilllaw23_SessionTells.f k l0 a1_0 a1_1 a1_2 a2 a3 a4 a5 a6_0 l6_1 = some r)  (hrt : r = true) :
    Calls Try.prog 8 #[.slice A0 l0.length c0, .agg #[.int .i64 a1_0, .int .i64 a1_1, .int .i64 a1_2], .int .i64 a2, .int .i64 a3, .int .i64 a4, .int .i64 a5, .agg #[.int .i64 a6_0, .slice A6_1 l6_1.length c6_1]] w fun e w' => e = .returned (.bool r) ∧ Below w.heap.size w w' := by
  have hu24 := Try.underlying24
  have hu36 := Try.underlying36
  have HR0 := Aside0.mk hr0
  have HC0 := Aside0.mk hc0
  clear hr0 hc0
  have HR6_1 := Aside0.mk hr6_1
  have HC6_1 := Aside0.mk hc6_1
  clear hr6_1 hc6_1
  have HB := Aside0.mk (Below.refl w.heap.size w)
  have H : ((waybillref23_Own.f k l0).bind fun t302 => ((session_Open.f t302 a1_0 a1_1 a1_2 a2 a3 a5).bind fun bt305 => ((waybillref23_Open.f k l0 a1_0 a1_1 a1_2 a2 a3 a5).bind fun bt310 => ((session_Expire.f t302 a1_0 a1_1 a1_2 a2 a3).bind fun bt315 => ((waybillref23_Expire.f l0 a1_0 a1_1 a1_2 a2 a3).bind fun bt322 => ((session_Find.f t302 a1_0 a1_1 a1_2 a2 a3 a4 a5).bind fun bt329 => ((waybillref23_Find.f k l0 a1_0 a1_1 a1_2 a2 a3 a4 a5).bind fun bt331 => ((session_Touch.f t302 a1_0 a1_1 a1_2 a2 a3 a4 a6_0 l6_1).bind fun bt333 => ((waybillref23_Touch.f l0 a1_0 a1_1 a1_2 a2 a3 a4 a6_0 l6_1).bind fun bt337 => ((session_Of.f k t302 (([a5, a4] : List Int))).bind fun bt344 => ((waybillref23_Of.f k l0 (([a5, a4] : List Int))).bind fun bt351 => ((waybillref23_Same.f bt305.1 bt310.1).bind fun t355 => (if t355 = true then (if bt305.2.1 = bt310.2.1 then ((waybilllaw23_num.f bt305.2.2).bind fun t356 => (if t356 = bt310.2.2 then ((waybillref23_Same.f bt315.1 bt322.1).bind fun t357 => (if t357 = true then ((waybillplain_SameInts.f k bt315.2.1 bt322.2.1).bind fun t358 => (if t358 = true then ((waybilllaw23_num.f bt315.2.2).bind fun t359 => (if t359 = bt322.2.2 then (if bt329.1 = bt331.1 then ((waybilllaw23_num.f bt329.2).bind fun t360 => (if t360 = bt331.2 then ((waybillref23_Same.f bt333.1 bt337.1).bind fun t361 => (if t361 = true then ((waybilllaw23_num.f bt333.2).bind fun t362 => (waybilllaw23_SessionTells.j0 k l0 a2 a3 t302 bt344.1 bt344.2 bt351.1 bt351.2 (t362 != bt337.2) a1_0 a1_1 a1_2)) else (waybilllaw23_SessionTells.j0 k l0 a2 a3 t302 bt344.1 bt344.2 bt351.1 bt351.2 true a1_0 a1_1 a1_2))) else (waybilllaw23_SessionTells.j0 k l0 a2 a3 t302 bt344.1 bt344.2 bt351.1 bt351.2 true a1_0 a1_1 a1_2))) else (waybilllaw23_SessionTells.j0 k l0 a2 a3 t302 bt344.1 bt344.2 bt351.1 bt351.2 true a1_0 a1_1 a1_2)) else (waybilllaw23_SessionTells.j0 k l0 a2 a3 t302 bt344.1 bt344.2 bt351.1 bt351.2 true a1_0 a1_1 a1_2))) else (waybilllaw23_SessionTells.j0 k l0 a2 a3 t302 bt344.1 bt344.2 bt351.1 bt351.2 true a1_0 a1_1 a1_2))) else (waybilllaw23_SessionTells.j0 k l0 a2 a3 t302 bt344.1 bt344.2 bt351.1 bt351.2 true a1_0 a1_1 a1_2))) else (waybilllaw23_SessionTells.j0 k l0 a2 a3 t302 bt344.1 bt344.2 bt351.1 bt351.2 true a1_0 a1_1 a1_2))) else (waybilllaw23_SessionTells.j0 k l0 a2 a3 t302 bt344.1 bt344.2 bt351.1 bt351.2 true a1_0 a1_1 a1_2)) else (waybilllaw23_SessionTells.j0 k l0 a2 a3 t302 bt344.1 bt344.2 bt351.1 bt351.2 true a1_0 a1_1 a1_2)))))))))))))) = some r := h
  clear h
  replace H := Option.bind_eq_some_iff.mp H
  obtain ⟨t302, A80, H⟩ := H
  replace H : ((session_Open.f t302 a1_0 a1_1 a1_2 a2 a3 a5).bind fun bt305 => ((waybillref23_Open.f k l0 a1_0 a1_1 a1_2 a2 a3 a5).bind fun bt310 => ((session_Expire.f t302 a1_0 a1_1 a1_2 a2 a3).bind fun bt315 => ((waybillref23_Expire.f l0 a1_0 a1_1 a1_2 a2 a3).bind fun bt322 => ((session_Find.f t302 a1_0 a1_1 a1_2 a2 a3 a4 a5).bind fun bt329 => ((waybillref23_Find.f k l0 a1_0 a1_1 a1_2 a2 a3 a4 a5).bind fun bt331 => ((session_Touch.f t302 a1_0 a1_1 a1_2 a2 a3 a4 a6_0 l6_1).bind fun bt333 => ((waybillref23_Touch.f l0 a1_0 a1_1 a1_2 a2 a3 a4 a6_0 l6_1).bind fun bt337 => ((session_Of.f k t302 (([a5, a4] : List Int))).bind fun bt344 => ((waybillref23_Of.f k l0 (([a5, a4] : List Int))).bind fun bt351 => ((waybillref23_Same.f bt305.1 bt310.1).bind fun t355 => (if t355 = true then (if bt305.2.1 = bt310.2.1 then ((waybilllaw23_num.f bt305.2.2).bind fun t356 => (if t356 = bt310.2.2 then ((waybillref23_Same.f bt315.1 bt322.1).bind fun t357 => (if t357 = true then ((waybillplain_SameInts.f k bt315.2.1 bt322.2.1).bind fun t358 => (if t358 = true then ((waybilllaw23_num.f bt315.2.2).bind fun t359 => (if t359 = bt322.2.2 then (if bt329.1 = bt331.1 then ((waybilllaw23_num.f bt329.2).bind fun t360 => (if t360 = bt331.2 then ((waybillref23_Same.f bt333.1 bt337.1).bind fun t361 => (if t361 = true then ((waybilllaw23_num.f bt333.2).bind fun t362 => (waybilllaw23_SessionTells.j0 k l0 a2 a3 t302 bt344.1 bt344.2 bt351.1 bt351.2 (t362 != bt337.2) a1_0 a1_1 a1_2)) else (waybilllaw23_SessionTells.j0 k l0 a2 a3 t302 bt344.1 bt344.2 bt351.1 bt351.2 true a1_0 a1_1 a1_2))) else (waybilllaw23_SessionTells.j0 k l0 a2 a3 t302 bt344.1 bt344.2 bt351.1 bt351.2 true a1_0 a1_1 a1_2))) else (waybilllaw23_SessionTells.j0 k l0 a2 a3 t302 bt344.1 bt344.2 bt351.1 bt351.2 true a1_0 a1_1 a1_2)) else (waybilllaw23_SessionTells.j0 k l0 a2 a3 t302 bt344.1 bt344.2 bt351.1 bt351.2 true a1_0 a1_1 a1_2))) else (waybilllaw23_SessionTells.j0 k l0 a2 a3 t302 bt344.1 bt344.2 bt351.1 bt351.2 true a1_0 a1_1 a1_2))) else (waybilllaw23_SessionTells.j0 k l0 a2 a3 t302 bt344.1 bt344.2 bt351.1 bt351.2 true a1_0 a1_1 a1_2))) else (waybilllaw23_SessionTells.j0 k l0 a2 a3 t302 bt344.1 bt344.2 bt351.1 bt351.2 true a1_0 a1_1 a1_2))) else (waybilllaw23_SessionTells.j0 k l0 a2 a3 t302 bt344.1 bt344.2 bt351.1 bt351.2 true a1_0 a1_1 a1_2)) else (waybilllaw23_SessionTells.j0 k l0 a2 a3 t302 bt344.1 bt344.2 bt351.1 bt351.2 true a1_0 a1_1 a1_2))))))))))))) = some r := H
  have A8 := Aside0.mk A80
  clear A80
  replace H := Option.bind_eq_some_iff.mp H
  obtain ⟨⟨t305, t308, t309⟩, A90, H⟩ := H
  replace H : ((waybillref23_Open.f k l0 a1_0 a1_1 a1_2 a2 a3 a5).bind fun bt310 => ((session_Expire.f t302 a1_0 a1_1 a1_2 a2 a3).bind fun bt315 => ((waybillref23_Expire.f l0 a1_0 a1_1 a1_2 a2 a3).bind fun bt322 => ((session_Find.f t302 a1_0 a1_1 a1_2 a2 a3 a4 a5).bind fun bt329 => ((waybillref23_Find.f k l0 a1_0 a1_1 a1_2 a2 a3 a4 a5).bind fun bt331 => ((session_Touch.f t302 a1_0 a1_1 a1_2 a2 a3 a4 a6_0 l6_1).bind fun bt333 => ((waybillref23_Touch.f l0 a1_0 a1_1 a1_2 a2 a3 a4 a6_0 l6_1).bind fun bt337 => ((session_Of.f k t302 (([a5, a4] : List Int))).bind fun bt344 => ((waybillref23_Of.f k l0 (([a5, a4] : List Int))).bind fun bt351 => ((waybillref23_Same.f t305 bt310.1).bind fun t355 => (if t355 = true then (if t308 = bt310.2.1 then ((waybilllaw23_num.f t309).bind fun t356 => (if t356 = bt310.2.2 then ((waybillref23_Same.f bt315.1 bt322.1).bind fun t357 => (if t357 = true then ((waybillplain_SameInts.f k bt315.2.1 bt322.2.1).bind fun t358 => (if t358 = true then ((waybilllaw23_num.f bt315.2.2).bind fun t359 => (if t359 = bt322.2.2 then (if bt329.1 = bt331.1 then ((waybilllaw23_num.f bt329.2).bind fun t360 => (if t360 = bt331.2 then ((waybillref23_Same.f bt333.1 bt337.1).bind fun t361 => (if t361 = true then ((waybilllaw23_num.f bt333.2).bind fun t362 => (waybilllaw23_SessionTells.j0 k l0 a2 a3 t302 bt344.1 bt344.2 bt351.1 bt351.2 (t362 != bt337.2) a1_0 a1_1 a1_2)) else (waybilllaw23_SessionTells.j0 k l0 a2 a3 t302 bt344.1 bt344.2 bt351.1 bt351.2 true a1_0 a1_1 a1_2))) else (waybilllaw23_SessionTells.j0 k l0 a2 a3 t302 bt344.1 bt344.2 bt351.1 bt351.2 true a1_0 a1_1 a1_2))) else (waybilllaw23_SessionTells.j0 k l0 a2 a3 t302 bt344.1 bt344.2 bt351.1 bt351.2 true a1_0 a1_1 a1_2)) else (waybilllaw23_SessionTells.j0 k l0 a2 a3 t302 bt344.1 bt344.2 bt351.1 bt351.2 true a1_0 a1_1 a1_2))) else (waybilllaw23_SessionTells.j0 k l0 a2 a3 t302 bt344.1 bt344.2 bt351.1 bt351.2 true a1_0 a1_1 a1_2))) else (waybilllaw23_SessionTells.j0 k l0 a2 a3 t302 bt344.1 bt344.2 bt351.1 bt351.2 true a1_0 a1_1 a1_2))) else (waybilllaw23_SessionTells.j0 k l0 a2 a3 t302 bt344.1 bt344.2 bt351.1 bt351.2 true a1_0 a1_1 a1_2))) else (waybilllaw23_SessionTells.j0 k l0 a2 a3 t302 bt344.1 bt344.2 bt351.1 bt351.2 true a1_0 a1_1 a1_2)) else (waybilllaw23_SessionTells.j0 k l0 a2 a3 t302 bt344.1 bt344.2 bt351.1 bt351.2 true a1_0 a1_1 a1_2)))))))))))) = some r := H
  have A9 := Aside0.mk A90
  clear A90
  replace H := Option.bind_eq_some_iff.mp H
  obtain ⟨⟨t310, t313, t314⟩, A100, H⟩ := H
  replace H : ((session_Expire.f t302 a1_0 a1_1 a1_2 a2 a3).bind fun bt315 => ((waybillref23_Expire.f l0 a1_0 a1_1 a1_2 a2 a3).bind fun bt322 => ((session_Find.f t302 a1_0 a1_1 a1_2 a2 a3 a4 a5).bind fun bt329 => ((waybillref23_Find.f k l0 a1_0 a1_1 a1_2 a2 a3 a4 a5).bind fun bt331 => ((session_Touch.f t302 a1_0 a1_1 a1_2 a2 a3 a4 a6_0 l6_1).bind fun bt333 => ((waybillref23_Touch.f l0 a1_0 a1_1 a1_2 a2 a3 a4 a6_0 l6_1).bind fun bt337 => ((session_Of.f k t302 (([a5, a4] : List Int))).bind fun bt344 => ((waybillref23_Of.f k l0 (([a5, a4] : List Int))).bind fun bt351 => ((waybillref23_Same.f t305 t310).bind fun t355 => (if t355 = true then (if t308 = t313 then ((waybilllaw23_num.f t309).bind fun t356 => (if t356 = t314 then ((waybillref23_Same.f bt315.1 bt322.1).bind fun t357 => (if t357 = true then ((waybillplain_SameInts.f k bt315.2.1 bt322.2.1).bind fun t358 => (if t358 = true then ((waybilllaw23_num.f bt315.2.2).bind fun t359 => (if t359 = bt322.2.2 then (if bt329.1 = bt331.1 then ((waybilllaw23_num.f bt329.2).bind fun t360 => (if t360 = bt331.2 then ((waybillref23_Same.f bt333.1 bt337.1).bind fun t361 => (if t361 = true then ((waybilllaw23_num.f bt333.2).bind fun t362 => (waybilllaw23_SessionTells.j0 k l0 a2 a3 t302 bt344.1 bt344.2 bt351.1 bt351.2 (t362 != bt337.2) a1_0 a1_1 a1_2)) else (waybilllaw23_SessionTells.j0 k l0 a2 a3 t302 bt344.1 bt344.2 bt351.1 bt351.2 true a1_0 a1_1 a1_2))) else (waybilllaw23_SessionTells.j0 k l0 a2 a3 t302 bt344.1 bt344.2 bt351.1 bt351.2 true a1_0 a1_1 a1_2))) else (waybilllaw23_SessionTells.j0 k l0 a2 a3 t302 bt344.1 bt344.2 bt351.1 bt351.2 true a1_0 a1_1 a1_2)) else (waybilllaw23_SessionTells.j0 k l0 a2 a3 t302 bt344.1 bt344.2 bt351.1 bt351.2 true a1_0 a1_1 a1_2))) else (waybilllaw23_SessionTells.j0 k l0 a2 a3 t302 bt344.1 bt344.2 bt351.1 bt351.2 true a1_0 a1_1 a1_2))) else (waybilllaw23_SessionTells.j0 k l0 a2 a3 t302 bt344.1 bt344.2 bt351.1 bt351.2 true a1_0 a1_1 a1_2))) else (waybilllaw23_SessionTells.j0 k l0 a2 a3 t302 bt344.1 bt344.2 bt351.1 bt351.2 true a1_0 a1_1 a1_2))) else (waybilllaw23_SessionTells.j0 k l0 a2 a3 t302 bt344.1 bt344.2 bt351.1 bt351.2 true a1_0 a1_1 a1_2)) else (waybilllaw23_SessionTells.j0 k l0 a2 a3 t302 bt344.1 bt344.2 bt351.1 bt351.2 true a1_0 a1_1 a1_2))))))))))) = some r := H
  have A10 := Aside0.mk A100
  clear A100
  replace H := Option.bind_eq_some_iff.mp H
  obtain ⟨⟨t315, t318, t321⟩, A110, H⟩ := H
  replace H : ((waybillref23_Expire.f l0 a1_0 a1_1 a1_2 a2 a3).bind fun bt322 => ((session_Find.f t302 a1_0 a1_1 a1_2 a2 a3 a4 a5).bind fun bt329 => ((waybillref23_Find.f k l0 a1_0 a1_1 a1_2 a2 a3 a4 a5).bind fun bt331 => ((session_Touch.f t302 a1_0 a1_1 a1_2 a2 a3 a4 a6_0 l6_1).bind fun bt333 => ((waybillref23_Touch.f l0 a1_0 a1_1 a1_2 a2 a3 a4 a6_0 l6_1).bind fun bt337 => ((session_Of.f k t302 (([a5, a4] : List Int))).bind fun bt344 => ((waybillref23_Of.f k l0 (([a5, a4] : List Int))).bind fun bt351 => ((waybillref23_Same.f t305 t310).bind fun t355 => (if t355 = true then (if t308 = t313 then ((waybilllaw23_num.f t309).bind fun t356 => (if t356 = t314 then ((waybillref23_Same.f t315 bt322.1).bind fun t357 => (if t357 = true then ((waybillplain_SameInts.f k t318 bt322.2.1).bind fun t358 => (if t358 = true then ((waybilllaw23_num.f t321).bind fun t359 => (if t359 = bt322.2.2 then (if bt329.1 = bt331.1 then ((waybilllaw23_num.f bt329.2).bind fun t360 => (if t360 = bt331.2 then ((waybillref23_Same.f bt333.1 bt337.1).bind fun t361 => (if t361 = true then ((waybilllaw23_num.f bt333.2).bind fun t362 => (waybilllaw23_SessionTells.j0 k l0 a2 a3 t302 bt344.1 bt344.2 bt351.1 bt351.2 (t362 != bt337.2) a1_0 a1_1 a1_2)) else (waybilllaw23_SessionTells.j0 k l0 a2 a3 t302 bt344.1 bt344.2 bt351.1 bt351.2 true a1_0 a1_1 a1_2))) else (waybilllaw23_SessionTells.j0 k l0 a2 a3 t302 bt344.1 bt344.2 bt351.1 bt351.2 true a1_0 a1_1 a1_2))) else (waybilllaw23_SessionTells.j0 k l0 a2 a3 t302 bt344.1 bt344.2 bt351.1 bt351.2 true a1_0 a1_1 a1_2)) else (waybilllaw23_SessionTells.j0 k l0 a2 a3 t302 bt344.1 bt344.2 bt351.1 bt351.2 true a1_0 a1_1 a1_2))) else (waybilllaw23_SessionTells.j0 k l0 a2 a3 t302 bt344.1 bt344.2 bt351.1 bt351.2 true a1_0 a1_1 a1_2))) else (waybilllaw23_SessionTells.j0 k l0 a2 a3 t302 bt344.1 bt344.2 bt351.1 bt351.2 true a1_0 a1_1 a1_2))) else (waybilllaw23_SessionTells.j0 k l0 a2 a3 t302 bt344.1 bt344.2 bt351.1 bt351.2 true a1_0 a1_1 a1_2))) else (waybilllaw23_SessionTells.j0 k l0 a2 a3 t302 bt344.1 bt344.2 bt351.1 bt351.2 true a1_0 a1_1 a1_2)) else (waybilllaw23_SessionTells.j0 k l0 a2 a3 t302 bt344.1 bt344.2 bt351.1 bt351.2 true a1_0 a1_1 a1_2)))))))))) = some r := H
  have A11 := Aside0.mk A110
  clear A110
  replace H := Option.bind_eq_some_iff.mp H
  obtain ⟨⟨t322, t325, t328⟩, A120, H⟩ := H
  replace H : ((session_Find.f t302 a1_0 a1_1 a1_2 a2 a3 a4 a5).bind fun bt329 => ((waybillref23_Find.f k l0 a1_0 a1_1 a1_2 a2 a3 a4 a5).bind fun bt331 => ((session_Touch.f t302 a1_0 a1_1 a1_2 a2 a3 a4 a6_0 l6_1).bind fun bt333 => ((waybillref23_Touch.f l0 a1_0 a1_1 a1_2 a2 a3 a4 a6_0 l6_1).bind fun bt337 => ((session_Of.f k t302 (([a5, a4] : List Int))).bind fun bt344 => ((waybillref23_Of.f k l0 (([a5, a4] : List Int))).bind fun bt351 => ((waybillref23_Same.f t305 t310).bind fun t355 => (if t355 = true then (if t308 = t313 then ((waybilllaw23_num.f t309).bind fun t356 => (if t356 = t314 then ((waybillref23_Same.f t315 t322).bind fun t357 => (if t357 = true then ((waybillplain_SameInts.f k t318 t325).bind fun t358 => (if t358 = true then ((waybilllaw23_num.f t321).bind fun t359 => (if t359 = t328 then (if bt329.1 = bt331.1 then ((waybilllaw23_num.f bt329.2).bind fun t360 => (if t360 = bt331.2 then ((waybillref23_Same.f bt333.1 bt337.1).bind fun t361 => (if t361 = true then ((waybilllaw23_num.f bt333.2).bind fun t362 => (waybilllaw23_SessionTells.j0 k l0 a2 a3 t302 bt344.1 bt344.2 bt351.1 bt351.2 (t362 != bt337.2) a1_0 a1_1 a1_2)) else (waybilllaw23_SessionTells.j0 k l0 a2 a3 t302 bt344.1 bt344.2 bt351.1 bt351.2 true a1_0 a1_1 a1_2))) else (waybilllaw23_SessionTells.j0 k l0 a2 a3 t302 bt344.1 bt344.2 bt351.1 bt351.2 true a1_0 a1_1 a1_2))) else (waybilllaw23_SessionTells.j0 k l0 a2 a3 t302 bt344.1 bt344.2 bt351.1 bt351.2 true a1_0 a1_1 a1_2)) else (waybilllaw23_SessionTells.j0 k l0 a2 a3 t302 bt344.1 bt344.2 bt351.1 bt351.2 true a1_0 a1_1 a1_2))) else (waybilllaw23_SessionTells.j0 k l0 a2 a3 t302 bt344.1 bt344.2 bt351.1 bt351.2 true a1_0 a1_1 a1_2))) else (waybilllaw23_SessionTells.j0 k l0 a2 a3 t302 bt344.1 bt344.2 bt351.1 bt351.2 true a1_0 a1_1 a1_2))) else (waybilllaw23_SessionTells.j0 k l0 a2 a3 t302 bt344.1 bt344.2 bt351.1 bt351.2 true a1_0 a1_1 a1_2))) else (waybilllaw23_SessionTells.j0 k l0 a2 a3 t302 bt344.1 bt344.2 bt351.1 bt351.2 true a1_0 a1_1 a1_2)) else (waybilllaw23_SessionTells.j0 k l0 a2 a3 t302 bt344.1 bt344.2 bt351.1 bt351.2 true a1_0 a1_1 a1_2))))))))) = some r := H
  have A12 := Aside0.mk A120
  clear A120
  replace H := Option.bind_eq_some_iff.mp H
  obtain ⟨⟨t329, t330⟩, A130, H⟩ := H
  replace H : ((waybillref23_Find.f k l0 a1_0 a1_1 a1_2 a2 a3 a4 a5).bind fun bt331 => ((session_Touch.f t302 a1_0 a1_1 a1_2 a2 a3 a4 a6_0 l6_1).bind fun bt333 => ((waybillref23_Touch.f l0 a1_0 a1_1 a1_2 a2 a3 a4 a6_0 l6_1).bind fun bt337 => ((session_Of.f k t302 (([a5, a4] : List Int))).bind fun bt344 => ((waybillref23_Of.f k l0 (([a5, a4] : List Int))).bind fun bt351 => ((waybillref23_Same.f t305 t310).bind fun t355 => (if t355 = true then (if t308 = t313 then ((waybilllaw23_num.f t309).bind fun t356 => (if t356 = t314 then ((waybillref23_Same.f t315 t322).bind fun t357 => (if t357 = true then ((waybillplain_SameInts.f k t318 t325).bind fun t358 => (if t358 = true then ((waybilllaw23_num.f t321).bind fun t359 => (if t359 = t328 then (if t329 = bt331.1 then ((waybilllaw23_num.f t330).bind fun t360 => (if t360 = bt331.2 then ((waybillref23_Same.f bt333.1 bt337.1).bind fun t361 => (if t361 = true then ((waybilllaw23_num.f bt333.2).bind fun t362 => (waybilllaw23_SessionTells.j0 k l0 a2 a3 t302 bt344.1 bt344.2 bt351.1 bt351.2 (t362 != bt337.2) a1_0 a1_1 a1_2)) else (waybilllaw23_SessionTells.j0 k l0 a2 a3 t302 bt344.1 bt344.2 bt351.1 bt351.2 true a1_0 a1_1 a1_2))) else (waybilllaw23_SessionTells.j0 k l0 a2 a3 t302 bt344.1 bt344.2 bt351.1 bt351.2 true a1_0 a1_1 a1_2))) else (waybilllaw23_SessionTells.j0 k l0 a2 a3 t302 bt344.1 bt344.2 bt351.1 bt351.2 true a1_0 a1_1 a1_2)) else (waybilllaw23_SessionTells.j0 k l0 a2 a3 t302 bt344.1 bt344.2 bt351.1 bt351.2 true a1_0 a1_1 a1_2))) else (waybilllaw23_SessionTells.j0 k l0 a2 a3 t302 bt344.1 bt344.2 bt351.1 bt351.2 true a1_0 a1_1 a1_2))) else (waybilllaw23_SessionTells.j0 k l0 a2 a3 t302 bt344.1 bt344.2 bt351.1 bt351.2 true a1_0 a1_1 a1_2))) else (waybilllaw23_SessionTells.j0 k l0 a2 a3 t302 bt344.1 bt344.2 bt351.1 bt351.2 true a1_0 a1_1 a1_2))) else (waybilllaw23_SessionTells.j0 k l0 a2 a3 t302 bt344.1 bt344.2 bt351.1 bt351.2 true a1_0 a1_1 a1_2)) else (waybilllaw23_SessionTells.j0 k l0 a2 a3 t302 bt344.1 bt344.2 bt351.1 bt351.2 true a1_0 a1_1 a1_2)))))))) = some r := H
  have A13 := Aside0.mk A130
  clear A130
  replace H := Option.bind_eq_some_iff.mp H
  obtain ⟨⟨t331, t332⟩, A140, H⟩ := H
  replace H : ((session_Touch.f t302 a1_0 a1_1 a1_2 a2 a3 a4 a6_0 l6_1).bind fun bt333 => ((waybillref23_Touch.f l0 a1_0 a1_1 a1_2 a2 a3 a4 a6_0 l6_1).bind fun bt337 => ((session_Of.f k t302 (([a5, a4] : List Int))).bind fun bt344 => ((waybillref23_Of.f k l0 (([a5, a4] : List Int))).bind fun bt351 => ((waybillref23_Same.f t305 t310).bind fun t355 => (if t355 = true then (if t308 = t313 then ((waybilllaw23_num.f t309).bind fun t356 => (if t356 = t314 then ((waybillref23_Same.f t315 t322).bind fun t357 => (if t357 = true then ((waybillplain_SameInts.f k t318 t325).bind fun t358 => (if t358 = true then ((waybilllaw23_num.f t321).bind fun t359 => (if t359 = t328 then (if t329 = t331 then ((waybilllaw23_num.f t330).bind fun t360 => (if t360 = t332 then ((waybillref23_Same.f bt333.1 bt337.1).bind fun t361 => (if t361 = true then ((waybilllaw23_num.f bt333.2).bind fun t362 => (waybilllaw23_SessionTells.j0 k l0 a2 a3 t302 bt344.1 bt344.2 bt351.1 bt351.2 (t362 != bt337.2) a1_0 a1_1 a1_2)) else (waybilllaw23_SessionTells.j0 k l0 a2 a3 t302 bt344.1 bt344.2 bt351.1 bt351.2 true a1_0 a1_1 a1_2))) else (waybilllaw23_SessionTells.j0 k l0 a2 a3 t302 bt344.1 bt344.2 bt351.1 bt351.2 true a1_0 a1_1 a1_2))) else (waybilllaw23_SessionTells.j0 k l0 a2 a3 t302 bt344.1 bt344.2 bt351.1 bt351.2 true a1_0 a1_1 a1_2)) else (waybilllaw23_SessionTells.j0 k l0 a2 a3 t302 bt344.1 bt344.2 bt351.1 bt351.2 true a1_0 a1_1 a1_2))) else (waybilllaw23_SessionTells.j0 k l0 a2 a3 t302 bt344.1 bt344.2 bt351.1 bt351.2 true a1_0 a1_1 a1_2))) else (waybilllaw23_SessionTells.j0 k l0 a2 a3 t302 bt344.1 bt344.2 bt351.1 bt351.2 true a1_0 a1_1 a1_2))) else (waybilllaw23_SessionTells.j0 k l0 a2 a3 t302 bt344.1 bt344.2 bt351.1 bt351.2 true a1_0 a1_1 a1_2))) else (waybilllaw23_SessionTells.j0 k l0 a2 a3 t302 bt344.1 bt344.2 bt351.1 bt351.2 true a1_0 a1_1 a1_2)) else (waybilllaw23_SessionTells.j0 k l0 a2 a3 t302 bt344.1 bt344.2 bt351.1 bt351.2 true a1_0 a1_1 a1_2))))))) = some r := H
  have A14 := Aside0.mk A140
  clear A140
  replace H := Option.bind_eq_some_iff.mp H
  obtain ⟨⟨t333, t336⟩, A150, H⟩ := H
  replace H : ((waybillref23_Touch.f l0 a1_0 a1_1 a1_2 a2 a3 a4 a6_0 l6_1).bind fun bt337 => ((session_Of.f k t302 (([a5, a4] : List Int))).bind fun bt344 => ((waybillref23_Of.f k l0 (([a5, a4] : List Int))).bind fun bt351 => ((waybillref23_Same.f t305 t310).bind fun t355 => (if t355 = true then (if t308 = t313 then ((waybilllaw23_num.f t309).bind fun t356 => (if t356 = t314 then ((waybillref23_Same.f t315 t322).bind fun t357 => (if t357 = true then ((waybillplain_SameInts.f k t318 t325).bind fun t358 => (if t358 = true then ((waybilllaw23_num.f t321).bind fun t359 => (if t359 = t328 then (if t329 = t331 then ((waybilllaw23_num.f t330).bind fun t360 => (if t360 = t332 then ((waybillref23_Same.f t333 bt337.1).bind fun t361 => (if t361 = true then ((waybilllaw23_num.f t336).bind fun t362 => (waybilllaw23_SessionTells.j0 k l0 a2 a3 t302 bt344.1 bt344.2 bt351.1 bt351.2 (t362 != bt337.2) a1_0 a1_1 a1_2)) else (waybilllaw23_SessionTells.j0 k l0 a2 a3 t302 bt344.1 bt344.2 bt351.1 bt351.2 true a1_0 a1_1 a1_2))) else (waybilllaw23_SessionTells.j0 k l0 a2 a3 t302 bt344.1 bt344.2 bt351.1 bt351.2 true a1_0 a1_1 a1_2))) else (waybilllaw23_SessionTells.j0 k l0 a2 a3 t302 bt344.1 bt344.2 bt351.1 bt351.2 true a1_0 a1_1 a1_2)) else (waybilllaw23_SessionTells.j0 k l0 a2 a3 t302 bt344.1 bt344.2 bt351.1 bt351.2 true a1_0 a1_1 a1_2))) else (waybilllaw23_SessionTells.j0 k l0 a2 a3 t302 bt344.1 bt344.2 bt351.1 bt351.2 true a1_0 a1_1 a1_2))) else (waybilllaw23_SessionTells.j0 k l0 a2 a3 t302 bt344.1 bt344.2 bt351.1 bt351.2 true a1_0 a1_1 a1_2))) else (waybilllaw23_SessionTells.j0 k l0 a2 a3 t302 bt344.1 bt344.2 bt351.1 bt351.2 true a1_0 a1_1 a1_2))) else (waybilllaw23_SessionTells.j0 k l0 a2 a3 t302 bt344.1 bt344.2 bt351.1 bt351.2 true a1_0 a1_1 a1_2)) else (waybilllaw23_SessionTells.j0 k l0 a2 a3 t302 bt344.1 bt344.2 bt351.1 bt351.2 true a1_0 a1_1 a1_2)))))) = some r := H
  have A15 := Aside0.mk A150
  clear A150
  replace H := Option.bind_eq_some_iff.mp H
  obtain ⟨⟨t337, t340⟩, A160, H⟩ := H
  replace H : ((session_Of.f k t302 (([a5, a4] : List Int))).bind fun bt344 => ((waybillref23_Of.f k l0 (([a5, a4] : List Int))).bind fun bt351 => ((waybillref23_Same.f t305 t310).bind fun t355 => (if t355 = true then (if t308 = t313 then ((waybilllaw23_num.f t309).bind fun t356 => (if t356 = t314 then ((waybillref23_Same.f t315 t322).bind fun t357 => (if t357 = true then ((waybillplain_SameInts.f k t318 t325).bind fun t358 => (if t358 = true then ((waybilllaw23_num.f t321).bind fun t359 => (if t359 = t328 then (if t329 = t331 then ((waybilllaw23_num.f t330).bind fun t360 => (if t360 = t332 then ((waybillref23_Same.f t333 t337).bind fun t361 => (if t361 = true then ((waybilllaw23_num.f t336).bind fun t362 => (waybilllaw23_SessionTells.j0 k l0 a2 a3 t302 bt344.1 bt344.2 bt351.1 bt351.2 (t362 != t340) a1_0 a1_1 a1_2)) else (waybilllaw23_SessionTells.j0 k l0 a2 a3 t302 bt344.1 bt344.2 bt351.1 bt351.2 true a1_0 a1_1 a1_2))) else (waybilllaw23_SessionTells.j0 k l0 a2 a3 t302 bt344.1 bt344.2 bt351.1 bt351.2 true a1_0 a1_1 a1_2))) else (waybilllaw23_SessionTells.j0 k l0 a2 a3 t302 bt344.1 bt344.2 bt351.1 bt351.2 true a1_0 a1_1 a1_2)) else (waybilllaw23_SessionTells.j0 k l0 a2 a3 t302 bt344.1 bt344.2 bt351.1 bt351.2 true a1_0 a1_1 a1_2))) else (waybilllaw23_SessionTells.j0 k l0 a2 a3 t302 bt344.1 bt344.2 bt351.1 bt351.2 true a1_0 a1_1 a1_2))) else (waybilllaw23_SessionTells.j0 k l0 a2 a3 t302 bt344.1 bt344.2 bt351.1 bt351.2 true a1_0 a1_1 a1_2))) else (waybilllaw23_SessionTells.j0 k l0 a2 a3 t302 bt344.1 bt344.2 bt351.1 bt351.2 true a1_0 a1_1 a1_2))) else (waybilllaw23_SessionTells.j0 k l0 a2 a3 t302 bt344.1 bt344.2 bt351.1 bt351.2 true a1_0 a1_1 a1_2)) else (waybilllaw23_SessionTells.j0 k l0 a2 a3 t302 bt344.1 bt344.2 bt351.1 bt351.2 true a1_0 a1_1 a1_2))))) = some r := H
  have A16 := Aside0.mk A160
  clear A160
  obtain ⟨y341, hy341⟩ : ∃ y_ : List Int, y_ = (([a5, a4] : List Int)) := ⟨_, rfl⟩
  replace H : ((session_Of.f k t302 y341).bind fun bt344 => ((waybillref23_Of.f k l0 (([a5, a4] : List Int))).bind fun bt351 => ((waybillref23_Same.f t305 t310).bind fun t355 => (if t355 = true then (if t308 = t313 then ((waybilllaw23_num.f t309).bind fun t356 => (if t356 = t314 then ((waybillref23_Same.f t315 t322).bind fun t357 => (if t357 = true then ((waybillplain_SameInts.f k t318 t325).bind fun t358 => (if t358 = true then ((waybilllaw23_num.f t321).bind fun t359 => (if t359 = t328 then (if t329 = t331 then ((waybilllaw23_num.f t330).bind fun t360 => (if t360 = t332 then ((waybillref23_Same.f t333 t337).bind fun t361 => (if t361 = true then ((waybilllaw23_num.f t336).bind fun t362 => (waybilllaw23_SessionTells.j0 k l0 a2 a3 t302 bt344.1 bt344.2 bt351.1 bt351.2 (t362 != t340) a1_0 a1_1 a1_2)) else (waybilllaw23_SessionTells.j0 k l0 a2 a3 t302 bt344.1 bt344.2 bt351.1 bt351.2 true a1_0 a1_1 a1_2))) else (waybilllaw23_SessionTells.j0 k l0 a2 a3 t302 bt344.1 bt344.2 bt351.1 bt351.2 true a1_0 a1_1 a1_2))) else (waybilllaw23_SessionTells.j0 k l0 a2 a3 t302 bt344.1 bt344.2 bt351.1 bt351.2 true a1_0 a1_1 a1_2)) else (waybilllaw23_SessionTells.j0 k l0 a2 a3 t302 bt344.1 bt344.2 bt351.1 bt351.2 true a1_0 a1_1 a1_2))) else (waybilllaw23_SessionTells.j0 k l0 a2 a3 t302 bt344.1 bt344.2 bt351.1 bt351.2 true a1_0 a1_1 a1_2))) else (waybilllaw23_SessionTells.j0 k l0 a2 a3 t302 bt344.1 bt344.2 bt351.1 bt351.2 true a1_0 a1_1 a1_2))) else (waybilllaw23_SessionTells.j0 k l0 a2 a3 t302 bt344.1 bt344.2 bt351.1 bt351.2 true a1_0 a1_1 a1_2))) else (waybilllaw23_SessionTells.j0 k l0 a2 a3 t302 bt344.1 bt344.2 bt351.1 bt351.2 true a1_0 a1_1 a1_2)) else (waybilllaw23_SessionTells.j0 k l0 a2 a3 t302 bt344.1 bt344.2 bt351.1 bt351.2 true a1_0 a1_1 a1_2))))) = some r := by first | (rw [hy341]; with_reducible exact H) | (have H2_ := (Option.bind_some _ _).symm.trans H; rw [hy341]; with_reducible exact H2_) | (have H2_ := (Option.bind_some _ _).symm.trans H; with_reducible exact H2_) | with_reducible exact H | (rw [hy341]; exact H) | exact H
  have Ny341 := Aside0.mk hy341
  clear hy341
  replace H := Option.bind_eq_some_iff.mp H
  obtain ⟨⟨t344, t345⟩, A170, H⟩ := H
  replace H : ((waybillref23_Of.f k l0 (([a5, a4] : List Int))).bind fun bt351 => ((waybillref23_Same.f t305 t310).bind fun t355 => (if t355 = true then (if t308 = t313 then ((waybilllaw23_num.f t309).bind fun t356 => (if t356 = t314 then ((waybillref23_Same.f t315 t322).bind fun t357 => (if t357 = true then ((waybillplain_SameInts.f k t318 t325).bind fun t358 => (if t358 = true then ((waybilllaw23_num.f t321).bind fun t359 => (if t359 = t328 then (if t329 = t331 then ((waybilllaw23_num.f t330).bind fun t360 => (if t360 = t332 then ((waybillref23_Same.f t333 t337).bind fun t361 => (if t361 = true then ((waybilllaw23_num.f t336).bind fun t362 => (waybilllaw23_SessionTells.j0 k l0 a2 a3 t302 t344 t345 bt351.1 bt351.2 (t362 != t340) a1_0 a1_1 a1_2)) else (waybilllaw23_SessionTells.j0 k l0 a2 a3 t302 t344 t345 bt351.1 bt351.2 true a1_0 a1_1 a1_2))) else (waybilllaw23_SessionTells.j0 k l0 a2 a3 t302 t344 t345 bt351.1 bt351.2 true a1_0 a1_1 a1_2))) else (waybilllaw23_SessionTells.j0 k l0 a2 a3 t302 t344 t345 bt351.1 bt351.2 true a1_0 a1_1 a1_2)) else (waybilllaw23_SessionTells.j0 k l0 a2 a3 t302 t344 t345 bt351.1 bt351.2 true a1_0 a1_1 a1_2))) else (waybilllaw23_SessionTells.j0 k l0 a2 a3 t302 t344 t345 bt351.1 bt351.2 true a1_0 a1_1 a1_2))) else (waybilllaw23_SessionTells.j0 k l0 a2 a3 t302 t344 t345 bt351.1 bt351.2 true a1_0 a1_1 a1_2))) else (waybilllaw23_SessionTells.j0 k l0 a2 a3 t302 t344 t345 bt351.1 bt351.2 true a1_0 a1_1 a1_2))) else (waybilllaw23_SessionTells.j0 k l0 a2 a3 t302 t344 t345 bt351.1 bt351.2 true a1_0 a1_1 a1_2)) else (waybilllaw23_SessionTells.j0 k l0 a2 a3 t302 t344 t345 bt351.1 bt351.2 true a1_0 a1_1 a1_2)))) = some r := H
  have A17 := Aside0.mk A170
  clear A170
  obtain ⟨y348, hy348⟩ : ∃ y_ : List Int, y_ = (([a5, a4] : List Int)) := ⟨_, rfl⟩
  replace H : ((waybillref23_Of.f k l0 y348).bind fun bt351 => ((waybillref23_Same.f t305 t310).bind fun t355 => (if t355 = true then (if t308 = t313 then ((waybilllaw23_num.f t309).bind fun t356 => (if t356 = t314 then ((waybillref23_Same.f t315 t322).bind fun t357 => (if t357 = true then ((waybillplain_SameInts.f k t318 t325).bind fun t358 => (if t358 = true then ((waybilllaw23_num.f t321).bind fun t359 => (if t359 = t328 then (if t329 = t331 then ((waybilllaw23_num.f t330).bind fun t360 => (if t360 = t332 then ((waybillref23_Same.f t333 t337).bind fun t361 => (if t361 = true then ((waybilllaw23_num.f t336).bind fun t362 => (waybilllaw23_SessionTells.j0 k l0 a2 a3 t302 t344 t345 bt351.1 bt351.2 (t362 != t340) a1_0 a1_1 a1_2)) else (waybilllaw23_SessionTells.j0 k l0 a2 a3 t302 t344 t345 bt351.1 bt351.2 true a1_0 a1_1 a1_2))) else (waybilllaw23_SessionTells.j0 k l0 a2 a3 t302 t344 t345 bt351.1 bt351.2 true a1_0 a1_1 a1_2))) else (waybilllaw23_SessionTells.j0 k l0 a2 a3 t302 t344 t345 bt351.1 bt351.2 true a1_0 a1_1 a1_2)) else (waybilllaw23_SessionTells.j0 k l0 a2 a3 t302 t344 t345 bt351.1 bt351.2 true a1_0 a1_1 a1_2))) else (waybilllaw23_SessionTells.j0 k l0 a2 a3 t302 t344 t345 bt351.1 bt351.2 true a1_0 a1_1 a1_2))) else (waybilllaw23_SessionTells.j0 k l0 a2 a3 t302 t344 t345 bt351.1 bt351.2 true a1_0 a1_1 a1_2))) else (waybilllaw23_SessionTells.j0 k l0 a2 a3 t302 t344 t345 bt351.1 bt351.2 true a1_0 a1_1 a1_2))) else (waybilllaw23_SessionTells.j0 k l0 a2 a3 t302 t344 t345 bt351.1 bt351.2 true a1_0 a1_1 a1_2)) else (waybilllaw23_SessionTells.j0 k l0 a2 a3 t302 t344 t345 bt351.1 bt351.2 true a1_0 a1_1 a1_2)))) = some r := by first | (rw [hy348]; with_reducible exact H) | (have H2_ := (Option.bind_some _ _).symm.trans H; rw [hy348]; with_reducible exact H2_) | (have H2_ := (Option.bind_some _ _).symm.trans H; with_reducible exact H2_) | with_reducible exact H | (rw [hy348]; exact H) | exact H
  have Ny348 := Aside0.mk hy348
  clear hy348
  replace H := Option.bind_eq_some_iff.mp H
  obtain ⟨⟨t351, t352⟩, A180, H⟩ := H
  replace H : ((waybillref23_Same.f t305 t310).bind fun t355 => (if t355 = true then (if t308 = t313 then ((waybilllaw23_num.f t309).bind fun t356 => (if t356 = t314 then ((waybillref23_Same.f t315 t322).bind fun t357 => (if t357 = true then ((waybillplain_SameInts.f k t318 t325).bind fun t358 => (if t358 = true then ((waybilllaw23_num.f t321).bind fun t359 => (if t359 = t328 then (if t329 = t331 then ((waybilllaw23_num.f t330).bind fun t360 => (if t360 = t332 then ((waybillref23_Same.f t333 t337).bind fun t361 => (if t361 = true then ((waybilllaw23_num.f t336).bind fun t362 => (waybilllaw23_SessionTells.j0 k l0 a2 a3 t302 t344 t345 t351 t352 (t362 != t340) a1_0 a1_1 a1_2)) else (waybilllaw23_SessionTells.j0 k l0 a2 a3 t302 t344 t345 t351 t352 true a1_0 a1_1 a1_2))) else (waybilllaw23_SessionTells.j0 k l0 a2 a3 t302 t344 t345 t351 t352 true a1_0 a1_1 a1_2))) else (waybilllaw23_SessionTells.j0 k l0 a2 a3 t302 t344 t345 t351 t352 true a1_0 a1_1 a1_2)) else (waybilllaw23_SessionTells.j0 k l0 a2 a3 t302 t344 t345 t351 t352 true a1_0 a1_1 a1_2))) else (waybilllaw23_SessionTells.j0 k l0 a2 a3 t302 t344 t345 t351 t352 true a1_0 a1_1 a1_2))) else (waybilllaw23_SessionTells.j0 k l0 a2 a3 t302 t344 t345 t351 t352 true a1_0 a1_1 a1_2))) else (waybilllaw23_SessionTells.j0 k l0 a2 a3 t302 t344 t345 t351 t352 true a1_0 a1_1 a1_2))) else (waybilllaw23_SessionTells.j0 k l0 a2 a3 t302 t344 t345 t351 t352 true a1_0 a1_1 a1_2)) else (waybilllaw23_SessionTells.j0 k l0 a2 a3 t302 t344 t345 t351 t352 true a1_0 a1_1 a1_2))) = some r := H
  have A18 := Aside0.mk A180
  clear A180
  have HC19 := Aside0.mk H
  clear H
  go_enter Try.func8, Try.ntmps8
  go_upto_region 12 with (first | ((with_reducible refine gate_dst (N := 8) rfl ?_); refine box_event ?hg (N := 8) ?hd (cs := #[.int .i64 a1_0, .int .i64 a1_1, .int .i64 a1_2]) (t := 24) ?hr ?_; (case hd => rfl); (case hg => rfl); (case hr => first | (go_simp; done) | (go_simp; rfl)); intro gb300 hg w20 hbox hb; have n0_ := Aside0.mk (below_step (by repeat (first | (with_reducible first | exact HB.out | apply below_alloc | apply pw_below_drewN | apply below_drew1) | exact HB.out)) hb); have n1_ := Aside0.mk (hbox); have n2_ := Aside0.mk ((by rw [hg]; exact (below_size (by repeat (first | (with_reducible first | exact HB.out | apply below_alloc | apply pw_below_drewN | apply below_drew1) | exact HB.out))) : w.heap.size ≤ gb300)); have n3_ := Aside0.mk ((by rw [hg]; exact (below_size (by repeat (first | (with_reducible first | exact HB.out | apply below_alloc | apply pw_below_drewN | apply below_drew1) | exact HB.out))) : w.heap.size ≤ gb300)); clear HB; have HB := n0_; have BK300 := n1_; have GW300 := n2_; have GE300 := n3_; clear n0_ n1_ n2_ n3_; clear hb hbox hg) | ((with_reducible refine gate_dst (N := 13) rfl ?_); refine box_event ?hg (N := 13) ?hd (cs := #[.int .i64 a6_0, .slice A6_1 l6_1.length c6_1]) (t := 36) ?hr ?_; (case hd => rfl); (case hg => rfl); (case hr => first | (go_simp; done) | (go_simp; rfl)); intro gb301 hg w21 hbox hb; have n0_ := Aside0.mk (blk_below (g := gb300) (o := .cells #[.int .i64 a1_0, .int .i64 a1_1, .int .i64 a1_2] 24 (0, 0)) (by (with_reducible repeat (first | refine blk_drewN ?_ _ | refine blk_drew ?_ | refine blk_alloc ?_ _)); exact BK300.out) hb); have n1_ := Aside0.mk (below_step (by repeat (first | (with_reducible first | exact HB.out | apply below_alloc | apply pw_below_drewN | apply below_drew1 | refine below_set ?_ GE300.out) | exact HB.out)) hb); have n2_ := Aside0.mk (hbox); have n3_ := Aside0.mk ((by rw [hg]; exact (below_size (by repeat (first | (with_reducible first | exact HB.out | apply below_alloc | apply pw_below_drewN | apply below_drew1 | refine below_set ?_ GE300.out) | exact HB.out))) : w.heap.size ≤ gb301)); have n4_ := Aside0.mk ((by rw [hg]; exact (below_size (by repeat (first | (with_reducible first | exact HB.out | apply below_alloc | apply pw_below_drewN | apply below_drew1 | refine below_set ?_ GE300.out) | exact HB.out))) : w.heap.size ≤ gb301)); have n5_ := Aside0.mk ((by rw [hg]; exact Nat.ne_of_lt (blk_lt (g := gb300) (o := .cells #[.int .i64 a1_0, .int .i64 a1_1, .int .i64 a1_2] 24 (0, 0)) (by (with_reducible repeat (first | refine blk_drewN ?_ _ | refine blk_drew ?_ | refine blk_alloc ?_ _)); exact BK300.out)) : gb300 ≠ gb301)); have n6_ := Aside0.mk ((by rw [hg]; exact Nat.ne_of_gt (blk_lt (g := gb300) (o := .cells #[.int .i64 a1_0, .int .i64 a1_1, .int .i64 a1_2] 24 (0, 0)) (by (with_reducible repeat (first | refine blk_drewN ?_ _ | refine blk_drew ?_ | refine blk_alloc ?_ _)); exact BK300.out)) : gb301 ≠ gb300)); clear BK300; clear HB; have BK300 := n0_; have HB := n1_; have BK301 := n2_; have GW301 := n3_; have GE301 := n4_; have NB300_301 := n5_; have NB301_300 := n6_; clear n0_ n1_ n2_ n3_ n4_ n5_ n6_; clear hb hbox hg) | ((with_reducible refine gate_callee (f := 17) rfl ?_); refine goesL_ (some 41) rfl rfl Try.func17 (by kernel_rfl) rfl #[.slice A0 l0.length c0] rfl (by (try simp only [List.map_toArray, List.map_cons, List.map_nil]); first | done | rfl | (simp only [List.length_drop, List.length_take]; rfl)) ?_; (with_reducible refine (waybillref23_Own.calls k _ _ l0 t302 _ ?side1 ?side2 A8.out).mono ?_); (case side1 => repeat (first | exact (Kd.C_below HR0.out HB.out) | (with_reducible refine Kd.C_alloc ?_ _) | (with_reducible refine Kd.C_drewN ?_ _) | (with_reducible refine Kd.C_drew ?_))); (case side2 => exact HC0.out); rintro e w22 ⟨v303, rfl, ho0, hb⟩; refine ⟨_, rfl, ?_⟩; have n0_ := Aside0.mk (Kd.R_lower ho0 (below_size (by repeat (first | (with_reducible first | exact HB.out | apply below_alloc | apply pw_below_drewN | apply below_drew1 | refine below_set ?_ GE300.out | refine below_set ?_ GE301.out) | exact HB.out)))); have n1_ := Aside0.mk (blk_below (g := gb300) (o := .cells #[.int .i64 a1_0, .int .i64 a1_1, .int .i64 a1_2] 24 (0, 0)) (by (with_reducible repeat (first | refine blk_drewN ?_ _ | refine blk_drew ?_ | refine blk_alloc ?_ _)); exact BK300.out) hb); have n2_ := Aside0.mk (blk_below (g := gb301) (o := .cells #[.int .i64 a6_0, .slice A6_1 l6_1.length c6_1] 36 (0, 0)) (by (with_reducible repeat (first | refine blk_drewN ?_ _ | refine blk_drew ?_ | refine blk_alloc ?_ _)); exact BK301.out) hb); have n3_ := Aside0.mk (below_step (by repeat (first | (with_reducible first | exact HB.out | apply below_alloc | apply pw_below_drewN | apply below_drew1 | refine below_set ?_ GE300.out | refine below_set ?_ GE301.out) | exact HB.out)) hb); clear BK300; clear BK301; clear HB; have HO304 := n0_; have BK300 := n1_; have BK301 := n2_; have HB := n3_; clear n0_ n1_ n2_ n3_; (try clear hb); (try clear hb2); (try clear hk); (try clear hi); (try clear ho0); have hnb23 := NB300_301.out; have hnc23 := NB301_300.out; have hcz24_0 : w22.cell? ⟨gb300, 0, none⟩ = some (.int .i64 a1_0) := (blk_cell BK300.out 0).trans rfl; have hcz24_1 : w22.cell? ⟨gb300, 1, none⟩ = some (.int .i64 a1_1) := (blk_cell BK300.out 1).trans rfl; have hcz24_2 : w22.cell? ⟨gb300, 2, none⟩ = some (.int .i64 a1_2) := (blk_cell BK300.out 2).trans rfl; have hfz24_0 := blk_frozen BK300.out 0; have hfz24_1 := blk_frozen BK300.out 1; have hfz24_2 := blk_frozen BK300.out 2; obtain ⟨Ao25, co25, eo25⟩ := Kd.R_slice HO304.out; subst eo25) | ((with_reducible refine gate_callee (f := 10) rfl ?_); refine goesL_ (some 48) rfl rfl Try.func10 (by kernel_rfl) rfl #[.slice Ao25 t302.length co25, .agg #[.int .i64 a1_0, .int .i64 a1_1, .int .i64 a1_2], .int .i64 a2, .int .i64 a3, .int .i64 a5] rfl (by (try simp only [List.map_toArray, List.map_cons, List.map_nil]); first | done | rfl | (simp only [List.length_drop, List.length_take]; rfl)) ?_; (with_reducible refine (session_Open.calls _ _ t302 a1_0 a1_1 a1_2 a2 a3 a5 t305 t308 t309 _ ?side1 ?side2 A9.out).mono ?_); (case side1 => repeat (first | exact (Kd.R_reads' HO304.out).2.2 | (with_reducible refine Kd.C_alloc ?_ _) | (with_reducible refine Kd.C_drewN ?_ _) | (with_reducible refine Kd.C_drew ?_))); (case side2 => exact (Kd.R_reads' HO304.out).2.1); rintro e w26 ⟨v306, rfl, ho0, hb⟩; refine ⟨_, rfl, ?_⟩; have n0_ := Aside0.mk (Kd.R_elder' (by (with_reducible repeat (first | apply Kd.R_alloc | apply Kd.R_drewN | apply Kd.R_drew)); exact HO304.out) (Kd.R_base ho0) hb); have n1_ := Aside0.mk (Kd.R_lower (Kd.R_new' ho0 (Kd.R_lt (by (with_reducible repeat (first | apply Kd.R_alloc | apply Kd.R_drewN | apply Kd.R_drew)); exact HO304.out))) (below_size (by repeat (first | (with_reducible first | exact HB.out | apply below_alloc | apply pw_below_drewN | apply below_drew1 | refine below_set ?_ GE300.out | refine below_set ?_ GE301.out) | exact HB.out)))); have n2_ := Aside0.mk (blk_below (g := gb300) (o := .cells #[.int .i64 a1_0, .int .i64 a1_1, .int .i64 a1_2] 24 (0, 0)) (by (with_reducible repeat (first | refine blk_drewN ?_ _ | refine blk_drew ?_ | refine blk_alloc ?_ _)); exact BK300.out) hb); have n3_ := Aside0.mk (blk_below (g := gb301) (o := .cells #[.int .i64 a6_0, .slice A6_1 l6_1.length c6_1] 36 (0, 0)) (by (with_reducible repeat (first | refine blk_drewN ?_ _ | refine blk_drew ?_ | refine blk_alloc ?_ _)); exact BK301.out) hb); have n4_ := Aside0.mk (below_step (by repeat (first | (with_reducible first | exact HB.out | apply below_alloc | apply pw_below_drewN | apply below_drew1 | refine below_set ?_ GE300.out | refine below_set ?_ GE301.out) | exact HB.out)) hb); clear HO304; clear BK300; clear BK301; clear HB; have HO304 := n0_; have HO307 := n1_; have BK300 := n2_; have BK301 := n3_; have HB := n4_; clear n0_ n1_ n2_ n3_ n4_; (try clear hb); (try clear hb2); (try clear hk); (try clear hi); (try clear ho0); have hcz27_0 : w26.cell? ⟨gb300, 0, none⟩ = some (.int .i64 a1_0) := (blk_cell BK300.out 0).trans rfl; have hcz27_1 : w26.cell? ⟨gb300, 1, none⟩ = some (.int .i64 a1_1) := (blk_cell BK300.out 1).trans rfl; have hcz27_2 : w26.cell? ⟨gb300, 2, none⟩ = some (.int .i64 a1_2) := (blk_cell BK300.out 2).trans rfl; have hfz27_0 := blk_frozen BK300.out 0; have hfz27_1 := blk_frozen BK300.out 1; have hfz27_2 := blk_frozen BK300.out 2) | ((with_reducible refine gate_callee (f := 19) rfl ?_); refine goesL_ (some 58) rfl rfl Try.func19 (by kernel_rfl) rfl #[.slice A0 l0.length c0, .agg #[.int .i64 a1_0, .int .i64 a1_1, .int .i64 a1_2], .int .i64 a2, .int .i64 a3, .int .i64 a5] rfl (by (try simp only [List.map_toArray, List.map_cons, List.map_nil]); first | done | rfl | (simp only [List.length_drop, List.length_take]; rfl)) ?_; (with_reducible refine (waybillref23_Open.calls k _ _ l0 a1_0 a1_1 a1_2 a2 a3 a5 t310 t313 t314 _ ?side1 ?side2 A10.out).mono ?_); (case side1 => repeat (first | exact (Kd.C_below HR0.out HB.out) | (with_reducible refine Kd.C_alloc ?_ _) | (with_reducible refine Kd.C_drewN ?_ _) | (with_reducible refine Kd.C_drew ?_))); (case side2 => exact HC0.out); rintro e w28 ⟨v311, rfl, ho0, hb⟩; refine ⟨_, rfl, ?_⟩; have n0_ := Aside0.mk (Kd.R_elder' (by (with_reducible repeat (first | apply Kd.R_alloc | apply Kd.R_drewN | apply Kd.R_drew)); exact HO304.out) (Kd.R_base ho0) hb); have n1_ := Aside0.mk (Kd.R_elder' (by (with_reducible repeat (first | apply Kd.R_alloc | apply Kd.R_drewN | apply Kd.R_drew)); exact HO307.out) (Kd.R_base ho0) hb); have n2_ := Aside0.mk (Kd.R_lower (Kd.R_new' (Kd.R_new' ho0 (Kd.R_lt (by (with_reducible repeat (first | apply Kd.R_alloc | apply Kd.R_drewN | apply Kd.R_drew)); exact HO304.out))) (Kd.R_lt (by (with_reducible repeat (first | apply Kd.R_alloc | apply Kd.R_drewN | apply Kd.R_drew)); exact HO307.out))) (below_size (by repeat (first | (with_reducible first | exact HB.out | apply below_alloc | apply pw_below_drewN | apply below_drew1 | refine below_set ?_ GE300.out | refine below_set ?_ GE301.out) | exact HB.out)))); have n3_ := Aside0.mk (blk_below (g := gb300) (o := .cells #[.int .i64 a1_0, .int .i64 a1_1, .int .i64 a1_2] 24 (0, 0)) (by (with_reducible repeat (first | refine blk_drewN ?_ _ | refine blk_drew ?_ | refine blk_alloc ?_ _)); exact BK300.out) hb); have n4_ := Aside0.mk (blk_below (g := gb301) (o := .cells #[.int .i64 a6_0, .slice A6_1 l6_1.length c6_1] 36 (0, 0)) (by (with_reducible repeat (first | refine blk_drewN ?_ _ | refine blk_drew ?_ | refine blk_alloc ?_ _)); exact BK301.out) hb); have n5_ := Aside0.mk (below_step (by repeat (first | (with_reducible first | exact HB.out | apply below_alloc | apply pw_below_drewN | apply below_drew1 | refine below_set ?_ GE300.out | refine below_set ?_ GE301.out) | exact HB.out)) hb); clear HO304; clear HO307; clear BK300; clear BK301; clear HB; have HO304 := n0_; have HO307 := n1_; have HO312 := n2_; have BK300 := n3_; have BK301 := n4_; have HB := n5_; clear n0_ n1_ n2_ n3_ n4_ n5_; (try clear hb); (try clear hb2); (try clear hk); (try clear hi); (try clear ho0); have hcz29_0 : w28.cell? ⟨gb300, 0, none⟩ = some (.int .i64 a1_0) := (blk_cell BK300.out 0).trans rfl; have hcz29_1 : w28.cell? ⟨gb300, 1, none⟩ = some (.int .i64 a1_1) := (blk_cell BK300.out 1).trans rfl; have hcz29_2 : w28.cell? ⟨gb300, 2, none⟩ = some (.int .i64 a1_2) := (blk_cell BK300.out 2).trans rfl; have hfz29_0 := blk_frozen BK300.out 0; have hfz29_1 := blk_frozen BK300.out 1; have hfz29_2 := blk_frozen BK300.out 2) | ((with_reducible refine gate_callee (f := 14) rfl ?_); refine goesL_ (some 67) rfl rfl Try.func14 (by kernel_rfl) rfl #[.slice Ao25 t302.length co25, .agg #[.int .i64 a1_0, .int .i64 a1_1, .int .i64 a1_2], .int .i64 a2, .int .i64 a3] rfl (by (try simp only [List.map_toArray, List.map_cons, List.map_nil]); first | done | rfl | (simp only [List.length_drop, List.length_take]; rfl)) ?_; (with_reducible refine (session_Expire.calls _ _ t302 a1_0 a1_1 a1_2 a2 a3 t315 t318 t321 _ ?side1 ?side2 A11.out).mono ?_); (case side1 => repeat (first | exact (Kd.R_reads' HO304.out).2.2 | (with_reducible refine Kd.C_alloc ?_ _) | (with_reducible refine Kd.C_drewN ?_ _) | (with_reducible refine Kd.C_drew ?_))); (case side2 => exact (Kd.R_reads' HO304.out).2.1); rintro e w30 ⟨v316, v319, rfl, ho0, ho1, hb⟩; refine ⟨_, rfl, ?_⟩; have n0_ := Aside0.mk (Kd.R_elder' (by (with_reducible repeat (first | apply Kd.R_alloc | apply Kd.R_drewN | apply Kd.R_drew)); exact HO304.out) (Kd.R_base ho0) hb); have n1_ := Aside0.mk (Kd.R_elder' (by (with_reducible repeat (first | apply Kd.R_alloc | apply Kd.R_drewN | apply Kd.R_drew)); exact HO307.out) (Kd.R_base ho0) hb); have n2_ := Aside0.mk (Kd.R_elder' (by (with_reducible repeat (first | apply Kd.R_alloc | apply Kd.R_drewN | apply Kd.R_drew)); exact HO312.out) (Kd.R_base ho0) hb); have n3_ := Aside0.mk (Kd.R_lower (Kd.R_new' (Kd.R_new' (Kd.R_new' ho0 (Kd.R_lt (by (with_reducible repeat (first | apply Kd.R_alloc | apply Kd.R_drewN | apply Kd.R_drew)); exact HO304.out))) (Kd.R_lt (by (with_reducible repeat (first | apply Kd.R_alloc | apply Kd.R_drewN | apply Kd.R_drew)); exact HO307.out))) (Kd.R_lt (by (with_reducible repeat (first | apply Kd.R_alloc | apply Kd.R_drewN | apply Kd.R_drew)); exact HO312.out))) (below_size (by repeat (first | (with_reducible first | exact HB.out | apply below_alloc | apply pw_below_drewN | apply below_drew1 | refine below_set ?_ GE300.out | refine below_set ?_ GE301.out) | exact HB.out)))); have n4_ := Aside0.mk (Kd.R_lower ho1 (below_size (by repeat (first | (with_reducible first | exact HB.out | apply below_alloc | apply pw_below_drewN | apply below_drew1 | refine below_set ?_ GE300.out | refine below_set ?_ GE301.out) | exact HB.out)))); have n5_ := Aside0.mk (blk_below (g := gb300) (o := .cells #[.int .i64 a1_0, .int .i64 a1_1, .int .i64 a1_2] 24 (0, 0)) (by (with_reducible repeat (first | refine blk_drewN ?_ _ | refine blk_drew ?_ | refine blk_alloc ?_ _)); exact BK300.out) hb); have n6_ := Aside0.mk (blk_below (g := gb301) (o := .cells #[.int .i64 a6_0, .slice A6_1 l6_1.length c6_1] 36 (0, 0)) (by (with_reducible repeat (first | refine blk_drewN ?_ _ | refine blk_drew ?_ | refine blk_alloc ?_ _)); exact BK301.out) hb); have n7_ := Aside0.mk (below_step (by repeat (first | (with_reducible first | exact HB.out | apply below_alloc | apply pw_below_drewN | apply below_drew1 | refine below_set ?_ GE300.out | refine below_set ?_ GE301.out) | exact HB.out)) hb); clear HO304; clear HO307; clear HO312; clear BK300; clear BK301; clear HB; have HO304 := n0_; have HO307 := n1_; have HO312 := n2_; have HO317 := n3_; have HO320 := n4_; have BK300 := n5_; have BK301 := n6_; have HB := n7_; clear n0_ n1_ n2_ n3_ n4_ n5_ n6_ n7_; (try clear hb); (try clear hb2); (try clear hk); (try clear hi); (try clear ho0); (try clear ho1); have hcz31_0 : w30.cell? ⟨gb300, 0, none⟩ = some (.int .i64 a1_0) := (blk_cell BK300.out 0).trans rfl; have hcz31_1 : w30.cell? ⟨gb300, 1, none⟩ = some (.int .i64 a1_1) := (blk_cell BK300.out 1).trans rfl; have hcz31_2 : w30.cell? ⟨gb300, 2, none⟩ = some (.int .i64 a1_2) := (blk_cell BK300.out 2).trans rfl; have hfz31_0 := blk_frozen BK300.out 0; have hfz31_1 := blk_frozen BK300.out 1; have hfz31_2 := blk_frozen BK300.out 2) | ((with_reducible refine gate_callee (f := 20) rfl ?_); refine goesL_ (some 76) rfl rfl Try.func20 (by kernel_rfl) rfl #[.slice A0 l0.length c0, .agg #[.int .i64 a1_0, .int .i64 a1_1, .int .i64 a1_2], .int .i64 a2, .int .i64 a3] rfl (by (try simp only [List.map_toArray, List.map_cons, List.map_nil]); first | done | rfl | (simp only [List.length_drop, List.length_take]; rfl)) ?_; (with_reducible refine (waybillref23_Expire.calls _ _ l0 a1_0 a1_1 a1_2 a2 a3 t322 t325 t328 _ ?side1 ?side2 A12.out).mono ?_); (case side1 => repeat (first | exact (Kd.C_below HR0.out HB.out) | (with_reducible refine Kd.C_alloc ?_ _) | (with_reducible refine Kd.C_drewN ?_ _) | (with_reducible refine Kd.C_drew ?_))); (case side2 => exact HC0.out); rintro e w32 ⟨v323, v326, rfl, ho0, ho1, hb⟩; refine ⟨_, rfl, ?_⟩; have n0_ := Aside0.mk (Kd.R_elder' (by (with_reducible repeat (first | apply Kd.R_alloc | apply Kd.R_drewN | apply Kd.R_drew)); exact HO304.out) (Kd.R_base ho0) hb); have n1_ := Aside0.mk (Kd.R_elder' (by (with_reducible repeat (first | apply Kd.R_alloc | apply Kd.R_drewN | apply Kd.R_drew)); exact HO307.out) (Kd.R_base ho0) hb); have n2_ := Aside0.mk (Kd.R_elder' (by (with_reducible repeat (first | apply Kd.R_alloc | apply Kd.R_drewN | apply Kd.R_drew)); exact HO312.out) (Kd.R_base ho0) hb); have n3_ := Aside0.mk (Kd.R_elder' (by (with_reducible repeat (first | apply Kd.R_alloc | apply Kd.R_drewN | apply Kd.R_drew)); exact HO317.out) (Kd.R_base ho0) hb); have n4_ := Aside0.mk (Kd.R_elder' (by (with_reducible repeat (first | apply Kd.R_alloc | apply Kd.R_drewN | apply Kd.R_drew)); exact HO320.out) (Kd.R_base ho1) hb); have n5_ := Aside0.mk (Kd.R_lower (Kd.R_new' (Kd.R_new' (Kd.R_new' (Kd.R_new' ho0 (Kd.R_lt (by (with_reducible repeat (first | apply Kd.R_alloc | apply Kd.R_drewN | apply Kd.R_drew)); exact HO304.out))) (Kd.R_lt (by (with_reducible repeat (first | apply Kd.R_alloc | apply Kd.R_drewN | apply Kd.R_drew)); exact HO307.out))) (Kd.R_lt (by (with_reducible repeat (first | apply Kd.R_alloc | apply Kd.R_drewN | apply Kd.R_drew)); exact HO312.out))) (Kd.R_lt (by (with_reducible repeat (first | apply Kd.R_alloc | apply Kd.R_drewN | apply Kd.R_drew)); exact HO317.out))) (below_size (by repeat (first | (with_reducible first | exact HB.out | apply below_alloc | apply pw_below_drewN | apply below_drew1 | refine below_set ?_ GE300.out | refine below_set ?_ GE301.out) | exact HB.out)))); have n6_ := Aside0.mk (Kd.R_lower (Kd.R_new' ho1 (Kd.R_lt (by (with_reducible repeat (first | apply Kd.R_alloc | apply Kd.R_drewN | apply Kd.R_drew)); exact HO320.out))) (below_size (by repeat (first | (with_reducible first | exact HB.out | apply below_alloc | apply pw_below_drewN | apply below_drew1 | refine below_set ?_ GE300.out | refine below_set ?_ GE301.out) | exact HB.out)))); have n7_ := Aside0.mk (blk_below (g := gb300) (o := .cells #[.int .i64 a1_0, .int .i64 a1_1, .int .i64 a1_2] 24 (0, 0)) (by (with_reducible repeat (first | refine blk_drewN ?_ _ | refine blk_drew ?_ | refine blk_alloc ?_ _)); exact BK300.out) hb); have n8_ := Aside0.mk (blk_below (g := gb301) (o := .cells #[.int .i64 a6_0, .slice A6_1 l6_1.length c6_1] 36 (0, 0)) (by (with_reducible repeat (first | refine blk_drewN ?_ _ | refine blk_drew ?_ | refine blk_alloc ?_ _)); exact BK301.out) hb); have n9_ := Aside0.mk (below_step (by repeat (first | (with_reducible first | exact HB.out | apply below_alloc | apply pw_below_drewN | apply below_drew1 | refine below_set ?_ GE300.out | refine below_set ?_ GE301.out) | exact HB.out)) hb); clear HO304; clear HO307; clear HO312; clear HO317; clear HO320; clear BK300; clear BK301; clear HB; have HO304 := n0_; have HO307 := n1_; have HO312 := n2_; have HO317 := n3_; have HO320 := n4_; have HO324 := n5_; have HO327 := n6_; have BK300 := n7_; have BK301 := n8_; have HB := n9_; clear n0_ n1_ n2_ n3_ n4_ n5_ n6_ n7_ n8_ n9_; (try clear hb); (try clear hb2); (try clear hk); (try clear hi); (try clear ho0); (try clear ho1); have hcz33_0 : w32.cell? ⟨gb300, 0, none⟩ = some (.int .i64 a1_0) := (blk_cell BK300.out 0).trans rfl; have hcz33_1 : w32.cell? ⟨gb300, 1, none⟩ = some (.int .i64 a1_1) := (blk_cell BK300.out 1).trans rfl; have hcz33_2 : w32.cell? ⟨gb300, 2, none⟩ = some (.int .i64 a1_2) := (blk_cell BK300.out 2).trans rfl; have hfz33_0 := blk_frozen BK300.out 0; have hfz33_1 := blk_frozen BK300.out 1; have hfz33_2 := blk_frozen BK300.out 2) | ((with_reducible refine gate_callee (f := 12) rfl ?_); refine goesL_ (some 87) rfl rfl Try.func12 (by kernel_rfl) rfl #[.slice Ao25 t302.length co25, .agg #[.int .i64 a1_0, .int .i64 a1_1, .int .i64 a1_2], .int .i64 a2, .int .i64 a3, .int .i64 a4, .int .i64 a5] rfl (by (try simp only [List.map_toArray, List.map_cons, List.map_nil]); first | done | rfl | (simp only [List.length_drop, List.length_take]; rfl)) ?_; (with_reducible refine (session_Find.calls _ _ t302 a1_0 a1_1 a1_2 a2 a3 a4 a5 t329 t330 _ ?side1 ?side2 A13.out).mono ?_); (case side1 => repeat (first | exact (Kd.R_reads' HO304.out).2.2 | (with_reducible refine Kd.C_alloc ?_ _) | (with_reducible refine Kd.C_drewN ?_ _) | (with_reducible refine Kd.C_drew ?_))); (case side2 => exact (Kd.R_reads' HO304.out).2.1); rintro e w34 ⟨rfl, hb⟩; refine ⟨_, rfl, ?_⟩; have n0_ := Aside0.mk (Kd.R_below (by (with_reducible repeat (first | apply Kd.R_alloc | apply Kd.R_drewN | apply Kd.R_drew)); exact HO304.out) hb); have n1_ := Aside0.mk (Kd.R_below (by (with_reducible repeat (first | apply Kd.R_alloc | apply Kd.R_drewN | apply Kd.R_drew)); exact HO307.out) hb); have n2_ := Aside0.mk (Kd.R_below (by (with_reducible repeat (first | apply Kd.R_alloc | apply Kd.R_drewN | apply Kd.R_drew)); exact HO312.out) hb); have n3_ := Aside0.mk (Kd.R_below (by (with_reducible repeat (first | apply Kd.R_alloc | apply Kd.R_drewN | apply Kd.R_drew)); exact HO317.out) hb); have n4_ := Aside0.mk (Kd.R_below (by (with_reducible repeat (first | apply Kd.R_alloc | apply Kd.R_drewN | apply Kd.R_drew)); exact HO320.out) hb); have n5_ := Aside0.mk (Kd.R_below (by (with_reducible repeat (first | apply Kd.R_alloc | apply Kd.R_drewN | apply Kd.R_drew)); exact HO324.out) hb); have n6_ := Aside0.mk (Kd.R_below (by (with_reducible repeat (first | apply Kd.R_alloc | apply Kd.R_drewN | apply Kd.R_drew)); exact HO327.out) hb); have n7_ := Aside0.mk (blk_below (g := gb300) (o := .cells #[.int .i64 a1_0, .int .i64 a1_1, .int .i64 a1_2] 24 (0, 0)) (by (with_reducible repeat (first | refine blk_drewN ?_ _ | refine blk_drew ?_ | refine blk_alloc ?_ _)); exact BK300.out) hb); have n8_ := Aside0.mk (blk_below (g := gb301) (o := .cells #[.int .i64 a6_0, .slice A6_1 l6_1.length c6_1] 36 (0, 0)) (by (with_reducible repeat (first | refine blk_drewN ?_ _ | refine blk_drew ?_ | refine blk_alloc ?_ _)); exact BK301.out) hb); have n9_ := Aside0.mk (below_step (by repeat (first | (with_reducible first | exact HB.out | apply below_alloc | apply pw_below_drewN | apply below_drew1 | refine below_set ?_ GE300.out | refine below_set ?_ GE301.out) | exact HB.out)) hb); clear HO304; clear HO307; clear HO312; clear HO317; clear HO320; clear HO324; clear HO327; clear BK300; clear BK301; clear HB; have HO304 := n0_; have HO307 := n1_; have HO312 := n2_; have HO317 := n3_; have HO320 := n4_; have HO324 := n5_; have HO327 := n6_; have BK300 := n7_; have BK301 := n8_; have HB := n9_; clear n0_ n1_ n2_ n3_ n4_ n5_ n6_ n7_ n8_ n9_; (try clear hb); (try clear hb2); (try clear hk); (try clear hi); have hcz35_0 : w34.cell? ⟨gb300, 0, none⟩ = some (.int .i64 a1_0) := (blk_cell BK300.out 0).trans rfl; have hcz35_1 : w34.cell? ⟨gb300, 1, none⟩ = some (.int .i64 a1_1) := (blk_cell BK300.out 1).trans rfl; have hcz35_2 : w34.cell? ⟨gb300, 2, none⟩ = some (.int .i64 a1_2) := (blk_cell BK300.out 2).trans rfl; have hfz35_0 := blk_frozen BK300.out 0; have hfz35_1 := blk_frozen BK300.out 1; have hfz35_2 := blk_frozen BK300.out 2) | ((with_reducible refine gate_callee (f := 23) rfl ?_); refine goesL_ (some 97) rfl rfl Try.func23 (by kernel_rfl) rfl #[.slice A0 l0.length c0, .agg #[.int .i64 a1_0, .int .i64 a1_1, .int .i64 a1_2], .int .i64 a2, .int .i64 a3, .int .i64 a4, .int .i64 a5] rfl (by (try simp only [List.map_toArray, List.map_cons, List.map_nil]); first | done | rfl | (simp only [List.length_drop, List.length_take]; rfl)) ?_; (with_reducible refine (waybillref23_Find.calls k _ _ l0 a1_0 a1_1 a1_2 a2 a3 a4 a5 t331 t332 _ ?side1 ?side2 A14.out).mono ?_); (case side1 => repeat (first | exact (Kd.C_below HR0.out HB.out) | (with_reducible refine Kd.C_alloc ?_ _) | (with_reducible refine Kd.C_drewN ?_ _) | (with_reducible refine Kd.C_drew ?_))); (case side2 => exact HC0.out); rintro e w36 ⟨rfl, hb⟩; refine ⟨_, rfl, ?_⟩; have n0_ := Aside0.mk (Kd.R_below (by (with_reducible repeat (first | apply Kd.R_alloc | apply Kd.R_drewN | apply Kd.R_drew)); exact HO304.out) hb); have n1_ := Aside0.mk (Kd.R_below (by (with_reducible repeat (first | apply Kd.R_alloc | apply Kd.R_drewN | apply Kd.R_drew)); exact HO307.out) hb); have n2_ := Aside0.mk (Kd.R_below (by (with_reducible repeat (first | apply Kd.R_alloc | apply Kd.R_drewN | apply Kd.R_drew)); exact HO312.out) hb); have n3_ := Aside0.mk (Kd.R_below (by (with_reducible repeat (first | apply Kd.R_alloc | apply Kd.R_drewN | apply Kd.R_drew)); exact HO317.out) hb); have n4_ := Aside0.mk (Kd.R_below (by (with_reducible repeat (first | apply Kd.R_alloc | apply Kd.R_drewN | apply Kd.R_drew)); exact HO320.out) hb); have n5_ := Aside0.mk (Kd.R_below (by (with_reducible repeat (first | apply Kd.R_alloc | apply Kd.R_drewN | apply Kd.R_drew)); exact HO324.out) hb); have n6_ := Aside0.mk (Kd.R_below (by (with_reducible repeat (first | apply Kd.R_alloc | apply Kd.R_drewN | apply Kd.R_drew)); exact HO327.out) hb); have n7_ := Aside0.mk (blk_below (g := gb300) (o := .cells #[.int .i64 a1_0, .int .i64 a1_1, .int .i64 a1_2] 24 (0, 0)) (by (with_reducible repeat (first | refine blk_drewN ?_ _ | refine blk_drew ?_ | refine blk_alloc ?_ _)); exact BK300.out) hb); have n8_ := Aside0.mk (blk_below (g := gb301) (o := .cells #[.int .i64 a6_0, .slice A6_1 l6_1.length c6_1] 36 (0, 0)) (by (with_reducible repeat (first | refine blk_drewN ?_ _ | refine blk_drew ?_ | refine blk_alloc ?_ _)); exact BK301.out) hb); have n9_ := Aside0.mk (below_step (by repeat (first | (with_reducible first | exact HB.out | apply below_alloc | apply pw_below_drewN | apply below_drew1 | refine below_set ?_ GE300.out | refine below_set ?_ GE301.out) | exact HB.out)) hb); clear HO304; clear HO307; clear HO312; clear HO317; clear HO320; clear HO324; clear HO327; clear BK300; clear BK301; clear HB; have HO304 := n0_; have HO307 := n1_; have HO312 := n2_; have HO317 := n3_; have HO320 := n4_; have HO324 := n5_; have HO327 := n6_; have BK300 := n7_; have BK301 := n8_; have HB := n9_; clear n0_ n1_ n2_ n3_ n4_ n5_ n6_ n7_ n8_ n9_; (try clear hb); (try clear hb2); (try clear hk); (try clear hi); have hcz37_0 : w36.cell? ⟨gb300, 0, none⟩ = some (.int .i64 a1_0) := (blk_cell BK300.out 0).trans rfl; have hcz37_1 : w36.cell? ⟨gb300, 1, none⟩ = some (.int .i64 a1_1) := (blk_cell BK300.out 1).trans rfl; have hcz37_2 : w36.cell? ⟨gb300, 2, none⟩ = some (.int .i64 a1_2) := (blk_cell BK300.out 2).trans rfl; have hfz37_0 := blk_frozen BK300.out 0; have hfz37_1 := blk_frozen BK300.out 1; have hfz37_2 := blk_frozen BK300.out 2; have hcz38_0 : w36.cell? ⟨gb301, 0, none⟩ = some (.int .i64 a6_0) := (blk_cell BK301.out 0).trans rfl; have hcz38_1 : w36.cell? ⟨gb301, 1, none⟩ = some (.slice A6_1 l6_1.length c6_1) := (blk_cell BK301.out 1).trans rfl; have hfz38_0 := blk_frozen BK301.out 0; have hfz38_1 := blk_frozen BK301.out 1) | ((with_reducible refine gate_callee (f := 13) rfl ?_); refine goesL_ (some 107) rfl rfl Try.func13 (by kernel_rfl) rfl #[.slice Ao25 t302.length co25, .agg #[.int .i64 a1_0, .int .i64 a1_1, .int .i64 a1_2], .int .i64 a2, .int .i64 a3, .int .i64 a4, .agg #[.int .i64 a6_0, .slice A6_1 l6_1.length c6_1]] rfl (by (try simp only [List.map_toArray, List.map_cons, List.map_nil]); first | done | rfl | (simp only [List.length_drop, List.length_take]; rfl)) ?_; (with_reducible refine (session_Touch.calls _ _ t302 a1_0 a1_1 a1_2 a2 a3 a4 a6_0 _ _ l6_1 t333 t336 _ ?side1 ?side2 ?side3 ?side4 A15.out).mono ?_); (case side1 => repeat (first | exact (Kd.R_reads' HO304.out).2.2 | (with_reducible refine Kd.C_alloc ?_ _) | (with_reducible refine Kd.C_drewN ?_ _) | (with_reducible refine Kd.C_drew ?_))); (case side2 => exact (Kd.R_reads' HO304.out).2.1); (case side3 => repeat (first | exact (Kd.C_below HR6_1.out HB.out) | (with_reducible refine Kd.C_alloc ?_ _) | (with_reducible refine Kd.C_drewN ?_ _) | (with_reducible refine Kd.C_drew ?_))); (case side4 => exact HC6_1.out); rintro e w39 ⟨v334, rfl, ho0, hb⟩; refine ⟨_, rfl, ?_⟩; have n0_ := Aside0.mk (Kd.R_elder' (by (with_reducible repeat (first | apply Kd.R_alloc | apply Kd.R_drewN | apply Kd.R_drew)); exact HO304.out) (Kd.R_base ho0) hb); have n1_ := Aside0.mk (Kd.R_elder' (by (with_reducible repeat (first | apply Kd.R_alloc | apply Kd.R_drewN | apply Kd.R_drew)); exact HO307.out) (Kd.R_base ho0) hb); have n2_ := Aside0.mk (Kd.R_elder' (by (with_reducible repeat (first | apply Kd.R_alloc | apply Kd.R_drewN | apply Kd.R_drew)); exact HO312.out) (Kd.R_base ho0) hb); have n3_ := Aside0.mk (Kd.R_elder' (by (with_reducible repeat (first | apply Kd.R_alloc | apply Kd.R_drewN | apply Kd.R_drew)); exact HO317.out) (Kd.R_base ho0) hb); have n4_ := Aside0.mk (Kd.R_below (by (with_reducible repeat (first | apply Kd.R_alloc | apply Kd.R_drewN | apply Kd.R_drew)); exact HO320.out) hb); have n5_ := Aside0.mk (Kd.R_elder' (by (with_reducible repeat (first | apply Kd.R_alloc | apply Kd.R_drewN | apply Kd.R_drew)); exact HO324.out) (Kd.R_base ho0) hb); have n6_ := Aside0.mk (Kd.R_below (by (with_reducible repeat (first | apply Kd.R_alloc | apply Kd.R_drewN | apply Kd.R_drew)); exact HO327.out) hb); have n7_ := Aside0.mk (Kd.R_lower (Kd.R_new' (Kd.R_new' (Kd.R_new' (Kd.R_new' (Kd.R_new' ho0 (Kd.R_lt (by (with_reducible repeat (first | apply Kd.R_alloc | apply Kd.R_drewN | apply Kd.R_drew)); exact HO304.out))) (Kd.R_lt (by (with_reducible repeat (first | apply Kd.R_alloc | apply Kd.R_drewN | apply Kd.R_drew)); exact HO307.out))) (Kd.R_lt (by (with_reducible repeat (first | apply Kd.R_alloc | apply Kd.R_drewN | apply Kd.R_drew)); exact HO312.out))) (Kd.R_lt (by (with_reducible repeat (first | apply Kd.R_alloc | apply Kd.R_drewN | apply Kd.R_drew)); exact HO317.out))) (Kd.R_lt (by (with_reducible repeat (first | apply Kd.R_alloc | apply Kd.R_drewN | apply Kd.R_drew)); exact HO324.out))) (below_size (by repeat (first | (with_reducible first | exact HB.out | apply below_alloc | apply pw_below_drewN | apply below_drew1 | refine below_set ?_ GE300.out | refine below_set ?_ GE301.out) | exact HB.out)))); have n8_ := Aside0.mk (blk_below (g := gb300) (o := .cells #[.int .i64 a1_0, .int .i64 a1_1, .int .i64 a1_2] 24 (0, 0)) (by (with_reducible repeat (first | refine blk_drewN ?_ _ | refine blk_drew ?_ | refine blk_alloc ?_ _)); exact BK300.out) hb); have n9_ := Aside0.mk (blk_below (g := gb301) (o := .cells #[.int .i64 a6_0, .slice A6_1 l6_1.length c6_1] 36 (0, 0)) (by (with_reducible repeat (first | refine blk_drewN ?_ _ | refine blk_drew ?_ | refine blk_alloc ?_ _)); exact BK301.out) hb); have n10_ := Aside0.mk (below_step (by repeat (first | (with_reducible first | exact HB.out | apply below_alloc | apply pw_below_drewN | apply below_drew1 | refine below_set ?_ GE300.out | refine below_set ?_ GE301.out) | exact HB.out)) hb); clear HO304; clear HO307; clear HO312; clear HO317; clear HO320; clear HO324; clear HO327; clear BK300; clear BK301; clear HB; have HO304 := n0_; have HO307 := n1_; have HO312 := n2_; have HO317 := n3_; have HO320 := n4_; have HO324 := n5_; have HO327 := n6_; have HO335 := n7_; have BK300 := n8_; have BK301 := n9_; have HB := n10_; clear n0_ n1_ n2_ n3_ n4_ n5_ n6_ n7_ n8_ n9_ n10_; (try clear hb); (try clear hb2); (try clear hk); (try clear hi); (try clear ho0); have hcz40_0 : w39.cell? ⟨gb300, 0, none⟩ = some (.int .i64 a1_0) := (blk_cell BK300.out 0).trans rfl; have hcz40_1 : w39.cell? ⟨gb300, 1, none⟩ = some (.int .i64 a1_1) := (blk_cell BK300.out 1).trans rfl; have hcz40_2 : w39.cell? ⟨gb300, 2, none⟩ = some (.int .i64 a1_2) := (blk_cell BK300.out 2).trans rfl; have hfz40_0 := blk_frozen BK300.out 0; have hfz40_1 := blk_frozen BK300.out 1; have hfz40_2 := blk_frozen BK300.out 2; have hcz41_0 : w39.cell? ⟨gb301, 0, none⟩ = some (.int .i64 a6_0) := (blk_cell BK301.out 0).trans rfl; have hcz41_1 : w39.cell? ⟨gb301, 1, none⟩ = some (.slice A6_1 l6_1.length c6_1) := (blk_cell BK301.out 1).trans rfl; have hfz41_0 := blk_frozen BK301.out 0; have hfz41_1 := blk_frozen BK301.out 1) | ((with_reducible refine gate_callee (f := 24) rfl ?_); refine goesL_ (some 117) rfl rfl Try.func24 (by kernel_rfl) rfl #[.slice A0 l0.length c0, .agg #[.int .i64 a1_0, .int .i64 a1_1, .int .i64 a1_2], .int .i64 a2, .int .i64 a3, .int .i64 a4, .agg #[.int .i64 a6_0, .slice A6_1 l6_1.length c6_1]] rfl (by (try simp only [List.map_toArray, List.map_cons, List.map_nil]); first | done | rfl | (simp only [List.length_drop, List.length_take]; rfl)) ?_; (with_reducible refine (waybillref23_Touch.calls _ _ l0 a1_0 a1_1 a1_2 a2 a3 a4 a6_0 _ _ l6_1 t337 t340 _ ?side1 ?side2 ?side3 ?side4 A16.out).mono ?_); (case side1 => repeat (first | exact (Kd.C_below HR0.out HB.out) | (with_reducible refine Kd.C_alloc ?_ _) | (with_reducible refine Kd.C_drewN ?_ _) | (with_reducible refine Kd.C_drew ?_))); (case side2 => exact HC0.out); (case side3 => repeat (first | exact (Kd.C_below HR6_1.out HB.out) | (with_reducible refine Kd.C_alloc ?_ _) | (with_reducible refine Kd.C_drewN ?_ _) | (with_reducible refine Kd.C_drew ?_))); (case side4 => exact HC6_1.out); rintro e w42 ⟨v338, rfl, ho0, hb⟩; refine ⟨_, rfl, ?_⟩; have n0_ := Aside0.mk (Kd.R_elder' (by (with_reducible repeat (first | apply Kd.R_alloc | apply Kd.R_drewN | apply Kd.R_drew)); exact HO304.out) (Kd.R_base ho0) hb); have n1_ := Aside0.mk (Kd.R_elder' (by (with_reducible repeat (first | apply Kd.R_alloc | apply Kd.R_drewN | apply Kd.R_drew)); exact HO307.out) (Kd.R_base ho0) hb); have n2_ := Aside0.mk (Kd.R_elder' (by (with_reducible repeat (first | apply Kd.R_alloc | apply Kd.R_drewN | apply Kd.R_drew)); exact HO312.out) (Kd.R_base ho0) hb); have n3_ := Aside0.mk (Kd.R_elder' (by (with_reducible repeat (first | apply Kd.R_alloc | apply Kd.R_drewN | apply Kd.R_drew)); exact HO317.out) (Kd.R_base ho0) hb); have n4_ := Aside0.mk (Kd.R_below (by (with_reducible repeat (first | apply Kd.R_alloc | apply Kd.R_drewN | apply Kd.R_drew)); exact HO320.out) hb); have n5_ := Aside0.mk (Kd.R_elder' (by (with_reducible repeat (first | apply Kd.R_alloc | apply Kd.R_drewN | apply Kd.R_drew)); exact HO324.out) (Kd.R_base ho0) hb); have n6_ := Aside0.mk (Kd.R_below (by (with_reducible repeat (first | apply Kd.R_alloc | apply Kd.R_drewN | apply Kd.R_drew)); exact HO327.out) hb); have n7_ := Aside0.mk (Kd.R_elder' (by (with_reducible repeat (first | apply Kd.R_alloc | apply Kd.R_drewN | apply Kd.R_drew)); exact HO335.out) (Kd.R_base ho0) hb); have n8_ := Aside0.mk (Kd.R_lower (Kd.R_new' (Kd.R_new' (Kd.R_new' (Kd.R_new' (Kd.R_new' (Kd.R_new' ho0 (Kd.R_lt (by (with_reducible repeat (first | apply Kd.R_alloc | apply Kd.R_drewN | apply Kd.R_drew)); exact HO304.out))) (Kd.R_lt (by (with_reducible repeat (first | apply Kd.R_alloc | apply Kd.R_drewN | apply Kd.R_drew)); exact HO307.out))) (Kd.R_lt (by (with_reducible repeat (first | apply Kd.R_alloc | apply Kd.R_drewN | apply Kd.R_drew)); exact HO312.out))) (Kd.R_lt (by (with_reducible repeat (first | apply Kd.R_alloc | apply Kd.R_drewN | apply Kd.R_drew)); exact HO317.out))) (Kd.R_lt (by (with_reducible repeat (first | apply Kd.R_alloc | apply Kd.R_drewN | apply Kd.R_drew)); exact HO324.out))) (Kd.R_lt (by (with_reducible repeat (first | apply Kd.R_alloc | apply Kd.R_drewN | apply Kd.R_drew)); exact HO335.out))) (below_size (by repeat (first | (with_reducible first | exact HB.out | apply below_alloc | apply pw_below_drewN | apply below_drew1 | refine below_set ?_ GE300.out | refine below_set ?_ GE301.out) | exact HB.out)))); have n9_ := Aside0.mk (blk_below (g := gb300) (o := .cells #[.int .i64 a1_0, .int .i64 a1_1, .int .i64 a1_2] 24 (0, 0)) (by (with_reducible repeat (first | refine blk_drewN ?_ _ | refine blk_drew ?_ | refine blk_alloc ?_ _)); exact BK300.out) hb); have n10_ := Aside0.mk (blk_below (g := gb301) (o := .cells #[.int .i64 a6_0, .slice A6_1 l6_1.length c6_1] 36 (0, 0)) (by (with_reducible repeat (first | refine blk_drewN ?_ _ | refine blk_drew ?_ | refine blk_alloc ?_ _)); exact BK301.out) hb); have n11_ := Aside0.mk (below_step (by repeat (first | (with_reducible first | exact HB.out | apply below_alloc | apply pw_below_drewN | apply below_drew1 | refine below_set ?_ GE300.out | refine below_set ?_ GE301.out) | exact HB.out)) hb); clear HO304; clear HO307; clear HO312; clear HO317; clear HO320; clear HO324; clear HO327; clear HO335; clear BK300; clear BK301; clear HB; have HO304 := n0_; have HO307 := n1_; have HO312 := n2_; have HO317 := n3_; have HO320 := n4_; have HO324 := n5_; have HO327 := n6_; have HO335 := n7_; have HO339 := n8_; have BK300 := n9_; have BK301 := n10_; have HB := n11_; clear n0_ n1_ n2_ n3_ n4_ n5_ n6_ n7_ n8_ n9_ n10_ n11_; (try clear hb); (try clear hb2); (try clear hk); (try clear hi); (try clear ho0)) | ((with_reducible refine gate_dst (N := 124) rfl ?_); refine Kd.R_lit (Kd.int .i64) _ 3 ?hg (N := 124) ?hd (xs := ([a5, a4] : List Int)) (inner := [.int .i64 a5, .int .i64 a4]) (ok := fun _ => True) (okp := fun _ => True) ?hr ?hp (fun _ hk => hk) trivial (Below.refl _ _) (Nat.le_refl _) (by simp) ?_; (case hd => rfl); (case hg => rfl); (case hr => first | (go_simp; done) | (go_simp; rfl)); (case hp => exact (Reps.one (show Kd.M (Kd.int .i64) _ _ _ a5 [.int .i64 a5] from rfl) (Reps.one (show Kd.M (Kd.int .i64) _ _ _ a4 [.int .i64 a4] from rfl) (Reps.none _ _)))); intro v342 w43 ho44 hb hg_ hnew_; clear hg_ hnew_; (first | rw [← Ny341.out] at ho44 | (simp only [Int.reduceToNat] at ho44; rw [← Ny341.out] at ho44)); have n0_ := Aside0.mk (Kd.R_below (by (with_reducible repeat (first | apply Kd.R_alloc | apply Kd.R_drewN | apply Kd.R_drew)); exact HO304.out) hb); have n1_ := Aside0.mk (Kd.R_below (by (with_reducible repeat (first | apply Kd.R_alloc | apply Kd.R_drewN | apply Kd.R_drew)); exact HO307.out) hb); have n2_ := Aside0.mk (Kd.R_below (by (with_reducible repeat (first | apply Kd.R_alloc | apply Kd.R_drewN | apply Kd.R_drew)); exact HO312.out) hb); have n3_ := Aside0.mk (Kd.R_below (by (with_reducible repeat (first | apply Kd.R_alloc | apply Kd.R_drewN | apply Kd.R_drew)); exact HO317.out) hb); have n4_ := Aside0.mk (Kd.R_elder' (by (with_reducible repeat (first | apply Kd.R_alloc | apply Kd.R_drewN | apply Kd.R_drew)); exact HO320.out) (Kd.R_base ho44) hb); have n5_ := Aside0.mk (Kd.R_below (by (with_reducible repeat (first | apply Kd.R_alloc | apply Kd.R_drewN | apply Kd.R_drew)); exact HO324.out) hb); have n6_ := Aside0.mk (Kd.R_elder' (by (with_reducible repeat (first | apply Kd.R_alloc | apply Kd.R_drewN | apply Kd.R_drew)); exact HO327.out) (Kd.R_base ho44) hb); have n7_ := Aside0.mk (Kd.R_below (by (with_reducible repeat (first | apply Kd.R_alloc | apply Kd.R_drewN | apply Kd.R_drew)); exact HO335.out) hb); have n8_ := Aside0.mk (Kd.R_below (by (with_reducible repeat (first | apply Kd.R_alloc | apply Kd.R_drewN | apply Kd.R_drew)); exact HO339.out) hb); have n9_ := Aside0.mk (Kd.R_lower (Kd.R_new' (Kd.R_new' ho44 (Kd.R_lt (by (with_reducible repeat (first | apply Kd.R_alloc | apply Kd.R_drewN | apply Kd.R_drew)); exact HO320.out))) (Kd.R_lt (by (with_reducible repeat (first | apply Kd.R_alloc | apply Kd.R_drewN | apply Kd.R_drew)); exact HO327.out))) (below_size (by repeat (first | (with_reducible first | exact HB.out | apply below_alloc | apply pw_below_drewN | apply below_drew1 | refine below_set ?_ GE300.out | refine below_set ?_ GE301.out) | exact HB.out)))); have n10_ := Aside0.mk (blk_below (g := gb300) (o := .cells #[.int .i64 a1_0, .int .i64 a1_1, .int .i64 a1_2] 24 (0, 0)) (by (with_reducible repeat (first | refine blk_drewN ?_ _ | refine blk_drew ?_ | refine blk_alloc ?_ _)); exact BK300.out) hb); have n11_ := Aside0.mk (blk_below (g := gb301) (o := .cells #[.int .i64 a6_0, .slice A6_1 l6_1.length c6_1] 36 (0, 0)) (by (with_reducible repeat (first | refine blk_drewN ?_ _ | refine blk_drew ?_ | refine blk_alloc ?_ _)); exact BK301.out) hb); have n12_ := Aside0.mk (below_step (by repeat (first | (with_reducible first | exact HB.out | apply below_alloc | apply pw_below_drewN | apply below_drew1 | refine below_set ?_ GE300.out | refine below_set ?_ GE301.out) | exact HB.out)) hb); clear HO304; clear HO307; clear HO312; clear HO317; clear HO320; clear HO324; clear HO327; clear HO335; clear HO339; clear BK300; clear BK301; clear HB; have HO304 := n0_; have HO307 := n1_; have HO312 := n2_; have HO317 := n3_; have HO320 := n4_; have HO324 := n5_; have HO327 := n6_; have HO335 := n7_; have HO339 := n8_; have HO343 := n9_; have BK300 := n10_; have BK301 := n11_; have HB := n12_; clear n0_ n1_ n2_ n3_ n4_ n5_ n6_ n7_ n8_ n9_ n10_ n11_ n12_; clear hb ho44; obtain ⟨Ao45, co45, eo45⟩ := Kd.R_slice HO343.out; subst eo45) | ((with_reducible refine gate_callee (f := 25) rfl ?_); refine goesL_ (some 125) rfl rfl Try.func25 (by kernel_rfl) rfl #[.slice Ao25 t302.length co25, .slice Ao45 y341.length co45] rfl (by (try simp only [List.map_toArray, List.map_cons, List.map_nil]); first | done | rfl | (simp only [List.length_drop, List.length_take]; rfl)) ?_; (with_reducible refine (session_Of.calls k _ _ t302 _ _ y341 t344 t345 _ ?side1 ?side2 ?side3 ?side4 A17.out).mono ?_); (case side1 => repeat (first | exact (Kd.R_reads' HO304.out).2.2 | (with_reducible refine Kd.C_alloc ?_ _) | (with_reducible refine Kd.C_drewN ?_ _) | (with_reducible refine Kd.C_drew ?_))); (case side2 => exact (Kd.R_reads' HO304.out).2.1); (case side3 => repeat (first | exact (Kd.R_reads' HO343.out).2.2 | (with_reducible refine Kd.C_alloc ?_ _) | (with_reducible refine Kd.C_drewN ?_ _) | (with_reducible refine Kd.C_drew ?_))); (case side4 => exact (Kd.R_reads' HO343.out).2.1); rintro e w46 ⟨v346, rfl, ho0, hb⟩; refine ⟨_, rfl, ?_⟩; have n0_ := Aside0.mk (Kd.R_below (by (with_reducible repeat (first | apply Kd.R_alloc | apply Kd.R_drewN | apply Kd.R_drew)); exact HO304.out) hb); have n1_ := Aside0.mk (Kd.R_below (by (with_reducible repeat (first | apply Kd.R_alloc | apply Kd.R_drewN | apply Kd.R_drew)); exact HO307.out) hb); have n2_ := Aside0.mk (Kd.R_below (by (with_reducible repeat (first | apply Kd.R_alloc | apply Kd.R_drewN | apply Kd.R_drew)); exact HO312.out) hb); have n3_ := Aside0.mk (Kd.R_below (by (with_reducible repeat (first | apply Kd.R_alloc | apply Kd.R_drewN | apply Kd.R_drew)); exact HO317.out) hb); have n4_ := Aside0.mk (Kd.R_elder' (by (with_reducible repeat (first | apply Kd.R_alloc | apply Kd.R_drewN | apply Kd.R_drew)); exact HO320.out) (Kd.R_base ho0) hb); have n5_ := Aside0.mk (Kd.R_below (by (with_reducible repeat (first | apply Kd.R_alloc | apply Kd.R_drewN | apply Kd.R_drew)); exact HO324.out) hb); have n6_ := Aside0.mk (Kd.R_elder' (by (with_reducible repeat (first | apply Kd.R_alloc | apply Kd.R_drewN | apply Kd.R_drew)); exact HO327.out) (Kd.R_base ho0) hb); have n7_ := Aside0.mk (Kd.R_below (by (with_reducible repeat (first | apply Kd.R_alloc | apply Kd.R_drewN | apply Kd.R_drew)); exact HO335.out) hb); have n8_ := Aside0.mk (Kd.R_below (by (with_reducible repeat (first | apply Kd.R_alloc | apply Kd.R_drewN | apply Kd.R_drew)); exact HO339.out) hb); have n9_ := Aside0.mk (Kd.R_elder' (by (with_reducible repeat (first | apply Kd.R_alloc | apply Kd.R_drewN | apply Kd.R_drew)); exact HO343.out) (Kd.R_base ho0) hb); have n10_ := Aside0.mk (Kd.R_lower (Kd.R_new' (Kd.R_new' (Kd.R_new' ho0 (Kd.R_lt (by (with_reducible repeat (first | apply Kd.R_alloc | apply Kd.R_drewN | apply Kd.R_drew)); exact HO320.out))) (Kd.R_lt (by (with_reducible repeat (first | apply Kd.R_alloc | apply Kd.R_drewN | apply Kd.R_drew)); exact HO327.out))) (Kd.R_lt (by (with_reducible repeat (first | apply Kd.R_alloc | apply Kd.R_drewN | apply Kd.R_drew)); exact HO343.out))) (below_size (by repeat (first | (with_reducible first | exact HB.out | apply below_alloc | apply pw_below_drewN | apply below_drew1 | refine below_set ?_ GE300.out | refine below_set ?_ GE301.out) | exact HB.out)))); have n11_ := Aside0.mk (blk_below (g := gb300) (o := .cells #[.int .i64 a1_0, .int .i64 a1_1, .int .i64 a1_2] 24 (0, 0)) (by (with_reducible repeat (first | refine blk_drewN ?_ _ | refine blk_drew ?_ | refine blk_alloc ?_ _)); exact BK300.out) hb); have n12_ := Aside0.mk (blk_below (g := gb301) (o := .cells #[.int .i64 a6_0, .slice A6_1 l6_1.length c6_1] 36 (0, 0)) (by (with_reducible repeat (first | refine blk_drewN ?_ _ | refine blk_drew ?_ | refine blk_alloc ?_ _)); exact BK301.out) hb); have n13_ := Aside0.mk (below_step (by repeat (first | (with_reducible first | exact HB.out | apply below_alloc | apply pw_below_drewN | apply below_drew1 | refine below_set ?_ GE300.out | refine below_set ?_ GE301.out) | exact HB.out)) hb); clear HO304; clear HO307; clear HO312; clear HO317; clear HO320; clear HO324; clear HO327; clear HO335; clear HO339; clear HO343; clear BK300; clear BK301; clear HB; have HO304 := n0_; have HO307 := n1_; have HO312 := n2_; have HO317 := n3_; have HO320 := n4_; have HO324 := n5_; have HO327 := n6_; have HO335 := n7_; have HO339 := n8_; have HO343 := n9_; have HO347 := n10_; have BK300 := n11_; have BK301 := n12_; have HB := n13_; clear n0_ n1_ n2_ n3_ n4_ n5_ n6_ n7_ n8_ n9_ n10_ n11_ n12_ n13_; (try clear hb); (try clear hb2); (try clear hk); (try clear hi); (try clear ho0)) | ((with_reducible refine gate_dst (N := 132) rfl ?_); refine Kd.R_lit (Kd.int .i64) _ 3 ?hg (N := 132) ?hd (xs := ([a5, a4] : List Int)) (inner := [.int .i64 a5, .int .i64 a4]) (ok := fun _ => True) (okp := fun _ => True) ?hr ?hp (fun _ hk => hk) trivial (Below.refl _ _) (Nat.le_refl _) (by simp) ?_; (case hd => rfl); (case hg => rfl); (case hr => first | (go_simp; done) | (go_simp; rfl)); (case hp => exact (Reps.one (show Kd.M (Kd.int .i64) _ _ _ a5 [.int .i64 a5] from rfl) (Reps.one (show Kd.M (Kd.int .i64) _ _ _ a4 [.int .i64 a4] from rfl) (Reps.none _ _)))); intro v349 w47 ho48 hb hg_ hnew_; clear hg_ hnew_; (first | rw [← Ny348.out] at ho48 | (simp only [Int.reduceToNat] at ho48; rw [← Ny348.out] at ho48)); have n0_ := Aside0.mk (Kd.R_below (by (with_reducible repeat (first | apply Kd.R_alloc | apply Kd.R_drewN | apply Kd.R_drew)); exact HO304.out) hb); have n1_ := Aside0.mk (Kd.R_below (by (with_reducible repeat (first | apply Kd.R_alloc | apply Kd.R_drewN | apply Kd.R_drew)); exact HO307.out) hb); have n2_ := Aside0.mk (Kd.R_below (by (with_reducible repeat (first | apply Kd.R_alloc | apply Kd.R_drewN | apply Kd.R_drew)); exact HO312.out) hb); have n3_ := Aside0.mk (Kd.R_below (by (with_reducible repeat (first | apply Kd.R_alloc | apply Kd.R_drewN | apply Kd.R_drew)); exact HO317.out) hb); have n4_ := Aside0.mk (Kd.R_elder' (by (with_reducible repeat (first | apply Kd.R_alloc | apply Kd.R_drewN | apply Kd.R_drew)); exact HO320.out) (Kd.R_base ho48) hb); have n5_ := Aside0.mk (Kd.R_below (by (with_reducible repeat (first | apply Kd.R_alloc | apply Kd.R_drewN | apply Kd.R_drew)); exact HO324.out) hb); have n6_ := Aside0.mk (Kd.R_elder' (by (with_reducible repeat (first | apply Kd.R_alloc | apply Kd.R_drewN | apply Kd.R_drew)); exact HO327.out) (Kd.R_base ho48) hb); have n7_ := Aside0.mk (Kd.R_below (by (with_reducible repeat (first | apply Kd.R_alloc | apply Kd.R_drewN | apply Kd.R_drew)); exact HO335.out) hb); have n8_ := Aside0.mk (Kd.R_below (by (with_reducible repeat (first | apply Kd.R_alloc | apply Kd.R_drewN | apply Kd.R_drew)); exact HO339.out) hb); have n9_ := Aside0.mk (Kd.R_elder' (by (with_reducible repeat (first | apply Kd.R_alloc | apply Kd.R_drewN | apply Kd.R_drew)); exact HO343.out) (Kd.R_base ho48) hb); have n10_ := Aside0.mk (Kd.R_elder' (by (with_reducible repeat (first | apply Kd.R_alloc | apply Kd.R_drewN | apply Kd.R_drew)); exact HO347.out) (Kd.R_base ho48) hb); have n11_ := Aside0.mk (Kd.R_lower (Kd.R_new' (Kd.R_new' (Kd.R_new' (Kd.R_new' ho48 (Kd.R_lt (by (with_reducible repeat (first | apply Kd.R_alloc | apply Kd.R_drewN | apply Kd.R_drew)); exact HO320.out))) (Kd.R_lt (by (with_reducible repeat (first | apply Kd.R_alloc | apply Kd.R_drewN | apply Kd.R_drew)); exact HO327.out))) (Kd.R_lt (by (with_reducible repeat (first | apply Kd.R_alloc | apply Kd.R_drewN | apply Kd.R_drew)); exact HO343.out))) (Kd.R_lt (by (with_reducible repeat (first | apply Kd.R_alloc | apply Kd.R_drewN | apply Kd.R_drew)); exact HO347.out))) (below_size (by repeat (first | (with_reducible first | exact HB.out | apply below_alloc | apply pw_below_drewN | apply below_drew1 | refine below_set ?_ GE300.out | refine below_set ?_ GE301.out) | exact HB.out)))); have n12_ := Aside0.mk (blk_below (g := gb300) (o := .cells #[.int .i64 a1_0, .int .i64 a1_1, .int .i64 a1_2] 24 (0, 0)) (by (with_reducible repeat (first | refine blk_drewN ?_ _ | refine blk_drew ?_ | refine blk_alloc ?_ _)); exact BK300.out) hb); have n13_ := Aside0.mk (blk_below (g := gb301) (o := .cells #[.int .i64 a6_0, .slice A6_1 l6_1.length c6_1] 36 (0, 0)) (by (with_reducible repeat (first | refine blk_drewN ?_ _ | refine blk_drew ?_ | refine blk_alloc ?_ _)); exact BK301.out) hb); have n14_ := Aside0.mk (below_step (by repeat (first | (with_reducible first | exact HB.out | apply below_alloc | apply pw_below_drewN | apply below_drew1 | refine below_set ?_ GE300.out | refine below_set ?_ GE301.out) | exact HB.out)) hb); clear HO304; clear HO307; clear HO312; clear HO317; clear HO320; clear HO324; clear HO327; clear HO335; clear HO339; clear HO343; clear HO347; clear BK300; clear BK301; clear HB; have HO304 := n0_; have HO307 := n1_; have HO312 := n2_; have HO317 := n3_; have HO320 := n4_; have HO324 := n5_; have HO327 := n6_; have HO335 := n7_; have HO339 := n8_; have HO343 := n9_; have HO347 := n10_; have HO350 := n11_; have BK300 := n12_; have BK301 := n13_; have HB := n14_; clear n0_ n1_ n2_ n3_ n4_ n5_ n6_ n7_ n8_ n9_ n10_ n11_ n12_ n13_ n14_; clear hb ho48; obtain ⟨Ao49, co49, eo49⟩ := Kd.R_slice HO350.out; subst eo49) | ((with_reducible refine gate_callee (f := 26) rfl ?_); refine goesL_ (some 133) rfl rfl Try.func26 (by kernel_rfl) rfl #[.slice A0 l0.length c0, .slice Ao49 y348.length co49] rfl (by (try simp only [List.map_toArray, List.map_cons, List.map_nil]); first | done | rfl | (simp only [List.length_drop, List.length_take]; rfl)) ?_; (with_reducible refine (waybillref23_Of.calls k _ _ l0 _ _ y348 t351 t352 _ ?side1 ?side2 ?side3 ?side4 A18.out).mono ?_); (case side1 => repeat (first | exact (Kd.C_below HR0.out HB.out) | (with_reducible refine Kd.C_alloc ?_ _) | (with_reducible refine Kd.C_drewN ?_ _) | (with_reducible refine Kd.C_drew ?_))); (case side2 => exact HC0.out); (case side3 => repeat (first | exact (Kd.R_reads' HO350.out).2.2 | (with_reducible refine Kd.C_alloc ?_ _) | (with_reducible refine Kd.C_drewN ?_ _) | (with_reducible refine Kd.C_drew ?_))); (case side4 => exact (Kd.R_reads' HO350.out).2.1); rintro e w50 ⟨v353, rfl, ho0, hb⟩; refine ⟨_, rfl, ?_⟩; have n0_ := Aside0.mk (Kd.R_below (by (with_reducible repeat (first | apply Kd.R_alloc | apply Kd.R_drewN | apply Kd.R_drew)); exact HO304.out) hb); have n1_ := Aside0.mk (Kd.R_below (by (with_reducible repeat (first | apply Kd.R_alloc | apply Kd.R_drewN | apply Kd.R_drew)); exact HO307.out) hb); have n2_ := Aside0.mk (Kd.R_below (by (with_reducible repeat (first | apply Kd.R_alloc | apply Kd.R_drewN | apply Kd.R_drew)); exact HO312.out) hb); have n3_ := Aside0.mk (Kd.R_below (by (with_reducible repeat (first | apply Kd.R_alloc | apply Kd.R_drewN | apply Kd.R_drew)); exact HO317.out) hb); have n4_ := Aside0.mk (Kd.R_elder' (by (with_reducible repeat (first | apply Kd.R_alloc | apply Kd.R_drewN | apply Kd.R_drew)); exact HO320.out) (Kd.R_base ho0) hb); have n5_ := Aside0.mk (Kd.R_below (by (with_reducible repeat (first | apply Kd.R_alloc | apply Kd.R_drewN | apply Kd.R_drew)); exact HO324.out) hb); have n6_ := Aside0.mk (Kd.R_elder' (by (with_reducible repeat (first | apply Kd.R_alloc | apply Kd.R_drewN | apply Kd.R_drew)); exact HO327.out) (Kd.R_base ho0) hb); have n7_ := Aside0.mk (Kd.R_below (by (with_reducible repeat (first | apply Kd.R_alloc | apply Kd.R_drewN | apply Kd.R_drew)); exact HO335.out) hb); have n8_ := Aside0.mk (Kd.R_below (by (with_reducible repeat (first | apply Kd.R_alloc | apply Kd.R_drewN | apply Kd.R_drew)); exact HO339.out) hb); have n9_ := Aside0.mk (Kd.R_elder' (by (with_reducible repeat (first | apply Kd.R_alloc | apply Kd.R_drewN | apply Kd.R_drew)); exact HO343.out) (Kd.R_base ho0) hb); have n10_ := Aside0.mk (Kd.R_elder' (by (with_reducible repeat (first | apply Kd.R_alloc | apply Kd.R_drewN | apply Kd.R_drew)); exact HO347.out) (Kd.R_base ho0) hb); have n11_ := Aside0.mk (Kd.R_elder' (by (with_reducible repeat (first | apply Kd.R_alloc | apply Kd.R_drewN | apply Kd.R_drew)); exact HO350.out) (Kd.R_base ho0) hb); have n12_ := Aside0.mk (Kd.R_lower (Kd.R_new' (Kd.R_new' (Kd.R_new' (Kd.R_new' (Kd.R_new' ho0 (Kd.R_lt (by (with_reducible repeat (first | apply Kd.R_alloc | apply Kd.R_drewN | apply Kd.R_drew)); exact HO320.out))) (Kd.R_lt (by (with_reducible repeat (first | apply Kd.R_alloc | apply Kd.R_drewN | apply Kd.R_drew)); exact HO327.out))) (Kd.R_lt (by (with_reducible repeat (first | apply Kd.R_alloc | apply Kd.R_drewN | apply Kd.R_drew)); exact HO343.out))) (Kd.R_lt (by (with_reducible repeat (first | apply Kd.R_alloc | apply Kd.R_drewN | apply Kd.R_drew)); exact HO347.out))) (Kd.R_lt (by (with_reducible repeat (first | apply Kd.R_alloc | apply Kd.R_drewN | apply Kd.R_drew)); exact HO350.out))) (below_size (by repeat (first | (with_reducible first | exact HB.out | apply below_alloc | apply pw_below_drewN | apply below_drew1 | refine below_set ?_ GE300.out | refine below_set ?_ GE301.out) | exact HB.out)))); have n13_ := Aside0.mk (blk_below (g := gb300) (o := .cells #[.int .i64 a1_0, .int .i64 a1_1, .int .i64 a1_2] 24 (0, 0)) (by (with_reducible repeat (first | refine blk_drewN ?_ _ | refine blk_drew ?_ | refine blk_alloc ?_ _)); exact BK300.out) hb); have n14_ := Aside0.mk (blk_below (g := gb301) (o := .cells #[.int .i64 a6_0, .slice A6_1 l6_1.length c6_1] 36 (0, 0)) (by (with_reducible repeat (first | refine blk_drewN ?_ _ | refine blk_drew ?_ | refine blk_alloc ?_ _)); exact BK301.out) hb); have n15_ := Aside0.mk (below_step (by repeat (first | (with_reducible first | exact HB.out | apply below_alloc | apply pw_below_drewN | apply below_drew1 | refine below_set ?_ GE300.out | refine below_set ?_ GE301.out) | exact HB.out)) hb); clear HO304; clear HO307; clear HO312; clear HO317; clear HO320; clear HO324; clear HO327; clear HO335; clear HO339; clear HO343; clear HO347; clear HO350; clear BK300; clear BK301; clear HB; have HO304 := n0_; have HO307 := n1_; have HO312 := n2_; have HO317 := n3_; have HO320 := n4_; have HO324 := n5_; have HO327 := n6_; have HO335 := n7_; have HO339 := n8_; have HO343 := n9_; have HO347 := n10_; have HO350 := n11_; have HO354 := n12_; have BK300 := n13_; have BK301 := n14_; have HB := n15_; clear n0_ n1_ n2_ n3_ n4_ n5_ n6_ n7_ n8_ n9_ n10_ n11_ n12_ n13_ n14_ n15_; (try clear hb); (try clear hb2); (try clear hk); (try clear hi); (try clear ho0)))
  (try simp only [Act.put, List.setIfInBounds_toArray, List.set_cons_zero, List.set_cons_succ])
  go_cut [191] (fun v191 wc => ∃ (kq : Nat) (x191_18 : Bool), v191 = .bool x191_18 ∧ Aside0 (waybilllaw23_SessionTells.j0 kq l0 a2 a3 t302 t344 t345 t351 t352 x191_18 a1_0 a1_1 a1_2 = some r) ∧ Aside0 (kq ≤ k) ∧ Aside0 (Kd.R k38 38 wc w.heap.size (fun _ => True) (.slice Ao25 t302.length co25) t302) ∧ Aside0 (Kd.R (Kd.int .i64) 3 wc w.heap.size (fun k_ => some k_ ≠ (v353 : Value).ownBlock) v346 t344) ∧ Aside0 (Kd.R (Kd.int .i64) 3 wc w.heap.size (fun k_ => some k_ ≠ (v346 : Value).ownBlock) v353 t351) ∧ Aside0 (wc.heap[gb300]? = some (.cells #[.int .i64 a1_0, .int .i64 a1_1, .int .i64 a1_2] 24 (0, 0))) ∧ Aside0 (wc.heap[gb301]? = some (.cells #[.int .i64 a6_0, (.slice A6_1 l6_1.length c6_1)] 36 (0, 0))) ∧ Aside0 (Below w.heap.size w wc))
  case first =>
    have H := HC19.out
    clear HC19
    replace H := Option.bind_eq_some_iff.mp H
    obtain ⟨t355, A510, H⟩ := H
    replace H : (if t355 = true then (if t308 = t313 then ((waybilllaw23_num.f t309).bind fun t356 => (if t356 = t314 then ((waybillref23_Same.f t315 t322).bind fun t357 => (if t357 = true then ((waybillplain_SameInts.f k t318 t325).bind fun t358 => (if t358 = true then ((waybilllaw23_num.f t321).bind fun t359 => (if t359 = t328 then (if t329 = t331 then ((waybilllaw23_num.f t330).bind fun t360 => (if t360 = t332 then ((waybillref23_Same.f t333 t337).bind fun t361 => (if t361 = true then ((waybilllaw23_num.f t336).bind fun t362 => (waybilllaw23_SessionTells.j0 k l0 a2 a3 t302 t344 t345 t351 t352 (t362 != t340) a1_0 a1_1 a1_2)) else (waybilllaw23_SessionTells.j0 k l0 a2 a3 t302 t344 t345 t351 t352 true a1_0 a1_1 a1_2))) else (waybilllaw23_SessionTells.j0 k l0 a2 a3 t302 t344 t345 t351 t352 true a1_0 a1_1 a1_2))) else (waybilllaw23_SessionTells.j0 k l0 a2 a3 t302 t344 t345 t351 t352 true a1_0 a1_1 a1_2)) else (waybilllaw23_SessionTells.j0 k l0 a2 a3 t302 t344 t345 t351 t352 true a1_0 a1_1 a1_2))) else (waybilllaw23_SessionTells.j0 k l0 a2 a3 t302 t344 t345 t351 t352 true a1_0 a1_1 a1_2))) else (waybilllaw23_SessionTells.j0 k l0 a2 a3 t302 t344 t345 t351 t352 true a1_0 a1_1 a1_2))) else (waybilllaw23_SessionTells.j0 k l0 a2 a3 t302 t344 t345 t351 t352 true a1_0 a1_1 a1_2))) else (waybilllaw23_SessionTells.j0 k l0 a2 a3 t302 t344 t345 t351 t352 true a1_0 a1_1 a1_2)) else (waybilllaw23_SessionTells.j0 k l0 a2 a3 t302 t344 t345 t351 t352 true a1_0 a1_1 a1_2)) = some r := H
    have A51 := Aside0.mk A510
    clear A510
    by_cases c52 : t355 = true
    · subst c52
      have H1 : (if t308 = t313 then ((waybilllaw23_num.f t309).bind fun t356 => (if t356 = t314 then ((waybillref23_Same.f t315 t322).bind fun t357 => (if t357 = true then ((waybillplain_SameInts.f k t318 t325).bind fun t358 => (if t358 = true then ((waybilllaw23_num.f t321).bind fun t359 => (if t359 = t328 then (if t329 = t331 then ((waybilllaw23_num.f t330).bind fun t360 => (if t360 = t332 then ((waybillref23_Same.f t333 t337).bind fun t361 => (if t361 = true then ((waybilllaw23_num.f t336).bind fun t362 => (waybilllaw23_SessionTells.j0 k l0 a2 a3 t302 t344 t345 t351 t352 (t362 != t340) a1_0 a1_1 a1_2)) else (waybilllaw23_SessionTells.j0 k l0 a2 a3 t302 t344 t345 t351 t352 true a1_0 a1_1 a1_2))) else (waybilllaw23_SessionTells.j0 k l0 a2 a3 t302 t344 t345 t351 t352 true a1_0 a1_1 a1_2))) else (waybilllaw23_SessionTells.j0 k l0 a2 a3 t302 t344 t345 t351 t352 true a1_0 a1_1 a1_2)) else (waybilllaw23_SessionTells.j0 k l0 a2 a3 t302 t344 t345 t351 t352 true a1_0 a1_1 a1_2))) else (waybilllaw23_SessionTells.j0 k l0 a2 a3 t302 t344 t345 t351 t352 true a1_0 a1_1 a1_2))) else (waybilllaw23_SessionTells.j0 k l0 a2 a3 t302 t344 t345 t351 t352 true a1_0 a1_1 a1_2))) else (waybilllaw23_SessionTells.j0 k l0 a2 a3 t302 t344 t345 t351 t352 true a1_0 a1_1 a1_2))) else (waybilllaw23_SessionTells.j0 k l0 a2 a3 t302 t344 t345 t351 t352 true a1_0 a1_1 a1_2)) = some r := by rw [if_pos rfl] at H; exact H
      clear H
      have H := H1
      clear H1
      by_cases c53 : t308 = t313
      · rw [if_pos c53] at H
        have c53b0 : (t308 == t313) = true := beq_iff_eq.mpr c53
        have c53b1 : (t308 != t313) = false := bne_eq_false_iff_eq.mpr c53
        clear c53
        (first | rw [c53b0] | (simp only [i64_w, i32_w]; rw [c53b0]) | skip)
        replace H := Option.bind_eq_some_iff.mp H
        obtain ⟨t356, A540, H⟩ := H
        replace H : (if t356 = t314 then ((waybillref23_Same.f t315 t322).bind fun t357 => (if t357 = true then ((waybillplain_SameInts.f k t318 t325).bind fun t358 => (if t358 = true then ((waybilllaw23_num.f t321).bind fun t359 => (if t359 = t328 then (if t329 = t331 then ((waybilllaw23_num.f t330).bind fun t360 => (if t360 = t332 then ((waybillref23_Same.f t333 t337).bind fun t361 => (if t361 = true then ((waybilllaw23_num.f t336).bind fun t362 => (waybilllaw23_SessionTells.j0 k l0 a2 a3 t302 t344 t345 t351 t352 (t362 != t340) a1_0 a1_1 a1_2)) else (waybilllaw23_SessionTells.j0 k l0 a2 a3 t302 t344 t345 t351 t352 true a1_0 a1_1 a1_2))) else (waybilllaw23_SessionTells.j0 k l0 a2 a3 t302 t344 t345 t351 t352 true a1_0 a1_1 a1_2))) else (waybilllaw23_SessionTells.j0 k l0 a2 a3 t302 t344 t345 t351 t352 true a1_0 a1_1 a1_2)) else (waybilllaw23_SessionTells.j0 k l0 a2 a3 t302 t344 t345 t351 t352 true a1_0 a1_1 a1_2))) else (waybilllaw23_SessionTells.j0 k l0 a2 a3 t302 t344 t345 t351 t352 true a1_0 a1_1 a1_2))) else (waybilllaw23_SessionTells.j0 k l0 a2 a3 t302 t344 t345 t351 t352 true a1_0 a1_1 a1_2))) else (waybilllaw23_SessionTells.j0 k l0 a2 a3 t302 t344 t345 t351 t352 true a1_0 a1_1 a1_2)) = some r := H
        have A54 := Aside0.mk A540
        clear A540
        by_cases c55 : t356 = t314
        · rw [if_pos c55] at H
          have c55b0 : (t356 == t314) = true := beq_iff_eq.mpr c55
          have c55b1 : (t356 != t314) = false := bne_eq_false_iff_eq.mpr c55
          clear c55
          replace H := Option.bind_eq_some_iff.mp H
          obtain ⟨t357, A560, H⟩ := H
          replace H : (if t357 = true then ((waybillplain_SameInts.f k t318 t325).bind fun t358 => (if t358 = true then ((waybilllaw23_num.f t321).bind fun t359 => (if t359 = t328 then (if t329 = t331 then ((waybilllaw23_num.f t330).bind fun t360 => (if t360 = t332 then ((waybillref23_Same.f t333 t337).bind fun t361 => (if t361 = true then ((waybilllaw23_num.f t336).bind fun t362 => (waybilllaw23_SessionTells.j0 k l0 a2 a3 t302 t344 t345 t351 t352 (t362 != t340) a1_0 a1_1 a1_2)) else (waybilllaw23_SessionTells.j0 k l0 a2 a3 t302 t344 t345 t351 t352 true a1_0 a1_1 a1_2))) else (waybilllaw23_SessionTells.j0 k l0 a2 a3 t302 t344 t345 t351 t352 true a1_0 a1_1 a1_2))) else (waybilllaw23_SessionTells.j0 k l0 a2 a3 t302 t344 t345 t351 t352 true a1_0 a1_1 a1_2)) else (waybilllaw23_SessionTells.j0 k l0 a2 a3 t302 t344 t345 t351 t352 true a1_0 a1_1 a1_2))) else (waybilllaw23_SessionTells.j0 k l0 a2 a3 t302 t344 t345 t351 t352 true a1_0 a1_1 a1_2))) else (waybilllaw23_SessionTells.j0 k l0 a2 a3 t302 t344 t345 t351 t352 true a1_0 a1_1 a1_2)) = some r := H
          have A56 := Aside0.mk A560
          clear A560
          by_cases c57 : t357 = true
          · subst c57
            have H1 : ((waybillplain_SameInts.f k t318 t325).bind fun t358 => (if t358 = true then ((waybilllaw23_num.f t321).bind fun t359 => (if t359 = t328 then (if t329 = t331 then ((waybilllaw23_num.f t330).bind fun t360 => (if t360 = t332 then ((waybillref23_Same.f t333 t337).bind fun t361 => (if t361 = true then ((waybilllaw23_num.f t336).bind fun t362 => (waybilllaw23_SessionTells.j0 k l0 a2 a3 t302 t344 t345 t351 t352 (t362 != t340) a1_0 a1_1 a1_2)) else (waybilllaw23_SessionTells.j0 k l0 a2 a3 t302 t344 t345 t351 t352 true a1_0 a1_1 a1_2))) else (waybilllaw23_SessionTells.j0 k l0 a2 a3 t302 t344 t345 t351 t352 true a1_0 a1_1 a1_2))) else (waybilllaw23_SessionTells.j0 k l0 a2 a3 t302 t344 t345 t351 t352 true a1_0 a1_1 a1_2)) else (waybilllaw23_SessionTells.j0 k l0 a2 a3 t302 t344 t345 t351 t352 true a1_0 a1_1 a1_2))) else (waybilllaw23_SessionTells.j0 k l0 a2 a3 t302 t344 t345 t351 t352 true a1_0 a1_1 a1_2))) = some r := by rw [if_pos rfl] at H; exact H
            clear H
            have H := H1
            clear H1
            replace H := Option.bind_eq_some_iff.mp H
            obtain ⟨t358, A580, H⟩ := H
            replace H : (if t358 = true then ((waybilllaw23_num.f t321).bind fun t359 => (if t359 = t328 then (if t329 = t331 then ((waybilllaw23_num.f t330).bind fun t360 => (if t360 = t332 then ((waybillref23_Same.f t333 t337).bind fun t361 => (if t361 = true then ((waybilllaw23_num.f t336).bind fun t362 => (waybilllaw23_SessionTells.j0 k l0 a2 a3 t302 t344 t345 t351 t352 (t362 != t340) a1_0 a1_1 a1_2)) else (waybilllaw23_SessionTells.j0 k l0 a2 a3 t302 t344 t345 t351 t352 true a1_0 a1_1 a1_2))) else (waybilllaw23_SessionTells.j0 k l0 a2 a3 t302 t344 t345 t351 t352 true a1_0 a1_1 a1_2))) else (waybilllaw23_SessionTells.j0 k l0 a2 a3 t302 t344 t345 t351 t352 true a1_0 a1_1 a1_2)) else (waybilllaw23_SessionTells.j0 k l0 a2 a3 t302 t344 t345 t351 t352 true a1_0 a1_1 a1_2))) else (waybilllaw23_SessionTells.j0 k l0 a2 a3 t302 t344 t345 t351 t352 true a1_0 a1_1 a1_2)) = some r := H
            have A58 := Aside0.mk A580
            clear A580
            by_cases c59 : t358 = true
            · subst c59
              have H1 : ((waybilllaw23_num.f t321).bind fun t359 => (if t359 = t328 then (if t329 = t331 then ((waybilllaw23_num.f t330).bind fun t360 => (if t360 = t332 then ((waybillref23_Same.f t333 t337).bind fun t361 => (if t361 = true then ((waybilllaw23_num.f t336).bind fun t362 => (waybilllaw23_SessionTells.j0 k l0 a2 a3 t302 t344 t345 t351 t352 (t362 != t340) a1_0 a1_1 a1_2)) else (waybilllaw23_SessionTells.j0 k l0 a2 a3 t302 t344 t345 t351 t352 true a1_0 a1_1 a1_2))) else (waybilllaw23_SessionTells.j0 k l0 a2 a3 t302 t344 t345 t351 t352 true a1_0 a1_1 a1_2))) else (waybilllaw23_SessionTells.j0 k l0 a2 a3 t302 t344 t345 t351 t352 true a1_0 a1_1 a1_2)) else (waybilllaw23_SessionTells.j0 k l0 a2 a3 t302 t344 t345 t351 t352 true a1_0 a1_1 a1_2))) = some r := by rw [if_pos rfl] at H; exact H
              clear H
              have H := H1
              clear H1
              replace H := Option.bind_eq_some_iff.mp H
              obtain ⟨t359, A600, H⟩ := H
              replace H : (if t359 = t328 then (if t329 = t331 then ((waybilllaw23_num.f t330).bind fun t360 => (if t360 = t332 then ((waybillref23_Same.f t333 t337).bind fun t361 => (if t361 = true then ((waybilllaw23_num.f t336).bind fun t362 => (waybilllaw23_SessionTells.j0 k l0 a2 a3 t302 t344 t345 t351 t352 (t362 != t340) a1_0 a1_1 a1_2)) else (waybilllaw23_SessionTells.j0 k l0 a2 a3 t302 t344 t345 t351 t352 true a1_0 a1_1 a1_2))) else (waybilllaw23_SessionTells.j0 k l0 a2 a3 t302 t344 t345 t351 t352 true a1_0 a1_1 a1_2))) else (waybilllaw23_SessionTells.j0 k l0 a2 a3 t302 t344 t345 t351 t352 true a1_0 a1_1 a1_2)) else (waybilllaw23_SessionTells.j0 k l0 a2 a3 t302 t344 t345 t351 t352 true a1_0 a1_1 a1_2)) = some r := H
              have A60 := Aside0.mk A600
              clear A600
              by_cases c61 : t359 = t328
              · rw [if_pos c61] at H
                have c61b0 : (t359 == t328) = true := beq_iff_eq.mpr c61
                have c61b1 : (t359 != t328) = false := bne_eq_false_iff_eq.mpr c61
                clear c61
                by_cases c62 : t329 = t331
                · rw [if_pos c62] at H
                  have c62b0 : (t329 == t331) = true := beq_iff_eq.mpr c62
                  have c62b1 : (t329 != t331) = false := bne_eq_false_iff_eq.mpr c62
                  clear c62
                  replace H := Option.bind_eq_some_iff.mp H
                  obtain ⟨t360, A630, H⟩ := H
                  replace H : (if t360 = t332 then ((waybillref23_Same.f t333 t337).bind fun t361 => (if t361 = true then ((waybilllaw23_num.f t336).bind fun t362 => (waybilllaw23_SessionTells.j0 k l0 a2 a3 t302 t344 t345 t351 t352 (t362 != t340) a1_0 a1_1 a1_2)) else (waybilllaw23_SessionTells.j0 k l0 a2 a3 t302 t344 t345 t351 t352 true a1_0 a1_1 a1_2))) else (waybilllaw23_SessionTells.j0 k l0 a2 a3 t302 t344 t345 t351 t352 true a1_0 a1_1 a1_2)) = some r := H
                  have A63 := Aside0.mk A630
                  clear A630
                  by_cases c64 : t360 = t332
                  · rw [if_pos c64] at H
                    have c64b0 : (t360 == t332) = true := beq_iff_eq.mpr c64
                    have c64b1 : (t360 != t332) = false := bne_eq_false_iff_eq.mpr c64
                    clear c64
                    replace H := Option.bind_eq_some_iff.mp H
                    obtain ⟨t361, A650, H⟩ := H
                    replace H : (if t361 = true then ((waybilllaw23_num.f t336).bind fun t362 => (waybilllaw23_SessionTells.j0 k l0 a2 a3 t302 t344 t345 t351 t352 (t362 != t340) a1_0 a1_1 a1_2)) else (waybilllaw23_SessionTells.j0 k l0 a2 a3 t302 t344 t345 t351 t352 true a1_0 a1_1 a1_2)) = some r := H
                    have A65 := Aside0.mk A650
                    clear A650
                    by_cases c66 : t361 = true
                    · subst c66
                      have H1 : ((waybilllaw23_num.f t336).bind fun t362 => (waybilllaw23_SessionTells.j0 k l0 a2 a3 t302 t344 t345 t351 t352 (t362 != t340) a1_0 a1_1 a1_2)) = some r := by rw [if_pos rfl] at H; exact H
                      clear H
                      have H := H1
                      clear H1
                      replace H := Option.bind_eq_some_iff.mp H
                      obtain ⟨t362, A670, H⟩ := H
                      replace H : (waybilllaw23_SessionTells.j0 k l0 a2 a3 t302 t344 t345 t351 t352 (t362 != t340) a1_0 a1_1 a1_2) = some r := H
                      have A67 := Aside0.mk A670
                      clear A670
                      have H' := Aside0.mk H
                      clear H
                      obtain ⟨Ao68, co68, eo68⟩ := Kd.R_slice HO307.out
                      subst eo68
                      obtain ⟨Ao69, co69, eo69⟩ := Kd.R_slice HO312.out
                      subst eo69
                      go_wp2_with (first | ((with_reducible refine gate_callee (f := 21) rfl ?_); refine goesL_ (some 138) rfl rfl Try.func21 (by kernel_rfl) rfl #[.slice Ao68 t305.length co68, .slice Ao69 t310.length co69] rfl (by (try simp only [List.map_toArray, List.map_cons, List.map_nil]); first | done | rfl | (simp only [List.length_drop, List.length_take]; rfl)) ?_; (with_reducible refine (waybillref23_Same.calls _ _ t305 _ _ t310 true _ ?side1 ?side2 ?side3 ?side4 A51.out).mono ?_); (case side1 => repeat (first | exact (Kd.R_reads' HO307.out).2.2 | (with_reducible refine Kd.C_alloc ?_ _) | (with_reducible refine Kd.C_drewN ?_ _) | (with_reducible refine Kd.C_drew ?_))); (case side2 => exact (Kd.R_reads' HO307.out).2.1); (case side3 => repeat (first | exact (Kd.R_reads' HO312.out).2.2 | (with_reducible refine Kd.C_alloc ?_ _) | (with_reducible refine Kd.C_drewN ?_ _) | (with_reducible refine Kd.C_drew ?_))); (case side4 => exact (Kd.R_reads' HO312.out).2.1); rintro e w70 ⟨rfl, hb⟩; refine ⟨_, rfl, ?_⟩; have n0_ := Aside0.mk (Kd.R_below (by (with_reducible repeat (first | apply Kd.R_alloc | apply Kd.R_drewN | apply Kd.R_drew)); exact HO304.out) hb); have n1_ := Aside0.mk (Kd.R_below (by (with_reducible repeat (first | apply Kd.R_alloc | apply Kd.R_drewN | apply Kd.R_drew)); exact HO307.out) hb); have n2_ := Aside0.mk (Kd.R_below (by (with_reducible repeat (first | apply Kd.R_alloc | apply Kd.R_drewN | apply Kd.R_drew)); exact HO312.out) hb); have n3_ := Aside0.mk (Kd.R_below (by (with_reducible repeat (first | apply Kd.R_alloc | apply Kd.R_drewN | apply Kd.R_drew)); exact HO317.out) hb); have n4_ := Aside0.mk (Kd.R_below (by (with_reducible repeat (first | apply Kd.R_alloc | apply Kd.R_drewN | apply Kd.R_drew)); exact HO320.out) hb); have n5_ := Aside0.mk (Kd.R_below (by (with_reducible repeat (first | apply Kd.R_alloc | apply Kd.R_drewN | apply Kd.R_drew)); exact HO324.out) hb); have n6_ := Aside0.mk (Kd.R_below (by (with_reducible repeat (first | apply Kd.R_alloc | apply Kd.R_drewN | apply Kd.R_drew)); exact HO327.out) hb); have n7_ := Aside0.mk (Kd.R_below (by (with_reducible repeat (first | apply Kd.R_alloc | apply Kd.R_drewN | apply Kd.R_drew)); exact HO335.out) hb); have n8_ := Aside0.mk (Kd.R_below (by (with_reducible repeat (first | apply Kd.R_alloc | apply Kd.R_drewN | apply Kd.R_drew)); exact HO339.out) hb); have n9_ := Aside0.mk (Kd.R_below (by (with_reducible repeat (first | apply Kd.R_alloc | apply Kd.R_drewN | apply Kd.R_drew)); exact HO343.out) hb); have n10_ := Aside0.mk (Kd.R_below (by (with_reducible repeat (first | apply Kd.R_alloc | apply Kd.R_drewN | apply Kd.R_drew)); exact HO347.out) hb); have n11_ := Aside0.mk (Kd.R_below (by (with_reducible repeat (first | apply Kd.R_alloc | apply Kd.R_drewN | apply Kd.R_drew)); exact HO350.out) hb); have n12_ := Aside0.mk (Kd.R_below (by (with_reducible repeat (first | apply Kd.R_alloc | apply Kd.R_drewN | apply Kd.R_drew)); exact HO354.out) hb); have n13_ := Aside0.mk (blk_below (g := gb300) (o := .cells #[.int .i64 a1_0, .int .i64 a1_1, .int .i64 a1_2] 24 (0, 0)) (by (with_reducible repeat (first | refine blk_drewN ?_ _ | refine blk_drew ?_ | refine blk_alloc ?_ _)); exact BK300.out) hb); have n14_ := Aside0.mk (blk_below (g := gb301) (o := .cells #[.int .i64 a6_0, .slice A6_1 l6_1.length c6_1] 36 (0, 0)) (by (with_reducible repeat (first | refine blk_drewN ?_ _ | refine blk_drew ?_ | refine blk_alloc ?_ _)); exact BK301.out) hb); have n15_ := Aside0.mk (below_step (by repeat (first | (with_reducible first | exact HB.out | apply below_alloc | apply pw_below_drewN | apply below_drew1 | refine below_set ?_ GE300.out | refine below_set ?_ GE301.out) | exact HB.out)) hb); clear HO304; clear HO307; clear HO312; clear HO317; clear HO320; clear HO324; clear HO327; clear HO335; clear HO339; clear HO343; clear HO347; clear HO350; clear HO354; clear BK300; clear BK301; clear HB; have HO304 := n0_; have HO307 := n1_; have HO312 := n2_; have HO317 := n3_; have HO320 := n4_; have HO324 := n5_; have HO327 := n6_; have HO335 := n7_; have HO339 := n8_; have HO343 := n9_; have HO347 := n10_; have HO350 := n11_; have HO354 := n12_; have BK300 := n13_; have BK301 := n14_; have HB := n15_; clear n0_ n1_ n2_ n3_ n4_ n5_ n6_ n7_ n8_ n9_ n10_ n11_ n12_ n13_ n14_ n15_; (try clear hb); (try clear hb2); (try clear hk); (try clear hi)) | (go_at_call 11; (with_reducible refine (waybilllaw23_num.calls t309 t356 _ A54.out).mono ?_); rintro e w' ⟨rfl, ⟨nd, rfl⟩⟩; obtain ⟨Ao71, co71, eo71⟩ := Kd.R_slice HO317.out; subst eo71; obtain ⟨Ao72, co72, eo72⟩ := Kd.R_slice HO324.out; subst eo72) | (go_at_call 21; (with_reducible refine (waybillref23_Same.calls _ _ t315 _ _ t322 true _ ?side1 ?side2 ?side3 ?side4 A56.out).mono ?_); (case side1 => repeat (first | exact (Kd.R_reads' HO317.out).2.2 | (with_reducible refine Kd.C_alloc ?_ _) | (with_reducible refine Kd.C_drewN ?_ _) | (with_reducible refine Kd.C_drew ?_))); (case side2 => exact (Kd.R_reads' HO317.out).2.1); (case side3 => repeat (first | exact (Kd.R_reads' HO324.out).2.2 | (with_reducible refine Kd.C_alloc ?_ _) | (with_reducible refine Kd.C_drewN ?_ _) | (with_reducible refine Kd.C_drew ?_))); (case side4 => exact (Kd.R_reads' HO324.out).2.1); rintro e w73 ⟨rfl, hb⟩; have n0_ := Aside0.mk (Kd.R_below (by (with_reducible repeat (first | apply Kd.R_alloc | apply Kd.R_drewN | apply Kd.R_drew)); exact HO304.out) hb); have n1_ := Aside0.mk (Kd.R_below (by (with_reducible repeat (first | apply Kd.R_alloc | apply Kd.R_drewN | apply Kd.R_drew)); exact HO307.out) hb); have n2_ := Aside0.mk (Kd.R_below (by (with_reducible repeat (first | apply Kd.R_alloc | apply Kd.R_drewN | apply Kd.R_drew)); exact HO312.out) hb); have n3_ := Aside0.mk (Kd.R_below (by (with_reducible repeat (first | apply Kd.R_alloc | apply Kd.R_drewN | apply Kd.R_drew)); exact HO317.out) hb); have n4_ := Aside0.mk (Kd.R_below (by (with_reducible repeat (first | apply Kd.R_alloc | apply Kd.R_drewN | apply Kd.R_drew)); exact HO320.out) hb); have n5_ := Aside0.mk (Kd.R_below (by (with_reducible repeat (first | apply Kd.R_alloc | apply Kd.R_drewN | apply Kd.R_drew)); exact HO324.out) hb); have n6_ := Aside0.mk (Kd.R_below (by (with_reducible repeat (first | apply Kd.R_alloc | apply Kd.R_drewN | apply Kd.R_drew)); exact HO327.out) hb); have n7_ := Aside0.mk (Kd.R_below (by (with_reducible repeat (first | apply Kd.R_alloc | apply Kd.R_drewN | apply Kd.R_drew)); exact HO335.out) hb); have n8_ := Aside0.mk (Kd.R_below (by (with_reducible repeat (first | apply Kd.R_alloc | apply Kd.R_drewN | apply Kd.R_drew)); exact HO339.out) hb); have n9_ := Aside0.mk (Kd.R_below (by (with_reducible repeat (first | apply Kd.R_alloc | apply Kd.R_drewN | apply Kd.R_drew)); exact HO343.out) hb); have n10_ := Aside0.mk (Kd.R_below (by (with_reducible repeat (first | apply Kd.R_alloc | apply Kd.R_drewN | apply Kd.R_drew)); exact HO347.out) hb); have n11_ := Aside0.mk (Kd.R_below (by (with_reducible repeat (first | apply Kd.R_alloc | apply Kd.R_drewN | apply Kd.R_drew)); exact HO350.out) hb); have n12_ := Aside0.mk (Kd.R_below (by (with_reducible repeat (first | apply Kd.R_alloc | apply Kd.R_drewN | apply Kd.R_drew)); exact HO354.out) hb); have n13_ := Aside0.mk (blk_below (g := gb300) (o := .cells #[.int .i64 a1_0, .int .i64 a1_1, .int .i64 a1_2] 24 (0, 0)) (by (with_reducible repeat (first | refine blk_drewN ?_ _ | refine blk_drew ?_ | refine blk_alloc ?_ _)); exact BK300.out) hb); have n14_ := Aside0.mk (blk_below (g := gb301) (o := .cells #[.int .i64 a6_0, .slice A6_1 l6_1.length c6_1] 36 (0, 0)) (by (with_reducible repeat (first | refine blk_drewN ?_ _ | refine blk_drew ?_ | refine blk_alloc ?_ _)); exact BK301.out) hb); have n15_ := Aside0.mk (below_step (by repeat (first | (with_reducible first | exact HB.out | apply below_alloc | apply pw_below_drewN | apply below_drew1 | refine below_set ?_ GE300.out | refine below_set ?_ GE301.out) | exact HB.out)) hb); clear HO304; clear HO307; clear HO312; clear HO317; clear HO320; clear HO324; clear HO327; clear HO335; clear HO339; clear HO343; clear HO347; clear HO350; clear HO354; clear BK300; clear BK301; clear HB; have HO304 := n0_; have HO307 := n1_; have HO312 := n2_; have HO317 := n3_; have HO320 := n4_; have HO324 := n5_; have HO327 := n6_; have HO335 := n7_; have HO339 := n8_; have HO343 := n9_; have HO347 := n10_; have HO350 := n11_; have HO354 := n12_; have BK300 := n13_; have BK301 := n14_; have HB := n15_; clear n0_ n1_ n2_ n3_ n4_ n5_ n6_ n7_ n8_ n9_ n10_ n11_ n12_ n13_ n14_ n15_; (try clear hb); (try clear hb2); (try clear hk); (try clear hi); obtain ⟨Ao74, co74, eo74⟩ := Kd.R_slice HO320.out; subst eo74; obtain ⟨Ao75, co75, eo75⟩ := Kd.R_slice HO327.out; subst eo75) | (go_at_call 27; (with_reducible refine (waybillplain_SameInts.calls k _ _ t318 _ _ t325 true _ ?side1 ?side2 ?side3 ?side4 A58.out).mono ?_); (case side1 => repeat (first | exact (Kd.R_reads' HO320.out).2.2 | (with_reducible refine Kd.C_alloc ?_ _) | (with_reducible refine Kd.C_drewN ?_ _) | (with_reducible refine Kd.C_drew ?_))); (case side2 => exact (Kd.R_reads' HO320.out).2.1); (case side3 => repeat (first | exact (Kd.R_reads' HO327.out).2.2 | (with_reducible refine Kd.C_alloc ?_ _) | (with_reducible refine Kd.C_drewN ?_ _) | (with_reducible refine Kd.C_drew ?_))); (case side4 => exact (Kd.R_reads' HO327.out).2.1); rintro e w' ⟨rfl, ⟨nd, rfl⟩⟩) | (go_at_call 11; (with_reducible refine (waybilllaw23_num.calls t321 t359 _ A60.out).mono ?_); rintro e w' ⟨rfl, ⟨nd, rfl⟩⟩) | (go_at_call 11; (with_reducible refine (waybilllaw23_num.calls t330 t360 _ A63.out).mono ?_); rintro e w' ⟨rfl, ⟨nd, rfl⟩⟩; obtain ⟨Ao76, co76, eo76⟩ := Kd.R_slice HO335.out; subst eo76; obtain ⟨Ao77, co77, eo77⟩ := Kd.R_slice HO339.out; subst eo77) | (go_at_call 21; (with_reducible refine (waybillref23_Same.calls _ _ t333 _ _ t337 true _ ?side1 ?side2 ?side3 ?side4 A65.out).mono ?_); (case side1 => repeat (first | exact (Kd.R_reads' HO335.out).2.2 | (with_reducible refine Kd.C_alloc ?_ _) | (with_reducible refine Kd.C_drewN ?_ _) | (with_reducible refine Kd.C_drew ?_))); (case side2 => exact (Kd.R_reads' HO335.out).2.1); (case side3 => repeat (first | exact (Kd.R_reads' HO339.out).2.2 | (with_reducible refine Kd.C_alloc ?_ _) | (with_reducible refine Kd.C_drewN ?_ _) | (with_reducible refine Kd.C_drew ?_))); (case side4 => exact (Kd.R_reads' HO339.out).2.1); rintro e w78 ⟨rfl, hb⟩; have n0_ := Aside0.mk (Kd.R_below (by (with_reducible repeat (first | apply Kd.R_alloc | apply Kd.R_drewN | apply Kd.R_drew)); exact HO304.out) hb); have n1_ := Aside0.mk (Kd.R_below (by (with_reducible repeat (first | apply Kd.R_alloc | apply Kd.R_drewN | apply Kd.R_drew)); exact HO307.out) hb); have n2_ := Aside0.mk (Kd.R_below (by (with_reducible repeat (first | apply Kd.R_alloc | apply Kd.R_drewN | apply Kd.R_drew)); exact HO312.out) hb); have n3_ := Aside0.mk (Kd.R_below (by (with_reducible repeat (first | apply Kd.R_alloc | apply Kd.R_drewN | apply Kd.R_drew)); exact HO317.out) hb); have n4_ := Aside0.mk (Kd.R_below (by (with_reducible repeat (first | apply Kd.R_alloc | apply Kd.R_drewN | apply Kd.R_drew)); exact HO320.out) hb); have n5_ := Aside0.mk (Kd.R_below (by (with_reducible repeat (first | apply Kd.R_alloc | apply Kd.R_drewN | apply Kd.R_drew)); exact HO324.out) hb); have n6_ := Aside0.mk (Kd.R_below (by (with_reducible repeat (first | apply Kd.R_alloc | apply Kd.R_drewN | apply Kd.R_drew)); exact HO327.out) hb); have n7_ := Aside0.mk (Kd.R_below (by (with_reducible repeat (first | apply Kd.R_alloc | apply Kd.R_drewN | apply Kd.R_drew)); exact HO335.out) hb); have n8_ := Aside0.mk (Kd.R_below (by (with_reducible repeat (first | apply Kd.R_alloc | apply Kd.R_drewN | apply Kd.R_drew)); exact HO339.out) hb); have n9_ := Aside0.mk (Kd.R_below (by (with_reducible repeat (first | apply Kd.R_alloc | apply Kd.R_drewN | apply Kd.R_drew)); exact HO343.out) hb); have n10_ := Aside0.mk (Kd.R_below (by (with_reducible repeat (first | apply Kd.R_alloc | apply Kd.R_drewN | apply Kd.R_drew)); exact HO347.out) hb); have n11_ := Aside0.mk (Kd.R_below (by (with_reducible repeat (first | apply Kd.R_alloc | apply Kd.R_drewN | apply Kd.R_drew)); exact HO350.out) hb); have n12_ := Aside0.mk (Kd.R_below (by (with_reducible repeat (first | apply Kd.R_alloc | apply Kd.R_drewN | apply Kd.R_drew)); exact HO354.out) hb); have n13_ := Aside0.mk (blk_below (g := gb300) (o := .cells #[.int .i64 a1_0, .int .i64 a1_1, .int .i64 a1_2] 24 (0, 0)) (by (with_reducible repeat (first | refine blk_drewN ?_ _ | refine blk_drew ?_ | refine blk_alloc ?_ _)); exact BK300.out) hb); have n14_ := Aside0.mk (blk_below (g := gb301) (o := .cells #[.int .i64 a6_0, .slice A6_1 l6_1.length c6_1] 36 (0, 0)) (by (with_reducible repeat (first | refine blk_drewN ?_ _ | refine blk_drew ?_ | refine blk_alloc ?_ _)); exact BK301.out) hb); have n15_ := Aside0.mk (below_step (by repeat (first | (with_reducible first | exact HB.out | apply below_alloc | apply pw_below_drewN | apply below_drew1 | refine below_set ?_ GE300.out | refine below_set ?_ GE301.out) | exact HB.out)) hb); clear HO304; clear HO307; clear HO312; clear HO317; clear HO320; clear HO324; clear HO327; clear HO335; clear HO339; clear HO343; clear HO347; clear HO350; clear HO354; clear BK300; clear BK301; clear HB; have HO304 := n0_; have HO307 := n1_; have HO312 := n2_; have HO317 := n3_; have HO320 := n4_; have HO324 := n5_; have HO327 := n6_; have HO335 := n7_; have HO339 := n8_; have HO343 := n9_; have HO347 := n10_; have HO350 := n11_; have HO354 := n12_; have BK300 := n13_; have BK301 := n14_; have HB := n15_; clear n0_ n1_ n2_ n3_ n4_ n5_ n6_ n7_ n8_ n9_ n10_ n11_ n12_ n13_ n14_ n15_; (try clear hb); (try clear hb2); (try clear hk); (try clear hi)) | (go_at_call 11; (with_reducible refine (waybilllaw23_num.calls t336 t362 _ A67.out).mono ?_); rintro e w' ⟨rfl, ⟨nd, rfl⟩⟩))
                      go_meet
                      case rel => exact ⟨_, ((t362 != t340)), (by first | rfl | (simp; done) | (simp [*]; done)), H', ⟨by first | omega | exact Nat.le_refl _⟩, ⟨by (with_reducible repeat (first | apply Kd.R_alloc | apply Kd.R_drewN | apply Kd.R_drew)); exact Kd.R_mono HO304.out (fun _ hk => trivial)⟩, ⟨by (with_reducible repeat (first | apply Kd.R_alloc | apply Kd.R_drewN | apply Kd.R_drew)); exact Kd.R_mono HO347.out (fun _ hk => hk.2)⟩, ⟨by (with_reducible repeat (first | apply Kd.R_alloc | apply Kd.R_drewN | apply Kd.R_drew)); exact Kd.R_mono HO354.out (fun _ hk => hk.1.2)⟩, ⟨by (with_reducible repeat (first | refine blk_drewN ?_ _ | refine blk_drew ?_ | refine blk_alloc ?_ _)); exact BK300.out⟩, ⟨by (with_reducible repeat (first | refine blk_drewN ?_ _ | refine blk_drew ?_ | refine blk_alloc ?_ _)); exact BK301.out⟩, ⟨by repeat (first | (with_reducible first | exact HB.out | apply below_alloc | apply pw_below_drewN | apply below_drew1 | refine below_set ?_ GE300.out | refine below_set ?_ GE301.out) | exact HB.out)⟩⟩
                    · replace c66 := Bool.eq_false_iff.mpr c66
                      subst c66
                      have H1 : (waybilllaw23_SessionTells.j0 k l0 a2 a3 t302 t344 t345 t351 t352 true a1_0 a1_1 a1_2) = some r := by rw [if_neg (show ¬ (false = true) by decide)] at H; exact H
                      clear H
                      have H := H1
                      clear H1
                      exact (waybilllaw23_SessionTells.j0_no _ _ _ _ _ _ _ _ _ _ _ _ (hrt ▸ H)).elim
                  · rw [if_neg c64] at H
                    have c64b0 : (t360 == t332) = false := beq_eq_false_iff_ne.mpr c64
                    have c64b1 : (t360 != t332) = true := bne_iff_ne.mpr c64
                    exact (waybilllaw23_SessionTells.j0_no _ _ _ _ _ _ _ _ _ _ _ _ (hrt ▸ H)).elim
                · rw [if_neg c62] at H
                  have c62b0 : (t329 == t331) = false := beq_eq_false_iff_ne.mpr c62
                  have c62b1 : (t329 != t331) = true := bne_iff_ne.mpr c62
                  exact (waybilllaw23_SessionTells.j0_no _ _ _ _ _ _ _ _ _ _ _ _ (hrt ▸ H)).elim
              · rw [if_neg c61] at H
                have c61b0 : (t359 == t328) = false := beq_eq_false_iff_ne.mpr c61
                have c61b1 : (t359 != t328) = true := bne_iff_ne.mpr c61
                exact (waybilllaw23_SessionTells.j0_no _ _ _ _ _ _ _ _ _ _ _ _ (hrt ▸ H)).elim
            · replace c59 := Bool.eq_false_iff.mpr c59
              subst c59
              have H1 : (waybilllaw23_SessionTells.j0 k l0 a2 a3 t302 t344 t345 t351 t352 true a1_0 a1_1 a1_2) = some r := by rw [if_neg (show ¬ (false = true) by decide)] at H; exact H
              clear H
              have H := H1
              clear H1
              exact (waybilllaw23_SessionTells.j0_no _ _ _ _ _ _ _ _ _ _ _ _ (hrt ▸ H)).elim
          · replace c57 := Bool.eq_false_iff.mpr c57
            subst c57
            have H1 : (waybilllaw23_SessionTells.j0 k l0 a2 a3 t302 t344 t345 t351 t352 true a1_0 a1_1 a1_2) = some r := by rw [if_neg (show ¬ (false = true) by decide)] at H; exact H
            clear H
            have H := H1
            clear H1
            exact (waybilllaw23_SessionTells.j0_no _ _ _ _ _ _ _ _ _ _ _ _ (hrt ▸ H)).elim
        · rw [if_neg c55] at H
          have c55b0 : (t356 == t314) = false := beq_eq_false_iff_ne.mpr c55
          have c55b1 : (t356 != t314) = true := bne_iff_ne.mpr c55
          exact (waybilllaw23_SessionTells.j0_no _ _ _ _ _ _ _ _ _ _ _ _ (hrt ▸ H)).elim
      · rw [if_neg c53] at H
        have c53b0 : (t308 == t313) = false := beq_eq_false_iff_ne.mpr c53
        have c53b1 : (t308 != t313) = true := bne_iff_ne.mpr c53
        (first | rw [c53b0] | (simp only [i64_w, i32_w]; rw [c53b0]) | skip)
        exact (waybilllaw23_SessionTells.j0_no _ _ _ _ _ _ _ _ _ _ _ _ (hrt ▸ H)).elim
    · replace c52 := Bool.eq_false_iff.mpr c52
      subst c52
      have H1 : (waybilllaw23_SessionTells.j0 k l0 a2 a3 t302 t344 t345 t351 t352 true a1_0 a1_1 a1_2) = some r := by rw [if_neg (show ¬ (false = true) by decide)] at H; exact H
      clear H
      have H := H1
      clear H1
      exact (waybilllaw23_SessionTells.j0_no _ _ _ _ _ _ _ _ _ _ _ _ (hrt ▸ H)).elim
  case rest =>
    clear HC19
    try clear c1
    try clear c2
    try clear p2
    try clear c5
    try clear c6
    try clear c8
    try clear c10
    try clear c12
    try clear c13
    try clear c14
    try clear c17
    try clear c19
    try clear c20
    try clear c21
    try clear c23
    try clear c24
    try clear c25
    try clear c26
    try clear c52
    try clear c53
    try clear c53b0
    try clear c53b1
    try clear c55
    try clear c55b0
    try clear c55b1
    try clear c57
    try clear c59
    try clear c61
    try clear c61b0
    try clear c61b1
    try clear c62
    try clear c62b0
    try clear c62b1
    try clear c64
    try clear c64b0
    try clear c64b1
    try clear c66
    try clear hcz24_0
    try clear hcz24_1
    try clear hcz24_2
    try clear hcz27_0
    try clear hcz27_1
    try clear hcz27_2
    try clear hcz29_0
    try clear hcz29_1
    try clear hcz29_2
    try clear hcz31_0
    try clear hcz31_1
    try clear hcz31_2
    try clear hcz33_0
    try clear hcz33_1
    try clear hcz33_2
    try clear hcz35_0
    try clear hcz35_1
    try clear hcz35_2
    try clear hcz37_0
    try clear hcz37_1
    try clear hcz37_2
    try clear hcz38_0
    try clear hcz38_1
    try clear hcz40_0
    try clear hcz40_1
    try clear hcz40_2
    try clear hcz41_0
    try clear hcz41_1
    try clear hfz24_0
    try clear hfz24_1
    try clear hfz24_2
    try clear hfz27_0
    try clear hfz27_1
    try clear hfz27_2
    try clear hfz29_0
    try clear hfz29_1
    try clear hfz29_2
    try clear hfz31_0
    try clear hfz31_1
    try clear hfz31_2
    try clear hfz33_0
    try clear hfz33_1
    try clear hfz33_2
    try clear hfz35_0
    try clear hfz35_1
    try clear hfz35_2
    try clear hfz37_0
    try clear hfz37_1
    try clear hfz37_2
    try clear hfz38_0
    try clear hfz38_1
    try clear hfz40_0
    try clear hfz40_1
    try clear hfz40_2
    try clear hfz41_0
    try clear hfz41_1
    obtain ⟨kq, x191_18, rfl, HA, HJ18, HO_15, HO_36, HO_38, BK300, BK301, HB⟩ := hcut
    cases kq with
    | zero => exact absurd HA.out (by simp [waybilllaw23_SessionTells.j0])
    | succ kj18 =>
      have H := HA.out
      clear HA
      simp only [waybilllaw23_SessionTells.j0] at H
      by_cases c137 : x191_18 = true
      · subst c137
        have H1 : (some false) = some r := by rw [if_pos rfl] at H; exact H
        clear H
        have H := H1
        clear H1
        obtain rfl := Option.some.inj H
        cases hrt
      · replace c137 := Bool.eq_false_iff.mpr c137
        subst c137
        have H1 : ((waybillplain_SameInts.f kj18 t344 t351).bind fun t363 => (if t363 = true then ((waybilllaw23_num.f t345).bind fun t364 => (if t364 = t352 then ((session_Check.f t302 a1_0 a1_1 a1_2 a2 a3).bind fun t365 => ((waybilllaw23_num.f t365).bind fun t366 => ((waybillref23_Check.f l0 a1_0 a1_1 a1_2 a2 a3).bind fun t367 => (if t366 = t367 then ((waybillref23_Same.f t302 l0).bind fun t368 => (if t368 = true then ((waybilllaw23_alive.f).bind fun t369 => (some t369)) else (some false))) else (some false))))) else (some false))) else (some false))) = some r := by rw [if_neg (show ¬ (false = true) by decide)] at H; exact H
        clear H
        have H := H1
        clear H1
        replace H := Option.bind_eq_some_iff.mp H
        obtain ⟨t363, A1380, H⟩ := H
        replace H : (if t363 = true then ((waybilllaw23_num.f t345).bind fun t364 => (if t364 = t352 then ((session_Check.f t302 a1_0 a1_1 a1_2 a2 a3).bind fun t365 => ((waybilllaw23_num.f t365).bind fun t366 => ((waybillref23_Check.f l0 a1_0 a1_1 a1_2 a2 a3).bind fun t367 => (if t366 = t367 then ((waybillref23_Same.f t302 l0).bind fun t368 => (if t368 = true then ((waybilllaw23_alive.f).bind fun t369 => (some t369)) else (some false))) else (some false))))) else (some false))) else (some false)) = some r := H
        have A138 := Aside0.mk A1380
        clear A1380
        by_cases c139 : t363 = true
        · subst c139
          have H1 : ((waybilllaw23_num.f t345).bind fun t364 => (if t364 = t352 then ((session_Check.f t302 a1_0 a1_1 a1_2 a2 a3).bind fun t365 => ((waybilllaw23_num.f t365).bind fun t366 => ((waybillref23_Check.f l0 a1_0 a1_1 a1_2 a2 a3).bind fun t367 => (if t366 = t367 then ((waybillref23_Same.f t302 l0).bind fun t368 => (if t368 = true then ((waybilllaw23_alive.f).bind fun t369 => (some t369)) else (some false))) else (some false))))) else (some false))) = some r := by rw [if_pos rfl] at H; exact H
          clear H
          have H := H1
          clear H1
          replace H := Option.bind_eq_some_iff.mp H
          obtain ⟨t364, A1400, H⟩ := H
          replace H : (if t364 = t352 then ((session_Check.f t302 a1_0 a1_1 a1_2 a2 a3).bind fun t365 => ((waybilllaw23_num.f t365).bind fun t366 => ((waybillref23_Check.f l0 a1_0 a1_1 a1_2 a2 a3).bind fun t367 => (if t366 = t367 then ((waybillref23_Same.f t302 l0).bind fun t368 => (if t368 = true then ((waybilllaw23_alive.f).bind fun t369 => (some t369)) else (some false))) else (some false))))) else (some false)) = some r := H
          have A140 := Aside0.mk A1400
          clear A1400
          by_cases c141 : t364 = t352
          · rw [if_pos c141] at H
            have c141b0 : (t364 == t352) = true := beq_iff_eq.mpr c141
            have c141b1 : (t364 != t352) = false := bne_eq_false_iff_eq.mpr c141
            clear c141
            replace H := Option.bind_eq_some_iff.mp H
            obtain ⟨t365, A1420, H⟩ := H
            replace H : ((waybilllaw23_num.f t365).bind fun t366 => ((waybillref23_Check.f l0 a1_0 a1_1 a1_2 a2 a3).bind fun t367 => (if t366 = t367 then ((waybillref23_Same.f t302 l0).bind fun t368 => (if t368 = true then ((waybilllaw23_alive.f).bind fun t369 => (some t369)) else (some false))) else (some false)))) = some r := H
            have A142 := Aside0.mk A1420
            clear A1420
            replace H := Option.bind_eq_some_iff.mp H
            obtain ⟨t366, A1430, H⟩ := H
            replace H : ((waybillref23_Check.f l0 a1_0 a1_1 a1_2 a2 a3).bind fun t367 => (if t366 = t367 then ((waybillref23_Same.f t302 l0).bind fun t368 => (if t368 = true then ((waybilllaw23_alive.f).bind fun t369 => (some t369)) else (some false))) else (some false))) = some r := H
            have A143 := Aside0.mk A1430
            clear A1430
            replace H := Option.bind_eq_some_iff.mp H
            obtain ⟨t367, A1440, H⟩ := H
            replace H : (if t366 = t367 then ((waybillref23_Same.f t302 l0).bind fun t368 => (if t368 = true then ((waybilllaw23_alive.f).bind fun t369 => (some t369)) else (some false))) else (some false)) = some r := H
            have A144 := Aside0.mk A1440
            clear A1440
            by_cases c145 : t366 = t367
            · rw [if_pos c145] at H
              have c145b0 : (t366 == t367) = true := beq_iff_eq.mpr c145
              have c145b1 : (t366 != t367) = false := bne_eq_false_iff_eq.mpr c145
              clear c145
              replace H := Option.bind_eq_some_iff.mp H
              obtain ⟨t368, A1460, H⟩ := H
              replace H : (if t368 = true then ((waybilllaw23_alive.f).bind fun t369 => (some t369)) else (some false)) = some r := H
              have A146 := Aside0.mk A1460
              clear A1460
              by_cases c147 : t368 = true
              · subst c147
                have H1 : ((waybilllaw23_alive.f).bind fun t369 => (some t369)) = some r := by rw [if_pos rfl] at H; exact H
                clear H
                have H := H1
                clear H1
                replace H := Option.bind_eq_some_iff.mp H
                obtain ⟨t369, A1480, H⟩ := H
                replace H : (some t369) = some r := H
                have A148 := Aside0.mk A1480
                clear A1480
                obtain rfl := Option.some.inj H
                simp only [Option.some.injEq, Prod.mk.injEq] at H
                obtain ⟨rfl⟩ := H
                try go_wp2
                have n0_ := Aside0.mk (Kd.R_drew HO_15.out)
                have n1_ := Aside0.mk (Kd.R_drew HO_36.out)
                have n2_ := Aside0.mk (Kd.R_drew HO_38.out)
                have n3_ := Aside0.mk (blk_drew BK300.out)
                have n4_ := Aside0.mk (blk_drew BK301.out)
                have n5_ := Aside0.mk (below_drew1 HB.out)
                clear HO_15
                clear HO_36
                clear HO_38
                clear BK300
                clear BK301
                clear HB
                have HO_15 := n0_
                have HO_36 := n1_
                have HO_38 := n2_
                have BK300 := n3_
                have BK301 := n4_
                have HB := n5_
                clear n0_ n1_ n2_ n3_ n4_ n5_
                obtain ⟨Ao150, co150, eo150⟩ := Kd.R_slice HO_36.out
                (first | subst eo150 | (injection eo150 with f1_ f2_ f3_; have f4_ := f1_.symm; have f5_ := f3_.symm; clear f1_ f2_ f3_; subst f4_; subst f5_))
                obtain ⟨Ao151, co151, eo151⟩ := Kd.R_slice HO_38.out
                (first | subst eo151 | (injection eo151 with f1_ f2_ f3_; have f4_ := f1_.symm; have f5_ := f3_.symm; clear f1_ f2_ f3_; subst f4_; subst f5_))
                refine start_ (n := 32) (S := fun w' => w'.cell? ⟨gb300, 0, none⟩ = some (.int .i64 a1_0) ∧ w'.cell? ⟨gb300, 1, none⟩ = some (.int .i64 a1_1) ∧ w'.cell? ⟨gb300, 2, none⟩ = some (.int .i64 a1_2)) (ds := []) #[false, false, false, false, false, false, false, false, false, false, false, false, false, false, false, false, false, false, false, false, false, false, false, false, false, false, false, false, false, false, false, false] (by kernel_rfl) rfl rfl ⟨(blk_cell BK300.out 0).trans rfl, (blk_cell BK300.out 1).trans rfl, (blk_cell BK300.out 2).trans rfl⟩ (fun hHeld => ?_); refine with_tabW waybilllaw23_SessionTells.tab14 waybilllaw23_SessionTells.bits14 (fun HT_ HW_ => ?_)
                generalize wc.drew = w149 at HO_15 HO_36 HO_38 BK300 BK301 HB hHeld ⊢
                refine pure_ (i := 0) (N := some 192) (v := ?_) (a' := ?_) #[true, false, false, false, false, false, false, false, false, false, false, false, false, false, false, false, false, false, false, false, false, false, false, false, false, false, false, false, false, false, false, false] rfl rfl (any_of HT_.out (by kernel_rfl)) (fun _ _ _ h => h) (Or.inl ⟨by rfl, ?_⟩) ?_ ?_
                rotate_left
                · intro w'
                  go_simp
                  with_reducible rfl
                rotate_left
                · simp only [Act.put, List.setIfInBounds_toArray, List.set_cons_zero, List.set_cons_succ, i64_w, i32_w]
                  rfl
                refine pure_ (i := 1) (N := some 193) (v := ?_) (a' := ?_) #[true, true, false, false, false, false, false, false, false, false, false, false, false, false, false, false, false, false, false, false, false, false, false, false, false, false, false, false, false, false, false, false] rfl rfl (any_of HT_.out (by kernel_rfl)) (fun _ _ _ h => h) (Or.inl ⟨by rfl, ?_⟩) ?_ ?_
                rotate_left
                · intro w'
                  go_simp
                  with_reducible rfl
                rotate_left
                · simp only [Act.put, List.setIfInBounds_toArray, List.set_cons_zero, List.set_cons_succ, i64_w, i32_w]
                  rfl
                refine one_ (i := 2) (N := some 194) #[true, true, true, false, false, false, false, false, false, false, false, false, false, false, false, false, false, false, false, false, false, false, false, false, false, false, false, false, false, false, false, false] rfl rfl (one_of HT_.out (by kernel_rfl)) (by decide) (fun K hK => ?_)
                refine goes_ Try.func27 (by kernel_rfl) rfl #[.slice Ao150 t344.length co150, .slice Ao151 t351.length co151] (by rfl) rfl rfl (by (try simp only [List.map_toArray, List.map_cons, List.map_nil]); first | done | rfl | (simp only [List.length_drop, List.length_take]; rfl)) ?_
                with_reducible refine (waybillplain_SameInts.calls kj18 _ _ t344 _ _ t351 true _ ?side1 ?side2 ?side3 ?side4 A138.out).mono ?_
                (case side1 => repeat (first | exact (Kd.R_reads' HO_36.out).2.2 | (with_reducible refine Kd.C_alloc ?_ _) | (with_reducible refine Kd.C_drewN ?_ _) | (with_reducible refine Kd.C_drew ?_)))
                (case side2 => exact (Kd.R_reads' HO_36.out).2.1)
                (case side3 => repeat (first | exact (Kd.R_reads' HO_38.out).2.2 | (with_reducible refine Kd.C_alloc ?_ _) | (with_reducible refine Kd.C_drewN ?_ _) | (with_reducible refine Kd.C_drew ?_)))
                (case side4 => exact (Kd.R_reads' HO_38.out).2.1)
                rintro e w' ⟨rfl, ⟨nd, rfl⟩⟩
                refine ⟨_, rfl, ?_⟩
                refine hK.out _ _ ⟨(blk_cell BK300.out 0).trans rfl, (blk_cell BK300.out 1).trans rfl, (blk_cell BK300.out 2).trans rfl⟩ (fun hHeld => ?_)
                clear hK K
                refine norm_ (a' := ?_) ?_ ?_
                rotate_left
                · show Act.put _ (some 194) _ = _
                  simp only [Act.put, List.setIfInBounds_toArray, List.set_cons_zero, List.set_cons_succ, i64_w, i32_w]
                  rfl
                refine pure_ (i := 3) (N := some 195) (v := ?_) (a' := ?_) #[true, true, true, true, false, false, false, false, false, false, false, false, false, false, false, false, false, false, false, false, false, false, false, false, false, false, false, false, false, false, false, false] rfl rfl (any_of HT_.out (by kernel_rfl)) (fun _ _ _ h => h) (Or.inl ⟨by rfl, ?_⟩) ?_ ?_
                rotate_left
                · intro w'
                  go_simp
                  with_reducible rfl
                rotate_left
                · simp only [Act.put, List.setIfInBounds_toArray, List.set_cons_zero, List.set_cons_succ, i64_w, i32_w]
                  rfl
                refine pure_ (i := 4) (N := some 196) (v := ?_) (a' := ?_) #[true, true, true, true, true, false, false, false, false, false, false, false, false, false, false, false, false, false, false, false, false, false, false, false, false, false, false, false, false, false, false, false] rfl rfl (any_of HT_.out (by kernel_rfl)) (fun _ _ _ h => h) (Or.inl ⟨by rfl, ?_⟩) ?_ ?_
                rotate_left
                · intro w'
                  go_simp
                  with_reducible rfl
                rotate_left
                · simp only [Act.put, List.setIfInBounds_toArray, List.set_cons_zero, List.set_cons_succ, i64_w, i32_w]
                  rfl
                refine pure_ (i := 6) (N := some 198) (v := ?_) (a' := ?_) #[true, true, true, true, true, false, true, false, false, false, false, false, false, false, false, false, false, false, false, false, false, false, false, false, false, false, false, false, false, false, false, false] rfl rfl (any_of HT_.out (by kernel_rfl)) (fun _ _ _ h => h) (Or.inl ⟨by rfl, ?_⟩) ?_ ?_
                rotate_left
                · intro w'
                  go_simp
                  with_reducible rfl
                rotate_left
                · simp only [Act.put, List.setIfInBounds_toArray, List.set_cons_zero, List.set_cons_succ, i64_w, i32_w]
                  rfl
                refine one_ (i := 5) (N := some 197) #[true, true, true, true, true, true, true, false, false, false, false, false, false, false, false, false, false, false, false, false, false, false, false, false, false, false, false, false, false, false, false, false] rfl rfl (one_of HT_.out (by kernel_rfl)) (by decide) (fun K hK => ?_)
                refine goes_ Try.func11 (by kernel_rfl) rfl #[.int .i64 t345] (by rfl) rfl rfl (by (try simp only [List.map_toArray, List.map_cons, List.map_nil]); first | done | rfl | (simp only [List.length_drop, List.length_take]; rfl)) ?_
                with_reducible refine (waybilllaw23_num.calls t345 t364 _ A140.out).mono ?_
                rintro e w' ⟨rfl, ⟨nd, rfl⟩⟩
                refine ⟨_, rfl, ?_⟩
                refine hK.out _ _ ⟨(blk_cell BK300.out 0).trans rfl, (blk_cell BK300.out 1).trans rfl, (blk_cell BK300.out 2).trans rfl⟩ (fun hHeld => ?_)
                clear hK K
                refine norm_ (a' := ?_) ?_ ?_
                rotate_left
                · show Act.put _ (some 197) _ = _
                  simp only [Act.put, List.setIfInBounds_toArray, List.set_cons_zero, List.set_cons_succ, i64_w, i32_w]
                  rfl
                refine pure_ (i := 7) (N := some 199) (v := ?_) (a' := ?_) #[true, true, true, true, true, true, true, true, false, false, false, false, false, false, false, false, false, false, false, false, false, false, false, false, false, false, false, false, false, false, false, false] rfl rfl (any_of HT_.out (by kernel_rfl)) (fun _ _ _ h => h) (Or.inl ⟨by rfl, ?_⟩) ?_ ?_
                rotate_left
                · intro w'
                  go_simp
                  with_reducible rfl
                rotate_left
                · simp only [Act.put, List.setIfInBounds_toArray, List.set_cons_zero, List.set_cons_succ, i64_w, i32_w]
                  rfl
                refine pure_ (i := 8) (N := some 200) (v := ?_) (a' := ?_) #[true, true, true, true, true, true, true, true, true, false, false, false, false, false, false, false, false, false, false, false, false, false, false, false, false, false, false, false, false, false, false, false] rfl rfl (any_of HT_.out (by kernel_rfl)) (fun _ _ _ h => h) (Or.inl ⟨by rfl, ?_⟩) ?_ ?_
                rotate_left
                · intro w'
                  go_simp
                  with_reducible rfl
                rotate_left
                · simp only [Act.put, List.setIfInBounds_toArray, List.set_cons_zero, List.set_cons_succ, i64_w, i32_w]
                  rfl
                refine pure_ (i := 9) (N := some 201) (v := ?_) (a' := ?_) #[true, true, true, true, true, true, true, true, true, true, false, false, false, false, false, false, false, false, false, false, false, false, false, false, false, false, false, false, false, false, false, false] rfl rfl (any_of HT_.out (by kernel_rfl)) (fun _ _ _ h => h) (Or.inl ⟨by rfl, ?_⟩) ?_ ?_
                rotate_left
                · intro w'
                  go_simp
                  with_reducible rfl
                rotate_left
                · simp only [Act.put, List.setIfInBounds_toArray, List.set_cons_zero, List.set_cons_succ, i64_w, i32_w]
                  rfl
                refine pure_ (i := 10) (N := some 202) (v := ?_) (a' := ?_) #[true, true, true, true, true, true, true, true, true, true, true, false, false, false, false, false, false, false, false, false, false, false, false, false, false, false, false, false, false, false, false, false] rfl rfl (any_of HT_.out (by kernel_rfl)) (fun _ _ _ h => h) (Or.inl ⟨by rfl, ?_⟩) ?_ ?_
                rotate_left
                · intro w'
                  go_simp
                  with_reducible rfl
                rotate_left
                · simp only [Act.put, List.setIfInBounds_toArray, List.set_cons_zero, List.set_cons_succ, i64_w, i32_w]
                  rfl
                refine pure_ (i := 12) (N := some 204) (v := ?_) (a' := ?_) #[true, true, true, true, true, true, true, true, true, true, true, false, true, false, false, false, false, false, false, false, false, false, false, false, false, false, false, false, false, false, false, false] rfl rfl (any_of HT_.out (by kernel_rfl)) (fun _ _ _ h => h) (Or.inl ⟨by rfl, ?_⟩) ?_ ?_
                rotate_left
                · intro w'
                  go_simp
                  with_reducible rfl
                rotate_left
                · simp only [Act.put, List.setIfInBounds_toArray, List.set_cons_zero, List.set_cons_succ, i64_w, i32_w]
                  rfl
                refine pure_ (i := 13) (N := some 205) (v := ?_) (a' := ?_) #[true, true, true, true, true, true, true, true, true, true, true, false, true, true, false, false, false, false, false, false, false, false, false, false, false, false, false, false, false, false, false, false] rfl rfl (any_of HT_.out (by kernel_rfl)) (fun _ _ _ h => h) (Or.inl ⟨by rfl, ?_⟩) ?_ ?_
                rotate_left
                · intro w'
                  go_simp
                  with_reducible rfl
                rotate_left
                · simp only [Act.put, List.setIfInBounds_toArray, List.set_cons_zero, List.set_cons_succ, i64_w, i32_w]
                  rfl
                refine pure_ (i := 16) (N := some 208) (v := ?_) (a' := ?_) #[true, true, true, true, true, true, true, true, true, true, true, false, true, true, false, false, true, false, false, false, false, false, false, false, false, false, false, false, false, false, false, false] rfl rfl (any_of HT_.out (by kernel_rfl)) (fun _ _ _ h => h) (Or.inl ⟨by rfl, ?_⟩) ?_ ?_
                rotate_left
                · intro w'
                  go_simp
                  with_reducible rfl
                rotate_left
                · simp only [Act.put, List.setIfInBounds_toArray, List.set_cons_zero, List.set_cons_succ, i64_w, i32_w]
                  rfl
                refine pure_ (i := 18) (N := some 210) (v := ?_) (a' := ?_) #[true, true, true, true, true, true, true, true, true, true, true, false, true, true, false, false, true, false, true, false, false, false, false, false, false, false, false, false, false, false, false, false] rfl rfl (any_of HT_.out (by kernel_rfl)) (fun _ _ _ h => h) (Or.inl ⟨by rfl, ?_⟩) ?_ ?_
                rotate_left
                · intro w'
                  go_simp
                  with_reducible rfl
                rotate_left
                · simp only [Act.put, List.setIfInBounds_toArray, List.set_cons_zero, List.set_cons_succ, i64_w, i32_w]
                  rfl
                refine pure_ (i := 19) (N := some 211) (v := ?_) (a' := ?_) #[true, true, true, true, true, true, true, true, true, true, true, false, true, true, false, false, true, false, true, true, false, false, false, false, false, false, false, false, false, false, false, false] rfl rfl (any_of HT_.out (by kernel_rfl)) (fun _ _ _ h => h) (Or.inl ⟨by rfl, ?_⟩) ?_ ?_
                rotate_left
                · intro w'
                  go_simp
                  with_reducible rfl
                rotate_left
                · simp only [Act.put, List.setIfInBounds_toArray, List.set_cons_zero, List.set_cons_succ, i64_w, i32_w]
                  rfl
                refine take_ (i := 11) (N := some 203) (v := ?_) (a' := ?_) #[true, true, true, true, true, true, true, true, true, true, true, true, true, true, false, false, true, false, true, true, false, false, false, false, false, false, false, false, false, false, false, false] rfl rfl (take_ofW HT_.out HW_.out (by kernel_rfl)) (fun _ _ _ h => h) (Or.inl ⟨by rfl, ?_⟩) hHeld ?_ ?_
                rotate_left
                · rintro w' ⟨s0, s1, s2⟩
                  go_simp
                  with_reducible rfl
                rotate_left
                · simp only [Act.put, List.setIfInBounds_toArray, List.set_cons_zero, List.set_cons_succ, i64_w, i32_w]
                  rfl
                refine take_ (i := 17) (N := some 209) (v := ?_) (a' := ?_) #[true, true, true, true, true, true, true, true, true, true, true, true, true, true, false, false, true, true, true, true, false, false, false, false, false, false, false, false, false, false, false, false] rfl rfl (take_ofW HT_.out HW_.out (by kernel_rfl)) (fun _ _ _ h => h) (Or.inl ⟨by rfl, ?_⟩) hHeld ?_ ?_
                rotate_left
                · rintro w' ⟨s0, s1, s2⟩
                  go_simp
                  with_reducible rfl
                rotate_left
                · simp only [Act.put, List.setIfInBounds_toArray, List.set_cons_zero, List.set_cons_succ, i64_w, i32_w]
                  rfl
                refine one_ (i := 14) (N := some 206) #[true, true, true, true, true, true, true, true, true, true, true, true, true, true, true, false, true, true, true, true, false, false, false, false, false, false, false, false, false, false, false, false] rfl rfl (one_of HT_.out (by kernel_rfl)) (by decide) (fun K hK => ?_)
                refine goes_ Try.func22 (by kernel_rfl) rfl #[.slice Ao25 t302.length co25, .agg #[.int .i64 a1_0, .int .i64 a1_1, .int .i64 a1_2], .int .i64 a2, .int .i64 a3] (by rfl) rfl rfl (by (try simp only [List.map_toArray, List.map_cons, List.map_nil]); first | done | rfl | (simp only [List.length_drop, List.length_take]; rfl)) ?_
                with_reducible refine (session_Check.calls _ _ t302 a1_0 a1_1 a1_2 a2 a3 t365 _ ?side1 ?side2 A142.out).mono ?_
                (case side1 => repeat (first | exact (Kd.R_reads' HO_15.out).2.2 | (with_reducible refine Kd.C_alloc ?_ _) | (with_reducible refine Kd.C_drewN ?_ _) | (with_reducible refine Kd.C_drew ?_)))
                (case side2 => exact (Kd.R_reads' HO_15.out).2.1)
                rintro e w152 ⟨rfl, hb⟩
                refine ⟨_, rfl, ?_⟩
                have n0_ := Aside0.mk (Kd.R_below (by (with_reducible repeat (first | apply Kd.R_alloc | apply Kd.R_drewN | apply Kd.R_drew)); exact HO_15.out) hb)
                have n1_ := Aside0.mk (Kd.R_below (by (with_reducible repeat (first | apply Kd.R_alloc | apply Kd.R_drewN | apply Kd.R_drew)); exact HO_36.out) hb)
                have n2_ := Aside0.mk (Kd.R_below (by (with_reducible repeat (first | apply Kd.R_alloc | apply Kd.R_drewN | apply Kd.R_drew)); exact HO_38.out) hb)
                have n3_ := Aside0.mk (blk_below (g := gb300) (o := .cells #[.int .i64 a1_0, .int .i64 a1_1, .int .i64 a1_2] 24 (0, 0)) (by (with_reducible repeat (first | refine blk_drewN ?_ _ | refine blk_drew ?_ | refine blk_alloc ?_ _)); exact BK300.out) hb)
                have n4_ := Aside0.mk (blk_below (g := gb301) (o := .cells #[.int .i64 a6_0, .slice A6_1 l6_1.length c6_1] 36 (0, 0)) (by (with_reducible repeat (first | refine blk_drewN ?_ _ | refine blk_drew ?_ | refine blk_alloc ?_ _)); exact BK301.out) hb)
                have n5_ := Aside0.mk (below_step (by repeat (first | (with_reducible first | exact HB.out | apply below_alloc | apply pw_below_drewN | apply below_drew1 | refine below_set ?_ GE300.out | refine below_set ?_ GE301.out) | exact HB.out)) hb)
                clear HO_15
                clear HO_36
                clear HO_38
                clear BK300
                clear BK301
                clear HB
                have HO_15 := n0_
                have HO_36 := n1_
                have HO_38 := n2_
                have BK300 := n3_
                have BK301 := n4_
                have HB := n5_
                clear n0_ n1_ n2_ n3_ n4_ n5_
                (try clear hb)
                (try clear hb2)
                (try clear hk)
                (try clear hi)
                refine hK.out _ _ ⟨(blk_cell BK300.out 0).trans rfl, (blk_cell BK300.out 1).trans rfl, (blk_cell BK300.out 2).trans rfl⟩ (fun hHeld => ?_)
                clear hK K
                refine norm_ (a' := ?_) ?_ ?_
                rotate_left
                · show Act.put _ (some 206) _ = _
                  simp only [Act.put, List.setIfInBounds_toArray, List.set_cons_zero, List.set_cons_succ, i64_w, i32_w]
                  rfl
                refine one_ (i := 15) (N := some 207) #[true, true, true, true, true, true, true, true, true, true, true, true, true, true, true, true, true, true, true, true, false, false, false, false, false, false, false, false, false, false, false, false] rfl rfl (one_of HT_.out (by kernel_rfl)) (by decide) (fun K hK => ?_)
                refine goes_ Try.func11 (by kernel_rfl) rfl #[.int .i64 t365] (by rfl) rfl rfl (by (try simp only [List.map_toArray, List.map_cons, List.map_nil]); first | done | rfl | (simp only [List.length_drop, List.length_take]; rfl)) ?_
                with_reducible refine (waybilllaw23_num.calls t365 t366 _ A143.out).mono ?_
                rintro e w' ⟨rfl, ⟨nd, rfl⟩⟩
                refine ⟨_, rfl, ?_⟩
                refine hK.out _ _ ⟨(blk_cell BK300.out 0).trans rfl, (blk_cell BK300.out 1).trans rfl, (blk_cell BK300.out 2).trans rfl⟩ (fun hHeld => ?_)
                clear hK K
                refine norm_ (a' := ?_) ?_ ?_
                rotate_left
                · show Act.put _ (some 207) _ = _
                  simp only [Act.put, List.setIfInBounds_toArray, List.set_cons_zero, List.set_cons_succ, i64_w, i32_w]
                  rfl
                refine one_ (i := 20) (N := some 212) #[true, true, true, true, true, true, true, true, true, true, true, true, true, true, true, true, true, true, true, true, true, false, false, false, false, false, false, false, false, false, false, false] rfl rfl (one_of HT_.out (by kernel_rfl)) (by decide) (fun K hK => ?_)
                refine goes_ Try.func28 (by kernel_rfl) rfl #[.slice A0 l0.length c0, .agg #[.int .i64 a1_0, .int .i64 a1_1, .int .i64 a1_2], .int .i64 a2, .int .i64 a3] (by rfl) rfl rfl (by (try simp only [List.map_toArray, List.map_cons, List.map_nil]); first | done | rfl | (simp only [List.length_drop, List.length_take]; rfl)) ?_
                with_reducible refine (waybillref23_Check.calls _ _ l0 a1_0 a1_1 a1_2 a2 a3 t367 _ ?side1 ?side2 A144.out).mono ?_
                (case side1 => repeat (first | exact (Kd.C_below HR0.out (by repeat (first | (with_reducible first | exact HB.out | apply below_alloc | apply pw_below_drewN | apply below_drew1 | refine below_set ?_ GE300.out | refine below_set ?_ GE301.out) | exact HB.out))) | (with_reducible refine Kd.C_alloc ?_ _) | (with_reducible refine Kd.C_drewN ?_ _) | (with_reducible refine Kd.C_drew ?_)))
                (case side2 => exact HC0.out)
                rintro e w153 ⟨rfl, hb⟩
                refine ⟨_, rfl, ?_⟩
                have n0_ := Aside0.mk (Kd.R_below (by (with_reducible repeat (first | apply Kd.R_alloc | apply Kd.R_drewN | apply Kd.R_drew)); exact HO_15.out) hb)
                have n1_ := Aside0.mk (Kd.R_below (by (with_reducible repeat (first | apply Kd.R_alloc | apply Kd.R_drewN | apply Kd.R_drew)); exact HO_36.out) hb)
                have n2_ := Aside0.mk (Kd.R_below (by (with_reducible repeat (first | apply Kd.R_alloc | apply Kd.R_drewN | apply Kd.R_drew)); exact HO_38.out) hb)
                have n3_ := Aside0.mk (blk_below (g := gb300) (o := .cells #[.int .i64 a1_0, .int .i64 a1_1, .int .i64 a1_2] 24 (0, 0)) (by (with_reducible repeat (first | refine blk_drewN ?_ _ | refine blk_drew ?_ | refine blk_alloc ?_ _)); exact BK300.out) hb)
                have n4_ := Aside0.mk (blk_below (g := gb301) (o := .cells #[.int .i64 a6_0, .slice A6_1 l6_1.length c6_1] 36 (0, 0)) (by (with_reducible repeat (first | refine blk_drewN ?_ _ | refine blk_drew ?_ | refine blk_alloc ?_ _)); exact BK301.out) hb)
                have n5_ := Aside0.mk (below_step (by repeat (first | (with_reducible first | exact HB.out | apply below_alloc | apply pw_below_drewN | apply below_drew1 | refine below_set ?_ GE300.out | refine below_set ?_ GE301.out) | exact HB.out)) hb)
                clear HO_15
                clear HO_36
                clear HO_38
                clear BK300
                clear BK301
                clear HB
                have HO_15 := n0_
                have HO_36 := n1_
                have HO_38 := n2_
                have BK300 := n3_
                have BK301 := n4_
                have HB := n5_
                clear n0_ n1_ n2_ n3_ n4_ n5_
                (try clear hb)
                (try clear hb2)
                (try clear hk)
                (try clear hi)
                refine hK.out _ _ ⟨(blk_cell BK300.out 0).trans rfl, (blk_cell BK300.out 1).trans rfl, (blk_cell BK300.out 2).trans rfl⟩ (fun hHeld => ?_)
                clear hK K
                refine norm_ (a' := ?_) ?_ ?_
                rotate_left
                · show Act.put _ (some 212) _ = _
                  simp only [Act.put, List.setIfInBounds_toArray, List.set_cons_zero, List.set_cons_succ, i64_w, i32_w]
                  rfl
                refine pure_ (i := 21) (N := some 213) (v := ?_) (a' := ?_) #[true, true, true, true, true, true, true, true, true, true, true, true, true, true, true, true, true, true, true, true, true, true, false, false, false, false, false, false, false, false, false, false] rfl rfl (any_of HT_.out (by kernel_rfl)) (fun _ _ _ h => h) (Or.inl ⟨by rfl, ?_⟩) ?_ ?_
                rotate_left
                · intro w'
                  go_simp
                  with_reducible rfl
                rotate_left
                · simp only [Act.put, List.setIfInBounds_toArray, List.set_cons_zero, List.set_cons_succ, i64_w, i32_w]
                  rfl
                refine pure_ (i := 22) (N := some 214) (v := ?_) (a' := ?_) #[true, true, true, true, true, true, true, true, true, true, true, true, true, true, true, true, true, true, true, true, true, true, true, false, false, false, false, false, false, false, false, false] rfl rfl (any_of HT_.out (by kernel_rfl)) (fun _ _ _ h => h) (Or.inl ⟨by rfl, ?_⟩) ?_ ?_
                rotate_left
                · intro w'
                  go_simp
                  with_reducible rfl
                rotate_left
                · simp only [Act.put, List.setIfInBounds_toArray, List.set_cons_zero, List.set_cons_succ, i64_w, i32_w]
                  rfl
                refine pure_ (i := 23) (N := some 215) (v := ?_) (a' := ?_) #[true, true, true, true, true, true, true, true, true, true, true, true, true, true, true, true, true, true, true, true, true, true, true, true, false, false, false, false, false, false, false, false] rfl rfl (any_of HT_.out (by kernel_rfl)) (fun _ _ _ h => h) (Or.inl ⟨by rfl, ?_⟩) ?_ ?_
                rotate_left
                · intro w'
                  go_simp
                  with_reducible rfl
                rotate_left
                · simp only [Act.put, List.setIfInBounds_toArray, List.set_cons_zero, List.set_cons_succ, i64_w, i32_w]
                  rfl
                refine pure_ (i := 24) (N := some 216) (v := ?_) (a' := ?_) #[true, true, true, true, true, true, true, true, true, true, true, true, true, true, true, true, true, true, true, true, true, true, true, true, true, false, false, false, false, false, false, false] rfl rfl (any_of HT_.out (by kernel_rfl)) (fun _ _ _ h => h) (Or.inl ⟨by rfl, ?_⟩) ?_ ?_
                rotate_left
                · intro w'
                  go_simp
                  with_reducible rfl
                rotate_left
                · simp only [Act.put, List.setIfInBounds_toArray, List.set_cons_zero, List.set_cons_succ, i64_w, i32_w]
                  rfl
                refine pure_ (i := 25) (N := some 217) (v := ?_) (a' := ?_) #[true, true, true, true, true, true, true, true, true, true, true, true, true, true, true, true, true, true, true, true, true, true, true, true, true, true, false, false, false, false, false, false] rfl rfl (any_of HT_.out (by kernel_rfl)) (fun _ _ _ h => h) (Or.inl ⟨by rfl, ?_⟩) ?_ ?_
                rotate_left
                · intro w'
                  go_simp
                  with_reducible rfl
                rotate_left
                · simp only [Act.put, List.setIfInBounds_toArray, List.set_cons_zero, List.set_cons_succ, i64_w, i32_w]
                  rfl
                refine one_ (i := 26) (N := some 218) #[true, true, true, true, true, true, true, true, true, true, true, true, true, true, true, true, true, true, true, true, true, true, true, true, true, true, true, false, false, false, false, false] rfl rfl (one_of HT_.out (by kernel_rfl)) (by decide) (fun K hK => ?_)
                refine goes_ Try.func21 (by kernel_rfl) rfl #[.slice Ao25 t302.length co25, .slice A0 l0.length c0] (by rfl) rfl rfl (by (try simp only [List.map_toArray, List.map_cons, List.map_nil]); first | done | rfl | (simp only [List.length_drop, List.length_take]; rfl)) ?_
                with_reducible refine (waybillref23_Same.calls _ _ t302 _ _ l0 true _ ?side1 ?side2 ?side3 ?side4 A146.out).mono ?_
                (case side1 => repeat (first | exact (Kd.R_reads' HO_15.out).2.2 | (with_reducible refine Kd.C_alloc ?_ _) | (with_reducible refine Kd.C_drewN ?_ _) | (with_reducible refine Kd.C_drew ?_)))
                (case side2 => exact (Kd.R_reads' HO_15.out).2.1)
                (case side3 => repeat (first | exact (Kd.C_below HR0.out HB.out) | (with_reducible refine Kd.C_alloc ?_ _) | (with_reducible refine Kd.C_drewN ?_ _) | (with_reducible refine Kd.C_drew ?_)))
                (case side4 => exact HC0.out)
                rintro e w154 ⟨rfl, hb⟩
                refine ⟨_, rfl, ?_⟩
                have n0_ := Aside0.mk (Kd.R_below (by (with_reducible repeat (first | apply Kd.R_alloc | apply Kd.R_drewN | apply Kd.R_drew)); exact HO_15.out) hb)
                have n1_ := Aside0.mk (Kd.R_below (by (with_reducible repeat (first | apply Kd.R_alloc | apply Kd.R_drewN | apply Kd.R_drew)); exact HO_36.out) hb)
                have n2_ := Aside0.mk (Kd.R_below (by (with_reducible repeat (first | apply Kd.R_alloc | apply Kd.R_drewN | apply Kd.R_drew)); exact HO_38.out) hb)
                have n3_ := Aside0.mk (blk_below (g := gb300) (o := .cells #[.int .i64 a1_0, .int .i64 a1_1, .int .i64 a1_2] 24 (0, 0)) (by (with_reducible repeat (first | refine blk_drewN ?_ _ | refine blk_drew ?_ | refine blk_alloc ?_ _)); exact BK300.out) hb)
                have n4_ := Aside0.mk (blk_below (g := gb301) (o := .cells #[.int .i64 a6_0, .slice A6_1 l6_1.length c6_1] 36 (0, 0)) (by (with_reducible repeat (first | refine blk_drewN ?_ _ | refine blk_drew ?_ | refine blk_alloc ?_ _)); exact BK301.out) hb)
                have n5_ := Aside0.mk (below_step (by repeat (first | (with_reducible first | exact HB.out | apply below_alloc | apply pw_below_drewN | apply below_drew1 | refine below_set ?_ GE300.out | refine below_set ?_ GE301.out) | exact HB.out)) hb)
                clear HO_15
                clear HO_36
                clear HO_38
                clear BK300
                clear BK301
                clear HB
                have HO_15 := n0_
                have HO_36 := n1_
                have HO_38 := n2_
                have BK300 := n3_
                have BK301 := n4_
                have HB := n5_
                clear n0_ n1_ n2_ n3_ n4_ n5_
                (try clear hb)
                (try clear hb2)
                (try clear hk)
                (try clear hi)
                refine hK.out _ _ ⟨(blk_cell BK300.out 0).trans rfl, (blk_cell BK300.out 1).trans rfl, (blk_cell BK300.out 2).trans rfl⟩ (fun hHeld => ?_)
                clear hK K
                refine norm_ (a' := ?_) ?_ ?_
                rotate_left
                · show Act.put _ (some 218) _ = _
                  simp only [Act.put, List.setIfInBounds_toArray, List.set_cons_zero, List.set_cons_succ, i64_w, i32_w]
                  rfl
                refine pure_ (i := 27) (N := some 219) (v := ?_) (a' := ?_) #[true, true, true, true, true, true, true, true, true, true, true, true, true, true, true, true, true, true, true, true, true, true, true, true, true, true, true, true, false, false, false, false] rfl rfl (any_of HT_.out (by kernel_rfl)) (fun _ _ _ h => h) (Or.inl ⟨by rfl, ?_⟩) ?_ ?_
                rotate_left
                · intro w'
                  go_simp
                  with_reducible rfl
                rotate_left
                · simp only [Act.put, List.setIfInBounds_toArray, List.set_cons_zero, List.set_cons_succ, i64_w, i32_w]
                  rfl
                refine pure_ (i := 28) (N := some 220) (v := ?_) (a' := ?_) #[true, true, true, true, true, true, true, true, true, true, true, true, true, true, true, true, true, true, true, true, true, true, true, true, true, true, true, true, true, false, false, false] rfl rfl (any_of HT_.out (by kernel_rfl)) (fun _ _ _ h => h) (Or.inl ⟨by rfl, ?_⟩) ?_ ?_
                rotate_left
                · intro w'
                  go_simp
                  with_reducible rfl
                rotate_left
                · simp only [Act.put, List.setIfInBounds_toArray, List.set_cons_zero, List.set_cons_succ, i64_w, i32_w]
                  rfl
                refine one_ (i := 29) (N := some 221) #[true, true, true, true, true, true, true, true, true, true, true, true, true, true, true, true, true, true, true, true, true, true, true, true, true, true, true, true, true, true, false, false] rfl rfl (one_of HT_.out (by kernel_rfl)) (by decide) (fun K hK => ?_)
                refine goes_ Try.func9 (by kernel_rfl) rfl #[] (by rfl) rfl rfl (by (try simp only [List.map_toArray, List.map_cons, List.map_nil]); first | done | rfl | (simp only [List.length_drop, List.length_take]; rfl)) ?_
                with_reducible refine (waybilllaw23_alive.calls  t369 _ A148.out).mono ?_
                rintro e w155 ⟨rfl, hb⟩
                refine ⟨_, rfl, ?_⟩
                have n0_ := Aside0.mk (Kd.R_below (by (with_reducible repeat (first | apply Kd.R_alloc | apply Kd.R_drewN | apply Kd.R_drew)); exact HO_15.out) hb)
                have n1_ := Aside0.mk (Kd.R_below (by (with_reducible repeat (first | apply Kd.R_alloc | apply Kd.R_drewN | apply Kd.R_drew)); exact HO_36.out) hb)
                have n2_ := Aside0.mk (Kd.R_below (by (with_reducible repeat (first | apply Kd.R_alloc | apply Kd.R_drewN | apply Kd.R_drew)); exact HO_38.out) hb)
                have n3_ := Aside0.mk (blk_below (g := gb300) (o := .cells #[.int .i64 a1_0, .int .i64 a1_1, .int .i64 a1_2] 24 (0, 0)) (by (with_reducible repeat (first | refine blk_drewN ?_ _ | refine blk_drew ?_ | refine blk_alloc ?_ _)); exact BK300.out) hb)
                have n4_ := Aside0.mk (blk_below (g := gb301) (o := .cells #[.int .i64 a6_0, .slice A6_1 l6_1.length c6_1] 36 (0, 0)) (by (with_reducible repeat (first | refine blk_drewN ?_ _ | refine blk_drew ?_ | refine blk_alloc ?_ _)); exact BK301.out) hb)
                have n5_ := Aside0.mk (below_step (by repeat (first | (with_reducible first | exact HB.out | apply below_alloc | apply pw_below_drewN | apply below_drew1 | refine below_set ?_ GE300.out | refine below_set ?_ GE301.out) | exact HB.out)) hb)
                clear HO_15
                clear HO_36
                clear HO_38
                clear BK300
                clear BK301
                clear HB
                have HO_15 := n0_
                have HO_36 := n1_
                have HO_38 := n2_
                have BK300 := n3_
                have BK301 := n4_
                have HB := n5_
                clear n0_ n1_ n2_ n3_ n4_ n5_
                (try clear hb)
                (try clear hb2)
                (try clear hk)
                (try clear hi)
                refine hK.out _ _ ⟨(blk_cell BK300.out 0).trans rfl, (blk_cell BK300.out 1).trans rfl, (blk_cell BK300.out 2).trans rfl⟩ (fun hHeld => ?_)
                clear hK K
                refine norm_ (a' := ?_) ?_ ?_
                rotate_left
                · show Act.put _ (some 221) _ = _
                  simp only [Act.put, List.setIfInBounds_toArray, List.set_cons_zero, List.set_cons_succ, i64_w, i32_w]
                  rfl
                refine pure_ (i := 30) (N := some 222) (v := ?_) (a' := ?_) #[true, true, true, true, true, true, true, true, true, true, true, true, true, true, true, true, true, true, true, true, true, true, true, true, true, true, true, true, true, true, true, false] rfl rfl (any_of HT_.out (by kernel_rfl)) (fun _ _ _ h => h) (Or.inl ⟨by rfl, ?_⟩) ?_ ?_
                rotate_left
                · intro w'
                  go_simp
                  with_reducible rfl
                rotate_left
                · simp only [Act.put, List.setIfInBounds_toArray, List.set_cons_zero, List.set_cons_succ, i64_w, i32_w]
                  rfl
                refine pure_ (i := 31) (N := some 14) (v := ?_) (a' := ?_) #[true, true, true, true, true, true, true, true, true, true, true, true, true, true, true, true, true, true, true, true, true, true, true, true, true, true, true, true, true, true, true, true] rfl rfl (any_of HT_.out (by kernel_rfl)) (fun _ _ _ h => h) (Or.inl ⟨by rfl, ?_⟩) ?_ ?_
                rotate_left
                · intro w'
                  go_simp
                  with_reducible rfl
                rotate_left
                · simp only [Act.put, List.setIfInBounds_toArray, List.set_cons_zero, List.set_cons_succ, i64_w, i32_w]
                  rfl
                refine done_ (done_of HT_.out (by kernel_rfl)) ?_
                try go_wp2
                go_ret
                exact ⟨by first | rfl | (simp [errW_none, errW_some] <;> rfl) | (simp [*, errW_none, errW_some] <;> rfl), by repeat (first | (with_reducible first | exact HB.out | apply below_alloc | apply pw_below_drewN | apply below_drew1 | refine below_set ?_ GE300.out | refine below_set ?_ GE301.out) | exact HB.out)⟩
              · replace c147 := Bool.eq_false_iff.mpr c147
                subst c147
                have H1 : (some false) = some r := by rw [if_neg (show ¬ (false = true) by decide)] at H; exact H
                clear H
                have H := H1
                clear H1
                obtain rfl := Option.some.inj H
                cases hrt
            · rw [if_neg c145] at H
              have c145b0 : (t366 == t367) = false := beq_eq_false_iff_ne.mpr c145
              have c145b1 : (t366 != t367) = true := bne_iff_ne.mpr c145
              obtain rfl := Option.some.inj H
              cases hrt
          · rw [if_neg c141] at H
            have c141b0 : (t364 == t352) = false := beq_eq_false_iff_ne.mpr c141
            have c141b1 : (t364 != t352) = true := bne_iff_ne.mpr c141
            obtain rfl := Option.some.inj H
            cases hrt
        · replace c139 := Bool.eq_false_iff.mpr c139
          subst c139
          have H1 : (some false) = some r := by rw [if_neg (show ¬ (false = true) by decide)] at H; exact H
          clear H
          have H := H1
          clear H1
          obtain rfl := Option.some.inj H
          cases hrt
end Go.Proofs.Ythfjgfldmkdlnaa.G
end
