/- WindowTells: texts of this claim, packed: what the kit's print has written for it and own texts, without what its proof does not reach. -/
import Derived.Test.YtkdkjnjiianogaaKWindowTells12
import Derived.Test.YtkdkjnjiianogaaKWindowTells14
import Derived.Test.YtkdkjnjiianogaaKWindowTells15
import Derived.Test.YtkdkjnjiianogaaKWindowTells16
import Derived.Test.YtkdkjnjiianogaaKWindowTells18
import Derived.Test.YtkdkjnjiianogaaKWindowTells19
import Derived.Test.YtkdkjnjiianogaaKWindowTells20
import Derived.Test.YtkdkjnjiianogaaKWindowTells21
import Derived.Test.YtkdkjnjiianogaaKWindowTells22
import Derived.Test.YtkdkjnjiianogaaKWindowTells23
import Derived.Test.YtkdkjnjiianogaaKWindowTells24
import Derived.Test.YtkdkjnjiianogaaKWindowTells25
set_option linter.unusedVariables false
set_option linter.unusedSimpArgs false
set_option linter.unusedSectionVars false
section
namespace Go.Proofs.Ytkdkjnjiianogaa.G
open WB Go.RowKit Go.Proofs.YtkdkjnjiianogaaW.PrintWords Go.Proofs.YtkdkjnjiianogaaW.PrintLast Go.Proofs.YtkdkjnjiianogaaW.PrintMore
attribute [local go_sem] max2_int min2_int max_two min_two max_three min_three max_four min_four   -- for this text's walks alone
set_option linter.unusedVariables false
set_option linter.unusedSimpArgs false
def waybilllaw22_WindowTells.j0 : Nat → Int → Bool → Int → List (S32) → Int → List (S32) → Option (Bool)
  | 0, _, _, _, _, _, _ => none
  | k + 1, x1, x147, x223000, x223001, x228000, x228001 => if x147 = true then (some false) else ((window_Check.f x228000 x228001 x1).bind fun t286 => ((waybilllaw22_num.f t286).bind fun t287 => ((waybillref22_Check.f k x223000 x223001 x1).bind fun t288 => (if t287 = t288 then ((waybillref22_Same.f x228000 x228001 x223000 x223001).bind fun t289 => (if t289 = true then ((waybilllaw22_alive.f).bind fun t290 => (some t290)) else (some false))) else (some false)))))
def waybilllaw22_WindowTells.f (k : Nat) (a0_0 : Int) (l0_1 : List (S32)) (a1 : Int) (a2 : Int) (l3 : List (S32)) (a4 : Int) : Option (Bool) := (waybillref22_Own.f k a0_0 l0_1).bind fun bt223 => ((window_See.f bt223.1 bt223.2 a1 a2).bind fun bt228 => ((waybillref22_See.f k a0_0 l0_1 a1 a2).bind fun bt236 => ((window_Put.f bt223.1 bt223.2 a1 l3).bind fun bt244 => ((waybillref22_Put.f a0_0 l0_1 a1 l3).bind fun bt250 => ((window_Forget.f bt223.1 bt223.2 a1 a4).bind fun bt256 => ((waybillref22_Forget.f k a0_0 l0_1 a1 a4).bind fun bt263 => ((window_Open.f k bt223.1 bt223.2 a1).bind fun bt270 => ((waybillref22_Open.f k a0_0 l0_1 a1).bind fun bt274 => (if bt228.1 = bt236.1 then ((waybilllaw22_same.f bt228.2.1 bt228.2.2.1 bt228.2.2.2.1 bt236.2.1 bt236.2.2.1 bt236.2.2.2.1).bind fun t278 => (if t278 = true then ((waybilllaw22_num.f bt228.2.2.2.2).bind fun t279 => (if t279 = bt236.2.2.2.2 then ((waybillref22_Same.f bt244.1 bt244.2.1 bt250.1 bt250.2.1).bind fun t280 => (if t280 = true then ((waybilllaw22_num.f bt244.2.2).bind fun t281 => (if t281 = bt250.2.2 then ((waybillref22_Same.f bt256.1 bt256.2.1 bt263.1 bt263.2.1).bind fun t282 => (if t282 = true then (if bt256.2.2.1 = bt263.2.2.1 then ((waybilllaw22_num.f bt256.2.2.2).bind fun t283 => (if t283 = bt263.2.2.2 then ((waybillplain_SameInts.f k bt270.1 bt274.1).bind fun t284 => (if t284 = true then ((waybilllaw22_num.f bt270.2).bind fun t285 => (waybilllaw22_WindowTells.j0 k a1 (t285 != bt274.2) a0_0 l0_1 bt223.1 bt223.2)) else (waybilllaw22_WindowTells.j0 k a1 true a0_0 l0_1 bt223.1 bt223.2))) else (waybilllaw22_WindowTells.j0 k a1 true a0_0 l0_1 bt223.1 bt223.2))) else (waybilllaw22_WindowTells.j0 k a1 true a0_0 l0_1 bt223.1 bt223.2)) else (waybilllaw22_WindowTells.j0 k a1 true a0_0 l0_1 bt223.1 bt223.2))) else (waybilllaw22_WindowTells.j0 k a1 true a0_0 l0_1 bt223.1 bt223.2))) else (waybilllaw22_WindowTells.j0 k a1 true a0_0 l0_1 bt223.1 bt223.2))) else (waybilllaw22_WindowTells.j0 k a1 true a0_0 l0_1 bt223.1 bt223.2))) else (waybilllaw22_WindowTells.j0 k a1 true a0_0 l0_1 bt223.1 bt223.2))) else (waybilllaw22_WindowTells.j0 k a1 true a0_0 l0_1 bt223.1 bt223.2))))))))))
theorem waybilllaw22_WindowTells.mono_l : ∀ k, (∀ y0 y1 y2 y3 y4 y5, LeO (waybilllaw22_WindowTells.j0 k y0 y1 y2 y3 y4 y5) (waybilllaw22_WindowTells.j0 (k + 1) y0 y1 y2 y3 y4 y5))
  | 0 => fun _ _ _ _ _ _ r h => by simp [waybilllaw22_WindowTells.j0] at h
  | k + 1 => by
    have ih0 := waybilllaw22_WindowTells.mono_l k
    · intro y0 y1 y2 y3 y4 y5
      unfold waybilllaw22_WindowTells.j0
      repeat' first
      | (with_reducible exact ih0 _ _ _ _ _ _)
      | (with_reducible exact waybillplain_SameInts.mono _ _ _)
      | (with_reducible exact waybillref22_Check.mono _ _ _ _)
      | (with_reducible exact waybillref22_Forget.mono _ _ _ _ _)
      | (with_reducible exact waybillref22_Open.mono _ _ _ _)
      | (with_reducible exact waybillref22_Own.mono _ _ _)
      | (with_reducible exact waybillref22_See.mono _ _ _ _ _)
      | (with_reducible exact window_Open.mono _ _ _ _)
      | (with_reducible exact LeO.refl _)
      | (with_reducible exact LeO.none _)
      | (with_reducible refine LeO.ite ?_ ?_)
      | (with_reducible refine LeO.bind ?_ (fun _ => ?_))
      | exact ih0 _ _ _ _ _ _
      | exact waybillplain_SameInts.mono _ _ _
      | exact waybillref22_Check.mono _ _ _ _
      | exact waybillref22_Forget.mono _ _ _ _ _
      | exact waybillref22_Open.mono _ _ _ _
      | exact waybillref22_Own.mono _ _ _
      | exact waybillref22_See.mono _ _ _ _ _
      | exact window_Open.mono _ _ _ _
      | exact LeO.none _
      | refine LeO.ite ?_ ?_
      | refine LeO.bind ?_ (fun _ => ?_)
theorem waybilllaw22_WindowTells.mono : ∀ a0 a1 a2 a3 a4 a5 k, LeO (waybilllaw22_WindowTells.f k a0 a1 a2 a3 a4 a5) (waybilllaw22_WindowTells.f (k + 1) a0 a1 a2 a3 a4 a5) := by
  intro a0 a1 a2 a3 a4 a5 k
  have ih0 := waybilllaw22_WindowTells.mono_l k
  unfold waybilllaw22_WindowTells.f
  repeat' first
      | (with_reducible exact ih0 _ _ _ _ _ _)
      | (with_reducible exact waybillplain_SameInts.mono _ _ _)
      | (with_reducible exact waybillref22_Check.mono _ _ _ _)
      | (with_reducible exact waybillref22_Forget.mono _ _ _ _ _)
      | (with_reducible exact waybillref22_Open.mono _ _ _ _)
      | (with_reducible exact waybillref22_Own.mono _ _ _)
      | (with_reducible exact waybillref22_See.mono _ _ _ _ _)
      | (with_reducible exact window_Open.mono _ _ _ _)
      | (with_reducible exact LeO.refl _)
      | (with_reducible exact LeO.none _)
      | (with_reducible refine LeO.ite ?_ ?_)
      | (with_reducible refine LeO.bind ?_ (fun _ => ?_))
      | exact ih0 _ _ _ _ _ _
      | exact waybillplain_SameInts.mono _ _ _
      | exact waybillref22_Check.mono _ _ _ _
      | exact waybillref22_Forget.mono _ _ _ _ _
      | exact waybillref22_Open.mono _ _ _ _
      | exact waybillref22_Own.mono _ _ _
      | exact waybillref22_See.mono _ _ _ _ _
      | exact window_Open.mono _ _ _ _
      | exact LeO.none _
      | refine LeO.ite ?_ ?_
      | refine LeO.bind ?_ (fun _ => ?_)
def waybilllaw22_WindowTells.T12 : Bool × List (List Nat × List Nat) := (true, [([], []), ([], []), ([0, 1], [0, 1]), ([2, 2], [2]), ([], []), ([], []), ([4, 5, 3], [4, 5]), ([3, 6], [3, 6]), ([7, 6], [7]), ([8], [8]), ([8], [8]), ([9, 10, 8, 8], [8, 9, 10]), ([8, 11], [8, 11]), ([12, 11], [12]), ([13, 13], [13]), ([13, 14], [13, 14]), ([15, 14, 0, 1, 2, 3, 4, 5, 6, 7, 8, 9, 10, 11, 12, 13, 14, 15], [15])])
def waybilllaw22_WindowTells.B12 : List Nat := [0, 0, 3, 7, 0, 0, 63, 127, 255, 511, 511, 2047, 4095, 8191, 16383, 32767, 65535]
theorem waybilllaw22_WindowTells.tab12 : rtab .any (opsOf Try.f8 12) = waybilllaw22_WindowTells.T12 := by kernel_rfl
theorem waybilllaw22_WindowTells.bits12 : waitsOk waybilllaw22_WindowTells.T12.2 waybilllaw22_WindowTells.B12 = true := by kernel_rfl
theorem waybilllaw22_WindowTells.j0_no (k : Nat) (x0_ : _) (x2_ : _) (x3_ : _) (x4_ : _) (x5_ : _) : waybilllaw22_WindowTells.j0 k x0_ true x2_ x3_ x4_ x5_ = some true → False := by
  cases k <;> simp [waybilllaw22_WindowTells.j0]
set_option maxHeartbeats 8000000 in
set_option maxRecDepth 100000 in
theorem waybilllaw22_WindowTells.calls (k : Nat) (a0_0 : Int) (A0_1 : Option Addr) (c0_1 : Nat) (l0_1 : List (S32)) (a1 : Int) (a2 : Int) (A3 : Option Addr) (c3 : Nat) (l3 : List (S32)) (a4 : Int) (r : Bool) (w : World) (hr0_1 : Kd.C k32 w A0_1 l0_1.length l0_1) (hc0_1 : l0_1.length ≤ c0_1) (hr3 : Kd.C k32 w A3 l3.length l3) (hc3 : l3.length ≤ c3) (h : waybilllaw22_WindowTells.f k a0_0 l0_1 a1 a2 l3 a4 = some r)  (hrt : r = true) :
    Calls Try.prog 8 #[.agg #[.int .i64 a0_0, .slice A0_1 l0_1.length c0_1], .int .i64 a1, .int .i64 a2, .slice A3 l3.length c3, .int .i64 a4] w fun e w' => e = .returned (.bool r) ∧ Below w.heap.size w w' := by
  have hu24 := Try.underlying24
  have hu32 := Try.underlying32
  have HR0_1 := Aside0.mk hr0_1
  have HC0_1 := Aside0.mk hc0_1
  clear hr0_1 hc0_1
  have HR3 := Aside0.mk hr3
  have HC3 := Aside0.mk hc3
  clear hr3 hc3
  have HB := Aside0.mk (Below.refl w.heap.size w)
  have H : ((waybillref22_Own.f k a0_0 l0_1).bind fun bt223 => ((window_See.f bt223.1 bt223.2 a1 a2).bind fun bt228 => ((waybillref22_See.f k a0_0 l0_1 a1 a2).bind fun bt236 => ((window_Put.f bt223.1 bt223.2 a1 l3).bind fun bt244 => ((waybillref22_Put.f a0_0 l0_1 a1 l3).bind fun bt250 => ((window_Forget.f bt223.1 bt223.2 a1 a4).bind fun bt256 => ((waybillref22_Forget.f k a0_0 l0_1 a1 a4).bind fun bt263 => ((window_Open.f k bt223.1 bt223.2 a1).bind fun bt270 => ((waybillref22_Open.f k a0_0 l0_1 a1).bind fun bt274 => (if bt228.1 = bt236.1 then ((waybilllaw22_same.f bt228.2.1 bt228.2.2.1 bt228.2.2.2.1 bt236.2.1 bt236.2.2.1 bt236.2.2.2.1).bind fun t278 => (if t278 = true then ((waybilllaw22_num.f bt228.2.2.2.2).bind fun t279 => (if t279 = bt236.2.2.2.2 then ((waybillref22_Same.f bt244.1 bt244.2.1 bt250.1 bt250.2.1).bind fun t280 => (if t280 = true then ((waybilllaw22_num.f bt244.2.2).bind fun t281 => (if t281 = bt250.2.2 then ((waybillref22_Same.f bt256.1 bt256.2.1 bt263.1 bt263.2.1).bind fun t282 => (if t282 = true then (if bt256.2.2.1 = bt263.2.2.1 then ((waybilllaw22_num.f bt256.2.2.2).bind fun t283 => (if t283 = bt263.2.2.2 then ((waybillplain_SameInts.f k bt270.1 bt274.1).bind fun t284 => (if t284 = true then ((waybilllaw22_num.f bt270.2).bind fun t285 => (waybilllaw22_WindowTells.j0 k a1 (t285 != bt274.2) a0_0 l0_1 bt223.1 bt223.2)) else (waybilllaw22_WindowTells.j0 k a1 true a0_0 l0_1 bt223.1 bt223.2))) else (waybilllaw22_WindowTells.j0 k a1 true a0_0 l0_1 bt223.1 bt223.2))) else (waybilllaw22_WindowTells.j0 k a1 true a0_0 l0_1 bt223.1 bt223.2)) else (waybilllaw22_WindowTells.j0 k a1 true a0_0 l0_1 bt223.1 bt223.2))) else (waybilllaw22_WindowTells.j0 k a1 true a0_0 l0_1 bt223.1 bt223.2))) else (waybilllaw22_WindowTells.j0 k a1 true a0_0 l0_1 bt223.1 bt223.2))) else (waybilllaw22_WindowTells.j0 k a1 true a0_0 l0_1 bt223.1 bt223.2))) else (waybilllaw22_WindowTells.j0 k a1 true a0_0 l0_1 bt223.1 bt223.2))) else (waybilllaw22_WindowTells.j0 k a1 true a0_0 l0_1 bt223.1 bt223.2))))))))))) = some r := h
  clear h
  replace H := Option.bind_eq_some_iff.mp H
  obtain ⟨⟨t223, t224⟩, A60, H⟩ := H
  replace H : ((window_See.f t223 t224 a1 a2).bind fun bt228 => ((waybillref22_See.f k a0_0 l0_1 a1 a2).bind fun bt236 => ((window_Put.f t223 t224 a1 l3).bind fun bt244 => ((waybillref22_Put.f a0_0 l0_1 a1 l3).bind fun bt250 => ((window_Forget.f t223 t224 a1 a4).bind fun bt256 => ((waybillref22_Forget.f k a0_0 l0_1 a1 a4).bind fun bt263 => ((window_Open.f k t223 t224 a1).bind fun bt270 => ((waybillref22_Open.f k a0_0 l0_1 a1).bind fun bt274 => (if bt228.1 = bt236.1 then ((waybilllaw22_same.f bt228.2.1 bt228.2.2.1 bt228.2.2.2.1 bt236.2.1 bt236.2.2.1 bt236.2.2.2.1).bind fun t278 => (if t278 = true then ((waybilllaw22_num.f bt228.2.2.2.2).bind fun t279 => (if t279 = bt236.2.2.2.2 then ((waybillref22_Same.f bt244.1 bt244.2.1 bt250.1 bt250.2.1).bind fun t280 => (if t280 = true then ((waybilllaw22_num.f bt244.2.2).bind fun t281 => (if t281 = bt250.2.2 then ((waybillref22_Same.f bt256.1 bt256.2.1 bt263.1 bt263.2.1).bind fun t282 => (if t282 = true then (if bt256.2.2.1 = bt263.2.2.1 then ((waybilllaw22_num.f bt256.2.2.2).bind fun t283 => (if t283 = bt263.2.2.2 then ((waybillplain_SameInts.f k bt270.1 bt274.1).bind fun t284 => (if t284 = true then ((waybilllaw22_num.f bt270.2).bind fun t285 => (waybilllaw22_WindowTells.j0 k a1 (t285 != bt274.2) a0_0 l0_1 t223 t224)) else (waybilllaw22_WindowTells.j0 k a1 true a0_0 l0_1 t223 t224))) else (waybilllaw22_WindowTells.j0 k a1 true a0_0 l0_1 t223 t224))) else (waybilllaw22_WindowTells.j0 k a1 true a0_0 l0_1 t223 t224)) else (waybilllaw22_WindowTells.j0 k a1 true a0_0 l0_1 t223 t224))) else (waybilllaw22_WindowTells.j0 k a1 true a0_0 l0_1 t223 t224))) else (waybilllaw22_WindowTells.j0 k a1 true a0_0 l0_1 t223 t224))) else (waybilllaw22_WindowTells.j0 k a1 true a0_0 l0_1 t223 t224))) else (waybilllaw22_WindowTells.j0 k a1 true a0_0 l0_1 t223 t224))) else (waybilllaw22_WindowTells.j0 k a1 true a0_0 l0_1 t223 t224)))))))))) = some r := H
  have A6 := Aside0.mk A60
  clear A60
  replace H := Option.bind_eq_some_iff.mp H
  obtain ⟨⟨t228, t229, t230, t231, t234⟩, A70, H⟩ := H
  replace H : ((waybillref22_See.f k a0_0 l0_1 a1 a2).bind fun bt236 => ((window_Put.f t223 t224 a1 l3).bind fun bt244 => ((waybillref22_Put.f a0_0 l0_1 a1 l3).bind fun bt250 => ((window_Forget.f t223 t224 a1 a4).bind fun bt256 => ((waybillref22_Forget.f k a0_0 l0_1 a1 a4).bind fun bt263 => ((window_Open.f k t223 t224 a1).bind fun bt270 => ((waybillref22_Open.f k a0_0 l0_1 a1).bind fun bt274 => (if t228 = bt236.1 then ((waybilllaw22_same.f t229 t230 t231 bt236.2.1 bt236.2.2.1 bt236.2.2.2.1).bind fun t278 => (if t278 = true then ((waybilllaw22_num.f t234).bind fun t279 => (if t279 = bt236.2.2.2.2 then ((waybillref22_Same.f bt244.1 bt244.2.1 bt250.1 bt250.2.1).bind fun t280 => (if t280 = true then ((waybilllaw22_num.f bt244.2.2).bind fun t281 => (if t281 = bt250.2.2 then ((waybillref22_Same.f bt256.1 bt256.2.1 bt263.1 bt263.2.1).bind fun t282 => (if t282 = true then (if bt256.2.2.1 = bt263.2.2.1 then ((waybilllaw22_num.f bt256.2.2.2).bind fun t283 => (if t283 = bt263.2.2.2 then ((waybillplain_SameInts.f k bt270.1 bt274.1).bind fun t284 => (if t284 = true then ((waybilllaw22_num.f bt270.2).bind fun t285 => (waybilllaw22_WindowTells.j0 k a1 (t285 != bt274.2) a0_0 l0_1 t223 t224)) else (waybilllaw22_WindowTells.j0 k a1 true a0_0 l0_1 t223 t224))) else (waybilllaw22_WindowTells.j0 k a1 true a0_0 l0_1 t223 t224))) else (waybilllaw22_WindowTells.j0 k a1 true a0_0 l0_1 t223 t224)) else (waybilllaw22_WindowTells.j0 k a1 true a0_0 l0_1 t223 t224))) else (waybilllaw22_WindowTells.j0 k a1 true a0_0 l0_1 t223 t224))) else (waybilllaw22_WindowTells.j0 k a1 true a0_0 l0_1 t223 t224))) else (waybilllaw22_WindowTells.j0 k a1 true a0_0 l0_1 t223 t224))) else (waybilllaw22_WindowTells.j0 k a1 true a0_0 l0_1 t223 t224))) else (waybilllaw22_WindowTells.j0 k a1 true a0_0 l0_1 t223 t224))))))))) = some r := H
  have A7 := Aside0.mk A70
  clear A70
  replace H := Option.bind_eq_some_iff.mp H
  obtain ⟨⟨t236, t237, t238, t239, t242⟩, A80, H⟩ := H
  replace H : ((window_Put.f t223 t224 a1 l3).bind fun bt244 => ((waybillref22_Put.f a0_0 l0_1 a1 l3).bind fun bt250 => ((window_Forget.f t223 t224 a1 a4).bind fun bt256 => ((waybillref22_Forget.f k a0_0 l0_1 a1 a4).bind fun bt263 => ((window_Open.f k t223 t224 a1).bind fun bt270 => ((waybillref22_Open.f k a0_0 l0_1 a1).bind fun bt274 => (if t228 = t236 then ((waybilllaw22_same.f t229 t230 t231 t237 t238 t239).bind fun t278 => (if t278 = true then ((waybilllaw22_num.f t234).bind fun t279 => (if t279 = t242 then ((waybillref22_Same.f bt244.1 bt244.2.1 bt250.1 bt250.2.1).bind fun t280 => (if t280 = true then ((waybilllaw22_num.f bt244.2.2).bind fun t281 => (if t281 = bt250.2.2 then ((waybillref22_Same.f bt256.1 bt256.2.1 bt263.1 bt263.2.1).bind fun t282 => (if t282 = true then (if bt256.2.2.1 = bt263.2.2.1 then ((waybilllaw22_num.f bt256.2.2.2).bind fun t283 => (if t283 = bt263.2.2.2 then ((waybillplain_SameInts.f k bt270.1 bt274.1).bind fun t284 => (if t284 = true then ((waybilllaw22_num.f bt270.2).bind fun t285 => (waybilllaw22_WindowTells.j0 k a1 (t285 != bt274.2) a0_0 l0_1 t223 t224)) else (waybilllaw22_WindowTells.j0 k a1 true a0_0 l0_1 t223 t224))) else (waybilllaw22_WindowTells.j0 k a1 true a0_0 l0_1 t223 t224))) else (waybilllaw22_WindowTells.j0 k a1 true a0_0 l0_1 t223 t224)) else (waybilllaw22_WindowTells.j0 k a1 true a0_0 l0_1 t223 t224))) else (waybilllaw22_WindowTells.j0 k a1 true a0_0 l0_1 t223 t224))) else (waybilllaw22_WindowTells.j0 k a1 true a0_0 l0_1 t223 t224))) else (waybilllaw22_WindowTells.j0 k a1 true a0_0 l0_1 t223 t224))) else (waybilllaw22_WindowTells.j0 k a1 true a0_0 l0_1 t223 t224))) else (waybilllaw22_WindowTells.j0 k a1 true a0_0 l0_1 t223 t224)))))))) = some r := H
  have A8 := Aside0.mk A80
  clear A80
  replace H := Option.bind_eq_some_iff.mp H
  obtain ⟨⟨t244, t245, t248⟩, A90, H⟩ := H
  replace H : ((waybillref22_Put.f a0_0 l0_1 a1 l3).bind fun bt250 => ((window_Forget.f t223 t224 a1 a4).bind fun bt256 => ((waybillref22_Forget.f k a0_0 l0_1 a1 a4).bind fun bt263 => ((window_Open.f k t223 t224 a1).bind fun bt270 => ((waybillref22_Open.f k a0_0 l0_1 a1).bind fun bt274 => (if t228 = t236 then ((waybilllaw22_same.f t229 t230 t231 t237 t238 t239).bind fun t278 => (if t278 = true then ((waybilllaw22_num.f t234).bind fun t279 => (if t279 = t242 then ((waybillref22_Same.f t244 t245 bt250.1 bt250.2.1).bind fun t280 => (if t280 = true then ((waybilllaw22_num.f t248).bind fun t281 => (if t281 = bt250.2.2 then ((waybillref22_Same.f bt256.1 bt256.2.1 bt263.1 bt263.2.1).bind fun t282 => (if t282 = true then (if bt256.2.2.1 = bt263.2.2.1 then ((waybilllaw22_num.f bt256.2.2.2).bind fun t283 => (if t283 = bt263.2.2.2 then ((waybillplain_SameInts.f k bt270.1 bt274.1).bind fun t284 => (if t284 = true then ((waybilllaw22_num.f bt270.2).bind fun t285 => (waybilllaw22_WindowTells.j0 k a1 (t285 != bt274.2) a0_0 l0_1 t223 t224)) else (waybilllaw22_WindowTells.j0 k a1 true a0_0 l0_1 t223 t224))) else (waybilllaw22_WindowTells.j0 k a1 true a0_0 l0_1 t223 t224))) else (waybilllaw22_WindowTells.j0 k a1 true a0_0 l0_1 t223 t224)) else (waybilllaw22_WindowTells.j0 k a1 true a0_0 l0_1 t223 t224))) else (waybilllaw22_WindowTells.j0 k a1 true a0_0 l0_1 t223 t224))) else (waybilllaw22_WindowTells.j0 k a1 true a0_0 l0_1 t223 t224))) else (waybilllaw22_WindowTells.j0 k a1 true a0_0 l0_1 t223 t224))) else (waybilllaw22_WindowTells.j0 k a1 true a0_0 l0_1 t223 t224))) else (waybilllaw22_WindowTells.j0 k a1 true a0_0 l0_1 t223 t224))))))) = some r := H
  have A9 := Aside0.mk A90
  clear A90
  replace H := Option.bind_eq_some_iff.mp H
  obtain ⟨⟨t250, t251, t254⟩, A100, H⟩ := H
  replace H : ((window_Forget.f t223 t224 a1 a4).bind fun bt256 => ((waybillref22_Forget.f k a0_0 l0_1 a1 a4).bind fun bt263 => ((window_Open.f k t223 t224 a1).bind fun bt270 => ((waybillref22_Open.f k a0_0 l0_1 a1).bind fun bt274 => (if t228 = t236 then ((waybilllaw22_same.f t229 t230 t231 t237 t238 t239).bind fun t278 => (if t278 = true then ((waybilllaw22_num.f t234).bind fun t279 => (if t279 = t242 then ((waybillref22_Same.f t244 t245 t250 t251).bind fun t280 => (if t280 = true then ((waybilllaw22_num.f t248).bind fun t281 => (if t281 = t254 then ((waybillref22_Same.f bt256.1 bt256.2.1 bt263.1 bt263.2.1).bind fun t282 => (if t282 = true then (if bt256.2.2.1 = bt263.2.2.1 then ((waybilllaw22_num.f bt256.2.2.2).bind fun t283 => (if t283 = bt263.2.2.2 then ((waybillplain_SameInts.f k bt270.1 bt274.1).bind fun t284 => (if t284 = true then ((waybilllaw22_num.f bt270.2).bind fun t285 => (waybilllaw22_WindowTells.j0 k a1 (t285 != bt274.2) a0_0 l0_1 t223 t224)) else (waybilllaw22_WindowTells.j0 k a1 true a0_0 l0_1 t223 t224))) else (waybilllaw22_WindowTells.j0 k a1 true a0_0 l0_1 t223 t224))) else (waybilllaw22_WindowTells.j0 k a1 true a0_0 l0_1 t223 t224)) else (waybilllaw22_WindowTells.j0 k a1 true a0_0 l0_1 t223 t224))) else (waybilllaw22_WindowTells.j0 k a1 true a0_0 l0_1 t223 t224))) else (waybilllaw22_WindowTells.j0 k a1 true a0_0 l0_1 t223 t224))) else (waybilllaw22_WindowTells.j0 k a1 true a0_0 l0_1 t223 t224))) else (waybilllaw22_WindowTells.j0 k a1 true a0_0 l0_1 t223 t224))) else (waybilllaw22_WindowTells.j0 k a1 true a0_0 l0_1 t223 t224)))))) = some r := H
  have A10 := Aside0.mk A100
  clear A100
  replace H := Option.bind_eq_some_iff.mp H
  obtain ⟨⟨t256, t257, t260, t261⟩, A110, H⟩ := H
  replace H : ((waybillref22_Forget.f k a0_0 l0_1 a1 a4).bind fun bt263 => ((window_Open.f k t223 t224 a1).bind fun bt270 => ((waybillref22_Open.f k a0_0 l0_1 a1).bind fun bt274 => (if t228 = t236 then ((waybilllaw22_same.f t229 t230 t231 t237 t238 t239).bind fun t278 => (if t278 = true then ((waybilllaw22_num.f t234).bind fun t279 => (if t279 = t242 then ((waybillref22_Same.f t244 t245 t250 t251).bind fun t280 => (if t280 = true then ((waybilllaw22_num.f t248).bind fun t281 => (if t281 = t254 then ((waybillref22_Same.f t256 t257 bt263.1 bt263.2.1).bind fun t282 => (if t282 = true then (if t260 = bt263.2.2.1 then ((waybilllaw22_num.f t261).bind fun t283 => (if t283 = bt263.2.2.2 then ((waybillplain_SameInts.f k bt270.1 bt274.1).bind fun t284 => (if t284 = true then ((waybilllaw22_num.f bt270.2).bind fun t285 => (waybilllaw22_WindowTells.j0 k a1 (t285 != bt274.2) a0_0 l0_1 t223 t224)) else (waybilllaw22_WindowTells.j0 k a1 true a0_0 l0_1 t223 t224))) else (waybilllaw22_WindowTells.j0 k a1 true a0_0 l0_1 t223 t224))) else (waybilllaw22_WindowTells.j0 k a1 true a0_0 l0_1 t223 t224)) else (waybilllaw22_WindowTells.j0 k a1 true a0_0 l0_1 t223 t224))) else (waybilllaw22_WindowTells.j0 k a1 true a0_0 l0_1 t223 t224))) else (waybilllaw22_WindowTells.j0 k a1 true a0_0 l0_1 t223 t224))) else (waybilllaw22_WindowTells.j0 k a1 true a0_0 l0_1 t223 t224))) else (waybilllaw22_WindowTells.j0 k a1 true a0_0 l0_1 t223 t224))) else (waybilllaw22_WindowTells.j0 k a1 true a0_0 l0_1 t223 t224))))) = some r := H
  have A11 := Aside0.mk A110
  clear A110
  replace H := Option.bind_eq_some_iff.mp H
  obtain ⟨⟨t263, t264, t267, t268⟩, A120, H⟩ := H
  replace H : ((window_Open.f k t223 t224 a1).bind fun bt270 => ((waybillref22_Open.f k a0_0 l0_1 a1).bind fun bt274 => (if t228 = t236 then ((waybilllaw22_same.f t229 t230 t231 t237 t238 t239).bind fun t278 => (if t278 = true then ((waybilllaw22_num.f t234).bind fun t279 => (if t279 = t242 then ((waybillref22_Same.f t244 t245 t250 t251).bind fun t280 => (if t280 = true then ((waybilllaw22_num.f t248).bind fun t281 => (if t281 = t254 then ((waybillref22_Same.f t256 t257 t263 t264).bind fun t282 => (if t282 = true then (if t260 = t267 then ((waybilllaw22_num.f t261).bind fun t283 => (if t283 = t268 then ((waybillplain_SameInts.f k bt270.1 bt274.1).bind fun t284 => (if t284 = true then ((waybilllaw22_num.f bt270.2).bind fun t285 => (waybilllaw22_WindowTells.j0 k a1 (t285 != bt274.2) a0_0 l0_1 t223 t224)) else (waybilllaw22_WindowTells.j0 k a1 true a0_0 l0_1 t223 t224))) else (waybilllaw22_WindowTells.j0 k a1 true a0_0 l0_1 t223 t224))) else (waybilllaw22_WindowTells.j0 k a1 true a0_0 l0_1 t223 t224)) else (waybilllaw22_WindowTells.j0 k a1 true a0_0 l0_1 t223 t224))) else (waybilllaw22_WindowTells.j0 k a1 true a0_0 l0_1 t223 t224))) else (waybilllaw22_WindowTells.j0 k a1 true a0_0 l0_1 t223 t224))) else (waybilllaw22_WindowTells.j0 k a1 true a0_0 l0_1 t223 t224))) else (waybilllaw22_WindowTells.j0 k a1 true a0_0 l0_1 t223 t224))) else (waybilllaw22_WindowTells.j0 k a1 true a0_0 l0_1 t223 t224)))) = some r := H
  have A12 := Aside0.mk A120
  clear A120
  replace H := Option.bind_eq_some_iff.mp H
  obtain ⟨⟨t270, t273⟩, A130, H⟩ := H
  replace H : ((waybillref22_Open.f k a0_0 l0_1 a1).bind fun bt274 => (if t228 = t236 then ((waybilllaw22_same.f t229 t230 t231 t237 t238 t239).bind fun t278 => (if t278 = true then ((waybilllaw22_num.f t234).bind fun t279 => (if t279 = t242 then ((waybillref22_Same.f t244 t245 t250 t251).bind fun t280 => (if t280 = true then ((waybilllaw22_num.f t248).bind fun t281 => (if t281 = t254 then ((waybillref22_Same.f t256 t257 t263 t264).bind fun t282 => (if t282 = true then (if t260 = t267 then ((waybilllaw22_num.f t261).bind fun t283 => (if t283 = t268 then ((waybillplain_SameInts.f k t270 bt274.1).bind fun t284 => (if t284 = true then ((waybilllaw22_num.f t273).bind fun t285 => (waybilllaw22_WindowTells.j0 k a1 (t285 != bt274.2) a0_0 l0_1 t223 t224)) else (waybilllaw22_WindowTells.j0 k a1 true a0_0 l0_1 t223 t224))) else (waybilllaw22_WindowTells.j0 k a1 true a0_0 l0_1 t223 t224))) else (waybilllaw22_WindowTells.j0 k a1 true a0_0 l0_1 t223 t224)) else (waybilllaw22_WindowTells.j0 k a1 true a0_0 l0_1 t223 t224))) else (waybilllaw22_WindowTells.j0 k a1 true a0_0 l0_1 t223 t224))) else (waybilllaw22_WindowTells.j0 k a1 true a0_0 l0_1 t223 t224))) else (waybilllaw22_WindowTells.j0 k a1 true a0_0 l0_1 t223 t224))) else (waybilllaw22_WindowTells.j0 k a1 true a0_0 l0_1 t223 t224))) else (waybilllaw22_WindowTells.j0 k a1 true a0_0 l0_1 t223 t224))) = some r := H
  have A13 := Aside0.mk A130
  clear A130
  replace H := Option.bind_eq_some_iff.mp H
  obtain ⟨⟨t274, t277⟩, A140, H⟩ := H
  replace H : (if t228 = t236 then ((waybilllaw22_same.f t229 t230 t231 t237 t238 t239).bind fun t278 => (if t278 = true then ((waybilllaw22_num.f t234).bind fun t279 => (if t279 = t242 then ((waybillref22_Same.f t244 t245 t250 t251).bind fun t280 => (if t280 = true then ((waybilllaw22_num.f t248).bind fun t281 => (if t281 = t254 then ((waybillref22_Same.f t256 t257 t263 t264).bind fun t282 => (if t282 = true then (if t260 = t267 then ((waybilllaw22_num.f t261).bind fun t283 => (if t283 = t268 then ((waybillplain_SameInts.f k t270 t274).bind fun t284 => (if t284 = true then ((waybilllaw22_num.f t273).bind fun t285 => (waybilllaw22_WindowTells.j0 k a1 (t285 != t277) a0_0 l0_1 t223 t224)) else (waybilllaw22_WindowTells.j0 k a1 true a0_0 l0_1 t223 t224))) else (waybilllaw22_WindowTells.j0 k a1 true a0_0 l0_1 t223 t224))) else (waybilllaw22_WindowTells.j0 k a1 true a0_0 l0_1 t223 t224)) else (waybilllaw22_WindowTells.j0 k a1 true a0_0 l0_1 t223 t224))) else (waybilllaw22_WindowTells.j0 k a1 true a0_0 l0_1 t223 t224))) else (waybilllaw22_WindowTells.j0 k a1 true a0_0 l0_1 t223 t224))) else (waybilllaw22_WindowTells.j0 k a1 true a0_0 l0_1 t223 t224))) else (waybilllaw22_WindowTells.j0 k a1 true a0_0 l0_1 t223 t224))) else (waybilllaw22_WindowTells.j0 k a1 true a0_0 l0_1 t223 t224)) = some r := H
  have A14 := Aside0.mk A140
  clear A140
  have HC15 := Aside0.mk H
  clear H
  go_enter Try.func8, Try.ntmps8
  go_upto_region 10 with (first | ((with_reducible refine gate_dst (N := 5) rfl ?_); refine box_event ?hg (N := 5) ?hd (cs := #[.int .i64 a0_0, .slice A0_1 l0_1.length c0_1]) (t := 24) ?hr ?_; (case hd => rfl); (case hg => rfl); (case hr => first | (go_simp; done) | (go_simp; rfl)); intro gb222 hg w16 hbox hb; have n0_ := Aside0.mk (below_step (by repeat (first | (with_reducible first | exact HB.out | apply below_alloc | apply pw_below_drewN | apply below_drew1) | exact HB.out)) hb); have n1_ := Aside0.mk (hbox); have n2_ := Aside0.mk ((by rw [hg]; exact (below_size (by repeat (first | (with_reducible first | exact HB.out | apply below_alloc | apply pw_below_drewN | apply below_drew1) | exact HB.out))) : w.heap.size ≤ gb222)); have n3_ := Aside0.mk ((by rw [hg]; exact (below_size (by repeat (first | (with_reducible first | exact HB.out | apply below_alloc | apply pw_below_drewN | apply below_drew1) | exact HB.out))) : w.heap.size ≤ gb222)); clear HB; have HB := n0_; have BK222 := n1_; have GW222 := n2_; have GE222 := n3_; clear n0_ n1_ n2_ n3_; clear hb hbox hg; have hcz17_0 : w16.cell? ⟨gb222, 0, none⟩ = some (.int .i64 a0_0) := (blk_cell BK222.out 0).trans rfl; have hcz17_1 : w16.cell? ⟨gb222, 1, none⟩ = some (.slice A0_1 l0_1.length c0_1) := (blk_cell BK222.out 1).trans rfl; have hfz17_0 := blk_frozen BK222.out 0; have hfz17_1 := blk_frozen BK222.out 1) | ((with_reducible refine gate_callee (f := 17) rfl ?_); refine goesL_ (some 33) rfl rfl Try.func17 (by kernel_rfl) rfl #[.agg #[.int .i64 a0_0, .slice A0_1 l0_1.length c0_1]] rfl (by (try simp only [List.map_toArray, List.map_cons, List.map_nil]); first | done | rfl | (simp only [List.length_drop, List.length_take]; rfl)) ?_; (with_reducible refine (waybillref22_Own.calls k a0_0 _ _ l0_1 t223 t224 _ ?side1 ?side2 A6.out).mono ?_); (case side1 => repeat (first | exact (Kd.C_below HR0_1.out HB.out) | (with_reducible refine Kd.C_alloc ?_ _) | (with_reducible refine Kd.C_drewN ?_ _) | (with_reducible refine Kd.C_drew ?_))); (case side2 => exact HC0_1.out); rintro e w18 ⟨v225, rfl, ho0, hb⟩; refine ⟨_, rfl, ?_⟩; have n0_ := Aside0.mk (Kd.S_lower ho0 (below_size (by repeat (first | (with_reducible first | exact HB.out | apply below_alloc | apply pw_below_drewN | apply below_drew1 | refine below_set ?_ GE222.out) | exact HB.out)))); have n1_ := Aside0.mk (blk_below (g := gb222) (o := .cells #[.int .i64 a0_0, .slice A0_1 l0_1.length c0_1] 24 (0, 0)) (by (with_reducible repeat (first | refine blk_drewN ?_ _ | refine blk_drew ?_ | refine blk_alloc ?_ _)); exact BK222.out) hb); have n2_ := Aside0.mk (below_step (by repeat (first | (with_reducible first | exact HB.out | apply below_alloc | apply pw_below_drewN | apply below_drew1 | refine below_set ?_ GE222.out) | exact HB.out)) hb); clear BK222; clear HB; have HO226 := n0_; have BK222 := n1_; have HB := n2_; clear n0_ n1_ n2_; (try clear hb); (try clear hb2); (try clear hk); (try clear hi); (try clear ho0)) | ((with_reducible refine gate_dst (N := 11) rfl ?_); refine box_event ?hg (N := 11) ?hd (cs := #[.int .i64 0, .slice none 0 0]) (t := 24) ?hr ?_; (case hd => rfl); (case hg => rfl); (case hr => first | (go_simp; done) | (go_simp; rfl)); intro gb227 hg w19 hbox hb; have n0_ := Aside0.mk (Kd.S_below (by (with_reducible repeat (first | apply Kd.S_alloc | apply Kd.S_drewN | apply Kd.S_drew)); exact HO226.out) hb); have n1_ := Aside0.mk (blk_below (g := gb222) (o := .cells #[.int .i64 a0_0, .slice A0_1 l0_1.length c0_1] 24 (0, 0)) (by (with_reducible repeat (first | refine blk_drewN ?_ _ | refine blk_drew ?_ | refine blk_alloc ?_ _)); exact BK222.out) hb); have n2_ := Aside0.mk (below_step (by repeat (first | (with_reducible first | exact HB.out | apply below_alloc | apply pw_below_drewN | apply below_drew1 | refine below_set ?_ GE222.out) | exact HB.out)) hb); have n3_ := Aside0.mk (hbox); have n4_ := Aside0.mk ((by rw [hg]; exact (below_size (by repeat (first | (with_reducible first | exact HB.out | apply below_alloc | apply pw_below_drewN | apply below_drew1 | refine below_set ?_ GE222.out) | exact HB.out))) : w.heap.size ≤ gb227)); have n5_ := Aside0.mk ((by rw [hg]; exact (below_size (by repeat (first | (with_reducible first | exact HB.out | apply below_alloc | apply pw_below_drewN | apply below_drew1 | refine below_set ?_ GE222.out) | exact HB.out))) : w.heap.size ≤ gb227)); have n6_ := Aside0.mk ((by rw [hg]; exact Nat.ne_of_lt (blk_lt (g := gb222) (o := .cells #[.int .i64 a0_0, .slice A0_1 l0_1.length c0_1] 24 (0, 0)) (by (with_reducible repeat (first | refine blk_drewN ?_ _ | refine blk_drew ?_ | refine blk_alloc ?_ _)); exact BK222.out)) : gb222 ≠ gb227)); have n7_ := Aside0.mk ((by rw [hg]; exact Nat.ne_of_gt (blk_lt (g := gb222) (o := .cells #[.int .i64 a0_0, .slice A0_1 l0_1.length c0_1] 24 (0, 0)) (by (with_reducible repeat (first | refine blk_drewN ?_ _ | refine blk_drew ?_ | refine blk_alloc ?_ _)); exact BK222.out)) : gb227 ≠ gb222)); clear HO226; clear BK222; clear HB; have HO226 := n0_; have BK222 := n1_; have HB := n2_; have BK227 := n3_; have GW227 := n4_; have GE227 := n5_; have NB222_227 := n6_; have NB227_222 := n7_; clear n0_ n1_ n2_ n3_ n4_ n5_ n6_ n7_; clear hb hbox hg; have hnb20 := NB227_222.out; have hnc20 := NB222_227.out; have hcz21_0 : w19.cell? ⟨gb227, 0, none⟩ = some (.int .i64 0) := (blk_cell BK227.out 0).trans rfl; have hcz21_1 : w19.cell? ⟨gb227, 1, none⟩ = some (.slice none 0 0) := (blk_cell BK227.out 1).trans rfl; have hfz21_0 := blk_frozen BK227.out 0; have hfz21_1 := blk_frozen BK227.out 1; obtain ⟨Ao22, co22, eo22⟩ := Kd.S_slice HO226.out; subst eo22) | ((with_reducible refine gate_callee (f := 11) rfl ?_); refine goesL_ (some 38) rfl rfl Try.func11 (by kernel_rfl) rfl #[.agg #[.int .i64 t223, .slice Ao22 t224.length co22], .int .i64 a1, .int .i64 a2] rfl (by (try simp only [List.map_toArray, List.map_cons, List.map_nil]); first | done | rfl | (simp only [List.length_drop, List.length_take]; rfl)) ?_; (with_reducible refine (window_See.calls t223 _ _ t224 a1 a2 t228 t229 t230 t231 t234 _ ?side1 ?side2 A7.out).mono ?_); (case side1 => refine (Kd.S_reads' (e := 32) (base := w.heap.size) (ok := fun k_ => True) (n := t224.length) (c := co22) ?_).2.2; exact (by (with_reducible repeat (first | apply Kd.S_alloc | apply Kd.S_drewN | apply Kd.S_drew)); exact (Kd.S_mono (Kd.S_far (p := ⟨gb227, 1, none⟩) (Kd.S_far (p := ⟨gb227, 0, none⟩) (Kd.S_types HO226.out BK227.out (by decide)) (fun _ hk => hk.2) (.int .i64 t223)) (fun _ hk => hk.2) (.slice Ao22 t224.length co22)) (fun _ h_ => h_.1)))); (case side2 => exact (Kd.S_reads' HO226.out).2.1); rintro e w23 ⟨v232, rfl, ho0, hb⟩; refine ⟨_, rfl, ?_⟩; have n0_ := Aside0.mk (Kd.S_elder' (by (with_reducible repeat (first | apply Kd.S_alloc | apply Kd.S_drewN | apply Kd.S_drew)); exact (Kd.S_mono (Kd.S_far (p := ⟨gb227, 1, none⟩) (Kd.S_far (p := ⟨gb227, 0, none⟩) (Kd.S_types HO226.out BK227.out (by decide)) (fun _ hk => hk.2) (.int .i64 t223)) (fun _ hk => hk.2) (.slice Ao22 t224.length co22)) (fun _ h_ => h_.1))) (Kd.R_base ho0) hb); have n1_ := Aside0.mk (Kd.R_lower ho0 (below_size (by repeat (first | (with_reducible first | exact HB.out | apply below_alloc | apply pw_below_drewN | apply below_drew1 | refine below_set ?_ GE222.out | refine below_set ?_ GE227.out) | exact HB.out)))); have n2_ := Aside0.mk (blk_below (g := gb222) (o := .cells #[.int .i64 a0_0, .slice A0_1 l0_1.length c0_1] 24 (0, 0)) (by (with_reducible repeat (first | refine blk_drewN ?_ _ | refine blk_drew ?_ | refine blk_alloc ?_ _)); refine blk_far ?_ NB222_227.out _; (with_reducible repeat (first | refine blk_drewN ?_ _ | refine blk_drew ?_ | refine blk_alloc ?_ _)); refine blk_far ?_ NB222_227.out _; (with_reducible repeat (first | refine blk_drewN ?_ _ | refine blk_drew ?_ | refine blk_alloc ?_ _)); exact BK222.out) hb); have n3_ := Aside0.mk (blk_below (g := gb227) (o := .cells #[.int .i64 t223, .slice Ao22 t224.length co22] 24 (0, 0)) (by (with_reducible repeat (first | refine blk_drewN ?_ _ | refine blk_drew ?_ | refine blk_alloc ?_ _)); refine blk_put (cs := #[.int .i64 t223, .slice none 0 0]) ?_ 1 _ rfl; (with_reducible repeat (first | refine blk_drewN ?_ _ | refine blk_drew ?_ | refine blk_alloc ?_ _)); refine blk_put (cs := #[.int .i64 0, .slice none 0 0]) ?_ 0 _ rfl; (with_reducible repeat (first | refine blk_drewN ?_ _ | refine blk_drew ?_ | refine blk_alloc ?_ _)); exact BK227.out) hb); have n4_ := Aside0.mk (below_step (by repeat (first | (with_reducible first | exact HB.out | apply below_alloc | apply pw_below_drewN | apply below_drew1 | refine below_set ?_ GE222.out | refine below_set ?_ GE227.out) | exact HB.out)) hb); clear HO226; clear BK222; clear BK227; clear HB; have HO226 := n0_; have HO233 := n1_; have BK222 := n2_; have BK227 := n3_; have HB := n4_; clear n0_ n1_ n2_ n3_ n4_; (try clear hb); (try clear hb2); (try clear hk); (try clear hi); (try clear ho0)) | ((with_reducible refine gate_dst (N := 13) rfl ?_); refine box_event ?hg (N := 13) ?hd (cs := #[.int .i64 0, .int .i64 0, .slice none 0 0]) (t := 32) ?hr ?_; (case hd => rfl); (case hg => rfl); (case hr => first | (go_simp; done) | (go_simp; rfl)); intro gb235 hg w24 hbox hb; have n0_ := Aside0.mk (Kd.S_below (Kd.S_elderB (by (with_reducible repeat (first | apply Kd.S_alloc | apply Kd.S_drewN | apply Kd.S_drew)); exact HO226.out) gb235 (Nat.le_of_eq hg.symm)) hb); have n1_ := Aside0.mk (Kd.R_below (by (with_reducible repeat (first | apply Kd.R_alloc | apply Kd.R_drewN | apply Kd.R_drew)); exact HO233.out) hb); have n2_ := Aside0.mk (blk_below (g := gb222) (o := .cells #[.int .i64 a0_0, .slice A0_1 l0_1.length c0_1] 24 (0, 0)) (by (with_reducible repeat (first | refine blk_drewN ?_ _ | refine blk_drew ?_ | refine blk_alloc ?_ _)); exact BK222.out) hb); have n3_ := Aside0.mk (blk_below (g := gb227) (o := .cells #[.int .i64 t223, .slice Ao22 t224.length co22] 24 (0, 0)) (by (with_reducible repeat (first | refine blk_drewN ?_ _ | refine blk_drew ?_ | refine blk_alloc ?_ _)); exact BK227.out) hb); have n4_ := Aside0.mk (below_step (by repeat (first | (with_reducible first | exact HB.out | apply below_alloc | apply pw_below_drewN | apply below_drew1 | refine below_set ?_ GE222.out | refine below_set ?_ GE227.out) | exact HB.out)) hb); have n5_ := Aside0.mk (hbox); have n6_ := Aside0.mk ((by rw [hg]; exact (below_size (by repeat (first | (with_reducible first | exact HB.out | apply below_alloc | apply pw_below_drewN | apply below_drew1 | refine below_set ?_ GE222.out | refine below_set ?_ GE227.out) | exact HB.out))) : w.heap.size ≤ gb235)); have n7_ := Aside0.mk ((by rw [hg]; exact (below_size (by repeat (first | (with_reducible first | exact HB.out | apply below_alloc | apply pw_below_drewN | apply below_drew1 | refine below_set ?_ GE222.out | refine below_set ?_ GE227.out) | exact HB.out))) : w.heap.size ≤ gb235)); have n8_ := Aside0.mk ((by rw [hg]; exact Nat.ne_of_lt (blk_lt (g := gb222) (o := .cells #[.int .i64 a0_0, .slice A0_1 l0_1.length c0_1] 24 (0, 0)) (by (with_reducible repeat (first | refine blk_drewN ?_ _ | refine blk_drew ?_ | refine blk_alloc ?_ _)); exact BK222.out)) : gb222 ≠ gb235)); have n9_ := Aside0.mk ((by rw [hg]; exact Nat.ne_of_gt (blk_lt (g := gb222) (o := .cells #[.int .i64 a0_0, .slice A0_1 l0_1.length c0_1] 24 (0, 0)) (by (with_reducible repeat (first | refine blk_drewN ?_ _ | refine blk_drew ?_ | refine blk_alloc ?_ _)); exact BK222.out)) : gb235 ≠ gb222)); have n10_ := Aside0.mk ((by rw [hg]; exact Nat.ne_of_lt (blk_lt (g := gb227) (o := .cells #[.int .i64 t223, .slice Ao22 t224.length co22] 24 (0, 0)) (by (with_reducible repeat (first | refine blk_drewN ?_ _ | refine blk_drew ?_ | refine blk_alloc ?_ _)); exact BK227.out)) : gb227 ≠ gb235)); have n11_ := Aside0.mk ((by rw [hg]; exact Nat.ne_of_gt (blk_lt (g := gb227) (o := .cells #[.int .i64 t223, .slice Ao22 t224.length co22] 24 (0, 0)) (by (with_reducible repeat (first | refine blk_drewN ?_ _ | refine blk_drew ?_ | refine blk_alloc ?_ _)); exact BK227.out)) : gb235 ≠ gb227)); clear HO226; clear HO233; clear BK222; clear BK227; clear HB; have HO226 := n0_; have HO233 := n1_; have BK222 := n2_; have BK227 := n3_; have HB := n4_; have BK235 := n5_; have GW235 := n6_; have GE235 := n7_; have NB222_235 := n8_; have NB235_222 := n9_; have NB227_235 := n10_; have NB235_227 := n11_; clear n0_ n1_ n2_ n3_ n4_ n5_ n6_ n7_ n8_ n9_ n10_ n11_; clear hb hbox hg; have hnb25 := NB235_222.out; have hnc25 := NB222_235.out; have hnb26 := NB235_227.out; have hnc26 := NB227_235.out; have hcz27_0 : w24.cell? ⟨gb235, 0, none⟩ = some (.int .i64 0) := (blk_cell BK235.out 0).trans rfl; have hcz27_1 : w24.cell? ⟨gb235, 1, none⟩ = some (.int .i64 0) := (blk_cell BK235.out 1).trans rfl; have hcz27_2 : w24.cell? ⟨gb235, 2, none⟩ = some (.slice none 0 0) := (blk_cell BK235.out 2).trans rfl; have hfz27_0 := blk_frozen BK235.out 0; have hfz27_1 := blk_frozen BK235.out 1; have hfz27_2 := blk_frozen BK235.out 2; obtain ⟨Ao28, co28, eo28⟩ := Kd.R_slice HO233.out; subst eo28; have hcz29_0 : w24.cell? ⟨gb222, 0, none⟩ = some (.int .i64 a0_0) := (blk_cell BK222.out 0).trans rfl; have hcz29_1 : w24.cell? ⟨gb222, 1, none⟩ = some (.slice A0_1 l0_1.length c0_1) := (blk_cell BK222.out 1).trans rfl; have hfz29_0 := blk_frozen BK222.out 0; have hfz29_1 := blk_frozen BK222.out 1) | ((with_reducible refine gate_callee (f := 22) rfl ?_); refine goesL_ (some 46) rfl rfl Try.func22 (by kernel_rfl) rfl #[.agg #[.int .i64 a0_0, .slice A0_1 l0_1.length c0_1], .int .i64 a1, .int .i64 a2] rfl (by (try simp only [List.map_toArray, List.map_cons, List.map_nil]); first | done | rfl | (simp only [List.length_drop, List.length_take]; rfl)) ?_; (with_reducible refine (waybillref22_See.calls k a0_0 _ _ l0_1 a1 a2 t236 t237 t238 t239 t242 _ ?side1 ?side2 A8.out).mono ?_); (case side1 => exact Kd.C_below HR0_1.out (by repeat (first | (with_reducible first | exact HB.out | apply below_alloc | apply pw_below_drewN | apply below_drew1 | refine below_set ?_ GE222.out | refine below_set ?_ GE227.out | refine below_set ?_ GE235.out) | exact HB.out))); (case side2 => exact HC0_1.out); rintro e w30 ⟨v240, rfl, ho0, hb⟩; refine ⟨_, rfl, ?_⟩; have n0_ := Aside0.mk (Kd.S_elder' (by (with_reducible repeat (first | apply Kd.S_alloc | apply Kd.S_drewN | apply Kd.S_drew)); exact (Kd.S_mono (Kd.S_far (p := ⟨gb235, 2, none⟩) (Kd.S_far (p := ⟨gb235, 1, none⟩) (Kd.S_far (p := ⟨gb235, 0, none⟩) (Kd.S_mono HO226.out (fun k_ hk => (⟨hk, hk.2⟩ : _ ∧ k_ ≠ gb235))) (fun _ hk => hk.2) (.int .i64 t229)) (fun _ hk => hk.2) (.int .i64 t230)) (fun _ hk => hk.2) (.slice Ao28 t231.length co28)) (fun _ h_ => h_.1))) (Kd.R_base ho0) hb); have n1_ := Aside0.mk (Kd.R_elder' (by (with_reducible repeat (first | apply Kd.R_alloc | apply Kd.R_drewN | apply Kd.R_drew)); exact (Kd.R_mono (Kd.R_far (p := ⟨gb235, 2, none⟩) (Kd.R_far (p := ⟨gb235, 1, none⟩) (Kd.R_far (p := ⟨gb235, 0, none⟩) (Kd.R_types HO233.out BK235.out (by decide)) (fun _ hk => hk.2) (.int .i64 t229)) (fun _ hk => hk.2) (.int .i64 t230)) (fun _ hk => hk.2) (.slice Ao28 t231.length co28)) (fun _ h_ => h_.1))) (Kd.R_base ho0) hb); have n2_ := Aside0.mk (Kd.R_lower (Kd.R_new' ho0 (Kd.R_lt (by (with_reducible repeat (first | apply Kd.R_alloc | apply Kd.R_drewN | apply Kd.R_drew)); exact (Kd.R_mono (Kd.R_far (p := ⟨gb235, 2, none⟩) (Kd.R_far (p := ⟨gb235, 1, none⟩) (Kd.R_far (p := ⟨gb235, 0, none⟩) (Kd.R_types HO233.out BK235.out (by decide)) (fun _ hk => hk.2) (.int .i64 t229)) (fun _ hk => hk.2) (.int .i64 t230)) (fun _ hk => hk.2) (.slice Ao28 t231.length co28)) (fun _ h_ => h_.1))))) (below_size (by repeat (first | (with_reducible first | exact HB.out | apply below_alloc | apply pw_below_drewN | apply below_drew1 | refine below_set ?_ GE222.out | refine below_set ?_ GE227.out | refine below_set ?_ GE235.out) | exact HB.out)))); have n3_ := Aside0.mk (blk_below (g := gb222) (o := .cells #[.int .i64 a0_0, .slice A0_1 l0_1.length c0_1] 24 (0, 0)) (by (with_reducible repeat (first | refine blk_drewN ?_ _ | refine blk_drew ?_ | refine blk_alloc ?_ _)); refine blk_far ?_ NB222_235.out _; (with_reducible repeat (first | refine blk_drewN ?_ _ | refine blk_drew ?_ | refine blk_alloc ?_ _)); refine blk_far ?_ NB222_235.out _; (with_reducible repeat (first | refine blk_drewN ?_ _ | refine blk_drew ?_ | refine blk_alloc ?_ _)); refine blk_far ?_ NB222_235.out _; (with_reducible repeat (first | refine blk_drewN ?_ _ | refine blk_drew ?_ | refine blk_alloc ?_ _)); exact BK222.out) hb); have n4_ := Aside0.mk (blk_below (g := gb227) (o := .cells #[.int .i64 t223, .slice Ao22 t224.length co22] 24 (0, 0)) (by (with_reducible repeat (first | refine blk_drewN ?_ _ | refine blk_drew ?_ | refine blk_alloc ?_ _)); refine blk_far ?_ NB227_235.out _; (with_reducible repeat (first | refine blk_drewN ?_ _ | refine blk_drew ?_ | refine blk_alloc ?_ _)); refine blk_far ?_ NB227_235.out _; (with_reducible repeat (first | refine blk_drewN ?_ _ | refine blk_drew ?_ | refine blk_alloc ?_ _)); refine blk_far ?_ NB227_235.out _; (with_reducible repeat (first | refine blk_drewN ?_ _ | refine blk_drew ?_ | refine blk_alloc ?_ _)); exact BK227.out) hb); have n5_ := Aside0.mk (blk_below (g := gb235) (o := .cells #[.int .i64 t229, .int .i64 t230, .slice Ao28 t231.length co28] 32 (0, 0)) (by (with_reducible repeat (first | refine blk_drewN ?_ _ | refine blk_drew ?_ | refine blk_alloc ?_ _)); refine blk_put (cs := #[.int .i64 t229, .int .i64 t230, .slice none 0 0]) ?_ 2 _ rfl; (with_reducible repeat (first | refine blk_drewN ?_ _ | refine blk_drew ?_ | refine blk_alloc ?_ _)); refine blk_put (cs := #[.int .i64 t229, .int .i64 0, .slice none 0 0]) ?_ 1 _ rfl; (with_reducible repeat (first | refine blk_drewN ?_ _ | refine blk_drew ?_ | refine blk_alloc ?_ _)); refine blk_put (cs := #[.int .i64 0, .int .i64 0, .slice none 0 0]) ?_ 0 _ rfl; (with_reducible repeat (first | refine blk_drewN ?_ _ | refine blk_drew ?_ | refine blk_alloc ?_ _)); exact BK235.out) hb); have n6_ := Aside0.mk (below_step (by repeat (first | (with_reducible first | exact HB.out | apply below_alloc | apply pw_below_drewN | apply below_drew1 | refine below_set ?_ GE222.out | refine below_set ?_ GE227.out | refine below_set ?_ GE235.out) | exact HB.out)) hb); clear HO226; clear HO233; clear BK222; clear BK227; clear BK235; clear HB; have HO226 := n0_; have HO233 := n1_; have HO241 := n2_; have BK222 := n3_; have BK227 := n4_; have BK235 := n5_; have HB := n6_; clear n0_ n1_ n2_ n3_ n4_ n5_ n6_; (try clear hb); (try clear hb2); (try clear hk); (try clear hi); (try clear ho0)) | ((with_reducible refine gate_dst (N := 16) rfl ?_); refine box_event ?hg (N := 16) ?hd (cs := #[.int .i64 0, .int .i64 0, .slice none 0 0]) (t := 32) ?hr ?_; (case hd => rfl); (case hg => rfl); (case hr => first | (go_simp; done) | (go_simp; rfl)); intro gb243 hg w31 hbox hb; have n0_ := Aside0.mk (Kd.S_below (Kd.S_elderB (by (with_reducible repeat (first | apply Kd.S_alloc | apply Kd.S_drewN | apply Kd.S_drew)); exact HO226.out) gb243 (Nat.le_of_eq hg.symm)) hb); have n1_ := Aside0.mk (Kd.R_below (by (with_reducible repeat (first | apply Kd.R_alloc | apply Kd.R_drewN | apply Kd.R_drew)); exact HO233.out) hb); have n2_ := Aside0.mk (Kd.R_below (by (with_reducible repeat (first | apply Kd.R_alloc | apply Kd.R_drewN | apply Kd.R_drew)); exact HO241.out) hb); have n3_ := Aside0.mk (blk_below (g := gb222) (o := .cells #[.int .i64 a0_0, .slice A0_1 l0_1.length c0_1] 24 (0, 0)) (by (with_reducible repeat (first | refine blk_drewN ?_ _ | refine blk_drew ?_ | refine blk_alloc ?_ _)); exact BK222.out) hb); have n4_ := Aside0.mk (blk_below (g := gb227) (o := .cells #[.int .i64 t223, .slice Ao22 t224.length co22] 24 (0, 0)) (by (with_reducible repeat (first | refine blk_drewN ?_ _ | refine blk_drew ?_ | refine blk_alloc ?_ _)); exact BK227.out) hb); have n5_ := Aside0.mk (blk_below (g := gb235) (o := .cells #[.int .i64 t229, .int .i64 t230, .slice Ao28 t231.length co28] 32 (0, 0)) (by (with_reducible repeat (first | refine blk_drewN ?_ _ | refine blk_drew ?_ | refine blk_alloc ?_ _)); exact BK235.out) hb); have n6_ := Aside0.mk (below_step (by repeat (first | (with_reducible first | exact HB.out | apply below_alloc | apply pw_below_drewN | apply below_drew1 | refine below_set ?_ GE222.out | refine below_set ?_ GE227.out | refine below_set ?_ GE235.out) | exact HB.out)) hb); have n7_ := Aside0.mk (hbox); have n8_ := Aside0.mk ((by rw [hg]; exact (below_size (by repeat (first | (with_reducible first | exact HB.out | apply below_alloc | apply pw_below_drewN | apply below_drew1 | refine below_set ?_ GE222.out | refine below_set ?_ GE227.out | refine below_set ?_ GE235.out) | exact HB.out))) : w.heap.size ≤ gb243)); have n9_ := Aside0.mk ((by rw [hg]; exact (below_size (by repeat (first | (with_reducible first | exact HB.out | apply below_alloc | apply pw_below_drewN | apply below_drew1 | refine below_set ?_ GE222.out | refine below_set ?_ GE227.out | refine below_set ?_ GE235.out) | exact HB.out))) : w.heap.size ≤ gb243)); have n10_ := Aside0.mk ((by rw [hg]; exact Nat.ne_of_lt (blk_lt (g := gb222) (o := .cells #[.int .i64 a0_0, .slice A0_1 l0_1.length c0_1] 24 (0, 0)) (by (with_reducible repeat (first | refine blk_drewN ?_ _ | refine blk_drew ?_ | refine blk_alloc ?_ _)); exact BK222.out)) : gb222 ≠ gb243)); have n11_ := Aside0.mk ((by rw [hg]; exact Nat.ne_of_gt (blk_lt (g := gb222) (o := .cells #[.int .i64 a0_0, .slice A0_1 l0_1.length c0_1] 24 (0, 0)) (by (with_reducible repeat (first | refine blk_drewN ?_ _ | refine blk_drew ?_ | refine blk_alloc ?_ _)); exact BK222.out)) : gb243 ≠ gb222)); have n12_ := Aside0.mk ((by rw [hg]; exact Nat.ne_of_lt (blk_lt (g := gb227) (o := .cells #[.int .i64 t223, .slice Ao22 t224.length co22] 24 (0, 0)) (by (with_reducible repeat (first | refine blk_drewN ?_ _ | refine blk_drew ?_ | refine blk_alloc ?_ _)); exact BK227.out)) : gb227 ≠ gb243)); have n13_ := Aside0.mk ((by rw [hg]; exact Nat.ne_of_gt (blk_lt (g := gb227) (o := .cells #[.int .i64 t223, .slice Ao22 t224.length co22] 24 (0, 0)) (by (with_reducible repeat (first | refine blk_drewN ?_ _ | refine blk_drew ?_ | refine blk_alloc ?_ _)); exact BK227.out)) : gb243 ≠ gb227)); have n14_ := Aside0.mk ((by rw [hg]; exact Nat.ne_of_lt (blk_lt (g := gb235) (o := .cells #[.int .i64 t229, .int .i64 t230, .slice Ao28 t231.length co28] 32 (0, 0)) (by (with_reducible repeat (first | refine blk_drewN ?_ _ | refine blk_drew ?_ | refine blk_alloc ?_ _)); exact BK235.out)) : gb235 ≠ gb243)); have n15_ := Aside0.mk ((by rw [hg]; exact Nat.ne_of_gt (blk_lt (g := gb235) (o := .cells #[.int .i64 t229, .int .i64 t230, .slice Ao28 t231.length co28] 32 (0, 0)) (by (with_reducible repeat (first | refine blk_drewN ?_ _ | refine blk_drew ?_ | refine blk_alloc ?_ _)); exact BK235.out)) : gb243 ≠ gb235)); clear HO226; clear HO233; clear HO241; clear BK222; clear BK227; clear BK235; clear HB; have HO226 := n0_; have HO233 := n1_; have HO241 := n2_; have BK222 := n3_; have BK227 := n4_; have BK235 := n5_; have HB := n6_; have BK243 := n7_; have GW243 := n8_; have GE243 := n9_; have NB222_243 := n10_; have NB243_222 := n11_; have NB227_243 := n12_; have NB243_227 := n13_; have NB235_243 := n14_; have NB243_235 := n15_; clear n0_ n1_ n2_ n3_ n4_ n5_ n6_ n7_ n8_ n9_ n10_ n11_ n12_ n13_ n14_ n15_; clear hb hbox hg; have hnb32 := NB243_222.out; have hnc32 := NB222_243.out; have hnb33 := NB243_227.out; have hnc33 := NB227_243.out; have hnb34 := NB243_235.out; have hnc34 := NB235_243.out; have hcz35_0 : w31.cell? ⟨gb243, 0, none⟩ = some (.int .i64 0) := (blk_cell BK243.out 0).trans rfl; have hcz35_1 : w31.cell? ⟨gb243, 1, none⟩ = some (.int .i64 0) := (blk_cell BK243.out 1).trans rfl; have hcz35_2 : w31.cell? ⟨gb243, 2, none⟩ = some (.slice none 0 0) := (blk_cell BK243.out 2).trans rfl; have hfz35_0 := blk_frozen BK243.out 0; have hfz35_1 := blk_frozen BK243.out 1; have hfz35_2 := blk_frozen BK243.out 2; obtain ⟨Ao36, co36, eo36⟩ := Kd.R_slice HO241.out; subst eo36; have hcz37_0 : w31.cell? ⟨gb227, 0, none⟩ = some (.int .i64 t223) := (blk_cell BK227.out 0).trans rfl; have hcz37_1 : w31.cell? ⟨gb227, 1, none⟩ = some (.slice Ao22 t224.length co22) := (blk_cell BK227.out 1).trans rfl; have hfz37_0 := blk_frozen BK227.out 0; have hfz37_1 := blk_frozen BK227.out 1) | ((with_reducible refine gate_callee (f := 16) rfl ?_); refine goesL_ (some 54) rfl rfl Try.func16 (by kernel_rfl) rfl #[.agg #[.int .i64 t223, .slice Ao22 t224.length co22], .int .i64 a1, .slice A3 l3.length c3] rfl (by (try simp only [List.map_toArray, List.map_cons, List.map_nil]); first | done | rfl | (simp only [List.length_drop, List.length_take]; rfl)) ?_; (with_reducible refine (window_Put.calls t223 _ _ t224 a1 _ _ l3 t244 t245 t248 _ ?side1 ?side2 ?side3 ?side4 A9.out).mono ?_); (case side1 => refine (Kd.S_reads' (e := 32) (base := w.heap.size) (ok := fun k_ => ((((True ∧ some k_ ≠ (.slice Ao28 t231.length co28 : Value).ownBlock) ∧ k_ ≠ gb235) ∧ some k_ ≠ (.slice Ao36 t239.length co36 : Value).ownBlock) ∧ k_ ≠ gb243)) (n := t224.length) (c := co22) ?_).2.2; exact (by (with_reducible repeat (first | apply Kd.S_alloc | apply Kd.S_drewN | apply Kd.S_drew)); exact (Kd.S_mono (Kd.S_far (p := ⟨gb243, 2, none⟩) (Kd.S_far (p := ⟨gb243, 1, none⟩) (Kd.S_far (p := ⟨gb243, 0, none⟩) (Kd.S_mono HO226.out (fun k_ hk => (⟨hk, hk.2⟩ : _ ∧ k_ ≠ gb243))) (fun _ hk => hk.2) (.int .i64 t237)) (fun _ hk => hk.2) (.int .i64 t238)) (fun _ hk => hk.2) (.slice Ao36 t239.length co36)) (fun _ h_ => h_.1)))); (case side2 => exact (Kd.S_reads' HO226.out).2.1); (case side3 => exact Kd.C_below HR3.out (by repeat (first | (with_reducible first | exact HB.out | apply below_alloc | apply pw_below_drewN | apply below_drew1 | refine below_set ?_ GE222.out | refine below_set ?_ GE227.out | refine below_set ?_ GE235.out | refine below_set ?_ GE243.out) | exact HB.out))); (case side4 => exact HC3.out); rintro e w38 ⟨v246, rfl, ho0, hb⟩; refine ⟨_, rfl, ?_⟩; have n0_ := Aside0.mk (Kd.S_elder' (by (with_reducible repeat (first | apply Kd.S_alloc | apply Kd.S_drewN | apply Kd.S_drew)); exact (Kd.S_mono (Kd.S_far (p := ⟨gb243, 2, none⟩) (Kd.S_far (p := ⟨gb243, 1, none⟩) (Kd.S_far (p := ⟨gb243, 0, none⟩) (Kd.S_mono HO226.out (fun k_ hk => (⟨hk, hk.2⟩ : _ ∧ k_ ≠ gb243))) (fun _ hk => hk.2) (.int .i64 t237)) (fun _ hk => hk.2) (.int .i64 t238)) (fun _ hk => hk.2) (.slice Ao36 t239.length co36)) (fun _ h_ => h_.1))) (Kd.S_base ho0) hb); have n1_ := Aside0.mk (Kd.R_below (by (with_reducible repeat (first | apply Kd.R_alloc | apply Kd.R_drewN | apply Kd.R_drew)); exact (Kd.R_mono (Kd.R_far (p := ⟨gb243, 2, none⟩) (Kd.R_far (p := ⟨gb243, 1, none⟩) (Kd.R_far (p := ⟨gb243, 0, none⟩) (Kd.R_types HO233.out BK243.out (by decide)) (fun _ hk => hk.2) (.int .i64 t237)) (fun _ hk => hk.2) (.int .i64 t238)) (fun _ hk => hk.2) (.slice Ao36 t239.length co36)) (fun _ h_ => h_.1))) hb); have n2_ := Aside0.mk (Kd.R_below (by (with_reducible repeat (first | apply Kd.R_alloc | apply Kd.R_drewN | apply Kd.R_drew)); exact (Kd.R_mono (Kd.R_far (p := ⟨gb243, 2, none⟩) (Kd.R_far (p := ⟨gb243, 1, none⟩) (Kd.R_far (p := ⟨gb243, 0, none⟩) (Kd.R_types HO241.out BK243.out (by decide)) (fun _ hk => hk.2) (.int .i64 t237)) (fun _ hk => hk.2) (.int .i64 t238)) (fun _ hk => hk.2) (.slice Ao36 t239.length co36)) (fun _ h_ => h_.1))) hb); have n3_ := Aside0.mk (Kd.S_lower (Kd.S_newB (Kd.S_newB (Kd.S_new' (Kd.S_new' (Kd.S_new' ho0 (Kd.S_lt (by (with_reducible repeat (first | apply Kd.S_alloc | apply Kd.S_drewN | apply Kd.S_drew)); exact (Kd.S_mono (Kd.S_far (p := ⟨gb243, 2, none⟩) (Kd.S_far (p := ⟨gb243, 1, none⟩) (Kd.S_far (p := ⟨gb243, 0, none⟩) (Kd.S_mono HO226.out (fun k_ hk => (⟨hk, hk.2⟩ : _ ∧ k_ ≠ gb243))) (fun _ hk => hk.2) (.int .i64 t237)) (fun _ hk => hk.2) (.int .i64 t238)) (fun _ hk => hk.2) (.slice Ao36 t239.length co36)) (fun _ h_ => h_.1))))) (Kd.R_lt (by (with_reducible repeat (first | apply Kd.R_alloc | apply Kd.R_drewN | apply Kd.R_drew)); exact (Kd.R_mono (Kd.R_far (p := ⟨gb243, 2, none⟩) (Kd.R_far (p := ⟨gb243, 1, none⟩) (Kd.R_far (p := ⟨gb243, 0, none⟩) (Kd.R_types HO233.out BK243.out (by decide)) (fun _ hk => hk.2) (.int .i64 t237)) (fun _ hk => hk.2) (.int .i64 t238)) (fun _ hk => hk.2) (.slice Ao36 t239.length co36)) (fun _ h_ => h_.1))))) (Kd.R_lt (by (with_reducible repeat (first | apply Kd.R_alloc | apply Kd.R_drewN | apply Kd.R_drew)); exact (Kd.R_mono (Kd.R_far (p := ⟨gb243, 2, none⟩) (Kd.R_far (p := ⟨gb243, 1, none⟩) (Kd.R_far (p := ⟨gb243, 0, none⟩) (Kd.R_types HO241.out BK243.out (by decide)) (fun _ hk => hk.2) (.int .i64 t237)) (fun _ hk => hk.2) (.int .i64 t238)) (fun _ hk => hk.2) (.slice Ao36 t239.length co36)) (fun _ h_ => h_.1))))) (g := gb235) (o := .cells #[.int .i64 t229, .int .i64 t230, .slice Ao28 t231.length co28] 32 (0, 0)) (by (with_reducible repeat (first | refine blk_drewN ?_ _ | refine blk_drew ?_ | refine blk_alloc ?_ _)); refine blk_far ?_ NB235_243.out _; (with_reducible repeat (first | refine blk_drewN ?_ _ | refine blk_drew ?_ | refine blk_alloc ?_ _)); refine blk_far ?_ NB235_243.out _; (with_reducible repeat (first | refine blk_drewN ?_ _ | refine blk_drew ?_ | refine blk_alloc ?_ _)); refine blk_far ?_ NB235_243.out _; (with_reducible repeat (first | refine blk_drewN ?_ _ | refine blk_drew ?_ | refine blk_alloc ?_ _)); exact BK235.out)) (g := gb243) (o := .cells #[.int .i64 t237, .int .i64 t238, .slice Ao36 t239.length co36] 32 (0, 0)) (by (with_reducible repeat (first | refine blk_drewN ?_ _ | refine blk_drew ?_ | refine blk_alloc ?_ _)); refine blk_put (cs := #[.int .i64 t237, .int .i64 t238, .slice none 0 0]) ?_ 2 _ rfl; (with_reducible repeat (first | refine blk_drewN ?_ _ | refine blk_drew ?_ | refine blk_alloc ?_ _)); refine blk_put (cs := #[.int .i64 t237, .int .i64 0, .slice none 0 0]) ?_ 1 _ rfl; (with_reducible repeat (first | refine blk_drewN ?_ _ | refine blk_drew ?_ | refine blk_alloc ?_ _)); refine blk_put (cs := #[.int .i64 0, .int .i64 0, .slice none 0 0]) ?_ 0 _ rfl; (with_reducible repeat (first | refine blk_drewN ?_ _ | refine blk_drew ?_ | refine blk_alloc ?_ _)); exact BK243.out)) (below_size (by repeat (first | (with_reducible first | exact HB.out | apply below_alloc | apply pw_below_drewN | apply below_drew1 | refine below_set ?_ GE222.out | refine below_set ?_ GE227.out | refine below_set ?_ GE235.out | refine below_set ?_ GE243.out) | exact HB.out)))); have n4_ := Aside0.mk (blk_below (g := gb222) (o := .cells #[.int .i64 a0_0, .slice A0_1 l0_1.length c0_1] 24 (0, 0)) (by (with_reducible repeat (first | refine blk_drewN ?_ _ | refine blk_drew ?_ | refine blk_alloc ?_ _)); refine blk_far ?_ NB222_243.out _; (with_reducible repeat (first | refine blk_drewN ?_ _ | refine blk_drew ?_ | refine blk_alloc ?_ _)); refine blk_far ?_ NB222_243.out _; (with_reducible repeat (first | refine blk_drewN ?_ _ | refine blk_drew ?_ | refine blk_alloc ?_ _)); refine blk_far ?_ NB222_243.out _; (with_reducible repeat (first | refine blk_drewN ?_ _ | refine blk_drew ?_ | refine blk_alloc ?_ _)); exact BK222.out) hb); have n5_ := Aside0.mk (blk_below (g := gb227) (o := .cells #[.int .i64 t223, .slice Ao22 t224.length co22] 24 (0, 0)) (by (with_reducible repeat (first | refine blk_drewN ?_ _ | refine blk_drew ?_ | refine blk_alloc ?_ _)); refine blk_far ?_ NB227_243.out _; (with_reducible repeat (first | refine blk_drewN ?_ _ | refine blk_drew ?_ | refine blk_alloc ?_ _)); refine blk_far ?_ NB227_243.out _; (with_reducible repeat (first | refine blk_drewN ?_ _ | refine blk_drew ?_ | refine blk_alloc ?_ _)); refine blk_far ?_ NB227_243.out _; (with_reducible repeat (first | refine blk_drewN ?_ _ | refine blk_drew ?_ | refine blk_alloc ?_ _)); exact BK227.out) hb); have n6_ := Aside0.mk (blk_below (g := gb235) (o := .cells #[.int .i64 t229, .int .i64 t230, .slice Ao28 t231.length co28] 32 (0, 0)) (by (with_reducible repeat (first | refine blk_drewN ?_ _ | refine blk_drew ?_ | refine blk_alloc ?_ _)); refine blk_far ?_ NB235_243.out _; (with_reducible repeat (first | refine blk_drewN ?_ _ | refine blk_drew ?_ | refine blk_alloc ?_ _)); refine blk_far ?_ NB235_243.out _; (with_reducible repeat (first | refine blk_drewN ?_ _ | refine blk_drew ?_ | refine blk_alloc ?_ _)); refine blk_far ?_ NB235_243.out _; (with_reducible repeat (first | refine blk_drewN ?_ _ | refine blk_drew ?_ | refine blk_alloc ?_ _)); exact BK235.out) hb); have n7_ := Aside0.mk (blk_below (g := gb243) (o := .cells #[.int .i64 t237, .int .i64 t238, .slice Ao36 t239.length co36] 32 (0, 0)) (by (with_reducible repeat (first | refine blk_drewN ?_ _ | refine blk_drew ?_ | refine blk_alloc ?_ _)); refine blk_put (cs := #[.int .i64 t237, .int .i64 t238, .slice none 0 0]) ?_ 2 _ rfl; (with_reducible repeat (first | refine blk_drewN ?_ _ | refine blk_drew ?_ | refine blk_alloc ?_ _)); refine blk_put (cs := #[.int .i64 t237, .int .i64 0, .slice none 0 0]) ?_ 1 _ rfl; (with_reducible repeat (first | refine blk_drewN ?_ _ | refine blk_drew ?_ | refine blk_alloc ?_ _)); refine blk_put (cs := #[.int .i64 0, .int .i64 0, .slice none 0 0]) ?_ 0 _ rfl; (with_reducible repeat (first | refine blk_drewN ?_ _ | refine blk_drew ?_ | refine blk_alloc ?_ _)); exact BK243.out) hb); have n8_ := Aside0.mk (below_step (by repeat (first | (with_reducible first | exact HB.out | apply below_alloc | apply pw_below_drewN | apply below_drew1 | refine below_set ?_ GE222.out | refine below_set ?_ GE227.out | refine below_set ?_ GE235.out | refine below_set ?_ GE243.out) | exact HB.out)) hb); clear HO226; clear HO233; clear HO241; clear BK222; clear BK227; clear BK235; clear BK243; clear HB; have HO226 := n0_; have HO233 := n1_; have HO241 := n2_; have HO247 := n3_; have BK222 := n4_; have BK227 := n5_; have BK235 := n6_; have BK243 := n7_; have HB := n8_; clear n0_ n1_ n2_ n3_ n4_ n5_ n6_ n7_ n8_; (try clear hb); (try clear hb2); (try clear hk); (try clear hi); (try clear ho0)) | ((with_reducible refine gate_dst (N := 18) rfl ?_); refine box_event ?hg (N := 18) ?hd (cs := #[.int .i64 0, .slice none 0 0]) (t := 24) ?hr ?_; (case hd => rfl); (case hg => rfl); (case hr => first | (go_simp; done) | (go_simp; rfl)); intro gb249 hg w39 hbox hb; have n0_ := Aside0.mk (Kd.S_below (by (with_reducible repeat (first | apply Kd.S_alloc | apply Kd.S_drewN | apply Kd.S_drew)); exact HO226.out) hb); have n1_ := Aside0.mk (Kd.R_below (by (with_reducible repeat (first | apply Kd.R_alloc | apply Kd.R_drewN | apply Kd.R_drew)); exact HO233.out) hb); have n2_ := Aside0.mk (Kd.R_below (by (with_reducible repeat (first | apply Kd.R_alloc | apply Kd.R_drewN | apply Kd.R_drew)); exact HO241.out) hb); have n3_ := Aside0.mk (Kd.S_below (by (with_reducible repeat (first | apply Kd.S_alloc | apply Kd.S_drewN | apply Kd.S_drew)); exact HO247.out) hb); have n4_ := Aside0.mk (blk_below (g := gb222) (o := .cells #[.int .i64 a0_0, .slice A0_1 l0_1.length c0_1] 24 (0, 0)) (by (with_reducible repeat (first | refine blk_drewN ?_ _ | refine blk_drew ?_ | refine blk_alloc ?_ _)); exact BK222.out) hb); have n5_ := Aside0.mk (blk_below (g := gb227) (o := .cells #[.int .i64 t223, .slice Ao22 t224.length co22] 24 (0, 0)) (by (with_reducible repeat (first | refine blk_drewN ?_ _ | refine blk_drew ?_ | refine blk_alloc ?_ _)); exact BK227.out) hb); have n6_ := Aside0.mk (blk_below (g := gb235) (o := .cells #[.int .i64 t229, .int .i64 t230, .slice Ao28 t231.length co28] 32 (0, 0)) (by (with_reducible repeat (first | refine blk_drewN ?_ _ | refine blk_drew ?_ | refine blk_alloc ?_ _)); exact BK235.out) hb); have n7_ := Aside0.mk (blk_below (g := gb243) (o := .cells #[.int .i64 t237, .int .i64 t238, .slice Ao36 t239.length co36] 32 (0, 0)) (by (with_reducible repeat (first | refine blk_drewN ?_ _ | refine blk_drew ?_ | refine blk_alloc ?_ _)); exact BK243.out) hb); have n8_ := Aside0.mk (below_step (by repeat (first | (with_reducible first | exact HB.out | apply below_alloc | apply pw_below_drewN | apply below_drew1 | refine below_set ?_ GE222.out | refine below_set ?_ GE227.out | refine below_set ?_ GE235.out | refine below_set ?_ GE243.out) | exact HB.out)) hb); have n9_ := Aside0.mk (hbox); have n10_ := Aside0.mk ((by rw [hg]; exact (below_size (by repeat (first | (with_reducible first | exact HB.out | apply below_alloc | apply pw_below_drewN | apply below_drew1 | refine below_set ?_ GE222.out | refine below_set ?_ GE227.out | refine below_set ?_ GE235.out | refine below_set ?_ GE243.out) | exact HB.out))) : w.heap.size ≤ gb249)); have n11_ := Aside0.mk ((by rw [hg]; exact (below_size (by repeat (first | (with_reducible first | exact HB.out | apply below_alloc | apply pw_below_drewN | apply below_drew1 | refine below_set ?_ GE222.out | refine below_set ?_ GE227.out | refine below_set ?_ GE235.out | refine below_set ?_ GE243.out) | exact HB.out))) : w.heap.size ≤ gb249)); have n12_ := Aside0.mk ((by rw [hg]; exact Nat.ne_of_lt (blk_lt (g := gb222) (o := .cells #[.int .i64 a0_0, .slice A0_1 l0_1.length c0_1] 24 (0, 0)) (by (with_reducible repeat (first | refine blk_drewN ?_ _ | refine blk_drew ?_ | refine blk_alloc ?_ _)); exact BK222.out)) : gb222 ≠ gb249)); have n13_ := Aside0.mk ((by rw [hg]; exact Nat.ne_of_gt (blk_lt (g := gb222) (o := .cells #[.int .i64 a0_0, .slice A0_1 l0_1.length c0_1] 24 (0, 0)) (by (with_reducible repeat (first | refine blk_drewN ?_ _ | refine blk_drew ?_ | refine blk_alloc ?_ _)); exact BK222.out)) : gb249 ≠ gb222)); have n14_ := Aside0.mk ((by rw [hg]; exact Nat.ne_of_lt (blk_lt (g := gb227) (o := .cells #[.int .i64 t223, .slice Ao22 t224.length co22] 24 (0, 0)) (by (with_reducible repeat (first | refine blk_drewN ?_ _ | refine blk_drew ?_ | refine blk_alloc ?_ _)); exact BK227.out)) : gb227 ≠ gb249)); have n15_ := Aside0.mk ((by rw [hg]; exact Nat.ne_of_gt (blk_lt (g := gb227) (o := .cells #[.int .i64 t223, .slice Ao22 t224.length co22] 24 (0, 0)) (by (with_reducible repeat (first | refine blk_drewN ?_ _ | refine blk_drew ?_ | refine blk_alloc ?_ _)); exact BK227.out)) : gb249 ≠ gb227)); have n16_ := Aside0.mk ((by rw [hg]; exact Nat.ne_of_lt (blk_lt (g := gb235) (o := .cells #[.int .i64 t229, .int .i64 t230, .slice Ao28 t231.length co28] 32 (0, 0)) (by (with_reducible repeat (first | refine blk_drewN ?_ _ | refine blk_drew ?_ | refine blk_alloc ?_ _)); exact BK235.out)) : gb235 ≠ gb249)); have n17_ := Aside0.mk ((by rw [hg]; exact Nat.ne_of_gt (blk_lt (g := gb235) (o := .cells #[.int .i64 t229, .int .i64 t230, .slice Ao28 t231.length co28] 32 (0, 0)) (by (with_reducible repeat (first | refine blk_drewN ?_ _ | refine blk_drew ?_ | refine blk_alloc ?_ _)); exact BK235.out)) : gb249 ≠ gb235)); have n18_ := Aside0.mk ((by rw [hg]; exact Nat.ne_of_lt (blk_lt (g := gb243) (o := .cells #[.int .i64 t237, .int .i64 t238, .slice Ao36 t239.length co36] 32 (0, 0)) (by (with_reducible repeat (first | refine blk_drewN ?_ _ | refine blk_drew ?_ | refine blk_alloc ?_ _)); exact BK243.out)) : gb243 ≠ gb249)); have n19_ := Aside0.mk ((by rw [hg]; exact Nat.ne_of_gt (blk_lt (g := gb243) (o := .cells #[.int .i64 t237, .int .i64 t238, .slice Ao36 t239.length co36] 32 (0, 0)) (by (with_reducible repeat (first | refine blk_drewN ?_ _ | refine blk_drew ?_ | refine blk_alloc ?_ _)); exact BK243.out)) : gb249 ≠ gb243)); clear HO226; clear HO233; clear HO241; clear HO247; clear BK222; clear BK227; clear BK235; clear BK243; clear HB; have HO226 := n0_; have HO233 := n1_; have HO241 := n2_; have HO247 := n3_; have BK222 := n4_; have BK227 := n5_; have BK235 := n6_; have BK243 := n7_; have HB := n8_; have BK249 := n9_; have GW249 := n10_; have GE249 := n11_; have NB222_249 := n12_; have NB249_222 := n13_; have NB227_249 := n14_; have NB249_227 := n15_; have NB235_249 := n16_; have NB249_235 := n17_; have NB243_249 := n18_; have NB249_243 := n19_; clear n0_ n1_ n2_ n3_ n4_ n5_ n6_ n7_ n8_ n9_ n10_ n11_ n12_ n13_ n14_ n15_ n16_ n17_ n18_ n19_; clear hb hbox hg; have hnb40 := NB249_222.out; have hnc40 := NB222_249.out; have hnb41 := NB249_227.out; have hnc41 := NB227_249.out; have hnb42 := NB249_235.out; have hnc42 := NB235_249.out; have hnb43 := NB249_243.out; have hnc43 := NB243_249.out; have hcz44_0 : w39.cell? ⟨gb249, 0, none⟩ = some (.int .i64 0) := (blk_cell BK249.out 0).trans rfl; have hcz44_1 : w39.cell? ⟨gb249, 1, none⟩ = some (.slice none 0 0) := (blk_cell BK249.out 1).trans rfl; have hfz44_0 := blk_frozen BK249.out 0; have hfz44_1 := blk_frozen BK249.out 1; obtain ⟨Ao45, co45, eo45⟩ := Kd.S_slice HO247.out; subst eo45; have hcz46_0 : w39.cell? ⟨gb222, 0, none⟩ = some (.int .i64 a0_0) := (blk_cell BK222.out 0).trans rfl; have hcz46_1 : w39.cell? ⟨gb222, 1, none⟩ = some (.slice A0_1 l0_1.length c0_1) := (blk_cell BK222.out 1).trans rfl; have hfz46_0 := blk_frozen BK222.out 0; have hfz46_1 := blk_frozen BK222.out 1) | ((with_reducible refine gate_callee (f := 20) rfl ?_); refine goesL_ (some 61) rfl rfl Try.func20 (by kernel_rfl) rfl #[.agg #[.int .i64 a0_0, .slice A0_1 l0_1.length c0_1], .int .i64 a1, .slice A3 l3.length c3] rfl (by (try simp only [List.map_toArray, List.map_cons, List.map_nil]); first | done | rfl | (simp only [List.length_drop, List.length_take]; rfl)) ?_; (with_reducible refine (waybillref22_Put.calls a0_0 _ _ l0_1 a1 _ _ l3 t250 t251 t254 _ ?side1 ?side2 ?side3 ?side4 A10.out).mono ?_); (case side1 => exact Kd.C_below HR0_1.out (by repeat (first | (with_reducible first | exact HB.out | apply below_alloc | apply pw_below_drewN | apply below_drew1 | refine below_set ?_ GE222.out | refine below_set ?_ GE227.out | refine below_set ?_ GE235.out | refine below_set ?_ GE243.out | refine below_set ?_ GE249.out) | exact HB.out))); (case side2 => exact HC0_1.out); (case side3 => exact Kd.C_below HR3.out (by repeat (first | (with_reducible first | exact HB.out | apply below_alloc | apply pw_below_drewN | apply below_drew1 | refine below_set ?_ GE222.out | refine below_set ?_ GE227.out | refine below_set ?_ GE235.out | refine below_set ?_ GE243.out | refine below_set ?_ GE249.out) | exact HB.out))); (case side4 => exact HC3.out); rintro e w47 ⟨v252, rfl, ho0, hb⟩; refine ⟨_, rfl, ?_⟩; have n0_ := Aside0.mk (Kd.S_elder' (by (with_reducible repeat (first | apply Kd.S_alloc | apply Kd.S_drewN | apply Kd.S_drew)); exact (Kd.S_mono (Kd.S_far (p := ⟨gb249, 1, none⟩) (Kd.S_far (p := ⟨gb249, 0, none⟩) (Kd.S_types HO226.out BK249.out (by decide)) (fun _ hk => hk.2) (.int .i64 t244)) (fun _ hk => hk.2) (.slice Ao45 t245.length co45)) (fun _ h_ => h_.1))) (Kd.S_base ho0) hb); have n1_ := Aside0.mk (Kd.R_below (by (with_reducible repeat (first | apply Kd.R_alloc | apply Kd.R_drewN | apply Kd.R_drew)); exact (Kd.R_mono (Kd.R_far (p := ⟨gb249, 1, none⟩) (Kd.R_far (p := ⟨gb249, 0, none⟩) (Kd.R_types HO233.out BK249.out (by decide)) (fun _ hk => hk.2) (.int .i64 t244)) (fun _ hk => hk.2) (.slice Ao45 t245.length co45)) (fun _ h_ => h_.1))) hb); have n2_ := Aside0.mk (Kd.R_below (by (with_reducible repeat (first | apply Kd.R_alloc | apply Kd.R_drewN | apply Kd.R_drew)); exact (Kd.R_mono (Kd.R_far (p := ⟨gb249, 1, none⟩) (Kd.R_far (p := ⟨gb249, 0, none⟩) (Kd.R_types HO241.out BK249.out (by decide)) (fun _ hk => hk.2) (.int .i64 t244)) (fun _ hk => hk.2) (.slice Ao45 t245.length co45)) (fun _ h_ => h_.1))) hb); have n3_ := Aside0.mk (Kd.S_elder' (by (with_reducible repeat (first | apply Kd.S_alloc | apply Kd.S_drewN | apply Kd.S_drew)); exact (Kd.S_mono (Kd.S_far (p := ⟨gb249, 1, none⟩) (Kd.S_far (p := ⟨gb249, 0, none⟩) (Kd.S_types HO247.out BK249.out (by decide)) (fun _ hk => hk.2) (.int .i64 t244)) (fun _ hk => hk.2) (.slice Ao45 t245.length co45)) (fun _ h_ => h_.1))) (Kd.S_base ho0) hb); have n4_ := Aside0.mk (Kd.S_lower (Kd.S_newB (Kd.S_newB (Kd.S_new' (Kd.S_new' (Kd.S_new' (Kd.S_new' ho0 (Kd.S_lt (by (with_reducible repeat (first | apply Kd.S_alloc | apply Kd.S_drewN | apply Kd.S_drew)); exact (Kd.S_mono (Kd.S_far (p := ⟨gb249, 1, none⟩) (Kd.S_far (p := ⟨gb249, 0, none⟩) (Kd.S_types HO226.out BK249.out (by decide)) (fun _ hk => hk.2) (.int .i64 t244)) (fun _ hk => hk.2) (.slice Ao45 t245.length co45)) (fun _ h_ => h_.1))))) (Kd.R_lt (by (with_reducible repeat (first | apply Kd.R_alloc | apply Kd.R_drewN | apply Kd.R_drew)); exact (Kd.R_mono (Kd.R_far (p := ⟨gb249, 1, none⟩) (Kd.R_far (p := ⟨gb249, 0, none⟩) (Kd.R_types HO233.out BK249.out (by decide)) (fun _ hk => hk.2) (.int .i64 t244)) (fun _ hk => hk.2) (.slice Ao45 t245.length co45)) (fun _ h_ => h_.1))))) (Kd.R_lt (by (with_reducible repeat (first | apply Kd.R_alloc | apply Kd.R_drewN | apply Kd.R_drew)); exact (Kd.R_mono (Kd.R_far (p := ⟨gb249, 1, none⟩) (Kd.R_far (p := ⟨gb249, 0, none⟩) (Kd.R_types HO241.out BK249.out (by decide)) (fun _ hk => hk.2) (.int .i64 t244)) (fun _ hk => hk.2) (.slice Ao45 t245.length co45)) (fun _ h_ => h_.1))))) (Kd.S_lt (by (with_reducible repeat (first | apply Kd.S_alloc | apply Kd.S_drewN | apply Kd.S_drew)); exact (Kd.S_mono (Kd.S_far (p := ⟨gb249, 1, none⟩) (Kd.S_far (p := ⟨gb249, 0, none⟩) (Kd.S_types HO247.out BK249.out (by decide)) (fun _ hk => hk.2) (.int .i64 t244)) (fun _ hk => hk.2) (.slice Ao45 t245.length co45)) (fun _ h_ => h_.1))))) (g := gb235) (o := .cells #[.int .i64 t229, .int .i64 t230, .slice Ao28 t231.length co28] 32 (0, 0)) (by (with_reducible repeat (first | refine blk_drewN ?_ _ | refine blk_drew ?_ | refine blk_alloc ?_ _)); refine blk_far ?_ NB235_249.out _; (with_reducible repeat (first | refine blk_drewN ?_ _ | refine blk_drew ?_ | refine blk_alloc ?_ _)); refine blk_far ?_ NB235_249.out _; (with_reducible repeat (first | refine blk_drewN ?_ _ | refine blk_drew ?_ | refine blk_alloc ?_ _)); exact BK235.out)) (g := gb243) (o := .cells #[.int .i64 t237, .int .i64 t238, .slice Ao36 t239.length co36] 32 (0, 0)) (by (with_reducible repeat (first | refine blk_drewN ?_ _ | refine blk_drew ?_ | refine blk_alloc ?_ _)); refine blk_far ?_ NB243_249.out _; (with_reducible repeat (first | refine blk_drewN ?_ _ | refine blk_drew ?_ | refine blk_alloc ?_ _)); refine blk_far ?_ NB243_249.out _; (with_reducible repeat (first | refine blk_drewN ?_ _ | refine blk_drew ?_ | refine blk_alloc ?_ _)); exact BK243.out)) (below_size (by repeat (first | (with_reducible first | exact HB.out | apply below_alloc | apply pw_below_drewN | apply below_drew1 | refine below_set ?_ GE222.out | refine below_set ?_ GE227.out | refine below_set ?_ GE235.out | refine below_set ?_ GE243.out | refine below_set ?_ GE249.out) | exact HB.out)))); have n5_ := Aside0.mk (blk_below (g := gb222) (o := .cells #[.int .i64 a0_0, .slice A0_1 l0_1.length c0_1] 24 (0, 0)) (by (with_reducible repeat (first | refine blk_drewN ?_ _ | refine blk_drew ?_ | refine blk_alloc ?_ _)); refine blk_far ?_ NB222_249.out _; (with_reducible repeat (first | refine blk_drewN ?_ _ | refine blk_drew ?_ | refine blk_alloc ?_ _)); refine blk_far ?_ NB222_249.out _; (with_reducible repeat (first | refine blk_drewN ?_ _ | refine blk_drew ?_ | refine blk_alloc ?_ _)); exact BK222.out) hb); have n6_ := Aside0.mk (blk_below (g := gb227) (o := .cells #[.int .i64 t223, .slice Ao22 t224.length co22] 24 (0, 0)) (by (with_reducible repeat (first | refine blk_drewN ?_ _ | refine blk_drew ?_ | refine blk_alloc ?_ _)); refine blk_far ?_ NB227_249.out _; (with_reducible repeat (first | refine blk_drewN ?_ _ | refine blk_drew ?_ | refine blk_alloc ?_ _)); refine blk_far ?_ NB227_249.out _; (with_reducible repeat (first | refine blk_drewN ?_ _ | refine blk_drew ?_ | refine blk_alloc ?_ _)); exact BK227.out) hb); have n7_ := Aside0.mk (blk_below (g := gb235) (o := .cells #[.int .i64 t229, .int .i64 t230, .slice Ao28 t231.length co28] 32 (0, 0)) (by (with_reducible repeat (first | refine blk_drewN ?_ _ | refine blk_drew ?_ | refine blk_alloc ?_ _)); refine blk_far ?_ NB235_249.out _; (with_reducible repeat (first | refine blk_drewN ?_ _ | refine blk_drew ?_ | refine blk_alloc ?_ _)); refine blk_far ?_ NB235_249.out _; (with_reducible repeat (first | refine blk_drewN ?_ _ | refine blk_drew ?_ | refine blk_alloc ?_ _)); exact BK235.out) hb); have n8_ := Aside0.mk (blk_below (g := gb243) (o := .cells #[.int .i64 t237, .int .i64 t238, .slice Ao36 t239.length co36] 32 (0, 0)) (by (with_reducible repeat (first | refine blk_drewN ?_ _ | refine blk_drew ?_ | refine blk_alloc ?_ _)); refine blk_far ?_ NB243_249.out _; (with_reducible repeat (first | refine blk_drewN ?_ _ | refine blk_drew ?_ | refine blk_alloc ?_ _)); refine blk_far ?_ NB243_249.out _; (with_reducible repeat (first | refine blk_drewN ?_ _ | refine blk_drew ?_ | refine blk_alloc ?_ _)); exact BK243.out) hb); have n9_ := Aside0.mk (blk_below (g := gb249) (o := .cells #[.int .i64 t244, .slice Ao45 t245.length co45] 24 (0, 0)) (by (with_reducible repeat (first | refine blk_drewN ?_ _ | refine blk_drew ?_ | refine blk_alloc ?_ _)); refine blk_put (cs := #[.int .i64 t244, .slice none 0 0]) ?_ 1 _ rfl; (with_reducible repeat (first | refine blk_drewN ?_ _ | refine blk_drew ?_ | refine blk_alloc ?_ _)); refine blk_put (cs := #[.int .i64 0, .slice none 0 0]) ?_ 0 _ rfl; (with_reducible repeat (first | refine blk_drewN ?_ _ | refine blk_drew ?_ | refine blk_alloc ?_ _)); exact BK249.out) hb); have n10_ := Aside0.mk (below_step (by repeat (first | (with_reducible first | exact HB.out | apply below_alloc | apply pw_below_drewN | apply below_drew1 | refine below_set ?_ GE222.out | refine below_set ?_ GE227.out | refine below_set ?_ GE235.out | refine below_set ?_ GE243.out | refine below_set ?_ GE249.out) | exact HB.out)) hb); clear HO226; clear HO233; clear HO241; clear HO247; clear BK222; clear BK227; clear BK235; clear BK243; clear BK249; clear HB; have HO226 := n0_; have HO233 := n1_; have HO241 := n2_; have HO247 := n3_; have HO253 := n4_; have BK222 := n5_; have BK227 := n6_; have BK235 := n7_; have BK243 := n8_; have BK249 := n9_; have HB := n10_; clear n0_ n1_ n2_ n3_ n4_ n5_ n6_ n7_ n8_ n9_ n10_; (try clear hb); (try clear hb2); (try clear hk); (try clear hi); (try clear ho0)) | ((with_reducible refine gate_dst (N := 20) rfl ?_); refine box_event ?hg (N := 20) ?hd (cs := #[.int .i64 0, .slice none 0 0]) (t := 24) ?hr ?_; (case hd => rfl); (case hg => rfl); (case hr => first | (go_simp; done) | (go_simp; rfl)); intro gb255 hg w48 hbox hb; have n0_ := Aside0.mk (Kd.S_below (by (with_reducible repeat (first | apply Kd.S_alloc | apply Kd.S_drewN | apply Kd.S_drew)); exact HO226.out) hb); have n1_ := Aside0.mk (Kd.R_below (by (with_reducible repeat (first | apply Kd.R_alloc | apply Kd.R_drewN | apply Kd.R_drew)); exact HO233.out) hb); have n2_ := Aside0.mk (Kd.R_below (by (with_reducible repeat (first | apply Kd.R_alloc | apply Kd.R_drewN | apply Kd.R_drew)); exact HO241.out) hb); have n3_ := Aside0.mk (Kd.S_below (by (with_reducible repeat (first | apply Kd.S_alloc | apply Kd.S_drewN | apply Kd.S_drew)); exact HO247.out) hb); have n4_ := Aside0.mk (Kd.S_below (by (with_reducible repeat (first | apply Kd.S_alloc | apply Kd.S_drewN | apply Kd.S_drew)); exact HO253.out) hb); have n5_ := Aside0.mk (blk_below (g := gb222) (o := .cells #[.int .i64 a0_0, .slice A0_1 l0_1.length c0_1] 24 (0, 0)) (by (with_reducible repeat (first | refine blk_drewN ?_ _ | refine blk_drew ?_ | refine blk_alloc ?_ _)); exact BK222.out) hb); have n6_ := Aside0.mk (blk_below (g := gb227) (o := .cells #[.int .i64 t223, .slice Ao22 t224.length co22] 24 (0, 0)) (by (with_reducible repeat (first | refine blk_drewN ?_ _ | refine blk_drew ?_ | refine blk_alloc ?_ _)); exact BK227.out) hb); have n7_ := Aside0.mk (blk_below (g := gb235) (o := .cells #[.int .i64 t229, .int .i64 t230, .slice Ao28 t231.length co28] 32 (0, 0)) (by (with_reducible repeat (first | refine blk_drewN ?_ _ | refine blk_drew ?_ | refine blk_alloc ?_ _)); exact BK235.out) hb); have n8_ := Aside0.mk (blk_below (g := gb243) (o := .cells #[.int .i64 t237, .int .i64 t238, .slice Ao36 t239.length co36] 32 (0, 0)) (by (with_reducible repeat (first | refine blk_drewN ?_ _ | refine blk_drew ?_ | refine blk_alloc ?_ _)); exact BK243.out) hb); have n9_ := Aside0.mk (blk_below (g := gb249) (o := .cells #[.int .i64 t244, .slice Ao45 t245.length co45] 24 (0, 0)) (by (with_reducible repeat (first | refine blk_drewN ?_ _ | refine blk_drew ?_ | refine blk_alloc ?_ _)); exact BK249.out) hb); have n10_ := Aside0.mk (below_step (by repeat (first | (with_reducible first | exact HB.out | apply below_alloc | apply pw_below_drewN | apply below_drew1 | refine below_set ?_ GE222.out | refine below_set ?_ GE227.out | refine below_set ?_ GE235.out | refine below_set ?_ GE243.out | refine below_set ?_ GE249.out) | exact HB.out)) hb); have n11_ := Aside0.mk (hbox); have n12_ := Aside0.mk ((by rw [hg]; exact (below_size (by repeat (first | (with_reducible first | exact HB.out | apply below_alloc | apply pw_below_drewN | apply below_drew1 | refine below_set ?_ GE222.out | refine below_set ?_ GE227.out | refine below_set ?_ GE235.out | refine below_set ?_ GE243.out | refine below_set ?_ GE249.out) | exact HB.out))) : w.heap.size ≤ gb255)); have n13_ := Aside0.mk ((by rw [hg]; exact (below_size (by repeat (first | (with_reducible first | exact HB.out | apply below_alloc | apply pw_below_drewN | apply below_drew1 | refine below_set ?_ GE222.out | refine below_set ?_ GE227.out | refine below_set ?_ GE235.out | refine below_set ?_ GE243.out | refine below_set ?_ GE249.out) | exact HB.out))) : w.heap.size ≤ gb255)); have n14_ := Aside0.mk ((by rw [hg]; exact Nat.ne_of_lt (blk_lt (g := gb222) (o := .cells #[.int .i64 a0_0, .slice A0_1 l0_1.length c0_1] 24 (0, 0)) (by (with_reducible repeat (first | refine blk_drewN ?_ _ | refine blk_drew ?_ | refine blk_alloc ?_ _)); exact BK222.out)) : gb222 ≠ gb255)); have n15_ := Aside0.mk ((by rw [hg]; exact Nat.ne_of_gt (blk_lt (g := gb222) (o := .cells #[.int .i64 a0_0, .slice A0_1 l0_1.length c0_1] 24 (0, 0)) (by (with_reducible repeat (first | refine blk_drewN ?_ _ | refine blk_drew ?_ | refine blk_alloc ?_ _)); exact BK222.out)) : gb255 ≠ gb222)); have n16_ := Aside0.mk ((by rw [hg]; exact Nat.ne_of_lt (blk_lt (g := gb227) (o := .cells #[.int .i64 t223, .slice Ao22 t224.length co22] 24 (0, 0)) (by (with_reducible repeat (first | refine blk_drewN ?_ _ | refine blk_drew ?_ | refine blk_alloc ?_ _)); exact BK227.out)) : gb227 ≠ gb255)); have n17_ := Aside0.mk ((by rw [hg]; exact Nat.ne_of_gt (blk_lt (g := gb227) (o := .cells #[.int .i64 t223, .slice Ao22 t224.length co22] 24 (0, 0)) (by (with_reducible repeat (first | refine blk_drewN ?_ _ | refine blk_drew ?_ | refine blk_alloc ?_ _)); exact BK227.out)) : gb255 ≠ gb227)); have n18_ := Aside0.mk ((by rw [hg]; exact Nat.ne_of_lt (blk_lt (g := gb235) (o := .cells #[.int .i64 t229, .int .i64 t230, .slice Ao28 t231.length co28] 32 (0, 0)) (by (with_reducible repeat (first | refine blk_drewN ?_ _ | refine blk_drew ?_ | refine blk_alloc ?_ _)); exact BK235.out)) : gb235 ≠ gb255)); have n19_ := Aside0.mk ((by rw [hg]; exact Nat.ne_of_gt (blk_lt (g := gb235) (o := .cells #[.int .i64 t229, .int .i64 t230, .slice Ao28 t231.length co28] 32 (0, 0)) (by (with_reducible repeat (first | refine blk_drewN ?_ _ | refine blk_drew ?_ | refine blk_alloc ?_ _)); exact BK235.out)) : gb255 ≠ gb235)); have n20_ := Aside0.mk ((by rw [hg]; exact Nat.ne_of_lt (blk_lt (g := gb243) (o := .cells #[.int .i64 t237, .int .i64 t238, .slice Ao36 t239.length co36] 32 (0, 0)) (by (with_reducible repeat (first | refine blk_drewN ?_ _ | refine blk_drew ?_ | refine blk_alloc ?_ _)); exact BK243.out)) : gb243 ≠ gb255)); have n21_ := Aside0.mk ((by rw [hg]; exact Nat.ne_of_gt (blk_lt (g := gb243) (o := .cells #[.int .i64 t237, .int .i64 t238, .slice Ao36 t239.length co36] 32 (0, 0)) (by (with_reducible repeat (first | refine blk_drewN ?_ _ | refine blk_drew ?_ | refine blk_alloc ?_ _)); exact BK243.out)) : gb255 ≠ gb243)); have n22_ := Aside0.mk ((by rw [hg]; exact Nat.ne_of_lt (blk_lt (g := gb249) (o := .cells #[.int .i64 t244, .slice Ao45 t245.length co45] 24 (0, 0)) (by (with_reducible repeat (first | refine blk_drewN ?_ _ | refine blk_drew ?_ | refine blk_alloc ?_ _)); exact BK249.out)) : gb249 ≠ gb255)); have n23_ := Aside0.mk ((by rw [hg]; exact Nat.ne_of_gt (blk_lt (g := gb249) (o := .cells #[.int .i64 t244, .slice Ao45 t245.length co45] 24 (0, 0)) (by (with_reducible repeat (first | refine blk_drewN ?_ _ | refine blk_drew ?_ | refine blk_alloc ?_ _)); exact BK249.out)) : gb255 ≠ gb249)); clear HO226; clear HO233; clear HO241; clear HO247; clear HO253; clear BK222; clear BK227; clear BK235; clear BK243; clear BK249; clear HB; have HO226 := n0_; have HO233 := n1_; have HO241 := n2_; have HO247 := n3_; have HO253 := n4_; have BK222 := n5_; have BK227 := n6_; have BK235 := n7_; have BK243 := n8_; have BK249 := n9_; have HB := n10_; have BK255 := n11_; have GW255 := n12_; have GE255 := n13_; have NB222_255 := n14_; have NB255_222 := n15_; have NB227_255 := n16_; have NB255_227 := n17_; have NB235_255 := n18_; have NB255_235 := n19_; have NB243_255 := n20_; have NB255_243 := n21_; have NB249_255 := n22_; have NB255_249 := n23_; clear n0_ n1_ n2_ n3_ n4_ n5_ n6_ n7_ n8_ n9_ n10_ n11_ n12_ n13_ n14_ n15_ n16_ n17_ n18_ n19_ n20_ n21_ n22_ n23_; clear hb hbox hg; have hnb49 := NB255_222.out; have hnc49 := NB222_255.out; have hnb50 := NB255_227.out; have hnc50 := NB227_255.out; have hnb51 := NB255_235.out; have hnc51 := NB235_255.out; have hnb52 := NB255_243.out; have hnc52 := NB243_255.out; have hnb53 := NB255_249.out; have hnc53 := NB249_255.out; have hcz54_0 : w48.cell? ⟨gb255, 0, none⟩ = some (.int .i64 0) := (blk_cell BK255.out 0).trans rfl; have hcz54_1 : w48.cell? ⟨gb255, 1, none⟩ = some (.slice none 0 0) := (blk_cell BK255.out 1).trans rfl; have hfz54_0 := blk_frozen BK255.out 0; have hfz54_1 := blk_frozen BK255.out 1; obtain ⟨Ao55, co55, eo55⟩ := Kd.S_slice HO253.out; subst eo55; have hcz56_0 : w48.cell? ⟨gb227, 0, none⟩ = some (.int .i64 t223) := (blk_cell BK227.out 0).trans rfl; have hcz56_1 : w48.cell? ⟨gb227, 1, none⟩ = some (.slice Ao22 t224.length co22) := (blk_cell BK227.out 1).trans rfl; have hfz56_0 := blk_frozen BK227.out 0; have hfz56_1 := blk_frozen BK227.out 1) | ((with_reducible refine gate_callee (f := 13) rfl ?_); refine goesL_ (some 68) rfl rfl Try.func13 (by kernel_rfl) rfl #[.agg #[.int .i64 t223, .slice Ao22 t224.length co22], .int .i64 a1, .int .i64 a4] rfl (by (try simp only [List.map_toArray, List.map_cons, List.map_nil]); first | done | rfl | (simp only [List.length_drop, List.length_take]; rfl)) ?_; (with_reducible refine (window_Forget.calls t223 _ _ t224 a1 a4 t256 t257 t260 t261 _ ?side1 ?side2 A11.out).mono ?_); (case side1 => refine (Kd.S_reads' (e := 32) (base := w.heap.size) (ok := fun k_ => ((((((True ∧ some k_ ≠ (.slice Ao28 t231.length co28 : Value).ownBlock) ∧ k_ ≠ gb235) ∧ some k_ ≠ (.slice Ao36 t239.length co36 : Value).ownBlock) ∧ k_ ≠ gb243) ∧ some k_ ≠ (.slice Ao45 t245.length co45 : Value).ownBlock) ∧ some k_ ≠ (.slice Ao55 t251.length co55 : Value).ownBlock)) (n := t224.length) (c := co22) ?_).2.2; exact (by (with_reducible repeat (first | apply Kd.S_alloc | apply Kd.S_drewN | apply Kd.S_drew)); exact (Kd.S_mono (Kd.S_far (p := ⟨gb255, 1, none⟩) (Kd.S_far (p := ⟨gb255, 0, none⟩) (Kd.S_types HO226.out BK255.out (by decide)) (fun _ hk => hk.2) (.int .i64 t250)) (fun _ hk => hk.2) (.slice Ao55 t251.length co55)) (fun _ h_ => h_.1)))); (case side2 => exact (Kd.S_reads' HO226.out).2.1); rintro e w57 ⟨v258, rfl, ho0, hb⟩; refine ⟨_, rfl, ?_⟩; have n0_ := Aside0.mk (Kd.S_elder' (by (with_reducible repeat (first | apply Kd.S_alloc | apply Kd.S_drewN | apply Kd.S_drew)); exact (Kd.S_mono (Kd.S_far (p := ⟨gb255, 1, none⟩) (Kd.S_far (p := ⟨gb255, 0, none⟩) (Kd.S_types HO226.out BK255.out (by decide)) (fun _ hk => hk.2) (.int .i64 t250)) (fun _ hk => hk.2) (.slice Ao55 t251.length co55)) (fun _ h_ => h_.1))) (Kd.S_base ho0) hb); have n1_ := Aside0.mk (Kd.R_below (by (with_reducible repeat (first | apply Kd.R_alloc | apply Kd.R_drewN | apply Kd.R_drew)); exact (Kd.R_mono (Kd.R_far (p := ⟨gb255, 1, none⟩) (Kd.R_far (p := ⟨gb255, 0, none⟩) (Kd.R_types HO233.out BK255.out (by decide)) (fun _ hk => hk.2) (.int .i64 t250)) (fun _ hk => hk.2) (.slice Ao55 t251.length co55)) (fun _ h_ => h_.1))) hb); have n2_ := Aside0.mk (Kd.R_below (by (with_reducible repeat (first | apply Kd.R_alloc | apply Kd.R_drewN | apply Kd.R_drew)); exact (Kd.R_mono (Kd.R_far (p := ⟨gb255, 1, none⟩) (Kd.R_far (p := ⟨gb255, 0, none⟩) (Kd.R_types HO241.out BK255.out (by decide)) (fun _ hk => hk.2) (.int .i64 t250)) (fun _ hk => hk.2) (.slice Ao55 t251.length co55)) (fun _ h_ => h_.1))) hb); have n3_ := Aside0.mk (Kd.S_elder' (by (with_reducible repeat (first | apply Kd.S_alloc | apply Kd.S_drewN | apply Kd.S_drew)); exact (Kd.S_mono (Kd.S_far (p := ⟨gb255, 1, none⟩) (Kd.S_far (p := ⟨gb255, 0, none⟩) (Kd.S_types HO247.out BK255.out (by decide)) (fun _ hk => hk.2) (.int .i64 t250)) (fun _ hk => hk.2) (.slice Ao55 t251.length co55)) (fun _ h_ => h_.1))) (Kd.S_base ho0) hb); have n4_ := Aside0.mk (Kd.S_elder' (by (with_reducible repeat (first | apply Kd.S_alloc | apply Kd.S_drewN | apply Kd.S_drew)); exact (Kd.S_mono (Kd.S_far (p := ⟨gb255, 1, none⟩) (Kd.S_far (p := ⟨gb255, 0, none⟩) (Kd.S_types HO253.out BK255.out (by decide)) (fun _ hk => hk.2) (.int .i64 t250)) (fun _ hk => hk.2) (.slice Ao55 t251.length co55)) (fun _ h_ => h_.1))) (Kd.S_base ho0) hb); have n5_ := Aside0.mk (Kd.S_lower (Kd.S_newB (Kd.S_newB (Kd.S_new' (Kd.S_new' (Kd.S_new' (Kd.S_new' (Kd.S_new' ho0 (Kd.S_lt (by (with_reducible repeat (first | apply Kd.S_alloc | apply Kd.S_drewN | apply Kd.S_drew)); exact (Kd.S_mono (Kd.S_far (p := ⟨gb255, 1, none⟩) (Kd.S_far (p := ⟨gb255, 0, none⟩) (Kd.S_types HO226.out BK255.out (by decide)) (fun _ hk => hk.2) (.int .i64 t250)) (fun _ hk => hk.2) (.slice Ao55 t251.length co55)) (fun _ h_ => h_.1))))) (Kd.R_lt (by (with_reducible repeat (first | apply Kd.R_alloc | apply Kd.R_drewN | apply Kd.R_drew)); exact (Kd.R_mono (Kd.R_far (p := ⟨gb255, 1, none⟩) (Kd.R_far (p := ⟨gb255, 0, none⟩) (Kd.R_types HO233.out BK255.out (by decide)) (fun _ hk => hk.2) (.int .i64 t250)) (fun _ hk => hk.2) (.slice Ao55 t251.length co55)) (fun _ h_ => h_.1))))) (Kd.R_lt (by (with_reducible repeat (first | apply Kd.R_alloc | apply Kd.R_drewN | apply Kd.R_drew)); exact (Kd.R_mono (Kd.R_far (p := ⟨gb255, 1, none⟩) (Kd.R_far (p := ⟨gb255, 0, none⟩) (Kd.R_types HO241.out BK255.out (by decide)) (fun _ hk => hk.2) (.int .i64 t250)) (fun _ hk => hk.2) (.slice Ao55 t251.length co55)) (fun _ h_ => h_.1))))) (Kd.S_lt (by (with_reducible repeat (first | apply Kd.S_alloc | apply Kd.S_drewN | apply Kd.S_drew)); exact (Kd.S_mono (Kd.S_far (p := ⟨gb255, 1, none⟩) (Kd.S_far (p := ⟨gb255, 0, none⟩) (Kd.S_types HO247.out BK255.out (by decide)) (fun _ hk => hk.2) (.int .i64 t250)) (fun _ hk => hk.2) (.slice Ao55 t251.length co55)) (fun _ h_ => h_.1))))) (Kd.S_lt (by (with_reducible repeat (first | apply Kd.S_alloc | apply Kd.S_drewN | apply Kd.S_drew)); exact (Kd.S_mono (Kd.S_far (p := ⟨gb255, 1, none⟩) (Kd.S_far (p := ⟨gb255, 0, none⟩) (Kd.S_types HO253.out BK255.out (by decide)) (fun _ hk => hk.2) (.int .i64 t250)) (fun _ hk => hk.2) (.slice Ao55 t251.length co55)) (fun _ h_ => h_.1))))) (g := gb235) (o := .cells #[.int .i64 t229, .int .i64 t230, .slice Ao28 t231.length co28] 32 (0, 0)) (by (with_reducible repeat (first | refine blk_drewN ?_ _ | refine blk_drew ?_ | refine blk_alloc ?_ _)); refine blk_far ?_ NB235_255.out _; (with_reducible repeat (first | refine blk_drewN ?_ _ | refine blk_drew ?_ | refine blk_alloc ?_ _)); refine blk_far ?_ NB235_255.out _; (with_reducible repeat (first | refine blk_drewN ?_ _ | refine blk_drew ?_ | refine blk_alloc ?_ _)); exact BK235.out)) (g := gb243) (o := .cells #[.int .i64 t237, .int .i64 t238, .slice Ao36 t239.length co36] 32 (0, 0)) (by (with_reducible repeat (first | refine blk_drewN ?_ _ | refine blk_drew ?_ | refine blk_alloc ?_ _)); refine blk_far ?_ NB243_255.out _; (with_reducible repeat (first | refine blk_drewN ?_ _ | refine blk_drew ?_ | refine blk_alloc ?_ _)); refine blk_far ?_ NB243_255.out _; (with_reducible repeat (first | refine blk_drewN ?_ _ | refine blk_drew ?_ | refine blk_alloc ?_ _)); exact BK243.out)) (below_size (by repeat (first | (with_reducible first | exact HB.out | apply below_alloc | apply pw_below_drewN | apply below_drew1 | refine below_set ?_ GE222.out | refine below_set ?_ GE227.out | refine below_set ?_ GE235.out | refine below_set ?_ GE243.out | refine below_set ?_ GE249.out | refine below_set ?_ GE255.out) | exact HB.out)))); have n6_ := Aside0.mk (blk_below (g := gb222) (o := .cells #[.int .i64 a0_0, .slice A0_1 l0_1.length c0_1] 24 (0, 0)) (by (with_reducible repeat (first | refine blk_drewN ?_ _ | refine blk_drew ?_ | refine blk_alloc ?_ _)); refine blk_far ?_ NB222_255.out _; (with_reducible repeat (first | refine blk_drewN ?_ _ | refine blk_drew ?_ | refine blk_alloc ?_ _)); refine blk_far ?_ NB222_255.out _; (with_reducible repeat (first | refine blk_drewN ?_ _ | refine blk_drew ?_ | refine blk_alloc ?_ _)); exact BK222.out) hb); have n7_ := Aside0.mk (blk_below (g := gb227) (o := .cells #[.int .i64 t223, .slice Ao22 t224.length co22] 24 (0, 0)) (by (with_reducible repeat (first | refine blk_drewN ?_ _ | refine blk_drew ?_ | refine blk_alloc ?_ _)); refine blk_far ?_ NB227_255.out _; (with_reducible repeat (first | refine blk_drewN ?_ _ | refine blk_drew ?_ | refine blk_alloc ?_ _)); refine blk_far ?_ NB227_255.out _; (with_reducible repeat (first | refine blk_drewN ?_ _ | refine blk_drew ?_ | refine blk_alloc ?_ _)); exact BK227.out) hb); have n8_ := Aside0.mk (blk_below (g := gb235) (o := .cells #[.int .i64 t229, .int .i64 t230, .slice Ao28 t231.length co28] 32 (0, 0)) (by (with_reducible repeat (first | refine blk_drewN ?_ _ | refine blk_drew ?_ | refine blk_alloc ?_ _)); refine blk_far ?_ NB235_255.out _; (with_reducible repeat (first | refine blk_drewN ?_ _ | refine blk_drew ?_ | refine blk_alloc ?_ _)); refine blk_far ?_ NB235_255.out _; (with_reducible repeat (first | refine blk_drewN ?_ _ | refine blk_drew ?_ | refine blk_alloc ?_ _)); exact BK235.out) hb); have n9_ := Aside0.mk (blk_below (g := gb243) (o := .cells #[.int .i64 t237, .int .i64 t238, .slice Ao36 t239.length co36] 32 (0, 0)) (by (with_reducible repeat (first | refine blk_drewN ?_ _ | refine blk_drew ?_ | refine blk_alloc ?_ _)); refine blk_far ?_ NB243_255.out _; (with_reducible repeat (first | refine blk_drewN ?_ _ | refine blk_drew ?_ | refine blk_alloc ?_ _)); refine blk_far ?_ NB243_255.out _; (with_reducible repeat (first | refine blk_drewN ?_ _ | refine blk_drew ?_ | refine blk_alloc ?_ _)); exact BK243.out) hb); have n10_ := Aside0.mk (blk_below (g := gb249) (o := .cells #[.int .i64 t244, .slice Ao45 t245.length co45] 24 (0, 0)) (by (with_reducible repeat (first | refine blk_drewN ?_ _ | refine blk_drew ?_ | refine blk_alloc ?_ _)); refine blk_far ?_ NB249_255.out _; (with_reducible repeat (first | refine blk_drewN ?_ _ | refine blk_drew ?_ | refine blk_alloc ?_ _)); refine blk_far ?_ NB249_255.out _; (with_reducible repeat (first | refine blk_drewN ?_ _ | refine blk_drew ?_ | refine blk_alloc ?_ _)); exact BK249.out) hb); have n11_ := Aside0.mk (blk_below (g := gb255) (o := .cells #[.int .i64 t250, .slice Ao55 t251.length co55] 24 (0, 0)) (by (with_reducible repeat (first | refine blk_drewN ?_ _ | refine blk_drew ?_ | refine blk_alloc ?_ _)); refine blk_put (cs := #[.int .i64 t250, .slice none 0 0]) ?_ 1 _ rfl; (with_reducible repeat (first | refine blk_drewN ?_ _ | refine blk_drew ?_ | refine blk_alloc ?_ _)); refine blk_put (cs := #[.int .i64 0, .slice none 0 0]) ?_ 0 _ rfl; (with_reducible repeat (first | refine blk_drewN ?_ _ | refine blk_drew ?_ | refine blk_alloc ?_ _)); exact BK255.out) hb); have n12_ := Aside0.mk (below_step (by repeat (first | (with_reducible first | exact HB.out | apply below_alloc | apply pw_below_drewN | apply below_drew1 | refine below_set ?_ GE222.out | refine below_set ?_ GE227.out | refine below_set ?_ GE235.out | refine below_set ?_ GE243.out | refine below_set ?_ GE249.out | refine below_set ?_ GE255.out) | exact HB.out)) hb); clear HO226; clear HO233; clear HO241; clear HO247; clear HO253; clear BK222; clear BK227; clear BK235; clear BK243; clear BK249; clear BK255; clear HB; have HO226 := n0_; have HO233 := n1_; have HO241 := n2_; have HO247 := n3_; have HO253 := n4_; have HO259 := n5_; have BK222 := n6_; have BK227 := n7_; have BK235 := n8_; have BK243 := n9_; have BK249 := n10_; have BK255 := n11_; have HB := n12_; clear n0_ n1_ n2_ n3_ n4_ n5_ n6_ n7_ n8_ n9_ n10_ n11_ n12_; (try clear hb); (try clear hb2); (try clear hk); (try clear hi); (try clear ho0)) | ((with_reducible refine gate_dst (N := 22) rfl ?_); refine box_event ?hg (N := 22) ?hd (cs := #[.int .i64 0, .slice none 0 0]) (t := 24) ?hr ?_; (case hd => rfl); (case hg => rfl); (case hr => first | (go_simp; done) | (go_simp; rfl)); intro gb262 hg w58 hbox hb; have n0_ := Aside0.mk (Kd.S_below (by (with_reducible repeat (first | apply Kd.S_alloc | apply Kd.S_drewN | apply Kd.S_drew)); exact HO226.out) hb); have n1_ := Aside0.mk (Kd.R_below (by (with_reducible repeat (first | apply Kd.R_alloc | apply Kd.R_drewN | apply Kd.R_drew)); exact HO233.out) hb); have n2_ := Aside0.mk (Kd.R_below (by (with_reducible repeat (first | apply Kd.R_alloc | apply Kd.R_drewN | apply Kd.R_drew)); exact HO241.out) hb); have n3_ := Aside0.mk (Kd.S_below (by (with_reducible repeat (first | apply Kd.S_alloc | apply Kd.S_drewN | apply Kd.S_drew)); exact HO247.out) hb); have n4_ := Aside0.mk (Kd.S_below (by (with_reducible repeat (first | apply Kd.S_alloc | apply Kd.S_drewN | apply Kd.S_drew)); exact HO253.out) hb); have n5_ := Aside0.mk (Kd.S_below (by (with_reducible repeat (first | apply Kd.S_alloc | apply Kd.S_drewN | apply Kd.S_drew)); exact HO259.out) hb); have n6_ := Aside0.mk (blk_below (g := gb222) (o := .cells #[.int .i64 a0_0, .slice A0_1 l0_1.length c0_1] 24 (0, 0)) (by (with_reducible repeat (first | refine blk_drewN ?_ _ | refine blk_drew ?_ | refine blk_alloc ?_ _)); exact BK222.out) hb); have n7_ := Aside0.mk (blk_below (g := gb227) (o := .cells #[.int .i64 t223, .slice Ao22 t224.length co22] 24 (0, 0)) (by (with_reducible repeat (first | refine blk_drewN ?_ _ | refine blk_drew ?_ | refine blk_alloc ?_ _)); exact BK227.out) hb); have n8_ := Aside0.mk (blk_below (g := gb235) (o := .cells #[.int .i64 t229, .int .i64 t230, .slice Ao28 t231.length co28] 32 (0, 0)) (by (with_reducible repeat (first | refine blk_drewN ?_ _ | refine blk_drew ?_ | refine blk_alloc ?_ _)); exact BK235.out) hb); have n9_ := Aside0.mk (blk_below (g := gb243) (o := .cells #[.int .i64 t237, .int .i64 t238, .slice Ao36 t239.length co36] 32 (0, 0)) (by (with_reducible repeat (first | refine blk_drewN ?_ _ | refine blk_drew ?_ | refine blk_alloc ?_ _)); exact BK243.out) hb); have n10_ := Aside0.mk (blk_below (g := gb249) (o := .cells #[.int .i64 t244, .slice Ao45 t245.length co45] 24 (0, 0)) (by (with_reducible repeat (first | refine blk_drewN ?_ _ | refine blk_drew ?_ | refine blk_alloc ?_ _)); exact BK249.out) hb); have n11_ := Aside0.mk (blk_below (g := gb255) (o := .cells #[.int .i64 t250, .slice Ao55 t251.length co55] 24 (0, 0)) (by (with_reducible repeat (first | refine blk_drewN ?_ _ | refine blk_drew ?_ | refine blk_alloc ?_ _)); exact BK255.out) hb); have n12_ := Aside0.mk (below_step (by repeat (first | (with_reducible first | exact HB.out | apply below_alloc | apply pw_below_drewN | apply below_drew1 | refine below_set ?_ GE222.out | refine below_set ?_ GE227.out | refine below_set ?_ GE235.out | refine below_set ?_ GE243.out | refine below_set ?_ GE249.out | refine below_set ?_ GE255.out) | exact HB.out)) hb); have n13_ := Aside0.mk (hbox); have n14_ := Aside0.mk ((by rw [hg]; exact (below_size (by repeat (first | (with_reducible first | exact HB.out | apply below_alloc | apply pw_below_drewN | apply below_drew1 | refine below_set ?_ GE222.out | refine below_set ?_ GE227.out | refine below_set ?_ GE235.out | refine below_set ?_ GE243.out | refine below_set ?_ GE249.out | refine below_set ?_ GE255.out) | exact HB.out))) : w.heap.size ≤ gb262)); have n15_ := Aside0.mk ((by rw [hg]; exact (below_size (by repeat (first | (with_reducible first | exact HB.out | apply below_alloc | apply pw_below_drewN | apply below_drew1 | refine below_set ?_ GE222.out | refine below_set ?_ GE227.out | refine below_set ?_ GE235.out | refine below_set ?_ GE243.out | refine below_set ?_ GE249.out | refine below_set ?_ GE255.out) | exact HB.out))) : w.heap.size ≤ gb262)); have n16_ := Aside0.mk ((by rw [hg]; exact Nat.ne_of_lt (blk_lt (g := gb222) (o := .cells #[.int .i64 a0_0, .slice A0_1 l0_1.length c0_1] 24 (0, 0)) (by (with_reducible repeat (first | refine blk_drewN ?_ _ | refine blk_drew ?_ | refine blk_alloc ?_ _)); exact BK222.out)) : gb222 ≠ gb262)); have n17_ := Aside0.mk ((by rw [hg]; exact Nat.ne_of_gt (blk_lt (g := gb222) (o := .cells #[.int .i64 a0_0, .slice A0_1 l0_1.length c0_1] 24 (0, 0)) (by (with_reducible repeat (first | refine blk_drewN ?_ _ | refine blk_drew ?_ | refine blk_alloc ?_ _)); exact BK222.out)) : gb262 ≠ gb222)); have n18_ := Aside0.mk ((by rw [hg]; exact Nat.ne_of_lt (blk_lt (g := gb227) (o := .cells #[.int .i64 t223, .slice Ao22 t224.length co22] 24 (0, 0)) (by (with_reducible repeat (first | refine blk_drewN ?_ _ | refine blk_drew ?_ | refine blk_alloc ?_ _)); exact BK227.out)) : gb227 ≠ gb262)); have n19_ := Aside0.mk ((by rw [hg]; exact Nat.ne_of_gt (blk_lt (g := gb227) (o := .cells #[.int .i64 t223, .slice Ao22 t224.length co22] 24 (0, 0)) (by (with_reducible repeat (first | refine blk_drewN ?_ _ | refine blk_drew ?_ | refine blk_alloc ?_ _)); exact BK227.out)) : gb262 ≠ gb227)); have n20_ := Aside0.mk ((by rw [hg]; exact Nat.ne_of_lt (blk_lt (g := gb235) (o := .cells #[.int .i64 t229, .int .i64 t230, .slice Ao28 t231.length co28] 32 (0, 0)) (by (with_reducible repeat (first | refine blk_drewN ?_ _ | refine blk_drew ?_ | refine blk_alloc ?_ _)); exact BK235.out)) : gb235 ≠ gb262)); have n21_ := Aside0.mk ((by rw [hg]; exact Nat.ne_of_gt (blk_lt (g := gb235) (o := .cells #[.int .i64 t229, .int .i64 t230, .slice Ao28 t231.length co28] 32 (0, 0)) (by (with_reducible repeat (first | refine blk_drewN ?_ _ | refine blk_drew ?_ | refine blk_alloc ?_ _)); exact BK235.out)) : gb262 ≠ gb235)); have n22_ := Aside0.mk ((by rw [hg]; exact Nat.ne_of_lt (blk_lt (g := gb243) (o := .cells #[.int .i64 t237, .int .i64 t238, .slice Ao36 t239.length co36] 32 (0, 0)) (by (with_reducible repeat (first | refine blk_drewN ?_ _ | refine blk_drew ?_ | refine blk_alloc ?_ _)); exact BK243.out)) : gb243 ≠ gb262)); have n23_ := Aside0.mk ((by rw [hg]; exact Nat.ne_of_gt (blk_lt (g := gb243) (o := .cells #[.int .i64 t237, .int .i64 t238, .slice Ao36 t239.length co36] 32 (0, 0)) (by (with_reducible repeat (first | refine blk_drewN ?_ _ | refine blk_drew ?_ | refine blk_alloc ?_ _)); exact BK243.out)) : gb262 ≠ gb243)); have n24_ := Aside0.mk ((by rw [hg]; exact Nat.ne_of_lt (blk_lt (g := gb249) (o := .cells #[.int .i64 t244, .slice Ao45 t245.length co45] 24 (0, 0)) (by (with_reducible repeat (first | refine blk_drewN ?_ _ | refine blk_drew ?_ | refine blk_alloc ?_ _)); exact BK249.out)) : gb249 ≠ gb262)); have n25_ := Aside0.mk ((by rw [hg]; exact Nat.ne_of_gt (blk_lt (g := gb249) (o := .cells #[.int .i64 t244, .slice Ao45 t245.length co45] 24 (0, 0)) (by (with_reducible repeat (first | refine blk_drewN ?_ _ | refine blk_drew ?_ | refine blk_alloc ?_ _)); exact BK249.out)) : gb262 ≠ gb249)); have n26_ := Aside0.mk ((by rw [hg]; exact Nat.ne_of_lt (blk_lt (g := gb255) (o := .cells #[.int .i64 t250, .slice Ao55 t251.length co55] 24 (0, 0)) (by (with_reducible repeat (first | refine blk_drewN ?_ _ | refine blk_drew ?_ | refine blk_alloc ?_ _)); exact BK255.out)) : gb255 ≠ gb262)); have n27_ := Aside0.mk ((by rw [hg]; exact Nat.ne_of_gt (blk_lt (g := gb255) (o := .cells #[.int .i64 t250, .slice Ao55 t251.length co55] 24 (0, 0)) (by (with_reducible repeat (first | refine blk_drewN ?_ _ | refine blk_drew ?_ | refine blk_alloc ?_ _)); exact BK255.out)) : gb262 ≠ gb255)); clear HO226; clear HO233; clear HO241; clear HO247; clear HO253; clear HO259; clear BK222; clear BK227; clear BK235; clear BK243; clear BK249; clear BK255; clear HB; have HO226 := n0_; have HO233 := n1_; have HO241 := n2_; have HO247 := n3_; have HO253 := n4_; have HO259 := n5_; have BK222 := n6_; have BK227 := n7_; have BK235 := n8_; have BK243 := n9_; have BK249 := n10_; have BK255 := n11_; have HB := n12_; have BK262 := n13_; have GW262 := n14_; have GE262 := n15_; have NB222_262 := n16_; have NB262_222 := n17_; have NB227_262 := n18_; have NB262_227 := n19_; have NB235_262 := n20_; have NB262_235 := n21_; have NB243_262 := n22_; have NB262_243 := n23_; have NB249_262 := n24_; have NB262_249 := n25_; have NB255_262 := n26_; have NB262_255 := n27_; clear n0_ n1_ n2_ n3_ n4_ n5_ n6_ n7_ n8_ n9_ n10_ n11_ n12_ n13_ n14_ n15_ n16_ n17_ n18_ n19_ n20_ n21_ n22_ n23_ n24_ n25_ n26_ n27_; clear hb hbox hg; have hnb59 := NB262_222.out; have hnc59 := NB222_262.out; have hnb60 := NB262_227.out; have hnc60 := NB227_262.out; have hnb61 := NB262_235.out; have hnc61 := NB235_262.out; have hnb62 := NB262_243.out; have hnc62 := NB243_262.out; have hnb63 := NB262_249.out; have hnc63 := NB249_262.out; have hnb64 := NB262_255.out; have hnc64 := NB255_262.out; have hcz65_0 : w58.cell? ⟨gb262, 0, none⟩ = some (.int .i64 0) := (blk_cell BK262.out 0).trans rfl; have hcz65_1 : w58.cell? ⟨gb262, 1, none⟩ = some (.slice none 0 0) := (blk_cell BK262.out 1).trans rfl; have hfz65_0 := blk_frozen BK262.out 0; have hfz65_1 := blk_frozen BK262.out 1; obtain ⟨Ao66, co66, eo66⟩ := Kd.S_slice HO259.out; subst eo66; have hcz67_0 : w58.cell? ⟨gb222, 0, none⟩ = some (.int .i64 a0_0) := (blk_cell BK222.out 0).trans rfl; have hcz67_1 : w58.cell? ⟨gb222, 1, none⟩ = some (.slice A0_1 l0_1.length c0_1) := (blk_cell BK222.out 1).trans rfl; have hfz67_0 := blk_frozen BK222.out 0; have hfz67_1 := blk_frozen BK222.out 1) | ((with_reducible refine gate_callee (f := 23) rfl ?_); refine goesL_ (some 76) rfl rfl Try.func23 (by kernel_rfl) rfl #[.agg #[.int .i64 a0_0, .slice A0_1 l0_1.length c0_1], .int .i64 a1, .int .i64 a4] rfl (by (try simp only [List.map_toArray, List.map_cons, List.map_nil]); first | done | rfl | (simp only [List.length_drop, List.length_take]; rfl)) ?_; (with_reducible refine (waybillref22_Forget.calls k a0_0 _ _ l0_1 a1 a4 t263 t264 t267 t268 _ ?side1 ?side2 A12.out).mono ?_); (case side1 => exact Kd.C_below HR0_1.out (by repeat (first | (with_reducible first | exact HB.out | apply below_alloc | apply pw_below_drewN | apply below_drew1 | refine below_set ?_ GE222.out | refine below_set ?_ GE227.out | refine below_set ?_ GE235.out | refine below_set ?_ GE243.out | refine below_set ?_ GE249.out | refine below_set ?_ GE255.out | refine below_set ?_ GE262.out) | exact HB.out))); (case side2 => exact HC0_1.out); rintro e w68 ⟨v265, rfl, ho0, hb⟩; refine ⟨_, rfl, ?_⟩; have n0_ := Aside0.mk (Kd.S_elder' (by (with_reducible repeat (first | apply Kd.S_alloc | apply Kd.S_drewN | apply Kd.S_drew)); exact (Kd.S_mono (Kd.S_far (p := ⟨gb262, 1, none⟩) (Kd.S_far (p := ⟨gb262, 0, none⟩) (Kd.S_types HO226.out BK262.out (by decide)) (fun _ hk => hk.2) (.int .i64 t256)) (fun _ hk => hk.2) (.slice Ao66 t257.length co66)) (fun _ h_ => h_.1))) (Kd.S_base ho0) hb); have n1_ := Aside0.mk (Kd.R_below (by (with_reducible repeat (first | apply Kd.R_alloc | apply Kd.R_drewN | apply Kd.R_drew)); exact (Kd.R_mono (Kd.R_far (p := ⟨gb262, 1, none⟩) (Kd.R_far (p := ⟨gb262, 0, none⟩) (Kd.R_types HO233.out BK262.out (by decide)) (fun _ hk => hk.2) (.int .i64 t256)) (fun _ hk => hk.2) (.slice Ao66 t257.length co66)) (fun _ h_ => h_.1))) hb); have n2_ := Aside0.mk (Kd.R_below (by (with_reducible repeat (first | apply Kd.R_alloc | apply Kd.R_drewN | apply Kd.R_drew)); exact (Kd.R_mono (Kd.R_far (p := ⟨gb262, 1, none⟩) (Kd.R_far (p := ⟨gb262, 0, none⟩) (Kd.R_types HO241.out BK262.out (by decide)) (fun _ hk => hk.2) (.int .i64 t256)) (fun _ hk => hk.2) (.slice Ao66 t257.length co66)) (fun _ h_ => h_.1))) hb); have n3_ := Aside0.mk (Kd.S_elder' (by (with_reducible repeat (first | apply Kd.S_alloc | apply Kd.S_drewN | apply Kd.S_drew)); exact (Kd.S_mono (Kd.S_far (p := ⟨gb262, 1, none⟩) (Kd.S_far (p := ⟨gb262, 0, none⟩) (Kd.S_types HO247.out BK262.out (by decide)) (fun _ hk => hk.2) (.int .i64 t256)) (fun _ hk => hk.2) (.slice Ao66 t257.length co66)) (fun _ h_ => h_.1))) (Kd.S_base ho0) hb); have n4_ := Aside0.mk (Kd.S_elder' (by (with_reducible repeat (first | apply Kd.S_alloc | apply Kd.S_drewN | apply Kd.S_drew)); exact (Kd.S_mono (Kd.S_far (p := ⟨gb262, 1, none⟩) (Kd.S_far (p := ⟨gb262, 0, none⟩) (Kd.S_types HO253.out BK262.out (by decide)) (fun _ hk => hk.2) (.int .i64 t256)) (fun _ hk => hk.2) (.slice Ao66 t257.length co66)) (fun _ h_ => h_.1))) (Kd.S_base ho0) hb); have n5_ := Aside0.mk (Kd.S_elder' (by (with_reducible repeat (first | apply Kd.S_alloc | apply Kd.S_drewN | apply Kd.S_drew)); exact (Kd.S_mono (Kd.S_far (p := ⟨gb262, 1, none⟩) (Kd.S_far (p := ⟨gb262, 0, none⟩) (Kd.S_types HO259.out BK262.out (by decide)) (fun _ hk => hk.2) (.int .i64 t256)) (fun _ hk => hk.2) (.slice Ao66 t257.length co66)) (fun _ h_ => h_.1))) (Kd.S_base ho0) hb); have n6_ := Aside0.mk (Kd.S_lower (Kd.S_newB (Kd.S_newB (Kd.S_new' (Kd.S_new' (Kd.S_new' (Kd.S_new' (Kd.S_new' (Kd.S_new' ho0 (Kd.S_lt (by (with_reducible repeat (first | apply Kd.S_alloc | apply Kd.S_drewN | apply Kd.S_drew)); exact (Kd.S_mono (Kd.S_far (p := ⟨gb262, 1, none⟩) (Kd.S_far (p := ⟨gb262, 0, none⟩) (Kd.S_types HO226.out BK262.out (by decide)) (fun _ hk => hk.2) (.int .i64 t256)) (fun _ hk => hk.2) (.slice Ao66 t257.length co66)) (fun _ h_ => h_.1))))) (Kd.R_lt (by (with_reducible repeat (first | apply Kd.R_alloc | apply Kd.R_drewN | apply Kd.R_drew)); exact (Kd.R_mono (Kd.R_far (p := ⟨gb262, 1, none⟩) (Kd.R_far (p := ⟨gb262, 0, none⟩) (Kd.R_types HO233.out BK262.out (by decide)) (fun _ hk => hk.2) (.int .i64 t256)) (fun _ hk => hk.2) (.slice Ao66 t257.length co66)) (fun _ h_ => h_.1))))) (Kd.R_lt (by (with_reducible repeat (first | apply Kd.R_alloc | apply Kd.R_drewN | apply Kd.R_drew)); exact (Kd.R_mono (Kd.R_far (p := ⟨gb262, 1, none⟩) (Kd.R_far (p := ⟨gb262, 0, none⟩) (Kd.R_types HO241.out BK262.out (by decide)) (fun _ hk => hk.2) (.int .i64 t256)) (fun _ hk => hk.2) (.slice Ao66 t257.length co66)) (fun _ h_ => h_.1))))) (Kd.S_lt (by (with_reducible repeat (first | apply Kd.S_alloc | apply Kd.S_drewN | apply Kd.S_drew)); exact (Kd.S_mono (Kd.S_far (p := ⟨gb262, 1, none⟩) (Kd.S_far (p := ⟨gb262, 0, none⟩) (Kd.S_types HO247.out BK262.out (by decide)) (fun _ hk => hk.2) (.int .i64 t256)) (fun _ hk => hk.2) (.slice Ao66 t257.length co66)) (fun _ h_ => h_.1))))) (Kd.S_lt (by (with_reducible repeat (first | apply Kd.S_alloc | apply Kd.S_drewN | apply Kd.S_drew)); exact (Kd.S_mono (Kd.S_far (p := ⟨gb262, 1, none⟩) (Kd.S_far (p := ⟨gb262, 0, none⟩) (Kd.S_types HO253.out BK262.out (by decide)) (fun _ hk => hk.2) (.int .i64 t256)) (fun _ hk => hk.2) (.slice Ao66 t257.length co66)) (fun _ h_ => h_.1))))) (Kd.S_lt (by (with_reducible repeat (first | apply Kd.S_alloc | apply Kd.S_drewN | apply Kd.S_drew)); exact (Kd.S_mono (Kd.S_far (p := ⟨gb262, 1, none⟩) (Kd.S_far (p := ⟨gb262, 0, none⟩) (Kd.S_types HO259.out BK262.out (by decide)) (fun _ hk => hk.2) (.int .i64 t256)) (fun _ hk => hk.2) (.slice Ao66 t257.length co66)) (fun _ h_ => h_.1))))) (g := gb235) (o := .cells #[.int .i64 t229, .int .i64 t230, .slice Ao28 t231.length co28] 32 (0, 0)) (by (with_reducible repeat (first | refine blk_drewN ?_ _ | refine blk_drew ?_ | refine blk_alloc ?_ _)); refine blk_far ?_ NB235_262.out _; (with_reducible repeat (first | refine blk_drewN ?_ _ | refine blk_drew ?_ | refine blk_alloc ?_ _)); refine blk_far ?_ NB235_262.out _; (with_reducible repeat (first | refine blk_drewN ?_ _ | refine blk_drew ?_ | refine blk_alloc ?_ _)); exact BK235.out)) (g := gb243) (o := .cells #[.int .i64 t237, .int .i64 t238, .slice Ao36 t239.length co36] 32 (0, 0)) (by (with_reducible repeat (first | refine blk_drewN ?_ _ | refine blk_drew ?_ | refine blk_alloc ?_ _)); refine blk_far ?_ NB243_262.out _; (with_reducible repeat (first | refine blk_drewN ?_ _ | refine blk_drew ?_ | refine blk_alloc ?_ _)); refine blk_far ?_ NB243_262.out _; (with_reducible repeat (first | refine blk_drewN ?_ _ | refine blk_drew ?_ | refine blk_alloc ?_ _)); exact BK243.out)) (below_size (by repeat (first | (with_reducible first | exact HB.out | apply below_alloc | apply pw_below_drewN | apply below_drew1 | refine below_set ?_ GE222.out | refine below_set ?_ GE227.out | refine below_set ?_ GE235.out | refine below_set ?_ GE243.out | refine below_set ?_ GE249.out | refine below_set ?_ GE255.out | refine below_set ?_ GE262.out) | exact HB.out)))); have n7_ := Aside0.mk (blk_below (g := gb222) (o := .cells #[.int .i64 a0_0, .slice A0_1 l0_1.length c0_1] 24 (0, 0)) (by (with_reducible repeat (first | refine blk_drewN ?_ _ | refine blk_drew ?_ | refine blk_alloc ?_ _)); refine blk_far ?_ NB222_262.out _; (with_reducible repeat (first | refine blk_drewN ?_ _ | refine blk_drew ?_ | refine blk_alloc ?_ _)); refine blk_far ?_ NB222_262.out _; (with_reducible repeat (first | refine blk_drewN ?_ _ | refine blk_drew ?_ | refine blk_alloc ?_ _)); exact BK222.out) hb); have n8_ := Aside0.mk (blk_below (g := gb227) (o := .cells #[.int .i64 t223, .slice Ao22 t224.length co22] 24 (0, 0)) (by (with_reducible repeat (first | refine blk_drewN ?_ _ | refine blk_drew ?_ | refine blk_alloc ?_ _)); refine blk_far ?_ NB227_262.out _; (with_reducible repeat (first | refine blk_drewN ?_ _ | refine blk_drew ?_ | refine blk_alloc ?_ _)); refine blk_far ?_ NB227_262.out _; (with_reducible repeat (first | refine blk_drewN ?_ _ | refine blk_drew ?_ | refine blk_alloc ?_ _)); exact BK227.out) hb); have n9_ := Aside0.mk (blk_below (g := gb235) (o := .cells #[.int .i64 t229, .int .i64 t230, .slice Ao28 t231.length co28] 32 (0, 0)) (by (with_reducible repeat (first | refine blk_drewN ?_ _ | refine blk_drew ?_ | refine blk_alloc ?_ _)); refine blk_far ?_ NB235_262.out _; (with_reducible repeat (first | refine blk_drewN ?_ _ | refine blk_drew ?_ | refine blk_alloc ?_ _)); refine blk_far ?_ NB235_262.out _; (with_reducible repeat (first | refine blk_drewN ?_ _ | refine blk_drew ?_ | refine blk_alloc ?_ _)); exact BK235.out) hb); have n10_ := Aside0.mk (blk_below (g := gb243) (o := .cells #[.int .i64 t237, .int .i64 t238, .slice Ao36 t239.length co36] 32 (0, 0)) (by (with_reducible repeat (first | refine blk_drewN ?_ _ | refine blk_drew ?_ | refine blk_alloc ?_ _)); refine blk_far ?_ NB243_262.out _; (with_reducible repeat (first | refine blk_drewN ?_ _ | refine blk_drew ?_ | refine blk_alloc ?_ _)); refine blk_far ?_ NB243_262.out _; (with_reducible repeat (first | refine blk_drewN ?_ _ | refine blk_drew ?_ | refine blk_alloc ?_ _)); exact BK243.out) hb); have n11_ := Aside0.mk (blk_below (g := gb249) (o := .cells #[.int .i64 t244, .slice Ao45 t245.length co45] 24 (0, 0)) (by (with_reducible repeat (first | refine blk_drewN ?_ _ | refine blk_drew ?_ | refine blk_alloc ?_ _)); refine blk_far ?_ NB249_262.out _; (with_reducible repeat (first | refine blk_drewN ?_ _ | refine blk_drew ?_ | refine blk_alloc ?_ _)); refine blk_far ?_ NB249_262.out _; (with_reducible repeat (first | refine blk_drewN ?_ _ | refine blk_drew ?_ | refine blk_alloc ?_ _)); exact BK249.out) hb); have n12_ := Aside0.mk (blk_below (g := gb255) (o := .cells #[.int .i64 t250, .slice Ao55 t251.length co55] 24 (0, 0)) (by (with_reducible repeat (first | refine blk_drewN ?_ _ | refine blk_drew ?_ | refine blk_alloc ?_ _)); refine blk_far ?_ NB255_262.out _; (with_reducible repeat (first | refine blk_drewN ?_ _ | refine blk_drew ?_ | refine blk_alloc ?_ _)); refine blk_far ?_ NB255_262.out _; (with_reducible repeat (first | refine blk_drewN ?_ _ | refine blk_drew ?_ | refine blk_alloc ?_ _)); exact BK255.out) hb); have n13_ := Aside0.mk (blk_below (g := gb262) (o := .cells #[.int .i64 t256, .slice Ao66 t257.length co66] 24 (0, 0)) (by (with_reducible repeat (first | refine blk_drewN ?_ _ | refine blk_drew ?_ | refine blk_alloc ?_ _)); refine blk_put (cs := #[.int .i64 t256, .slice none 0 0]) ?_ 1 _ rfl; (with_reducible repeat (first | refine blk_drewN ?_ _ | refine blk_drew ?_ | refine blk_alloc ?_ _)); refine blk_put (cs := #[.int .i64 0, .slice none 0 0]) ?_ 0 _ rfl; (with_reducible repeat (first | refine blk_drewN ?_ _ | refine blk_drew ?_ | refine blk_alloc ?_ _)); exact BK262.out) hb); have n14_ := Aside0.mk (below_step (by repeat (first | (with_reducible first | exact HB.out | apply below_alloc | apply pw_below_drewN | apply below_drew1 | refine below_set ?_ GE222.out | refine below_set ?_ GE227.out | refine below_set ?_ GE235.out | refine below_set ?_ GE243.out | refine below_set ?_ GE249.out | refine below_set ?_ GE255.out | refine below_set ?_ GE262.out) | exact HB.out)) hb); clear HO226; clear HO233; clear HO241; clear HO247; clear HO253; clear HO259; clear BK222; clear BK227; clear BK235; clear BK243; clear BK249; clear BK255; clear BK262; clear HB; have HO226 := n0_; have HO233 := n1_; have HO241 := n2_; have HO247 := n3_; have HO253 := n4_; have HO259 := n5_; have HO266 := n6_; have BK222 := n7_; have BK227 := n8_; have BK235 := n9_; have BK243 := n10_; have BK249 := n11_; have BK255 := n12_; have BK262 := n13_; have HB := n14_; clear n0_ n1_ n2_ n3_ n4_ n5_ n6_ n7_ n8_ n9_ n10_ n11_ n12_ n13_ n14_; (try clear hb); (try clear hb2); (try clear hk); (try clear hi); (try clear ho0)) | ((with_reducible refine gate_dst (N := 25) rfl ?_); refine box_event ?hg (N := 25) ?hd (cs := #[.int .i64 0, .slice none 0 0]) (t := 24) ?hr ?_; (case hd => rfl); (case hg => rfl); (case hr => first | (go_simp; done) | (go_simp; rfl)); intro gb269 hg w69 hbox hb; have n0_ := Aside0.mk (Kd.S_below (by (with_reducible repeat (first | apply Kd.S_alloc | apply Kd.S_drewN | apply Kd.S_drew)); exact HO226.out) hb); have n1_ := Aside0.mk (Kd.R_below (by (with_reducible repeat (first | apply Kd.R_alloc | apply Kd.R_drewN | apply Kd.R_drew)); exact HO233.out) hb); have n2_ := Aside0.mk (Kd.R_below (by (with_reducible repeat (first | apply Kd.R_alloc | apply Kd.R_drewN | apply Kd.R_drew)); exact HO241.out) hb); have n3_ := Aside0.mk (Kd.S_below (by (with_reducible repeat (first | apply Kd.S_alloc | apply Kd.S_drewN | apply Kd.S_drew)); exact HO247.out) hb); have n4_ := Aside0.mk (Kd.S_below (by (with_reducible repeat (first | apply Kd.S_alloc | apply Kd.S_drewN | apply Kd.S_drew)); exact HO253.out) hb); have n5_ := Aside0.mk (Kd.S_below (by (with_reducible repeat (first | apply Kd.S_alloc | apply Kd.S_drewN | apply Kd.S_drew)); exact HO259.out) hb); have n6_ := Aside0.mk (Kd.S_below (by (with_reducible repeat (first | apply Kd.S_alloc | apply Kd.S_drewN | apply Kd.S_drew)); exact HO266.out) hb); have n7_ := Aside0.mk (blk_below (g := gb222) (o := .cells #[.int .i64 a0_0, .slice A0_1 l0_1.length c0_1] 24 (0, 0)) (by (with_reducible repeat (first | refine blk_drewN ?_ _ | refine blk_drew ?_ | refine blk_alloc ?_ _)); exact BK222.out) hb); have n8_ := Aside0.mk (blk_below (g := gb227) (o := .cells #[.int .i64 t223, .slice Ao22 t224.length co22] 24 (0, 0)) (by (with_reducible repeat (first | refine blk_drewN ?_ _ | refine blk_drew ?_ | refine blk_alloc ?_ _)); exact BK227.out) hb); have n9_ := Aside0.mk (blk_below (g := gb235) (o := .cells #[.int .i64 t229, .int .i64 t230, .slice Ao28 t231.length co28] 32 (0, 0)) (by (with_reducible repeat (first | refine blk_drewN ?_ _ | refine blk_drew ?_ | refine blk_alloc ?_ _)); exact BK235.out) hb); have n10_ := Aside0.mk (blk_below (g := gb243) (o := .cells #[.int .i64 t237, .int .i64 t238, .slice Ao36 t239.length co36] 32 (0, 0)) (by (with_reducible repeat (first | refine blk_drewN ?_ _ | refine blk_drew ?_ | refine blk_alloc ?_ _)); exact BK243.out) hb); have n11_ := Aside0.mk (blk_below (g := gb249) (o := .cells #[.int .i64 t244, .slice Ao45 t245.length co45] 24 (0, 0)) (by (with_reducible repeat (first | refine blk_drewN ?_ _ | refine blk_drew ?_ | refine blk_alloc ?_ _)); exact BK249.out) hb); have n12_ := Aside0.mk (blk_below (g := gb255) (o := .cells #[.int .i64 t250, .slice Ao55 t251.length co55] 24 (0, 0)) (by (with_reducible repeat (first | refine blk_drewN ?_ _ | refine blk_drew ?_ | refine blk_alloc ?_ _)); exact BK255.out) hb); have n13_ := Aside0.mk (blk_below (g := gb262) (o := .cells #[.int .i64 t256, .slice Ao66 t257.length co66] 24 (0, 0)) (by (with_reducible repeat (first | refine blk_drewN ?_ _ | refine blk_drew ?_ | refine blk_alloc ?_ _)); exact BK262.out) hb); have n14_ := Aside0.mk (below_step (by repeat (first | (with_reducible first | exact HB.out | apply below_alloc | apply pw_below_drewN | apply below_drew1 | refine below_set ?_ GE222.out | refine below_set ?_ GE227.out | refine below_set ?_ GE235.out | refine below_set ?_ GE243.out | refine below_set ?_ GE249.out | refine below_set ?_ GE255.out | refine below_set ?_ GE262.out) | exact HB.out)) hb); have n15_ := Aside0.mk (hbox); have n16_ := Aside0.mk ((by rw [hg]; exact (below_size (by repeat (first | (with_reducible first | exact HB.out | apply below_alloc | apply pw_below_drewN | apply below_drew1 | refine below_set ?_ GE222.out | refine below_set ?_ GE227.out | refine below_set ?_ GE235.out | refine below_set ?_ GE243.out | refine below_set ?_ GE249.out | refine below_set ?_ GE255.out | refine below_set ?_ GE262.out) | exact HB.out))) : w.heap.size ≤ gb269)); have n17_ := Aside0.mk ((by rw [hg]; exact (below_size (by repeat (first | (with_reducible first | exact HB.out | apply below_alloc | apply pw_below_drewN | apply below_drew1 | refine below_set ?_ GE222.out | refine below_set ?_ GE227.out | refine below_set ?_ GE235.out | refine below_set ?_ GE243.out | refine below_set ?_ GE249.out | refine below_set ?_ GE255.out | refine below_set ?_ GE262.out) | exact HB.out))) : w.heap.size ≤ gb269)); have n18_ := Aside0.mk ((by rw [hg]; exact Nat.ne_of_lt (blk_lt (g := gb222) (o := .cells #[.int .i64 a0_0, .slice A0_1 l0_1.length c0_1] 24 (0, 0)) (by (with_reducible repeat (first | refine blk_drewN ?_ _ | refine blk_drew ?_ | refine blk_alloc ?_ _)); exact BK222.out)) : gb222 ≠ gb269)); have n19_ := Aside0.mk ((by rw [hg]; exact Nat.ne_of_gt (blk_lt (g := gb222) (o := .cells #[.int .i64 a0_0, .slice A0_1 l0_1.length c0_1] 24 (0, 0)) (by (with_reducible repeat (first | refine blk_drewN ?_ _ | refine blk_drew ?_ | refine blk_alloc ?_ _)); exact BK222.out)) : gb269 ≠ gb222)); have n20_ := Aside0.mk ((by rw [hg]; exact Nat.ne_of_lt (blk_lt (g := gb227) (o := .cells #[.int .i64 t223, .slice Ao22 t224.length co22] 24 (0, 0)) (by (with_reducible repeat (first | refine blk_drewN ?_ _ | refine blk_drew ?_ | refine blk_alloc ?_ _)); exact BK227.out)) : gb227 ≠ gb269)); have n21_ := Aside0.mk ((by rw [hg]; exact Nat.ne_of_gt (blk_lt (g := gb227) (o := .cells #[.int .i64 t223, .slice Ao22 t224.length co22] 24 (0, 0)) (by (with_reducible repeat (first | refine blk_drewN ?_ _ | refine blk_drew ?_ | refine blk_alloc ?_ _)); exact BK227.out)) : gb269 ≠ gb227)); have n22_ := Aside0.mk ((by rw [hg]; exact Nat.ne_of_lt (blk_lt (g := gb235) (o := .cells #[.int .i64 t229, .int .i64 t230, .slice Ao28 t231.length co28] 32 (0, 0)) (by (with_reducible repeat (first | refine blk_drewN ?_ _ | refine blk_drew ?_ | refine blk_alloc ?_ _)); exact BK235.out)) : gb235 ≠ gb269)); have n23_ := Aside0.mk ((by rw [hg]; exact Nat.ne_of_gt (blk_lt (g := gb235) (o := .cells #[.int .i64 t229, .int .i64 t230, .slice Ao28 t231.length co28] 32 (0, 0)) (by (with_reducible repeat (first | refine blk_drewN ?_ _ | refine blk_drew ?_ | refine blk_alloc ?_ _)); exact BK235.out)) : gb269 ≠ gb235)); have n24_ := Aside0.mk ((by rw [hg]; exact Nat.ne_of_lt (blk_lt (g := gb243) (o := .cells #[.int .i64 t237, .int .i64 t238, .slice Ao36 t239.length co36] 32 (0, 0)) (by (with_reducible repeat (first | refine blk_drewN ?_ _ | refine blk_drew ?_ | refine blk_alloc ?_ _)); exact BK243.out)) : gb243 ≠ gb269)); have n25_ := Aside0.mk ((by rw [hg]; exact Nat.ne_of_gt (blk_lt (g := gb243) (o := .cells #[.int .i64 t237, .int .i64 t238, .slice Ao36 t239.length co36] 32 (0, 0)) (by (with_reducible repeat (first | refine blk_drewN ?_ _ | refine blk_drew ?_ | refine blk_alloc ?_ _)); exact BK243.out)) : gb269 ≠ gb243)); have n26_ := Aside0.mk ((by rw [hg]; exact Nat.ne_of_lt (blk_lt (g := gb249) (o := .cells #[.int .i64 t244, .slice Ao45 t245.length co45] 24 (0, 0)) (by (with_reducible repeat (first | refine blk_drewN ?_ _ | refine blk_drew ?_ | refine blk_alloc ?_ _)); exact BK249.out)) : gb249 ≠ gb269)); have n27_ := Aside0.mk ((by rw [hg]; exact Nat.ne_of_gt (blk_lt (g := gb249) (o := .cells #[.int .i64 t244, .slice Ao45 t245.length co45] 24 (0, 0)) (by (with_reducible repeat (first | refine blk_drewN ?_ _ | refine blk_drew ?_ | refine blk_alloc ?_ _)); exact BK249.out)) : gb269 ≠ gb249)); have n28_ := Aside0.mk ((by rw [hg]; exact Nat.ne_of_lt (blk_lt (g := gb255) (o := .cells #[.int .i64 t250, .slice Ao55 t251.length co55] 24 (0, 0)) (by (with_reducible repeat (first | refine blk_drewN ?_ _ | refine blk_drew ?_ | refine blk_alloc ?_ _)); exact BK255.out)) : gb255 ≠ gb269)); have n29_ := Aside0.mk ((by rw [hg]; exact Nat.ne_of_gt (blk_lt (g := gb255) (o := .cells #[.int .i64 t250, .slice Ao55 t251.length co55] 24 (0, 0)) (by (with_reducible repeat (first | refine blk_drewN ?_ _ | refine blk_drew ?_ | refine blk_alloc ?_ _)); exact BK255.out)) : gb269 ≠ gb255)); have n30_ := Aside0.mk ((by rw [hg]; exact Nat.ne_of_lt (blk_lt (g := gb262) (o := .cells #[.int .i64 t256, .slice Ao66 t257.length co66] 24 (0, 0)) (by (with_reducible repeat (first | refine blk_drewN ?_ _ | refine blk_drew ?_ | refine blk_alloc ?_ _)); exact BK262.out)) : gb262 ≠ gb269)); have n31_ := Aside0.mk ((by rw [hg]; exact Nat.ne_of_gt (blk_lt (g := gb262) (o := .cells #[.int .i64 t256, .slice Ao66 t257.length co66] 24 (0, 0)) (by (with_reducible repeat (first | refine blk_drewN ?_ _ | refine blk_drew ?_ | refine blk_alloc ?_ _)); exact BK262.out)) : gb269 ≠ gb262)); clear HO226; clear HO233; clear HO241; clear HO247; clear HO253; clear HO259; clear HO266; clear BK222; clear BK227; clear BK235; clear BK243; clear BK249; clear BK255; clear BK262; clear HB; have HO226 := n0_; have HO233 := n1_; have HO241 := n2_; have HO247 := n3_; have HO253 := n4_; have HO259 := n5_; have HO266 := n6_; have BK222 := n7_; have BK227 := n8_; have BK235 := n9_; have BK243 := n10_; have BK249 := n11_; have BK255 := n12_; have BK262 := n13_; have HB := n14_; have BK269 := n15_; have GW269 := n16_; have GE269 := n17_; have NB222_269 := n18_; have NB269_222 := n19_; have NB227_269 := n20_; have NB269_227 := n21_; have NB235_269 := n22_; have NB269_235 := n23_; have NB243_269 := n24_; have NB269_243 := n25_; have NB249_269 := n26_; have NB269_249 := n27_; have NB255_269 := n28_; have NB269_255 := n29_; have NB262_269 := n30_; have NB269_262 := n31_; clear n0_ n1_ n2_ n3_ n4_ n5_ n6_ n7_ n8_ n9_ n10_ n11_ n12_ n13_ n14_ n15_ n16_ n17_ n18_ n19_ n20_ n21_ n22_ n23_ n24_ n25_ n26_ n27_ n28_ n29_ n30_ n31_; clear hb hbox hg; have hnb70 := NB269_222.out; have hnc70 := NB222_269.out; have hnb71 := NB269_227.out; have hnc71 := NB227_269.out; have hnb72 := NB269_235.out; have hnc72 := NB235_269.out; have hnb73 := NB269_243.out; have hnc73 := NB243_269.out; have hnb74 := NB269_249.out; have hnc74 := NB249_269.out; have hnb75 := NB269_255.out; have hnc75 := NB255_269.out; have hnb76 := NB269_262.out; have hnc76 := NB262_269.out; have hcz77_0 : w69.cell? ⟨gb269, 0, none⟩ = some (.int .i64 0) := (blk_cell BK269.out 0).trans rfl; have hcz77_1 : w69.cell? ⟨gb269, 1, none⟩ = some (.slice none 0 0) := (blk_cell BK269.out 1).trans rfl; have hfz77_0 := blk_frozen BK269.out 0; have hfz77_1 := blk_frozen BK269.out 1; obtain ⟨Ao78, co78, eo78⟩ := Kd.S_slice HO266.out; subst eo78; have hcz79_0 : w69.cell? ⟨gb227, 0, none⟩ = some (.int .i64 t223) := (blk_cell BK227.out 0).trans rfl; have hcz79_1 : w69.cell? ⟨gb227, 1, none⟩ = some (.slice Ao22 t224.length co22) := (blk_cell BK227.out 1).trans rfl; have hfz79_0 := blk_frozen BK227.out 0; have hfz79_1 := blk_frozen BK227.out 1) | ((with_reducible refine gate_callee (f := 10) rfl ?_); refine goesL_ (some 83) rfl rfl Try.func10 (by kernel_rfl) rfl #[.agg #[.int .i64 t223, .slice Ao22 t224.length co22], .int .i64 a1] rfl (by (try simp only [List.map_toArray, List.map_cons, List.map_nil]); first | done | rfl | (simp only [List.length_drop, List.length_take]; rfl)) ?_; (with_reducible refine (window_Open.calls k t223 _ _ t224 a1 t270 t273 _ ?side1 ?side2 A13.out).mono ?_); (case side1 => refine (Kd.S_reads' (e := 32) (base := w.heap.size) (ok := fun k_ => ((((((((True ∧ some k_ ≠ (.slice Ao28 t231.length co28 : Value).ownBlock) ∧ k_ ≠ gb235) ∧ some k_ ≠ (.slice Ao36 t239.length co36 : Value).ownBlock) ∧ k_ ≠ gb243) ∧ some k_ ≠ (.slice Ao45 t245.length co45 : Value).ownBlock) ∧ some k_ ≠ (.slice Ao55 t251.length co55 : Value).ownBlock) ∧ some k_ ≠ (.slice Ao66 t257.length co66 : Value).ownBlock) ∧ some k_ ≠ (.slice Ao78 t264.length co78 : Value).ownBlock)) (n := t224.length) (c := co22) ?_).2.2; exact (by (with_reducible repeat (first | apply Kd.S_alloc | apply Kd.S_drewN | apply Kd.S_drew)); exact (Kd.S_mono (Kd.S_far (p := ⟨gb269, 1, none⟩) (Kd.S_far (p := ⟨gb269, 0, none⟩) (Kd.S_types HO226.out BK269.out (by decide)) (fun _ hk => hk.2) (.int .i64 t263)) (fun _ hk => hk.2) (.slice Ao78 t264.length co78)) (fun _ h_ => h_.1)))); (case side2 => exact (Kd.S_reads' HO226.out).2.1); rintro e w80 ⟨v271, rfl, ho0, hb⟩; refine ⟨_, rfl, ?_⟩; have n0_ := Aside0.mk (Kd.S_below (by (with_reducible repeat (first | apply Kd.S_alloc | apply Kd.S_drewN | apply Kd.S_drew)); exact (Kd.S_mono (Kd.S_far (p := ⟨gb269, 1, none⟩) (Kd.S_far (p := ⟨gb269, 0, none⟩) (Kd.S_types HO226.out BK269.out (by decide)) (fun _ hk => hk.2) (.int .i64 t263)) (fun _ hk => hk.2) (.slice Ao78 t264.length co78)) (fun _ h_ => h_.1))) hb); have n1_ := Aside0.mk (Kd.R_below (by (with_reducible repeat (first | apply Kd.R_alloc | apply Kd.R_drewN | apply Kd.R_drew)); exact (Kd.R_mono (Kd.R_far (p := ⟨gb269, 1, none⟩) (Kd.R_far (p := ⟨gb269, 0, none⟩) (Kd.R_types HO233.out BK269.out (by decide)) (fun _ hk => hk.2) (.int .i64 t263)) (fun _ hk => hk.2) (.slice Ao78 t264.length co78)) (fun _ h_ => h_.1))) hb); have n2_ := Aside0.mk (Kd.R_below (by (with_reducible repeat (first | apply Kd.R_alloc | apply Kd.R_drewN | apply Kd.R_drew)); exact (Kd.R_mono (Kd.R_far (p := ⟨gb269, 1, none⟩) (Kd.R_far (p := ⟨gb269, 0, none⟩) (Kd.R_types HO241.out BK269.out (by decide)) (fun _ hk => hk.2) (.int .i64 t263)) (fun _ hk => hk.2) (.slice Ao78 t264.length co78)) (fun _ h_ => h_.1))) hb); have n3_ := Aside0.mk (Kd.S_below (by (with_reducible repeat (first | apply Kd.S_alloc | apply Kd.S_drewN | apply Kd.S_drew)); exact (Kd.S_mono (Kd.S_far (p := ⟨gb269, 1, none⟩) (Kd.S_far (p := ⟨gb269, 0, none⟩) (Kd.S_types HO247.out BK269.out (by decide)) (fun _ hk => hk.2) (.int .i64 t263)) (fun _ hk => hk.2) (.slice Ao78 t264.length co78)) (fun _ h_ => h_.1))) hb); have n4_ := Aside0.mk (Kd.S_below (by (with_reducible repeat (first | apply Kd.S_alloc | apply Kd.S_drewN | apply Kd.S_drew)); exact (Kd.S_mono (Kd.S_far (p := ⟨gb269, 1, none⟩) (Kd.S_far (p := ⟨gb269, 0, none⟩) (Kd.S_types HO253.out BK269.out (by decide)) (fun _ hk => hk.2) (.int .i64 t263)) (fun _ hk => hk.2) (.slice Ao78 t264.length co78)) (fun _ h_ => h_.1))) hb); have n5_ := Aside0.mk (Kd.S_below (by (with_reducible repeat (first | apply Kd.S_alloc | apply Kd.S_drewN | apply Kd.S_drew)); exact (Kd.S_mono (Kd.S_far (p := ⟨gb269, 1, none⟩) (Kd.S_far (p := ⟨gb269, 0, none⟩) (Kd.S_types HO259.out BK269.out (by decide)) (fun _ hk => hk.2) (.int .i64 t263)) (fun _ hk => hk.2) (.slice Ao78 t264.length co78)) (fun _ h_ => h_.1))) hb); have n6_ := Aside0.mk (Kd.S_below (by (with_reducible repeat (first | apply Kd.S_alloc | apply Kd.S_drewN | apply Kd.S_drew)); exact (Kd.S_mono (Kd.S_far (p := ⟨gb269, 1, none⟩) (Kd.S_far (p := ⟨gb269, 0, none⟩) (Kd.S_types HO266.out BK269.out (by decide)) (fun _ hk => hk.2) (.int .i64 t263)) (fun _ hk => hk.2) (.slice Ao78 t264.length co78)) (fun _ h_ => h_.1))) hb); have n7_ := Aside0.mk (Kd.R_lower ho0 (below_size (by repeat (first | (with_reducible first | exact HB.out | apply below_alloc | apply pw_below_drewN | apply below_drew1 | refine below_set ?_ GE222.out | refine below_set ?_ GE227.out | refine below_set ?_ GE235.out | refine below_set ?_ GE243.out | refine below_set ?_ GE249.out | refine below_set ?_ GE255.out | refine below_set ?_ GE262.out | refine below_set ?_ GE269.out) | exact HB.out)))); have n8_ := Aside0.mk (blk_below (g := gb222) (o := .cells #[.int .i64 a0_0, .slice A0_1 l0_1.length c0_1] 24 (0, 0)) (by (with_reducible repeat (first | refine blk_drewN ?_ _ | refine blk_drew ?_ | refine blk_alloc ?_ _)); refine blk_far ?_ NB222_269.out _; (with_reducible repeat (first | refine blk_drewN ?_ _ | refine blk_drew ?_ | refine blk_alloc ?_ _)); refine blk_far ?_ NB222_269.out _; (with_reducible repeat (first | refine blk_drewN ?_ _ | refine blk_drew ?_ | refine blk_alloc ?_ _)); exact BK222.out) hb); have n9_ := Aside0.mk (blk_below (g := gb227) (o := .cells #[.int .i64 t223, .slice Ao22 t224.length co22] 24 (0, 0)) (by (with_reducible repeat (first | refine blk_drewN ?_ _ | refine blk_drew ?_ | refine blk_alloc ?_ _)); refine blk_far ?_ NB227_269.out _; (with_reducible repeat (first | refine blk_drewN ?_ _ | refine blk_drew ?_ | refine blk_alloc ?_ _)); refine blk_far ?_ NB227_269.out _; (with_reducible repeat (first | refine blk_drewN ?_ _ | refine blk_drew ?_ | refine blk_alloc ?_ _)); exact BK227.out) hb); have n10_ := Aside0.mk (blk_below (g := gb235) (o := .cells #[.int .i64 t229, .int .i64 t230, .slice Ao28 t231.length co28] 32 (0, 0)) (by (with_reducible repeat (first | refine blk_drewN ?_ _ | refine blk_drew ?_ | refine blk_alloc ?_ _)); refine blk_far ?_ NB235_269.out _; (with_reducible repeat (first | refine blk_drewN ?_ _ | refine blk_drew ?_ | refine blk_alloc ?_ _)); refine blk_far ?_ NB235_269.out _; (with_reducible repeat (first | refine blk_drewN ?_ _ | refine blk_drew ?_ | refine blk_alloc ?_ _)); exact BK235.out) hb); have n11_ := Aside0.mk (blk_below (g := gb243) (o := .cells #[.int .i64 t237, .int .i64 t238, .slice Ao36 t239.length co36] 32 (0, 0)) (by (with_reducible repeat (first | refine blk_drewN ?_ _ | refine blk_drew ?_ | refine blk_alloc ?_ _)); refine blk_far ?_ NB243_269.out _; (with_reducible repeat (first | refine blk_drewN ?_ _ | refine blk_drew ?_ | refine blk_alloc ?_ _)); refine blk_far ?_ NB243_269.out _; (with_reducible repeat (first | refine blk_drewN ?_ _ | refine blk_drew ?_ | refine blk_alloc ?_ _)); exact BK243.out) hb); have n12_ := Aside0.mk (blk_below (g := gb249) (o := .cells #[.int .i64 t244, .slice Ao45 t245.length co45] 24 (0, 0)) (by (with_reducible repeat (first | refine blk_drewN ?_ _ | refine blk_drew ?_ | refine blk_alloc ?_ _)); refine blk_far ?_ NB249_269.out _; (with_reducible repeat (first | refine blk_drewN ?_ _ | refine blk_drew ?_ | refine blk_alloc ?_ _)); refine blk_far ?_ NB249_269.out _; (with_reducible repeat (first | refine blk_drewN ?_ _ | refine blk_drew ?_ | refine blk_alloc ?_ _)); exact BK249.out) hb); have n13_ := Aside0.mk (blk_below (g := gb255) (o := .cells #[.int .i64 t250, .slice Ao55 t251.length co55] 24 (0, 0)) (by (with_reducible repeat (first | refine blk_drewN ?_ _ | refine blk_drew ?_ | refine blk_alloc ?_ _)); refine blk_far ?_ NB255_269.out _; (with_reducible repeat (first | refine blk_drewN ?_ _ | refine blk_drew ?_ | refine blk_alloc ?_ _)); refine blk_far ?_ NB255_269.out _; (with_reducible repeat (first | refine blk_drewN ?_ _ | refine blk_drew ?_ | refine blk_alloc ?_ _)); exact BK255.out) hb); have n14_ := Aside0.mk (blk_below (g := gb262) (o := .cells #[.int .i64 t256, .slice Ao66 t257.length co66] 24 (0, 0)) (by (with_reducible repeat (first | refine blk_drewN ?_ _ | refine blk_drew ?_ | refine blk_alloc ?_ _)); refine blk_far ?_ NB262_269.out _; (with_reducible repeat (first | refine blk_drewN ?_ _ | refine blk_drew ?_ | refine blk_alloc ?_ _)); refine blk_far ?_ NB262_269.out _; (with_reducible repeat (first | refine blk_drewN ?_ _ | refine blk_drew ?_ | refine blk_alloc ?_ _)); exact BK262.out) hb); have n15_ := Aside0.mk (blk_below (g := gb269) (o := .cells #[.int .i64 t263, .slice Ao78 t264.length co78] 24 (0, 0)) (by (with_reducible repeat (first | refine blk_drewN ?_ _ | refine blk_drew ?_ | refine blk_alloc ?_ _)); refine blk_put (cs := #[.int .i64 t263, .slice none 0 0]) ?_ 1 _ rfl; (with_reducible repeat (first | refine blk_drewN ?_ _ | refine blk_drew ?_ | refine blk_alloc ?_ _)); refine blk_put (cs := #[.int .i64 0, .slice none 0 0]) ?_ 0 _ rfl; (with_reducible repeat (first | refine blk_drewN ?_ _ | refine blk_drew ?_ | refine blk_alloc ?_ _)); exact BK269.out) hb); have n16_ := Aside0.mk (below_step (by repeat (first | (with_reducible first | exact HB.out | apply below_alloc | apply pw_below_drewN | apply below_drew1 | refine below_set ?_ GE222.out | refine below_set ?_ GE227.out | refine below_set ?_ GE235.out | refine below_set ?_ GE243.out | refine below_set ?_ GE249.out | refine below_set ?_ GE255.out | refine below_set ?_ GE262.out | refine below_set ?_ GE269.out) | exact HB.out)) hb); clear HO226; clear HO233; clear HO241; clear HO247; clear HO253; clear HO259; clear HO266; clear BK222; clear BK227; clear BK235; clear BK243; clear BK249; clear BK255; clear BK262; clear BK269; clear HB; have HO226 := n0_; have HO233 := n1_; have HO241 := n2_; have HO247 := n3_; have HO253 := n4_; have HO259 := n5_; have HO266 := n6_; have HO272 := n7_; have BK222 := n8_; have BK227 := n9_; have BK235 := n10_; have BK243 := n11_; have BK249 := n12_; have BK255 := n13_; have BK262 := n14_; have BK269 := n15_; have HB := n16_; clear n0_ n1_ n2_ n3_ n4_ n5_ n6_ n7_ n8_ n9_ n10_ n11_ n12_ n13_ n14_ n15_ n16_; (try clear hb); (try clear hb2); (try clear hk); (try clear hi); (try clear ho0); have hcz81_0 : w80.cell? ⟨gb222, 0, none⟩ = some (.int .i64 a0_0) := (blk_cell BK222.out 0).trans rfl; have hcz81_1 : w80.cell? ⟨gb222, 1, none⟩ = some (.slice A0_1 l0_1.length c0_1) := (blk_cell BK222.out 1).trans rfl; have hfz81_0 := blk_frozen BK222.out 0; have hfz81_1 := blk_frozen BK222.out 1) | ((with_reducible refine gate_callee (f := 24) rfl ?_); refine goesL_ (some 89) rfl rfl Try.func24 (by kernel_rfl) rfl #[.agg #[.int .i64 a0_0, .slice A0_1 l0_1.length c0_1], .int .i64 a1] rfl (by (try simp only [List.map_toArray, List.map_cons, List.map_nil]); first | done | rfl | (simp only [List.length_drop, List.length_take]; rfl)) ?_; (with_reducible refine (waybillref22_Open.calls k a0_0 _ _ l0_1 a1 t274 t277 _ ?side1 ?side2 A14.out).mono ?_); (case side1 => repeat (first | exact (Kd.C_below HR0_1.out HB.out) | (with_reducible refine Kd.C_alloc ?_ _) | (with_reducible refine Kd.C_drewN ?_ _) | (with_reducible refine Kd.C_drew ?_))); (case side2 => exact HC0_1.out); rintro e w82 ⟨v275, rfl, ho0, hb⟩; refine ⟨_, rfl, ?_⟩; have n0_ := Aside0.mk (Kd.S_below (by (with_reducible repeat (first | apply Kd.S_alloc | apply Kd.S_drewN | apply Kd.S_drew)); exact HO226.out) hb); have n1_ := Aside0.mk (Kd.R_below (by (with_reducible repeat (first | apply Kd.R_alloc | apply Kd.R_drewN | apply Kd.R_drew)); exact HO233.out) hb); have n2_ := Aside0.mk (Kd.R_below (by (with_reducible repeat (first | apply Kd.R_alloc | apply Kd.R_drewN | apply Kd.R_drew)); exact HO241.out) hb); have n3_ := Aside0.mk (Kd.S_below (by (with_reducible repeat (first | apply Kd.S_alloc | apply Kd.S_drewN | apply Kd.S_drew)); exact HO247.out) hb); have n4_ := Aside0.mk (Kd.S_below (by (with_reducible repeat (first | apply Kd.S_alloc | apply Kd.S_drewN | apply Kd.S_drew)); exact HO253.out) hb); have n5_ := Aside0.mk (Kd.S_below (by (with_reducible repeat (first | apply Kd.S_alloc | apply Kd.S_drewN | apply Kd.S_drew)); exact HO259.out) hb); have n6_ := Aside0.mk (Kd.S_below (by (with_reducible repeat (first | apply Kd.S_alloc | apply Kd.S_drewN | apply Kd.S_drew)); exact HO266.out) hb); have n7_ := Aside0.mk (Kd.R_elder' (by (with_reducible repeat (first | apply Kd.R_alloc | apply Kd.R_drewN | apply Kd.R_drew)); exact HO272.out) (Kd.R_base ho0) hb); have n8_ := Aside0.mk (Kd.R_lower (Kd.R_new' ho0 (Kd.R_lt (by (with_reducible repeat (first | apply Kd.R_alloc | apply Kd.R_drewN | apply Kd.R_drew)); exact HO272.out))) (below_size (by repeat (first | (with_reducible first | exact HB.out | apply below_alloc | apply pw_below_drewN | apply below_drew1 | refine below_set ?_ GE222.out | refine below_set ?_ GE227.out | refine below_set ?_ GE235.out | refine below_set ?_ GE243.out | refine below_set ?_ GE249.out | refine below_set ?_ GE255.out | refine below_set ?_ GE262.out | refine below_set ?_ GE269.out) | exact HB.out)))); have n9_ := Aside0.mk (blk_below (g := gb222) (o := .cells #[.int .i64 a0_0, .slice A0_1 l0_1.length c0_1] 24 (0, 0)) (by (with_reducible repeat (first | refine blk_drewN ?_ _ | refine blk_drew ?_ | refine blk_alloc ?_ _)); exact BK222.out) hb); have n10_ := Aside0.mk (blk_below (g := gb227) (o := .cells #[.int .i64 t223, .slice Ao22 t224.length co22] 24 (0, 0)) (by (with_reducible repeat (first | refine blk_drewN ?_ _ | refine blk_drew ?_ | refine blk_alloc ?_ _)); exact BK227.out) hb); have n11_ := Aside0.mk (blk_below (g := gb235) (o := .cells #[.int .i64 t229, .int .i64 t230, .slice Ao28 t231.length co28] 32 (0, 0)) (by (with_reducible repeat (first | refine blk_drewN ?_ _ | refine blk_drew ?_ | refine blk_alloc ?_ _)); exact BK235.out) hb); have n12_ := Aside0.mk (blk_below (g := gb243) (o := .cells #[.int .i64 t237, .int .i64 t238, .slice Ao36 t239.length co36] 32 (0, 0)) (by (with_reducible repeat (first | refine blk_drewN ?_ _ | refine blk_drew ?_ | refine blk_alloc ?_ _)); exact BK243.out) hb); have n13_ := Aside0.mk (blk_below (g := gb249) (o := .cells #[.int .i64 t244, .slice Ao45 t245.length co45] 24 (0, 0)) (by (with_reducible repeat (first | refine blk_drewN ?_ _ | refine blk_drew ?_ | refine blk_alloc ?_ _)); exact BK249.out) hb); have n14_ := Aside0.mk (blk_below (g := gb255) (o := .cells #[.int .i64 t250, .slice Ao55 t251.length co55] 24 (0, 0)) (by (with_reducible repeat (first | refine blk_drewN ?_ _ | refine blk_drew ?_ | refine blk_alloc ?_ _)); exact BK255.out) hb); have n15_ := Aside0.mk (blk_below (g := gb262) (o := .cells #[.int .i64 t256, .slice Ao66 t257.length co66] 24 (0, 0)) (by (with_reducible repeat (first | refine blk_drewN ?_ _ | refine blk_drew ?_ | refine blk_alloc ?_ _)); exact BK262.out) hb); have n16_ := Aside0.mk (blk_below (g := gb269) (o := .cells #[.int .i64 t263, .slice Ao78 t264.length co78] 24 (0, 0)) (by (with_reducible repeat (first | refine blk_drewN ?_ _ | refine blk_drew ?_ | refine blk_alloc ?_ _)); exact BK269.out) hb); have n17_ := Aside0.mk (below_step (by repeat (first | (with_reducible first | exact HB.out | apply below_alloc | apply pw_below_drewN | apply below_drew1 | refine below_set ?_ GE222.out | refine below_set ?_ GE227.out | refine below_set ?_ GE235.out | refine below_set ?_ GE243.out | refine below_set ?_ GE249.out | refine below_set ?_ GE255.out | refine below_set ?_ GE262.out | refine below_set ?_ GE269.out) | exact HB.out)) hb); clear HO226; clear HO233; clear HO241; clear HO247; clear HO253; clear HO259; clear HO266; clear HO272; clear BK222; clear BK227; clear BK235; clear BK243; clear BK249; clear BK255; clear BK262; clear BK269; clear HB; have HO226 := n0_; have HO233 := n1_; have HO241 := n2_; have HO247 := n3_; have HO253 := n4_; have HO259 := n5_; have HO266 := n6_; have HO272 := n7_; have HO276 := n8_; have BK222 := n9_; have BK227 := n10_; have BK235 := n11_; have BK243 := n12_; have BK249 := n13_; have BK255 := n14_; have BK262 := n15_; have BK269 := n16_; have HB := n17_; clear n0_ n1_ n2_ n3_ n4_ n5_ n6_ n7_ n8_ n9_ n10_ n11_ n12_ n13_ n14_ n15_ n16_ n17_; (try clear hb); (try clear hb2); (try clear hk); (try clear hi); (try clear ho0)))
  (try simp only [Act.put, List.setIfInBounds_toArray, List.set_cons_zero, List.set_cons_succ])
  go_cut [147] (fun v147 wc => ∃ (kq : Nat) (x147_14 : Bool), v147 = .bool x147_14 ∧ Aside0 (waybilllaw22_WindowTells.j0 kq a1 x147_14 a0_0 l0_1 t223 t224 = some r) ∧ Aside0 (kq ≤ k) ∧ Aside0 (Kd.S k32 32 wc w.heap.size (fun k_ => some k_ ≠ ((.slice Ao28 t231.length co28) : Value).ownBlock ∧ some k_ ≠ ((.slice Ao36 t239.length co36) : Value).ownBlock ∧ some k_ ≠ ((.slice Ao45 t245.length co45) : Value).ownBlock ∧ some k_ ≠ ((.slice Ao55 t251.length co55) : Value).ownBlock ∧ some k_ ≠ ((.slice Ao66 t257.length co66) : Value).ownBlock ∧ some k_ ≠ ((.slice Ao78 t264.length co78) : Value).ownBlock ∧ k_ ≠ gb235 ∧ k_ ≠ gb243) (.slice Ao22 t224.length co22) t224) ∧ Aside0 (Kd.R (Kd.int .u8) 5 wc w.heap.size (fun k_ => some k_ ≠ ((.slice Ao36 t239.length co36) : Value).ownBlock) (.slice Ao28 t231.length co28) t231) ∧ Aside0 (Kd.R (Kd.int .u8) 5 wc w.heap.size (fun k_ => some k_ ≠ ((.slice Ao28 t231.length co28) : Value).ownBlock) (.slice Ao36 t239.length co36) t239) ∧ Aside0 (Kd.S k32 32 wc w.heap.size (fun k_ => some k_ ≠ ((.slice Ao22 t224.length co22) : Value).ownBlock ∧ some k_ ≠ ((.slice Ao28 t231.length co28) : Value).ownBlock ∧ some k_ ≠ ((.slice Ao36 t239.length co36) : Value).ownBlock ∧ some k_ ≠ ((.slice Ao55 t251.length co55) : Value).ownBlock ∧ some k_ ≠ ((.slice Ao66 t257.length co66) : Value).ownBlock ∧ some k_ ≠ ((.slice Ao78 t264.length co78) : Value).ownBlock ∧ k_ ≠ gb235 ∧ k_ ≠ gb243) (.slice Ao45 t245.length co45) t245) ∧ Aside0 (Kd.S k32 32 wc w.heap.size (fun k_ => some k_ ≠ ((.slice Ao22 t224.length co22) : Value).ownBlock ∧ some k_ ≠ ((.slice Ao28 t231.length co28) : Value).ownBlock ∧ some k_ ≠ ((.slice Ao36 t239.length co36) : Value).ownBlock ∧ some k_ ≠ ((.slice Ao45 t245.length co45) : Value).ownBlock ∧ some k_ ≠ ((.slice Ao66 t257.length co66) : Value).ownBlock ∧ some k_ ≠ ((.slice Ao78 t264.length co78) : Value).ownBlock ∧ k_ ≠ gb235 ∧ k_ ≠ gb243) (.slice Ao55 t251.length co55) t251) ∧ Aside0 (Kd.S k32 32 wc w.heap.size (fun k_ => some k_ ≠ ((.slice Ao22 t224.length co22) : Value).ownBlock ∧ some k_ ≠ ((.slice Ao28 t231.length co28) : Value).ownBlock ∧ some k_ ≠ ((.slice Ao36 t239.length co36) : Value).ownBlock ∧ some k_ ≠ ((.slice Ao45 t245.length co45) : Value).ownBlock ∧ some k_ ≠ ((.slice Ao55 t251.length co55) : Value).ownBlock ∧ some k_ ≠ ((.slice Ao78 t264.length co78) : Value).ownBlock ∧ k_ ≠ gb235 ∧ k_ ≠ gb243) (.slice Ao66 t257.length co66) t257) ∧ Aside0 (Kd.S k32 32 wc w.heap.size (fun k_ => some k_ ≠ ((.slice Ao22 t224.length co22) : Value).ownBlock ∧ some k_ ≠ ((.slice Ao28 t231.length co28) : Value).ownBlock ∧ some k_ ≠ ((.slice Ao36 t239.length co36) : Value).ownBlock ∧ some k_ ≠ ((.slice Ao45 t245.length co45) : Value).ownBlock ∧ some k_ ≠ ((.slice Ao55 t251.length co55) : Value).ownBlock ∧ some k_ ≠ ((.slice Ao66 t257.length co66) : Value).ownBlock ∧ k_ ≠ gb235 ∧ k_ ≠ gb243) (.slice Ao78 t264.length co78) t264) ∧ Aside0 (wc.heap[gb222]? = some (.cells #[.int .i64 a0_0, (.slice A0_1 l0_1.length c0_1)] 24 (0, 0))) ∧ Aside0 (wc.heap[gb227]? = some (.cells #[.int .i64 t223, (.slice Ao22 t224.length co22)] 24 (0, 0))) ∧ Aside0 (wc.heap[gb235]? = some (.cells #[.int .i64 t229, .int .i64 t230, (.slice Ao28 t231.length co28)] 32 (0, 0))) ∧ Aside0 (wc.heap[gb243]? = some (.cells #[.int .i64 t237, .int .i64 t238, (.slice Ao36 t239.length co36)] 32 (0, 0))) ∧ Aside0 (wc.heap[gb249]? = some (.cells #[.int .i64 t244, (.slice Ao45 t245.length co45)] 24 (0, 0))) ∧ Aside0 (wc.heap[gb255]? = some (.cells #[.int .i64 t250, (.slice Ao55 t251.length co55)] 24 (0, 0))) ∧ Aside0 (wc.heap[gb262]? = some (.cells #[.int .i64 t256, (.slice Ao66 t257.length co66)] 24 (0, 0))) ∧ Aside0 (wc.heap[gb269]? = some (.cells #[.int .i64 t263, (.slice Ao78 t264.length co78)] 24 (0, 0))) ∧ Aside0 (Below w.heap.size w wc))
  case first =>
    have H := HC15.out
    clear HC15
    by_cases c83 : t228 = t236
    · rw [if_pos c83] at H
      have c83b0 : (t228 == t236) = true := beq_iff_eq.mpr c83
      have c83b1 : (t228 != t236) = false := bne_eq_false_iff_eq.mpr c83
      clear c83
      (first | rw [c83b0] | (simp only [i64_w, i32_w]; rw [c83b0]) | skip)
      replace H := Option.bind_eq_some_iff.mp H
      obtain ⟨t278, A840, H⟩ := H
      replace H : (if t278 = true then ((waybilllaw22_num.f t234).bind fun t279 => (if t279 = t242 then ((waybillref22_Same.f t244 t245 t250 t251).bind fun t280 => (if t280 = true then ((waybilllaw22_num.f t248).bind fun t281 => (if t281 = t254 then ((waybillref22_Same.f t256 t257 t263 t264).bind fun t282 => (if t282 = true then (if t260 = t267 then ((waybilllaw22_num.f t261).bind fun t283 => (if t283 = t268 then ((waybillplain_SameInts.f k t270 t274).bind fun t284 => (if t284 = true then ((waybilllaw22_num.f t273).bind fun t285 => (waybilllaw22_WindowTells.j0 k a1 (t285 != t277) a0_0 l0_1 t223 t224)) else (waybilllaw22_WindowTells.j0 k a1 true a0_0 l0_1 t223 t224))) else (waybilllaw22_WindowTells.j0 k a1 true a0_0 l0_1 t223 t224))) else (waybilllaw22_WindowTells.j0 k a1 true a0_0 l0_1 t223 t224)) else (waybilllaw22_WindowTells.j0 k a1 true a0_0 l0_1 t223 t224))) else (waybilllaw22_WindowTells.j0 k a1 true a0_0 l0_1 t223 t224))) else (waybilllaw22_WindowTells.j0 k a1 true a0_0 l0_1 t223 t224))) else (waybilllaw22_WindowTells.j0 k a1 true a0_0 l0_1 t223 t224))) else (waybilllaw22_WindowTells.j0 k a1 true a0_0 l0_1 t223 t224)) = some r := H
      have A84 := Aside0.mk A840
      clear A840
      by_cases c85 : t278 = true
      · subst c85
        have H1 : ((waybilllaw22_num.f t234).bind fun t279 => (if t279 = t242 then ((waybillref22_Same.f t244 t245 t250 t251).bind fun t280 => (if t280 = true then ((waybilllaw22_num.f t248).bind fun t281 => (if t281 = t254 then ((waybillref22_Same.f t256 t257 t263 t264).bind fun t282 => (if t282 = true then (if t260 = t267 then ((waybilllaw22_num.f t261).bind fun t283 => (if t283 = t268 then ((waybillplain_SameInts.f k t270 t274).bind fun t284 => (if t284 = true then ((waybilllaw22_num.f t273).bind fun t285 => (waybilllaw22_WindowTells.j0 k a1 (t285 != t277) a0_0 l0_1 t223 t224)) else (waybilllaw22_WindowTells.j0 k a1 true a0_0 l0_1 t223 t224))) else (waybilllaw22_WindowTells.j0 k a1 true a0_0 l0_1 t223 t224))) else (waybilllaw22_WindowTells.j0 k a1 true a0_0 l0_1 t223 t224)) else (waybilllaw22_WindowTells.j0 k a1 true a0_0 l0_1 t223 t224))) else (waybilllaw22_WindowTells.j0 k a1 true a0_0 l0_1 t223 t224))) else (waybilllaw22_WindowTells.j0 k a1 true a0_0 l0_1 t223 t224))) else (waybilllaw22_WindowTells.j0 k a1 true a0_0 l0_1 t223 t224))) = some r := by rw [if_pos rfl] at H; exact H
        clear H
        have H := H1
        clear H1
        replace H := Option.bind_eq_some_iff.mp H
        obtain ⟨t279, A860, H⟩ := H
        replace H : (if t279 = t242 then ((waybillref22_Same.f t244 t245 t250 t251).bind fun t280 => (if t280 = true then ((waybilllaw22_num.f t248).bind fun t281 => (if t281 = t254 then ((waybillref22_Same.f t256 t257 t263 t264).bind fun t282 => (if t282 = true then (if t260 = t267 then ((waybilllaw22_num.f t261).bind fun t283 => (if t283 = t268 then ((waybillplain_SameInts.f k t270 t274).bind fun t284 => (if t284 = true then ((waybilllaw22_num.f t273).bind fun t285 => (waybilllaw22_WindowTells.j0 k a1 (t285 != t277) a0_0 l0_1 t223 t224)) else (waybilllaw22_WindowTells.j0 k a1 true a0_0 l0_1 t223 t224))) else (waybilllaw22_WindowTells.j0 k a1 true a0_0 l0_1 t223 t224))) else (waybilllaw22_WindowTells.j0 k a1 true a0_0 l0_1 t223 t224)) else (waybilllaw22_WindowTells.j0 k a1 true a0_0 l0_1 t223 t224))) else (waybilllaw22_WindowTells.j0 k a1 true a0_0 l0_1 t223 t224))) else (waybilllaw22_WindowTells.j0 k a1 true a0_0 l0_1 t223 t224))) else (waybilllaw22_WindowTells.j0 k a1 true a0_0 l0_1 t223 t224)) = some r := H
        have A86 := Aside0.mk A860
        clear A860
        by_cases c87 : t279 = t242
        · rw [if_pos c87] at H
          have c87b0 : (t279 == t242) = true := beq_iff_eq.mpr c87
          have c87b1 : (t279 != t242) = false := bne_eq_false_iff_eq.mpr c87
          clear c87
          replace H := Option.bind_eq_some_iff.mp H
          obtain ⟨t280, A880, H⟩ := H
          replace H : (if t280 = true then ((waybilllaw22_num.f t248).bind fun t281 => (if t281 = t254 then ((waybillref22_Same.f t256 t257 t263 t264).bind fun t282 => (if t282 = true then (if t260 = t267 then ((waybilllaw22_num.f t261).bind fun t283 => (if t283 = t268 then ((waybillplain_SameInts.f k t270 t274).bind fun t284 => (if t284 = true then ((waybilllaw22_num.f t273).bind fun t285 => (waybilllaw22_WindowTells.j0 k a1 (t285 != t277) a0_0 l0_1 t223 t224)) else (waybilllaw22_WindowTells.j0 k a1 true a0_0 l0_1 t223 t224))) else (waybilllaw22_WindowTells.j0 k a1 true a0_0 l0_1 t223 t224))) else (waybilllaw22_WindowTells.j0 k a1 true a0_0 l0_1 t223 t224)) else (waybilllaw22_WindowTells.j0 k a1 true a0_0 l0_1 t223 t224))) else (waybilllaw22_WindowTells.j0 k a1 true a0_0 l0_1 t223 t224))) else (waybilllaw22_WindowTells.j0 k a1 true a0_0 l0_1 t223 t224)) = some r := H
          have A88 := Aside0.mk A880
          clear A880
          by_cases c89 : t280 = true
          · subst c89
            have H1 : ((waybilllaw22_num.f t248).bind fun t281 => (if t281 = t254 then ((waybillref22_Same.f t256 t257 t263 t264).bind fun t282 => (if t282 = true then (if t260 = t267 then ((waybilllaw22_num.f t261).bind fun t283 => (if t283 = t268 then ((waybillplain_SameInts.f k t270 t274).bind fun t284 => (if t284 = true then ((waybilllaw22_num.f t273).bind fun t285 => (waybilllaw22_WindowTells.j0 k a1 (t285 != t277) a0_0 l0_1 t223 t224)) else (waybilllaw22_WindowTells.j0 k a1 true a0_0 l0_1 t223 t224))) else (waybilllaw22_WindowTells.j0 k a1 true a0_0 l0_1 t223 t224))) else (waybilllaw22_WindowTells.j0 k a1 true a0_0 l0_1 t223 t224)) else (waybilllaw22_WindowTells.j0 k a1 true a0_0 l0_1 t223 t224))) else (waybilllaw22_WindowTells.j0 k a1 true a0_0 l0_1 t223 t224))) = some r := by rw [if_pos rfl] at H; exact H
            clear H
            have H := H1
            clear H1
            replace H := Option.bind_eq_some_iff.mp H
            obtain ⟨t281, A900, H⟩ := H
            replace H : (if t281 = t254 then ((waybillref22_Same.f t256 t257 t263 t264).bind fun t282 => (if t282 = true then (if t260 = t267 then ((waybilllaw22_num.f t261).bind fun t283 => (if t283 = t268 then ((waybillplain_SameInts.f k t270 t274).bind fun t284 => (if t284 = true then ((waybilllaw22_num.f t273).bind fun t285 => (waybilllaw22_WindowTells.j0 k a1 (t285 != t277) a0_0 l0_1 t223 t224)) else (waybilllaw22_WindowTells.j0 k a1 true a0_0 l0_1 t223 t224))) else (waybilllaw22_WindowTells.j0 k a1 true a0_0 l0_1 t223 t224))) else (waybilllaw22_WindowTells.j0 k a1 true a0_0 l0_1 t223 t224)) else (waybilllaw22_WindowTells.j0 k a1 true a0_0 l0_1 t223 t224))) else (waybilllaw22_WindowTells.j0 k a1 true a0_0 l0_1 t223 t224)) = some r := H
            have A90 := Aside0.mk A900
            clear A900
            by_cases c91 : t281 = t254
            · rw [if_pos c91] at H
              have c91b0 : (t281 == t254) = true := beq_iff_eq.mpr c91
              have c91b1 : (t281 != t254) = false := bne_eq_false_iff_eq.mpr c91
              clear c91
              replace H := Option.bind_eq_some_iff.mp H
              obtain ⟨t282, A920, H⟩ := H
              replace H : (if t282 = true then (if t260 = t267 then ((waybilllaw22_num.f t261).bind fun t283 => (if t283 = t268 then ((waybillplain_SameInts.f k t270 t274).bind fun t284 => (if t284 = true then ((waybilllaw22_num.f t273).bind fun t285 => (waybilllaw22_WindowTells.j0 k a1 (t285 != t277) a0_0 l0_1 t223 t224)) else (waybilllaw22_WindowTells.j0 k a1 true a0_0 l0_1 t223 t224))) else (waybilllaw22_WindowTells.j0 k a1 true a0_0 l0_1 t223 t224))) else (waybilllaw22_WindowTells.j0 k a1 true a0_0 l0_1 t223 t224)) else (waybilllaw22_WindowTells.j0 k a1 true a0_0 l0_1 t223 t224)) = some r := H
              have A92 := Aside0.mk A920
              clear A920
              by_cases c93 : t282 = true
              · subst c93
                have H1 : (if t260 = t267 then ((waybilllaw22_num.f t261).bind fun t283 => (if t283 = t268 then ((waybillplain_SameInts.f k t270 t274).bind fun t284 => (if t284 = true then ((waybilllaw22_num.f t273).bind fun t285 => (waybilllaw22_WindowTells.j0 k a1 (t285 != t277) a0_0 l0_1 t223 t224)) else (waybilllaw22_WindowTells.j0 k a1 true a0_0 l0_1 t223 t224))) else (waybilllaw22_WindowTells.j0 k a1 true a0_0 l0_1 t223 t224))) else (waybilllaw22_WindowTells.j0 k a1 true a0_0 l0_1 t223 t224)) = some r := by rw [if_pos rfl] at H; exact H
                clear H
                have H := H1
                clear H1
                by_cases c94 : t260 = t267
                · rw [if_pos c94] at H
                  have c94b0 : (t260 == t267) = true := beq_iff_eq.mpr c94
                  have c94b1 : (t260 != t267) = false := bne_eq_false_iff_eq.mpr c94
                  clear c94
                  replace H := Option.bind_eq_some_iff.mp H
                  obtain ⟨t283, A950, H⟩ := H
                  replace H : (if t283 = t268 then ((waybillplain_SameInts.f k t270 t274).bind fun t284 => (if t284 = true then ((waybilllaw22_num.f t273).bind fun t285 => (waybilllaw22_WindowTells.j0 k a1 (t285 != t277) a0_0 l0_1 t223 t224)) else (waybilllaw22_WindowTells.j0 k a1 true a0_0 l0_1 t223 t224))) else (waybilllaw22_WindowTells.j0 k a1 true a0_0 l0_1 t223 t224)) = some r := H
                  have A95 := Aside0.mk A950
                  clear A950
                  by_cases c96 : t283 = t268
                  · rw [if_pos c96] at H
                    have c96b0 : (t283 == t268) = true := beq_iff_eq.mpr c96
                    have c96b1 : (t283 != t268) = false := bne_eq_false_iff_eq.mpr c96
                    clear c96
                    replace H := Option.bind_eq_some_iff.mp H
                    obtain ⟨t284, A970, H⟩ := H
                    replace H : (if t284 = true then ((waybilllaw22_num.f t273).bind fun t285 => (waybilllaw22_WindowTells.j0 k a1 (t285 != t277) a0_0 l0_1 t223 t224)) else (waybilllaw22_WindowTells.j0 k a1 true a0_0 l0_1 t223 t224)) = some r := H
                    have A97 := Aside0.mk A970
                    clear A970
                    by_cases c98 : t284 = true
                    · subst c98
                      have H1 : ((waybilllaw22_num.f t273).bind fun t285 => (waybilllaw22_WindowTells.j0 k a1 (t285 != t277) a0_0 l0_1 t223 t224)) = some r := by rw [if_pos rfl] at H; exact H
                      clear H
                      have H := H1
                      clear H1
                      replace H := Option.bind_eq_some_iff.mp H
                      obtain ⟨t285, A990, H⟩ := H
                      replace H : (waybilllaw22_WindowTells.j0 k a1 (t285 != t277) a0_0 l0_1 t223 t224) = some r := H
                      have A99 := Aside0.mk A990
                      clear A990
                      have H' := Aside0.mk H
                      clear H
                      have hnb100 := NB235_222.out
                      have hnc100 := NB222_235.out
                      have hnb101 := NB235_227.out
                      have hnc101 := NB227_235.out
                      have hnb102 := NB235_243.out
                      have hnc102 := NB243_235.out
                      have hnb103 := NB235_249.out
                      have hnc103 := NB249_235.out
                      have hnb104 := NB235_255.out
                      have hnc104 := NB255_235.out
                      have hnb105 := NB235_262.out
                      have hnc105 := NB262_235.out
                      have hnb106 := NB235_269.out
                      have hnc106 := NB269_235.out
                      have hcz107_0 : w82.cell? ⟨gb235, 0, none⟩ = some (.int .i64 t229) := (blk_cell BK235.out 0).trans rfl
                      have hcz107_1 : w82.cell? ⟨gb235, 1, none⟩ = some (.int .i64 t230) := (blk_cell BK235.out 1).trans rfl
                      have hcz107_2 : w82.cell? ⟨gb235, 2, none⟩ = some (.slice Ao28 t231.length co28) := (blk_cell BK235.out 2).trans rfl
                      have hfz107_0 := blk_frozen BK235.out 0
                      have hfz107_1 := blk_frozen BK235.out 1
                      have hfz107_2 := blk_frozen BK235.out 2
                      have hnb108 := NB243_222.out
                      have hnc108 := NB222_243.out
                      have hnb109 := NB243_227.out
                      have hnc109 := NB227_243.out
                      have hnb110 := NB243_249.out
                      have hnc110 := NB249_243.out
                      have hnb111 := NB243_255.out
                      have hnc111 := NB255_243.out
                      have hnb112 := NB243_262.out
                      have hnc112 := NB262_243.out
                      have hnb113 := NB243_269.out
                      have hnc113 := NB269_243.out
                      have hcz114_0 : w82.cell? ⟨gb243, 0, none⟩ = some (.int .i64 t237) := (blk_cell BK243.out 0).trans rfl
                      have hcz114_1 : w82.cell? ⟨gb243, 1, none⟩ = some (.int .i64 t238) := (blk_cell BK243.out 1).trans rfl
                      have hcz114_2 : w82.cell? ⟨gb243, 2, none⟩ = some (.slice Ao36 t239.length co36) := (blk_cell BK243.out 2).trans rfl
                      have hfz114_0 := blk_frozen BK243.out 0
                      have hfz114_1 := blk_frozen BK243.out 1
                      have hfz114_2 := blk_frozen BK243.out 2
                      go_wp2_with (first | (go_at_call 15; (with_reducible refine (waybilllaw22_same.calls t229 t230 _ _ t231 t237 t238 _ _ t239 true _ ?side1 ?side2 ?side3 ?side4 A84.out).mono ?_); (case side1 => repeat (first | exact (Kd.R_reads' HO233.out).2.2 | (with_reducible refine Kd.C_alloc ?_ _) | (with_reducible refine Kd.C_drewN ?_ _) | (with_reducible refine Kd.C_drew ?_))); (case side2 => exact (Kd.R_reads' HO233.out).2.1); (case side3 => repeat (first | exact (Kd.R_reads' HO241.out).2.2 | (with_reducible refine Kd.C_alloc ?_ _) | (with_reducible refine Kd.C_drewN ?_ _) | (with_reducible refine Kd.C_drew ?_))); (case side4 => exact (Kd.R_reads' HO241.out).2.1); rintro e w115 ⟨rfl, hb⟩; have n0_ := Aside0.mk (Kd.S_below (by (with_reducible repeat (first | apply Kd.S_alloc | apply Kd.S_drewN | apply Kd.S_drew)); exact HO226.out) hb); have n1_ := Aside0.mk (Kd.R_below (by (with_reducible repeat (first | apply Kd.R_alloc | apply Kd.R_drewN | apply Kd.R_drew)); exact HO233.out) hb); have n2_ := Aside0.mk (Kd.R_below (by (with_reducible repeat (first | apply Kd.R_alloc | apply Kd.R_drewN | apply Kd.R_drew)); exact HO241.out) hb); have n3_ := Aside0.mk (Kd.S_below (by (with_reducible repeat (first | apply Kd.S_alloc | apply Kd.S_drewN | apply Kd.S_drew)); exact HO247.out) hb); have n4_ := Aside0.mk (Kd.S_below (by (with_reducible repeat (first | apply Kd.S_alloc | apply Kd.S_drewN | apply Kd.S_drew)); exact HO253.out) hb); have n5_ := Aside0.mk (Kd.S_below (by (with_reducible repeat (first | apply Kd.S_alloc | apply Kd.S_drewN | apply Kd.S_drew)); exact HO259.out) hb); have n6_ := Aside0.mk (Kd.S_below (by (with_reducible repeat (first | apply Kd.S_alloc | apply Kd.S_drewN | apply Kd.S_drew)); exact HO266.out) hb); have n7_ := Aside0.mk (Kd.R_below (by (with_reducible repeat (first | apply Kd.R_alloc | apply Kd.R_drewN | apply Kd.R_drew)); exact HO272.out) hb); have n8_ := Aside0.mk (Kd.R_below (by (with_reducible repeat (first | apply Kd.R_alloc | apply Kd.R_drewN | apply Kd.R_drew)); exact HO276.out) hb); have n9_ := Aside0.mk (blk_below (g := gb222) (o := .cells #[.int .i64 a0_0, .slice A0_1 l0_1.length c0_1] 24 (0, 0)) (by (with_reducible repeat (first | refine blk_drewN ?_ _ | refine blk_drew ?_ | refine blk_alloc ?_ _)); exact BK222.out) hb); have n10_ := Aside0.mk (blk_below (g := gb227) (o := .cells #[.int .i64 t223, .slice Ao22 t224.length co22] 24 (0, 0)) (by (with_reducible repeat (first | refine blk_drewN ?_ _ | refine blk_drew ?_ | refine blk_alloc ?_ _)); exact BK227.out) hb); have n11_ := Aside0.mk (blk_below (g := gb235) (o := .cells #[.int .i64 t229, .int .i64 t230, .slice Ao28 t231.length co28] 32 (0, 0)) (by (with_reducible repeat (first | refine blk_drewN ?_ _ | refine blk_drew ?_ | refine blk_alloc ?_ _)); exact BK235.out) hb); have n12_ := Aside0.mk (blk_below (g := gb243) (o := .cells #[.int .i64 t237, .int .i64 t238, .slice Ao36 t239.length co36] 32 (0, 0)) (by (with_reducible repeat (first | refine blk_drewN ?_ _ | refine blk_drew ?_ | refine blk_alloc ?_ _)); exact BK243.out) hb); have n13_ := Aside0.mk (blk_below (g := gb249) (o := .cells #[.int .i64 t244, .slice Ao45 t245.length co45] 24 (0, 0)) (by (with_reducible repeat (first | refine blk_drewN ?_ _ | refine blk_drew ?_ | refine blk_alloc ?_ _)); exact BK249.out) hb); have n14_ := Aside0.mk (blk_below (g := gb255) (o := .cells #[.int .i64 t250, .slice Ao55 t251.length co55] 24 (0, 0)) (by (with_reducible repeat (first | refine blk_drewN ?_ _ | refine blk_drew ?_ | refine blk_alloc ?_ _)); exact BK255.out) hb); have n15_ := Aside0.mk (blk_below (g := gb262) (o := .cells #[.int .i64 t256, .slice Ao66 t257.length co66] 24 (0, 0)) (by (with_reducible repeat (first | refine blk_drewN ?_ _ | refine blk_drew ?_ | refine blk_alloc ?_ _)); exact BK262.out) hb); have n16_ := Aside0.mk (blk_below (g := gb269) (o := .cells #[.int .i64 t263, .slice Ao78 t264.length co78] 24 (0, 0)) (by (with_reducible repeat (first | refine blk_drewN ?_ _ | refine blk_drew ?_ | refine blk_alloc ?_ _)); exact BK269.out) hb); have n17_ := Aside0.mk (below_step (by repeat (first | (with_reducible first | exact HB.out | apply below_alloc | apply pw_below_drewN | apply below_drew1 | refine below_set ?_ GE222.out | refine below_set ?_ GE227.out | refine below_set ?_ GE235.out | refine below_set ?_ GE243.out | refine below_set ?_ GE249.out | refine below_set ?_ GE255.out | refine below_set ?_ GE262.out | refine below_set ?_ GE269.out) | exact HB.out)) hb); clear HO226; clear HO233; clear HO241; clear HO247; clear HO253; clear HO259; clear HO266; clear HO272; clear HO276; clear BK222; clear BK227; clear BK235; clear BK243; clear BK249; clear BK255; clear BK262; clear BK269; clear HB; have HO226 := n0_; have HO233 := n1_; have HO241 := n2_; have HO247 := n3_; have HO253 := n4_; have HO259 := n5_; have HO266 := n6_; have HO272 := n7_; have HO276 := n8_; have BK222 := n9_; have BK227 := n10_; have BK235 := n11_; have BK243 := n12_; have BK249 := n13_; have BK255 := n14_; have BK262 := n15_; have BK269 := n16_; have HB := n17_; clear n0_ n1_ n2_ n3_ n4_ n5_ n6_ n7_ n8_ n9_ n10_ n11_ n12_ n13_ n14_ n15_ n16_ n17_; (try clear hb); (try clear hb2); (try clear hk); (try clear hi)) | (go_at_call 12; (with_reducible refine (waybilllaw22_num.calls t234 t279 _ A86.out).mono ?_); rintro e w' ⟨rfl, ⟨nd, rfl⟩⟩; have hnb116 := NB249_222.out; have hnc116 := NB222_249.out; have hnb117 := NB249_227.out; have hnc117 := NB227_249.out; have hnb118 := NB249_255.out; have hnc118 := NB255_249.out; have hnb119 := NB249_262.out; have hnc119 := NB262_249.out; have hnb120 := NB249_269.out; have hnc120 := NB269_249.out; have hcz121_0 : w115.cell? ⟨gb249, 0, none⟩ = some (.int .i64 t244) := (blk_cell BK249.out 0).trans rfl; have hcz121_1 : w115.cell? ⟨gb249, 1, none⟩ = some (.slice Ao45 t245.length co45) := (blk_cell BK249.out 1).trans rfl; have hfz121_0 := blk_frozen BK249.out 0; have hfz121_1 := blk_frozen BK249.out 1; have hnb122 := NB255_222.out; have hnc122 := NB222_255.out; have hnb123 := NB255_227.out; have hnc123 := NB227_255.out; have hnb124 := NB255_262.out; have hnc124 := NB262_255.out; have hnb125 := NB255_269.out; have hnc125 := NB269_255.out; have hcz126_0 : w115.cell? ⟨gb255, 0, none⟩ = some (.int .i64 t250) := (blk_cell BK255.out 0).trans rfl; have hcz126_1 : w115.cell? ⟨gb255, 1, none⟩ = some (.slice Ao55 t251.length co55) := (blk_cell BK255.out 1).trans rfl; have hfz126_0 := blk_frozen BK255.out 0; have hfz126_1 := blk_frozen BK255.out 1) | (go_at_call 21; (with_reducible refine (waybillref22_Same.calls t244 _ _ t245 t250 _ _ t251 true _ ?side1 ?side2 ?side3 ?side4 A88.out).mono ?_); (case side1 => repeat (first | exact (Kd.S_reads' HO247.out).2.2 | (with_reducible refine Kd.C_alloc ?_ _) | (with_reducible refine Kd.C_drewN ?_ _) | (with_reducible refine Kd.C_drew ?_))); (case side2 => exact (Kd.S_reads' HO247.out).2.1); (case side3 => repeat (first | exact (Kd.S_reads' HO253.out).2.2 | (with_reducible refine Kd.C_alloc ?_ _) | (with_reducible refine Kd.C_drewN ?_ _) | (with_reducible refine Kd.C_drew ?_))); (case side4 => exact (Kd.S_reads' HO253.out).2.1); rintro e w127 ⟨rfl, hb⟩; have n0_ := Aside0.mk (Kd.S_below (by (with_reducible repeat (first | apply Kd.S_alloc | apply Kd.S_drewN | apply Kd.S_drew)); exact HO226.out) hb); have n1_ := Aside0.mk (Kd.R_below (by (with_reducible repeat (first | apply Kd.R_alloc | apply Kd.R_drewN | apply Kd.R_drew)); exact HO233.out) hb); have n2_ := Aside0.mk (Kd.R_below (by (with_reducible repeat (first | apply Kd.R_alloc | apply Kd.R_drewN | apply Kd.R_drew)); exact HO241.out) hb); have n3_ := Aside0.mk (Kd.S_below (by (with_reducible repeat (first | apply Kd.S_alloc | apply Kd.S_drewN | apply Kd.S_drew)); exact HO247.out) hb); have n4_ := Aside0.mk (Kd.S_below (by (with_reducible repeat (first | apply Kd.S_alloc | apply Kd.S_drewN | apply Kd.S_drew)); exact HO253.out) hb); have n5_ := Aside0.mk (Kd.S_below (by (with_reducible repeat (first | apply Kd.S_alloc | apply Kd.S_drewN | apply Kd.S_drew)); exact HO259.out) hb); have n6_ := Aside0.mk (Kd.S_below (by (with_reducible repeat (first | apply Kd.S_alloc | apply Kd.S_drewN | apply Kd.S_drew)); exact HO266.out) hb); have n7_ := Aside0.mk (Kd.R_below (by (with_reducible repeat (first | apply Kd.R_alloc | apply Kd.R_drewN | apply Kd.R_drew)); exact HO272.out) hb); have n8_ := Aside0.mk (Kd.R_below (by (with_reducible repeat (first | apply Kd.R_alloc | apply Kd.R_drewN | apply Kd.R_drew)); exact HO276.out) hb); have n9_ := Aside0.mk (blk_below (g := gb222) (o := .cells #[.int .i64 a0_0, .slice A0_1 l0_1.length c0_1] 24 (0, 0)) (by (with_reducible repeat (first | refine blk_drewN ?_ _ | refine blk_drew ?_ | refine blk_alloc ?_ _)); exact BK222.out) hb); have n10_ := Aside0.mk (blk_below (g := gb227) (o := .cells #[.int .i64 t223, .slice Ao22 t224.length co22] 24 (0, 0)) (by (with_reducible repeat (first | refine blk_drewN ?_ _ | refine blk_drew ?_ | refine blk_alloc ?_ _)); exact BK227.out) hb); have n11_ := Aside0.mk (blk_below (g := gb235) (o := .cells #[.int .i64 t229, .int .i64 t230, .slice Ao28 t231.length co28] 32 (0, 0)) (by (with_reducible repeat (first | refine blk_drewN ?_ _ | refine blk_drew ?_ | refine blk_alloc ?_ _)); exact BK235.out) hb); have n12_ := Aside0.mk (blk_below (g := gb243) (o := .cells #[.int .i64 t237, .int .i64 t238, .slice Ao36 t239.length co36] 32 (0, 0)) (by (with_reducible repeat (first | refine blk_drewN ?_ _ | refine blk_drew ?_ | refine blk_alloc ?_ _)); exact BK243.out) hb); have n13_ := Aside0.mk (blk_below (g := gb249) (o := .cells #[.int .i64 t244, .slice Ao45 t245.length co45] 24 (0, 0)) (by (with_reducible repeat (first | refine blk_drewN ?_ _ | refine blk_drew ?_ | refine blk_alloc ?_ _)); exact BK249.out) hb); have n14_ := Aside0.mk (blk_below (g := gb255) (o := .cells #[.int .i64 t250, .slice Ao55 t251.length co55] 24 (0, 0)) (by (with_reducible repeat (first | refine blk_drewN ?_ _ | refine blk_drew ?_ | refine blk_alloc ?_ _)); exact BK255.out) hb); have n15_ := Aside0.mk (blk_below (g := gb262) (o := .cells #[.int .i64 t256, .slice Ao66 t257.length co66] 24 (0, 0)) (by (with_reducible repeat (first | refine blk_drewN ?_ _ | refine blk_drew ?_ | refine blk_alloc ?_ _)); exact BK262.out) hb); have n16_ := Aside0.mk (blk_below (g := gb269) (o := .cells #[.int .i64 t263, .slice Ao78 t264.length co78] 24 (0, 0)) (by (with_reducible repeat (first | refine blk_drewN ?_ _ | refine blk_drew ?_ | refine blk_alloc ?_ _)); exact BK269.out) hb); have n17_ := Aside0.mk (below_step (by repeat (first | (with_reducible first | exact HB.out | apply below_alloc | apply pw_below_drewN | apply below_drew1 | refine below_set ?_ GE222.out | refine below_set ?_ GE227.out | refine below_set ?_ GE235.out | refine below_set ?_ GE243.out | refine below_set ?_ GE249.out | refine below_set ?_ GE255.out | refine below_set ?_ GE262.out | refine below_set ?_ GE269.out) | exact HB.out)) hb); clear HO226; clear HO233; clear HO241; clear HO247; clear HO253; clear HO259; clear HO266; clear HO272; clear HO276; clear BK222; clear BK227; clear BK235; clear BK243; clear BK249; clear BK255; clear BK262; clear BK269; clear HB; have HO226 := n0_; have HO233 := n1_; have HO241 := n2_; have HO247 := n3_; have HO253 := n4_; have HO259 := n5_; have HO266 := n6_; have HO272 := n7_; have HO276 := n8_; have BK222 := n9_; have BK227 := n10_; have BK235 := n11_; have BK243 := n12_; have BK249 := n13_; have BK255 := n14_; have BK262 := n15_; have BK269 := n16_; have HB := n17_; clear n0_ n1_ n2_ n3_ n4_ n5_ n6_ n7_ n8_ n9_ n10_ n11_ n12_ n13_ n14_ n15_ n16_ n17_; (try clear hb); (try clear hb2); (try clear hk); (try clear hi)) | (go_at_call 12; (with_reducible refine (waybilllaw22_num.calls t248 t281 _ A90.out).mono ?_); rintro e w' ⟨rfl, ⟨nd, rfl⟩⟩; have hnb128 := NB262_222.out; have hnc128 := NB222_262.out; have hnb129 := NB262_227.out; have hnc129 := NB227_262.out; have hnb130 := NB262_269.out; have hnc130 := NB269_262.out; have hcz131_0 : w127.cell? ⟨gb262, 0, none⟩ = some (.int .i64 t256) := (blk_cell BK262.out 0).trans rfl; have hcz131_1 : w127.cell? ⟨gb262, 1, none⟩ = some (.slice Ao66 t257.length co66) := (blk_cell BK262.out 1).trans rfl; have hfz131_0 := blk_frozen BK262.out 0; have hfz131_1 := blk_frozen BK262.out 1; have hnb132 := NB269_222.out; have hnc132 := NB222_269.out; have hnb133 := NB269_227.out; have hnc133 := NB227_269.out; have hcz134_0 : w127.cell? ⟨gb269, 0, none⟩ = some (.int .i64 t263) := (blk_cell BK269.out 0).trans rfl; have hcz134_1 : w127.cell? ⟨gb269, 1, none⟩ = some (.slice Ao78 t264.length co78) := (blk_cell BK269.out 1).trans rfl; have hfz134_0 := blk_frozen BK269.out 0; have hfz134_1 := blk_frozen BK269.out 1) | (go_at_call 21; (with_reducible refine (waybillref22_Same.calls t256 _ _ t257 t263 _ _ t264 true _ ?side1 ?side2 ?side3 ?side4 A92.out).mono ?_); (case side1 => repeat (first | exact (Kd.S_reads' HO259.out).2.2 | (with_reducible refine Kd.C_alloc ?_ _) | (with_reducible refine Kd.C_drewN ?_ _) | (with_reducible refine Kd.C_drew ?_))); (case side2 => exact (Kd.S_reads' HO259.out).2.1); (case side3 => repeat (first | exact (Kd.S_reads' HO266.out).2.2 | (with_reducible refine Kd.C_alloc ?_ _) | (with_reducible refine Kd.C_drewN ?_ _) | (with_reducible refine Kd.C_drew ?_))); (case side4 => exact (Kd.S_reads' HO266.out).2.1); rintro e w135 ⟨rfl, hb⟩; have n0_ := Aside0.mk (Kd.S_below (by (with_reducible repeat (first | apply Kd.S_alloc | apply Kd.S_drewN | apply Kd.S_drew)); exact HO226.out) hb); have n1_ := Aside0.mk (Kd.R_below (by (with_reducible repeat (first | apply Kd.R_alloc | apply Kd.R_drewN | apply Kd.R_drew)); exact HO233.out) hb); have n2_ := Aside0.mk (Kd.R_below (by (with_reducible repeat (first | apply Kd.R_alloc | apply Kd.R_drewN | apply Kd.R_drew)); exact HO241.out) hb); have n3_ := Aside0.mk (Kd.S_below (by (with_reducible repeat (first | apply Kd.S_alloc | apply Kd.S_drewN | apply Kd.S_drew)); exact HO247.out) hb); have n4_ := Aside0.mk (Kd.S_below (by (with_reducible repeat (first | apply Kd.S_alloc | apply Kd.S_drewN | apply Kd.S_drew)); exact HO253.out) hb); have n5_ := Aside0.mk (Kd.S_below (by (with_reducible repeat (first | apply Kd.S_alloc | apply Kd.S_drewN | apply Kd.S_drew)); exact HO259.out) hb); have n6_ := Aside0.mk (Kd.S_below (by (with_reducible repeat (first | apply Kd.S_alloc | apply Kd.S_drewN | apply Kd.S_drew)); exact HO266.out) hb); have n7_ := Aside0.mk (Kd.R_below (by (with_reducible repeat (first | apply Kd.R_alloc | apply Kd.R_drewN | apply Kd.R_drew)); exact HO272.out) hb); have n8_ := Aside0.mk (Kd.R_below (by (with_reducible repeat (first | apply Kd.R_alloc | apply Kd.R_drewN | apply Kd.R_drew)); exact HO276.out) hb); have n9_ := Aside0.mk (blk_below (g := gb222) (o := .cells #[.int .i64 a0_0, .slice A0_1 l0_1.length c0_1] 24 (0, 0)) (by (with_reducible repeat (first | refine blk_drewN ?_ _ | refine blk_drew ?_ | refine blk_alloc ?_ _)); exact BK222.out) hb); have n10_ := Aside0.mk (blk_below (g := gb227) (o := .cells #[.int .i64 t223, .slice Ao22 t224.length co22] 24 (0, 0)) (by (with_reducible repeat (first | refine blk_drewN ?_ _ | refine blk_drew ?_ | refine blk_alloc ?_ _)); exact BK227.out) hb); have n11_ := Aside0.mk (blk_below (g := gb235) (o := .cells #[.int .i64 t229, .int .i64 t230, .slice Ao28 t231.length co28] 32 (0, 0)) (by (with_reducible repeat (first | refine blk_drewN ?_ _ | refine blk_drew ?_ | refine blk_alloc ?_ _)); exact BK235.out) hb); have n12_ := Aside0.mk (blk_below (g := gb243) (o := .cells #[.int .i64 t237, .int .i64 t238, .slice Ao36 t239.length co36] 32 (0, 0)) (by (with_reducible repeat (first | refine blk_drewN ?_ _ | refine blk_drew ?_ | refine blk_alloc ?_ _)); exact BK243.out) hb); have n13_ := Aside0.mk (blk_below (g := gb249) (o := .cells #[.int .i64 t244, .slice Ao45 t245.length co45] 24 (0, 0)) (by (with_reducible repeat (first | refine blk_drewN ?_ _ | refine blk_drew ?_ | refine blk_alloc ?_ _)); exact BK249.out) hb); have n14_ := Aside0.mk (blk_below (g := gb255) (o := .cells #[.int .i64 t250, .slice Ao55 t251.length co55] 24 (0, 0)) (by (with_reducible repeat (first | refine blk_drewN ?_ _ | refine blk_drew ?_ | refine blk_alloc ?_ _)); exact BK255.out) hb); have n15_ := Aside0.mk (blk_below (g := gb262) (o := .cells #[.int .i64 t256, .slice Ao66 t257.length co66] 24 (0, 0)) (by (with_reducible repeat (first | refine blk_drewN ?_ _ | refine blk_drew ?_ | refine blk_alloc ?_ _)); exact BK262.out) hb); have n16_ := Aside0.mk (blk_below (g := gb269) (o := .cells #[.int .i64 t263, .slice Ao78 t264.length co78] 24 (0, 0)) (by (with_reducible repeat (first | refine blk_drewN ?_ _ | refine blk_drew ?_ | refine blk_alloc ?_ _)); exact BK269.out) hb); have n17_ := Aside0.mk (below_step (by repeat (first | (with_reducible first | exact HB.out | apply below_alloc | apply pw_below_drewN | apply below_drew1 | refine below_set ?_ GE222.out | refine below_set ?_ GE227.out | refine below_set ?_ GE235.out | refine below_set ?_ GE243.out | refine below_set ?_ GE249.out | refine below_set ?_ GE255.out | refine below_set ?_ GE262.out | refine below_set ?_ GE269.out) | exact HB.out)) hb); clear HO226; clear HO233; clear HO241; clear HO247; clear HO253; clear HO259; clear HO266; clear HO272; clear HO276; clear BK222; clear BK227; clear BK235; clear BK243; clear BK249; clear BK255; clear BK262; clear BK269; clear HB; have HO226 := n0_; have HO233 := n1_; have HO241 := n2_; have HO247 := n3_; have HO253 := n4_; have HO259 := n5_; have HO266 := n6_; have HO272 := n7_; have HO276 := n8_; have BK222 := n9_; have BK227 := n10_; have BK235 := n11_; have BK243 := n12_; have BK249 := n13_; have BK255 := n14_; have BK262 := n15_; have BK269 := n16_; have HB := n17_; clear n0_ n1_ n2_ n3_ n4_ n5_ n6_ n7_ n8_ n9_ n10_ n11_ n12_ n13_ n14_ n15_ n16_ n17_; (try clear hb); (try clear hb2); (try clear hk); (try clear hi)) | (go_at_call 12; (with_reducible refine (waybilllaw22_num.calls t261 t283 _ A95.out).mono ?_); rintro e w' ⟨rfl, ⟨nd, rfl⟩⟩; obtain ⟨Ao136, co136, eo136⟩ := Kd.R_slice HO272.out; subst eo136; obtain ⟨Ao137, co137, eo137⟩ := Kd.R_slice HO276.out; subst eo137) | (go_at_call 25; (with_reducible refine (waybillplain_SameInts.calls k _ _ t270 _ _ t274 true _ ?side1 ?side2 ?side3 ?side4 A97.out).mono ?_); (case side1 => repeat (first | exact (Kd.R_reads' HO272.out).2.2 | (with_reducible refine Kd.C_alloc ?_ _) | (with_reducible refine Kd.C_drewN ?_ _) | (with_reducible refine Kd.C_drew ?_))); (case side2 => exact (Kd.R_reads' HO272.out).2.1); (case side3 => repeat (first | exact (Kd.R_reads' HO276.out).2.2 | (with_reducible refine Kd.C_alloc ?_ _) | (with_reducible refine Kd.C_drewN ?_ _) | (with_reducible refine Kd.C_drew ?_))); (case side4 => exact (Kd.R_reads' HO276.out).2.1); rintro e w' ⟨rfl, ⟨nd, rfl⟩⟩) | (go_at_call 12; (with_reducible refine (waybilllaw22_num.calls t273 t285 _ A99.out).mono ?_); rintro e w' ⟨rfl, ⟨nd, rfl⟩⟩))
                      go_meet
                      case rel => exact ⟨_, ((t285 != t277)), (by first | rfl | (simp; done) | (simp [*]; done)), H', ⟨by first | omega | exact Nat.le_refl _⟩, ⟨by (with_reducible repeat (first | apply Kd.S_alloc | apply Kd.S_drewN | apply Kd.S_drew)); exact Kd.S_mono HO226.out (fun _ hk => ⟨hk.1.1.1.1.1.1.1.2, ⟨hk.1.1.1.1.1.2, ⟨hk.1.1.1.2, ⟨hk.1.1.2, ⟨hk.1.2, ⟨hk.2, ⟨hk.1.1.1.1.1.1.2, hk.1.1.1.1.2⟩⟩⟩⟩⟩⟩⟩)⟩, ⟨by (with_reducible repeat (first | apply Kd.R_alloc | apply Kd.R_drewN | apply Kd.R_drew)); exact Kd.R_mono HO233.out (fun _ hk => hk.2)⟩, ⟨by (with_reducible repeat (first | apply Kd.R_alloc | apply Kd.R_drewN | apply Kd.R_drew)); exact Kd.R_mono HO241.out (fun _ hk => hk.2)⟩, ⟨by (with_reducible repeat (first | apply Kd.S_alloc | apply Kd.S_drewN | apply Kd.S_drew)); exact Kd.S_mono HO247.out (fun _ hk => ⟨hk.1.1.1.1.1.1.1.2, ⟨hk.1.1.1.1.1.1.2, ⟨hk.1.1.1.1.1.2, ⟨hk.1.1.2, ⟨hk.1.2, ⟨hk.2, ⟨hk.1.1.1.1.2, hk.1.1.1.2⟩⟩⟩⟩⟩⟩⟩)⟩, ⟨by (with_reducible repeat (first | apply Kd.S_alloc | apply Kd.S_drewN | apply Kd.S_drew)); exact Kd.S_mono HO253.out (fun _ hk => ⟨hk.1.1.1.1.1.1.1.2, ⟨hk.1.1.1.1.1.1.2, ⟨hk.1.1.1.1.1.2, ⟨hk.1.1.1.1.2, ⟨hk.1.2, ⟨hk.2, ⟨hk.1.1.1.2, hk.1.1.2⟩⟩⟩⟩⟩⟩⟩)⟩, ⟨by (with_reducible repeat (first | apply Kd.S_alloc | apply Kd.S_drewN | apply Kd.S_drew)); exact Kd.S_mono HO259.out (fun _ hk => ⟨hk.1.1.1.1.1.1.1.2, ⟨hk.1.1.1.1.1.1.2, ⟨hk.1.1.1.1.1.2, ⟨hk.1.1.1.1.2, ⟨hk.1.1.1.2, ⟨hk.2, ⟨hk.1.1.2, hk.1.2⟩⟩⟩⟩⟩⟩⟩)⟩, ⟨by (with_reducible repeat (first | apply Kd.S_alloc | apply Kd.S_drewN | apply Kd.S_drew)); exact Kd.S_mono HO266.out (fun _ hk => ⟨hk.1.1.1.1.1.1.1.2, ⟨hk.1.1.1.1.1.1.2, ⟨hk.1.1.1.1.1.2, ⟨hk.1.1.1.1.2, ⟨hk.1.1.1.2, ⟨hk.1.1.2, ⟨hk.1.2, hk.2⟩⟩⟩⟩⟩⟩⟩)⟩, ⟨by (with_reducible repeat (first | refine blk_drewN ?_ _ | refine blk_drew ?_ | refine blk_alloc ?_ _)); exact BK222.out⟩, ⟨by (with_reducible repeat (first | refine blk_drewN ?_ _ | refine blk_drew ?_ | refine blk_alloc ?_ _)); exact BK227.out⟩, ⟨by (with_reducible repeat (first | refine blk_drewN ?_ _ | refine blk_drew ?_ | refine blk_alloc ?_ _)); exact BK235.out⟩, ⟨by (with_reducible repeat (first | refine blk_drewN ?_ _ | refine blk_drew ?_ | refine blk_alloc ?_ _)); exact BK243.out⟩, ⟨by (with_reducible repeat (first | refine blk_drewN ?_ _ | refine blk_drew ?_ | refine blk_alloc ?_ _)); exact BK249.out⟩, ⟨by (with_reducible repeat (first | refine blk_drewN ?_ _ | refine blk_drew ?_ | refine blk_alloc ?_ _)); exact BK255.out⟩, ⟨by (with_reducible repeat (first | refine blk_drewN ?_ _ | refine blk_drew ?_ | refine blk_alloc ?_ _)); exact BK262.out⟩, ⟨by (with_reducible repeat (first | refine blk_drewN ?_ _ | refine blk_drew ?_ | refine blk_alloc ?_ _)); exact BK269.out⟩, ⟨by repeat (first | (with_reducible first | exact HB.out | apply below_alloc | apply pw_below_drewN | apply below_drew1 | refine below_set ?_ GE222.out | refine below_set ?_ GE227.out | refine below_set ?_ GE235.out | refine below_set ?_ GE243.out | refine below_set ?_ GE249.out | refine below_set ?_ GE255.out | refine below_set ?_ GE262.out | refine below_set ?_ GE269.out) | exact HB.out)⟩⟩
                    · replace c98 := Bool.eq_false_iff.mpr c98
                      subst c98
                      have H1 : (waybilllaw22_WindowTells.j0 k a1 true a0_0 l0_1 t223 t224) = some r := by rw [if_neg (show ¬ (false = true) by decide)] at H; exact H
                      clear H
                      have H := H1
                      clear H1
                      exact (waybilllaw22_WindowTells.j0_no _ _ _ _ _ _ (hrt ▸ H)).elim
                  · rw [if_neg c96] at H
                    have c96b0 : (t283 == t268) = false := beq_eq_false_iff_ne.mpr c96
                    have c96b1 : (t283 != t268) = true := bne_iff_ne.mpr c96
                    exact (waybilllaw22_WindowTells.j0_no _ _ _ _ _ _ (hrt ▸ H)).elim
                · rw [if_neg c94] at H
                  have c94b0 : (t260 == t267) = false := beq_eq_false_iff_ne.mpr c94
                  have c94b1 : (t260 != t267) = true := bne_iff_ne.mpr c94
                  exact (waybilllaw22_WindowTells.j0_no _ _ _ _ _ _ (hrt ▸ H)).elim
              · replace c93 := Bool.eq_false_iff.mpr c93
                subst c93
                have H1 : (waybilllaw22_WindowTells.j0 k a1 true a0_0 l0_1 t223 t224) = some r := by rw [if_neg (show ¬ (false = true) by decide)] at H; exact H
                clear H
                have H := H1
                clear H1
                exact (waybilllaw22_WindowTells.j0_no _ _ _ _ _ _ (hrt ▸ H)).elim
            · rw [if_neg c91] at H
              have c91b0 : (t281 == t254) = false := beq_eq_false_iff_ne.mpr c91
              have c91b1 : (t281 != t254) = true := bne_iff_ne.mpr c91
              exact (waybilllaw22_WindowTells.j0_no _ _ _ _ _ _ (hrt ▸ H)).elim
          · replace c89 := Bool.eq_false_iff.mpr c89
            subst c89
            have H1 : (waybilllaw22_WindowTells.j0 k a1 true a0_0 l0_1 t223 t224) = some r := by rw [if_neg (show ¬ (false = true) by decide)] at H; exact H
            clear H
            have H := H1
            clear H1
            exact (waybilllaw22_WindowTells.j0_no _ _ _ _ _ _ (hrt ▸ H)).elim
        · rw [if_neg c87] at H
          have c87b0 : (t279 == t242) = false := beq_eq_false_iff_ne.mpr c87
          have c87b1 : (t279 != t242) = true := bne_iff_ne.mpr c87
          exact (waybilllaw22_WindowTells.j0_no _ _ _ _ _ _ (hrt ▸ H)).elim
      · replace c85 := Bool.eq_false_iff.mpr c85
        subst c85
        have H1 : (waybilllaw22_WindowTells.j0 k a1 true a0_0 l0_1 t223 t224) = some r := by rw [if_neg (show ¬ (false = true) by decide)] at H; exact H
        clear H
        have H := H1
        clear H1
        exact (waybilllaw22_WindowTells.j0_no _ _ _ _ _ _ (hrt ▸ H)).elim
    · rw [if_neg c83] at H
      have c83b0 : (t228 == t236) = false := beq_eq_false_iff_ne.mpr c83
      have c83b1 : (t228 != t236) = true := bne_iff_ne.mpr c83
      (first | rw [c83b0] | (simp only [i64_w, i32_w]; rw [c83b0]) | skip)
      exact (waybilllaw22_WindowTells.j0_no _ _ _ _ _ _ (hrt ▸ H)).elim
  case rest =>
    clear HC15
    try clear c1
    try clear c2
    try clear p2
    try clear c3
    try clear c4
    try clear c5
    try clear c6
    try clear c7
    try clear c8
    try clear c9
    try clear c10
    try clear c11
    try clear c12
    try clear c13
    try clear c14
    try clear c15
    try clear c16
    try clear c17
    try clear c18
    try clear c19
    try clear c20
    try clear c21
    try clear c22
    try clear c23
    try clear c24
    try clear c25
    try clear c26
    try clear c27
    try clear c28
    try clear c29
    try clear c30
    try clear c31
    try clear c32
    try clear c33
    try clear c34
    try clear c35
    try clear c36
    try clear c40
    try clear c41
    try clear c42
    try clear c43
    try clear c49
    try clear c50
    try clear c51
    try clear c52
    try clear c53
    try clear c59
    try clear c60
    try clear c61
    try clear c62
    try clear c63
    try clear c64
    try clear c70
    try clear c71
    try clear c72
    try clear c73
    try clear c74
    try clear c75
    try clear c76
    try clear c83
    try clear c83b0
    try clear c83b1
    try clear c85
    try clear c87
    try clear c87b0
    try clear c87b1
    try clear c89
    try clear c91
    try clear c91b0
    try clear c91b1
    try clear c93
    try clear c94
    try clear c94b0
    try clear c94b1
    try clear c96
    try clear c96b0
    try clear c96b1
    try clear c98
    try clear c100
    try clear c101
    try clear c102
    try clear c103
    try clear c104
    try clear c105
    try clear c106
    try clear c108
    try clear c109
    try clear c110
    try clear c111
    try clear c112
    try clear c113
    try clear c116
    try clear c117
    try clear c118
    try clear c119
    try clear c120
    try clear c122
    try clear c123
    try clear c124
    try clear c125
    try clear c128
    try clear c129
    try clear c130
    try clear c132
    try clear c133
    try clear c138
    try clear c139
    try clear c140
    try clear c141
    try clear c142
    try clear c143
    try clear c144
    try clear c146
    try clear c147
    try clear c148
    try clear c149
    try clear c150
    try clear c151
    try clear c154
    try clear c155
    try clear c156
    try clear c157
    try clear c158
    try clear c160
    try clear c161
    try clear c162
    try clear c163
    try clear c166
    try clear c167
    try clear c168
    try clear c170
    try clear c171
    try clear c176
    try clear c177
    try clear c178
    try clear c179
    try clear c180
    try clear c181
    try clear c182
    try clear c184
    try clear c185
    try clear c186
    try clear c187
    try clear c188
    try clear c189
    try clear c192
    try clear c193
    try clear c194
    try clear c195
    try clear c196
    try clear c198
    try clear c199
    try clear c200
    try clear c201
    try clear c204
    try clear c205
    try clear c206
    try clear c208
    try clear c209
    try clear c212
    try clear c213
    try clear c214
    try clear c215
    try clear c216
    try clear c217
    try clear c218
    try clear c220
    try clear c221
    try clear c222
    try clear c223
    try clear c224
    try clear c225
    try clear c228
    try clear c229
    try clear c230
    try clear c231
    try clear c232
    try clear c234
    try clear c235
    try clear c236
    try clear c237
    try clear c240
    try clear c241
    try clear c242
    try clear c244
    try clear c245
    try clear c248
    try clear c249
    try clear c250
    try clear c251
    try clear c252
    try clear c253
    try clear c254
    try clear c256
    try clear c257
    try clear c258
    try clear c259
    try clear c260
    try clear c261
    try clear c264
    try clear c265
    try clear c266
    try clear c267
    try clear c268
    try clear c270
    try clear c271
    try clear c272
    try clear c273
    try clear c276
    try clear c277
    try clear c278
    try clear c280
    try clear c281
    try clear c284
    try clear c285
    try clear c286
    try clear c287
    try clear c288
    try clear c289
    try clear c290
    try clear c292
    try clear c293
    try clear c294
    try clear c295
    try clear c296
    try clear c297
    try clear c300
    try clear c301
    try clear c302
    try clear c303
    try clear c304
    try clear c306
    try clear c307
    try clear c308
    try clear c309
    try clear c312
    try clear c313
    try clear c314
    try clear c315
    try clear c316
    try clear c317
    try clear c318
    try clear c320
    try clear c321
    try clear c322
    try clear c323
    try clear c324
    try clear c325
    try clear c328
    try clear c329
    try clear c330
    try clear c331
    try clear c332
    try clear c334
    try clear c335
    try clear c336
    try clear c337
    try clear c340
    try clear c341
    try clear c342
    try clear c343
    try clear c344
    try clear c345
    try clear c346
    try clear c348
    try clear c349
    try clear c350
    try clear c351
    try clear c352
    try clear c353
    try clear c356
    try clear c357
    try clear c358
    try clear c359
    try clear c360
    try clear c361
    try clear c362
    try clear c364
    try clear c365
    try clear c366
    try clear c367
    try clear c368
    try clear c369
    try clear hcz107_0
    try clear hcz107_1
    try clear hcz107_2
    try clear hcz114_0
    try clear hcz114_1
    try clear hcz114_2
    try clear hcz121_0
    try clear hcz121_1
    try clear hcz126_0
    try clear hcz126_1
    try clear hcz131_0
    try clear hcz131_1
    try clear hcz134_0
    try clear hcz134_1
    try clear hcz145_0
    try clear hcz145_1
    try clear hcz145_2
    try clear hcz152_0
    try clear hcz152_1
    try clear hcz152_2
    try clear hcz159_0
    try clear hcz159_1
    try clear hcz164_0
    try clear hcz164_1
    try clear hcz169_0
    try clear hcz169_1
    try clear hcz172_0
    try clear hcz172_1
    try clear hcz17_0
    try clear hcz17_1
    try clear hcz183_0
    try clear hcz183_1
    try clear hcz183_2
    try clear hcz190_0
    try clear hcz190_1
    try clear hcz190_2
    try clear hcz197_0
    try clear hcz197_1
    try clear hcz202_0
    try clear hcz202_1
    try clear hcz207_0
    try clear hcz207_1
    try clear hcz210_0
    try clear hcz210_1
    try clear hcz219_0
    try clear hcz219_1
    try clear hcz219_2
    try clear hcz21_0
    try clear hcz21_1
    try clear hcz226_0
    try clear hcz226_1
    try clear hcz226_2
    try clear hcz233_0
    try clear hcz233_1
    try clear hcz238_0
    try clear hcz238_1
    try clear hcz243_0
    try clear hcz243_1
    try clear hcz246_0
    try clear hcz246_1
    try clear hcz255_0
    try clear hcz255_1
    try clear hcz255_2
    try clear hcz262_0
    try clear hcz262_1
    try clear hcz262_2
    try clear hcz269_0
    try clear hcz269_1
    try clear hcz274_0
    try clear hcz274_1
    try clear hcz279_0
    try clear hcz279_1
    try clear hcz27_0
    try clear hcz27_1
    try clear hcz27_2
    try clear hcz282_0
    try clear hcz282_1
    try clear hcz291_0
    try clear hcz291_1
    try clear hcz291_2
    try clear hcz298_0
    try clear hcz298_1
    try clear hcz298_2
    try clear hcz29_0
    try clear hcz29_1
    try clear hcz305_0
    try clear hcz305_1
    try clear hcz310_0
    try clear hcz310_1
    try clear hcz319_0
    try clear hcz319_1
    try clear hcz319_2
    try clear hcz326_0
    try clear hcz326_1
    try clear hcz326_2
    try clear hcz333_0
    try clear hcz333_1
    try clear hcz338_0
    try clear hcz338_1
    try clear hcz347_0
    try clear hcz347_1
    try clear hcz347_2
    try clear hcz354_0
    try clear hcz354_1
    try clear hcz354_2
    try clear hcz35_0
    try clear hcz35_1
    try clear hcz35_2
    try clear hcz363_0
    try clear hcz363_1
    try clear hcz363_2
    try clear hcz370_0
    try clear hcz370_1
    try clear hcz370_2
    try clear hcz37_0
    try clear hcz37_1
    try clear hcz44_0
    try clear hcz44_1
    try clear hcz46_0
    try clear hcz46_1
    try clear hcz54_0
    try clear hcz54_1
    try clear hcz56_0
    try clear hcz56_1
    try clear hcz65_0
    try clear hcz65_1
    try clear hcz67_0
    try clear hcz67_1
    try clear hcz77_0
    try clear hcz77_1
    try clear hcz79_0
    try clear hcz79_1
    try clear hcz81_0
    try clear hcz81_1
    try clear hfz107_0
    try clear hfz107_1
    try clear hfz107_2
    try clear hfz114_0
    try clear hfz114_1
    try clear hfz114_2
    try clear hfz121_0
    try clear hfz121_1
    try clear hfz126_0
    try clear hfz126_1
    try clear hfz131_0
    try clear hfz131_1
    try clear hfz134_0
    try clear hfz134_1
    try clear hfz145_0
    try clear hfz145_1
    try clear hfz145_2
    try clear hfz152_0
    try clear hfz152_1
    try clear hfz152_2
    try clear hfz159_0
    try clear hfz159_1
    try clear hfz164_0
    try clear hfz164_1
    try clear hfz169_0
    try clear hfz169_1
    try clear hfz172_0
    try clear hfz172_1
    try clear hfz17_0
    try clear hfz17_1
    try clear hfz183_0
    try clear hfz183_1
    try clear hfz183_2
    try clear hfz190_0
    try clear hfz190_1
    try clear hfz190_2
    try clear hfz197_0
    try clear hfz197_1
    try clear hfz202_0
    try clear hfz202_1
    try clear hfz207_0
    try clear hfz207_1
    try clear hfz210_0
    try clear hfz210_1
    try clear hfz219_0
    try clear hfz219_1
    try clear hfz219_2
    try clear hfz21_0
    try clear hfz21_1
    try clear hfz226_0
    try clear hfz226_1
    try clear hfz226_2
    try clear hfz233_0
    try clear hfz233_1
    try clear hfz238_0
    try clear hfz238_1
    try clear hfz243_0
    try clear hfz243_1
    try clear hfz246_0
    try clear hfz246_1
    try clear hfz255_0
    try clear hfz255_1
    try clear hfz255_2
    try clear hfz262_0
    try clear hfz262_1
    try clear hfz262_2
    try clear hfz269_0
    try clear hfz269_1
    try clear hfz274_0
    try clear hfz274_1
    try clear hfz279_0
    try clear hfz279_1
    try clear hfz27_0
    try clear hfz27_1
    try clear hfz27_2
    try clear hfz282_0
    try clear hfz282_1
    try clear hfz291_0
    try clear hfz291_1
    try clear hfz291_2
    try clear hfz298_0
    try clear hfz298_1
    try clear hfz298_2
    try clear hfz29_0
    try clear hfz29_1
    try clear hfz305_0
    try clear hfz305_1
    try clear hfz310_0
    try clear hfz310_1
    try clear hfz319_0
    try clear hfz319_1
    try clear hfz319_2
    try clear hfz326_0
    try clear hfz326_1
    try clear hfz326_2
    try clear hfz333_0
    try clear hfz333_1
    try clear hfz338_0
    try clear hfz338_1
    try clear hfz347_0
    try clear hfz347_1
    try clear hfz347_2
    try clear hfz354_0
    try clear hfz354_1
    try clear hfz354_2
    try clear hfz35_0
    try clear hfz35_1
    try clear hfz35_2
    try clear hfz363_0
    try clear hfz363_1
    try clear hfz363_2
    try clear hfz370_0
    try clear hfz370_1
    try clear hfz370_2
    try clear hfz37_0
    try clear hfz37_1
    try clear hfz44_0
    try clear hfz44_1
    try clear hfz46_0
    try clear hfz46_1
    try clear hfz54_0
    try clear hfz54_1
    try clear hfz56_0
    try clear hfz56_1
    try clear hfz65_0
    try clear hfz65_1
    try clear hfz67_0
    try clear hfz67_1
    try clear hfz77_0
    try clear hfz77_1
    try clear hfz79_0
    try clear hfz79_1
    try clear hfz81_0
    try clear hfz81_1
    obtain ⟨kq, x147_14, rfl, HA, HJ14, HO_228001, HO_236002, HO_244002, HO_250001, HO_256001, HO_263001, HO_270001, BK222, BK227, BK235, BK243, BK249, BK255, BK262, BK269, HB⟩ := hcut
    cases kq with
    | zero => exact absurd HA.out (by simp [waybilllaw22_WindowTells.j0])
    | succ kj14 =>
      have H := HA.out
      clear HA
      simp only [waybilllaw22_WindowTells.j0] at H
      by_cases c372 : x147_14 = true
      · subst c372
        have H1 : (some false) = some r := by rw [if_pos rfl] at H; exact H
        clear H
        have H := H1
        clear H1
        obtain rfl := Option.some.inj H
        cases hrt
      · replace c372 := Bool.eq_false_iff.mpr c372
        subst c372
        have H1 : ((window_Check.f t223 t224 a1).bind fun t286 => ((waybilllaw22_num.f t286).bind fun t287 => ((waybillref22_Check.f kj14 a0_0 l0_1 a1).bind fun t288 => (if t287 = t288 then ((waybillref22_Same.f t223 t224 a0_0 l0_1).bind fun t289 => (if t289 = true then ((waybilllaw22_alive.f).bind fun t290 => (some t290)) else (some false))) else (some false))))) = some r := by rw [if_neg (show ¬ (false = true) by decide)] at H; exact H
        clear H
        have H := H1
        clear H1
        replace H := Option.bind_eq_some_iff.mp H
        obtain ⟨t286, A3730, H⟩ := H
        replace H : ((waybilllaw22_num.f t286).bind fun t287 => ((waybillref22_Check.f kj14 a0_0 l0_1 a1).bind fun t288 => (if t287 = t288 then ((waybillref22_Same.f t223 t224 a0_0 l0_1).bind fun t289 => (if t289 = true then ((waybilllaw22_alive.f).bind fun t290 => (some t290)) else (some false))) else (some false)))) = some r := H
        have A373 := Aside0.mk A3730
        clear A3730
        replace H := Option.bind_eq_some_iff.mp H
        obtain ⟨t287, A3740, H⟩ := H
        replace H : ((waybillref22_Check.f kj14 a0_0 l0_1 a1).bind fun t288 => (if t287 = t288 then ((waybillref22_Same.f t223 t224 a0_0 l0_1).bind fun t289 => (if t289 = true then ((waybilllaw22_alive.f).bind fun t290 => (some t290)) else (some false))) else (some false))) = some r := H
        have A374 := Aside0.mk A3740
        clear A3740
        replace H := Option.bind_eq_some_iff.mp H
        obtain ⟨t288, A3750, H⟩ := H
        replace H : (if t287 = t288 then ((waybillref22_Same.f t223 t224 a0_0 l0_1).bind fun t289 => (if t289 = true then ((waybilllaw22_alive.f).bind fun t290 => (some t290)) else (some false))) else (some false)) = some r := H
        have A375 := Aside0.mk A3750
        clear A3750
        by_cases c376 : t287 = t288
        · rw [if_pos c376] at H
          have c376b0 : (t287 == t288) = true := beq_iff_eq.mpr c376
          have c376b1 : (t287 != t288) = false := bne_eq_false_iff_eq.mpr c376
          clear c376
          replace H := Option.bind_eq_some_iff.mp H
          obtain ⟨t289, A3770, H⟩ := H
          replace H : (if t289 = true then ((waybilllaw22_alive.f).bind fun t290 => (some t290)) else (some false)) = some r := H
          have A377 := Aside0.mk A3770
          clear A3770
          by_cases c378 : t289 = true
          · subst c378
            have H1 : ((waybilllaw22_alive.f).bind fun t290 => (some t290)) = some r := by rw [if_pos rfl] at H; exact H
            clear H
            have H := H1
            clear H1
            replace H := Option.bind_eq_some_iff.mp H
            obtain ⟨t290, A3790, H⟩ := H
            replace H : (some t290) = some r := H
            have A379 := Aside0.mk A3790
            clear A3790
            obtain rfl := Option.some.inj H
            simp only [Option.some.injEq, Prod.mk.injEq] at H
            obtain ⟨rfl⟩ := H
            try go_wp2
            have n0_ := Aside0.mk (Kd.S_drew HO_228001.out)
            have n1_ := Aside0.mk (Kd.R_drew HO_236002.out)
            have n2_ := Aside0.mk (Kd.R_drew HO_244002.out)
            have n3_ := Aside0.mk (Kd.S_drew HO_250001.out)
            have n4_ := Aside0.mk (Kd.S_drew HO_256001.out)
            have n5_ := Aside0.mk (Kd.S_drew HO_263001.out)
            have n6_ := Aside0.mk (Kd.S_drew HO_270001.out)
            have n7_ := Aside0.mk (blk_drew BK222.out)
            have n8_ := Aside0.mk (blk_drew BK227.out)
            have n9_ := Aside0.mk (blk_drew BK235.out)
            have n10_ := Aside0.mk (blk_drew BK243.out)
            have n11_ := Aside0.mk (blk_drew BK249.out)
            have n12_ := Aside0.mk (blk_drew BK255.out)
            have n13_ := Aside0.mk (blk_drew BK262.out)
            have n14_ := Aside0.mk (blk_drew BK269.out)
            have n15_ := Aside0.mk (below_drew1 HB.out)
            clear HO_228001
            clear HO_236002
            clear HO_244002
            clear HO_250001
            clear HO_256001
            clear HO_263001
            clear HO_270001
            clear BK222
            clear BK227
            clear BK235
            clear BK243
            clear BK249
            clear BK255
            clear BK262
            clear BK269
            clear HB
            have HO_228001 := n0_
            have HO_236002 := n1_
            have HO_244002 := n2_
            have HO_250001 := n3_
            have HO_256001 := n4_
            have HO_263001 := n5_
            have HO_270001 := n6_
            have BK222 := n7_
            have BK227 := n8_
            have BK235 := n9_
            have BK243 := n10_
            have BK249 := n11_
            have BK255 := n12_
            have BK262 := n13_
            have BK269 := n14_
            have HB := n15_
            clear n0_ n1_ n2_ n3_ n4_ n5_ n6_ n7_ n8_ n9_ n10_ n11_ n12_ n13_ n14_ n15_
            refine start_ (n := 17) (S := fun w' => w'.cell? ⟨gb227, 0, none⟩ = some (.int .i64 t223) ∧ w'.cell? ⟨gb227, 1, none⟩ = some (.slice Ao22 t224.length co22) ∧ w'.cell? ⟨gb222, 0, none⟩ = some (.int .i64 a0_0) ∧ w'.cell? ⟨gb222, 1, none⟩ = some (.slice A0_1 l0_1.length c0_1)) (ds := []) #[false, false, false, false, false, false, false, false, false, false, false, false, false, false, false, false, false] (by kernel_rfl) rfl rfl ⟨(blk_cell BK227.out 0).trans rfl, (blk_cell BK227.out 1).trans rfl, (blk_cell BK222.out 0).trans rfl, (blk_cell BK222.out 1).trans rfl⟩ (fun hHeld => ?_); refine with_tabW waybilllaw22_WindowTells.tab12 waybilllaw22_WindowTells.bits12 (fun HT_ HW_ => ?_)
            generalize wc.drew = w380 at HO_228001 HO_236002 HO_244002 HO_250001 HO_256001 HO_263001 HO_270001 BK222 BK227 BK235 BK243 BK249 BK255 BK262 BK269 HB hHeld ⊢
            refine pure_ (i := 1) (N := some 149) (v := ?_) (a' := ?_) #[false, true, false, false, false, false, false, false, false, false, false, false, false, false, false, false, false] rfl rfl (any_of HT_.out (by kernel_rfl)) (fun _ _ _ h => h) (Or.inl ⟨by rfl, ?_⟩) ?_ ?_
            rotate_left
            · intro w'
              go_simp
              with_reducible rfl
            rotate_left
            · simp only [Act.put, List.setIfInBounds_toArray, List.set_cons_zero, List.set_cons_succ, i64_w, i32_w]
              rfl
            refine pure_ (i := 5) (N := some 153) (v := ?_) (a' := ?_) #[false, true, false, false, false, true, false, false, false, false, false, false, false, false, false, false, false] rfl rfl (any_of HT_.out (by kernel_rfl)) (fun _ _ _ h => h) (Or.inl ⟨by rfl, ?_⟩) ?_ ?_
            rotate_left
            · intro w'
              go_simp
              with_reducible rfl
            rotate_left
            · simp only [Act.put, List.setIfInBounds_toArray, List.set_cons_zero, List.set_cons_succ, i64_w, i32_w]
              rfl
            refine take_ (i := 0) (N := some 148) (v := ?_) (a' := ?_) #[true, true, false, false, false, true, false, false, false, false, false, false, false, false, false, false, false] rfl rfl (take_ofW HT_.out HW_.out (by kernel_rfl)) (fun _ _ _ h => h) (Or.inl ⟨by rfl, ?_⟩) hHeld ?_ ?_
            rotate_left
            · rintro w' ⟨s0, s1, s2, s3⟩
              go_simp
              with_reducible rfl
            rotate_left
            · simp only [Act.put, List.setIfInBounds_toArray, List.set_cons_zero, List.set_cons_succ, i64_w, i32_w]
              rfl
            refine take_ (i := 4) (N := some 152) (v := ?_) (a' := ?_) #[true, true, false, false, true, true, false, false, false, false, false, false, false, false, false, false, false] rfl rfl (take_ofW HT_.out HW_.out (by kernel_rfl)) (fun _ _ _ h => h) (Or.inl ⟨by rfl, ?_⟩) hHeld ?_ ?_
            rotate_left
            · rintro w' ⟨s0, s1, s2, s3⟩
              go_simp
              with_reducible rfl
            rotate_left
            · simp only [Act.put, List.setIfInBounds_toArray, List.set_cons_zero, List.set_cons_succ, i64_w, i32_w]
              rfl
            refine one_ (i := 2) (N := some 150) #[true, true, true, false, true, true, false, false, false, false, false, false, false, false, false, false, false] rfl rfl (one_of HT_.out (by kernel_rfl)) (by decide) (fun K hK => ?_)
            refine goes_ Try.func14 (by kernel_rfl) rfl #[.agg #[.int .i64 t223, .slice Ao22 t224.length co22], .int .i64 a1] (by rfl) rfl rfl (by (try simp only [List.map_toArray, List.map_cons, List.map_nil]); first | done | rfl | (simp only [List.length_drop, List.length_take]; rfl)) ?_
            with_reducible refine (window_Check.calls t223 _ _ t224 a1 t286 _ ?side1 ?side2 A373.out).mono ?_
            (case side1 => repeat (first | exact (Kd.S_reads' HO_228001.out).2.2 | (with_reducible refine Kd.C_alloc ?_ _) | (with_reducible refine Kd.C_drewN ?_ _) | (with_reducible refine Kd.C_drew ?_)))
            (case side2 => exact (Kd.S_reads' HO_228001.out).2.1)
            rintro e w381 ⟨rfl, hb⟩
            refine ⟨_, rfl, ?_⟩
            have n0_ := Aside0.mk (Kd.S_below (by (with_reducible repeat (first | apply Kd.S_alloc | apply Kd.S_drewN | apply Kd.S_drew)); exact HO_228001.out) hb)
            have n1_ := Aside0.mk (Kd.R_below (by (with_reducible repeat (first | apply Kd.R_alloc | apply Kd.R_drewN | apply Kd.R_drew)); exact HO_236002.out) hb)
            have n2_ := Aside0.mk (Kd.R_below (by (with_reducible repeat (first | apply Kd.R_alloc | apply Kd.R_drewN | apply Kd.R_drew)); exact HO_244002.out) hb)
            have n3_ := Aside0.mk (Kd.S_below (by (with_reducible repeat (first | apply Kd.S_alloc | apply Kd.S_drewN | apply Kd.S_drew)); exact HO_250001.out) hb)
            have n4_ := Aside0.mk (Kd.S_below (by (with_reducible repeat (first | apply Kd.S_alloc | apply Kd.S_drewN | apply Kd.S_drew)); exact HO_256001.out) hb)
            have n5_ := Aside0.mk (Kd.S_below (by (with_reducible repeat (first | apply Kd.S_alloc | apply Kd.S_drewN | apply Kd.S_drew)); exact HO_263001.out) hb)
            have n6_ := Aside0.mk (Kd.S_below (by (with_reducible repeat (first | apply Kd.S_alloc | apply Kd.S_drewN | apply Kd.S_drew)); exact HO_270001.out) hb)
            have n7_ := Aside0.mk (blk_below (g := gb222) (o := .cells #[.int .i64 a0_0, .slice A0_1 l0_1.length c0_1] 24 (0, 0)) (by (with_reducible repeat (first | refine blk_drewN ?_ _ | refine blk_drew ?_ | refine blk_alloc ?_ _)); exact BK222.out) hb)
            have n8_ := Aside0.mk (blk_below (g := gb227) (o := .cells #[.int .i64 t223, .slice Ao22 t224.length co22] 24 (0, 0)) (by (with_reducible repeat (first | refine blk_drewN ?_ _ | refine blk_drew ?_ | refine blk_alloc ?_ _)); exact BK227.out) hb)
            have n9_ := Aside0.mk (blk_below (g := gb235) (o := .cells #[.int .i64 t229, .int .i64 t230, .slice Ao28 t231.length co28] 32 (0, 0)) (by (with_reducible repeat (first | refine blk_drewN ?_ _ | refine blk_drew ?_ | refine blk_alloc ?_ _)); exact BK235.out) hb)
            have n10_ := Aside0.mk (blk_below (g := gb243) (o := .cells #[.int .i64 t237, .int .i64 t238, .slice Ao36 t239.length co36] 32 (0, 0)) (by (with_reducible repeat (first | refine blk_drewN ?_ _ | refine blk_drew ?_ | refine blk_alloc ?_ _)); exact BK243.out) hb)
            have n11_ := Aside0.mk (blk_below (g := gb249) (o := .cells #[.int .i64 t244, .slice Ao45 t245.length co45] 24 (0, 0)) (by (with_reducible repeat (first | refine blk_drewN ?_ _ | refine blk_drew ?_ | refine blk_alloc ?_ _)); exact BK249.out) hb)
            have n12_ := Aside0.mk (blk_below (g := gb255) (o := .cells #[.int .i64 t250, .slice Ao55 t251.length co55] 24 (0, 0)) (by (with_reducible repeat (first | refine blk_drewN ?_ _ | refine blk_drew ?_ | refine blk_alloc ?_ _)); exact BK255.out) hb)
            have n13_ := Aside0.mk (blk_below (g := gb262) (o := .cells #[.int .i64 t256, .slice Ao66 t257.length co66] 24 (0, 0)) (by (with_reducible repeat (first | refine blk_drewN ?_ _ | refine blk_drew ?_ | refine blk_alloc ?_ _)); exact BK262.out) hb)
            have n14_ := Aside0.mk (blk_below (g := gb269) (o := .cells #[.int .i64 t263, .slice Ao78 t264.length co78] 24 (0, 0)) (by (with_reducible repeat (first | refine blk_drewN ?_ _ | refine blk_drew ?_ | refine blk_alloc ?_ _)); exact BK269.out) hb)
            have n15_ := Aside0.mk (below_step (by repeat (first | (with_reducible first | exact HB.out | apply below_alloc | apply pw_below_drewN | apply below_drew1 | refine below_set ?_ GE222.out | refine below_set ?_ GE227.out | refine below_set ?_ GE235.out | refine below_set ?_ GE243.out | refine below_set ?_ GE249.out | refine below_set ?_ GE255.out | refine below_set ?_ GE262.out | refine below_set ?_ GE269.out) | exact HB.out)) hb)
            clear HO_228001
            clear HO_236002
            clear HO_244002
            clear HO_250001
            clear HO_256001
            clear HO_263001
            clear HO_270001
            clear BK222
            clear BK227
            clear BK235
            clear BK243
            clear BK249
            clear BK255
            clear BK262
            clear BK269
            clear HB
            have HO_228001 := n0_
            have HO_236002 := n1_
            have HO_244002 := n2_
            have HO_250001 := n3_
            have HO_256001 := n4_
            have HO_263001 := n5_
            have HO_270001 := n6_
            have BK222 := n7_
            have BK227 := n8_
            have BK235 := n9_
            have BK243 := n10_
            have BK249 := n11_
            have BK255 := n12_
            have BK262 := n13_
            have BK269 := n14_
            have HB := n15_
            clear n0_ n1_ n2_ n3_ n4_ n5_ n6_ n7_ n8_ n9_ n10_ n11_ n12_ n13_ n14_ n15_
            (try clear hb)
            (try clear hb2)
            (try clear hk)
            (try clear hi)
            refine hK.out _ _ ⟨(blk_cell BK227.out 0).trans rfl, (blk_cell BK227.out 1).trans rfl, (blk_cell BK222.out 0).trans rfl, (blk_cell BK222.out 1).trans rfl⟩ (fun hHeld => ?_)
            clear hK K
            refine norm_ (a' := ?_) ?_ ?_
            rotate_left
            · show Act.put _ (some 150) _ = _
              simp only [Act.put, List.setIfInBounds_toArray, List.set_cons_zero, List.set_cons_succ, i64_w, i32_w]
              rfl
            refine one_ (i := 3) (N := some 151) #[true, true, true, true, true, true, false, false, false, false, false, false, false, false, false, false, false] rfl rfl (one_of HT_.out (by kernel_rfl)) (by decide) (fun K hK => ?_)
            refine goes_ Try.func12 (by kernel_rfl) rfl #[.int .i64 t286] (by rfl) rfl rfl (by (try simp only [List.map_toArray, List.map_cons, List.map_nil]); first | done | rfl | (simp only [List.length_drop, List.length_take]; rfl)) ?_
            with_reducible refine (waybilllaw22_num.calls t286 t287 _ A374.out).mono ?_
            rintro e w' ⟨rfl, ⟨nd, rfl⟩⟩
            refine ⟨_, rfl, ?_⟩
            refine hK.out _ _ ⟨(blk_cell BK227.out 0).trans rfl, (blk_cell BK227.out 1).trans rfl, (blk_cell BK222.out 0).trans rfl, (blk_cell BK222.out 1).trans rfl⟩ (fun hHeld => ?_)
            clear hK K
            refine norm_ (a' := ?_) ?_ ?_
            rotate_left
            · show Act.put _ (some 151) _ = _
              simp only [Act.put, List.setIfInBounds_toArray, List.set_cons_zero, List.set_cons_succ, i64_w, i32_w]
              rfl
            refine one_ (i := 6) (N := some 154) #[true, true, true, true, true, true, true, false, false, false, false, false, false, false, false, false, false] rfl rfl (one_of HT_.out (by kernel_rfl)) (by decide) (fun K hK => ?_)
            refine goes_ Try.func26 (by kernel_rfl) rfl #[.agg #[.int .i64 a0_0, .slice A0_1 l0_1.length c0_1], .int .i64 a1] (by rfl) rfl rfl (by (try simp only [List.map_toArray, List.map_cons, List.map_nil]); first | done | rfl | (simp only [List.length_drop, List.length_take]; rfl)) ?_
            with_reducible refine (waybillref22_Check.calls kj14 a0_0 _ _ l0_1 a1 t288 _ ?side1 ?side2 A375.out).mono ?_
            (case side1 => repeat (first | exact (Kd.C_below HR0_1.out (by repeat (first | (with_reducible first | exact HB.out | apply below_alloc | apply pw_below_drewN | apply below_drew1 | refine below_set ?_ GE222.out | refine below_set ?_ GE227.out | refine below_set ?_ GE235.out | refine below_set ?_ GE243.out | refine below_set ?_ GE249.out | refine below_set ?_ GE255.out | refine below_set ?_ GE262.out | refine below_set ?_ GE269.out) | exact HB.out))) | (with_reducible refine Kd.C_alloc ?_ _) | (with_reducible refine Kd.C_drewN ?_ _) | (with_reducible refine Kd.C_drew ?_)))
            (case side2 => exact HC0_1.out)
            rintro e w382 ⟨rfl, hb⟩
            refine ⟨_, rfl, ?_⟩
            have n0_ := Aside0.mk (Kd.S_below (by (with_reducible repeat (first | apply Kd.S_alloc | apply Kd.S_drewN | apply Kd.S_drew)); exact HO_228001.out) hb)
            have n1_ := Aside0.mk (Kd.R_below (by (with_reducible repeat (first | apply Kd.R_alloc | apply Kd.R_drewN | apply Kd.R_drew)); exact HO_236002.out) hb)
            have n2_ := Aside0.mk (Kd.R_below (by (with_reducible repeat (first | apply Kd.R_alloc | apply Kd.R_drewN | apply Kd.R_drew)); exact HO_244002.out) hb)
            have n3_ := Aside0.mk (Kd.S_below (by (with_reducible repeat (first | apply Kd.S_alloc | apply Kd.S_drewN | apply Kd.S_drew)); exact HO_250001.out) hb)
            have n4_ := Aside0.mk (Kd.S_below (by (with_reducible repeat (first | apply Kd.S_alloc | apply Kd.S_drewN | apply Kd.S_drew)); exact HO_256001.out) hb)
            have n5_ := Aside0.mk (Kd.S_below (by (with_reducible repeat (first | apply Kd.S_alloc | apply Kd.S_drewN | apply Kd.S_drew)); exact HO_263001.out) hb)
            have n6_ := Aside0.mk (Kd.S_below (by (with_reducible repeat (first | apply Kd.S_alloc | apply Kd.S_drewN | apply Kd.S_drew)); exact HO_270001.out) hb)
            have n7_ := Aside0.mk (blk_below (g := gb222) (o := .cells #[.int .i64 a0_0, .slice A0_1 l0_1.length c0_1] 24 (0, 0)) (by (with_reducible repeat (first | refine blk_drewN ?_ _ | refine blk_drew ?_ | refine blk_alloc ?_ _)); exact BK222.out) hb)
            have n8_ := Aside0.mk (blk_below (g := gb227) (o := .cells #[.int .i64 t223, .slice Ao22 t224.length co22] 24 (0, 0)) (by (with_reducible repeat (first | refine blk_drewN ?_ _ | refine blk_drew ?_ | refine blk_alloc ?_ _)); exact BK227.out) hb)
            have n9_ := Aside0.mk (blk_below (g := gb235) (o := .cells #[.int .i64 t229, .int .i64 t230, .slice Ao28 t231.length co28] 32 (0, 0)) (by (with_reducible repeat (first | refine blk_drewN ?_ _ | refine blk_drew ?_ | refine blk_alloc ?_ _)); exact BK235.out) hb)
            have n10_ := Aside0.mk (blk_below (g := gb243) (o := .cells #[.int .i64 t237, .int .i64 t238, .slice Ao36 t239.length co36] 32 (0, 0)) (by (with_reducible repeat (first | refine blk_drewN ?_ _ | refine blk_drew ?_ | refine blk_alloc ?_ _)); exact BK243.out) hb)
            have n11_ := Aside0.mk (blk_below (g := gb249) (o := .cells #[.int .i64 t244, .slice Ao45 t245.length co45] 24 (0, 0)) (by (with_reducible repeat (first | refine blk_drewN ?_ _ | refine blk_drew ?_ | refine blk_alloc ?_ _)); exact BK249.out) hb)
            have n12_ := Aside0.mk (blk_below (g := gb255) (o := .cells #[.int .i64 t250, .slice Ao55 t251.length co55] 24 (0, 0)) (by (with_reducible repeat (first | refine blk_drewN ?_ _ | refine blk_drew ?_ | refine blk_alloc ?_ _)); exact BK255.out) hb)
            have n13_ := Aside0.mk (blk_below (g := gb262) (o := .cells #[.int .i64 t256, .slice Ao66 t257.length co66] 24 (0, 0)) (by (with_reducible repeat (first | refine blk_drewN ?_ _ | refine blk_drew ?_ | refine blk_alloc ?_ _)); exact BK262.out) hb)
            have n14_ := Aside0.mk (blk_below (g := gb269) (o := .cells #[.int .i64 t263, .slice Ao78 t264.length co78] 24 (0, 0)) (by (with_reducible repeat (first | refine blk_drewN ?_ _ | refine blk_drew ?_ | refine blk_alloc ?_ _)); exact BK269.out) hb)
            have n15_ := Aside0.mk (below_step (by repeat (first | (with_reducible first | exact HB.out | apply below_alloc | apply pw_below_drewN | apply below_drew1 | refine below_set ?_ GE222.out | refine below_set ?_ GE227.out | refine below_set ?_ GE235.out | refine below_set ?_ GE243.out | refine below_set ?_ GE249.out | refine below_set ?_ GE255.out | refine below_set ?_ GE262.out | refine below_set ?_ GE269.out) | exact HB.out)) hb)
            clear HO_228001
            clear HO_236002
            clear HO_244002
            clear HO_250001
            clear HO_256001
            clear HO_263001
            clear HO_270001
            clear BK222
            clear BK227
            clear BK235
            clear BK243
            clear BK249
            clear BK255
            clear BK262
            clear BK269
            clear HB
            have HO_228001 := n0_
            have HO_236002 := n1_
            have HO_244002 := n2_
            have HO_250001 := n3_
            have HO_256001 := n4_
            have HO_263001 := n5_
            have HO_270001 := n6_
            have BK222 := n7_
            have BK227 := n8_
            have BK235 := n9_
            have BK243 := n10_
            have BK249 := n11_
            have BK255 := n12_
            have BK262 := n13_
            have BK269 := n14_
            have HB := n15_
            clear n0_ n1_ n2_ n3_ n4_ n5_ n6_ n7_ n8_ n9_ n10_ n11_ n12_ n13_ n14_ n15_
            (try clear hb)
            (try clear hb2)
            (try clear hk)
            (try clear hi)
            refine hK.out _ _ ⟨(blk_cell BK227.out 0).trans rfl, (blk_cell BK227.out 1).trans rfl, (blk_cell BK222.out 0).trans rfl, (blk_cell BK222.out 1).trans rfl⟩ (fun hHeld => ?_)
            clear hK K
            refine norm_ (a' := ?_) ?_ ?_
            rotate_left
            · show Act.put _ (some 154) _ = _
              simp only [Act.put, List.setIfInBounds_toArray, List.set_cons_zero, List.set_cons_succ, i64_w, i32_w]
              rfl
            refine pure_ (i := 7) (N := some 155) (v := ?_) (a' := ?_) #[true, true, true, true, true, true, true, true, false, false, false, false, false, false, false, false, false] rfl rfl (any_of HT_.out (by kernel_rfl)) (fun _ _ _ h => h) (Or.inl ⟨by rfl, ?_⟩) ?_ ?_
            rotate_left
            · intro w'
              go_simp
              with_reducible rfl
            rotate_left
            · simp only [Act.put, List.setIfInBounds_toArray, List.set_cons_zero, List.set_cons_succ, i64_w, i32_w]
              rfl
            refine pure_ (i := 8) (N := some 156) (v := ?_) (a' := ?_) #[true, true, true, true, true, true, true, true, true, false, false, false, false, false, false, false, false] rfl rfl (any_of HT_.out (by kernel_rfl)) (fun _ _ _ h => h) (Or.inl ⟨by rfl, ?_⟩) ?_ ?_
            rotate_left
            · intro w'
              go_simp
              with_reducible rfl
            rotate_left
            · simp only [Act.put, List.setIfInBounds_toArray, List.set_cons_zero, List.set_cons_succ, i64_w, i32_w]
              rfl
            refine take_ (i := 9) (N := some 157) (v := ?_) (a' := ?_) #[true, true, true, true, true, true, true, true, true, true, false, false, false, false, false, false, false] rfl rfl (take_ofW HT_.out HW_.out (by kernel_rfl)) (fun _ _ _ h => h) (Or.inl ⟨by rfl, ?_⟩) hHeld ?_ ?_
            rotate_left
            · rintro w' ⟨s0, s1, s2, s3⟩
              go_simp
              with_reducible rfl
            rotate_left
            · simp only [Act.put, List.setIfInBounds_toArray, List.set_cons_zero, List.set_cons_succ, i64_w, i32_w]
              rfl
            refine take_ (i := 10) (N := some 158) (v := ?_) (a' := ?_) #[true, true, true, true, true, true, true, true, true, true, true, false, false, false, false, false, false] rfl rfl (take_ofW HT_.out HW_.out (by kernel_rfl)) (fun _ _ _ h => h) (Or.inl ⟨by rfl, ?_⟩) hHeld ?_ ?_
            rotate_left
            · rintro w' ⟨s0, s1, s2, s3⟩
              go_simp
              with_reducible rfl
            rotate_left
            · simp only [Act.put, List.setIfInBounds_toArray, List.set_cons_zero, List.set_cons_succ, i64_w, i32_w]
              rfl
            refine one_ (i := 11) (N := some 159) #[true, true, true, true, true, true, true, true, true, true, true, true, false, false, false, false, false] rfl rfl (one_of HT_.out (by kernel_rfl)) (by decide) (fun K hK => ?_)
            refine goes_ Try.func21 (by kernel_rfl) rfl #[.agg #[.int .i64 t223, .slice Ao22 t224.length co22], .agg #[.int .i64 a0_0, .slice A0_1 l0_1.length c0_1]] (by rfl) rfl rfl (by (try simp only [List.map_toArray, List.map_cons, List.map_nil]); first | done | rfl | (simp only [List.length_drop, List.length_take]; rfl)) ?_
            with_reducible refine (waybillref22_Same.calls t223 _ _ t224 a0_0 _ _ l0_1 true _ ?side1 ?side2 ?side3 ?side4 A377.out).mono ?_
            (case side1 => repeat (first | exact (Kd.S_reads' HO_228001.out).2.2 | (with_reducible refine Kd.C_alloc ?_ _) | (with_reducible refine Kd.C_drewN ?_ _) | (with_reducible refine Kd.C_drew ?_)))
            (case side2 => exact (Kd.S_reads' HO_228001.out).2.1)
            (case side3 => repeat (first | exact (Kd.C_below HR0_1.out HB.out) | (with_reducible refine Kd.C_alloc ?_ _) | (with_reducible refine Kd.C_drewN ?_ _) | (with_reducible refine Kd.C_drew ?_)))
            (case side4 => exact HC0_1.out)
            rintro e w383 ⟨rfl, hb⟩
            refine ⟨_, rfl, ?_⟩
            have n0_ := Aside0.mk (Kd.S_below (by (with_reducible repeat (first | apply Kd.S_alloc | apply Kd.S_drewN | apply Kd.S_drew)); exact HO_228001.out) hb)
            have n1_ := Aside0.mk (Kd.R_below (by (with_reducible repeat (first | apply Kd.R_alloc | apply Kd.R_drewN | apply Kd.R_drew)); exact HO_236002.out) hb)
            have n2_ := Aside0.mk (Kd.R_below (by (with_reducible repeat (first | apply Kd.R_alloc | apply Kd.R_drewN | apply Kd.R_drew)); exact HO_244002.out) hb)
            have n3_ := Aside0.mk (Kd.S_below (by (with_reducible repeat (first | apply Kd.S_alloc | apply Kd.S_drewN | apply Kd.S_drew)); exact HO_250001.out) hb)
            have n4_ := Aside0.mk (Kd.S_below (by (with_reducible repeat (first | apply Kd.S_alloc | apply Kd.S_drewN | apply Kd.S_drew)); exact HO_256001.out) hb)
            have n5_ := Aside0.mk (Kd.S_below (by (with_reducible repeat (first | apply Kd.S_alloc | apply Kd.S_drewN | apply Kd.S_drew)); exact HO_263001.out) hb)
            have n6_ := Aside0.mk (Kd.S_below (by (with_reducible repeat (first | apply Kd.S_alloc | apply Kd.S_drewN | apply Kd.S_drew)); exact HO_270001.out) hb)
            have n7_ := Aside0.mk (blk_below (g := gb222) (o := .cells #[.int .i64 a0_0, .slice A0_1 l0_1.length c0_1] 24 (0, 0)) (by (with_reducible repeat (first | refine blk_drewN ?_ _ | refine blk_drew ?_ | refine blk_alloc ?_ _)); exact BK222.out) hb)
            have n8_ := Aside0.mk (blk_below (g := gb227) (o := .cells #[.int .i64 t223, .slice Ao22 t224.length co22] 24 (0, 0)) (by (with_reducible repeat (first | refine blk_drewN ?_ _ | refine blk_drew ?_ | refine blk_alloc ?_ _)); exact BK227.out) hb)
            have n9_ := Aside0.mk (blk_below (g := gb235) (o := .cells #[.int .i64 t229, .int .i64 t230, .slice Ao28 t231.length co28] 32 (0, 0)) (by (with_reducible repeat (first | refine blk_drewN ?_ _ | refine blk_drew ?_ | refine blk_alloc ?_ _)); exact BK235.out) hb)
            have n10_ := Aside0.mk (blk_below (g := gb243) (o := .cells #[.int .i64 t237, .int .i64 t238, .slice Ao36 t239.length co36] 32 (0, 0)) (by (with_reducible repeat (first | refine blk_drewN ?_ _ | refine blk_drew ?_ | refine blk_alloc ?_ _)); exact BK243.out) hb)
            have n11_ := Aside0.mk (blk_below (g := gb249) (o := .cells #[.int .i64 t244, .slice Ao45 t245.length co45] 24 (0, 0)) (by (with_reducible repeat (first | refine blk_drewN ?_ _ | refine blk_drew ?_ | refine blk_alloc ?_ _)); exact BK249.out) hb)
            have n12_ := Aside0.mk (blk_below (g := gb255) (o := .cells #[.int .i64 t250, .slice Ao55 t251.length co55] 24 (0, 0)) (by (with_reducible repeat (first | refine blk_drewN ?_ _ | refine blk_drew ?_ | refine blk_alloc ?_ _)); exact BK255.out) hb)
            have n13_ := Aside0.mk (blk_below (g := gb262) (o := .cells #[.int .i64 t256, .slice Ao66 t257.length co66] 24 (0, 0)) (by (with_reducible repeat (first | refine blk_drewN ?_ _ | refine blk_drew ?_ | refine blk_alloc ?_ _)); exact BK262.out) hb)
            have n14_ := Aside0.mk (blk_below (g := gb269) (o := .cells #[.int .i64 t263, .slice Ao78 t264.length co78] 24 (0, 0)) (by (with_reducible repeat (first | refine blk_drewN ?_ _ | refine blk_drew ?_ | refine blk_alloc ?_ _)); exact BK269.out) hb)
            have n15_ := Aside0.mk (below_step (by repeat (first | (with_reducible first | exact HB.out | apply below_alloc | apply pw_below_drewN | apply below_drew1 | refine below_set ?_ GE222.out | refine below_set ?_ GE227.out | refine below_set ?_ GE235.out | refine below_set ?_ GE243.out | refine below_set ?_ GE249.out | refine below_set ?_ GE255.out | refine below_set ?_ GE262.out | refine below_set ?_ GE269.out) | exact HB.out)) hb)
            clear HO_228001
            clear HO_236002
            clear HO_244002
            clear HO_250001
            clear HO_256001
            clear HO_263001
            clear HO_270001
            clear BK222
            clear BK227
            clear BK235
            clear BK243
            clear BK249
            clear BK255
            clear BK262
            clear BK269
            clear HB
            have HO_228001 := n0_
            have HO_236002 := n1_
            have HO_244002 := n2_
            have HO_250001 := n3_
            have HO_256001 := n4_
            have HO_263001 := n5_
            have HO_270001 := n6_
            have BK222 := n7_
            have BK227 := n8_
            have BK235 := n9_
            have BK243 := n10_
            have BK249 := n11_
            have BK255 := n12_
            have BK262 := n13_
            have BK269 := n14_
            have HB := n15_
            clear n0_ n1_ n2_ n3_ n4_ n5_ n6_ n7_ n8_ n9_ n10_ n11_ n12_ n13_ n14_ n15_
            (try clear hb)
            (try clear hb2)
            (try clear hk)
            (try clear hi)
            refine hK.out _ _ ⟨(blk_cell BK227.out 0).trans rfl, (blk_cell BK227.out 1).trans rfl, (blk_cell BK222.out 0).trans rfl, (blk_cell BK222.out 1).trans rfl⟩ (fun hHeld => ?_)
            clear hK K
            refine norm_ (a' := ?_) ?_ ?_
            rotate_left
            · show Act.put _ (some 159) _ = _
              simp only [Act.put, List.setIfInBounds_toArray, List.set_cons_zero, List.set_cons_succ, i64_w, i32_w]
              rfl
            refine pure_ (i := 12) (N := some 160) (v := ?_) (a' := ?_) #[true, true, true, true, true, true, true, true, true, true, true, true, true, false, false, false, false] rfl rfl (any_of HT_.out (by kernel_rfl)) (fun _ _ _ h => h) (Or.inl ⟨by rfl, ?_⟩) ?_ ?_
            rotate_left
            · intro w'
              go_simp
              with_reducible rfl
            rotate_left
            · simp only [Act.put, List.setIfInBounds_toArray, List.set_cons_zero, List.set_cons_succ, i64_w, i32_w]
              rfl
            refine pure_ (i := 13) (N := some 161) (v := ?_) (a' := ?_) #[true, true, true, true, true, true, true, true, true, true, true, true, true, true, false, false, false] rfl rfl (any_of HT_.out (by kernel_rfl)) (fun _ _ _ h => h) (Or.inl ⟨by rfl, ?_⟩) ?_ ?_
            rotate_left
            · intro w'
              go_simp
              with_reducible rfl
            rotate_left
            · simp only [Act.put, List.setIfInBounds_toArray, List.set_cons_zero, List.set_cons_succ, i64_w, i32_w]
              rfl
            refine one_ (i := 14) (N := some 162) #[true, true, true, true, true, true, true, true, true, true, true, true, true, true, true, false, false] rfl rfl (one_of HT_.out (by kernel_rfl)) (by decide) (fun K hK => ?_)
            refine goes_ Try.func9 (by kernel_rfl) rfl #[] (by rfl) rfl rfl (by (try simp only [List.map_toArray, List.map_cons, List.map_nil]); first | done | rfl | (simp only [List.length_drop, List.length_take]; rfl)) ?_
            with_reducible refine (waybilllaw22_alive.calls  t290 _ A379.out).mono ?_
            rintro e w384 ⟨rfl, hb⟩
            refine ⟨_, rfl, ?_⟩
            have n0_ := Aside0.mk (Kd.S_below (by (with_reducible repeat (first | apply Kd.S_alloc | apply Kd.S_drewN | apply Kd.S_drew)); exact HO_228001.out) hb)
            have n1_ := Aside0.mk (Kd.R_below (by (with_reducible repeat (first | apply Kd.R_alloc | apply Kd.R_drewN | apply Kd.R_drew)); exact HO_236002.out) hb)
            have n2_ := Aside0.mk (Kd.R_below (by (with_reducible repeat (first | apply Kd.R_alloc | apply Kd.R_drewN | apply Kd.R_drew)); exact HO_244002.out) hb)
            have n3_ := Aside0.mk (Kd.S_below (by (with_reducible repeat (first | apply Kd.S_alloc | apply Kd.S_drewN | apply Kd.S_drew)); exact HO_250001.out) hb)
            have n4_ := Aside0.mk (Kd.S_below (by (with_reducible repeat (first | apply Kd.S_alloc | apply Kd.S_drewN | apply Kd.S_drew)); exact HO_256001.out) hb)
            have n5_ := Aside0.mk (Kd.S_below (by (with_reducible repeat (first | apply Kd.S_alloc | apply Kd.S_drewN | apply Kd.S_drew)); exact HO_263001.out) hb)
            have n6_ := Aside0.mk (Kd.S_below (by (with_reducible repeat (first | apply Kd.S_alloc | apply Kd.S_drewN | apply Kd.S_drew)); exact HO_270001.out) hb)
            have n7_ := Aside0.mk (blk_below (g := gb222) (o := .cells #[.int .i64 a0_0, .slice A0_1 l0_1.length c0_1] 24 (0, 0)) (by (with_reducible repeat (first | refine blk_drewN ?_ _ | refine blk_drew ?_ | refine blk_alloc ?_ _)); exact BK222.out) hb)
            have n8_ := Aside0.mk (blk_below (g := gb227) (o := .cells #[.int .i64 t223, .slice Ao22 t224.length co22] 24 (0, 0)) (by (with_reducible repeat (first | refine blk_drewN ?_ _ | refine blk_drew ?_ | refine blk_alloc ?_ _)); exact BK227.out) hb)
            have n9_ := Aside0.mk (blk_below (g := gb235) (o := .cells #[.int .i64 t229, .int .i64 t230, .slice Ao28 t231.length co28] 32 (0, 0)) (by (with_reducible repeat (first | refine blk_drewN ?_ _ | refine blk_drew ?_ | refine blk_alloc ?_ _)); exact BK235.out) hb)
            have n10_ := Aside0.mk (blk_below (g := gb243) (o := .cells #[.int .i64 t237, .int .i64 t238, .slice Ao36 t239.length co36] 32 (0, 0)) (by (with_reducible repeat (first | refine blk_drewN ?_ _ | refine blk_drew ?_ | refine blk_alloc ?_ _)); exact BK243.out) hb)
            have n11_ := Aside0.mk (blk_below (g := gb249) (o := .cells #[.int .i64 t244, .slice Ao45 t245.length co45] 24 (0, 0)) (by (with_reducible repeat (first | refine blk_drewN ?_ _ | refine blk_drew ?_ | refine blk_alloc ?_ _)); exact BK249.out) hb)
            have n12_ := Aside0.mk (blk_below (g := gb255) (o := .cells #[.int .i64 t250, .slice Ao55 t251.length co55] 24 (0, 0)) (by (with_reducible repeat (first | refine blk_drewN ?_ _ | refine blk_drew ?_ | refine blk_alloc ?_ _)); exact BK255.out) hb)
            have n13_ := Aside0.mk (blk_below (g := gb262) (o := .cells #[.int .i64 t256, .slice Ao66 t257.length co66] 24 (0, 0)) (by (with_reducible repeat (first | refine blk_drewN ?_ _ | refine blk_drew ?_ | refine blk_alloc ?_ _)); exact BK262.out) hb)
            have n14_ := Aside0.mk (blk_below (g := gb269) (o := .cells #[.int .i64 t263, .slice Ao78 t264.length co78] 24 (0, 0)) (by (with_reducible repeat (first | refine blk_drewN ?_ _ | refine blk_drew ?_ | refine blk_alloc ?_ _)); exact BK269.out) hb)
            have n15_ := Aside0.mk (below_step (by repeat (first | (with_reducible first | exact HB.out | apply below_alloc | apply pw_below_drewN | apply below_drew1 | refine below_set ?_ GE222.out | refine below_set ?_ GE227.out | refine below_set ?_ GE235.out | refine below_set ?_ GE243.out | refine below_set ?_ GE249.out | refine below_set ?_ GE255.out | refine below_set ?_ GE262.out | refine below_set ?_ GE269.out) | exact HB.out)) hb)
            clear HO_228001
            clear HO_236002
            clear HO_244002
            clear HO_250001
            clear HO_256001
            clear HO_263001
            clear HO_270001
            clear BK222
            clear BK227
            clear BK235
            clear BK243
            clear BK249
            clear BK255
            clear BK262
            clear BK269
            clear HB
            have HO_228001 := n0_
            have HO_236002 := n1_
            have HO_244002 := n2_
            have HO_250001 := n3_
            have HO_256001 := n4_
            have HO_263001 := n5_
            have HO_270001 := n6_
            have BK222 := n7_
            have BK227 := n8_
            have BK235 := n9_
            have BK243 := n10_
            have BK249 := n11_
            have BK255 := n12_
            have BK262 := n13_
            have BK269 := n14_
            have HB := n15_
            clear n0_ n1_ n2_ n3_ n4_ n5_ n6_ n7_ n8_ n9_ n10_ n11_ n12_ n13_ n14_ n15_
            (try clear hb)
            (try clear hb2)
            (try clear hk)
            (try clear hi)
            refine hK.out _ _ ⟨(blk_cell BK227.out 0).trans rfl, (blk_cell BK227.out 1).trans rfl, (blk_cell BK222.out 0).trans rfl, (blk_cell BK222.out 1).trans rfl⟩ (fun hHeld => ?_)
            clear hK K
            refine norm_ (a' := ?_) ?_ ?_
            rotate_left
            · show Act.put _ (some 162) _ = _
              simp only [Act.put, List.setIfInBounds_toArray, List.set_cons_zero, List.set_cons_succ, i64_w, i32_w]
              rfl
            refine pure_ (i := 15) (N := some 163) (v := ?_) (a' := ?_) #[true, true, true, true, true, true, true, true, true, true, true, true, true, true, true, true, false] rfl rfl (any_of HT_.out (by kernel_rfl)) (fun _ _ _ h => h) (Or.inl ⟨by rfl, ?_⟩) ?_ ?_
            rotate_left
            · intro w'
              go_simp
              with_reducible rfl
            rotate_left
            · simp only [Act.put, List.setIfInBounds_toArray, List.set_cons_zero, List.set_cons_succ, i64_w, i32_w]
              rfl
            refine pure_ (i := 16) (N := some 10) (v := ?_) (a' := ?_) #[true, true, true, true, true, true, true, true, true, true, true, true, true, true, true, true, true] rfl rfl (any_of HT_.out (by kernel_rfl)) (fun _ _ _ h => h) (Or.inl ⟨by rfl, ?_⟩) ?_ ?_
            rotate_left
            · intro w'
              go_simp
              with_reducible rfl
            rotate_left
            · simp only [Act.put, List.setIfInBounds_toArray, List.set_cons_zero, List.set_cons_succ, i64_w, i32_w]
              rfl
            refine done_ (done_of HT_.out (by kernel_rfl)) ?_
            try go_wp2
            go_ret
            exact ⟨by first | rfl | (simp [errW_none, errW_some] <;> rfl) | (simp [*, errW_none, errW_some] <;> rfl), by repeat (first | (with_reducible first | exact HB.out | apply below_alloc | apply pw_below_drewN | apply below_drew1 | refine below_set ?_ GE222.out | refine below_set ?_ GE227.out | refine below_set ?_ GE235.out | refine below_set ?_ GE243.out | refine below_set ?_ GE249.out | refine below_set ?_ GE255.out | refine below_set ?_ GE262.out | refine below_set ?_ GE269.out) | exact HB.out)⟩
          · replace c378 := Bool.eq_false_iff.mpr c378
            subst c378
            have H1 : (some false) = some r := by rw [if_neg (show ¬ (false = true) by decide)] at H; exact H
            clear H
            have H := H1
            clear H1
            obtain rfl := Option.some.inj H
            cases hrt
        · rw [if_neg c376] at H
          have c376b0 : (t287 == t288) = false := beq_eq_false_iff_ne.mpr c376
          have c376b1 : (t287 != t288) = true := bne_iff_ne.mpr c376
          obtain rfl := Option.some.inj H
          cases hrt
end Go.Proofs.Ytkdkjnjiianogaa.G
end
