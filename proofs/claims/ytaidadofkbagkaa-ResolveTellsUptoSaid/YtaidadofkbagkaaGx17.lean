-- Made by wip/tools/xprint.py (over the kit's print program) for this claim.
import Derived.Test.YtaidadofkbagkaaGx0
import Derived.Test.YtaidadofkbagkaaGx2
import Derived.Test.YtaidadofkbagkaaGx3
import Derived.Test.YtaidadofkbagkaaGx4
import Derived.Test.YtaidadofkbagkaaGx5
import Derived.Test.YtaidadofkbagkaaGx7
import Derived.Test.YtaidadofkbagkaaGx8
import Derived.Test.YtaidadofkbagkaaGx9
import Derived.Test.YtaidadofkbagkaaGx10
import Derived.Test.YtaidadofkbagkaaGx11
import Derived.Test.YtaidadofkbagkaaGx12
import Derived.Test.YtaidadofkbagkaaGx14
import Derived.Test.YtaidadofkbagkaaGx15
import Derived.Test.YtaidadofkbagkaaGx16
namespace Go.Proofs.Ytaidadofkbagkaa.G
open WB Go.RowKit Go.Proofs.YtaidadofkbagkaaW.PrintWords Go.Proofs.YtaidadofkbagkaaW.PrintLast Go.Proofs.YtaidadofkbagkaaW.PrintMore
attribute [local go_sem] max2_int min2_int max_two min_two max_three min_three max_four min_four   -- for this text's walks alone
set_option linter.unusedVariables false
set_option linter.unusedSimpArgs false

/-! ### waybilllaw21_ResolveTells: function 8 -/
def waybilllaw21_ResolveTells.j0 : Nat → List (S36) → Int → List (S36) → Int → Int → Int → Int → Int → Bool → Int → List (S36) → Int → List (S36) → Option (Bool)
  | 0, _, _, _, _, _, _, _, _, _, _, _, _, _ => none
  | k + 1, x28, x29, x30, x31, x32, x33, x34, x35, x154, x203000, x203001, x210000, x210001 => if x154 = true then (some false) else ((waybillplain_SameBackends.f k x28 x30).bind fun t276 => (if t276 = true then ((waybilllaw21_num.f x29).bind fun t277 => (if t277 = x31 then (if x32 = x34 then ((waybilllaw21_num.f x33).bind fun t278 => (if t278 = x35 then ((resolve_Check.f x210000 x210001).bind fun t279 => ((waybilllaw21_num.f t279).bind fun t280 => ((waybillref21_Check.f k x203000 x203001).bind fun t281 => (if t280 = t281 then ((waybillref21_Same.f k x210000 x210001 x203000 x203001).bind fun t282 => (if t282 = true then ((waybilllaw21_alive.f).bind fun t283 => (some t283)) else (some false))) else (some false))))) else (some false))) else (some false)) else (some false))) else (some false)))
def waybilllaw21_ResolveTells.f (k : Nat) (a0_0 : Int) (l0_1 : List (S36)) (a1_0 : Int) (l1_1 : List (S36)) (a2_0 : Int) (l2_1 : List (S36)) (l3 : List Int) : Option (Bool) := (waybillref21_Own.f a0_0 l0_1).bind fun bt205 => ((resolve_Apply.f bt205.1 bt205.2 ([(⟨a1_0, l1_1⟩ : S24), (⟨a2_0, l2_1⟩ : S24)] : List (S24))).bind fun bt212 => ((waybillref21_Apply.f k a0_0 l0_1 ([(⟨a1_0, l1_1⟩ : S24), (⟨a2_0, l2_1⟩ : S24)] : List (S24))).bind fun bt221 => ((resolve_IDs.f k bt205.1 bt205.2).bind fun bt228 => ((waybillref21_IDs.f k a0_0 l0_1).bind fun bt232 => ((resolve_Diff.f bt205.1 bt205.2 a1_0 l1_1).bind fun bt236 => ((waybillref21_Diff.f k a0_0 l0_1 a1_0 l1_1).bind fun bt246 => ((resolve_Pick.f bt205.1 bt205.2 l3).bind fun bt256 => ((waybillref21_Pick.f k a0_0 l0_1 l3).bind fun bt260 => ((resolve_Weight.f k bt205.1 bt205.2).bind fun bt264 => ((waybillref21_Weight.f k a0_0 l0_1).bind fun bt266 => ((waybillref21_Same.f k bt212.1 bt212.2.1 bt221.1 bt221.2.1).bind fun t268 => (if t268 = true then (if bt212.2.2.1 = bt221.2.2.1 then ((waybilllaw21_num.f bt212.2.2.2).bind fun t269 => (if t269 = bt221.2.2.2 then ((waybillplain_SameInts.f k bt228.1 bt232.1).bind fun t270 => (if t270 = true then ((waybilllaw21_num.f bt228.2).bind fun t271 => (if t271 = bt232.2 then ((waybillplain_SameInts.f k bt236.1 bt246.1).bind fun t272 => (if t272 = true then ((waybillplain_SameInts.f k bt236.2.1 bt246.2.1).bind fun t273 => (if t273 = true then ((waybillplain_SameInts.f k bt236.2.2.1 bt246.2.2.1).bind fun t274 => (if t274 = true then ((waybilllaw21_num.f bt236.2.2.2).bind fun t275 => (waybilllaw21_ResolveTells.j0 k bt256.1 bt256.2 bt260.1 bt260.2 bt264.1 bt264.2 bt266.1 bt266.2 (t275 != bt246.2.2.2) a0_0 l0_1 bt205.1 bt205.2)) else (waybilllaw21_ResolveTells.j0 k bt256.1 bt256.2 bt260.1 bt260.2 bt264.1 bt264.2 bt266.1 bt266.2 true a0_0 l0_1 bt205.1 bt205.2))) else (waybilllaw21_ResolveTells.j0 k bt256.1 bt256.2 bt260.1 bt260.2 bt264.1 bt264.2 bt266.1 bt266.2 true a0_0 l0_1 bt205.1 bt205.2))) else (waybilllaw21_ResolveTells.j0 k bt256.1 bt256.2 bt260.1 bt260.2 bt264.1 bt264.2 bt266.1 bt266.2 true a0_0 l0_1 bt205.1 bt205.2))) else (waybilllaw21_ResolveTells.j0 k bt256.1 bt256.2 bt260.1 bt260.2 bt264.1 bt264.2 bt266.1 bt266.2 true a0_0 l0_1 bt205.1 bt205.2))) else (waybilllaw21_ResolveTells.j0 k bt256.1 bt256.2 bt260.1 bt260.2 bt264.1 bt264.2 bt266.1 bt266.2 true a0_0 l0_1 bt205.1 bt205.2))) else (waybilllaw21_ResolveTells.j0 k bt256.1 bt256.2 bt260.1 bt260.2 bt264.1 bt264.2 bt266.1 bt266.2 true a0_0 l0_1 bt205.1 bt205.2))) else (waybilllaw21_ResolveTells.j0 k bt256.1 bt256.2 bt260.1 bt260.2 bt264.1 bt264.2 bt266.1 bt266.2 true a0_0 l0_1 bt205.1 bt205.2)) else (waybilllaw21_ResolveTells.j0 k bt256.1 bt256.2 bt260.1 bt260.2 bt264.1 bt264.2 bt266.1 bt266.2 true a0_0 l0_1 bt205.1 bt205.2)))))))))))))
theorem waybilllaw21_ResolveTells.mono_l : ∀ k, (∀ y0 y1 y2 y3 y4 y5 y6 y7 y8 y9 y10 y11 y12, LeO (waybilllaw21_ResolveTells.j0 k y0 y1 y2 y3 y4 y5 y6 y7 y8 y9 y10 y11 y12) (waybilllaw21_ResolveTells.j0 (k + 1) y0 y1 y2 y3 y4 y5 y6 y7 y8 y9 y10 y11 y12))
  | 0 => fun _ _ _ _ _ _ _ _ _ _ _ _ _ r h => by simp [waybilllaw21_ResolveTells.j0] at h
  | k + 1 => by
    have ih0 := waybilllaw21_ResolveTells.mono_l k
    · intro y0 y1 y2 y3 y4 y5 y6 y7 y8 y9 y10 y11 y12
      unfold waybilllaw21_ResolveTells.j0
      repeat' first
      | (with_reducible exact ih0 _ _ _ _ _ _ _ _ _ _ _ _ _)
      | (with_reducible exact resolve_IDs.mono _ _ _)
      | (with_reducible exact resolve_Weight.mono _ _ _)
      | (with_reducible exact waybillplain_SameBackends.mono _ _ _)
      | (with_reducible exact waybillplain_SameInts.mono _ _ _)
      | (with_reducible exact waybillref21_Apply.mono _ _ _ _)
      | (with_reducible exact waybillref21_Check.mono _ _ _)
      | (with_reducible exact waybillref21_Diff.mono _ _ _ _ _)
      | (with_reducible exact waybillref21_IDs.mono _ _ _)
      | (with_reducible exact waybillref21_Pick.mono _ _ _ _)
      | (with_reducible exact waybillref21_Same.mono _ _ _ _ _)
      | (with_reducible exact waybillref21_Weight.mono _ _ _)
      | (with_reducible exact LeO.refl _)
      | (with_reducible exact LeO.none _)
      | (with_reducible refine LeO.ite ?_ ?_)
      | (with_reducible refine LeO.bind ?_ (fun _ => ?_))
      | exact ih0 _ _ _ _ _ _ _ _ _ _ _ _ _
      | exact resolve_IDs.mono _ _ _
      | exact resolve_Weight.mono _ _ _
      | exact waybillplain_SameBackends.mono _ _ _
      | exact waybillplain_SameInts.mono _ _ _
      | exact waybillref21_Apply.mono _ _ _ _
      | exact waybillref21_Check.mono _ _ _
      | exact waybillref21_Diff.mono _ _ _ _ _
      | exact waybillref21_IDs.mono _ _ _
      | exact waybillref21_Pick.mono _ _ _ _
      | exact waybillref21_Same.mono _ _ _ _ _
      | exact waybillref21_Weight.mono _ _ _
      | exact LeO.none _
      | refine LeO.ite ?_ ?_
      | refine LeO.bind ?_ (fun _ => ?_)
theorem waybilllaw21_ResolveTells.mono : ∀ a0 a1 a2 a3 a4 a5 a6 k, LeO (waybilllaw21_ResolveTells.f k a0 a1 a2 a3 a4 a5 a6) (waybilllaw21_ResolveTells.f (k + 1) a0 a1 a2 a3 a4 a5 a6) := by
  intro a0 a1 a2 a3 a4 a5 a6 k
  have ih0 := waybilllaw21_ResolveTells.mono_l k
  unfold waybilllaw21_ResolveTells.f
  repeat' first
      | (with_reducible exact ih0 _ _ _ _ _ _ _ _ _ _ _ _ _)
      | (with_reducible exact resolve_IDs.mono _ _ _)
      | (with_reducible exact resolve_Weight.mono _ _ _)
      | (with_reducible exact waybillplain_SameBackends.mono _ _ _)
      | (with_reducible exact waybillplain_SameInts.mono _ _ _)
      | (with_reducible exact waybillref21_Apply.mono _ _ _ _)
      | (with_reducible exact waybillref21_Check.mono _ _ _)
      | (with_reducible exact waybillref21_Diff.mono _ _ _ _ _)
      | (with_reducible exact waybillref21_IDs.mono _ _ _)
      | (with_reducible exact waybillref21_Pick.mono _ _ _ _)
      | (with_reducible exact waybillref21_Same.mono _ _ _ _ _)
      | (with_reducible exact waybillref21_Weight.mono _ _ _)
      | (with_reducible exact LeO.refl _)
      | (with_reducible exact LeO.none _)
      | (with_reducible refine LeO.ite ?_ ?_)
      | (with_reducible refine LeO.bind ?_ (fun _ => ?_))
      | exact ih0 _ _ _ _ _ _ _ _ _ _ _ _ _
      | exact resolve_IDs.mono _ _ _
      | exact resolve_Weight.mono _ _ _
      | exact waybillplain_SameBackends.mono _ _ _
      | exact waybillplain_SameInts.mono _ _ _
      | exact waybillref21_Apply.mono _ _ _ _
      | exact waybillref21_Check.mono _ _ _
      | exact waybillref21_Diff.mono _ _ _ _ _
      | exact waybillref21_IDs.mono _ _ _
      | exact waybillref21_Pick.mono _ _ _ _
      | exact waybillref21_Same.mono _ _ _ _ _
      | exact waybillref21_Weight.mono _ _ _
      | exact LeO.none _
      | refine LeO.ite ?_ ?_
      | refine LeO.bind ?_ (fun _ => ?_)
def waybilllaw21_ResolveTells.T14 : Bool × List (List Nat × List Nat) := (true, [([], []), ([], []), ([0, 1], [0, 1]), ([2, 2], [2]), ([3], [3]), ([4, 3, 3], [3, 4]), ([3], [3]), ([5, 6, 3], [3, 5, 6]), ([3, 7], [3, 7]), ([8, 5], [8]), ([9], [9]), ([9], [9]), ([10, 11, 9], [9, 10, 11]), ([9, 12], [9, 12]), ([13, 9], [13]), ([14], [14]), ([15, 14, 14], [14, 15]), ([14], [14]), ([16, 17, 14], [14, 16, 17]), ([14, 18], [14, 18]), ([19, 16], [19]), ([20], [20]), ([21, 20, 20], [20, 21]), ([22, 22, 20], [20, 22]), ([20], [20]), ([24, 23, 20], [20, 24]), ([23, 25, 20], [20, 23, 25]), ([20, 26], [20, 26]), ([27, 25], [27]), ([28], [28]), ([28], [28]), ([29, 30, 28, 28], [28, 29, 30]), ([28, 31], [28, 31]), ([32, 31], [32]), ([33, 33], [33]), ([33, 34], [33, 34]), ([35, 34, 0, 1, 2, 3, 4, 5, 6, 7, 8, 9, 10, 11, 12, 13, 14, 15, 16, 17, 18, 19, 20, 21, 22, 23, 24, 25, 26, 27, 28, 29, 30, 31, 32, 33, 34, 35], [35])])
def waybilllaw21_ResolveTells.B14 : List Nat := [0, 0, 3, 7, 15, 31, 15, 127, 255, 511, 1023, 1023, 4095, 8191, 16383, 32767, 65535, 32767, 262143, 524287, 1048575, 2097151, 4194303, 8388607, 2097151, 33554431, 67108863, 134217727, 268435455, 536870911, 536870911, 2147483647, 4294967295, 8589934591, 17179869183, 34359738367, 68719476735]
theorem waybilllaw21_ResolveTells.tab14 : rtab .any (opsOf Try.f8 14) = waybilllaw21_ResolveTells.T14 := by kernel_rfl
theorem waybilllaw21_ResolveTells.bits14 : waitsOk waybilllaw21_ResolveTells.T14.2 waybilllaw21_ResolveTells.B14 = true := by kernel_rfl
set_option maxHeartbeats 8000000 in
set_option maxRecDepth 100000 in
theorem waybilllaw21_ResolveTells.calls (k : Nat) (a0_0 : Int) (A0_1 : Option Addr) (c0_1 : Nat) (l0_1 : List (S36)) (a1_0 : Int) (A1_1 : Option Addr) (c1_1 : Nat) (l1_1 : List (S36)) (a2_0 : Int) (A2_1 : Option Addr) (c2_1 : Nat) (l2_1 : List (S36)) (A3 : Option Addr) (c3 : Nat) (l3 : List Int) (r : Bool) (w : World) (hr0_1 : Kd.C k36 w A0_1 l0_1.length l0_1) (hc0_1 : l0_1.length ≤ c0_1) (hr1_1 : Kd.C k36 w A1_1 l1_1.length l1_1) (hc1_1 : l1_1.length ≤ c1_1) (hr2_1 : Kd.C k36 w A2_1 l2_1.length l2_1) (hc2_1 : l2_1.length ≤ c2_1) (hr3 : Kd.C (Kd.int .i64) w A3 l3.length l3) (hc3 : l3.length ≤ c3) (h : waybilllaw21_ResolveTells.f k a0_0 l0_1 a1_0 l1_1 a2_0 l2_1 l3 = some r)  (hrt : r = true) :
    Calls Try.prog 8 #[.agg #[.int .i64 a0_0, .slice A0_1 l0_1.length c0_1], .agg #[.int .i64 a1_0, .slice A1_1 l1_1.length c1_1], .agg #[.int .i64 a2_0, .slice A2_1 l2_1.length c2_1], .slice A3 l3.length c3] w fun e w' => e = .returned (.bool r) ∧ Below w.heap.size w w' := by
  have hu24 := Try.underlying24
  have HR0_1 := am hr0_1
  have HC0_1 := am hc0_1
  clear hr0_1 hc0_1
  have HR1_1 := am hr1_1
  have HC1_1 := am hc1_1
  clear hr1_1 hc1_1
  have HR2_1 := am hr2_1
  have HC2_1 := am hc2_1
  clear hr2_1 hc2_1
  have HR3 := am hr3
  have HC3 := am hc3
  clear hr3 hc3
  have HB := am (Below.refl w.heap.size w)
  have H : ((waybillref21_Own.f a0_0 l0_1).bind fun bt205 => ((resolve_Apply.f bt205.1 bt205.2 ([(⟨a1_0, l1_1⟩ : S24), (⟨a2_0, l2_1⟩ : S24)] : List (S24))).bind fun bt212 => ((waybillref21_Apply.f k a0_0 l0_1 ([(⟨a1_0, l1_1⟩ : S24), (⟨a2_0, l2_1⟩ : S24)] : List (S24))).bind fun bt221 => ((resolve_IDs.f k bt205.1 bt205.2).bind fun bt228 => ((waybillref21_IDs.f k a0_0 l0_1).bind fun bt232 => ((resolve_Diff.f bt205.1 bt205.2 a1_0 l1_1).bind fun bt236 => ((waybillref21_Diff.f k a0_0 l0_1 a1_0 l1_1).bind fun bt246 => ((resolve_Pick.f bt205.1 bt205.2 l3).bind fun bt256 => ((waybillref21_Pick.f k a0_0 l0_1 l3).bind fun bt260 => ((resolve_Weight.f k bt205.1 bt205.2).bind fun bt264 => ((waybillref21_Weight.f k a0_0 l0_1).bind fun bt266 => ((waybillref21_Same.f k bt212.1 bt212.2.1 bt221.1 bt221.2.1).bind fun t268 => (if t268 = true then (if bt212.2.2.1 = bt221.2.2.1 then ((waybilllaw21_num.f bt212.2.2.2).bind fun t269 => (if t269 = bt221.2.2.2 then ((waybillplain_SameInts.f k bt228.1 bt232.1).bind fun t270 => (if t270 = true then ((waybilllaw21_num.f bt228.2).bind fun t271 => (if t271 = bt232.2 then ((waybillplain_SameInts.f k bt236.1 bt246.1).bind fun t272 => (if t272 = true then ((waybillplain_SameInts.f k bt236.2.1 bt246.2.1).bind fun t273 => (if t273 = true then ((waybillplain_SameInts.f k bt236.2.2.1 bt246.2.2.1).bind fun t274 => (if t274 = true then ((waybilllaw21_num.f bt236.2.2.2).bind fun t275 => (waybilllaw21_ResolveTells.j0 k bt256.1 bt256.2 bt260.1 bt260.2 bt264.1 bt264.2 bt266.1 bt266.2 (t275 != bt246.2.2.2) a0_0 l0_1 bt205.1 bt205.2)) else (waybilllaw21_ResolveTells.j0 k bt256.1 bt256.2 bt260.1 bt260.2 bt264.1 bt264.2 bt266.1 bt266.2 true a0_0 l0_1 bt205.1 bt205.2))) else (waybilllaw21_ResolveTells.j0 k bt256.1 bt256.2 bt260.1 bt260.2 bt264.1 bt264.2 bt266.1 bt266.2 true a0_0 l0_1 bt205.1 bt205.2))) else (waybilllaw21_ResolveTells.j0 k bt256.1 bt256.2 bt260.1 bt260.2 bt264.1 bt264.2 bt266.1 bt266.2 true a0_0 l0_1 bt205.1 bt205.2))) else (waybilllaw21_ResolveTells.j0 k bt256.1 bt256.2 bt260.1 bt260.2 bt264.1 bt264.2 bt266.1 bt266.2 true a0_0 l0_1 bt205.1 bt205.2))) else (waybilllaw21_ResolveTells.j0 k bt256.1 bt256.2 bt260.1 bt260.2 bt264.1 bt264.2 bt266.1 bt266.2 true a0_0 l0_1 bt205.1 bt205.2))) else (waybilllaw21_ResolveTells.j0 k bt256.1 bt256.2 bt260.1 bt260.2 bt264.1 bt264.2 bt266.1 bt266.2 true a0_0 l0_1 bt205.1 bt205.2))) else (waybilllaw21_ResolveTells.j0 k bt256.1 bt256.2 bt260.1 bt260.2 bt264.1 bt264.2 bt266.1 bt266.2 true a0_0 l0_1 bt205.1 bt205.2)) else (waybilllaw21_ResolveTells.j0 k bt256.1 bt256.2 bt260.1 bt260.2 bt264.1 bt264.2 bt266.1 bt266.2 true a0_0 l0_1 bt205.1 bt205.2)))))))))))))) = some r := h
  clear h
  replace H := Option.bind_eq_some_iff.mp H
  obtain ⟨⟨t205, t206⟩, A50, H⟩ := H
  replace H : ((resolve_Apply.f t205 t206 ([(⟨a1_0, l1_1⟩ : S24), (⟨a2_0, l2_1⟩ : S24)] : List (S24))).bind fun bt212 => ((waybillref21_Apply.f k a0_0 l0_1 ([(⟨a1_0, l1_1⟩ : S24), (⟨a2_0, l2_1⟩ : S24)] : List (S24))).bind fun bt221 => ((resolve_IDs.f k t205 t206).bind fun bt228 => ((waybillref21_IDs.f k a0_0 l0_1).bind fun bt232 => ((resolve_Diff.f t205 t206 a1_0 l1_1).bind fun bt236 => ((waybillref21_Diff.f k a0_0 l0_1 a1_0 l1_1).bind fun bt246 => ((resolve_Pick.f t205 t206 l3).bind fun bt256 => ((waybillref21_Pick.f k a0_0 l0_1 l3).bind fun bt260 => ((resolve_Weight.f k t205 t206).bind fun bt264 => ((waybillref21_Weight.f k a0_0 l0_1).bind fun bt266 => ((waybillref21_Same.f k bt212.1 bt212.2.1 bt221.1 bt221.2.1).bind fun t268 => (if t268 = true then (if bt212.2.2.1 = bt221.2.2.1 then ((waybilllaw21_num.f bt212.2.2.2).bind fun t269 => (if t269 = bt221.2.2.2 then ((waybillplain_SameInts.f k bt228.1 bt232.1).bind fun t270 => (if t270 = true then ((waybilllaw21_num.f bt228.2).bind fun t271 => (if t271 = bt232.2 then ((waybillplain_SameInts.f k bt236.1 bt246.1).bind fun t272 => (if t272 = true then ((waybillplain_SameInts.f k bt236.2.1 bt246.2.1).bind fun t273 => (if t273 = true then ((waybillplain_SameInts.f k bt236.2.2.1 bt246.2.2.1).bind fun t274 => (if t274 = true then ((waybilllaw21_num.f bt236.2.2.2).bind fun t275 => (waybilllaw21_ResolveTells.j0 k bt256.1 bt256.2 bt260.1 bt260.2 bt264.1 bt264.2 bt266.1 bt266.2 (t275 != bt246.2.2.2) a0_0 l0_1 t205 t206)) else (waybilllaw21_ResolveTells.j0 k bt256.1 bt256.2 bt260.1 bt260.2 bt264.1 bt264.2 bt266.1 bt266.2 true a0_0 l0_1 t205 t206))) else (waybilllaw21_ResolveTells.j0 k bt256.1 bt256.2 bt260.1 bt260.2 bt264.1 bt264.2 bt266.1 bt266.2 true a0_0 l0_1 t205 t206))) else (waybilllaw21_ResolveTells.j0 k bt256.1 bt256.2 bt260.1 bt260.2 bt264.1 bt264.2 bt266.1 bt266.2 true a0_0 l0_1 t205 t206))) else (waybilllaw21_ResolveTells.j0 k bt256.1 bt256.2 bt260.1 bt260.2 bt264.1 bt264.2 bt266.1 bt266.2 true a0_0 l0_1 t205 t206))) else (waybilllaw21_ResolveTells.j0 k bt256.1 bt256.2 bt260.1 bt260.2 bt264.1 bt264.2 bt266.1 bt266.2 true a0_0 l0_1 t205 t206))) else (waybilllaw21_ResolveTells.j0 k bt256.1 bt256.2 bt260.1 bt260.2 bt264.1 bt264.2 bt266.1 bt266.2 true a0_0 l0_1 t205 t206))) else (waybilllaw21_ResolveTells.j0 k bt256.1 bt256.2 bt260.1 bt260.2 bt264.1 bt264.2 bt266.1 bt266.2 true a0_0 l0_1 t205 t206)) else (waybilllaw21_ResolveTells.j0 k bt256.1 bt256.2 bt260.1 bt260.2 bt264.1 bt264.2 bt266.1 bt266.2 true a0_0 l0_1 t205 t206))))))))))))) = some r := H
  have A5 := am A50
  clear A50
  replace H := Option.bind_eq_some_iff.mp H
  obtain ⟨⟨t212, t213, t216, t217⟩, A60, H⟩ := H
  replace H : ((waybillref21_Apply.f k a0_0 l0_1 ([(⟨a1_0, l1_1⟩ : S24), (⟨a2_0, l2_1⟩ : S24)] : List (S24))).bind fun bt221 => ((resolve_IDs.f k t205 t206).bind fun bt228 => ((waybillref21_IDs.f k a0_0 l0_1).bind fun bt232 => ((resolve_Diff.f t205 t206 a1_0 l1_1).bind fun bt236 => ((waybillref21_Diff.f k a0_0 l0_1 a1_0 l1_1).bind fun bt246 => ((resolve_Pick.f t205 t206 l3).bind fun bt256 => ((waybillref21_Pick.f k a0_0 l0_1 l3).bind fun bt260 => ((resolve_Weight.f k t205 t206).bind fun bt264 => ((waybillref21_Weight.f k a0_0 l0_1).bind fun bt266 => ((waybillref21_Same.f k t212 t213 bt221.1 bt221.2.1).bind fun t268 => (if t268 = true then (if t216 = bt221.2.2.1 then ((waybilllaw21_num.f t217).bind fun t269 => (if t269 = bt221.2.2.2 then ((waybillplain_SameInts.f k bt228.1 bt232.1).bind fun t270 => (if t270 = true then ((waybilllaw21_num.f bt228.2).bind fun t271 => (if t271 = bt232.2 then ((waybillplain_SameInts.f k bt236.1 bt246.1).bind fun t272 => (if t272 = true then ((waybillplain_SameInts.f k bt236.2.1 bt246.2.1).bind fun t273 => (if t273 = true then ((waybillplain_SameInts.f k bt236.2.2.1 bt246.2.2.1).bind fun t274 => (if t274 = true then ((waybilllaw21_num.f bt236.2.2.2).bind fun t275 => (waybilllaw21_ResolveTells.j0 k bt256.1 bt256.2 bt260.1 bt260.2 bt264.1 bt264.2 bt266.1 bt266.2 (t275 != bt246.2.2.2) a0_0 l0_1 t205 t206)) else (waybilllaw21_ResolveTells.j0 k bt256.1 bt256.2 bt260.1 bt260.2 bt264.1 bt264.2 bt266.1 bt266.2 true a0_0 l0_1 t205 t206))) else (waybilllaw21_ResolveTells.j0 k bt256.1 bt256.2 bt260.1 bt260.2 bt264.1 bt264.2 bt266.1 bt266.2 true a0_0 l0_1 t205 t206))) else (waybilllaw21_ResolveTells.j0 k bt256.1 bt256.2 bt260.1 bt260.2 bt264.1 bt264.2 bt266.1 bt266.2 true a0_0 l0_1 t205 t206))) else (waybilllaw21_ResolveTells.j0 k bt256.1 bt256.2 bt260.1 bt260.2 bt264.1 bt264.2 bt266.1 bt266.2 true a0_0 l0_1 t205 t206))) else (waybilllaw21_ResolveTells.j0 k bt256.1 bt256.2 bt260.1 bt260.2 bt264.1 bt264.2 bt266.1 bt266.2 true a0_0 l0_1 t205 t206))) else (waybilllaw21_ResolveTells.j0 k bt256.1 bt256.2 bt260.1 bt260.2 bt264.1 bt264.2 bt266.1 bt266.2 true a0_0 l0_1 t205 t206))) else (waybilllaw21_ResolveTells.j0 k bt256.1 bt256.2 bt260.1 bt260.2 bt264.1 bt264.2 bt266.1 bt266.2 true a0_0 l0_1 t205 t206)) else (waybilllaw21_ResolveTells.j0 k bt256.1 bt256.2 bt260.1 bt260.2 bt264.1 bt264.2 bt266.1 bt266.2 true a0_0 l0_1 t205 t206)))))))))))) = some r := H
  have A6 := am A60
  clear A60
  replace H := Option.bind_eq_some_iff.mp H
  obtain ⟨⟨t221, t222, t225, t226⟩, A70, H⟩ := H
  replace H : ((resolve_IDs.f k t205 t206).bind fun bt228 => ((waybillref21_IDs.f k a0_0 l0_1).bind fun bt232 => ((resolve_Diff.f t205 t206 a1_0 l1_1).bind fun bt236 => ((waybillref21_Diff.f k a0_0 l0_1 a1_0 l1_1).bind fun bt246 => ((resolve_Pick.f t205 t206 l3).bind fun bt256 => ((waybillref21_Pick.f k a0_0 l0_1 l3).bind fun bt260 => ((resolve_Weight.f k t205 t206).bind fun bt264 => ((waybillref21_Weight.f k a0_0 l0_1).bind fun bt266 => ((waybillref21_Same.f k t212 t213 t221 t222).bind fun t268 => (if t268 = true then (if t216 = t225 then ((waybilllaw21_num.f t217).bind fun t269 => (if t269 = t226 then ((waybillplain_SameInts.f k bt228.1 bt232.1).bind fun t270 => (if t270 = true then ((waybilllaw21_num.f bt228.2).bind fun t271 => (if t271 = bt232.2 then ((waybillplain_SameInts.f k bt236.1 bt246.1).bind fun t272 => (if t272 = true then ((waybillplain_SameInts.f k bt236.2.1 bt246.2.1).bind fun t273 => (if t273 = true then ((waybillplain_SameInts.f k bt236.2.2.1 bt246.2.2.1).bind fun t274 => (if t274 = true then ((waybilllaw21_num.f bt236.2.2.2).bind fun t275 => (waybilllaw21_ResolveTells.j0 k bt256.1 bt256.2 bt260.1 bt260.2 bt264.1 bt264.2 bt266.1 bt266.2 (t275 != bt246.2.2.2) a0_0 l0_1 t205 t206)) else (waybilllaw21_ResolveTells.j0 k bt256.1 bt256.2 bt260.1 bt260.2 bt264.1 bt264.2 bt266.1 bt266.2 true a0_0 l0_1 t205 t206))) else (waybilllaw21_ResolveTells.j0 k bt256.1 bt256.2 bt260.1 bt260.2 bt264.1 bt264.2 bt266.1 bt266.2 true a0_0 l0_1 t205 t206))) else (waybilllaw21_ResolveTells.j0 k bt256.1 bt256.2 bt260.1 bt260.2 bt264.1 bt264.2 bt266.1 bt266.2 true a0_0 l0_1 t205 t206))) else (waybilllaw21_ResolveTells.j0 k bt256.1 bt256.2 bt260.1 bt260.2 bt264.1 bt264.2 bt266.1 bt266.2 true a0_0 l0_1 t205 t206))) else (waybilllaw21_ResolveTells.j0 k bt256.1 bt256.2 bt260.1 bt260.2 bt264.1 bt264.2 bt266.1 bt266.2 true a0_0 l0_1 t205 t206))) else (waybilllaw21_ResolveTells.j0 k bt256.1 bt256.2 bt260.1 bt260.2 bt264.1 bt264.2 bt266.1 bt266.2 true a0_0 l0_1 t205 t206))) else (waybilllaw21_ResolveTells.j0 k bt256.1 bt256.2 bt260.1 bt260.2 bt264.1 bt264.2 bt266.1 bt266.2 true a0_0 l0_1 t205 t206)) else (waybilllaw21_ResolveTells.j0 k bt256.1 bt256.2 bt260.1 bt260.2 bt264.1 bt264.2 bt266.1 bt266.2 true a0_0 l0_1 t205 t206))))))))))) = some r := H
  have A7 := am A70
  clear A70
  replace H := Option.bind_eq_some_iff.mp H
  obtain ⟨⟨t228, t231⟩, A80, H⟩ := H
  replace H : ((waybillref21_IDs.f k a0_0 l0_1).bind fun bt232 => ((resolve_Diff.f t205 t206 a1_0 l1_1).bind fun bt236 => ((waybillref21_Diff.f k a0_0 l0_1 a1_0 l1_1).bind fun bt246 => ((resolve_Pick.f t205 t206 l3).bind fun bt256 => ((waybillref21_Pick.f k a0_0 l0_1 l3).bind fun bt260 => ((resolve_Weight.f k t205 t206).bind fun bt264 => ((waybillref21_Weight.f k a0_0 l0_1).bind fun bt266 => ((waybillref21_Same.f k t212 t213 t221 t222).bind fun t268 => (if t268 = true then (if t216 = t225 then ((waybilllaw21_num.f t217).bind fun t269 => (if t269 = t226 then ((waybillplain_SameInts.f k t228 bt232.1).bind fun t270 => (if t270 = true then ((waybilllaw21_num.f t231).bind fun t271 => (if t271 = bt232.2 then ((waybillplain_SameInts.f k bt236.1 bt246.1).bind fun t272 => (if t272 = true then ((waybillplain_SameInts.f k bt236.2.1 bt246.2.1).bind fun t273 => (if t273 = true then ((waybillplain_SameInts.f k bt236.2.2.1 bt246.2.2.1).bind fun t274 => (if t274 = true then ((waybilllaw21_num.f bt236.2.2.2).bind fun t275 => (waybilllaw21_ResolveTells.j0 k bt256.1 bt256.2 bt260.1 bt260.2 bt264.1 bt264.2 bt266.1 bt266.2 (t275 != bt246.2.2.2) a0_0 l0_1 t205 t206)) else (waybilllaw21_ResolveTells.j0 k bt256.1 bt256.2 bt260.1 bt260.2 bt264.1 bt264.2 bt266.1 bt266.2 true a0_0 l0_1 t205 t206))) else (waybilllaw21_ResolveTells.j0 k bt256.1 bt256.2 bt260.1 bt260.2 bt264.1 bt264.2 bt266.1 bt266.2 true a0_0 l0_1 t205 t206))) else (waybilllaw21_ResolveTells.j0 k bt256.1 bt256.2 bt260.1 bt260.2 bt264.1 bt264.2 bt266.1 bt266.2 true a0_0 l0_1 t205 t206))) else (waybilllaw21_ResolveTells.j0 k bt256.1 bt256.2 bt260.1 bt260.2 bt264.1 bt264.2 bt266.1 bt266.2 true a0_0 l0_1 t205 t206))) else (waybilllaw21_ResolveTells.j0 k bt256.1 bt256.2 bt260.1 bt260.2 bt264.1 bt264.2 bt266.1 bt266.2 true a0_0 l0_1 t205 t206))) else (waybilllaw21_ResolveTells.j0 k bt256.1 bt256.2 bt260.1 bt260.2 bt264.1 bt264.2 bt266.1 bt266.2 true a0_0 l0_1 t205 t206))) else (waybilllaw21_ResolveTells.j0 k bt256.1 bt256.2 bt260.1 bt260.2 bt264.1 bt264.2 bt266.1 bt266.2 true a0_0 l0_1 t205 t206)) else (waybilllaw21_ResolveTells.j0 k bt256.1 bt256.2 bt260.1 bt260.2 bt264.1 bt264.2 bt266.1 bt266.2 true a0_0 l0_1 t205 t206)))))))))) = some r := H
  have A8 := am A80
  clear A80
  replace H := Option.bind_eq_some_iff.mp H
  obtain ⟨⟨t232, t235⟩, A90, H⟩ := H
  replace H : ((resolve_Diff.f t205 t206 a1_0 l1_1).bind fun bt236 => ((waybillref21_Diff.f k a0_0 l0_1 a1_0 l1_1).bind fun bt246 => ((resolve_Pick.f t205 t206 l3).bind fun bt256 => ((waybillref21_Pick.f k a0_0 l0_1 l3).bind fun bt260 => ((resolve_Weight.f k t205 t206).bind fun bt264 => ((waybillref21_Weight.f k a0_0 l0_1).bind fun bt266 => ((waybillref21_Same.f k t212 t213 t221 t222).bind fun t268 => (if t268 = true then (if t216 = t225 then ((waybilllaw21_num.f t217).bind fun t269 => (if t269 = t226 then ((waybillplain_SameInts.f k t228 t232).bind fun t270 => (if t270 = true then ((waybilllaw21_num.f t231).bind fun t271 => (if t271 = t235 then ((waybillplain_SameInts.f k bt236.1 bt246.1).bind fun t272 => (if t272 = true then ((waybillplain_SameInts.f k bt236.2.1 bt246.2.1).bind fun t273 => (if t273 = true then ((waybillplain_SameInts.f k bt236.2.2.1 bt246.2.2.1).bind fun t274 => (if t274 = true then ((waybilllaw21_num.f bt236.2.2.2).bind fun t275 => (waybilllaw21_ResolveTells.j0 k bt256.1 bt256.2 bt260.1 bt260.2 bt264.1 bt264.2 bt266.1 bt266.2 (t275 != bt246.2.2.2) a0_0 l0_1 t205 t206)) else (waybilllaw21_ResolveTells.j0 k bt256.1 bt256.2 bt260.1 bt260.2 bt264.1 bt264.2 bt266.1 bt266.2 true a0_0 l0_1 t205 t206))) else (waybilllaw21_ResolveTells.j0 k bt256.1 bt256.2 bt260.1 bt260.2 bt264.1 bt264.2 bt266.1 bt266.2 true a0_0 l0_1 t205 t206))) else (waybilllaw21_ResolveTells.j0 k bt256.1 bt256.2 bt260.1 bt260.2 bt264.1 bt264.2 bt266.1 bt266.2 true a0_0 l0_1 t205 t206))) else (waybilllaw21_ResolveTells.j0 k bt256.1 bt256.2 bt260.1 bt260.2 bt264.1 bt264.2 bt266.1 bt266.2 true a0_0 l0_1 t205 t206))) else (waybilllaw21_ResolveTells.j0 k bt256.1 bt256.2 bt260.1 bt260.2 bt264.1 bt264.2 bt266.1 bt266.2 true a0_0 l0_1 t205 t206))) else (waybilllaw21_ResolveTells.j0 k bt256.1 bt256.2 bt260.1 bt260.2 bt264.1 bt264.2 bt266.1 bt266.2 true a0_0 l0_1 t205 t206))) else (waybilllaw21_ResolveTells.j0 k bt256.1 bt256.2 bt260.1 bt260.2 bt264.1 bt264.2 bt266.1 bt266.2 true a0_0 l0_1 t205 t206)) else (waybilllaw21_ResolveTells.j0 k bt256.1 bt256.2 bt260.1 bt260.2 bt264.1 bt264.2 bt266.1 bt266.2 true a0_0 l0_1 t205 t206))))))))) = some r := H
  have A9 := am A90
  clear A90
  replace H := Option.bind_eq_some_iff.mp H
  obtain ⟨⟨t236, t239, t242, t245⟩, A100, H⟩ := H
  replace H : ((waybillref21_Diff.f k a0_0 l0_1 a1_0 l1_1).bind fun bt246 => ((resolve_Pick.f t205 t206 l3).bind fun bt256 => ((waybillref21_Pick.f k a0_0 l0_1 l3).bind fun bt260 => ((resolve_Weight.f k t205 t206).bind fun bt264 => ((waybillref21_Weight.f k a0_0 l0_1).bind fun bt266 => ((waybillref21_Same.f k t212 t213 t221 t222).bind fun t268 => (if t268 = true then (if t216 = t225 then ((waybilllaw21_num.f t217).bind fun t269 => (if t269 = t226 then ((waybillplain_SameInts.f k t228 t232).bind fun t270 => (if t270 = true then ((waybilllaw21_num.f t231).bind fun t271 => (if t271 = t235 then ((waybillplain_SameInts.f k t236 bt246.1).bind fun t272 => (if t272 = true then ((waybillplain_SameInts.f k t239 bt246.2.1).bind fun t273 => (if t273 = true then ((waybillplain_SameInts.f k t242 bt246.2.2.1).bind fun t274 => (if t274 = true then ((waybilllaw21_num.f t245).bind fun t275 => (waybilllaw21_ResolveTells.j0 k bt256.1 bt256.2 bt260.1 bt260.2 bt264.1 bt264.2 bt266.1 bt266.2 (t275 != bt246.2.2.2) a0_0 l0_1 t205 t206)) else (waybilllaw21_ResolveTells.j0 k bt256.1 bt256.2 bt260.1 bt260.2 bt264.1 bt264.2 bt266.1 bt266.2 true a0_0 l0_1 t205 t206))) else (waybilllaw21_ResolveTells.j0 k bt256.1 bt256.2 bt260.1 bt260.2 bt264.1 bt264.2 bt266.1 bt266.2 true a0_0 l0_1 t205 t206))) else (waybilllaw21_ResolveTells.j0 k bt256.1 bt256.2 bt260.1 bt260.2 bt264.1 bt264.2 bt266.1 bt266.2 true a0_0 l0_1 t205 t206))) else (waybilllaw21_ResolveTells.j0 k bt256.1 bt256.2 bt260.1 bt260.2 bt264.1 bt264.2 bt266.1 bt266.2 true a0_0 l0_1 t205 t206))) else (waybilllaw21_ResolveTells.j0 k bt256.1 bt256.2 bt260.1 bt260.2 bt264.1 bt264.2 bt266.1 bt266.2 true a0_0 l0_1 t205 t206))) else (waybilllaw21_ResolveTells.j0 k bt256.1 bt256.2 bt260.1 bt260.2 bt264.1 bt264.2 bt266.1 bt266.2 true a0_0 l0_1 t205 t206))) else (waybilllaw21_ResolveTells.j0 k bt256.1 bt256.2 bt260.1 bt260.2 bt264.1 bt264.2 bt266.1 bt266.2 true a0_0 l0_1 t205 t206)) else (waybilllaw21_ResolveTells.j0 k bt256.1 bt256.2 bt260.1 bt260.2 bt264.1 bt264.2 bt266.1 bt266.2 true a0_0 l0_1 t205 t206)))))))) = some r := H
  have A10 := am A100
  clear A100
  replace H := Option.bind_eq_some_iff.mp H
  obtain ⟨⟨t246, t249, t252, t255⟩, A110, H⟩ := H
  replace H : ((resolve_Pick.f t205 t206 l3).bind fun bt256 => ((waybillref21_Pick.f k a0_0 l0_1 l3).bind fun bt260 => ((resolve_Weight.f k t205 t206).bind fun bt264 => ((waybillref21_Weight.f k a0_0 l0_1).bind fun bt266 => ((waybillref21_Same.f k t212 t213 t221 t222).bind fun t268 => (if t268 = true then (if t216 = t225 then ((waybilllaw21_num.f t217).bind fun t269 => (if t269 = t226 then ((waybillplain_SameInts.f k t228 t232).bind fun t270 => (if t270 = true then ((waybilllaw21_num.f t231).bind fun t271 => (if t271 = t235 then ((waybillplain_SameInts.f k t236 t246).bind fun t272 => (if t272 = true then ((waybillplain_SameInts.f k t239 t249).bind fun t273 => (if t273 = true then ((waybillplain_SameInts.f k t242 t252).bind fun t274 => (if t274 = true then ((waybilllaw21_num.f t245).bind fun t275 => (waybilllaw21_ResolveTells.j0 k bt256.1 bt256.2 bt260.1 bt260.2 bt264.1 bt264.2 bt266.1 bt266.2 (t275 != t255) a0_0 l0_1 t205 t206)) else (waybilllaw21_ResolveTells.j0 k bt256.1 bt256.2 bt260.1 bt260.2 bt264.1 bt264.2 bt266.1 bt266.2 true a0_0 l0_1 t205 t206))) else (waybilllaw21_ResolveTells.j0 k bt256.1 bt256.2 bt260.1 bt260.2 bt264.1 bt264.2 bt266.1 bt266.2 true a0_0 l0_1 t205 t206))) else (waybilllaw21_ResolveTells.j0 k bt256.1 bt256.2 bt260.1 bt260.2 bt264.1 bt264.2 bt266.1 bt266.2 true a0_0 l0_1 t205 t206))) else (waybilllaw21_ResolveTells.j0 k bt256.1 bt256.2 bt260.1 bt260.2 bt264.1 bt264.2 bt266.1 bt266.2 true a0_0 l0_1 t205 t206))) else (waybilllaw21_ResolveTells.j0 k bt256.1 bt256.2 bt260.1 bt260.2 bt264.1 bt264.2 bt266.1 bt266.2 true a0_0 l0_1 t205 t206))) else (waybilllaw21_ResolveTells.j0 k bt256.1 bt256.2 bt260.1 bt260.2 bt264.1 bt264.2 bt266.1 bt266.2 true a0_0 l0_1 t205 t206))) else (waybilllaw21_ResolveTells.j0 k bt256.1 bt256.2 bt260.1 bt260.2 bt264.1 bt264.2 bt266.1 bt266.2 true a0_0 l0_1 t205 t206)) else (waybilllaw21_ResolveTells.j0 k bt256.1 bt256.2 bt260.1 bt260.2 bt264.1 bt264.2 bt266.1 bt266.2 true a0_0 l0_1 t205 t206))))))) = some r := H
  have A11 := am A110
  clear A110
  replace H := Option.bind_eq_some_iff.mp H
  obtain ⟨⟨t256, t259⟩, A120, H⟩ := H
  replace H : ((waybillref21_Pick.f k a0_0 l0_1 l3).bind fun bt260 => ((resolve_Weight.f k t205 t206).bind fun bt264 => ((waybillref21_Weight.f k a0_0 l0_1).bind fun bt266 => ((waybillref21_Same.f k t212 t213 t221 t222).bind fun t268 => (if t268 = true then (if t216 = t225 then ((waybilllaw21_num.f t217).bind fun t269 => (if t269 = t226 then ((waybillplain_SameInts.f k t228 t232).bind fun t270 => (if t270 = true then ((waybilllaw21_num.f t231).bind fun t271 => (if t271 = t235 then ((waybillplain_SameInts.f k t236 t246).bind fun t272 => (if t272 = true then ((waybillplain_SameInts.f k t239 t249).bind fun t273 => (if t273 = true then ((waybillplain_SameInts.f k t242 t252).bind fun t274 => (if t274 = true then ((waybilllaw21_num.f t245).bind fun t275 => (waybilllaw21_ResolveTells.j0 k t256 t259 bt260.1 bt260.2 bt264.1 bt264.2 bt266.1 bt266.2 (t275 != t255) a0_0 l0_1 t205 t206)) else (waybilllaw21_ResolveTells.j0 k t256 t259 bt260.1 bt260.2 bt264.1 bt264.2 bt266.1 bt266.2 true a0_0 l0_1 t205 t206))) else (waybilllaw21_ResolveTells.j0 k t256 t259 bt260.1 bt260.2 bt264.1 bt264.2 bt266.1 bt266.2 true a0_0 l0_1 t205 t206))) else (waybilllaw21_ResolveTells.j0 k t256 t259 bt260.1 bt260.2 bt264.1 bt264.2 bt266.1 bt266.2 true a0_0 l0_1 t205 t206))) else (waybilllaw21_ResolveTells.j0 k t256 t259 bt260.1 bt260.2 bt264.1 bt264.2 bt266.1 bt266.2 true a0_0 l0_1 t205 t206))) else (waybilllaw21_ResolveTells.j0 k t256 t259 bt260.1 bt260.2 bt264.1 bt264.2 bt266.1 bt266.2 true a0_0 l0_1 t205 t206))) else (waybilllaw21_ResolveTells.j0 k t256 t259 bt260.1 bt260.2 bt264.1 bt264.2 bt266.1 bt266.2 true a0_0 l0_1 t205 t206))) else (waybilllaw21_ResolveTells.j0 k t256 t259 bt260.1 bt260.2 bt264.1 bt264.2 bt266.1 bt266.2 true a0_0 l0_1 t205 t206)) else (waybilllaw21_ResolveTells.j0 k t256 t259 bt260.1 bt260.2 bt264.1 bt264.2 bt266.1 bt266.2 true a0_0 l0_1 t205 t206)))))) = some r := H
  have A12 := am A120
  clear A120
  replace H := Option.bind_eq_some_iff.mp H
  obtain ⟨⟨t260, t263⟩, A130, H⟩ := H
  replace H : ((resolve_Weight.f k t205 t206).bind fun bt264 => ((waybillref21_Weight.f k a0_0 l0_1).bind fun bt266 => ((waybillref21_Same.f k t212 t213 t221 t222).bind fun t268 => (if t268 = true then (if t216 = t225 then ((waybilllaw21_num.f t217).bind fun t269 => (if t269 = t226 then ((waybillplain_SameInts.f k t228 t232).bind fun t270 => (if t270 = true then ((waybilllaw21_num.f t231).bind fun t271 => (if t271 = t235 then ((waybillplain_SameInts.f k t236 t246).bind fun t272 => (if t272 = true then ((waybillplain_SameInts.f k t239 t249).bind fun t273 => (if t273 = true then ((waybillplain_SameInts.f k t242 t252).bind fun t274 => (if t274 = true then ((waybilllaw21_num.f t245).bind fun t275 => (waybilllaw21_ResolveTells.j0 k t256 t259 t260 t263 bt264.1 bt264.2 bt266.1 bt266.2 (t275 != t255) a0_0 l0_1 t205 t206)) else (waybilllaw21_ResolveTells.j0 k t256 t259 t260 t263 bt264.1 bt264.2 bt266.1 bt266.2 true a0_0 l0_1 t205 t206))) else (waybilllaw21_ResolveTells.j0 k t256 t259 t260 t263 bt264.1 bt264.2 bt266.1 bt266.2 true a0_0 l0_1 t205 t206))) else (waybilllaw21_ResolveTells.j0 k t256 t259 t260 t263 bt264.1 bt264.2 bt266.1 bt266.2 true a0_0 l0_1 t205 t206))) else (waybilllaw21_ResolveTells.j0 k t256 t259 t260 t263 bt264.1 bt264.2 bt266.1 bt266.2 true a0_0 l0_1 t205 t206))) else (waybilllaw21_ResolveTells.j0 k t256 t259 t260 t263 bt264.1 bt264.2 bt266.1 bt266.2 true a0_0 l0_1 t205 t206))) else (waybilllaw21_ResolveTells.j0 k t256 t259 t260 t263 bt264.1 bt264.2 bt266.1 bt266.2 true a0_0 l0_1 t205 t206))) else (waybilllaw21_ResolveTells.j0 k t256 t259 t260 t263 bt264.1 bt264.2 bt266.1 bt266.2 true a0_0 l0_1 t205 t206)) else (waybilllaw21_ResolveTells.j0 k t256 t259 t260 t263 bt264.1 bt264.2 bt266.1 bt266.2 true a0_0 l0_1 t205 t206))))) = some r := H
  have A13 := am A130
  clear A130
  replace H := Option.bind_eq_some_iff.mp H
  obtain ⟨⟨t264, t265⟩, A140, H⟩ := H
  replace H : ((waybillref21_Weight.f k a0_0 l0_1).bind fun bt266 => ((waybillref21_Same.f k t212 t213 t221 t222).bind fun t268 => (if t268 = true then (if t216 = t225 then ((waybilllaw21_num.f t217).bind fun t269 => (if t269 = t226 then ((waybillplain_SameInts.f k t228 t232).bind fun t270 => (if t270 = true then ((waybilllaw21_num.f t231).bind fun t271 => (if t271 = t235 then ((waybillplain_SameInts.f k t236 t246).bind fun t272 => (if t272 = true then ((waybillplain_SameInts.f k t239 t249).bind fun t273 => (if t273 = true then ((waybillplain_SameInts.f k t242 t252).bind fun t274 => (if t274 = true then ((waybilllaw21_num.f t245).bind fun t275 => (waybilllaw21_ResolveTells.j0 k t256 t259 t260 t263 t264 t265 bt266.1 bt266.2 (t275 != t255) a0_0 l0_1 t205 t206)) else (waybilllaw21_ResolveTells.j0 k t256 t259 t260 t263 t264 t265 bt266.1 bt266.2 true a0_0 l0_1 t205 t206))) else (waybilllaw21_ResolveTells.j0 k t256 t259 t260 t263 t264 t265 bt266.1 bt266.2 true a0_0 l0_1 t205 t206))) else (waybilllaw21_ResolveTells.j0 k t256 t259 t260 t263 t264 t265 bt266.1 bt266.2 true a0_0 l0_1 t205 t206))) else (waybilllaw21_ResolveTells.j0 k t256 t259 t260 t263 t264 t265 bt266.1 bt266.2 true a0_0 l0_1 t205 t206))) else (waybilllaw21_ResolveTells.j0 k t256 t259 t260 t263 t264 t265 bt266.1 bt266.2 true a0_0 l0_1 t205 t206))) else (waybilllaw21_ResolveTells.j0 k t256 t259 t260 t263 t264 t265 bt266.1 bt266.2 true a0_0 l0_1 t205 t206))) else (waybilllaw21_ResolveTells.j0 k t256 t259 t260 t263 t264 t265 bt266.1 bt266.2 true a0_0 l0_1 t205 t206)) else (waybilllaw21_ResolveTells.j0 k t256 t259 t260 t263 t264 t265 bt266.1 bt266.2 true a0_0 l0_1 t205 t206)))) = some r := H
  have A14 := am A140
  clear A140
  replace H := Option.bind_eq_some_iff.mp H
  obtain ⟨⟨t266, t267⟩, A150, H⟩ := H
  replace H : ((waybillref21_Same.f k t212 t213 t221 t222).bind fun t268 => (if t268 = true then (if t216 = t225 then ((waybilllaw21_num.f t217).bind fun t269 => (if t269 = t226 then ((waybillplain_SameInts.f k t228 t232).bind fun t270 => (if t270 = true then ((waybilllaw21_num.f t231).bind fun t271 => (if t271 = t235 then ((waybillplain_SameInts.f k t236 t246).bind fun t272 => (if t272 = true then ((waybillplain_SameInts.f k t239 t249).bind fun t273 => (if t273 = true then ((waybillplain_SameInts.f k t242 t252).bind fun t274 => (if t274 = true then ((waybilllaw21_num.f t245).bind fun t275 => (waybilllaw21_ResolveTells.j0 k t256 t259 t260 t263 t264 t265 t266 t267 (t275 != t255) a0_0 l0_1 t205 t206)) else (waybilllaw21_ResolveTells.j0 k t256 t259 t260 t263 t264 t265 t266 t267 true a0_0 l0_1 t205 t206))) else (waybilllaw21_ResolveTells.j0 k t256 t259 t260 t263 t264 t265 t266 t267 true a0_0 l0_1 t205 t206))) else (waybilllaw21_ResolveTells.j0 k t256 t259 t260 t263 t264 t265 t266 t267 true a0_0 l0_1 t205 t206))) else (waybilllaw21_ResolveTells.j0 k t256 t259 t260 t263 t264 t265 t266 t267 true a0_0 l0_1 t205 t206))) else (waybilllaw21_ResolveTells.j0 k t256 t259 t260 t263 t264 t265 t266 t267 true a0_0 l0_1 t205 t206))) else (waybilllaw21_ResolveTells.j0 k t256 t259 t260 t263 t264 t265 t266 t267 true a0_0 l0_1 t205 t206))) else (waybilllaw21_ResolveTells.j0 k t256 t259 t260 t263 t264 t265 t266 t267 true a0_0 l0_1 t205 t206)) else (waybilllaw21_ResolveTells.j0 k t256 t259 t260 t263 t264 t265 t266 t267 true a0_0 l0_1 t205 t206))) = some r := H
  have A15 := am A150
  clear A150
  have HC16 := am H
  clear H
  go_enter Try.func8, Try.ntmps8
  go_upto_region 12 with (first | ((with_reducible refine gate_dst (N := 4) rfl ?_); refine box_event ?hg (N := 4) ?hd (cs := #[.int .i64 a0_0, .slice A0_1 l0_1.length c0_1]) (t := 24) ?hr ?_; (case hd => rfl); (case hg => rfl); (case hr => first | (go_simp; done) | (go_simp; rfl)); intro gb202 hg w17 hbox hb; have n0_ := am (below_step (by repeat (first | (with_reducible first | exact HB.out | apply wA | apply wN | apply wD) | exact HB.out)) hb); have n1_ := am (hbox); have n2_ := am ((by rw [hg]; exact (below_size (by repeat (first | (with_reducible first | exact HB.out | apply wA | apply wN | apply wD) | exact HB.out))) : w.heap.size ≤ gb202)); have n3_ := n2_; clear HB; have HB := n0_; have BK202 := n1_; have GW202 := n2_; have GE202 := n3_; clear n0_ n1_ n2_ n3_; clear hb hbox hg) | ((with_reducible refine gate_dst (N := 5) rfl ?_); refine box_event ?hg (N := 5) ?hd (cs := #[.int .i64 a1_0, .slice A1_1 l1_1.length c1_1]) (t := 24) ?hr ?_; (case hd => rfl); (case hg => rfl); (case hr => first | (go_simp; done) | (go_simp; rfl)); intro gb203 hg w18 hbox hb; have n0_ := am (blk_below (g := gb202) (o := .cells #[.int .i64 a0_0, .slice A0_1 l0_1.length c0_1] 24 (0, 0)) (by (with_reducible repeat (first | refine bN ?_ _ | refine bD ?_ | refine bA ?_ _)); exact BK202.out) hb); have n1_ := am (below_step (by repeat (first | (with_reducible first | exact HB.out | apply wA | apply wN | apply wD | refine bS ?_ GE202.out) | exact HB.out)) hb); have n2_ := am (hbox); have n3_ := am ((by rw [hg]; exact (below_size (by repeat (first | (with_reducible first | exact HB.out | apply wA | apply wN | apply wD | refine bS ?_ GE202.out) | exact HB.out))) : w.heap.size ≤ gb203)); have n4_ := n3_; have n5_ := am ((by rw [hg]; exact Nat.ne_of_lt (blk_lt (g := gb202) (o := .cells #[.int .i64 a0_0, .slice A0_1 l0_1.length c0_1] 24 (0, 0)) (by (with_reducible repeat (first | refine bN ?_ _ | refine bD ?_ | refine bA ?_ _)); exact BK202.out)) : gb202 ≠ gb203)); have n6_ := am n5_.out.symm; clear BK202; clear HB; have BK202 := n0_; have HB := n1_; have BK203 := n2_; have GW203 := n3_; have GE203 := n4_; have NB202_203 := n5_; have NB203_202 := n6_; clear n0_ n1_ n2_ n3_ n4_ n5_ n6_; clear hb hbox hg) | ((with_reducible refine gate_dst (N := 6) rfl ?_); refine box_event ?hg (N := 6) ?hd (cs := #[.int .i64 a2_0, .slice A2_1 l2_1.length c2_1]) (t := 24) ?hr ?_; (case hd => rfl); (case hg => rfl); (case hr => first | (go_simp; done) | (go_simp; rfl)); intro gb204 hg w19 hbox hb; have n0_ := am (blk_below (g := gb202) (o := .cells #[.int .i64 a0_0, .slice A0_1 l0_1.length c0_1] 24 (0, 0)) (by (with_reducible repeat (first | refine bN ?_ _ | refine bD ?_ | refine bA ?_ _)); exact BK202.out) hb); have n1_ := am (blk_below (g := gb203) (o := .cells #[.int .i64 a1_0, .slice A1_1 l1_1.length c1_1] 24 (0, 0)) (by (with_reducible repeat (first | refine bN ?_ _ | refine bD ?_ | refine bA ?_ _)); exact BK203.out) hb); have n2_ := am (below_step (by repeat (first | (with_reducible first | exact HB.out | apply wA | apply wN | apply wD | refine bS ?_ GE202.out | refine bS ?_ GE203.out) | exact HB.out)) hb); have n3_ := am (hbox); have n4_ := am ((by rw [hg]; exact (below_size (by repeat (first | (with_reducible first | exact HB.out | apply wA | apply wN | apply wD | refine bS ?_ GE202.out | refine bS ?_ GE203.out) | exact HB.out))) : w.heap.size ≤ gb204)); have n5_ := n4_; have n6_ := am ((by rw [hg]; exact Nat.ne_of_lt (blk_lt (g := gb202) (o := .cells #[.int .i64 a0_0, .slice A0_1 l0_1.length c0_1] 24 (0, 0)) (by (with_reducible repeat (first | refine bN ?_ _ | refine bD ?_ | refine bA ?_ _)); exact BK202.out)) : gb202 ≠ gb204)); have n7_ := am n6_.out.symm; have n8_ := am ((by rw [hg]; exact Nat.ne_of_lt (blk_lt (g := gb203) (o := .cells #[.int .i64 a1_0, .slice A1_1 l1_1.length c1_1] 24 (0, 0)) (by (with_reducible repeat (first | refine bN ?_ _ | refine bD ?_ | refine bA ?_ _)); exact BK203.out)) : gb203 ≠ gb204)); have n9_ := am n8_.out.symm; clear BK202; clear BK203; clear HB; have BK202 := n0_; have BK203 := n1_; have HB := n2_; have BK204 := n3_; have GW204 := n4_; have GE204 := n5_; have NB202_204 := n6_; have NB204_202 := n7_; have NB203_204 := n8_; have NB204_203 := n9_; clear n0_ n1_ n2_ n3_ n4_ n5_ n6_ n7_ n8_ n9_; clear hb hbox hg; have hnb20 := NB202_203.out; have hnc20 := NB203_202.out; have hnb21 := NB202_204.out; have hnc21 := NB204_202.out; have hcz22_0 : w19.cell? ⟨gb202, 0, none⟩ = some (.int .i64 a0_0) := (blk_cell BK202.out 0).trans rfl; have hcz22_1 : w19.cell? ⟨gb202, 1, none⟩ = some (.slice A0_1 l0_1.length c0_1) := (blk_cell BK202.out 1).trans rfl; have hfz22_0 := blk_frozen BK202.out 0; have hfz22_1 := blk_frozen BK202.out 1) | ((with_reducible refine gate_callee (f := 13) rfl ?_); refine goesL_ (some 37) rfl rfl Try.func13 (by kernel_rfl) rfl #[.agg #[.int .i64 a0_0, .slice A0_1 l0_1.length c0_1]] rfl (by (try simp only [List.map_toArray, List.map_cons, List.map_nil]); first | done | rfl | (simp only [List.length_drop, List.length_take]; rfl)) ?_; (with_reducible refine (waybillref21_Own.calls a0_0 _ _ l0_1 t205 t206 _ ?side1 ?side2 A5.out).mono ?_); (case side1 => repeat (first | exact (Kd.C_below HR0_1.out HB.out) | (with_reducible refine Kd.C_alloc ?_ _) | (with_reducible refine Kd.C_drewN ?_ _) | (with_reducible refine Kd.C_drew ?_))); (case side2 => exact HC0_1.out); rintro e w23 ⟨v207, rfl, ho0, hb⟩; refine ⟨_, rfl, ?_⟩; have n0_ := am (Kd.R_lower ho0 (below_size (by repeat (first | (with_reducible first | exact HB.out | apply wA | apply wN | apply wD | refine bS ?_ GE202.out | refine bS ?_ GE203.out | refine bS ?_ GE204.out) | exact HB.out)))); have n1_ := am (blk_below (g := gb202) (o := .cells #[.int .i64 a0_0, .slice A0_1 l0_1.length c0_1] 24 (0, 0)) (by (with_reducible repeat (first | refine bN ?_ _ | refine bD ?_ | refine bA ?_ _)); exact BK202.out) hb); have n2_ := am (blk_below (g := gb203) (o := .cells #[.int .i64 a1_0, .slice A1_1 l1_1.length c1_1] 24 (0, 0)) (by (with_reducible repeat (first | refine bN ?_ _ | refine bD ?_ | refine bA ?_ _)); exact BK203.out) hb); have n3_ := am (blk_below (g := gb204) (o := .cells #[.int .i64 a2_0, .slice A2_1 l2_1.length c2_1] 24 (0, 0)) (by (with_reducible repeat (first | refine bN ?_ _ | refine bD ?_ | refine bA ?_ _)); exact BK204.out) hb); have n4_ := am (below_step (by repeat (first | (with_reducible first | exact HB.out | apply wA | apply wN | apply wD | refine bS ?_ GE202.out | refine bS ?_ GE203.out | refine bS ?_ GE204.out) | exact HB.out)) hb); clear BK202; clear BK203; clear BK204; clear HB; have HO208 := n0_; have BK202 := n1_; have BK203 := n2_; have BK204 := n3_; have HB := n4_; clear n0_ n1_ n2_ n3_ n4_; (try clear hb); (try clear hb2); (try clear hk); (try clear hi); (try clear ho0)) | ((with_reducible refine gate_dst (N := 9) rfl ?_); refine box_event ?hg (N := 9) ?hd (cs := #[.int .i64 0, .slice none 0 0]) (t := 24) ?hr ?_; (case hd => rfl); (case hg => rfl); (case hr => first | (go_simp; done) | (go_simp; rfl)); intro gb209 hg w24 hbox hb; have n0_ := am (Kd.R_below (by (with_reducible repeat (first | apply Ra | apply Rn | apply Rd)); exact HO208.out) hb); have n1_ := am (blk_below (g := gb202) (o := .cells #[.int .i64 a0_0, .slice A0_1 l0_1.length c0_1] 24 (0, 0)) (by (with_reducible repeat (first | refine bN ?_ _ | refine bD ?_ | refine bA ?_ _)); exact BK202.out) hb); have n2_ := am (blk_below (g := gb203) (o := .cells #[.int .i64 a1_0, .slice A1_1 l1_1.length c1_1] 24 (0, 0)) (by (with_reducible repeat (first | refine bN ?_ _ | refine bD ?_ | refine bA ?_ _)); exact BK203.out) hb); have n3_ := am (blk_below (g := gb204) (o := .cells #[.int .i64 a2_0, .slice A2_1 l2_1.length c2_1] 24 (0, 0)) (by (with_reducible repeat (first | refine bN ?_ _ | refine bD ?_ | refine bA ?_ _)); exact BK204.out) hb); have n4_ := am (below_step (by repeat (first | (with_reducible first | exact HB.out | apply wA | apply wN | apply wD | refine bS ?_ GE202.out | refine bS ?_ GE203.out | refine bS ?_ GE204.out) | exact HB.out)) hb); have n5_ := am (hbox); have n6_ := am ((by rw [hg]; exact (below_size (by repeat (first | (with_reducible first | exact HB.out | apply wA | apply wN | apply wD | refine bS ?_ GE202.out | refine bS ?_ GE203.out | refine bS ?_ GE204.out) | exact HB.out))) : w.heap.size ≤ gb209)); have n7_ := n6_; have n8_ := am ((by rw [hg]; exact Nat.ne_of_lt (blk_lt (g := gb202) (o := .cells #[.int .i64 a0_0, .slice A0_1 l0_1.length c0_1] 24 (0, 0)) (by (with_reducible repeat (first | refine bN ?_ _ | refine bD ?_ | refine bA ?_ _)); exact BK202.out)) : gb202 ≠ gb209)); have n9_ := am n8_.out.symm; have n10_ := am ((by rw [hg]; exact Nat.ne_of_lt (blk_lt (g := gb203) (o := .cells #[.int .i64 a1_0, .slice A1_1 l1_1.length c1_1] 24 (0, 0)) (by (with_reducible repeat (first | refine bN ?_ _ | refine bD ?_ | refine bA ?_ _)); exact BK203.out)) : gb203 ≠ gb209)); have n11_ := am n10_.out.symm; have n12_ := am ((by rw [hg]; exact Nat.ne_of_lt (blk_lt (g := gb204) (o := .cells #[.int .i64 a2_0, .slice A2_1 l2_1.length c2_1] 24 (0, 0)) (by (with_reducible repeat (first | refine bN ?_ _ | refine bD ?_ | refine bA ?_ _)); exact BK204.out)) : gb204 ≠ gb209)); have n13_ := am n12_.out.symm; clear HO208; clear BK202; clear BK203; clear BK204; clear HB; have HO208 := n0_; have BK202 := n1_; have BK203 := n2_; have BK204 := n3_; have HB := n4_; have BK209 := n5_; have GW209 := n6_; have GE209 := n7_; have NB202_209 := n8_; have NB209_202 := n9_; have NB203_209 := n10_; have NB209_203 := n11_; have NB204_209 := n12_; have NB209_204 := n13_; clear n0_ n1_ n2_ n3_ n4_ n5_ n6_ n7_ n8_ n9_ n10_ n11_ n12_ n13_; clear hb hbox hg; have hnb25 := NB209_202.out; have hnc25 := NB202_209.out; have hnb26 := NB209_203.out; have hnc26 := NB203_209.out; have hnb27 := NB209_204.out; have hnc27 := NB204_209.out; have hcz28_0 : w24.cell? ⟨gb209, 0, none⟩ = some (.int .i64 0) := (blk_cell BK209.out 0).trans rfl; have hcz28_1 : w24.cell? ⟨gb209, 1, none⟩ = some (.slice none 0 0) := (blk_cell BK209.out 1).trans rfl; have hfz28_0 := blk_frozen BK209.out 0; have hfz28_1 := blk_frozen BK209.out 1; obtain ⟨Ao29, co29, eo29⟩ := Kd.R_slice HO208.out; subst eo29; have hnb30 := NB203_204.out; have hnc30 := NB204_203.out; have hcz31_0 : w24.cell? ⟨gb203, 0, none⟩ = some (.int .i64 a1_0) := (blk_cell BK203.out 0).trans rfl; have hcz31_1 : w24.cell? ⟨gb203, 1, none⟩ = some (.slice A1_1 l1_1.length c1_1) := (blk_cell BK203.out 1).trans rfl; have hfz31_0 := blk_frozen BK203.out 0; have hfz31_1 := blk_frozen BK203.out 1; have hcz32_0 : w24.cell? ⟨gb204, 0, none⟩ = some (.int .i64 a2_0) := (blk_cell BK204.out 0).trans rfl; have hcz32_1 : w24.cell? ⟨gb204, 1, none⟩ = some (.slice A2_1 l2_1.length c2_1) := (blk_cell BK204.out 1).trans rfl; have hfz32_0 := blk_frozen BK204.out 0; have hfz32_1 := blk_frozen BK204.out 1) | ((with_reducible refine gate_dst (N := 42) rfl ?_); refine WB.bundle_lit k24 24 ?hg (N := 42) ?hd (xs := ([(⟨a1_0, l1_1⟩ : S24), (⟨a2_0, l2_1⟩ : S24)] : List (S24))) (inner := [.int .i64 a1_0, .slice A1_1 l1_1.length c1_1, .int .i64 a2_0, .slice A2_1 l2_1.length c2_1]) ?hr ?hp (by simp) ?_; (case hd => rfl); (case hg => rfl); (case hr => first | (go_simp; done) | (go_simp; rfl)); (case hp => exact (Reps.c2 (show Kd.K k24 _ (⟨a1_0, l1_1⟩ : S24) [.int .i64 a1_0, .slice A1_1 l1_1.length c1_1] from ⟨[.int .i64 a1_0], [.slice A1_1 l1_1.length c1_1], rfl, rfl, ⟨_, _, rfl, (by exact HC1_1.out), (by exact Kd.C_below HR1_1.out (by repeat (first | (with_reducible first | exact HB.out | apply wA | apply wN | apply wD | refine bS ?_ GE202.out | refine bS ?_ GE203.out | refine bS ?_ GE204.out | refine bS ?_ GE209.out) | exact HB.out)))⟩⟩) (Reps.c2 (show Kd.K k24 _ (⟨a2_0, l2_1⟩ : S24) [.int .i64 a2_0, .slice A2_1 l2_1.length c2_1] from ⟨[.int .i64 a2_0], [.slice A2_1 l2_1.length c2_1], rfl, rfl, ⟨_, _, rfl, (by exact HC2_1.out), (by exact Kd.C_below HR2_1.out (by repeat (first | (with_reducible first | exact HB.out | apply wA | apply wN | apply wD | refine bS ?_ GE202.out | refine bS ?_ GE203.out | refine bS ?_ GE204.out | refine bS ?_ GE209.out) | exact HB.out)))⟩⟩) (Reps.none _ _)))); intro g35 w33 hgb_ hu34 hb; clear hgb_; have HU211 := am hu34; have n0_ := am (Kd.R_below (by (with_reducible repeat (first | apply Ra | apply Rn | apply Rd)); exact (Kd.R_mono (Kd.R_far (p := ⟨gb209, 1, none⟩) (Kd.R_far (p := ⟨gb209, 0, none⟩) (Kd.R_types HO208.out BK209.out (by decide)) (fun _ hk => hk.2) (.int .i64 t205)) (fun _ hk => hk.2) (.slice Ao29 t206.length co29)) (fun _ h_ => h_.1))) hb); have n1_ := am (blk_below (g := gb202) (o := .cells #[.int .i64 a0_0, .slice A0_1 l0_1.length c0_1] 24 (0, 0)) (by (with_reducible repeat (first | refine bN ?_ _ | refine bD ?_ | refine bA ?_ _)); refine blk_far ?_ NB202_209.out _; (with_reducible repeat (first | refine bN ?_ _ | refine bD ?_ | refine bA ?_ _)); refine blk_far ?_ NB202_209.out _; (with_reducible repeat (first | refine bN ?_ _ | refine bD ?_ | refine bA ?_ _)); exact BK202.out) hb); have n2_ := am (blk_below (g := gb203) (o := .cells #[.int .i64 a1_0, .slice A1_1 l1_1.length c1_1] 24 (0, 0)) (by (with_reducible repeat (first | refine bN ?_ _ | refine bD ?_ | refine bA ?_ _)); refine blk_far ?_ NB203_209.out _; (with_reducible repeat (first | refine bN ?_ _ | refine bD ?_ | refine bA ?_ _)); refine blk_far ?_ NB203_209.out _; (with_reducible repeat (first | refine bN ?_ _ | refine bD ?_ | refine bA ?_ _)); exact BK203.out) hb); have n3_ := am (blk_below (g := gb204) (o := .cells #[.int .i64 a2_0, .slice A2_1 l2_1.length c2_1] 24 (0, 0)) (by (with_reducible repeat (first | refine bN ?_ _ | refine bD ?_ | refine bA ?_ _)); refine blk_far ?_ NB204_209.out _; (with_reducible repeat (first | refine bN ?_ _ | refine bD ?_ | refine bA ?_ _)); refine blk_far ?_ NB204_209.out _; (with_reducible repeat (first | refine bN ?_ _ | refine bD ?_ | refine bA ?_ _)); exact BK204.out) hb); have n4_ := am (blk_below (g := gb209) (o := .cells #[.int .i64 t205, .slice Ao29 t206.length co29] 24 (0, 0)) (by (with_reducible repeat (first | refine bN ?_ _ | refine bD ?_ | refine bA ?_ _)); refine blk_put (cs := #[.int .i64 t205, .slice none 0 0]) ?_ 1 _ rfl; (with_reducible repeat (first | refine bN ?_ _ | refine bD ?_ | refine bA ?_ _)); refine blk_put (cs := #[.int .i64 0, .slice none 0 0]) ?_ 0 _ rfl; (with_reducible repeat (first | refine bN ?_ _ | refine bD ?_ | refine bA ?_ _)); exact BK209.out) hb); have n5_ := am (below_step (by repeat (first | (with_reducible first | exact HB.out | apply wA | apply wN | apply wD | refine bS ?_ GE202.out | refine bS ?_ GE203.out | refine bS ?_ GE204.out | refine bS ?_ GE209.out) | exact HB.out)) hb); clear HO208; clear BK202; clear BK203; clear BK204; clear BK209; clear HB; have HO208 := n0_; have BK202 := n1_; have BK203 := n2_; have BK204 := n3_; have BK209 := n4_; have HB := n5_; clear n0_ n1_ n2_ n3_ n4_ n5_; clear hb hu34) | ((with_reducible refine gate_callee (f := 10) rfl ?_); refine goesL_ (some 43) rfl rfl Try.func10 (by kernel_rfl) rfl #[.agg #[.int .i64 t205, .slice Ao29 t206.length co29], .slice (some ⟨g35, 0, none⟩) ([(⟨a1_0, l1_1⟩ : S24), (⟨a2_0, l2_1⟩ : S24)] : List (S24)).length 2] rfl (by (try simp only [List.map_toArray, List.map_cons, List.map_nil]); first | done | rfl | (simp only [List.length_drop, List.length_take]; rfl)) ?_; (with_reducible refine (resolve_Apply.calls t205 _ _ t206 _ _ ([(⟨a1_0, l1_1⟩ : S24), (⟨a2_0, l2_1⟩ : S24)] : List (S24)) t212 t213 t216 t217 _ ?side1 ?side2 ?side3 ?side4 A6.out).mono ?_); (case side1 => repeat (first | exact (Kd.R_reads' HO208.out).2.2 | (with_reducible refine Kd.C_alloc ?_ _) | (with_reducible refine Kd.C_drewN ?_ _) | (with_reducible refine Kd.C_drew ?_))); (case side2 => exact (Kd.R_reads' HO208.out).2.1); (case side3 => repeat (first | exact HU211.out | (with_reducible refine Kd.C_alloc ?_ _) | (with_reducible refine Kd.C_drewN ?_ _) | (with_reducible refine Kd.C_drew ?_))); (case side4 => exact Nat.le_refl _); rintro e w36 ⟨v214, rfl, ho0, hb⟩; refine ⟨_, rfl, ?_⟩; have n0_ := am (Kd.R_elder' (by (with_reducible repeat (first | apply Ra | apply Rn | apply Rd)); exact HO208.out) (Kd.R_base ho0) hb); have n1_ := am (Kd.R_lower (Kd.R_new' ho0 (Kd.R_lt (by (with_reducible repeat (first | apply Ra | apply Rn | apply Rd)); exact HO208.out))) (below_size (by repeat (first | (with_reducible first | exact HB.out | apply wA | apply wN | apply wD | refine bS ?_ GE202.out | refine bS ?_ GE203.out | refine bS ?_ GE204.out | refine bS ?_ GE209.out) | exact HB.out)))); have n2_ := am (blk_below (g := gb202) (o := .cells #[.int .i64 a0_0, .slice A0_1 l0_1.length c0_1] 24 (0, 0)) (by (with_reducible repeat (first | refine bN ?_ _ | refine bD ?_ | refine bA ?_ _)); exact BK202.out) hb); have n3_ := am (blk_below (g := gb203) (o := .cells #[.int .i64 a1_0, .slice A1_1 l1_1.length c1_1] 24 (0, 0)) (by (with_reducible repeat (first | refine bN ?_ _ | refine bD ?_ | refine bA ?_ _)); exact BK203.out) hb); have n4_ := am (blk_below (g := gb204) (o := .cells #[.int .i64 a2_0, .slice A2_1 l2_1.length c2_1] 24 (0, 0)) (by (with_reducible repeat (first | refine bN ?_ _ | refine bD ?_ | refine bA ?_ _)); exact BK204.out) hb); have n5_ := am (blk_below (g := gb209) (o := .cells #[.int .i64 t205, .slice Ao29 t206.length co29] 24 (0, 0)) (by (with_reducible repeat (first | refine bN ?_ _ | refine bD ?_ | refine bA ?_ _)); exact BK209.out) hb); have n6_ := am (below_step (by repeat (first | (with_reducible first | exact HB.out | apply wA | apply wN | apply wD | refine bS ?_ GE202.out | refine bS ?_ GE203.out | refine bS ?_ GE204.out | refine bS ?_ GE209.out) | exact HB.out)) hb); clear HO208; clear BK202; clear BK203; clear BK204; clear BK209; clear HB; have HO208 := n0_; have HO215 := n1_; have BK202 := n2_; have BK203 := n3_; have BK204 := n4_; have BK209 := n5_; have HB := n6_; clear n0_ n1_ n2_ n3_ n4_ n5_ n6_; (try clear hb); (try clear hb2); (try clear hk); (try clear hi); (try clear ho0)) | ((with_reducible refine gate_dst (N := 10) rfl ?_); refine box_event ?hg (N := 10) ?hd (cs := #[.int .i64 0, .slice none 0 0]) (t := 24) ?hr ?_; (case hd => rfl); (case hg => rfl); (case hr => first | (go_simp; done) | (go_simp; rfl)); intro gb218 hg w37 hbox hb; have n0_ := am (Kd.R_below (by (with_reducible repeat (first | apply Ra | apply Rn | apply Rd)); exact HO208.out) hb); have n1_ := am (Kd.R_below (by (with_reducible repeat (first | apply Ra | apply Rn | apply Rd)); exact HO215.out) hb); have n2_ := am (blk_below (g := gb202) (o := .cells #[.int .i64 a0_0, .slice A0_1 l0_1.length c0_1] 24 (0, 0)) (by (with_reducible repeat (first | refine bN ?_ _ | refine bD ?_ | refine bA ?_ _)); exact BK202.out) hb); have n3_ := am (blk_below (g := gb203) (o := .cells #[.int .i64 a1_0, .slice A1_1 l1_1.length c1_1] 24 (0, 0)) (by (with_reducible repeat (first | refine bN ?_ _ | refine bD ?_ | refine bA ?_ _)); exact BK203.out) hb); have n4_ := am (blk_below (g := gb204) (o := .cells #[.int .i64 a2_0, .slice A2_1 l2_1.length c2_1] 24 (0, 0)) (by (with_reducible repeat (first | refine bN ?_ _ | refine bD ?_ | refine bA ?_ _)); exact BK204.out) hb); have n5_ := am (blk_below (g := gb209) (o := .cells #[.int .i64 t205, .slice Ao29 t206.length co29] 24 (0, 0)) (by (with_reducible repeat (first | refine bN ?_ _ | refine bD ?_ | refine bA ?_ _)); exact BK209.out) hb); have n6_ := am (below_step (by repeat (first | (with_reducible first | exact HB.out | apply wA | apply wN | apply wD | refine bS ?_ GE202.out | refine bS ?_ GE203.out | refine bS ?_ GE204.out | refine bS ?_ GE209.out) | exact HB.out)) hb); have n7_ := am (hbox); have n8_ := am ((by rw [hg]; exact (below_size (by repeat (first | (with_reducible first | exact HB.out | apply wA | apply wN | apply wD | refine bS ?_ GE202.out | refine bS ?_ GE203.out | refine bS ?_ GE204.out | refine bS ?_ GE209.out) | exact HB.out))) : w.heap.size ≤ gb218)); have n9_ := n8_; have n10_ := am ((by rw [hg]; exact Nat.ne_of_lt (blk_lt (g := gb202) (o := .cells #[.int .i64 a0_0, .slice A0_1 l0_1.length c0_1] 24 (0, 0)) (by (with_reducible repeat (first | refine bN ?_ _ | refine bD ?_ | refine bA ?_ _)); exact BK202.out)) : gb202 ≠ gb218)); have n11_ := am n10_.out.symm; have n12_ := am ((by rw [hg]; exact Nat.ne_of_lt (blk_lt (g := gb203) (o := .cells #[.int .i64 a1_0, .slice A1_1 l1_1.length c1_1] 24 (0, 0)) (by (with_reducible repeat (first | refine bN ?_ _ | refine bD ?_ | refine bA ?_ _)); exact BK203.out)) : gb203 ≠ gb218)); have n13_ := am n12_.out.symm; have n14_ := am ((by rw [hg]; exact Nat.ne_of_lt (blk_lt (g := gb204) (o := .cells #[.int .i64 a2_0, .slice A2_1 l2_1.length c2_1] 24 (0, 0)) (by (with_reducible repeat (first | refine bN ?_ _ | refine bD ?_ | refine bA ?_ _)); exact BK204.out)) : gb204 ≠ gb218)); have n15_ := am n14_.out.symm; have n16_ := am ((by rw [hg]; exact Nat.ne_of_lt (blk_lt (g := gb209) (o := .cells #[.int .i64 t205, .slice Ao29 t206.length co29] 24 (0, 0)) (by (with_reducible repeat (first | refine bN ?_ _ | refine bD ?_ | refine bA ?_ _)); exact BK209.out)) : gb209 ≠ gb218)); have n17_ := am n16_.out.symm; clear HO208; clear HO215; clear BK202; clear BK203; clear BK204; clear BK209; clear HB; have HO208 := n0_; have HO215 := n1_; have BK202 := n2_; have BK203 := n3_; have BK204 := n4_; have BK209 := n5_; have HB := n6_; have BK218 := n7_; have GW218 := n8_; have GE218 := n9_; have NB202_218 := n10_; have NB218_202 := n11_; have NB203_218 := n12_; have NB218_203 := n13_; have NB204_218 := n14_; have NB218_204 := n15_; have NB209_218 := n16_; have NB218_209 := n17_; clear n0_ n1_ n2_ n3_ n4_ n5_ n6_ n7_ n8_ n9_ n10_ n11_ n12_ n13_ n14_ n15_ n16_ n17_; clear hb hbox hg; have hnb38 := NB218_202.out; have hnc38 := NB202_218.out; have hnb39 := NB218_203.out; have hnc39 := NB203_218.out; have hnb40 := NB218_204.out; have hnc40 := NB204_218.out; have hnb41 := NB218_209.out; have hnc41 := NB209_218.out; have hcz42_0 : w37.cell? ⟨gb218, 0, none⟩ = some (.int .i64 0) := (blk_cell BK218.out 0).trans rfl; have hcz42_1 : w37.cell? ⟨gb218, 1, none⟩ = some (.slice none 0 0) := (blk_cell BK218.out 1).trans rfl; have hfz42_0 := blk_frozen BK218.out 0; have hfz42_1 := blk_frozen BK218.out 1; obtain ⟨Ao43, co43, eo43⟩ := Kd.R_slice HO215.out; subst eo43; have hcz44_0 : w37.cell? ⟨gb202, 0, none⟩ = some (.int .i64 a0_0) := (blk_cell BK202.out 0).trans rfl; have hcz44_1 : w37.cell? ⟨gb202, 1, none⟩ = some (.slice A0_1 l0_1.length c0_1) := (blk_cell BK202.out 1).trans rfl; have hfz44_0 := blk_frozen BK202.out 0; have hfz44_1 := blk_frozen BK202.out 1; have hcz45_0 : w37.cell? ⟨gb203, 0, none⟩ = some (.int .i64 a1_0) := (blk_cell BK203.out 0).trans rfl; have hcz45_1 : w37.cell? ⟨gb203, 1, none⟩ = some (.slice A1_1 l1_1.length c1_1) := (blk_cell BK203.out 1).trans rfl; have hfz45_0 := blk_frozen BK203.out 0; have hfz45_1 := blk_frozen BK203.out 1; have hcz46_0 : w37.cell? ⟨gb204, 0, none⟩ = some (.int .i64 a2_0) := (blk_cell BK204.out 0).trans rfl; have hcz46_1 : w37.cell? ⟨gb204, 1, none⟩ = some (.slice A2_1 l2_1.length c2_1) := (blk_cell BK204.out 1).trans rfl; have hfz46_0 := blk_frozen BK204.out 0; have hfz46_1 := blk_frozen BK204.out 1) | ((with_reducible refine gate_dst (N := 51) rfl ?_); refine WB.bundle_lit k24 24 ?hg (N := 51) ?hd (xs := ([(⟨a1_0, l1_1⟩ : S24), (⟨a2_0, l2_1⟩ : S24)] : List (S24))) (inner := [.int .i64 a1_0, .slice A1_1 l1_1.length c1_1, .int .i64 a2_0, .slice A2_1 l2_1.length c2_1]) ?hr ?hp (by simp) ?_; (case hd => rfl); (case hg => rfl); (case hr => first | (go_simp; done) | (go_simp; rfl)); (case hp => exact (Reps.c2 (show Kd.K k24 _ (⟨a1_0, l1_1⟩ : S24) [.int .i64 a1_0, .slice A1_1 l1_1.length c1_1] from ⟨[.int .i64 a1_0], [.slice A1_1 l1_1.length c1_1], rfl, rfl, ⟨_, _, rfl, (by exact HC1_1.out), (by exact Kd.C_below HR1_1.out (by repeat (first | (with_reducible first | exact HB.out | apply wA | apply wN | apply wD | refine bS ?_ GE202.out | refine bS ?_ GE203.out | refine bS ?_ GE204.out | refine bS ?_ GE209.out | refine bS ?_ GE218.out) | exact HB.out)))⟩⟩) (Reps.c2 (show Kd.K k24 _ (⟨a2_0, l2_1⟩ : S24) [.int .i64 a2_0, .slice A2_1 l2_1.length c2_1] from ⟨[.int .i64 a2_0], [.slice A2_1 l2_1.length c2_1], rfl, rfl, ⟨_, _, rfl, (by exact HC2_1.out), (by exact Kd.C_below HR2_1.out (by repeat (first | (with_reducible first | exact HB.out | apply wA | apply wN | apply wD | refine bS ?_ GE202.out | refine bS ?_ GE203.out | refine bS ?_ GE204.out | refine bS ?_ GE209.out | refine bS ?_ GE218.out) | exact HB.out)))⟩⟩) (Reps.none _ _)))); intro g49 w47 hgb_ hu48 hb; clear hgb_; have HU220 := am hu48; have n0_ := am (Kd.R_below (by (with_reducible repeat (first | apply Ra | apply Rn | apply Rd)); exact (Kd.R_mono (Kd.R_far (p := ⟨gb218, 1, none⟩) (Kd.R_far (p := ⟨gb218, 0, none⟩) (Kd.R_types HO208.out BK218.out (by decide)) (fun _ hk => hk.2) (.int .i64 t212)) (fun _ hk => hk.2) (.slice Ao43 t213.length co43)) (fun _ h_ => h_.1))) hb); have n1_ := am (Kd.R_below (by (with_reducible repeat (first | apply Ra | apply Rn | apply Rd)); exact (Kd.R_mono (Kd.R_far (p := ⟨gb218, 1, none⟩) (Kd.R_far (p := ⟨gb218, 0, none⟩) (Kd.R_types HO215.out BK218.out (by decide)) (fun _ hk => hk.2) (.int .i64 t212)) (fun _ hk => hk.2) (.slice Ao43 t213.length co43)) (fun _ h_ => h_.1))) hb); have n2_ := am (blk_below (g := gb202) (o := .cells #[.int .i64 a0_0, .slice A0_1 l0_1.length c0_1] 24 (0, 0)) (by (with_reducible repeat (first | refine bN ?_ _ | refine bD ?_ | refine bA ?_ _)); refine blk_far ?_ NB202_218.out _; (with_reducible repeat (first | refine bN ?_ _ | refine bD ?_ | refine bA ?_ _)); refine blk_far ?_ NB202_218.out _; (with_reducible repeat (first | refine bN ?_ _ | refine bD ?_ | refine bA ?_ _)); exact BK202.out) hb); have n3_ := am (blk_below (g := gb203) (o := .cells #[.int .i64 a1_0, .slice A1_1 l1_1.length c1_1] 24 (0, 0)) (by (with_reducible repeat (first | refine bN ?_ _ | refine bD ?_ | refine bA ?_ _)); refine blk_far ?_ NB203_218.out _; (with_reducible repeat (first | refine bN ?_ _ | refine bD ?_ | refine bA ?_ _)); refine blk_far ?_ NB203_218.out _; (with_reducible repeat (first | refine bN ?_ _ | refine bD ?_ | refine bA ?_ _)); exact BK203.out) hb); have n4_ := am (blk_below (g := gb204) (o := .cells #[.int .i64 a2_0, .slice A2_1 l2_1.length c2_1] 24 (0, 0)) (by (with_reducible repeat (first | refine bN ?_ _ | refine bD ?_ | refine bA ?_ _)); refine blk_far ?_ NB204_218.out _; (with_reducible repeat (first | refine bN ?_ _ | refine bD ?_ | refine bA ?_ _)); refine blk_far ?_ NB204_218.out _; (with_reducible repeat (first | refine bN ?_ _ | refine bD ?_ | refine bA ?_ _)); exact BK204.out) hb); have n5_ := am (blk_below (g := gb209) (o := .cells #[.int .i64 t205, .slice Ao29 t206.length co29] 24 (0, 0)) (by (with_reducible repeat (first | refine bN ?_ _ | refine bD ?_ | refine bA ?_ _)); refine blk_far ?_ NB209_218.out _; (with_reducible repeat (first | refine bN ?_ _ | refine bD ?_ | refine bA ?_ _)); refine blk_far ?_ NB209_218.out _; (with_reducible repeat (first | refine bN ?_ _ | refine bD ?_ | refine bA ?_ _)); exact BK209.out) hb); have n6_ := am (blk_below (g := gb218) (o := .cells #[.int .i64 t212, .slice Ao43 t213.length co43] 24 (0, 0)) (by (with_reducible repeat (first | refine bN ?_ _ | refine bD ?_ | refine bA ?_ _)); refine blk_put (cs := #[.int .i64 t212, .slice none 0 0]) ?_ 1 _ rfl; (with_reducible repeat (first | refine bN ?_ _ | refine bD ?_ | refine bA ?_ _)); refine blk_put (cs := #[.int .i64 0, .slice none 0 0]) ?_ 0 _ rfl; (with_reducible repeat (first | refine bN ?_ _ | refine bD ?_ | refine bA ?_ _)); exact BK218.out) hb); have n7_ := am (below_step (by repeat (first | (with_reducible first | exact HB.out | apply wA | apply wN | apply wD | refine bS ?_ GE202.out | refine bS ?_ GE203.out | refine bS ?_ GE204.out | refine bS ?_ GE209.out | refine bS ?_ GE218.out) | exact HB.out)) hb); clear HO208; clear HO215; clear BK202; clear BK203; clear BK204; clear BK209; clear BK218; clear HB; have HO208 := n0_; have HO215 := n1_; have BK202 := n2_; have BK203 := n3_; have BK204 := n4_; have BK209 := n5_; have BK218 := n6_; have HB := n7_; clear n0_ n1_ n2_ n3_ n4_ n5_ n6_ n7_; clear hb hu48) | ((with_reducible refine gate_callee (f := 14) rfl ?_); refine goesL_ (some 52) rfl rfl Try.func14 (by kernel_rfl) rfl #[.agg #[.int .i64 a0_0, .slice A0_1 l0_1.length c0_1], .slice (some ⟨g49, 0, none⟩) ([(⟨a1_0, l1_1⟩ : S24), (⟨a2_0, l2_1⟩ : S24)] : List (S24)).length 2] rfl (by (try simp only [List.map_toArray, List.map_cons, List.map_nil]); first | done | rfl | (simp only [List.length_drop, List.length_take]; rfl)) ?_; (with_reducible refine (waybillref21_Apply.calls k a0_0 _ _ l0_1 _ _ ([(⟨a1_0, l1_1⟩ : S24), (⟨a2_0, l2_1⟩ : S24)] : List (S24)) t221 t222 t225 t226 _ ?side1 ?side2 ?side3 ?side4 A7.out).mono ?_); (case side1 => repeat (first | exact (Kd.C_below HR0_1.out HB.out) | (with_reducible refine Kd.C_alloc ?_ _) | (with_reducible refine Kd.C_drewN ?_ _) | (with_reducible refine Kd.C_drew ?_))); (case side2 => exact HC0_1.out); (case side3 => repeat (first | exact HU220.out | (with_reducible refine Kd.C_alloc ?_ _) | (with_reducible refine Kd.C_drewN ?_ _) | (with_reducible refine Kd.C_drew ?_))); (case side4 => exact Nat.le_refl _); rintro e w50 ⟨v223, rfl, ho0, hb⟩; refine ⟨_, rfl, ?_⟩; have n0_ := am (Kd.R_elder' (by (with_reducible repeat (first | apply Ra | apply Rn | apply Rd)); exact HO208.out) (Kd.R_base ho0) hb); have n1_ := am (Kd.R_elder' (by (with_reducible repeat (first | apply Ra | apply Rn | apply Rd)); exact HO215.out) (Kd.R_base ho0) hb); have n2_ := am (Kd.R_lower (Kd.R_new' (Kd.R_new' ho0 (Kd.R_lt (by (with_reducible repeat (first | apply Ra | apply Rn | apply Rd)); exact HO208.out))) (Kd.R_lt (by (with_reducible repeat (first | apply Ra | apply Rn | apply Rd)); exact HO215.out))) (below_size (by repeat (first | (with_reducible first | exact HB.out | apply wA | apply wN | apply wD | refine bS ?_ GE202.out | refine bS ?_ GE203.out | refine bS ?_ GE204.out | refine bS ?_ GE209.out | refine bS ?_ GE218.out) | exact HB.out)))); have n3_ := am (blk_below (g := gb202) (o := .cells #[.int .i64 a0_0, .slice A0_1 l0_1.length c0_1] 24 (0, 0)) (by (with_reducible repeat (first | refine bN ?_ _ | refine bD ?_ | refine bA ?_ _)); exact BK202.out) hb); have n4_ := am (blk_below (g := gb203) (o := .cells #[.int .i64 a1_0, .slice A1_1 l1_1.length c1_1] 24 (0, 0)) (by (with_reducible repeat (first | refine bN ?_ _ | refine bD ?_ | refine bA ?_ _)); exact BK203.out) hb); have n5_ := am (blk_below (g := gb204) (o := .cells #[.int .i64 a2_0, .slice A2_1 l2_1.length c2_1] 24 (0, 0)) (by (with_reducible repeat (first | refine bN ?_ _ | refine bD ?_ | refine bA ?_ _)); exact BK204.out) hb); have n6_ := am (blk_below (g := gb209) (o := .cells #[.int .i64 t205, .slice Ao29 t206.length co29] 24 (0, 0)) (by (with_reducible repeat (first | refine bN ?_ _ | refine bD ?_ | refine bA ?_ _)); exact BK209.out) hb); have n7_ := am (blk_below (g := gb218) (o := .cells #[.int .i64 t212, .slice Ao43 t213.length co43] 24 (0, 0)) (by (with_reducible repeat (first | refine bN ?_ _ | refine bD ?_ | refine bA ?_ _)); exact BK218.out) hb); have n8_ := am (below_step (by repeat (first | (with_reducible first | exact HB.out | apply wA | apply wN | apply wD | refine bS ?_ GE202.out | refine bS ?_ GE203.out | refine bS ?_ GE204.out | refine bS ?_ GE209.out | refine bS ?_ GE218.out) | exact HB.out)) hb); clear HO208; clear HO215; clear BK202; clear BK203; clear BK204; clear BK209; clear BK218; clear HB; have HO208 := n0_; have HO215 := n1_; have HO224 := n2_; have BK202 := n3_; have BK203 := n4_; have BK204 := n5_; have BK209 := n6_; have BK218 := n7_; have HB := n8_; clear n0_ n1_ n2_ n3_ n4_ n5_ n6_ n7_ n8_; (try clear hb); (try clear hb2); (try clear hk); (try clear hi); (try clear ho0)) | ((with_reducible refine gate_dst (N := 13) rfl ?_); refine box_event ?hg (N := 13) ?hd (cs := #[.int .i64 0, .slice none 0 0]) (t := 24) ?hr ?_; (case hd => rfl); (case hg => rfl); (case hr => first | (go_simp; done) | (go_simp; rfl)); intro gb227 hg w51 hbox hb; have n0_ := am (Kd.R_below (by (with_reducible repeat (first | apply Ra | apply Rn | apply Rd)); exact HO208.out) hb); have n1_ := am (Kd.R_below (by (with_reducible repeat (first | apply Ra | apply Rn | apply Rd)); exact HO215.out) hb); have n2_ := am (Kd.R_below (by (with_reducible repeat (first | apply Ra | apply Rn | apply Rd)); exact HO224.out) hb); have n3_ := am (blk_below (g := gb202) (o := .cells #[.int .i64 a0_0, .slice A0_1 l0_1.length c0_1] 24 (0, 0)) (by (with_reducible repeat (first | refine bN ?_ _ | refine bD ?_ | refine bA ?_ _)); exact BK202.out) hb); have n4_ := am (blk_below (g := gb203) (o := .cells #[.int .i64 a1_0, .slice A1_1 l1_1.length c1_1] 24 (0, 0)) (by (with_reducible repeat (first | refine bN ?_ _ | refine bD ?_ | refine bA ?_ _)); exact BK203.out) hb); have n5_ := am (blk_below (g := gb204) (o := .cells #[.int .i64 a2_0, .slice A2_1 l2_1.length c2_1] 24 (0, 0)) (by (with_reducible repeat (first | refine bN ?_ _ | refine bD ?_ | refine bA ?_ _)); exact BK204.out) hb); have n6_ := am (blk_below (g := gb209) (o := .cells #[.int .i64 t205, .slice Ao29 t206.length co29] 24 (0, 0)) (by (with_reducible repeat (first | refine bN ?_ _ | refine bD ?_ | refine bA ?_ _)); exact BK209.out) hb); have n7_ := am (blk_below (g := gb218) (o := .cells #[.int .i64 t212, .slice Ao43 t213.length co43] 24 (0, 0)) (by (with_reducible repeat (first | refine bN ?_ _ | refine bD ?_ | refine bA ?_ _)); exact BK218.out) hb); have n8_ := am (below_step (by repeat (first | (with_reducible first | exact HB.out | apply wA | apply wN | apply wD | refine bS ?_ GE202.out | refine bS ?_ GE203.out | refine bS ?_ GE204.out | refine bS ?_ GE209.out | refine bS ?_ GE218.out) | exact HB.out)) hb); have n9_ := am (hbox); have n10_ := am ((by rw [hg]; exact (below_size (by repeat (first | (with_reducible first | exact HB.out | apply wA | apply wN | apply wD | refine bS ?_ GE202.out | refine bS ?_ GE203.out | refine bS ?_ GE204.out | refine bS ?_ GE209.out | refine bS ?_ GE218.out) | exact HB.out))) : w.heap.size ≤ gb227)); have n11_ := n10_; have n12_ := am ((by rw [hg]; exact Nat.ne_of_lt (blk_lt (g := gb202) (o := .cells #[.int .i64 a0_0, .slice A0_1 l0_1.length c0_1] 24 (0, 0)) (by (with_reducible repeat (first | refine bN ?_ _ | refine bD ?_ | refine bA ?_ _)); exact BK202.out)) : gb202 ≠ gb227)); have n13_ := am n12_.out.symm; have n14_ := am ((by rw [hg]; exact Nat.ne_of_lt (blk_lt (g := gb203) (o := .cells #[.int .i64 a1_0, .slice A1_1 l1_1.length c1_1] 24 (0, 0)) (by (with_reducible repeat (first | refine bN ?_ _ | refine bD ?_ | refine bA ?_ _)); exact BK203.out)) : gb203 ≠ gb227)); have n15_ := am n14_.out.symm; have n16_ := am ((by rw [hg]; exact Nat.ne_of_lt (blk_lt (g := gb204) (o := .cells #[.int .i64 a2_0, .slice A2_1 l2_1.length c2_1] 24 (0, 0)) (by (with_reducible repeat (first | refine bN ?_ _ | refine bD ?_ | refine bA ?_ _)); exact BK204.out)) : gb204 ≠ gb227)); have n17_ := am n16_.out.symm; have n18_ := am ((by rw [hg]; exact Nat.ne_of_lt (blk_lt (g := gb209) (o := .cells #[.int .i64 t205, .slice Ao29 t206.length co29] 24 (0, 0)) (by (with_reducible repeat (first | refine bN ?_ _ | refine bD ?_ | refine bA ?_ _)); exact BK209.out)) : gb209 ≠ gb227)); have n19_ := am n18_.out.symm; have n20_ := am ((by rw [hg]; exact Nat.ne_of_lt (blk_lt (g := gb218) (o := .cells #[.int .i64 t212, .slice Ao43 t213.length co43] 24 (0, 0)) (by (with_reducible repeat (first | refine bN ?_ _ | refine bD ?_ | refine bA ?_ _)); exact BK218.out)) : gb218 ≠ gb227)); have n21_ := am n20_.out.symm; clear HO208; clear HO215; clear HO224; clear BK202; clear BK203; clear BK204; clear BK209; clear BK218; clear HB; have HO208 := n0_; have HO215 := n1_; have HO224 := n2_; have BK202 := n3_; have BK203 := n4_; have BK204 := n5_; have BK209 := n6_; have BK218 := n7_; have HB := n8_; have BK227 := n9_; have GW227 := n10_; have GE227 := n11_; have NB202_227 := n12_; have NB227_202 := n13_; have NB203_227 := n14_; have NB227_203 := n15_; have NB204_227 := n16_; have NB227_204 := n17_; have NB209_227 := n18_; have NB227_209 := n19_; have NB218_227 := n20_; have NB227_218 := n21_; clear n0_ n1_ n2_ n3_ n4_ n5_ n6_ n7_ n8_ n9_ n10_ n11_ n12_ n13_ n14_ n15_ n16_ n17_ n18_ n19_ n20_ n21_; clear hb hbox hg; have hnb52 := NB227_202.out; have hnc52 := NB202_227.out; have hnb53 := NB227_203.out; have hnc53 := NB203_227.out; have hnb54 := NB227_204.out; have hnc54 := NB204_227.out; have hnb55 := NB227_209.out; have hnc55 := NB209_227.out; have hnb56 := NB227_218.out; have hnc56 := NB218_227.out; have hcz57_0 : w51.cell? ⟨gb227, 0, none⟩ = some (.int .i64 0) := (blk_cell BK227.out 0).trans rfl; have hcz57_1 : w51.cell? ⟨gb227, 1, none⟩ = some (.slice none 0 0) := (blk_cell BK227.out 1).trans rfl; have hfz57_0 := blk_frozen BK227.out 0; have hfz57_1 := blk_frozen BK227.out 1; obtain ⟨Ao58, co58, eo58⟩ := Kd.R_slice HO224.out; subst eo58; have hcz59_0 : w51.cell? ⟨gb209, 0, none⟩ = some (.int .i64 t205) := (blk_cell BK209.out 0).trans rfl; have hcz59_1 : w51.cell? ⟨gb209, 1, none⟩ = some (.slice Ao29 t206.length co29) := (blk_cell BK209.out 1).trans rfl; have hfz59_0 := blk_frozen BK209.out 0; have hfz59_1 := blk_frozen BK209.out 1) | ((with_reducible refine gate_callee (f := 17) rfl ?_); refine goesL_ (some 58) rfl rfl Try.func17 (by kernel_rfl) rfl #[.agg #[.int .i64 t205, .slice Ao29 t206.length co29]] rfl (by (try simp only [List.map_toArray, List.map_cons, List.map_nil]); first | done | rfl | (simp only [List.length_drop, List.length_take]; rfl)) ?_; (with_reducible refine (resolve_IDs.calls k t205 _ _ t206 t228 t231 _ ?side1 ?side2 A8.out).mono ?_); (case side1 => refine (Kd.R_reads' (e := 36) (base := w.heap.size) (ok := fun k_ => ((True ∧ some k_ ≠ (.slice Ao43 t213.length co43 : Value).ownBlock) ∧ some k_ ≠ (.slice Ao58 t222.length co58 : Value).ownBlock)) (n := t206.length) (c := co29) ?_).2.2; exact (by (with_reducible repeat (first | apply Ra | apply Rn | apply Rd)); exact (Kd.R_mono (Kd.R_far (p := ⟨gb227, 1, none⟩) (Kd.R_far (p := ⟨gb227, 0, none⟩) (Kd.R_types HO208.out BK227.out (by decide)) (fun _ hk => hk.2) (.int .i64 t221)) (fun _ hk => hk.2) (.slice Ao58 t222.length co58)) (fun _ h_ => h_.1)))); (case side2 => exact (Kd.R_reads' HO208.out).2.1); rintro e w60 ⟨v229, rfl, ho0, hb⟩; refine ⟨_, rfl, ?_⟩; have n0_ := am (Kd.R_below (by (with_reducible repeat (first | apply Ra | apply Rn | apply Rd)); exact (Kd.R_mono (Kd.R_far (p := ⟨gb227, 1, none⟩) (Kd.R_far (p := ⟨gb227, 0, none⟩) (Kd.R_types HO208.out BK227.out (by decide)) (fun _ hk => hk.2) (.int .i64 t221)) (fun _ hk => hk.2) (.slice Ao58 t222.length co58)) (fun _ h_ => h_.1))) hb); have n1_ := am (Kd.R_below (by (with_reducible repeat (first | apply Ra | apply Rn | apply Rd)); exact (Kd.R_mono (Kd.R_far (p := ⟨gb227, 1, none⟩) (Kd.R_far (p := ⟨gb227, 0, none⟩) (Kd.R_types HO215.out BK227.out (by decide)) (fun _ hk => hk.2) (.int .i64 t221)) (fun _ hk => hk.2) (.slice Ao58 t222.length co58)) (fun _ h_ => h_.1))) hb); have n2_ := am (Kd.R_below (by (with_reducible repeat (first | apply Ra | apply Rn | apply Rd)); exact (Kd.R_mono (Kd.R_far (p := ⟨gb227, 1, none⟩) (Kd.R_far (p := ⟨gb227, 0, none⟩) (Kd.R_types HO224.out BK227.out (by decide)) (fun _ hk => hk.2) (.int .i64 t221)) (fun _ hk => hk.2) (.slice Ao58 t222.length co58)) (fun _ h_ => h_.1))) hb); have n3_ := am (Kd.R_lower ho0 (below_size (by repeat (first | (with_reducible first | exact HB.out | apply wA | apply wN | apply wD | refine bS ?_ GE202.out | refine bS ?_ GE203.out | refine bS ?_ GE204.out | refine bS ?_ GE209.out | refine bS ?_ GE218.out | refine bS ?_ GE227.out) | exact HB.out)))); have n4_ := am (blk_below (g := gb202) (o := .cells #[.int .i64 a0_0, .slice A0_1 l0_1.length c0_1] 24 (0, 0)) (by (with_reducible repeat (first | refine bN ?_ _ | refine bD ?_ | refine bA ?_ _)); refine blk_far ?_ NB202_227.out _; (with_reducible repeat (first | refine bN ?_ _ | refine bD ?_ | refine bA ?_ _)); refine blk_far ?_ NB202_227.out _; (with_reducible repeat (first | refine bN ?_ _ | refine bD ?_ | refine bA ?_ _)); exact BK202.out) hb); have n5_ := am (blk_below (g := gb203) (o := .cells #[.int .i64 a1_0, .slice A1_1 l1_1.length c1_1] 24 (0, 0)) (by (with_reducible repeat (first | refine bN ?_ _ | refine bD ?_ | refine bA ?_ _)); refine blk_far ?_ NB203_227.out _; (with_reducible repeat (first | refine bN ?_ _ | refine bD ?_ | refine bA ?_ _)); refine blk_far ?_ NB203_227.out _; (with_reducible repeat (first | refine bN ?_ _ | refine bD ?_ | refine bA ?_ _)); exact BK203.out) hb); have n6_ := am (blk_below (g := gb204) (o := .cells #[.int .i64 a2_0, .slice A2_1 l2_1.length c2_1] 24 (0, 0)) (by (with_reducible repeat (first | refine bN ?_ _ | refine bD ?_ | refine bA ?_ _)); refine blk_far ?_ NB204_227.out _; (with_reducible repeat (first | refine bN ?_ _ | refine bD ?_ | refine bA ?_ _)); refine blk_far ?_ NB204_227.out _; (with_reducible repeat (first | refine bN ?_ _ | refine bD ?_ | refine bA ?_ _)); exact BK204.out) hb); have n7_ := am (blk_below (g := gb209) (o := .cells #[.int .i64 t205, .slice Ao29 t206.length co29] 24 (0, 0)) (by (with_reducible repeat (first | refine bN ?_ _ | refine bD ?_ | refine bA ?_ _)); refine blk_far ?_ NB209_227.out _; (with_reducible repeat (first | refine bN ?_ _ | refine bD ?_ | refine bA ?_ _)); refine blk_far ?_ NB209_227.out _; (with_reducible repeat (first | refine bN ?_ _ | refine bD ?_ | refine bA ?_ _)); exact BK209.out) hb); have n8_ := am (blk_below (g := gb218) (o := .cells #[.int .i64 t212, .slice Ao43 t213.length co43] 24 (0, 0)) (by (with_reducible repeat (first | refine bN ?_ _ | refine bD ?_ | refine bA ?_ _)); refine blk_far ?_ NB218_227.out _; (with_reducible repeat (first | refine bN ?_ _ | refine bD ?_ | refine bA ?_ _)); refine blk_far ?_ NB218_227.out _; (with_reducible repeat (first | refine bN ?_ _ | refine bD ?_ | refine bA ?_ _)); exact BK218.out) hb); have n9_ := am (blk_below (g := gb227) (o := .cells #[.int .i64 t221, .slice Ao58 t222.length co58] 24 (0, 0)) (by (with_reducible repeat (first | refine bN ?_ _ | refine bD ?_ | refine bA ?_ _)); refine blk_put (cs := #[.int .i64 t221, .slice none 0 0]) ?_ 1 _ rfl; (with_reducible repeat (first | refine bN ?_ _ | refine bD ?_ | refine bA ?_ _)); refine blk_put (cs := #[.int .i64 0, .slice none 0 0]) ?_ 0 _ rfl; (with_reducible repeat (first | refine bN ?_ _ | refine bD ?_ | refine bA ?_ _)); exact BK227.out) hb); have n10_ := am (below_step (by repeat (first | (with_reducible first | exact HB.out | apply wA | apply wN | apply wD | refine bS ?_ GE202.out | refine bS ?_ GE203.out | refine bS ?_ GE204.out | refine bS ?_ GE209.out | refine bS ?_ GE218.out | refine bS ?_ GE227.out) | exact HB.out)) hb); clear HO208; clear HO215; clear HO224; clear BK202; clear BK203; clear BK204; clear BK209; clear BK218; clear BK227; clear HB; have HO208 := n0_; have HO215 := n1_; have HO224 := n2_; have HO230 := n3_; have BK202 := n4_; have BK203 := n5_; have BK204 := n6_; have BK209 := n7_; have BK218 := n8_; have BK227 := n9_; have HB := n10_; clear n0_ n1_ n2_ n3_ n4_ n5_ n6_ n7_ n8_ n9_ n10_; (try clear hb); (try clear hb2); (try clear hk); (try clear hi); (try clear ho0); have hcz61_0 : w60.cell? ⟨gb202, 0, none⟩ = some (.int .i64 a0_0) := (blk_cell BK202.out 0).trans rfl; have hcz61_1 : w60.cell? ⟨gb202, 1, none⟩ = some (.slice A0_1 l0_1.length c0_1) := (blk_cell BK202.out 1).trans rfl; have hfz61_0 := blk_frozen BK202.out 0; have hfz61_1 := blk_frozen BK202.out 1) | ((with_reducible refine gate_callee (f := 21) rfl ?_); refine goesL_ (some 63) rfl rfl Try.func21 (by kernel_rfl) rfl #[.agg #[.int .i64 a0_0, .slice A0_1 l0_1.length c0_1]] rfl (by (try simp only [List.map_toArray, List.map_cons, List.map_nil]); first | done | rfl | (simp only [List.length_drop, List.length_take]; rfl)) ?_; (with_reducible refine (waybillref21_IDs.calls k a0_0 _ _ l0_1 t232 t235 _ ?side1 ?side2 A9.out).mono ?_); (case side1 => repeat (first | exact (Kd.C_below HR0_1.out HB.out) | (with_reducible refine Kd.C_alloc ?_ _) | (with_reducible refine Kd.C_drewN ?_ _) | (with_reducible refine Kd.C_drew ?_))); (case side2 => exact HC0_1.out); rintro e w62 ⟨v233, rfl, ho0, hb⟩; refine ⟨_, rfl, ?_⟩; have n0_ := am (Kd.R_below (by (with_reducible repeat (first | apply Ra | apply Rn | apply Rd)); exact HO208.out) hb); have n1_ := am (Kd.R_below (by (with_reducible repeat (first | apply Ra | apply Rn | apply Rd)); exact HO215.out) hb); have n2_ := am (Kd.R_below (by (with_reducible repeat (first | apply Ra | apply Rn | apply Rd)); exact HO224.out) hb); have n3_ := am (Kd.R_elder' (by (with_reducible repeat (first | apply Ra | apply Rn | apply Rd)); exact HO230.out) (Kd.R_base ho0) hb); have n4_ := am (Kd.R_lower (Kd.R_new' ho0 (Kd.R_lt (by (with_reducible repeat (first | apply Ra | apply Rn | apply Rd)); exact HO230.out))) (below_size (by repeat (first | (with_reducible first | exact HB.out | apply wA | apply wN | apply wD | refine bS ?_ GE202.out | refine bS ?_ GE203.out | refine bS ?_ GE204.out | refine bS ?_ GE209.out | refine bS ?_ GE218.out | refine bS ?_ GE227.out) | exact HB.out)))); have n5_ := am (blk_below (g := gb202) (o := .cells #[.int .i64 a0_0, .slice A0_1 l0_1.length c0_1] 24 (0, 0)) (by (with_reducible repeat (first | refine bN ?_ _ | refine bD ?_ | refine bA ?_ _)); exact BK202.out) hb); have n6_ := am (blk_below (g := gb203) (o := .cells #[.int .i64 a1_0, .slice A1_1 l1_1.length c1_1] 24 (0, 0)) (by (with_reducible repeat (first | refine bN ?_ _ | refine bD ?_ | refine bA ?_ _)); exact BK203.out) hb); have n7_ := am (blk_below (g := gb204) (o := .cells #[.int .i64 a2_0, .slice A2_1 l2_1.length c2_1] 24 (0, 0)) (by (with_reducible repeat (first | refine bN ?_ _ | refine bD ?_ | refine bA ?_ _)); exact BK204.out) hb); have n8_ := am (blk_below (g := gb209) (o := .cells #[.int .i64 t205, .slice Ao29 t206.length co29] 24 (0, 0)) (by (with_reducible repeat (first | refine bN ?_ _ | refine bD ?_ | refine bA ?_ _)); exact BK209.out) hb); have n9_ := am (blk_below (g := gb218) (o := .cells #[.int .i64 t212, .slice Ao43 t213.length co43] 24 (0, 0)) (by (with_reducible repeat (first | refine bN ?_ _ | refine bD ?_ | refine bA ?_ _)); exact BK218.out) hb); have n10_ := am (blk_below (g := gb227) (o := .cells #[.int .i64 t221, .slice Ao58 t222.length co58] 24 (0, 0)) (by (with_reducible repeat (first | refine bN ?_ _ | refine bD ?_ | refine bA ?_ _)); exact BK227.out) hb); have n11_ := am (below_step (by repeat (first | (with_reducible first | exact HB.out | apply wA | apply wN | apply wD | refine bS ?_ GE202.out | refine bS ?_ GE203.out | refine bS ?_ GE204.out | refine bS ?_ GE209.out | refine bS ?_ GE218.out | refine bS ?_ GE227.out) | exact HB.out)) hb); clear HO208; clear HO215; clear HO224; clear HO230; clear BK202; clear BK203; clear BK204; clear BK209; clear BK218; clear BK227; clear HB; have HO208 := n0_; have HO215 := n1_; have HO224 := n2_; have HO230 := n3_; have HO234 := n4_; have BK202 := n5_; have BK203 := n6_; have BK204 := n7_; have BK209 := n8_; have BK218 := n9_; have BK227 := n10_; have HB := n11_; clear n0_ n1_ n2_ n3_ n4_ n5_ n6_ n7_ n8_ n9_ n10_ n11_; (try clear hb); (try clear hb2); (try clear hk); (try clear hi); (try clear ho0); have hcz63_0 : w62.cell? ⟨gb209, 0, none⟩ = some (.int .i64 t205) := (blk_cell BK209.out 0).trans rfl; have hcz63_1 : w62.cell? ⟨gb209, 1, none⟩ = some (.slice Ao29 t206.length co29) := (blk_cell BK209.out 1).trans rfl; have hfz63_0 := blk_frozen BK209.out 0; have hfz63_1 := blk_frozen BK209.out 1; have hcz64_0 : w62.cell? ⟨gb203, 0, none⟩ = some (.int .i64 a1_0) := (blk_cell BK203.out 0).trans rfl; have hcz64_1 : w62.cell? ⟨gb203, 1, none⟩ = some (.slice A1_1 l1_1.length c1_1) := (blk_cell BK203.out 1).trans rfl; have hfz64_0 := blk_frozen BK203.out 0; have hfz64_1 := blk_frozen BK203.out 1) | ((with_reducible refine gate_callee (f := 15) rfl ?_); refine goesL_ (some 69) rfl rfl Try.func15 (by kernel_rfl) rfl #[.agg #[.int .i64 t205, .slice Ao29 t206.length co29], .agg #[.int .i64 a1_0, .slice A1_1 l1_1.length c1_1]] rfl (by (try simp only [List.map_toArray, List.map_cons, List.map_nil]); first | done | rfl | (simp only [List.length_drop, List.length_take]; rfl)) ?_; (with_reducible refine (resolve_Diff.calls t205 _ _ t206 a1_0 _ _ l1_1 t236 t239 t242 t245 _ ?side1 ?side2 ?side3 ?side4 A10.out).mono ?_); (case side1 => repeat (first | exact (Kd.R_reads' HO208.out).2.2 | (with_reducible refine Kd.C_alloc ?_ _) | (with_reducible refine Kd.C_drewN ?_ _) | (with_reducible refine Kd.C_drew ?_))); (case side2 => exact (Kd.R_reads' HO208.out).2.1); (case side3 => repeat (first | exact (Kd.C_below HR1_1.out HB.out) | (with_reducible refine Kd.C_alloc ?_ _) | (with_reducible refine Kd.C_drewN ?_ _) | (with_reducible refine Kd.C_drew ?_))); (case side4 => exact HC1_1.out); rintro e w65 ⟨v237, v240, v243, rfl, ho0, ho1, ho2, hb⟩; refine ⟨_, rfl, ?_⟩; have n0_ := am (Kd.R_below (by (with_reducible repeat (first | apply Ra | apply Rn | apply Rd)); exact HO208.out) hb); have n1_ := am (Kd.R_below (by (with_reducible repeat (first | apply Ra | apply Rn | apply Rd)); exact HO215.out) hb); have n2_ := am (Kd.R_below (by (with_reducible repeat (first | apply Ra | apply Rn | apply Rd)); exact HO224.out) hb); have n3_ := am (Kd.R_mono (Kd.R_told (Kd.R_told (Kd.R_told (Kd.R_old (by (with_reducible repeat (first | apply Ra | apply Rn | apply Rd)); exact HO230.out) hb) (Kd.R_base ho0)) (Kd.R_base ho1)) (Kd.R_base ho2)) (fun _ h_ => h_.1)); have n4_ := am (Kd.R_mono (Kd.R_told (Kd.R_told (Kd.R_told (Kd.R_old (by (with_reducible repeat (first | apply Ra | apply Rn | apply Rd)); exact HO234.out) hb) (Kd.R_base ho0)) (Kd.R_base ho1)) (Kd.R_base ho2)) (fun _ h_ => h_.1)); have n5_ := am (Kd.R_lower (Kd.R_new' (Kd.R_new' ho0 (Kd.R_lt (by (with_reducible repeat (first | apply Ra | apply Rn | apply Rd)); exact HO230.out))) (Kd.R_lt (by (with_reducible repeat (first | apply Ra | apply Rn | apply Rd)); exact HO234.out))) (below_size (by repeat (first | (with_reducible first | exact HB.out | apply wA | apply wN | apply wD | refine bS ?_ GE202.out | refine bS ?_ GE203.out | refine bS ?_ GE204.out | refine bS ?_ GE209.out | refine bS ?_ GE218.out | refine bS ?_ GE227.out) | exact HB.out)))); have n6_ := am (Kd.R_lower (Kd.R_new' (Kd.R_new' ho1 (Kd.R_lt (by (with_reducible repeat (first | apply Ra | apply Rn | apply Rd)); exact HO230.out))) (Kd.R_lt (by (with_reducible repeat (first | apply Ra | apply Rn | apply Rd)); exact HO234.out))) (below_size (by repeat (first | (with_reducible first | exact HB.out | apply wA | apply wN | apply wD | refine bS ?_ GE202.out | refine bS ?_ GE203.out | refine bS ?_ GE204.out | refine bS ?_ GE209.out | refine bS ?_ GE218.out | refine bS ?_ GE227.out) | exact HB.out)))); have n7_ := am (Kd.R_lower (Kd.R_new' (Kd.R_new' ho2 (Kd.R_lt (by (with_reducible repeat (first | apply Ra | apply Rn | apply Rd)); exact HO230.out))) (Kd.R_lt (by (with_reducible repeat (first | apply Ra | apply Rn | apply Rd)); exact HO234.out))) (below_size (by repeat (first | (with_reducible first | exact HB.out | apply wA | apply wN | apply wD | refine bS ?_ GE202.out | refine bS ?_ GE203.out | refine bS ?_ GE204.out | refine bS ?_ GE209.out | refine bS ?_ GE218.out | refine bS ?_ GE227.out) | exact HB.out)))); have n8_ := am (blk_below (g := gb202) (o := .cells #[.int .i64 a0_0, .slice A0_1 l0_1.length c0_1] 24 (0, 0)) (by (with_reducible repeat (first | refine bN ?_ _ | refine bD ?_ | refine bA ?_ _)); exact BK202.out) hb); have n9_ := am (blk_below (g := gb203) (o := .cells #[.int .i64 a1_0, .slice A1_1 l1_1.length c1_1] 24 (0, 0)) (by (with_reducible repeat (first | refine bN ?_ _ | refine bD ?_ | refine bA ?_ _)); exact BK203.out) hb); have n10_ := am (blk_below (g := gb204) (o := .cells #[.int .i64 a2_0, .slice A2_1 l2_1.length c2_1] 24 (0, 0)) (by (with_reducible repeat (first | refine bN ?_ _ | refine bD ?_ | refine bA ?_ _)); exact BK204.out) hb); have n11_ := am (blk_below (g := gb209) (o := .cells #[.int .i64 t205, .slice Ao29 t206.length co29] 24 (0, 0)) (by (with_reducible repeat (first | refine bN ?_ _ | refine bD ?_ | refine bA ?_ _)); exact BK209.out) hb); have n12_ := am (blk_below (g := gb218) (o := .cells #[.int .i64 t212, .slice Ao43 t213.length co43] 24 (0, 0)) (by (with_reducible repeat (first | refine bN ?_ _ | refine bD ?_ | refine bA ?_ _)); exact BK218.out) hb); have n13_ := am (blk_below (g := gb227) (o := .cells #[.int .i64 t221, .slice Ao58 t222.length co58] 24 (0, 0)) (by (with_reducible repeat (first | refine bN ?_ _ | refine bD ?_ | refine bA ?_ _)); exact BK227.out) hb); have n14_ := am (below_step (by repeat (first | (with_reducible first | exact HB.out | apply wA | apply wN | apply wD | refine bS ?_ GE202.out | refine bS ?_ GE203.out | refine bS ?_ GE204.out | refine bS ?_ GE209.out | refine bS ?_ GE218.out | refine bS ?_ GE227.out) | exact HB.out)) hb); clear HO208; clear HO215; clear HO224; clear HO230; clear HO234; clear BK202; clear BK203; clear BK204; clear BK209; clear BK218; clear BK227; clear HB; have HO208 := n0_; have HO215 := n1_; have HO224 := n2_; have HO230 := n3_; have HO234 := n4_; have HO238 := n5_; have HO241 := n6_; have HO244 := n7_; have BK202 := n8_; have BK203 := n9_; have BK204 := n10_; have BK209 := n11_; have BK218 := n12_; have BK227 := n13_; have HB := n14_; clear n0_ n1_ n2_ n3_ n4_ n5_ n6_ n7_ n8_ n9_ n10_ n11_ n12_ n13_ n14_; (try clear hb); (try clear hb2); (try clear hk); (try clear hi); (try clear ho0); (try clear ho1); (try clear ho2); have hcz66_0 : w65.cell? ⟨gb202, 0, none⟩ = some (.int .i64 a0_0) := (blk_cell BK202.out 0).trans rfl; have hcz66_1 : w65.cell? ⟨gb202, 1, none⟩ = some (.slice A0_1 l0_1.length c0_1) := (blk_cell BK202.out 1).trans rfl; have hfz66_0 := blk_frozen BK202.out 0; have hfz66_1 := blk_frozen BK202.out 1; have hcz67_0 : w65.cell? ⟨gb203, 0, none⟩ = some (.int .i64 a1_0) := (blk_cell BK203.out 0).trans rfl; have hcz67_1 : w65.cell? ⟨gb203, 1, none⟩ = some (.slice A1_1 l1_1.length c1_1) := (blk_cell BK203.out 1).trans rfl; have hfz67_0 := blk_frozen BK203.out 0; have hfz67_1 := blk_frozen BK203.out 1) | ((with_reducible refine gate_callee (f := 22) rfl ?_); refine goesL_ (some 77) rfl rfl Try.func22 (by kernel_rfl) rfl #[.agg #[.int .i64 a0_0, .slice A0_1 l0_1.length c0_1], .agg #[.int .i64 a1_0, .slice A1_1 l1_1.length c1_1]] rfl (by (try simp only [List.map_toArray, List.map_cons, List.map_nil]); first | done | rfl | (simp only [List.length_drop, List.length_take]; rfl)) ?_; (with_reducible refine (waybillref21_Diff.calls k a0_0 _ _ l0_1 a1_0 _ _ l1_1 t246 t249 t252 t255 _ ?side1 ?side2 ?side3 ?side4 A11.out).mono ?_); (case side1 => repeat (first | exact (Kd.C_below HR0_1.out HB.out) | (with_reducible refine Kd.C_alloc ?_ _) | (with_reducible refine Kd.C_drewN ?_ _) | (with_reducible refine Kd.C_drew ?_))); (case side2 => exact HC0_1.out); (case side3 => repeat (first | exact (Kd.C_below HR1_1.out HB.out) | (with_reducible refine Kd.C_alloc ?_ _) | (with_reducible refine Kd.C_drewN ?_ _) | (with_reducible refine Kd.C_drew ?_))); (case side4 => exact HC1_1.out); rintro e w68 ⟨v247, v250, v253, rfl, ho0, ho1, ho2, hb⟩; refine ⟨_, rfl, ?_⟩; have n0_ := am (Kd.R_below (by (with_reducible repeat (first | apply Ra | apply Rn | apply Rd)); exact HO208.out) hb); have n1_ := am (Kd.R_below (by (with_reducible repeat (first | apply Ra | apply Rn | apply Rd)); exact HO215.out) hb); have n2_ := am (Kd.R_below (by (with_reducible repeat (first | apply Ra | apply Rn | apply Rd)); exact HO224.out) hb); have n3_ := am (Kd.R_mono (Kd.R_told (Kd.R_told (Kd.R_told (Kd.R_old (by (with_reducible repeat (first | apply Ra | apply Rn | apply Rd)); exact HO230.out) hb) (Kd.R_base ho0)) (Kd.R_base ho1)) (Kd.R_base ho2)) (fun _ h_ => h_.1)); have n4_ := am (Kd.R_mono (Kd.R_told (Kd.R_told (Kd.R_told (Kd.R_old (by (with_reducible repeat (first | apply Ra | apply Rn | apply Rd)); exact HO234.out) hb) (Kd.R_base ho0)) (Kd.R_base ho1)) (Kd.R_base ho2)) (fun _ h_ => h_.1)); have n5_ := am (Kd.R_mono (Kd.R_told (Kd.R_told (Kd.R_told (Kd.R_old (by (with_reducible repeat (first | apply Ra | apply Rn | apply Rd)); exact HO238.out) hb) (Kd.R_base ho0)) (Kd.R_base ho1)) (Kd.R_base ho2)) (fun _ h_ => h_.1)); have n6_ := am (Kd.R_mono (Kd.R_told (Kd.R_told (Kd.R_told (Kd.R_old (by (with_reducible repeat (first | apply Ra | apply Rn | apply Rd)); exact HO241.out) hb) (Kd.R_base ho0)) (Kd.R_base ho1)) (Kd.R_base ho2)) (fun _ h_ => h_.1)); have n7_ := am (Kd.R_mono (Kd.R_told (Kd.R_told (Kd.R_told (Kd.R_old (by (with_reducible repeat (first | apply Ra | apply Rn | apply Rd)); exact HO244.out) hb) (Kd.R_base ho0)) (Kd.R_base ho1)) (Kd.R_base ho2)) (fun _ h_ => h_.1)); have n8_ := am (Kd.R_lower (Kd.R_new' (Kd.R_new' (Kd.R_new' (Kd.R_new' (Kd.R_new' ho0 (Kd.R_lt (by (with_reducible repeat (first | apply Ra | apply Rn | apply Rd)); exact HO230.out))) (Kd.R_lt (by (with_reducible repeat (first | apply Ra | apply Rn | apply Rd)); exact HO234.out))) (Kd.R_lt (by (with_reducible repeat (first | apply Ra | apply Rn | apply Rd)); exact HO238.out))) (Kd.R_lt (by (with_reducible repeat (first | apply Ra | apply Rn | apply Rd)); exact HO241.out))) (Kd.R_lt (by (with_reducible repeat (first | apply Ra | apply Rn | apply Rd)); exact HO244.out))) (below_size (by repeat (first | (with_reducible first | exact HB.out | apply wA | apply wN | apply wD | refine bS ?_ GE202.out | refine bS ?_ GE203.out | refine bS ?_ GE204.out | refine bS ?_ GE209.out | refine bS ?_ GE218.out | refine bS ?_ GE227.out) | exact HB.out)))); have n9_ := am (Kd.R_lower (Kd.R_new' (Kd.R_new' (Kd.R_new' (Kd.R_new' (Kd.R_new' ho1 (Kd.R_lt (by (with_reducible repeat (first | apply Ra | apply Rn | apply Rd)); exact HO230.out))) (Kd.R_lt (by (with_reducible repeat (first | apply Ra | apply Rn | apply Rd)); exact HO234.out))) (Kd.R_lt (by (with_reducible repeat (first | apply Ra | apply Rn | apply Rd)); exact HO238.out))) (Kd.R_lt (by (with_reducible repeat (first | apply Ra | apply Rn | apply Rd)); exact HO241.out))) (Kd.R_lt (by (with_reducible repeat (first | apply Ra | apply Rn | apply Rd)); exact HO244.out))) (below_size (by repeat (first | (with_reducible first | exact HB.out | apply wA | apply wN | apply wD | refine bS ?_ GE202.out | refine bS ?_ GE203.out | refine bS ?_ GE204.out | refine bS ?_ GE209.out | refine bS ?_ GE218.out | refine bS ?_ GE227.out) | exact HB.out)))); have n10_ := am (Kd.R_lower (Kd.R_new' (Kd.R_new' (Kd.R_new' (Kd.R_new' (Kd.R_new' ho2 (Kd.R_lt (by (with_reducible repeat (first | apply Ra | apply Rn | apply Rd)); exact HO230.out))) (Kd.R_lt (by (with_reducible repeat (first | apply Ra | apply Rn | apply Rd)); exact HO234.out))) (Kd.R_lt (by (with_reducible repeat (first | apply Ra | apply Rn | apply Rd)); exact HO238.out))) (Kd.R_lt (by (with_reducible repeat (first | apply Ra | apply Rn | apply Rd)); exact HO241.out))) (Kd.R_lt (by (with_reducible repeat (first | apply Ra | apply Rn | apply Rd)); exact HO244.out))) (below_size (by repeat (first | (with_reducible first | exact HB.out | apply wA | apply wN | apply wD | refine bS ?_ GE202.out | refine bS ?_ GE203.out | refine bS ?_ GE204.out | refine bS ?_ GE209.out | refine bS ?_ GE218.out | refine bS ?_ GE227.out) | exact HB.out)))); have n11_ := am (blk_below (g := gb202) (o := .cells #[.int .i64 a0_0, .slice A0_1 l0_1.length c0_1] 24 (0, 0)) (by (with_reducible repeat (first | refine bN ?_ _ | refine bD ?_ | refine bA ?_ _)); exact BK202.out) hb); have n12_ := am (blk_below (g := gb203) (o := .cells #[.int .i64 a1_0, .slice A1_1 l1_1.length c1_1] 24 (0, 0)) (by (with_reducible repeat (first | refine bN ?_ _ | refine bD ?_ | refine bA ?_ _)); exact BK203.out) hb); have n13_ := am (blk_below (g := gb204) (o := .cells #[.int .i64 a2_0, .slice A2_1 l2_1.length c2_1] 24 (0, 0)) (by (with_reducible repeat (first | refine bN ?_ _ | refine bD ?_ | refine bA ?_ _)); exact BK204.out) hb); have n14_ := am (blk_below (g := gb209) (o := .cells #[.int .i64 t205, .slice Ao29 t206.length co29] 24 (0, 0)) (by (with_reducible repeat (first | refine bN ?_ _ | refine bD ?_ | refine bA ?_ _)); exact BK209.out) hb); have n15_ := am (blk_below (g := gb218) (o := .cells #[.int .i64 t212, .slice Ao43 t213.length co43] 24 (0, 0)) (by (with_reducible repeat (first | refine bN ?_ _ | refine bD ?_ | refine bA ?_ _)); exact BK218.out) hb); have n16_ := am (blk_below (g := gb227) (o := .cells #[.int .i64 t221, .slice Ao58 t222.length co58] 24 (0, 0)) (by (with_reducible repeat (first | refine bN ?_ _ | refine bD ?_ | refine bA ?_ _)); exact BK227.out) hb); have n17_ := am (below_step (by repeat (first | (with_reducible first | exact HB.out | apply wA | apply wN | apply wD | refine bS ?_ GE202.out | refine bS ?_ GE203.out | refine bS ?_ GE204.out | refine bS ?_ GE209.out | refine bS ?_ GE218.out | refine bS ?_ GE227.out) | exact HB.out)) hb); clear HO208; clear HO215; clear HO224; clear HO230; clear HO234; clear HO238; clear HO241; clear HO244; clear BK202; clear BK203; clear BK204; clear BK209; clear BK218; clear BK227; clear HB; have HO208 := n0_; have HO215 := n1_; have HO224 := n2_; have HO230 := n3_; have HO234 := n4_; have HO238 := n5_; have HO241 := n6_; have HO244 := n7_; have HO248 := n8_; have HO251 := n9_; have HO254 := n10_; have BK202 := n11_; have BK203 := n12_; have BK204 := n13_; have BK209 := n14_; have BK218 := n15_; have BK227 := n16_; have HB := n17_; clear n0_ n1_ n2_ n3_ n4_ n5_ n6_ n7_ n8_ n9_ n10_ n11_ n12_ n13_ n14_ n15_ n16_ n17_; (try clear hb); (try clear hb2); (try clear hk); (try clear hi); (try clear ho0); (try clear ho1); (try clear ho2); have hcz69_0 : w68.cell? ⟨gb209, 0, none⟩ = some (.int .i64 t205) := (blk_cell BK209.out 0).trans rfl; have hcz69_1 : w68.cell? ⟨gb209, 1, none⟩ = some (.slice Ao29 t206.length co29) := (blk_cell BK209.out 1).trans rfl; have hfz69_0 := blk_frozen BK209.out 0; have hfz69_1 := blk_frozen BK209.out 1) | ((with_reducible refine gate_callee (f := 18) rfl ?_); refine goesL_ (some 85) rfl rfl Try.func18 (by kernel_rfl) rfl #[.agg #[.int .i64 t205, .slice Ao29 t206.length co29], .slice A3 l3.length c3] rfl (by (try simp only [List.map_toArray, List.map_cons, List.map_nil]); first | done | rfl | (simp only [List.length_drop, List.length_take]; rfl)) ?_; (with_reducible refine (resolve_Pick.calls t205 _ _ t206 _ _ l3 t256 t259 _ ?side1 ?side2 ?side3 ?side4 A12.out).mono ?_); (case side1 => repeat (first | exact (Kd.R_reads' HO208.out).2.2 | (with_reducible refine Kd.C_alloc ?_ _) | (with_reducible refine Kd.C_drewN ?_ _) | (with_reducible refine Kd.C_drew ?_))); (case side2 => exact (Kd.R_reads' HO208.out).2.1); (case side3 => repeat (first | exact (Kd.C_below HR3.out HB.out) | (with_reducible refine Kd.C_alloc ?_ _) | (with_reducible refine Kd.C_drewN ?_ _) | (with_reducible refine Kd.C_drew ?_))); (case side4 => exact HC3.out); rintro e w70 ⟨v257, rfl, ho0, hb⟩; refine ⟨_, rfl, ?_⟩; have n0_ := am (Kd.R_elder' (by (with_reducible repeat (first | apply Ra | apply Rn | apply Rd)); exact HO208.out) (Kd.R_base ho0) hb); have n1_ := am (Kd.R_elder' (by (with_reducible repeat (first | apply Ra | apply Rn | apply Rd)); exact HO215.out) (Kd.R_base ho0) hb); have n2_ := am (Kd.R_elder' (by (with_reducible repeat (first | apply Ra | apply Rn | apply Rd)); exact HO224.out) (Kd.R_base ho0) hb); have n3_ := am (Kd.R_below (by (with_reducible repeat (first | apply Ra | apply Rn | apply Rd)); exact HO230.out) hb); have n4_ := am (Kd.R_below (by (with_reducible repeat (first | apply Ra | apply Rn | apply Rd)); exact HO234.out) hb); have n5_ := am (Kd.R_below (by (with_reducible repeat (first | apply Ra | apply Rn | apply Rd)); exact HO238.out) hb); have n6_ := am (Kd.R_below (by (with_reducible repeat (first | apply Ra | apply Rn | apply Rd)); exact HO241.out) hb); have n7_ := am (Kd.R_below (by (with_reducible repeat (first | apply Ra | apply Rn | apply Rd)); exact HO244.out) hb); have n8_ := am (Kd.R_below (by (with_reducible repeat (first | apply Ra | apply Rn | apply Rd)); exact HO248.out) hb); have n9_ := am (Kd.R_below (by (with_reducible repeat (first | apply Ra | apply Rn | apply Rd)); exact HO251.out) hb); have n10_ := am (Kd.R_below (by (with_reducible repeat (first | apply Ra | apply Rn | apply Rd)); exact HO254.out) hb); have n11_ := am (Kd.R_lower (Kd.R_new' (Kd.R_new' (Kd.R_new' ho0 (Kd.R_lt (by (with_reducible repeat (first | apply Ra | apply Rn | apply Rd)); exact HO208.out))) (Kd.R_lt (by (with_reducible repeat (first | apply Ra | apply Rn | apply Rd)); exact HO215.out))) (Kd.R_lt (by (with_reducible repeat (first | apply Ra | apply Rn | apply Rd)); exact HO224.out))) (below_size (by repeat (first | (with_reducible first | exact HB.out | apply wA | apply wN | apply wD | refine bS ?_ GE202.out | refine bS ?_ GE203.out | refine bS ?_ GE204.out | refine bS ?_ GE209.out | refine bS ?_ GE218.out | refine bS ?_ GE227.out) | exact HB.out)))); have n12_ := am (blk_below (g := gb202) (o := .cells #[.int .i64 a0_0, .slice A0_1 l0_1.length c0_1] 24 (0, 0)) (by (with_reducible repeat (first | refine bN ?_ _ | refine bD ?_ | refine bA ?_ _)); exact BK202.out) hb); have n13_ := am (blk_below (g := gb203) (o := .cells #[.int .i64 a1_0, .slice A1_1 l1_1.length c1_1] 24 (0, 0)) (by (with_reducible repeat (first | refine bN ?_ _ | refine bD ?_ | refine bA ?_ _)); exact BK203.out) hb); have n14_ := am (blk_below (g := gb204) (o := .cells #[.int .i64 a2_0, .slice A2_1 l2_1.length c2_1] 24 (0, 0)) (by (with_reducible repeat (first | refine bN ?_ _ | refine bD ?_ | refine bA ?_ _)); exact BK204.out) hb); have n15_ := am (blk_below (g := gb209) (o := .cells #[.int .i64 t205, .slice Ao29 t206.length co29] 24 (0, 0)) (by (with_reducible repeat (first | refine bN ?_ _ | refine bD ?_ | refine bA ?_ _)); exact BK209.out) hb); have n16_ := am (blk_below (g := gb218) (o := .cells #[.int .i64 t212, .slice Ao43 t213.length co43] 24 (0, 0)) (by (with_reducible repeat (first | refine bN ?_ _ | refine bD ?_ | refine bA ?_ _)); exact BK218.out) hb); have n17_ := am (blk_below (g := gb227) (o := .cells #[.int .i64 t221, .slice Ao58 t222.length co58] 24 (0, 0)) (by (with_reducible repeat (first | refine bN ?_ _ | refine bD ?_ | refine bA ?_ _)); exact BK227.out) hb); have n18_ := am (below_step (by repeat (first | (with_reducible first | exact HB.out | apply wA | apply wN | apply wD | refine bS ?_ GE202.out | refine bS ?_ GE203.out | refine bS ?_ GE204.out | refine bS ?_ GE209.out | refine bS ?_ GE218.out | refine bS ?_ GE227.out) | exact HB.out)) hb); clear HO208; clear HO215; clear HO224; clear HO230; clear HO234; clear HO238; clear HO241; clear HO244; clear HO248; clear HO251; clear HO254; clear BK202; clear BK203; clear BK204; clear BK209; clear BK218; clear BK227; clear HB; have HO208 := n0_; have HO215 := n1_; have HO224 := n2_; have HO230 := n3_; have HO234 := n4_; have HO238 := n5_; have HO241 := n6_; have HO244 := n7_; have HO248 := n8_; have HO251 := n9_; have HO254 := n10_; have HO258 := n11_; have BK202 := n12_; have BK203 := n13_; have BK204 := n14_; have BK209 := n15_; have BK218 := n16_; have BK227 := n17_; have HB := n18_; clear n0_ n1_ n2_ n3_ n4_ n5_ n6_ n7_ n8_ n9_ n10_ n11_ n12_ n13_ n14_ n15_ n16_ n17_ n18_; (try clear hb); (try clear hb2); (try clear hk); (try clear hi); (try clear ho0); have hcz71_0 : w70.cell? ⟨gb202, 0, none⟩ = some (.int .i64 a0_0) := (blk_cell BK202.out 0).trans rfl; have hcz71_1 : w70.cell? ⟨gb202, 1, none⟩ = some (.slice A0_1 l0_1.length c0_1) := (blk_cell BK202.out 1).trans rfl; have hfz71_0 := blk_frozen BK202.out 0; have hfz71_1 := blk_frozen BK202.out 1) | ((with_reducible refine gate_callee (f := 23) rfl ?_); refine goesL_ (some 91) rfl rfl Try.func23 (by kernel_rfl) rfl #[.agg #[.int .i64 a0_0, .slice A0_1 l0_1.length c0_1], .slice A3 l3.length c3] rfl (by (try simp only [List.map_toArray, List.map_cons, List.map_nil]); first | done | rfl | (simp only [List.length_drop, List.length_take]; rfl)) ?_; (with_reducible refine (waybillref21_Pick.calls k a0_0 _ _ l0_1 _ _ l3 t260 t263 _ ?side1 ?side2 ?side3 ?side4 A13.out).mono ?_); (case side1 => repeat (first | exact (Kd.C_below HR0_1.out HB.out) | (with_reducible refine Kd.C_alloc ?_ _) | (with_reducible refine Kd.C_drewN ?_ _) | (with_reducible refine Kd.C_drew ?_))); (case side2 => exact HC0_1.out); (case side3 => repeat (first | exact (Kd.C_below HR3.out HB.out) | (with_reducible refine Kd.C_alloc ?_ _) | (with_reducible refine Kd.C_drewN ?_ _) | (with_reducible refine Kd.C_drew ?_))); (case side4 => exact HC3.out); rintro e w72 ⟨v261, rfl, ho0, hb⟩; refine ⟨_, rfl, ?_⟩; have n0_ := am (Kd.R_elder' (by (with_reducible repeat (first | apply Ra | apply Rn | apply Rd)); exact HO208.out) (Kd.R_base ho0) hb); have n1_ := am (Kd.R_elder' (by (with_reducible repeat (first | apply Ra | apply Rn | apply Rd)); exact HO215.out) (Kd.R_base ho0) hb); have n2_ := am (Kd.R_elder' (by (with_reducible repeat (first | apply Ra | apply Rn | apply Rd)); exact HO224.out) (Kd.R_base ho0) hb); have n3_ := am (Kd.R_below (by (with_reducible repeat (first | apply Ra | apply Rn | apply Rd)); exact HO230.out) hb); have n4_ := am (Kd.R_below (by (with_reducible repeat (first | apply Ra | apply Rn | apply Rd)); exact HO234.out) hb); have n5_ := am (Kd.R_below (by (with_reducible repeat (first | apply Ra | apply Rn | apply Rd)); exact HO238.out) hb); have n6_ := am (Kd.R_below (by (with_reducible repeat (first | apply Ra | apply Rn | apply Rd)); exact HO241.out) hb); have n7_ := am (Kd.R_below (by (with_reducible repeat (first | apply Ra | apply Rn | apply Rd)); exact HO244.out) hb); have n8_ := am (Kd.R_below (by (with_reducible repeat (first | apply Ra | apply Rn | apply Rd)); exact HO248.out) hb); have n9_ := am (Kd.R_below (by (with_reducible repeat (first | apply Ra | apply Rn | apply Rd)); exact HO251.out) hb); have n10_ := am (Kd.R_below (by (with_reducible repeat (first | apply Ra | apply Rn | apply Rd)); exact HO254.out) hb); have n11_ := am (Kd.R_elder' (by (with_reducible repeat (first | apply Ra | apply Rn | apply Rd)); exact HO258.out) (Kd.R_base ho0) hb); have n12_ := am (Kd.R_lower (Kd.R_new' (Kd.R_new' (Kd.R_new' (Kd.R_new' ho0 (Kd.R_lt (by (with_reducible repeat (first | apply Ra | apply Rn | apply Rd)); exact HO208.out))) (Kd.R_lt (by (with_reducible repeat (first | apply Ra | apply Rn | apply Rd)); exact HO215.out))) (Kd.R_lt (by (with_reducible repeat (first | apply Ra | apply Rn | apply Rd)); exact HO224.out))) (Kd.R_lt (by (with_reducible repeat (first | apply Ra | apply Rn | apply Rd)); exact HO258.out))) (below_size (by repeat (first | (with_reducible first | exact HB.out | apply wA | apply wN | apply wD | refine bS ?_ GE202.out | refine bS ?_ GE203.out | refine bS ?_ GE204.out | refine bS ?_ GE209.out | refine bS ?_ GE218.out | refine bS ?_ GE227.out) | exact HB.out)))); have n13_ := am (blk_below (g := gb202) (o := .cells #[.int .i64 a0_0, .slice A0_1 l0_1.length c0_1] 24 (0, 0)) (by (with_reducible repeat (first | refine bN ?_ _ | refine bD ?_ | refine bA ?_ _)); exact BK202.out) hb); have n14_ := am (blk_below (g := gb203) (o := .cells #[.int .i64 a1_0, .slice A1_1 l1_1.length c1_1] 24 (0, 0)) (by (with_reducible repeat (first | refine bN ?_ _ | refine bD ?_ | refine bA ?_ _)); exact BK203.out) hb); have n15_ := am (blk_below (g := gb204) (o := .cells #[.int .i64 a2_0, .slice A2_1 l2_1.length c2_1] 24 (0, 0)) (by (with_reducible repeat (first | refine bN ?_ _ | refine bD ?_ | refine bA ?_ _)); exact BK204.out) hb); have n16_ := am (blk_below (g := gb209) (o := .cells #[.int .i64 t205, .slice Ao29 t206.length co29] 24 (0, 0)) (by (with_reducible repeat (first | refine bN ?_ _ | refine bD ?_ | refine bA ?_ _)); exact BK209.out) hb); have n17_ := am (blk_below (g := gb218) (o := .cells #[.int .i64 t212, .slice Ao43 t213.length co43] 24 (0, 0)) (by (with_reducible repeat (first | refine bN ?_ _ | refine bD ?_ | refine bA ?_ _)); exact BK218.out) hb); have n18_ := am (blk_below (g := gb227) (o := .cells #[.int .i64 t221, .slice Ao58 t222.length co58] 24 (0, 0)) (by (with_reducible repeat (first | refine bN ?_ _ | refine bD ?_ | refine bA ?_ _)); exact BK227.out) hb); have n19_ := am (below_step (by repeat (first | (with_reducible first | exact HB.out | apply wA | apply wN | apply wD | refine bS ?_ GE202.out | refine bS ?_ GE203.out | refine bS ?_ GE204.out | refine bS ?_ GE209.out | refine bS ?_ GE218.out | refine bS ?_ GE227.out) | exact HB.out)) hb); clear HO208; clear HO215; clear HO224; clear HO230; clear HO234; clear HO238; clear HO241; clear HO244; clear HO248; clear HO251; clear HO254; clear HO258; clear BK202; clear BK203; clear BK204; clear BK209; clear BK218; clear BK227; clear HB; have HO208 := n0_; have HO215 := n1_; have HO224 := n2_; have HO230 := n3_; have HO234 := n4_; have HO238 := n5_; have HO241 := n6_; have HO244 := n7_; have HO248 := n8_; have HO251 := n9_; have HO254 := n10_; have HO258 := n11_; have HO262 := n12_; have BK202 := n13_; have BK203 := n14_; have BK204 := n15_; have BK209 := n16_; have BK218 := n17_; have BK227 := n18_; have HB := n19_; clear n0_ n1_ n2_ n3_ n4_ n5_ n6_ n7_ n8_ n9_ n10_ n11_ n12_ n13_ n14_ n15_ n16_ n17_ n18_ n19_; (try clear hb); (try clear hb2); (try clear hk); (try clear hi); (try clear ho0); have hcz73_0 : w72.cell? ⟨gb209, 0, none⟩ = some (.int .i64 t205) := (blk_cell BK209.out 0).trans rfl; have hcz73_1 : w72.cell? ⟨gb209, 1, none⟩ = some (.slice Ao29 t206.length co29) := (blk_cell BK209.out 1).trans rfl; have hfz73_0 := blk_frozen BK209.out 0; have hfz73_1 := blk_frozen BK209.out 1) | ((with_reducible refine gate_callee (f := 19) rfl ?_); refine goesL_ (some 96) rfl rfl Try.func19 (by kernel_rfl) rfl #[.agg #[.int .i64 t205, .slice Ao29 t206.length co29]] rfl (by (try simp only [List.map_toArray, List.map_cons, List.map_nil]); first | done | rfl | (simp only [List.length_drop, List.length_take]; rfl)) ?_; (with_reducible refine (resolve_Weight.calls k t205 _ _ t206 t264 t265 _ ?side1 ?side2 A14.out).mono ?_); (case side1 => repeat (first | exact (Kd.R_reads' HO208.out).2.2 | (with_reducible refine Kd.C_alloc ?_ _) | (with_reducible refine Kd.C_drewN ?_ _) | (with_reducible refine Kd.C_drew ?_))); (case side2 => exact (Kd.R_reads' HO208.out).2.1); rintro e w74 ⟨rfl, hb⟩; refine ⟨_, rfl, ?_⟩; have n0_ := am (Kd.R_below (by (with_reducible repeat (first | apply Ra | apply Rn | apply Rd)); exact HO208.out) hb); have n1_ := am (Kd.R_below (by (with_reducible repeat (first | apply Ra | apply Rn | apply Rd)); exact HO215.out) hb); have n2_ := am (Kd.R_below (by (with_reducible repeat (first | apply Ra | apply Rn | apply Rd)); exact HO224.out) hb); have n3_ := am (Kd.R_below (by (with_reducible repeat (first | apply Ra | apply Rn | apply Rd)); exact HO230.out) hb); have n4_ := am (Kd.R_below (by (with_reducible repeat (first | apply Ra | apply Rn | apply Rd)); exact HO234.out) hb); have n5_ := am (Kd.R_below (by (with_reducible repeat (first | apply Ra | apply Rn | apply Rd)); exact HO238.out) hb); have n6_ := am (Kd.R_below (by (with_reducible repeat (first | apply Ra | apply Rn | apply Rd)); exact HO241.out) hb); have n7_ := am (Kd.R_below (by (with_reducible repeat (first | apply Ra | apply Rn | apply Rd)); exact HO244.out) hb); have n8_ := am (Kd.R_below (by (with_reducible repeat (first | apply Ra | apply Rn | apply Rd)); exact HO248.out) hb); have n9_ := am (Kd.R_below (by (with_reducible repeat (first | apply Ra | apply Rn | apply Rd)); exact HO251.out) hb); have n10_ := am (Kd.R_below (by (with_reducible repeat (first | apply Ra | apply Rn | apply Rd)); exact HO254.out) hb); have n11_ := am (Kd.R_below (by (with_reducible repeat (first | apply Ra | apply Rn | apply Rd)); exact HO258.out) hb); have n12_ := am (Kd.R_below (by (with_reducible repeat (first | apply Ra | apply Rn | apply Rd)); exact HO262.out) hb); have n13_ := am (blk_below (g := gb202) (o := .cells #[.int .i64 a0_0, .slice A0_1 l0_1.length c0_1] 24 (0, 0)) (by (with_reducible repeat (first | refine bN ?_ _ | refine bD ?_ | refine bA ?_ _)); exact BK202.out) hb); have n14_ := am (blk_below (g := gb203) (o := .cells #[.int .i64 a1_0, .slice A1_1 l1_1.length c1_1] 24 (0, 0)) (by (with_reducible repeat (first | refine bN ?_ _ | refine bD ?_ | refine bA ?_ _)); exact BK203.out) hb); have n15_ := am (blk_below (g := gb204) (o := .cells #[.int .i64 a2_0, .slice A2_1 l2_1.length c2_1] 24 (0, 0)) (by (with_reducible repeat (first | refine bN ?_ _ | refine bD ?_ | refine bA ?_ _)); exact BK204.out) hb); have n16_ := am (blk_below (g := gb209) (o := .cells #[.int .i64 t205, .slice Ao29 t206.length co29] 24 (0, 0)) (by (with_reducible repeat (first | refine bN ?_ _ | refine bD ?_ | refine bA ?_ _)); exact BK209.out) hb); have n17_ := am (blk_below (g := gb218) (o := .cells #[.int .i64 t212, .slice Ao43 t213.length co43] 24 (0, 0)) (by (with_reducible repeat (first | refine bN ?_ _ | refine bD ?_ | refine bA ?_ _)); exact BK218.out) hb); have n18_ := am (blk_below (g := gb227) (o := .cells #[.int .i64 t221, .slice Ao58 t222.length co58] 24 (0, 0)) (by (with_reducible repeat (first | refine bN ?_ _ | refine bD ?_ | refine bA ?_ _)); exact BK227.out) hb); have n19_ := am (below_step (by repeat (first | (with_reducible first | exact HB.out | apply wA | apply wN | apply wD | refine bS ?_ GE202.out | refine bS ?_ GE203.out | refine bS ?_ GE204.out | refine bS ?_ GE209.out | refine bS ?_ GE218.out | refine bS ?_ GE227.out) | exact HB.out)) hb); clear HO208; clear HO215; clear HO224; clear HO230; clear HO234; clear HO238; clear HO241; clear HO244; clear HO248; clear HO251; clear HO254; clear HO258; clear HO262; clear BK202; clear BK203; clear BK204; clear BK209; clear BK218; clear BK227; clear HB; have HO208 := n0_; have HO215 := n1_; have HO224 := n2_; have HO230 := n3_; have HO234 := n4_; have HO238 := n5_; have HO241 := n6_; have HO244 := n7_; have HO248 := n8_; have HO251 := n9_; have HO254 := n10_; have HO258 := n11_; have HO262 := n12_; have BK202 := n13_; have BK203 := n14_; have BK204 := n15_; have BK209 := n16_; have BK218 := n17_; have BK227 := n18_; have HB := n19_; clear n0_ n1_ n2_ n3_ n4_ n5_ n6_ n7_ n8_ n9_ n10_ n11_ n12_ n13_ n14_ n15_ n16_ n17_ n18_ n19_; (try clear hb); (try clear hb2); (try clear hk); (try clear hi); have hcz75_0 : w74.cell? ⟨gb202, 0, none⟩ = some (.int .i64 a0_0) := (blk_cell BK202.out 0).trans rfl; have hcz75_1 : w74.cell? ⟨gb202, 1, none⟩ = some (.slice A0_1 l0_1.length c0_1) := (blk_cell BK202.out 1).trans rfl; have hfz75_0 := blk_frozen BK202.out 0; have hfz75_1 := blk_frozen BK202.out 1) | ((with_reducible refine gate_callee (f := 24) rfl ?_); refine goesL_ (some 101) rfl rfl Try.func24 (by kernel_rfl) rfl #[.agg #[.int .i64 a0_0, .slice A0_1 l0_1.length c0_1]] rfl (by (try simp only [List.map_toArray, List.map_cons, List.map_nil]); first | done | rfl | (simp only [List.length_drop, List.length_take]; rfl)) ?_; (with_reducible refine (waybillref21_Weight.calls k a0_0 _ _ l0_1 t266 t267 _ ?side1 ?side2 A15.out).mono ?_); (case side1 => repeat (first | exact (Kd.C_below HR0_1.out HB.out) | (with_reducible refine Kd.C_alloc ?_ _) | (with_reducible refine Kd.C_drewN ?_ _) | (with_reducible refine Kd.C_drew ?_))); (case side2 => exact HC0_1.out); rintro e w76 ⟨rfl, hb⟩; refine ⟨_, rfl, ?_⟩; have n0_ := am (Kd.R_below (by (with_reducible repeat (first | apply Ra | apply Rn | apply Rd)); exact HO208.out) hb); have n1_ := am (Kd.R_below (by (with_reducible repeat (first | apply Ra | apply Rn | apply Rd)); exact HO215.out) hb); have n2_ := am (Kd.R_below (by (with_reducible repeat (first | apply Ra | apply Rn | apply Rd)); exact HO224.out) hb); have n3_ := am (Kd.R_below (by (with_reducible repeat (first | apply Ra | apply Rn | apply Rd)); exact HO230.out) hb); have n4_ := am (Kd.R_below (by (with_reducible repeat (first | apply Ra | apply Rn | apply Rd)); exact HO234.out) hb); have n5_ := am (Kd.R_below (by (with_reducible repeat (first | apply Ra | apply Rn | apply Rd)); exact HO238.out) hb); have n6_ := am (Kd.R_below (by (with_reducible repeat (first | apply Ra | apply Rn | apply Rd)); exact HO241.out) hb); have n7_ := am (Kd.R_below (by (with_reducible repeat (first | apply Ra | apply Rn | apply Rd)); exact HO244.out) hb); have n8_ := am (Kd.R_below (by (with_reducible repeat (first | apply Ra | apply Rn | apply Rd)); exact HO248.out) hb); have n9_ := am (Kd.R_below (by (with_reducible repeat (first | apply Ra | apply Rn | apply Rd)); exact HO251.out) hb); have n10_ := am (Kd.R_below (by (with_reducible repeat (first | apply Ra | apply Rn | apply Rd)); exact HO254.out) hb); have n11_ := am (Kd.R_below (by (with_reducible repeat (first | apply Ra | apply Rn | apply Rd)); exact HO258.out) hb); have n12_ := am (Kd.R_below (by (with_reducible repeat (first | apply Ra | apply Rn | apply Rd)); exact HO262.out) hb); have n13_ := am (blk_below (g := gb202) (o := .cells #[.int .i64 a0_0, .slice A0_1 l0_1.length c0_1] 24 (0, 0)) (by (with_reducible repeat (first | refine bN ?_ _ | refine bD ?_ | refine bA ?_ _)); exact BK202.out) hb); have n14_ := am (blk_below (g := gb203) (o := .cells #[.int .i64 a1_0, .slice A1_1 l1_1.length c1_1] 24 (0, 0)) (by (with_reducible repeat (first | refine bN ?_ _ | refine bD ?_ | refine bA ?_ _)); exact BK203.out) hb); have n15_ := am (blk_below (g := gb204) (o := .cells #[.int .i64 a2_0, .slice A2_1 l2_1.length c2_1] 24 (0, 0)) (by (with_reducible repeat (first | refine bN ?_ _ | refine bD ?_ | refine bA ?_ _)); exact BK204.out) hb); have n16_ := am (blk_below (g := gb209) (o := .cells #[.int .i64 t205, .slice Ao29 t206.length co29] 24 (0, 0)) (by (with_reducible repeat (first | refine bN ?_ _ | refine bD ?_ | refine bA ?_ _)); exact BK209.out) hb); have n17_ := am (blk_below (g := gb218) (o := .cells #[.int .i64 t212, .slice Ao43 t213.length co43] 24 (0, 0)) (by (with_reducible repeat (first | refine bN ?_ _ | refine bD ?_ | refine bA ?_ _)); exact BK218.out) hb); have n18_ := am (blk_below (g := gb227) (o := .cells #[.int .i64 t221, .slice Ao58 t222.length co58] 24 (0, 0)) (by (with_reducible repeat (first | refine bN ?_ _ | refine bD ?_ | refine bA ?_ _)); exact BK227.out) hb); have n19_ := am (below_step (by repeat (first | (with_reducible first | exact HB.out | apply wA | apply wN | apply wD | refine bS ?_ GE202.out | refine bS ?_ GE203.out | refine bS ?_ GE204.out | refine bS ?_ GE209.out | refine bS ?_ GE218.out | refine bS ?_ GE227.out) | exact HB.out)) hb); clear HO208; clear HO215; clear HO224; clear HO230; clear HO234; clear HO238; clear HO241; clear HO244; clear HO248; clear HO251; clear HO254; clear HO258; clear HO262; clear BK202; clear BK203; clear BK204; clear BK209; clear BK218; clear BK227; clear HB; have HO208 := n0_; have HO215 := n1_; have HO224 := n2_; have HO230 := n3_; have HO234 := n4_; have HO238 := n5_; have HO241 := n6_; have HO244 := n7_; have HO248 := n8_; have HO251 := n9_; have HO254 := n10_; have HO258 := n11_; have HO262 := n12_; have BK202 := n13_; have BK203 := n14_; have BK204 := n15_; have BK209 := n16_; have BK218 := n17_; have BK227 := n18_; have HB := n19_; clear n0_ n1_ n2_ n3_ n4_ n5_ n6_ n7_ n8_ n9_ n10_ n11_ n12_ n13_ n14_ n15_ n16_ n17_ n18_ n19_; (try clear hb); (try clear hb2); (try clear hk); (try clear hi)))
  (try simp only [Act.put, List.setIfInBounds_toArray, List.set_cons_zero, List.set_cons_succ])
  go_cut [154] (fun v154 wc => ∃ (kq : Nat) (x154_15 : Bool), v154 = .bool x154_15 ∧ Aside0 (waybilllaw21_ResolveTells.j0 kq t256 t259 t260 t263 t264 t265 t266 t267 x154_15 a0_0 l0_1 t205 t206 = some r) ∧ Aside0 (kq ≤ k) ∧ Aside0 (Kd.R k36 36 wc w.heap.size (fun k_ => some k_ ≠ (v261 : Value).ownBlock ∧ some k_ ≠ ((.slice Ao29 t206.length co29) : Value).ownBlock ∧ some k_ ≠ ((.slice Ao43 t213.length co43) : Value).ownBlock ∧ some k_ ≠ ((.slice Ao58 t222.length co58) : Value).ownBlock) v257 t256) ∧ Aside0 (Kd.R k36 36 wc w.heap.size (fun k_ => some k_ ≠ (v257 : Value).ownBlock ∧ some k_ ≠ ((.slice Ao29 t206.length co29) : Value).ownBlock ∧ some k_ ≠ ((.slice Ao43 t213.length co43) : Value).ownBlock ∧ some k_ ≠ ((.slice Ao58 t222.length co58) : Value).ownBlock) v261 t260) ∧ Aside0 (Kd.R k36 36 wc w.heap.size (fun k_ => some k_ ≠ (v257 : Value).ownBlock ∧ some k_ ≠ (v261 : Value).ownBlock ∧ some k_ ≠ ((.slice Ao43 t213.length co43) : Value).ownBlock ∧ some k_ ≠ ((.slice Ao58 t222.length co58) : Value).ownBlock) (.slice Ao29 t206.length co29) t206) ∧ Aside0 (Kd.R k36 36 wc w.heap.size (fun k_ => some k_ ≠ (v257 : Value).ownBlock ∧ some k_ ≠ (v261 : Value).ownBlock ∧ some k_ ≠ ((.slice Ao29 t206.length co29) : Value).ownBlock ∧ some k_ ≠ ((.slice Ao58 t222.length co58) : Value).ownBlock) (.slice Ao43 t213.length co43) t213) ∧ Aside0 (Kd.R k36 36 wc w.heap.size (fun k_ => some k_ ≠ (v257 : Value).ownBlock ∧ some k_ ≠ (v261 : Value).ownBlock ∧ some k_ ≠ ((.slice Ao29 t206.length co29) : Value).ownBlock ∧ some k_ ≠ ((.slice Ao43 t213.length co43) : Value).ownBlock) (.slice Ao58 t222.length co58) t222) ∧ Aside0 (wc.heap[gb202]? = some (.cells #[.int .i64 a0_0, (.slice A0_1 l0_1.length c0_1)] 24 (0, 0))) ∧ Aside0 (wc.heap[gb203]? = some (.cells #[.int .i64 a1_0, (.slice A1_1 l1_1.length c1_1)] 24 (0, 0))) ∧ Aside0 (wc.heap[gb204]? = some (.cells #[.int .i64 a2_0, (.slice A2_1 l2_1.length c2_1)] 24 (0, 0))) ∧ Aside0 (wc.heap[gb209]? = some (.cells #[.int .i64 t205, (.slice Ao29 t206.length co29)] 24 (0, 0))) ∧ Aside0 (wc.heap[gb218]? = some (.cells #[.int .i64 t212, (.slice Ao43 t213.length co43)] 24 (0, 0))) ∧ Aside0 (wc.heap[gb227]? = some (.cells #[.int .i64 t221, (.slice Ao58 t222.length co58)] 24 (0, 0))) ∧ Aside0 (Below w.heap.size w wc))
  case first =>
    have H := HC16.out
    clear HC16
    replace H := Option.bind_eq_some_iff.mp H
    obtain ⟨t268, A770, H⟩ := H
    replace H : (if t268 = true then (if t216 = t225 then ((waybilllaw21_num.f t217).bind fun t269 => (if t269 = t226 then ((waybillplain_SameInts.f k t228 t232).bind fun t270 => (if t270 = true then ((waybilllaw21_num.f t231).bind fun t271 => (if t271 = t235 then ((waybillplain_SameInts.f k t236 t246).bind fun t272 => (if t272 = true then ((waybillplain_SameInts.f k t239 t249).bind fun t273 => (if t273 = true then ((waybillplain_SameInts.f k t242 t252).bind fun t274 => (if t274 = true then ((waybilllaw21_num.f t245).bind fun t275 => (waybilllaw21_ResolveTells.j0 k t256 t259 t260 t263 t264 t265 t266 t267 (t275 != t255) a0_0 l0_1 t205 t206)) else (waybilllaw21_ResolveTells.j0 k t256 t259 t260 t263 t264 t265 t266 t267 true a0_0 l0_1 t205 t206))) else (waybilllaw21_ResolveTells.j0 k t256 t259 t260 t263 t264 t265 t266 t267 true a0_0 l0_1 t205 t206))) else (waybilllaw21_ResolveTells.j0 k t256 t259 t260 t263 t264 t265 t266 t267 true a0_0 l0_1 t205 t206))) else (waybilllaw21_ResolveTells.j0 k t256 t259 t260 t263 t264 t265 t266 t267 true a0_0 l0_1 t205 t206))) else (waybilllaw21_ResolveTells.j0 k t256 t259 t260 t263 t264 t265 t266 t267 true a0_0 l0_1 t205 t206))) else (waybilllaw21_ResolveTells.j0 k t256 t259 t260 t263 t264 t265 t266 t267 true a0_0 l0_1 t205 t206))) else (waybilllaw21_ResolveTells.j0 k t256 t259 t260 t263 t264 t265 t266 t267 true a0_0 l0_1 t205 t206)) else (waybilllaw21_ResolveTells.j0 k t256 t259 t260 t263 t264 t265 t266 t267 true a0_0 l0_1 t205 t206)) = some r := H
    have A77 := am A770
    clear A770
    by_cases c78 : t268 = true
    · subst c78
      have H1 : (if t216 = t225 then ((waybilllaw21_num.f t217).bind fun t269 => (if t269 = t226 then ((waybillplain_SameInts.f k t228 t232).bind fun t270 => (if t270 = true then ((waybilllaw21_num.f t231).bind fun t271 => (if t271 = t235 then ((waybillplain_SameInts.f k t236 t246).bind fun t272 => (if t272 = true then ((waybillplain_SameInts.f k t239 t249).bind fun t273 => (if t273 = true then ((waybillplain_SameInts.f k t242 t252).bind fun t274 => (if t274 = true then ((waybilllaw21_num.f t245).bind fun t275 => (waybilllaw21_ResolveTells.j0 k t256 t259 t260 t263 t264 t265 t266 t267 (t275 != t255) a0_0 l0_1 t205 t206)) else (waybilllaw21_ResolveTells.j0 k t256 t259 t260 t263 t264 t265 t266 t267 true a0_0 l0_1 t205 t206))) else (waybilllaw21_ResolveTells.j0 k t256 t259 t260 t263 t264 t265 t266 t267 true a0_0 l0_1 t205 t206))) else (waybilllaw21_ResolveTells.j0 k t256 t259 t260 t263 t264 t265 t266 t267 true a0_0 l0_1 t205 t206))) else (waybilllaw21_ResolveTells.j0 k t256 t259 t260 t263 t264 t265 t266 t267 true a0_0 l0_1 t205 t206))) else (waybilllaw21_ResolveTells.j0 k t256 t259 t260 t263 t264 t265 t266 t267 true a0_0 l0_1 t205 t206))) else (waybilllaw21_ResolveTells.j0 k t256 t259 t260 t263 t264 t265 t266 t267 true a0_0 l0_1 t205 t206))) else (waybilllaw21_ResolveTells.j0 k t256 t259 t260 t263 t264 t265 t266 t267 true a0_0 l0_1 t205 t206)) = some r := by rw [if_pos rfl] at H; exact H
      clear H
      have H := H1
      clear H1
      by_cases c79 : t216 = t225
      · rw [if_pos c79] at H
        have c79b0 : (t216 == t225) = true := beq_iff_eq.mpr c79
        have c79b1 : (t216 != t225) = false := bne_eq_false_iff_eq.mpr c79
        clear c79
        (first | rw [c79b0] | (simp only [i64_w, i32_w]; rw [c79b0]) | skip)
        replace H := Option.bind_eq_some_iff.mp H
        obtain ⟨t269, A800, H⟩ := H
        replace H : (if t269 = t226 then ((waybillplain_SameInts.f k t228 t232).bind fun t270 => (if t270 = true then ((waybilllaw21_num.f t231).bind fun t271 => (if t271 = t235 then ((waybillplain_SameInts.f k t236 t246).bind fun t272 => (if t272 = true then ((waybillplain_SameInts.f k t239 t249).bind fun t273 => (if t273 = true then ((waybillplain_SameInts.f k t242 t252).bind fun t274 => (if t274 = true then ((waybilllaw21_num.f t245).bind fun t275 => (waybilllaw21_ResolveTells.j0 k t256 t259 t260 t263 t264 t265 t266 t267 (t275 != t255) a0_0 l0_1 t205 t206)) else (waybilllaw21_ResolveTells.j0 k t256 t259 t260 t263 t264 t265 t266 t267 true a0_0 l0_1 t205 t206))) else (waybilllaw21_ResolveTells.j0 k t256 t259 t260 t263 t264 t265 t266 t267 true a0_0 l0_1 t205 t206))) else (waybilllaw21_ResolveTells.j0 k t256 t259 t260 t263 t264 t265 t266 t267 true a0_0 l0_1 t205 t206))) else (waybilllaw21_ResolveTells.j0 k t256 t259 t260 t263 t264 t265 t266 t267 true a0_0 l0_1 t205 t206))) else (waybilllaw21_ResolveTells.j0 k t256 t259 t260 t263 t264 t265 t266 t267 true a0_0 l0_1 t205 t206))) else (waybilllaw21_ResolveTells.j0 k t256 t259 t260 t263 t264 t265 t266 t267 true a0_0 l0_1 t205 t206)) = some r := H
        have A80 := am A800
        clear A800
        by_cases c81 : t269 = t226
        · rw [if_pos c81] at H
          have c81b0 : (t269 == t226) = true := beq_iff_eq.mpr c81
          have c81b1 : (t269 != t226) = false := bne_eq_false_iff_eq.mpr c81
          clear c81
          replace H := Option.bind_eq_some_iff.mp H
          obtain ⟨t270, A820, H⟩ := H
          replace H : (if t270 = true then ((waybilllaw21_num.f t231).bind fun t271 => (if t271 = t235 then ((waybillplain_SameInts.f k t236 t246).bind fun t272 => (if t272 = true then ((waybillplain_SameInts.f k t239 t249).bind fun t273 => (if t273 = true then ((waybillplain_SameInts.f k t242 t252).bind fun t274 => (if t274 = true then ((waybilllaw21_num.f t245).bind fun t275 => (waybilllaw21_ResolveTells.j0 k t256 t259 t260 t263 t264 t265 t266 t267 (t275 != t255) a0_0 l0_1 t205 t206)) else (waybilllaw21_ResolveTells.j0 k t256 t259 t260 t263 t264 t265 t266 t267 true a0_0 l0_1 t205 t206))) else (waybilllaw21_ResolveTells.j0 k t256 t259 t260 t263 t264 t265 t266 t267 true a0_0 l0_1 t205 t206))) else (waybilllaw21_ResolveTells.j0 k t256 t259 t260 t263 t264 t265 t266 t267 true a0_0 l0_1 t205 t206))) else (waybilllaw21_ResolveTells.j0 k t256 t259 t260 t263 t264 t265 t266 t267 true a0_0 l0_1 t205 t206))) else (waybilllaw21_ResolveTells.j0 k t256 t259 t260 t263 t264 t265 t266 t267 true a0_0 l0_1 t205 t206)) = some r := H
          have A82 := am A820
          clear A820
          by_cases c83 : t270 = true
          · subst c83
            have H1 : ((waybilllaw21_num.f t231).bind fun t271 => (if t271 = t235 then ((waybillplain_SameInts.f k t236 t246).bind fun t272 => (if t272 = true then ((waybillplain_SameInts.f k t239 t249).bind fun t273 => (if t273 = true then ((waybillplain_SameInts.f k t242 t252).bind fun t274 => (if t274 = true then ((waybilllaw21_num.f t245).bind fun t275 => (waybilllaw21_ResolveTells.j0 k t256 t259 t260 t263 t264 t265 t266 t267 (t275 != t255) a0_0 l0_1 t205 t206)) else (waybilllaw21_ResolveTells.j0 k t256 t259 t260 t263 t264 t265 t266 t267 true a0_0 l0_1 t205 t206))) else (waybilllaw21_ResolveTells.j0 k t256 t259 t260 t263 t264 t265 t266 t267 true a0_0 l0_1 t205 t206))) else (waybilllaw21_ResolveTells.j0 k t256 t259 t260 t263 t264 t265 t266 t267 true a0_0 l0_1 t205 t206))) else (waybilllaw21_ResolveTells.j0 k t256 t259 t260 t263 t264 t265 t266 t267 true a0_0 l0_1 t205 t206))) = some r := by rw [if_pos rfl] at H; exact H
            clear H
            have H := H1
            clear H1
            replace H := Option.bind_eq_some_iff.mp H
            obtain ⟨t271, A840, H⟩ := H
            replace H : (if t271 = t235 then ((waybillplain_SameInts.f k t236 t246).bind fun t272 => (if t272 = true then ((waybillplain_SameInts.f k t239 t249).bind fun t273 => (if t273 = true then ((waybillplain_SameInts.f k t242 t252).bind fun t274 => (if t274 = true then ((waybilllaw21_num.f t245).bind fun t275 => (waybilllaw21_ResolveTells.j0 k t256 t259 t260 t263 t264 t265 t266 t267 (t275 != t255) a0_0 l0_1 t205 t206)) else (waybilllaw21_ResolveTells.j0 k t256 t259 t260 t263 t264 t265 t266 t267 true a0_0 l0_1 t205 t206))) else (waybilllaw21_ResolveTells.j0 k t256 t259 t260 t263 t264 t265 t266 t267 true a0_0 l0_1 t205 t206))) else (waybilllaw21_ResolveTells.j0 k t256 t259 t260 t263 t264 t265 t266 t267 true a0_0 l0_1 t205 t206))) else (waybilllaw21_ResolveTells.j0 k t256 t259 t260 t263 t264 t265 t266 t267 true a0_0 l0_1 t205 t206)) = some r := H
            have A84 := am A840
            clear A840
            by_cases c85 : t271 = t235
            · rw [if_pos c85] at H
              have c85b0 : (t271 == t235) = true := beq_iff_eq.mpr c85
              have c85b1 : (t271 != t235) = false := bne_eq_false_iff_eq.mpr c85
              clear c85
              replace H := Option.bind_eq_some_iff.mp H
              obtain ⟨t272, A860, H⟩ := H
              replace H : (if t272 = true then ((waybillplain_SameInts.f k t239 t249).bind fun t273 => (if t273 = true then ((waybillplain_SameInts.f k t242 t252).bind fun t274 => (if t274 = true then ((waybilllaw21_num.f t245).bind fun t275 => (waybilllaw21_ResolveTells.j0 k t256 t259 t260 t263 t264 t265 t266 t267 (t275 != t255) a0_0 l0_1 t205 t206)) else (waybilllaw21_ResolveTells.j0 k t256 t259 t260 t263 t264 t265 t266 t267 true a0_0 l0_1 t205 t206))) else (waybilllaw21_ResolveTells.j0 k t256 t259 t260 t263 t264 t265 t266 t267 true a0_0 l0_1 t205 t206))) else (waybilllaw21_ResolveTells.j0 k t256 t259 t260 t263 t264 t265 t266 t267 true a0_0 l0_1 t205 t206)) = some r := H
              have A86 := am A860
              clear A860
              by_cases c87 : t272 = true
              · subst c87
                have H1 : ((waybillplain_SameInts.f k t239 t249).bind fun t273 => (if t273 = true then ((waybillplain_SameInts.f k t242 t252).bind fun t274 => (if t274 = true then ((waybilllaw21_num.f t245).bind fun t275 => (waybilllaw21_ResolveTells.j0 k t256 t259 t260 t263 t264 t265 t266 t267 (t275 != t255) a0_0 l0_1 t205 t206)) else (waybilllaw21_ResolveTells.j0 k t256 t259 t260 t263 t264 t265 t266 t267 true a0_0 l0_1 t205 t206))) else (waybilllaw21_ResolveTells.j0 k t256 t259 t260 t263 t264 t265 t266 t267 true a0_0 l0_1 t205 t206))) = some r := by rw [if_pos rfl] at H; exact H
                clear H
                have H := H1
                clear H1
                replace H := Option.bind_eq_some_iff.mp H
                obtain ⟨t273, A880, H⟩ := H
                replace H : (if t273 = true then ((waybillplain_SameInts.f k t242 t252).bind fun t274 => (if t274 = true then ((waybilllaw21_num.f t245).bind fun t275 => (waybilllaw21_ResolveTells.j0 k t256 t259 t260 t263 t264 t265 t266 t267 (t275 != t255) a0_0 l0_1 t205 t206)) else (waybilllaw21_ResolveTells.j0 k t256 t259 t260 t263 t264 t265 t266 t267 true a0_0 l0_1 t205 t206))) else (waybilllaw21_ResolveTells.j0 k t256 t259 t260 t263 t264 t265 t266 t267 true a0_0 l0_1 t205 t206)) = some r := H
                have A88 := am A880
                clear A880
                by_cases c89 : t273 = true
                · subst c89
                  have H1 : ((waybillplain_SameInts.f k t242 t252).bind fun t274 => (if t274 = true then ((waybilllaw21_num.f t245).bind fun t275 => (waybilllaw21_ResolveTells.j0 k t256 t259 t260 t263 t264 t265 t266 t267 (t275 != t255) a0_0 l0_1 t205 t206)) else (waybilllaw21_ResolveTells.j0 k t256 t259 t260 t263 t264 t265 t266 t267 true a0_0 l0_1 t205 t206))) = some r := by rw [if_pos rfl] at H; exact H
                  clear H
                  have H := H1
                  clear H1
                  replace H := Option.bind_eq_some_iff.mp H
                  obtain ⟨t274, A900, H⟩ := H
                  replace H : (if t274 = true then ((waybilllaw21_num.f t245).bind fun t275 => (waybilllaw21_ResolveTells.j0 k t256 t259 t260 t263 t264 t265 t266 t267 (t275 != t255) a0_0 l0_1 t205 t206)) else (waybilllaw21_ResolveTells.j0 k t256 t259 t260 t263 t264 t265 t266 t267 true a0_0 l0_1 t205 t206)) = some r := H
                  have A90 := am A900
                  clear A900
                  by_cases c91 : t274 = true
                  · subst c91
                    have H1 : ((waybilllaw21_num.f t245).bind fun t275 => (waybilllaw21_ResolveTells.j0 k t256 t259 t260 t263 t264 t265 t266 t267 (t275 != t255) a0_0 l0_1 t205 t206)) = some r := by rw [if_pos rfl] at H; exact H
                    clear H
                    have H := H1
                    clear H1
                    replace H := Option.bind_eq_some_iff.mp H
                    obtain ⟨t275, A920, H⟩ := H
                    replace H : (waybilllaw21_ResolveTells.j0 k t256 t259 t260 t263 t264 t265 t266 t267 (t275 != t255) a0_0 l0_1 t205 t206) = some r := H
                    have A92 := am A920
                    clear A920
                    have H' := am H
                    clear H
                    have hnb93 := NB218_202.out
                    have hnc93 := NB202_218.out
                    have hnb94 := NB218_203.out
                    have hnc94 := NB203_218.out
                    have hnb95 := NB218_204.out
                    have hnc95 := NB204_218.out
                    have hnb96 := NB218_209.out
                    have hnc96 := NB209_218.out
                    have hnb97 := NB218_227.out
                    have hnc97 := NB227_218.out
                    have hcz98_0 : w76.cell? ⟨gb218, 0, none⟩ = some (.int .i64 t212) := (blk_cell BK218.out 0).trans rfl
                    have hcz98_1 : w76.cell? ⟨gb218, 1, none⟩ = some (.slice Ao43 t213.length co43) := (blk_cell BK218.out 1).trans rfl
                    have hfz98_0 := blk_frozen BK218.out 0
                    have hfz98_1 := blk_frozen BK218.out 1
                    have hnb99 := NB227_202.out
                    have hnc99 := NB202_227.out
                    have hnb100 := NB227_203.out
                    have hnc100 := NB203_227.out
                    have hnb101 := NB227_204.out
                    have hnc101 := NB204_227.out
                    have hnb102 := NB227_209.out
                    have hnc102 := NB209_227.out
                    have hcz103_0 : w76.cell? ⟨gb227, 0, none⟩ = some (.int .i64 t221) := (blk_cell BK227.out 0).trans rfl
                    have hcz103_1 : w76.cell? ⟨gb227, 1, none⟩ = some (.slice Ao58 t222.length co58) := (blk_cell BK227.out 1).trans rfl
                    have hfz103_0 := blk_frozen BK227.out 0
                    have hfz103_1 := blk_frozen BK227.out 1
                    go_wp2_with (first | ((with_reducible refine gate_callee (f := 12) rfl ?_); refine goesL_ (some 106) rfl rfl Try.func12 (by kernel_rfl) rfl #[.agg #[.int .i64 t212, .slice Ao43 t213.length co43], .agg #[.int .i64 t221, .slice Ao58 t222.length co58]] rfl (by (try simp only [List.map_toArray, List.map_cons, List.map_nil]); first | done | rfl | (simp only [List.length_drop, List.length_take]; rfl)) ?_; (with_reducible refine (waybillref21_Same.calls k t212 _ _ t213 t221 _ _ t222 true _ ?side1 ?side2 ?side3 ?side4 A77.out).mono ?_); (case side1 => repeat (first | exact (Kd.R_reads' HO215.out).2.2 | (with_reducible refine Kd.C_alloc ?_ _) | (with_reducible refine Kd.C_drewN ?_ _) | (with_reducible refine Kd.C_drew ?_))); (case side2 => exact (Kd.R_reads' HO215.out).2.1); (case side3 => repeat (first | exact (Kd.R_reads' HO224.out).2.2 | (with_reducible refine Kd.C_alloc ?_ _) | (with_reducible refine Kd.C_drewN ?_ _) | (with_reducible refine Kd.C_drew ?_))); (case side4 => exact (Kd.R_reads' HO224.out).2.1); rintro e w104 ⟨rfl, hb⟩; refine ⟨_, rfl, ?_⟩; have n0_ := am (Kd.R_below (by (with_reducible repeat (first | apply Ra | apply Rn | apply Rd)); exact HO208.out) hb); have n1_ := am (Kd.R_below (by (with_reducible repeat (first | apply Ra | apply Rn | apply Rd)); exact HO215.out) hb); have n2_ := am (Kd.R_below (by (with_reducible repeat (first | apply Ra | apply Rn | apply Rd)); exact HO224.out) hb); have n3_ := am (Kd.R_below (by (with_reducible repeat (first | apply Ra | apply Rn | apply Rd)); exact HO230.out) hb); have n4_ := am (Kd.R_below (by (with_reducible repeat (first | apply Ra | apply Rn | apply Rd)); exact HO234.out) hb); have n5_ := am (Kd.R_below (by (with_reducible repeat (first | apply Ra | apply Rn | apply Rd)); exact HO238.out) hb); have n6_ := am (Kd.R_below (by (with_reducible repeat (first | apply Ra | apply Rn | apply Rd)); exact HO241.out) hb); have n7_ := am (Kd.R_below (by (with_reducible repeat (first | apply Ra | apply Rn | apply Rd)); exact HO244.out) hb); have n8_ := am (Kd.R_below (by (with_reducible repeat (first | apply Ra | apply Rn | apply Rd)); exact HO248.out) hb); have n9_ := am (Kd.R_below (by (with_reducible repeat (first | apply Ra | apply Rn | apply Rd)); exact HO251.out) hb); have n10_ := am (Kd.R_below (by (with_reducible repeat (first | apply Ra | apply Rn | apply Rd)); exact HO254.out) hb); have n11_ := am (Kd.R_below (by (with_reducible repeat (first | apply Ra | apply Rn | apply Rd)); exact HO258.out) hb); have n12_ := am (Kd.R_below (by (with_reducible repeat (first | apply Ra | apply Rn | apply Rd)); exact HO262.out) hb); have n13_ := am (blk_below (g := gb202) (o := .cells #[.int .i64 a0_0, .slice A0_1 l0_1.length c0_1] 24 (0, 0)) (by (with_reducible repeat (first | refine bN ?_ _ | refine bD ?_ | refine bA ?_ _)); exact BK202.out) hb); have n14_ := am (blk_below (g := gb203) (o := .cells #[.int .i64 a1_0, .slice A1_1 l1_1.length c1_1] 24 (0, 0)) (by (with_reducible repeat (first | refine bN ?_ _ | refine bD ?_ | refine bA ?_ _)); exact BK203.out) hb); have n15_ := am (blk_below (g := gb204) (o := .cells #[.int .i64 a2_0, .slice A2_1 l2_1.length c2_1] 24 (0, 0)) (by (with_reducible repeat (first | refine bN ?_ _ | refine bD ?_ | refine bA ?_ _)); exact BK204.out) hb); have n16_ := am (blk_below (g := gb209) (o := .cells #[.int .i64 t205, .slice Ao29 t206.length co29] 24 (0, 0)) (by (with_reducible repeat (first | refine bN ?_ _ | refine bD ?_ | refine bA ?_ _)); exact BK209.out) hb); have n17_ := am (blk_below (g := gb218) (o := .cells #[.int .i64 t212, .slice Ao43 t213.length co43] 24 (0, 0)) (by (with_reducible repeat (first | refine bN ?_ _ | refine bD ?_ | refine bA ?_ _)); exact BK218.out) hb); have n18_ := am (blk_below (g := gb227) (o := .cells #[.int .i64 t221, .slice Ao58 t222.length co58] 24 (0, 0)) (by (with_reducible repeat (first | refine bN ?_ _ | refine bD ?_ | refine bA ?_ _)); exact BK227.out) hb); have n19_ := am (below_step (by repeat (first | (with_reducible first | exact HB.out | apply wA | apply wN | apply wD | refine bS ?_ GE202.out | refine bS ?_ GE203.out | refine bS ?_ GE204.out | refine bS ?_ GE209.out | refine bS ?_ GE218.out | refine bS ?_ GE227.out) | exact HB.out)) hb); clear HO208; clear HO215; clear HO224; clear HO230; clear HO234; clear HO238; clear HO241; clear HO244; clear HO248; clear HO251; clear HO254; clear HO258; clear HO262; clear BK202; clear BK203; clear BK204; clear BK209; clear BK218; clear BK227; clear HB; have HO208 := n0_; have HO215 := n1_; have HO224 := n2_; have HO230 := n3_; have HO234 := n4_; have HO238 := n5_; have HO241 := n6_; have HO244 := n7_; have HO248 := n8_; have HO251 := n9_; have HO254 := n10_; have HO258 := n11_; have HO262 := n12_; have BK202 := n13_; have BK203 := n14_; have BK204 := n15_; have BK209 := n16_; have BK218 := n17_; have BK227 := n18_; have HB := n19_; clear n0_ n1_ n2_ n3_ n4_ n5_ n6_ n7_ n8_ n9_ n10_ n11_ n12_ n13_ n14_ n15_ n16_ n17_ n18_ n19_; (try clear hb); (try clear hb2); (try clear hk); (try clear hi)) | (go_at_call 11; (with_reducible refine (waybilllaw21_num.calls t217 t269 _ A80.out).mono ?_); rintro e w' ⟨rfl, ⟨nd, rfl⟩⟩; obtain ⟨Ao105, co105, eo105⟩ := Kd.R_slice HO230.out; subst eo105; obtain ⟨Ao106, co106, eo106⟩ := Kd.R_slice HO234.out; subst eo106) | (go_at_call 16; (with_reducible refine (waybillplain_SameInts.calls k _ _ t228 _ _ t232 true _ ?side1 ?side2 ?side3 ?side4 A82.out).mono ?_); (case side1 => repeat (first | exact (Kd.R_reads' HO230.out).2.2 | (with_reducible refine Kd.C_alloc ?_ _) | (with_reducible refine Kd.C_drewN ?_ _) | (with_reducible refine Kd.C_drew ?_))); (case side2 => exact (Kd.R_reads' HO230.out).2.1); (case side3 => repeat (first | exact (Kd.R_reads' HO234.out).2.2 | (with_reducible refine Kd.C_alloc ?_ _) | (with_reducible refine Kd.C_drewN ?_ _) | (with_reducible refine Kd.C_drew ?_))); (case side4 => exact (Kd.R_reads' HO234.out).2.1); rintro e w' ⟨rfl, ⟨nd, rfl⟩⟩) | (go_at_call 11; (with_reducible refine (waybilllaw21_num.calls t231 t271 _ A84.out).mono ?_); rintro e w' ⟨rfl, ⟨nd, rfl⟩⟩; obtain ⟨Ao107, co107, eo107⟩ := Kd.R_slice HO238.out; subst eo107; obtain ⟨Ao108, co108, eo108⟩ := Kd.R_slice HO248.out; subst eo108) | (go_at_call 16; (with_reducible refine (waybillplain_SameInts.calls k _ _ t236 _ _ t246 true _ ?side1 ?side2 ?side3 ?side4 A86.out).mono ?_); (case side1 => repeat (first | exact (Kd.R_reads' HO238.out).2.2 | (with_reducible refine Kd.C_alloc ?_ _) | (with_reducible refine Kd.C_drewN ?_ _) | (with_reducible refine Kd.C_drew ?_))); (case side2 => exact (Kd.R_reads' HO238.out).2.1); (case side3 => repeat (first | exact (Kd.R_reads' HO248.out).2.2 | (with_reducible refine Kd.C_alloc ?_ _) | (with_reducible refine Kd.C_drewN ?_ _) | (with_reducible refine Kd.C_drew ?_))); (case side4 => exact (Kd.R_reads' HO248.out).2.1); rintro e w' ⟨rfl, ⟨nd, rfl⟩⟩; obtain ⟨Ao109, co109, eo109⟩ := Kd.R_slice HO241.out; subst eo109; obtain ⟨Ao110, co110, eo110⟩ := Kd.R_slice HO251.out; subst eo110) | (go_at_call 16; (with_reducible refine (waybillplain_SameInts.calls k _ _ t239 _ _ t249 true _ ?side1 ?side2 ?side3 ?side4 A88.out).mono ?_); (case side1 => repeat (first | exact (Kd.R_reads' HO241.out).2.2 | (with_reducible refine Kd.C_alloc ?_ _) | (with_reducible refine Kd.C_drewN ?_ _) | (with_reducible refine Kd.C_drew ?_))); (case side2 => exact (Kd.R_reads' HO241.out).2.1); (case side3 => repeat (first | exact (Kd.R_reads' HO251.out).2.2 | (with_reducible refine Kd.C_alloc ?_ _) | (with_reducible refine Kd.C_drewN ?_ _) | (with_reducible refine Kd.C_drew ?_))); (case side4 => exact (Kd.R_reads' HO251.out).2.1); rintro e w' ⟨rfl, ⟨nd, rfl⟩⟩; obtain ⟨Ao111, co111, eo111⟩ := Kd.R_slice HO244.out; subst eo111; obtain ⟨Ao112, co112, eo112⟩ := Kd.R_slice HO254.out; subst eo112) | (go_at_call 16; (with_reducible refine (waybillplain_SameInts.calls k _ _ t242 _ _ t252 true _ ?side1 ?side2 ?side3 ?side4 A90.out).mono ?_); (case side1 => repeat (first | exact (Kd.R_reads' HO244.out).2.2 | (with_reducible refine Kd.C_alloc ?_ _) | (with_reducible refine Kd.C_drewN ?_ _) | (with_reducible refine Kd.C_drew ?_))); (case side2 => exact (Kd.R_reads' HO244.out).2.1); (case side3 => repeat (first | exact (Kd.R_reads' HO254.out).2.2 | (with_reducible refine Kd.C_alloc ?_ _) | (with_reducible refine Kd.C_drewN ?_ _) | (with_reducible refine Kd.C_drew ?_))); (case side4 => exact (Kd.R_reads' HO254.out).2.1); rintro e w' ⟨rfl, ⟨nd, rfl⟩⟩) | (go_at_call 11; (with_reducible refine (waybilllaw21_num.calls t245 t275 _ A92.out).mono ?_); rintro e w' ⟨rfl, ⟨nd, rfl⟩⟩))
                    go_meet
                    case rel => exact ⟨_, ((t275 != t255)), (by first | rfl | (simp; done) | (simp [*]; done)), H', ⟨by first | omega | exact Nat.le_refl _⟩, ⟨by (with_reducible repeat (first | apply Ra | apply Rn | apply Rd)); exact Kd.R_mono HO258.out (fun _ hk => ⟨hk.2, ⟨hk.1.1.1.2, ⟨hk.1.1.2, hk.1.2⟩⟩⟩)⟩, ⟨by (with_reducible repeat (first | apply Ra | apply Rn | apply Rd)); exact Kd.R_mono HO262.out (fun _ hk => ⟨hk.2, ⟨hk.1.1.1.2, ⟨hk.1.1.2, hk.1.2⟩⟩⟩)⟩, ⟨by (with_reducible repeat (first | apply Ra | apply Rn | apply Rd)); exact Kd.R_mono HO208.out (fun _ hk => ⟨hk.1.2, ⟨hk.2, ⟨hk.1.1.1.2, hk.1.1.2⟩⟩⟩)⟩, ⟨by (with_reducible repeat (first | apply Ra | apply Rn | apply Rd)); exact Kd.R_mono HO215.out (fun _ hk => ⟨hk.1.2, ⟨hk.2, ⟨hk.1.1.1.2, hk.1.1.2⟩⟩⟩)⟩, ⟨by (with_reducible repeat (first | apply Ra | apply Rn | apply Rd)); exact Kd.R_mono HO224.out (fun _ hk => ⟨hk.1.2, ⟨hk.2, ⟨hk.1.1.1.2, hk.1.1.2⟩⟩⟩)⟩, ⟨by (with_reducible repeat (first | refine bN ?_ _ | refine bD ?_ | refine bA ?_ _)); exact BK202.out⟩, ⟨by (with_reducible repeat (first | refine bN ?_ _ | refine bD ?_ | refine bA ?_ _)); exact BK203.out⟩, ⟨by (with_reducible repeat (first | refine bN ?_ _ | refine bD ?_ | refine bA ?_ _)); exact BK204.out⟩, ⟨by (with_reducible repeat (first | refine bN ?_ _ | refine bD ?_ | refine bA ?_ _)); exact BK209.out⟩, ⟨by (with_reducible repeat (first | refine bN ?_ _ | refine bD ?_ | refine bA ?_ _)); exact BK218.out⟩, ⟨by (with_reducible repeat (first | refine bN ?_ _ | refine bD ?_ | refine bA ?_ _)); exact BK227.out⟩, ⟨by repeat (first | (with_reducible first | exact HB.out | apply wA | apply wN | apply wD | refine bS ?_ GE202.out | refine bS ?_ GE203.out | refine bS ?_ GE204.out | refine bS ?_ GE209.out | refine bS ?_ GE218.out | refine bS ?_ GE227.out) | exact HB.out)⟩⟩
                  · replace c91 := Bool.eq_false_iff.mpr c91
                    subst c91
                    have H1 : (waybilllaw21_ResolveTells.j0 k t256 t259 t260 t263 t264 t265 t266 t267 true a0_0 l0_1 t205 t206) = some r := by rw [if_neg (show ¬ (false = true) by decide)] at H; exact H
                    clear H
                    have H := H1
                    clear H1
                    have H' := am H
                    clear H
                    have hnb113 := NB218_202.out
                    have hnc113 := NB202_218.out
                    have hnb114 := NB218_203.out
                    have hnc114 := NB203_218.out
                    have hnb115 := NB218_204.out
                    have hnc115 := NB204_218.out
                    have hnb116 := NB218_209.out
                    have hnc116 := NB209_218.out
                    have hnb117 := NB218_227.out
                    have hnc117 := NB227_218.out
                    have hcz118_0 : w76.cell? ⟨gb218, 0, none⟩ = some (.int .i64 t212) := (blk_cell BK218.out 0).trans rfl
                    have hcz118_1 : w76.cell? ⟨gb218, 1, none⟩ = some (.slice Ao43 t213.length co43) := (blk_cell BK218.out 1).trans rfl
                    have hfz118_0 := blk_frozen BK218.out 0
                    have hfz118_1 := blk_frozen BK218.out 1
                    have hnb119 := NB227_202.out
                    have hnc119 := NB202_227.out
                    have hnb120 := NB227_203.out
                    have hnc120 := NB203_227.out
                    have hnb121 := NB227_204.out
                    have hnc121 := NB204_227.out
                    have hnb122 := NB227_209.out
                    have hnc122 := NB209_227.out
                    have hcz123_0 : w76.cell? ⟨gb227, 0, none⟩ = some (.int .i64 t221) := (blk_cell BK227.out 0).trans rfl
                    have hcz123_1 : w76.cell? ⟨gb227, 1, none⟩ = some (.slice Ao58 t222.length co58) := (blk_cell BK227.out 1).trans rfl
                    have hfz123_0 := blk_frozen BK227.out 0
                    have hfz123_1 := blk_frozen BK227.out 1
                    go_wp2_with (first | ((with_reducible refine gate_callee (f := 12) rfl ?_); refine goesL_ (some 106) rfl rfl Try.func12 (by kernel_rfl) rfl #[.agg #[.int .i64 t212, .slice Ao43 t213.length co43], .agg #[.int .i64 t221, .slice Ao58 t222.length co58]] rfl (by (try simp only [List.map_toArray, List.map_cons, List.map_nil]); first | done | rfl | (simp only [List.length_drop, List.length_take]; rfl)) ?_; (with_reducible refine (waybillref21_Same.calls k t212 _ _ t213 t221 _ _ t222 true _ ?side1 ?side2 ?side3 ?side4 A77.out).mono ?_); (case side1 => repeat (first | exact (Kd.R_reads' HO215.out).2.2 | (with_reducible refine Kd.C_alloc ?_ _) | (with_reducible refine Kd.C_drewN ?_ _) | (with_reducible refine Kd.C_drew ?_))); (case side2 => exact (Kd.R_reads' HO215.out).2.1); (case side3 => repeat (first | exact (Kd.R_reads' HO224.out).2.2 | (with_reducible refine Kd.C_alloc ?_ _) | (with_reducible refine Kd.C_drewN ?_ _) | (with_reducible refine Kd.C_drew ?_))); (case side4 => exact (Kd.R_reads' HO224.out).2.1); rintro e w124 ⟨rfl, hb⟩; refine ⟨_, rfl, ?_⟩; have n0_ := am (Kd.R_below (by (with_reducible repeat (first | apply Ra | apply Rn | apply Rd)); exact HO208.out) hb); have n1_ := am (Kd.R_below (by (with_reducible repeat (first | apply Ra | apply Rn | apply Rd)); exact HO215.out) hb); have n2_ := am (Kd.R_below (by (with_reducible repeat (first | apply Ra | apply Rn | apply Rd)); exact HO224.out) hb); have n3_ := am (Kd.R_below (by (with_reducible repeat (first | apply Ra | apply Rn | apply Rd)); exact HO230.out) hb); have n4_ := am (Kd.R_below (by (with_reducible repeat (first | apply Ra | apply Rn | apply Rd)); exact HO234.out) hb); have n5_ := am (Kd.R_below (by (with_reducible repeat (first | apply Ra | apply Rn | apply Rd)); exact HO238.out) hb); have n6_ := am (Kd.R_below (by (with_reducible repeat (first | apply Ra | apply Rn | apply Rd)); exact HO241.out) hb); have n7_ := am (Kd.R_below (by (with_reducible repeat (first | apply Ra | apply Rn | apply Rd)); exact HO244.out) hb); have n8_ := am (Kd.R_below (by (with_reducible repeat (first | apply Ra | apply Rn | apply Rd)); exact HO248.out) hb); have n9_ := am (Kd.R_below (by (with_reducible repeat (first | apply Ra | apply Rn | apply Rd)); exact HO251.out) hb); have n10_ := am (Kd.R_below (by (with_reducible repeat (first | apply Ra | apply Rn | apply Rd)); exact HO254.out) hb); have n11_ := am (Kd.R_below (by (with_reducible repeat (first | apply Ra | apply Rn | apply Rd)); exact HO258.out) hb); have n12_ := am (Kd.R_below (by (with_reducible repeat (first | apply Ra | apply Rn | apply Rd)); exact HO262.out) hb); have n13_ := am (blk_below (g := gb202) (o := .cells #[.int .i64 a0_0, .slice A0_1 l0_1.length c0_1] 24 (0, 0)) (by (with_reducible repeat (first | refine bN ?_ _ | refine bD ?_ | refine bA ?_ _)); exact BK202.out) hb); have n14_ := am (blk_below (g := gb203) (o := .cells #[.int .i64 a1_0, .slice A1_1 l1_1.length c1_1] 24 (0, 0)) (by (with_reducible repeat (first | refine bN ?_ _ | refine bD ?_ | refine bA ?_ _)); exact BK203.out) hb); have n15_ := am (blk_below (g := gb204) (o := .cells #[.int .i64 a2_0, .slice A2_1 l2_1.length c2_1] 24 (0, 0)) (by (with_reducible repeat (first | refine bN ?_ _ | refine bD ?_ | refine bA ?_ _)); exact BK204.out) hb); have n16_ := am (blk_below (g := gb209) (o := .cells #[.int .i64 t205, .slice Ao29 t206.length co29] 24 (0, 0)) (by (with_reducible repeat (first | refine bN ?_ _ | refine bD ?_ | refine bA ?_ _)); exact BK209.out) hb); have n17_ := am (blk_below (g := gb218) (o := .cells #[.int .i64 t212, .slice Ao43 t213.length co43] 24 (0, 0)) (by (with_reducible repeat (first | refine bN ?_ _ | refine bD ?_ | refine bA ?_ _)); exact BK218.out) hb); have n18_ := am (blk_below (g := gb227) (o := .cells #[.int .i64 t221, .slice Ao58 t222.length co58] 24 (0, 0)) (by (with_reducible repeat (first | refine bN ?_ _ | refine bD ?_ | refine bA ?_ _)); exact BK227.out) hb); have n19_ := am (below_step (by repeat (first | (with_reducible first | exact HB.out | apply wA | apply wN | apply wD | refine bS ?_ GE202.out | refine bS ?_ GE203.out | refine bS ?_ GE204.out | refine bS ?_ GE209.out | refine bS ?_ GE218.out | refine bS ?_ GE227.out) | exact HB.out)) hb); clear HO208; clear HO215; clear HO224; clear HO230; clear HO234; clear HO238; clear HO241; clear HO244; clear HO248; clear HO251; clear HO254; clear HO258; clear HO262; clear BK202; clear BK203; clear BK204; clear BK209; clear BK218; clear BK227; clear HB; have HO208 := n0_; have HO215 := n1_; have HO224 := n2_; have HO230 := n3_; have HO234 := n4_; have HO238 := n5_; have HO241 := n6_; have HO244 := n7_; have HO248 := n8_; have HO251 := n9_; have HO254 := n10_; have HO258 := n11_; have HO262 := n12_; have BK202 := n13_; have BK203 := n14_; have BK204 := n15_; have BK209 := n16_; have BK218 := n17_; have BK227 := n18_; have HB := n19_; clear n0_ n1_ n2_ n3_ n4_ n5_ n6_ n7_ n8_ n9_ n10_ n11_ n12_ n13_ n14_ n15_ n16_ n17_ n18_ n19_; (try clear hb); (try clear hb2); (try clear hk); (try clear hi)) | (go_at_call 11; (with_reducible refine (waybilllaw21_num.calls t217 t269 _ A80.out).mono ?_); rintro e w' ⟨rfl, ⟨nd, rfl⟩⟩; obtain ⟨Ao125, co125, eo125⟩ := Kd.R_slice HO230.out; subst eo125; obtain ⟨Ao126, co126, eo126⟩ := Kd.R_slice HO234.out; subst eo126) | (go_at_call 16; (with_reducible refine (waybillplain_SameInts.calls k _ _ t228 _ _ t232 true _ ?side1 ?side2 ?side3 ?side4 A82.out).mono ?_); (case side1 => repeat (first | exact (Kd.R_reads' HO230.out).2.2 | (with_reducible refine Kd.C_alloc ?_ _) | (with_reducible refine Kd.C_drewN ?_ _) | (with_reducible refine Kd.C_drew ?_))); (case side2 => exact (Kd.R_reads' HO230.out).2.1); (case side3 => repeat (first | exact (Kd.R_reads' HO234.out).2.2 | (with_reducible refine Kd.C_alloc ?_ _) | (with_reducible refine Kd.C_drewN ?_ _) | (with_reducible refine Kd.C_drew ?_))); (case side4 => exact (Kd.R_reads' HO234.out).2.1); rintro e w' ⟨rfl, ⟨nd, rfl⟩⟩) | (go_at_call 11; (with_reducible refine (waybilllaw21_num.calls t231 t271 _ A84.out).mono ?_); rintro e w' ⟨rfl, ⟨nd, rfl⟩⟩; obtain ⟨Ao127, co127, eo127⟩ := Kd.R_slice HO238.out; subst eo127; obtain ⟨Ao128, co128, eo128⟩ := Kd.R_slice HO248.out; subst eo128) | (go_at_call 16; (with_reducible refine (waybillplain_SameInts.calls k _ _ t236 _ _ t246 true _ ?side1 ?side2 ?side3 ?side4 A86.out).mono ?_); (case side1 => repeat (first | exact (Kd.R_reads' HO238.out).2.2 | (with_reducible refine Kd.C_alloc ?_ _) | (with_reducible refine Kd.C_drewN ?_ _) | (with_reducible refine Kd.C_drew ?_))); (case side2 => exact (Kd.R_reads' HO238.out).2.1); (case side3 => repeat (first | exact (Kd.R_reads' HO248.out).2.2 | (with_reducible refine Kd.C_alloc ?_ _) | (with_reducible refine Kd.C_drewN ?_ _) | (with_reducible refine Kd.C_drew ?_))); (case side4 => exact (Kd.R_reads' HO248.out).2.1); rintro e w' ⟨rfl, ⟨nd, rfl⟩⟩; obtain ⟨Ao129, co129, eo129⟩ := Kd.R_slice HO241.out; subst eo129; obtain ⟨Ao130, co130, eo130⟩ := Kd.R_slice HO251.out; subst eo130) | (go_at_call 16; (with_reducible refine (waybillplain_SameInts.calls k _ _ t239 _ _ t249 true _ ?side1 ?side2 ?side3 ?side4 A88.out).mono ?_); (case side1 => repeat (first | exact (Kd.R_reads' HO241.out).2.2 | (with_reducible refine Kd.C_alloc ?_ _) | (with_reducible refine Kd.C_drewN ?_ _) | (with_reducible refine Kd.C_drew ?_))); (case side2 => exact (Kd.R_reads' HO241.out).2.1); (case side3 => repeat (first | exact (Kd.R_reads' HO251.out).2.2 | (with_reducible refine Kd.C_alloc ?_ _) | (with_reducible refine Kd.C_drewN ?_ _) | (with_reducible refine Kd.C_drew ?_))); (case side4 => exact (Kd.R_reads' HO251.out).2.1); rintro e w' ⟨rfl, ⟨nd, rfl⟩⟩; obtain ⟨Ao131, co131, eo131⟩ := Kd.R_slice HO244.out; subst eo131; obtain ⟨Ao132, co132, eo132⟩ := Kd.R_slice HO254.out; subst eo132) | (go_at_call 16; (with_reducible refine (waybillplain_SameInts.calls k _ _ t242 _ _ t252 false _ ?side1 ?side2 ?side3 ?side4 A90.out).mono ?_); (case side1 => repeat (first | exact (Kd.R_reads' HO244.out).2.2 | (with_reducible refine Kd.C_alloc ?_ _) | (with_reducible refine Kd.C_drewN ?_ _) | (with_reducible refine Kd.C_drew ?_))); (case side2 => exact (Kd.R_reads' HO244.out).2.1); (case side3 => repeat (first | exact (Kd.R_reads' HO254.out).2.2 | (with_reducible refine Kd.C_alloc ?_ _) | (with_reducible refine Kd.C_drewN ?_ _) | (with_reducible refine Kd.C_drew ?_))); (case side4 => exact (Kd.R_reads' HO254.out).2.1); rintro e w' ⟨rfl, ⟨nd, rfl⟩⟩))
                    go_meet
                    case rel => exact ⟨_, (true), (by first | rfl | (simp; done) | (simp [*]; done)), H', ⟨by first | omega | exact Nat.le_refl _⟩, ⟨by (with_reducible repeat (first | apply Ra | apply Rn | apply Rd)); exact Kd.R_mono HO258.out (fun _ hk => ⟨hk.2, ⟨hk.1.1.1.2, ⟨hk.1.1.2, hk.1.2⟩⟩⟩)⟩, ⟨by (with_reducible repeat (first | apply Ra | apply Rn | apply Rd)); exact Kd.R_mono HO262.out (fun _ hk => ⟨hk.2, ⟨hk.1.1.1.2, ⟨hk.1.1.2, hk.1.2⟩⟩⟩)⟩, ⟨by (with_reducible repeat (first | apply Ra | apply Rn | apply Rd)); exact Kd.R_mono HO208.out (fun _ hk => ⟨hk.1.2, ⟨hk.2, ⟨hk.1.1.1.2, hk.1.1.2⟩⟩⟩)⟩, ⟨by (with_reducible repeat (first | apply Ra | apply Rn | apply Rd)); exact Kd.R_mono HO215.out (fun _ hk => ⟨hk.1.2, ⟨hk.2, ⟨hk.1.1.1.2, hk.1.1.2⟩⟩⟩)⟩, ⟨by (with_reducible repeat (first | apply Ra | apply Rn | apply Rd)); exact Kd.R_mono HO224.out (fun _ hk => ⟨hk.1.2, ⟨hk.2, ⟨hk.1.1.1.2, hk.1.1.2⟩⟩⟩)⟩, ⟨by (with_reducible repeat (first | refine bN ?_ _ | refine bD ?_ | refine bA ?_ _)); exact BK202.out⟩, ⟨by (with_reducible repeat (first | refine bN ?_ _ | refine bD ?_ | refine bA ?_ _)); exact BK203.out⟩, ⟨by (with_reducible repeat (first | refine bN ?_ _ | refine bD ?_ | refine bA ?_ _)); exact BK204.out⟩, ⟨by (with_reducible repeat (first | refine bN ?_ _ | refine bD ?_ | refine bA ?_ _)); exact BK209.out⟩, ⟨by (with_reducible repeat (first | refine bN ?_ _ | refine bD ?_ | refine bA ?_ _)); exact BK218.out⟩, ⟨by (with_reducible repeat (first | refine bN ?_ _ | refine bD ?_ | refine bA ?_ _)); exact BK227.out⟩, ⟨by repeat (first | (with_reducible first | exact HB.out | apply wA | apply wN | apply wD | refine bS ?_ GE202.out | refine bS ?_ GE203.out | refine bS ?_ GE204.out | refine bS ?_ GE209.out | refine bS ?_ GE218.out | refine bS ?_ GE227.out) | exact HB.out)⟩⟩
                · replace c89 := Bool.eq_false_iff.mpr c89
                  subst c89
                  have H1 : (waybilllaw21_ResolveTells.j0 k t256 t259 t260 t263 t264 t265 t266 t267 true a0_0 l0_1 t205 t206) = some r := by rw [if_neg (show ¬ (false = true) by decide)] at H; exact H
                  clear H
                  have H := H1
                  clear H1
                  have H' := am H
                  clear H
                  have hnb133 := NB218_202.out
                  have hnc133 := NB202_218.out
                  have hnb134 := NB218_203.out
                  have hnc134 := NB203_218.out
                  have hnb135 := NB218_204.out
                  have hnc135 := NB204_218.out
                  have hnb136 := NB218_209.out
                  have hnc136 := NB209_218.out
                  have hnb137 := NB218_227.out
                  have hnc137 := NB227_218.out
                  have hcz138_0 : w76.cell? ⟨gb218, 0, none⟩ = some (.int .i64 t212) := (blk_cell BK218.out 0).trans rfl
                  have hcz138_1 : w76.cell? ⟨gb218, 1, none⟩ = some (.slice Ao43 t213.length co43) := (blk_cell BK218.out 1).trans rfl
                  have hfz138_0 := blk_frozen BK218.out 0
                  have hfz138_1 := blk_frozen BK218.out 1
                  have hnb139 := NB227_202.out
                  have hnc139 := NB202_227.out
                  have hnb140 := NB227_203.out
                  have hnc140 := NB203_227.out
                  have hnb141 := NB227_204.out
                  have hnc141 := NB204_227.out
                  have hnb142 := NB227_209.out
                  have hnc142 := NB209_227.out
                  have hcz143_0 : w76.cell? ⟨gb227, 0, none⟩ = some (.int .i64 t221) := (blk_cell BK227.out 0).trans rfl
                  have hcz143_1 : w76.cell? ⟨gb227, 1, none⟩ = some (.slice Ao58 t222.length co58) := (blk_cell BK227.out 1).trans rfl
                  have hfz143_0 := blk_frozen BK227.out 0
                  have hfz143_1 := blk_frozen BK227.out 1
                  go_wp2_with (first | ((with_reducible refine gate_callee (f := 12) rfl ?_); refine goesL_ (some 106) rfl rfl Try.func12 (by kernel_rfl) rfl #[.agg #[.int .i64 t212, .slice Ao43 t213.length co43], .agg #[.int .i64 t221, .slice Ao58 t222.length co58]] rfl (by (try simp only [List.map_toArray, List.map_cons, List.map_nil]); first | done | rfl | (simp only [List.length_drop, List.length_take]; rfl)) ?_; (with_reducible refine (waybillref21_Same.calls k t212 _ _ t213 t221 _ _ t222 true _ ?side1 ?side2 ?side3 ?side4 A77.out).mono ?_); (case side1 => repeat (first | exact (Kd.R_reads' HO215.out).2.2 | (with_reducible refine Kd.C_alloc ?_ _) | (with_reducible refine Kd.C_drewN ?_ _) | (with_reducible refine Kd.C_drew ?_))); (case side2 => exact (Kd.R_reads' HO215.out).2.1); (case side3 => repeat (first | exact (Kd.R_reads' HO224.out).2.2 | (with_reducible refine Kd.C_alloc ?_ _) | (with_reducible refine Kd.C_drewN ?_ _) | (with_reducible refine Kd.C_drew ?_))); (case side4 => exact (Kd.R_reads' HO224.out).2.1); rintro e w144 ⟨rfl, hb⟩; refine ⟨_, rfl, ?_⟩; have n0_ := am (Kd.R_below (by (with_reducible repeat (first | apply Ra | apply Rn | apply Rd)); exact HO208.out) hb); have n1_ := am (Kd.R_below (by (with_reducible repeat (first | apply Ra | apply Rn | apply Rd)); exact HO215.out) hb); have n2_ := am (Kd.R_below (by (with_reducible repeat (first | apply Ra | apply Rn | apply Rd)); exact HO224.out) hb); have n3_ := am (Kd.R_below (by (with_reducible repeat (first | apply Ra | apply Rn | apply Rd)); exact HO230.out) hb); have n4_ := am (Kd.R_below (by (with_reducible repeat (first | apply Ra | apply Rn | apply Rd)); exact HO234.out) hb); have n5_ := am (Kd.R_below (by (with_reducible repeat (first | apply Ra | apply Rn | apply Rd)); exact HO238.out) hb); have n6_ := am (Kd.R_below (by (with_reducible repeat (first | apply Ra | apply Rn | apply Rd)); exact HO241.out) hb); have n7_ := am (Kd.R_below (by (with_reducible repeat (first | apply Ra | apply Rn | apply Rd)); exact HO244.out) hb); have n8_ := am (Kd.R_below (by (with_reducible repeat (first | apply Ra | apply Rn | apply Rd)); exact HO248.out) hb); have n9_ := am (Kd.R_below (by (with_reducible repeat (first | apply Ra | apply Rn | apply Rd)); exact HO251.out) hb); have n10_ := am (Kd.R_below (by (with_reducible repeat (first | apply Ra | apply Rn | apply Rd)); exact HO254.out) hb); have n11_ := am (Kd.R_below (by (with_reducible repeat (first | apply Ra | apply Rn | apply Rd)); exact HO258.out) hb); have n12_ := am (Kd.R_below (by (with_reducible repeat (first | apply Ra | apply Rn | apply Rd)); exact HO262.out) hb); have n13_ := am (blk_below (g := gb202) (o := .cells #[.int .i64 a0_0, .slice A0_1 l0_1.length c0_1] 24 (0, 0)) (by (with_reducible repeat (first | refine bN ?_ _ | refine bD ?_ | refine bA ?_ _)); exact BK202.out) hb); have n14_ := am (blk_below (g := gb203) (o := .cells #[.int .i64 a1_0, .slice A1_1 l1_1.length c1_1] 24 (0, 0)) (by (with_reducible repeat (first | refine bN ?_ _ | refine bD ?_ | refine bA ?_ _)); exact BK203.out) hb); have n15_ := am (blk_below (g := gb204) (o := .cells #[.int .i64 a2_0, .slice A2_1 l2_1.length c2_1] 24 (0, 0)) (by (with_reducible repeat (first | refine bN ?_ _ | refine bD ?_ | refine bA ?_ _)); exact BK204.out) hb); have n16_ := am (blk_below (g := gb209) (o := .cells #[.int .i64 t205, .slice Ao29 t206.length co29] 24 (0, 0)) (by (with_reducible repeat (first | refine bN ?_ _ | refine bD ?_ | refine bA ?_ _)); exact BK209.out) hb); have n17_ := am (blk_below (g := gb218) (o := .cells #[.int .i64 t212, .slice Ao43 t213.length co43] 24 (0, 0)) (by (with_reducible repeat (first | refine bN ?_ _ | refine bD ?_ | refine bA ?_ _)); exact BK218.out) hb); have n18_ := am (blk_below (g := gb227) (o := .cells #[.int .i64 t221, .slice Ao58 t222.length co58] 24 (0, 0)) (by (with_reducible repeat (first | refine bN ?_ _ | refine bD ?_ | refine bA ?_ _)); exact BK227.out) hb); have n19_ := am (below_step (by repeat (first | (with_reducible first | exact HB.out | apply wA | apply wN | apply wD | refine bS ?_ GE202.out | refine bS ?_ GE203.out | refine bS ?_ GE204.out | refine bS ?_ GE209.out | refine bS ?_ GE218.out | refine bS ?_ GE227.out) | exact HB.out)) hb); clear HO208; clear HO215; clear HO224; clear HO230; clear HO234; clear HO238; clear HO241; clear HO244; clear HO248; clear HO251; clear HO254; clear HO258; clear HO262; clear BK202; clear BK203; clear BK204; clear BK209; clear BK218; clear BK227; clear HB; have HO208 := n0_; have HO215 := n1_; have HO224 := n2_; have HO230 := n3_; have HO234 := n4_; have HO238 := n5_; have HO241 := n6_; have HO244 := n7_; have HO248 := n8_; have HO251 := n9_; have HO254 := n10_; have HO258 := n11_; have HO262 := n12_; have BK202 := n13_; have BK203 := n14_; have BK204 := n15_; have BK209 := n16_; have BK218 := n17_; have BK227 := n18_; have HB := n19_; clear n0_ n1_ n2_ n3_ n4_ n5_ n6_ n7_ n8_ n9_ n10_ n11_ n12_ n13_ n14_ n15_ n16_ n17_ n18_ n19_; (try clear hb); (try clear hb2); (try clear hk); (try clear hi)) | (go_at_call 11; (with_reducible refine (waybilllaw21_num.calls t217 t269 _ A80.out).mono ?_); rintro e w' ⟨rfl, ⟨nd, rfl⟩⟩; obtain ⟨Ao145, co145, eo145⟩ := Kd.R_slice HO230.out; subst eo145; obtain ⟨Ao146, co146, eo146⟩ := Kd.R_slice HO234.out; subst eo146) | (go_at_call 16; (with_reducible refine (waybillplain_SameInts.calls k _ _ t228 _ _ t232 true _ ?side1 ?side2 ?side3 ?side4 A82.out).mono ?_); (case side1 => repeat (first | exact (Kd.R_reads' HO230.out).2.2 | (with_reducible refine Kd.C_alloc ?_ _) | (with_reducible refine Kd.C_drewN ?_ _) | (with_reducible refine Kd.C_drew ?_))); (case side2 => exact (Kd.R_reads' HO230.out).2.1); (case side3 => repeat (first | exact (Kd.R_reads' HO234.out).2.2 | (with_reducible refine Kd.C_alloc ?_ _) | (with_reducible refine Kd.C_drewN ?_ _) | (with_reducible refine Kd.C_drew ?_))); (case side4 => exact (Kd.R_reads' HO234.out).2.1); rintro e w' ⟨rfl, ⟨nd, rfl⟩⟩) | (go_at_call 11; (with_reducible refine (waybilllaw21_num.calls t231 t271 _ A84.out).mono ?_); rintro e w' ⟨rfl, ⟨nd, rfl⟩⟩; obtain ⟨Ao147, co147, eo147⟩ := Kd.R_slice HO238.out; subst eo147; obtain ⟨Ao148, co148, eo148⟩ := Kd.R_slice HO248.out; subst eo148) | (go_at_call 16; (with_reducible refine (waybillplain_SameInts.calls k _ _ t236 _ _ t246 true _ ?side1 ?side2 ?side3 ?side4 A86.out).mono ?_); (case side1 => repeat (first | exact (Kd.R_reads' HO238.out).2.2 | (with_reducible refine Kd.C_alloc ?_ _) | (with_reducible refine Kd.C_drewN ?_ _) | (with_reducible refine Kd.C_drew ?_))); (case side2 => exact (Kd.R_reads' HO238.out).2.1); (case side3 => repeat (first | exact (Kd.R_reads' HO248.out).2.2 | (with_reducible refine Kd.C_alloc ?_ _) | (with_reducible refine Kd.C_drewN ?_ _) | (with_reducible refine Kd.C_drew ?_))); (case side4 => exact (Kd.R_reads' HO248.out).2.1); rintro e w' ⟨rfl, ⟨nd, rfl⟩⟩; obtain ⟨Ao149, co149, eo149⟩ := Kd.R_slice HO241.out; subst eo149; obtain ⟨Ao150, co150, eo150⟩ := Kd.R_slice HO251.out; subst eo150) | (go_at_call 16; (with_reducible refine (waybillplain_SameInts.calls k _ _ t239 _ _ t249 false _ ?side1 ?side2 ?side3 ?side4 A88.out).mono ?_); (case side1 => repeat (first | exact (Kd.R_reads' HO241.out).2.2 | (with_reducible refine Kd.C_alloc ?_ _) | (with_reducible refine Kd.C_drewN ?_ _) | (with_reducible refine Kd.C_drew ?_))); (case side2 => exact (Kd.R_reads' HO241.out).2.1); (case side3 => repeat (first | exact (Kd.R_reads' HO251.out).2.2 | (with_reducible refine Kd.C_alloc ?_ _) | (with_reducible refine Kd.C_drewN ?_ _) | (with_reducible refine Kd.C_drew ?_))); (case side4 => exact (Kd.R_reads' HO251.out).2.1); rintro e w' ⟨rfl, ⟨nd, rfl⟩⟩))
                  go_meet
                  case rel => exact ⟨_, (true), (by first | rfl | (simp; done) | (simp [*]; done)), H', ⟨by first | omega | exact Nat.le_refl _⟩, ⟨by (with_reducible repeat (first | apply Ra | apply Rn | apply Rd)); exact Kd.R_mono HO258.out (fun _ hk => ⟨hk.2, ⟨hk.1.1.1.2, ⟨hk.1.1.2, hk.1.2⟩⟩⟩)⟩, ⟨by (with_reducible repeat (first | apply Ra | apply Rn | apply Rd)); exact Kd.R_mono HO262.out (fun _ hk => ⟨hk.2, ⟨hk.1.1.1.2, ⟨hk.1.1.2, hk.1.2⟩⟩⟩)⟩, ⟨by (with_reducible repeat (first | apply Ra | apply Rn | apply Rd)); exact Kd.R_mono HO208.out (fun _ hk => ⟨hk.1.2, ⟨hk.2, ⟨hk.1.1.1.2, hk.1.1.2⟩⟩⟩)⟩, ⟨by (with_reducible repeat (first | apply Ra | apply Rn | apply Rd)); exact Kd.R_mono HO215.out (fun _ hk => ⟨hk.1.2, ⟨hk.2, ⟨hk.1.1.1.2, hk.1.1.2⟩⟩⟩)⟩, ⟨by (with_reducible repeat (first | apply Ra | apply Rn | apply Rd)); exact Kd.R_mono HO224.out (fun _ hk => ⟨hk.1.2, ⟨hk.2, ⟨hk.1.1.1.2, hk.1.1.2⟩⟩⟩)⟩, ⟨by (with_reducible repeat (first | refine bN ?_ _ | refine bD ?_ | refine bA ?_ _)); exact BK202.out⟩, ⟨by (with_reducible repeat (first | refine bN ?_ _ | refine bD ?_ | refine bA ?_ _)); exact BK203.out⟩, ⟨by (with_reducible repeat (first | refine bN ?_ _ | refine bD ?_ | refine bA ?_ _)); exact BK204.out⟩, ⟨by (with_reducible repeat (first | refine bN ?_ _ | refine bD ?_ | refine bA ?_ _)); exact BK209.out⟩, ⟨by (with_reducible repeat (first | refine bN ?_ _ | refine bD ?_ | refine bA ?_ _)); exact BK218.out⟩, ⟨by (with_reducible repeat (first | refine bN ?_ _ | refine bD ?_ | refine bA ?_ _)); exact BK227.out⟩, ⟨by repeat (first | (with_reducible first | exact HB.out | apply wA | apply wN | apply wD | refine bS ?_ GE202.out | refine bS ?_ GE203.out | refine bS ?_ GE204.out | refine bS ?_ GE209.out | refine bS ?_ GE218.out | refine bS ?_ GE227.out) | exact HB.out)⟩⟩
              · replace c87 := Bool.eq_false_iff.mpr c87
                subst c87
                have H1 : (waybilllaw21_ResolveTells.j0 k t256 t259 t260 t263 t264 t265 t266 t267 true a0_0 l0_1 t205 t206) = some r := by rw [if_neg (show ¬ (false = true) by decide)] at H; exact H
                clear H
                have H := H1
                clear H1
                have H' := am H
                clear H
                have hnb151 := NB218_202.out
                have hnc151 := NB202_218.out
                have hnb152 := NB218_203.out
                have hnc152 := NB203_218.out
                have hnb153 := NB218_204.out
                have hnc153 := NB204_218.out
                have hnb154 := NB218_209.out
                have hnc154 := NB209_218.out
                have hnb155 := NB218_227.out
                have hnc155 := NB227_218.out
                have hcz156_0 : w76.cell? ⟨gb218, 0, none⟩ = some (.int .i64 t212) := (blk_cell BK218.out 0).trans rfl
                have hcz156_1 : w76.cell? ⟨gb218, 1, none⟩ = some (.slice Ao43 t213.length co43) := (blk_cell BK218.out 1).trans rfl
                have hfz156_0 := blk_frozen BK218.out 0
                have hfz156_1 := blk_frozen BK218.out 1
                have hnb157 := NB227_202.out
                have hnc157 := NB202_227.out
                have hnb158 := NB227_203.out
                have hnc158 := NB203_227.out
                have hnb159 := NB227_204.out
                have hnc159 := NB204_227.out
                have hnb160 := NB227_209.out
                have hnc160 := NB209_227.out
                have hcz161_0 : w76.cell? ⟨gb227, 0, none⟩ = some (.int .i64 t221) := (blk_cell BK227.out 0).trans rfl
                have hcz161_1 : w76.cell? ⟨gb227, 1, none⟩ = some (.slice Ao58 t222.length co58) := (blk_cell BK227.out 1).trans rfl
                have hfz161_0 := blk_frozen BK227.out 0
                have hfz161_1 := blk_frozen BK227.out 1
                go_wp2_with (first | ((with_reducible refine gate_callee (f := 12) rfl ?_); refine goesL_ (some 106) rfl rfl Try.func12 (by kernel_rfl) rfl #[.agg #[.int .i64 t212, .slice Ao43 t213.length co43], .agg #[.int .i64 t221, .slice Ao58 t222.length co58]] rfl (by (try simp only [List.map_toArray, List.map_cons, List.map_nil]); first | done | rfl | (simp only [List.length_drop, List.length_take]; rfl)) ?_; (with_reducible refine (waybillref21_Same.calls k t212 _ _ t213 t221 _ _ t222 true _ ?side1 ?side2 ?side3 ?side4 A77.out).mono ?_); (case side1 => repeat (first | exact (Kd.R_reads' HO215.out).2.2 | (with_reducible refine Kd.C_alloc ?_ _) | (with_reducible refine Kd.C_drewN ?_ _) | (with_reducible refine Kd.C_drew ?_))); (case side2 => exact (Kd.R_reads' HO215.out).2.1); (case side3 => repeat (first | exact (Kd.R_reads' HO224.out).2.2 | (with_reducible refine Kd.C_alloc ?_ _) | (with_reducible refine Kd.C_drewN ?_ _) | (with_reducible refine Kd.C_drew ?_))); (case side4 => exact (Kd.R_reads' HO224.out).2.1); rintro e w162 ⟨rfl, hb⟩; refine ⟨_, rfl, ?_⟩; have n0_ := am (Kd.R_below (by (with_reducible repeat (first | apply Ra | apply Rn | apply Rd)); exact HO208.out) hb); have n1_ := am (Kd.R_below (by (with_reducible repeat (first | apply Ra | apply Rn | apply Rd)); exact HO215.out) hb); have n2_ := am (Kd.R_below (by (with_reducible repeat (first | apply Ra | apply Rn | apply Rd)); exact HO224.out) hb); have n3_ := am (Kd.R_below (by (with_reducible repeat (first | apply Ra | apply Rn | apply Rd)); exact HO230.out) hb); have n4_ := am (Kd.R_below (by (with_reducible repeat (first | apply Ra | apply Rn | apply Rd)); exact HO234.out) hb); have n5_ := am (Kd.R_below (by (with_reducible repeat (first | apply Ra | apply Rn | apply Rd)); exact HO238.out) hb); have n6_ := am (Kd.R_below (by (with_reducible repeat (first | apply Ra | apply Rn | apply Rd)); exact HO241.out) hb); have n7_ := am (Kd.R_below (by (with_reducible repeat (first | apply Ra | apply Rn | apply Rd)); exact HO244.out) hb); have n8_ := am (Kd.R_below (by (with_reducible repeat (first | apply Ra | apply Rn | apply Rd)); exact HO248.out) hb); have n9_ := am (Kd.R_below (by (with_reducible repeat (first | apply Ra | apply Rn | apply Rd)); exact HO251.out) hb); have n10_ := am (Kd.R_below (by (with_reducible repeat (first | apply Ra | apply Rn | apply Rd)); exact HO254.out) hb); have n11_ := am (Kd.R_below (by (with_reducible repeat (first | apply Ra | apply Rn | apply Rd)); exact HO258.out) hb); have n12_ := am (Kd.R_below (by (with_reducible repeat (first | apply Ra | apply Rn | apply Rd)); exact HO262.out) hb); have n13_ := am (blk_below (g := gb202) (o := .cells #[.int .i64 a0_0, .slice A0_1 l0_1.length c0_1] 24 (0, 0)) (by (with_reducible repeat (first | refine bN ?_ _ | refine bD ?_ | refine bA ?_ _)); exact BK202.out) hb); have n14_ := am (blk_below (g := gb203) (o := .cells #[.int .i64 a1_0, .slice A1_1 l1_1.length c1_1] 24 (0, 0)) (by (with_reducible repeat (first | refine bN ?_ _ | refine bD ?_ | refine bA ?_ _)); exact BK203.out) hb); have n15_ := am (blk_below (g := gb204) (o := .cells #[.int .i64 a2_0, .slice A2_1 l2_1.length c2_1] 24 (0, 0)) (by (with_reducible repeat (first | refine bN ?_ _ | refine bD ?_ | refine bA ?_ _)); exact BK204.out) hb); have n16_ := am (blk_below (g := gb209) (o := .cells #[.int .i64 t205, .slice Ao29 t206.length co29] 24 (0, 0)) (by (with_reducible repeat (first | refine bN ?_ _ | refine bD ?_ | refine bA ?_ _)); exact BK209.out) hb); have n17_ := am (blk_below (g := gb218) (o := .cells #[.int .i64 t212, .slice Ao43 t213.length co43] 24 (0, 0)) (by (with_reducible repeat (first | refine bN ?_ _ | refine bD ?_ | refine bA ?_ _)); exact BK218.out) hb); have n18_ := am (blk_below (g := gb227) (o := .cells #[.int .i64 t221, .slice Ao58 t222.length co58] 24 (0, 0)) (by (with_reducible repeat (first | refine bN ?_ _ | refine bD ?_ | refine bA ?_ _)); exact BK227.out) hb); have n19_ := am (below_step (by repeat (first | (with_reducible first | exact HB.out | apply wA | apply wN | apply wD | refine bS ?_ GE202.out | refine bS ?_ GE203.out | refine bS ?_ GE204.out | refine bS ?_ GE209.out | refine bS ?_ GE218.out | refine bS ?_ GE227.out) | exact HB.out)) hb); clear HO208; clear HO215; clear HO224; clear HO230; clear HO234; clear HO238; clear HO241; clear HO244; clear HO248; clear HO251; clear HO254; clear HO258; clear HO262; clear BK202; clear BK203; clear BK204; clear BK209; clear BK218; clear BK227; clear HB; have HO208 := n0_; have HO215 := n1_; have HO224 := n2_; have HO230 := n3_; have HO234 := n4_; have HO238 := n5_; have HO241 := n6_; have HO244 := n7_; have HO248 := n8_; have HO251 := n9_; have HO254 := n10_; have HO258 := n11_; have HO262 := n12_; have BK202 := n13_; have BK203 := n14_; have BK204 := n15_; have BK209 := n16_; have BK218 := n17_; have BK227 := n18_; have HB := n19_; clear n0_ n1_ n2_ n3_ n4_ n5_ n6_ n7_ n8_ n9_ n10_ n11_ n12_ n13_ n14_ n15_ n16_ n17_ n18_ n19_; (try clear hb); (try clear hb2); (try clear hk); (try clear hi)) | (go_at_call 11; (with_reducible refine (waybilllaw21_num.calls t217 t269 _ A80.out).mono ?_); rintro e w' ⟨rfl, ⟨nd, rfl⟩⟩; obtain ⟨Ao163, co163, eo163⟩ := Kd.R_slice HO230.out; subst eo163; obtain ⟨Ao164, co164, eo164⟩ := Kd.R_slice HO234.out; subst eo164) | (go_at_call 16; (with_reducible refine (waybillplain_SameInts.calls k _ _ t228 _ _ t232 true _ ?side1 ?side2 ?side3 ?side4 A82.out).mono ?_); (case side1 => repeat (first | exact (Kd.R_reads' HO230.out).2.2 | (with_reducible refine Kd.C_alloc ?_ _) | (with_reducible refine Kd.C_drewN ?_ _) | (with_reducible refine Kd.C_drew ?_))); (case side2 => exact (Kd.R_reads' HO230.out).2.1); (case side3 => repeat (first | exact (Kd.R_reads' HO234.out).2.2 | (with_reducible refine Kd.C_alloc ?_ _) | (with_reducible refine Kd.C_drewN ?_ _) | (with_reducible refine Kd.C_drew ?_))); (case side4 => exact (Kd.R_reads' HO234.out).2.1); rintro e w' ⟨rfl, ⟨nd, rfl⟩⟩) | (go_at_call 11; (with_reducible refine (waybilllaw21_num.calls t231 t271 _ A84.out).mono ?_); rintro e w' ⟨rfl, ⟨nd, rfl⟩⟩; obtain ⟨Ao165, co165, eo165⟩ := Kd.R_slice HO238.out; subst eo165; obtain ⟨Ao166, co166, eo166⟩ := Kd.R_slice HO248.out; subst eo166) | (go_at_call 16; (with_reducible refine (waybillplain_SameInts.calls k _ _ t236 _ _ t246 false _ ?side1 ?side2 ?side3 ?side4 A86.out).mono ?_); (case side1 => repeat (first | exact (Kd.R_reads' HO238.out).2.2 | (with_reducible refine Kd.C_alloc ?_ _) | (with_reducible refine Kd.C_drewN ?_ _) | (with_reducible refine Kd.C_drew ?_))); (case side2 => exact (Kd.R_reads' HO238.out).2.1); (case side3 => repeat (first | exact (Kd.R_reads' HO248.out).2.2 | (with_reducible refine Kd.C_alloc ?_ _) | (with_reducible refine Kd.C_drewN ?_ _) | (with_reducible refine Kd.C_drew ?_))); (case side4 => exact (Kd.R_reads' HO248.out).2.1); rintro e w' ⟨rfl, ⟨nd, rfl⟩⟩))
                go_meet
                case rel => exact ⟨_, (true), (by first | rfl | (simp; done) | (simp [*]; done)), H', ⟨by first | omega | exact Nat.le_refl _⟩, ⟨by (with_reducible repeat (first | apply Ra | apply Rn | apply Rd)); exact Kd.R_mono HO258.out (fun _ hk => ⟨hk.2, ⟨hk.1.1.1.2, ⟨hk.1.1.2, hk.1.2⟩⟩⟩)⟩, ⟨by (with_reducible repeat (first | apply Ra | apply Rn | apply Rd)); exact Kd.R_mono HO262.out (fun _ hk => ⟨hk.2, ⟨hk.1.1.1.2, ⟨hk.1.1.2, hk.1.2⟩⟩⟩)⟩, ⟨by (with_reducible repeat (first | apply Ra | apply Rn | apply Rd)); exact Kd.R_mono HO208.out (fun _ hk => ⟨hk.1.2, ⟨hk.2, ⟨hk.1.1.1.2, hk.1.1.2⟩⟩⟩)⟩, ⟨by (with_reducible repeat (first | apply Ra | apply Rn | apply Rd)); exact Kd.R_mono HO215.out (fun _ hk => ⟨hk.1.2, ⟨hk.2, ⟨hk.1.1.1.2, hk.1.1.2⟩⟩⟩)⟩, ⟨by (with_reducible repeat (first | apply Ra | apply Rn | apply Rd)); exact Kd.R_mono HO224.out (fun _ hk => ⟨hk.1.2, ⟨hk.2, ⟨hk.1.1.1.2, hk.1.1.2⟩⟩⟩)⟩, ⟨by (with_reducible repeat (first | refine bN ?_ _ | refine bD ?_ | refine bA ?_ _)); exact BK202.out⟩, ⟨by (with_reducible repeat (first | refine bN ?_ _ | refine bD ?_ | refine bA ?_ _)); exact BK203.out⟩, ⟨by (with_reducible repeat (first | refine bN ?_ _ | refine bD ?_ | refine bA ?_ _)); exact BK204.out⟩, ⟨by (with_reducible repeat (first | refine bN ?_ _ | refine bD ?_ | refine bA ?_ _)); exact BK209.out⟩, ⟨by (with_reducible repeat (first | refine bN ?_ _ | refine bD ?_ | refine bA ?_ _)); exact BK218.out⟩, ⟨by (with_reducible repeat (first | refine bN ?_ _ | refine bD ?_ | refine bA ?_ _)); exact BK227.out⟩, ⟨by repeat (first | (with_reducible first | exact HB.out | apply wA | apply wN | apply wD | refine bS ?_ GE202.out | refine bS ?_ GE203.out | refine bS ?_ GE204.out | refine bS ?_ GE209.out | refine bS ?_ GE218.out | refine bS ?_ GE227.out) | exact HB.out)⟩⟩
            · rw [if_neg c85] at H
              have c85b0 : (t271 == t235) = false := beq_eq_false_iff_ne.mpr c85
              have c85b1 : (t271 != t235) = true := bne_iff_ne.mpr c85
              have H' := am H
              clear H
              have hnb167 := NB218_202.out
              have hnc167 := NB202_218.out
              have hnb168 := NB218_203.out
              have hnc168 := NB203_218.out
              have hnb169 := NB218_204.out
              have hnc169 := NB204_218.out
              have hnb170 := NB218_209.out
              have hnc170 := NB209_218.out
              have hnb171 := NB218_227.out
              have hnc171 := NB227_218.out
              have hcz172_0 : w76.cell? ⟨gb218, 0, none⟩ = some (.int .i64 t212) := (blk_cell BK218.out 0).trans rfl
              have hcz172_1 : w76.cell? ⟨gb218, 1, none⟩ = some (.slice Ao43 t213.length co43) := (blk_cell BK218.out 1).trans rfl
              have hfz172_0 := blk_frozen BK218.out 0
              have hfz172_1 := blk_frozen BK218.out 1
              have hnb173 := NB227_202.out
              have hnc173 := NB202_227.out
              have hnb174 := NB227_203.out
              have hnc174 := NB203_227.out
              have hnb175 := NB227_204.out
              have hnc175 := NB204_227.out
              have hnb176 := NB227_209.out
              have hnc176 := NB209_227.out
              have hcz177_0 : w76.cell? ⟨gb227, 0, none⟩ = some (.int .i64 t221) := (blk_cell BK227.out 0).trans rfl
              have hcz177_1 : w76.cell? ⟨gb227, 1, none⟩ = some (.slice Ao58 t222.length co58) := (blk_cell BK227.out 1).trans rfl
              have hfz177_0 := blk_frozen BK227.out 0
              have hfz177_1 := blk_frozen BK227.out 1
              go_wp2_with (first | ((with_reducible refine gate_callee (f := 12) rfl ?_); refine goesL_ (some 106) rfl rfl Try.func12 (by kernel_rfl) rfl #[.agg #[.int .i64 t212, .slice Ao43 t213.length co43], .agg #[.int .i64 t221, .slice Ao58 t222.length co58]] rfl (by (try simp only [List.map_toArray, List.map_cons, List.map_nil]); first | done | rfl | (simp only [List.length_drop, List.length_take]; rfl)) ?_; (with_reducible refine (waybillref21_Same.calls k t212 _ _ t213 t221 _ _ t222 true _ ?side1 ?side2 ?side3 ?side4 A77.out).mono ?_); (case side1 => repeat (first | exact (Kd.R_reads' HO215.out).2.2 | (with_reducible refine Kd.C_alloc ?_ _) | (with_reducible refine Kd.C_drewN ?_ _) | (with_reducible refine Kd.C_drew ?_))); (case side2 => exact (Kd.R_reads' HO215.out).2.1); (case side3 => repeat (first | exact (Kd.R_reads' HO224.out).2.2 | (with_reducible refine Kd.C_alloc ?_ _) | (with_reducible refine Kd.C_drewN ?_ _) | (with_reducible refine Kd.C_drew ?_))); (case side4 => exact (Kd.R_reads' HO224.out).2.1); rintro e w178 ⟨rfl, hb⟩; refine ⟨_, rfl, ?_⟩; have n0_ := am (Kd.R_below (by (with_reducible repeat (first | apply Ra | apply Rn | apply Rd)); exact HO208.out) hb); have n1_ := am (Kd.R_below (by (with_reducible repeat (first | apply Ra | apply Rn | apply Rd)); exact HO215.out) hb); have n2_ := am (Kd.R_below (by (with_reducible repeat (first | apply Ra | apply Rn | apply Rd)); exact HO224.out) hb); have n3_ := am (Kd.R_below (by (with_reducible repeat (first | apply Ra | apply Rn | apply Rd)); exact HO230.out) hb); have n4_ := am (Kd.R_below (by (with_reducible repeat (first | apply Ra | apply Rn | apply Rd)); exact HO234.out) hb); have n5_ := am (Kd.R_below (by (with_reducible repeat (first | apply Ra | apply Rn | apply Rd)); exact HO238.out) hb); have n6_ := am (Kd.R_below (by (with_reducible repeat (first | apply Ra | apply Rn | apply Rd)); exact HO241.out) hb); have n7_ := am (Kd.R_below (by (with_reducible repeat (first | apply Ra | apply Rn | apply Rd)); exact HO244.out) hb); have n8_ := am (Kd.R_below (by (with_reducible repeat (first | apply Ra | apply Rn | apply Rd)); exact HO248.out) hb); have n9_ := am (Kd.R_below (by (with_reducible repeat (first | apply Ra | apply Rn | apply Rd)); exact HO251.out) hb); have n10_ := am (Kd.R_below (by (with_reducible repeat (first | apply Ra | apply Rn | apply Rd)); exact HO254.out) hb); have n11_ := am (Kd.R_below (by (with_reducible repeat (first | apply Ra | apply Rn | apply Rd)); exact HO258.out) hb); have n12_ := am (Kd.R_below (by (with_reducible repeat (first | apply Ra | apply Rn | apply Rd)); exact HO262.out) hb); have n13_ := am (blk_below (g := gb202) (o := .cells #[.int .i64 a0_0, .slice A0_1 l0_1.length c0_1] 24 (0, 0)) (by (with_reducible repeat (first | refine bN ?_ _ | refine bD ?_ | refine bA ?_ _)); exact BK202.out) hb); have n14_ := am (blk_below (g := gb203) (o := .cells #[.int .i64 a1_0, .slice A1_1 l1_1.length c1_1] 24 (0, 0)) (by (with_reducible repeat (first | refine bN ?_ _ | refine bD ?_ | refine bA ?_ _)); exact BK203.out) hb); have n15_ := am (blk_below (g := gb204) (o := .cells #[.int .i64 a2_0, .slice A2_1 l2_1.length c2_1] 24 (0, 0)) (by (with_reducible repeat (first | refine bN ?_ _ | refine bD ?_ | refine bA ?_ _)); exact BK204.out) hb); have n16_ := am (blk_below (g := gb209) (o := .cells #[.int .i64 t205, .slice Ao29 t206.length co29] 24 (0, 0)) (by (with_reducible repeat (first | refine bN ?_ _ | refine bD ?_ | refine bA ?_ _)); exact BK209.out) hb); have n17_ := am (blk_below (g := gb218) (o := .cells #[.int .i64 t212, .slice Ao43 t213.length co43] 24 (0, 0)) (by (with_reducible repeat (first | refine bN ?_ _ | refine bD ?_ | refine bA ?_ _)); exact BK218.out) hb); have n18_ := am (blk_below (g := gb227) (o := .cells #[.int .i64 t221, .slice Ao58 t222.length co58] 24 (0, 0)) (by (with_reducible repeat (first | refine bN ?_ _ | refine bD ?_ | refine bA ?_ _)); exact BK227.out) hb); have n19_ := am (below_step (by repeat (first | (with_reducible first | exact HB.out | apply wA | apply wN | apply wD | refine bS ?_ GE202.out | refine bS ?_ GE203.out | refine bS ?_ GE204.out | refine bS ?_ GE209.out | refine bS ?_ GE218.out | refine bS ?_ GE227.out) | exact HB.out)) hb); clear HO208; clear HO215; clear HO224; clear HO230; clear HO234; clear HO238; clear HO241; clear HO244; clear HO248; clear HO251; clear HO254; clear HO258; clear HO262; clear BK202; clear BK203; clear BK204; clear BK209; clear BK218; clear BK227; clear HB; have HO208 := n0_; have HO215 := n1_; have HO224 := n2_; have HO230 := n3_; have HO234 := n4_; have HO238 := n5_; have HO241 := n6_; have HO244 := n7_; have HO248 := n8_; have HO251 := n9_; have HO254 := n10_; have HO258 := n11_; have HO262 := n12_; have BK202 := n13_; have BK203 := n14_; have BK204 := n15_; have BK209 := n16_; have BK218 := n17_; have BK227 := n18_; have HB := n19_; clear n0_ n1_ n2_ n3_ n4_ n5_ n6_ n7_ n8_ n9_ n10_ n11_ n12_ n13_ n14_ n15_ n16_ n17_ n18_ n19_; (try clear hb); (try clear hb2); (try clear hk); (try clear hi)) | (go_at_call 11; (with_reducible refine (waybilllaw21_num.calls t217 t269 _ A80.out).mono ?_); rintro e w' ⟨rfl, ⟨nd, rfl⟩⟩; obtain ⟨Ao179, co179, eo179⟩ := Kd.R_slice HO230.out; subst eo179; obtain ⟨Ao180, co180, eo180⟩ := Kd.R_slice HO234.out; subst eo180) | (go_at_call 16; (with_reducible refine (waybillplain_SameInts.calls k _ _ t228 _ _ t232 true _ ?side1 ?side2 ?side3 ?side4 A82.out).mono ?_); (case side1 => repeat (first | exact (Kd.R_reads' HO230.out).2.2 | (with_reducible refine Kd.C_alloc ?_ _) | (with_reducible refine Kd.C_drewN ?_ _) | (with_reducible refine Kd.C_drew ?_))); (case side2 => exact (Kd.R_reads' HO230.out).2.1); (case side3 => repeat (first | exact (Kd.R_reads' HO234.out).2.2 | (with_reducible refine Kd.C_alloc ?_ _) | (with_reducible refine Kd.C_drewN ?_ _) | (with_reducible refine Kd.C_drew ?_))); (case side4 => exact (Kd.R_reads' HO234.out).2.1); rintro e w' ⟨rfl, ⟨nd, rfl⟩⟩) | (go_at_call 11; (with_reducible refine (waybilllaw21_num.calls t231 t271 _ A84.out).mono ?_); rintro e w' ⟨rfl, ⟨nd, rfl⟩⟩))
              go_meet
              case rel => exact ⟨_, (true), (by first | rfl | (simp; done) | (simp [*]; done)), H', ⟨by first | omega | exact Nat.le_refl _⟩, ⟨by (with_reducible repeat (first | apply Ra | apply Rn | apply Rd)); exact Kd.R_mono HO258.out (fun _ hk => ⟨hk.2, ⟨hk.1.1.1.2, ⟨hk.1.1.2, hk.1.2⟩⟩⟩)⟩, ⟨by (with_reducible repeat (first | apply Ra | apply Rn | apply Rd)); exact Kd.R_mono HO262.out (fun _ hk => ⟨hk.2, ⟨hk.1.1.1.2, ⟨hk.1.1.2, hk.1.2⟩⟩⟩)⟩, ⟨by (with_reducible repeat (first | apply Ra | apply Rn | apply Rd)); exact Kd.R_mono HO208.out (fun _ hk => ⟨hk.1.2, ⟨hk.2, ⟨hk.1.1.1.2, hk.1.1.2⟩⟩⟩)⟩, ⟨by (with_reducible repeat (first | apply Ra | apply Rn | apply Rd)); exact Kd.R_mono HO215.out (fun _ hk => ⟨hk.1.2, ⟨hk.2, ⟨hk.1.1.1.2, hk.1.1.2⟩⟩⟩)⟩, ⟨by (with_reducible repeat (first | apply Ra | apply Rn | apply Rd)); exact Kd.R_mono HO224.out (fun _ hk => ⟨hk.1.2, ⟨hk.2, ⟨hk.1.1.1.2, hk.1.1.2⟩⟩⟩)⟩, ⟨by (with_reducible repeat (first | refine bN ?_ _ | refine bD ?_ | refine bA ?_ _)); exact BK202.out⟩, ⟨by (with_reducible repeat (first | refine bN ?_ _ | refine bD ?_ | refine bA ?_ _)); exact BK203.out⟩, ⟨by (with_reducible repeat (first | refine bN ?_ _ | refine bD ?_ | refine bA ?_ _)); exact BK204.out⟩, ⟨by (with_reducible repeat (first | refine bN ?_ _ | refine bD ?_ | refine bA ?_ _)); exact BK209.out⟩, ⟨by (with_reducible repeat (first | refine bN ?_ _ | refine bD ?_ | refine bA ?_ _)); exact BK218.out⟩, ⟨by (with_reducible repeat (first | refine bN ?_ _ | refine bD ?_ | refine bA ?_ _)); exact BK227.out⟩, ⟨by repeat (first | (with_reducible first | exact HB.out | apply wA | apply wN | apply wD | refine bS ?_ GE202.out | refine bS ?_ GE203.out | refine bS ?_ GE204.out | refine bS ?_ GE209.out | refine bS ?_ GE218.out | refine bS ?_ GE227.out) | exact HB.out)⟩⟩
          · replace c83 := Bool.eq_false_iff.mpr c83
            subst c83
            have H1 : (waybilllaw21_ResolveTells.j0 k t256 t259 t260 t263 t264 t265 t266 t267 true a0_0 l0_1 t205 t206) = some r := by rw [if_neg (show ¬ (false = true) by decide)] at H; exact H
            clear H
            have H := H1
            clear H1
            have H' := am H
            clear H
            have hnb181 := NB218_202.out
            have hnc181 := NB202_218.out
            have hnb182 := NB218_203.out
            have hnc182 := NB203_218.out
            have hnb183 := NB218_204.out
            have hnc183 := NB204_218.out
            have hnb184 := NB218_209.out
            have hnc184 := NB209_218.out
            have hnb185 := NB218_227.out
            have hnc185 := NB227_218.out
            have hcz186_0 : w76.cell? ⟨gb218, 0, none⟩ = some (.int .i64 t212) := (blk_cell BK218.out 0).trans rfl
            have hcz186_1 : w76.cell? ⟨gb218, 1, none⟩ = some (.slice Ao43 t213.length co43) := (blk_cell BK218.out 1).trans rfl
            have hfz186_0 := blk_frozen BK218.out 0
            have hfz186_1 := blk_frozen BK218.out 1
            have hnb187 := NB227_202.out
            have hnc187 := NB202_227.out
            have hnb188 := NB227_203.out
            have hnc188 := NB203_227.out
            have hnb189 := NB227_204.out
            have hnc189 := NB204_227.out
            have hnb190 := NB227_209.out
            have hnc190 := NB209_227.out
            have hcz191_0 : w76.cell? ⟨gb227, 0, none⟩ = some (.int .i64 t221) := (blk_cell BK227.out 0).trans rfl
            have hcz191_1 : w76.cell? ⟨gb227, 1, none⟩ = some (.slice Ao58 t222.length co58) := (blk_cell BK227.out 1).trans rfl
            have hfz191_0 := blk_frozen BK227.out 0
            have hfz191_1 := blk_frozen BK227.out 1
            go_wp2_with (first | ((with_reducible refine gate_callee (f := 12) rfl ?_); refine goesL_ (some 106) rfl rfl Try.func12 (by kernel_rfl) rfl #[.agg #[.int .i64 t212, .slice Ao43 t213.length co43], .agg #[.int .i64 t221, .slice Ao58 t222.length co58]] rfl (by (try simp only [List.map_toArray, List.map_cons, List.map_nil]); first | done | rfl | (simp only [List.length_drop, List.length_take]; rfl)) ?_; (with_reducible refine (waybillref21_Same.calls k t212 _ _ t213 t221 _ _ t222 true _ ?side1 ?side2 ?side3 ?side4 A77.out).mono ?_); (case side1 => repeat (first | exact (Kd.R_reads' HO215.out).2.2 | (with_reducible refine Kd.C_alloc ?_ _) | (with_reducible refine Kd.C_drewN ?_ _) | (with_reducible refine Kd.C_drew ?_))); (case side2 => exact (Kd.R_reads' HO215.out).2.1); (case side3 => repeat (first | exact (Kd.R_reads' HO224.out).2.2 | (with_reducible refine Kd.C_alloc ?_ _) | (with_reducible refine Kd.C_drewN ?_ _) | (with_reducible refine Kd.C_drew ?_))); (case side4 => exact (Kd.R_reads' HO224.out).2.1); rintro e w192 ⟨rfl, hb⟩; refine ⟨_, rfl, ?_⟩; have n0_ := am (Kd.R_below (by (with_reducible repeat (first | apply Ra | apply Rn | apply Rd)); exact HO208.out) hb); have n1_ := am (Kd.R_below (by (with_reducible repeat (first | apply Ra | apply Rn | apply Rd)); exact HO215.out) hb); have n2_ := am (Kd.R_below (by (with_reducible repeat (first | apply Ra | apply Rn | apply Rd)); exact HO224.out) hb); have n3_ := am (Kd.R_below (by (with_reducible repeat (first | apply Ra | apply Rn | apply Rd)); exact HO230.out) hb); have n4_ := am (Kd.R_below (by (with_reducible repeat (first | apply Ra | apply Rn | apply Rd)); exact HO234.out) hb); have n5_ := am (Kd.R_below (by (with_reducible repeat (first | apply Ra | apply Rn | apply Rd)); exact HO238.out) hb); have n6_ := am (Kd.R_below (by (with_reducible repeat (first | apply Ra | apply Rn | apply Rd)); exact HO241.out) hb); have n7_ := am (Kd.R_below (by (with_reducible repeat (first | apply Ra | apply Rn | apply Rd)); exact HO244.out) hb); have n8_ := am (Kd.R_below (by (with_reducible repeat (first | apply Ra | apply Rn | apply Rd)); exact HO248.out) hb); have n9_ := am (Kd.R_below (by (with_reducible repeat (first | apply Ra | apply Rn | apply Rd)); exact HO251.out) hb); have n10_ := am (Kd.R_below (by (with_reducible repeat (first | apply Ra | apply Rn | apply Rd)); exact HO254.out) hb); have n11_ := am (Kd.R_below (by (with_reducible repeat (first | apply Ra | apply Rn | apply Rd)); exact HO258.out) hb); have n12_ := am (Kd.R_below (by (with_reducible repeat (first | apply Ra | apply Rn | apply Rd)); exact HO262.out) hb); have n13_ := am (blk_below (g := gb202) (o := .cells #[.int .i64 a0_0, .slice A0_1 l0_1.length c0_1] 24 (0, 0)) (by (with_reducible repeat (first | refine bN ?_ _ | refine bD ?_ | refine bA ?_ _)); exact BK202.out) hb); have n14_ := am (blk_below (g := gb203) (o := .cells #[.int .i64 a1_0, .slice A1_1 l1_1.length c1_1] 24 (0, 0)) (by (with_reducible repeat (first | refine bN ?_ _ | refine bD ?_ | refine bA ?_ _)); exact BK203.out) hb); have n15_ := am (blk_below (g := gb204) (o := .cells #[.int .i64 a2_0, .slice A2_1 l2_1.length c2_1] 24 (0, 0)) (by (with_reducible repeat (first | refine bN ?_ _ | refine bD ?_ | refine bA ?_ _)); exact BK204.out) hb); have n16_ := am (blk_below (g := gb209) (o := .cells #[.int .i64 t205, .slice Ao29 t206.length co29] 24 (0, 0)) (by (with_reducible repeat (first | refine bN ?_ _ | refine bD ?_ | refine bA ?_ _)); exact BK209.out) hb); have n17_ := am (blk_below (g := gb218) (o := .cells #[.int .i64 t212, .slice Ao43 t213.length co43] 24 (0, 0)) (by (with_reducible repeat (first | refine bN ?_ _ | refine bD ?_ | refine bA ?_ _)); exact BK218.out) hb); have n18_ := am (blk_below (g := gb227) (o := .cells #[.int .i64 t221, .slice Ao58 t222.length co58] 24 (0, 0)) (by (with_reducible repeat (first | refine bN ?_ _ | refine bD ?_ | refine bA ?_ _)); exact BK227.out) hb); have n19_ := am (below_step (by repeat (first | (with_reducible first | exact HB.out | apply wA | apply wN | apply wD | refine bS ?_ GE202.out | refine bS ?_ GE203.out | refine bS ?_ GE204.out | refine bS ?_ GE209.out | refine bS ?_ GE218.out | refine bS ?_ GE227.out) | exact HB.out)) hb); clear HO208; clear HO215; clear HO224; clear HO230; clear HO234; clear HO238; clear HO241; clear HO244; clear HO248; clear HO251; clear HO254; clear HO258; clear HO262; clear BK202; clear BK203; clear BK204; clear BK209; clear BK218; clear BK227; clear HB; have HO208 := n0_; have HO215 := n1_; have HO224 := n2_; have HO230 := n3_; have HO234 := n4_; have HO238 := n5_; have HO241 := n6_; have HO244 := n7_; have HO248 := n8_; have HO251 := n9_; have HO254 := n10_; have HO258 := n11_; have HO262 := n12_; have BK202 := n13_; have BK203 := n14_; have BK204 := n15_; have BK209 := n16_; have BK218 := n17_; have BK227 := n18_; have HB := n19_; clear n0_ n1_ n2_ n3_ n4_ n5_ n6_ n7_ n8_ n9_ n10_ n11_ n12_ n13_ n14_ n15_ n16_ n17_ n18_ n19_; (try clear hb); (try clear hb2); (try clear hk); (try clear hi)) | (go_at_call 11; (with_reducible refine (waybilllaw21_num.calls t217 t269 _ A80.out).mono ?_); rintro e w' ⟨rfl, ⟨nd, rfl⟩⟩; obtain ⟨Ao193, co193, eo193⟩ := Kd.R_slice HO230.out; subst eo193; obtain ⟨Ao194, co194, eo194⟩ := Kd.R_slice HO234.out; subst eo194) | (go_at_call 16; (with_reducible refine (waybillplain_SameInts.calls k _ _ t228 _ _ t232 false _ ?side1 ?side2 ?side3 ?side4 A82.out).mono ?_); (case side1 => repeat (first | exact (Kd.R_reads' HO230.out).2.2 | (with_reducible refine Kd.C_alloc ?_ _) | (with_reducible refine Kd.C_drewN ?_ _) | (with_reducible refine Kd.C_drew ?_))); (case side2 => exact (Kd.R_reads' HO230.out).2.1); (case side3 => repeat (first | exact (Kd.R_reads' HO234.out).2.2 | (with_reducible refine Kd.C_alloc ?_ _) | (with_reducible refine Kd.C_drewN ?_ _) | (with_reducible refine Kd.C_drew ?_))); (case side4 => exact (Kd.R_reads' HO234.out).2.1); rintro e w' ⟨rfl, ⟨nd, rfl⟩⟩))
            go_meet
            case rel => exact ⟨_, (true), (by first | rfl | (simp; done) | (simp [*]; done)), H', ⟨by first | omega | exact Nat.le_refl _⟩, ⟨by (with_reducible repeat (first | apply Ra | apply Rn | apply Rd)); exact Kd.R_mono HO258.out (fun _ hk => ⟨hk.2, ⟨hk.1.1.1.2, ⟨hk.1.1.2, hk.1.2⟩⟩⟩)⟩, ⟨by (with_reducible repeat (first | apply Ra | apply Rn | apply Rd)); exact Kd.R_mono HO262.out (fun _ hk => ⟨hk.2, ⟨hk.1.1.1.2, ⟨hk.1.1.2, hk.1.2⟩⟩⟩)⟩, ⟨by (with_reducible repeat (first | apply Ra | apply Rn | apply Rd)); exact Kd.R_mono HO208.out (fun _ hk => ⟨hk.1.2, ⟨hk.2, ⟨hk.1.1.1.2, hk.1.1.2⟩⟩⟩)⟩, ⟨by (with_reducible repeat (first | apply Ra | apply Rn | apply Rd)); exact Kd.R_mono HO215.out (fun _ hk => ⟨hk.1.2, ⟨hk.2, ⟨hk.1.1.1.2, hk.1.1.2⟩⟩⟩)⟩, ⟨by (with_reducible repeat (first | apply Ra | apply Rn | apply Rd)); exact Kd.R_mono HO224.out (fun _ hk => ⟨hk.1.2, ⟨hk.2, ⟨hk.1.1.1.2, hk.1.1.2⟩⟩⟩)⟩, ⟨by (with_reducible repeat (first | refine bN ?_ _ | refine bD ?_ | refine bA ?_ _)); exact BK202.out⟩, ⟨by (with_reducible repeat (first | refine bN ?_ _ | refine bD ?_ | refine bA ?_ _)); exact BK203.out⟩, ⟨by (with_reducible repeat (first | refine bN ?_ _ | refine bD ?_ | refine bA ?_ _)); exact BK204.out⟩, ⟨by (with_reducible repeat (first | refine bN ?_ _ | refine bD ?_ | refine bA ?_ _)); exact BK209.out⟩, ⟨by (with_reducible repeat (first | refine bN ?_ _ | refine bD ?_ | refine bA ?_ _)); exact BK218.out⟩, ⟨by (with_reducible repeat (first | refine bN ?_ _ | refine bD ?_ | refine bA ?_ _)); exact BK227.out⟩, ⟨by repeat (first | (with_reducible first | exact HB.out | apply wA | apply wN | apply wD | refine bS ?_ GE202.out | refine bS ?_ GE203.out | refine bS ?_ GE204.out | refine bS ?_ GE209.out | refine bS ?_ GE218.out | refine bS ?_ GE227.out) | exact HB.out)⟩⟩
        · rw [if_neg c81] at H
          have c81b0 : (t269 == t226) = false := beq_eq_false_iff_ne.mpr c81
          have c81b1 : (t269 != t226) = true := bne_iff_ne.mpr c81
          have H' := am H
          clear H
          have hnb195 := NB218_202.out
          have hnc195 := NB202_218.out
          have hnb196 := NB218_203.out
          have hnc196 := NB203_218.out
          have hnb197 := NB218_204.out
          have hnc197 := NB204_218.out
          have hnb198 := NB218_209.out
          have hnc198 := NB209_218.out
          have hnb199 := NB218_227.out
          have hnc199 := NB227_218.out
          have hcz200_0 : w76.cell? ⟨gb218, 0, none⟩ = some (.int .i64 t212) := (blk_cell BK218.out 0).trans rfl
          have hcz200_1 : w76.cell? ⟨gb218, 1, none⟩ = some (.slice Ao43 t213.length co43) := (blk_cell BK218.out 1).trans rfl
          have hfz200_0 := blk_frozen BK218.out 0
          have hfz200_1 := blk_frozen BK218.out 1
          have hnb201 := NB227_202.out
          have hnc201 := NB202_227.out
          have hnb202 := NB227_203.out
          have hnc202 := NB203_227.out
          have hnb203 := NB227_204.out
          have hnc203 := NB204_227.out
          have hnb204 := NB227_209.out
          have hnc204 := NB209_227.out
          have hcz205_0 : w76.cell? ⟨gb227, 0, none⟩ = some (.int .i64 t221) := (blk_cell BK227.out 0).trans rfl
          have hcz205_1 : w76.cell? ⟨gb227, 1, none⟩ = some (.slice Ao58 t222.length co58) := (blk_cell BK227.out 1).trans rfl
          have hfz205_0 := blk_frozen BK227.out 0
          have hfz205_1 := blk_frozen BK227.out 1
          go_wp2_with (first | ((with_reducible refine gate_callee (f := 12) rfl ?_); refine goesL_ (some 106) rfl rfl Try.func12 (by kernel_rfl) rfl #[.agg #[.int .i64 t212, .slice Ao43 t213.length co43], .agg #[.int .i64 t221, .slice Ao58 t222.length co58]] rfl (by (try simp only [List.map_toArray, List.map_cons, List.map_nil]); first | done | rfl | (simp only [List.length_drop, List.length_take]; rfl)) ?_; (with_reducible refine (waybillref21_Same.calls k t212 _ _ t213 t221 _ _ t222 true _ ?side1 ?side2 ?side3 ?side4 A77.out).mono ?_); (case side1 => repeat (first | exact (Kd.R_reads' HO215.out).2.2 | (with_reducible refine Kd.C_alloc ?_ _) | (with_reducible refine Kd.C_drewN ?_ _) | (with_reducible refine Kd.C_drew ?_))); (case side2 => exact (Kd.R_reads' HO215.out).2.1); (case side3 => repeat (first | exact (Kd.R_reads' HO224.out).2.2 | (with_reducible refine Kd.C_alloc ?_ _) | (with_reducible refine Kd.C_drewN ?_ _) | (with_reducible refine Kd.C_drew ?_))); (case side4 => exact (Kd.R_reads' HO224.out).2.1); rintro e w206 ⟨rfl, hb⟩; refine ⟨_, rfl, ?_⟩; have n0_ := am (Kd.R_below (by (with_reducible repeat (first | apply Ra | apply Rn | apply Rd)); exact HO208.out) hb); have n1_ := am (Kd.R_below (by (with_reducible repeat (first | apply Ra | apply Rn | apply Rd)); exact HO215.out) hb); have n2_ := am (Kd.R_below (by (with_reducible repeat (first | apply Ra | apply Rn | apply Rd)); exact HO224.out) hb); have n3_ := am (Kd.R_below (by (with_reducible repeat (first | apply Ra | apply Rn | apply Rd)); exact HO230.out) hb); have n4_ := am (Kd.R_below (by (with_reducible repeat (first | apply Ra | apply Rn | apply Rd)); exact HO234.out) hb); have n5_ := am (Kd.R_below (by (with_reducible repeat (first | apply Ra | apply Rn | apply Rd)); exact HO238.out) hb); have n6_ := am (Kd.R_below (by (with_reducible repeat (first | apply Ra | apply Rn | apply Rd)); exact HO241.out) hb); have n7_ := am (Kd.R_below (by (with_reducible repeat (first | apply Ra | apply Rn | apply Rd)); exact HO244.out) hb); have n8_ := am (Kd.R_below (by (with_reducible repeat (first | apply Ra | apply Rn | apply Rd)); exact HO248.out) hb); have n9_ := am (Kd.R_below (by (with_reducible repeat (first | apply Ra | apply Rn | apply Rd)); exact HO251.out) hb); have n10_ := am (Kd.R_below (by (with_reducible repeat (first | apply Ra | apply Rn | apply Rd)); exact HO254.out) hb); have n11_ := am (Kd.R_below (by (with_reducible repeat (first | apply Ra | apply Rn | apply Rd)); exact HO258.out) hb); have n12_ := am (Kd.R_below (by (with_reducible repeat (first | apply Ra | apply Rn | apply Rd)); exact HO262.out) hb); have n13_ := am (blk_below (g := gb202) (o := .cells #[.int .i64 a0_0, .slice A0_1 l0_1.length c0_1] 24 (0, 0)) (by (with_reducible repeat (first | refine bN ?_ _ | refine bD ?_ | refine bA ?_ _)); exact BK202.out) hb); have n14_ := am (blk_below (g := gb203) (o := .cells #[.int .i64 a1_0, .slice A1_1 l1_1.length c1_1] 24 (0, 0)) (by (with_reducible repeat (first | refine bN ?_ _ | refine bD ?_ | refine bA ?_ _)); exact BK203.out) hb); have n15_ := am (blk_below (g := gb204) (o := .cells #[.int .i64 a2_0, .slice A2_1 l2_1.length c2_1] 24 (0, 0)) (by (with_reducible repeat (first | refine bN ?_ _ | refine bD ?_ | refine bA ?_ _)); exact BK204.out) hb); have n16_ := am (blk_below (g := gb209) (o := .cells #[.int .i64 t205, .slice Ao29 t206.length co29] 24 (0, 0)) (by (with_reducible repeat (first | refine bN ?_ _ | refine bD ?_ | refine bA ?_ _)); exact BK209.out) hb); have n17_ := am (blk_below (g := gb218) (o := .cells #[.int .i64 t212, .slice Ao43 t213.length co43] 24 (0, 0)) (by (with_reducible repeat (first | refine bN ?_ _ | refine bD ?_ | refine bA ?_ _)); exact BK218.out) hb); have n18_ := am (blk_below (g := gb227) (o := .cells #[.int .i64 t221, .slice Ao58 t222.length co58] 24 (0, 0)) (by (with_reducible repeat (first | refine bN ?_ _ | refine bD ?_ | refine bA ?_ _)); exact BK227.out) hb); have n19_ := am (below_step (by repeat (first | (with_reducible first | exact HB.out | apply wA | apply wN | apply wD | refine bS ?_ GE202.out | refine bS ?_ GE203.out | refine bS ?_ GE204.out | refine bS ?_ GE209.out | refine bS ?_ GE218.out | refine bS ?_ GE227.out) | exact HB.out)) hb); clear HO208; clear HO215; clear HO224; clear HO230; clear HO234; clear HO238; clear HO241; clear HO244; clear HO248; clear HO251; clear HO254; clear HO258; clear HO262; clear BK202; clear BK203; clear BK204; clear BK209; clear BK218; clear BK227; clear HB; have HO208 := n0_; have HO215 := n1_; have HO224 := n2_; have HO230 := n3_; have HO234 := n4_; have HO238 := n5_; have HO241 := n6_; have HO244 := n7_; have HO248 := n8_; have HO251 := n9_; have HO254 := n10_; have HO258 := n11_; have HO262 := n12_; have BK202 := n13_; have BK203 := n14_; have BK204 := n15_; have BK209 := n16_; have BK218 := n17_; have BK227 := n18_; have HB := n19_; clear n0_ n1_ n2_ n3_ n4_ n5_ n6_ n7_ n8_ n9_ n10_ n11_ n12_ n13_ n14_ n15_ n16_ n17_ n18_ n19_; (try clear hb); (try clear hb2); (try clear hk); (try clear hi)) | (go_at_call 11; (with_reducible refine (waybilllaw21_num.calls t217 t269 _ A80.out).mono ?_); rintro e w' ⟨rfl, ⟨nd, rfl⟩⟩))
          go_meet
          case rel => exact ⟨_, (true), (by first | rfl | (simp; done) | (simp [*]; done)), H', ⟨by first | omega | exact Nat.le_refl _⟩, ⟨by (with_reducible repeat (first | apply Ra | apply Rn | apply Rd)); exact Kd.R_mono HO258.out (fun _ hk => ⟨hk.2, ⟨hk.1.1.1.2, ⟨hk.1.1.2, hk.1.2⟩⟩⟩)⟩, ⟨by (with_reducible repeat (first | apply Ra | apply Rn | apply Rd)); exact Kd.R_mono HO262.out (fun _ hk => ⟨hk.2, ⟨hk.1.1.1.2, ⟨hk.1.1.2, hk.1.2⟩⟩⟩)⟩, ⟨by (with_reducible repeat (first | apply Ra | apply Rn | apply Rd)); exact Kd.R_mono HO208.out (fun _ hk => ⟨hk.1.2, ⟨hk.2, ⟨hk.1.1.1.2, hk.1.1.2⟩⟩⟩)⟩, ⟨by (with_reducible repeat (first | apply Ra | apply Rn | apply Rd)); exact Kd.R_mono HO215.out (fun _ hk => ⟨hk.1.2, ⟨hk.2, ⟨hk.1.1.1.2, hk.1.1.2⟩⟩⟩)⟩, ⟨by (with_reducible repeat (first | apply Ra | apply Rn | apply Rd)); exact Kd.R_mono HO224.out (fun _ hk => ⟨hk.1.2, ⟨hk.2, ⟨hk.1.1.1.2, hk.1.1.2⟩⟩⟩)⟩, ⟨by (with_reducible repeat (first | refine bN ?_ _ | refine bD ?_ | refine bA ?_ _)); exact BK202.out⟩, ⟨by (with_reducible repeat (first | refine bN ?_ _ | refine bD ?_ | refine bA ?_ _)); exact BK203.out⟩, ⟨by (with_reducible repeat (first | refine bN ?_ _ | refine bD ?_ | refine bA ?_ _)); exact BK204.out⟩, ⟨by (with_reducible repeat (first | refine bN ?_ _ | refine bD ?_ | refine bA ?_ _)); exact BK209.out⟩, ⟨by (with_reducible repeat (first | refine bN ?_ _ | refine bD ?_ | refine bA ?_ _)); exact BK218.out⟩, ⟨by (with_reducible repeat (first | refine bN ?_ _ | refine bD ?_ | refine bA ?_ _)); exact BK227.out⟩, ⟨by repeat (first | (with_reducible first | exact HB.out | apply wA | apply wN | apply wD | refine bS ?_ GE202.out | refine bS ?_ GE203.out | refine bS ?_ GE204.out | refine bS ?_ GE209.out | refine bS ?_ GE218.out | refine bS ?_ GE227.out) | exact HB.out)⟩⟩
      · rw [if_neg c79] at H
        have c79b0 : (t216 == t225) = false := beq_eq_false_iff_ne.mpr c79
        have c79b1 : (t216 != t225) = true := bne_iff_ne.mpr c79
        (first | rw [c79b0] | (simp only [i64_w, i32_w]; rw [c79b0]) | skip)
        have H' := am H
        clear H
        have hnb207 := NB218_202.out
        have hnc207 := NB202_218.out
        have hnb208 := NB218_203.out
        have hnc208 := NB203_218.out
        have hnb209 := NB218_204.out
        have hnc209 := NB204_218.out
        have hnb210 := NB218_209.out
        have hnc210 := NB209_218.out
        have hnb211 := NB218_227.out
        have hnc211 := NB227_218.out
        have hcz212_0 : w76.cell? ⟨gb218, 0, none⟩ = some (.int .i64 t212) := (blk_cell BK218.out 0).trans rfl
        have hcz212_1 : w76.cell? ⟨gb218, 1, none⟩ = some (.slice Ao43 t213.length co43) := (blk_cell BK218.out 1).trans rfl
        have hfz212_0 := blk_frozen BK218.out 0
        have hfz212_1 := blk_frozen BK218.out 1
        have hnb213 := NB227_202.out
        have hnc213 := NB202_227.out
        have hnb214 := NB227_203.out
        have hnc214 := NB203_227.out
        have hnb215 := NB227_204.out
        have hnc215 := NB204_227.out
        have hnb216 := NB227_209.out
        have hnc216 := NB209_227.out
        have hcz217_0 : w76.cell? ⟨gb227, 0, none⟩ = some (.int .i64 t221) := (blk_cell BK227.out 0).trans rfl
        have hcz217_1 : w76.cell? ⟨gb227, 1, none⟩ = some (.slice Ao58 t222.length co58) := (blk_cell BK227.out 1).trans rfl
        have hfz217_0 := blk_frozen BK227.out 0
        have hfz217_1 := blk_frozen BK227.out 1
        go_wp2_with (first | ((with_reducible refine gate_callee (f := 12) rfl ?_); refine goesL_ (some 106) rfl rfl Try.func12 (by kernel_rfl) rfl #[.agg #[.int .i64 t212, .slice Ao43 t213.length co43], .agg #[.int .i64 t221, .slice Ao58 t222.length co58]] rfl (by (try simp only [List.map_toArray, List.map_cons, List.map_nil]); first | done | rfl | (simp only [List.length_drop, List.length_take]; rfl)) ?_; (with_reducible refine (waybillref21_Same.calls k t212 _ _ t213 t221 _ _ t222 true _ ?side1 ?side2 ?side3 ?side4 A77.out).mono ?_); (case side1 => repeat (first | exact (Kd.R_reads' HO215.out).2.2 | (with_reducible refine Kd.C_alloc ?_ _) | (with_reducible refine Kd.C_drewN ?_ _) | (with_reducible refine Kd.C_drew ?_))); (case side2 => exact (Kd.R_reads' HO215.out).2.1); (case side3 => repeat (first | exact (Kd.R_reads' HO224.out).2.2 | (with_reducible refine Kd.C_alloc ?_ _) | (with_reducible refine Kd.C_drewN ?_ _) | (with_reducible refine Kd.C_drew ?_))); (case side4 => exact (Kd.R_reads' HO224.out).2.1); rintro e w218 ⟨rfl, hb⟩; refine ⟨_, rfl, ?_⟩; have n0_ := am (Kd.R_below (by (with_reducible repeat (first | apply Ra | apply Rn | apply Rd)); exact HO208.out) hb); have n1_ := am (Kd.R_below (by (with_reducible repeat (first | apply Ra | apply Rn | apply Rd)); exact HO215.out) hb); have n2_ := am (Kd.R_below (by (with_reducible repeat (first | apply Ra | apply Rn | apply Rd)); exact HO224.out) hb); have n3_ := am (Kd.R_below (by (with_reducible repeat (first | apply Ra | apply Rn | apply Rd)); exact HO230.out) hb); have n4_ := am (Kd.R_below (by (with_reducible repeat (first | apply Ra | apply Rn | apply Rd)); exact HO234.out) hb); have n5_ := am (Kd.R_below (by (with_reducible repeat (first | apply Ra | apply Rn | apply Rd)); exact HO238.out) hb); have n6_ := am (Kd.R_below (by (with_reducible repeat (first | apply Ra | apply Rn | apply Rd)); exact HO241.out) hb); have n7_ := am (Kd.R_below (by (with_reducible repeat (first | apply Ra | apply Rn | apply Rd)); exact HO244.out) hb); have n8_ := am (Kd.R_below (by (with_reducible repeat (first | apply Ra | apply Rn | apply Rd)); exact HO248.out) hb); have n9_ := am (Kd.R_below (by (with_reducible repeat (first | apply Ra | apply Rn | apply Rd)); exact HO251.out) hb); have n10_ := am (Kd.R_below (by (with_reducible repeat (first | apply Ra | apply Rn | apply Rd)); exact HO254.out) hb); have n11_ := am (Kd.R_below (by (with_reducible repeat (first | apply Ra | apply Rn | apply Rd)); exact HO258.out) hb); have n12_ := am (Kd.R_below (by (with_reducible repeat (first | apply Ra | apply Rn | apply Rd)); exact HO262.out) hb); have n13_ := am (blk_below (g := gb202) (o := .cells #[.int .i64 a0_0, .slice A0_1 l0_1.length c0_1] 24 (0, 0)) (by (with_reducible repeat (first | refine bN ?_ _ | refine bD ?_ | refine bA ?_ _)); exact BK202.out) hb); have n14_ := am (blk_below (g := gb203) (o := .cells #[.int .i64 a1_0, .slice A1_1 l1_1.length c1_1] 24 (0, 0)) (by (with_reducible repeat (first | refine bN ?_ _ | refine bD ?_ | refine bA ?_ _)); exact BK203.out) hb); have n15_ := am (blk_below (g := gb204) (o := .cells #[.int .i64 a2_0, .slice A2_1 l2_1.length c2_1] 24 (0, 0)) (by (with_reducible repeat (first | refine bN ?_ _ | refine bD ?_ | refine bA ?_ _)); exact BK204.out) hb); have n16_ := am (blk_below (g := gb209) (o := .cells #[.int .i64 t205, .slice Ao29 t206.length co29] 24 (0, 0)) (by (with_reducible repeat (first | refine bN ?_ _ | refine bD ?_ | refine bA ?_ _)); exact BK209.out) hb); have n17_ := am (blk_below (g := gb218) (o := .cells #[.int .i64 t212, .slice Ao43 t213.length co43] 24 (0, 0)) (by (with_reducible repeat (first | refine bN ?_ _ | refine bD ?_ | refine bA ?_ _)); exact BK218.out) hb); have n18_ := am (blk_below (g := gb227) (o := .cells #[.int .i64 t221, .slice Ao58 t222.length co58] 24 (0, 0)) (by (with_reducible repeat (first | refine bN ?_ _ | refine bD ?_ | refine bA ?_ _)); exact BK227.out) hb); have n19_ := am (below_step (by repeat (first | (with_reducible first | exact HB.out | apply wA | apply wN | apply wD | refine bS ?_ GE202.out | refine bS ?_ GE203.out | refine bS ?_ GE204.out | refine bS ?_ GE209.out | refine bS ?_ GE218.out | refine bS ?_ GE227.out) | exact HB.out)) hb); clear HO208; clear HO215; clear HO224; clear HO230; clear HO234; clear HO238; clear HO241; clear HO244; clear HO248; clear HO251; clear HO254; clear HO258; clear HO262; clear BK202; clear BK203; clear BK204; clear BK209; clear BK218; clear BK227; clear HB; have HO208 := n0_; have HO215 := n1_; have HO224 := n2_; have HO230 := n3_; have HO234 := n4_; have HO238 := n5_; have HO241 := n6_; have HO244 := n7_; have HO248 := n8_; have HO251 := n9_; have HO254 := n10_; have HO258 := n11_; have HO262 := n12_; have BK202 := n13_; have BK203 := n14_; have BK204 := n15_; have BK209 := n16_; have BK218 := n17_; have BK227 := n18_; have HB := n19_; clear n0_ n1_ n2_ n3_ n4_ n5_ n6_ n7_ n8_ n9_ n10_ n11_ n12_ n13_ n14_ n15_ n16_ n17_ n18_ n19_; (try clear hb); (try clear hb2); (try clear hk); (try clear hi)))
        go_meet
        case rel => exact ⟨_, (true), (by first | rfl | (simp; done) | (simp [*]; done)), H', ⟨by first | omega | exact Nat.le_refl _⟩, ⟨by (with_reducible repeat (first | apply Ra | apply Rn | apply Rd)); exact Kd.R_mono HO258.out (fun _ hk => ⟨hk.2, ⟨hk.1.1.1.2, ⟨hk.1.1.2, hk.1.2⟩⟩⟩)⟩, ⟨by (with_reducible repeat (first | apply Ra | apply Rn | apply Rd)); exact Kd.R_mono HO262.out (fun _ hk => ⟨hk.2, ⟨hk.1.1.1.2, ⟨hk.1.1.2, hk.1.2⟩⟩⟩)⟩, ⟨by (with_reducible repeat (first | apply Ra | apply Rn | apply Rd)); exact Kd.R_mono HO208.out (fun _ hk => ⟨hk.1.2, ⟨hk.2, ⟨hk.1.1.1.2, hk.1.1.2⟩⟩⟩)⟩, ⟨by (with_reducible repeat (first | apply Ra | apply Rn | apply Rd)); exact Kd.R_mono HO215.out (fun _ hk => ⟨hk.1.2, ⟨hk.2, ⟨hk.1.1.1.2, hk.1.1.2⟩⟩⟩)⟩, ⟨by (with_reducible repeat (first | apply Ra | apply Rn | apply Rd)); exact Kd.R_mono HO224.out (fun _ hk => ⟨hk.1.2, ⟨hk.2, ⟨hk.1.1.1.2, hk.1.1.2⟩⟩⟩)⟩, ⟨by (with_reducible repeat (first | refine bN ?_ _ | refine bD ?_ | refine bA ?_ _)); exact BK202.out⟩, ⟨by (with_reducible repeat (first | refine bN ?_ _ | refine bD ?_ | refine bA ?_ _)); exact BK203.out⟩, ⟨by (with_reducible repeat (first | refine bN ?_ _ | refine bD ?_ | refine bA ?_ _)); exact BK204.out⟩, ⟨by (with_reducible repeat (first | refine bN ?_ _ | refine bD ?_ | refine bA ?_ _)); exact BK209.out⟩, ⟨by (with_reducible repeat (first | refine bN ?_ _ | refine bD ?_ | refine bA ?_ _)); exact BK218.out⟩, ⟨by (with_reducible repeat (first | refine bN ?_ _ | refine bD ?_ | refine bA ?_ _)); exact BK227.out⟩, ⟨by repeat (first | (with_reducible first | exact HB.out | apply wA | apply wN | apply wD | refine bS ?_ GE202.out | refine bS ?_ GE203.out | refine bS ?_ GE204.out | refine bS ?_ GE209.out | refine bS ?_ GE218.out | refine bS ?_ GE227.out) | exact HB.out)⟩⟩
    · replace c78 := Bool.eq_false_iff.mpr c78
      subst c78
      have H1 : (waybilllaw21_ResolveTells.j0 k t256 t259 t260 t263 t264 t265 t266 t267 true a0_0 l0_1 t205 t206) = some r := by rw [if_neg (show ¬ (false = true) by decide)] at H; exact H
      clear H
      have H := H1
      clear H1
      have H' := am H
      clear H
      have hnb219 := NB218_202.out
      have hnc219 := NB202_218.out
      have hnb220 := NB218_203.out
      have hnc220 := NB203_218.out
      have hnb221 := NB218_204.out
      have hnc221 := NB204_218.out
      have hnb222 := NB218_209.out
      have hnc222 := NB209_218.out
      have hnb223 := NB218_227.out
      have hnc223 := NB227_218.out
      have hcz224_0 : w76.cell? ⟨gb218, 0, none⟩ = some (.int .i64 t212) := (blk_cell BK218.out 0).trans rfl
      have hcz224_1 : w76.cell? ⟨gb218, 1, none⟩ = some (.slice Ao43 t213.length co43) := (blk_cell BK218.out 1).trans rfl
      have hfz224_0 := blk_frozen BK218.out 0
      have hfz224_1 := blk_frozen BK218.out 1
      have hnb225 := NB227_202.out
      have hnc225 := NB202_227.out
      have hnb226 := NB227_203.out
      have hnc226 := NB203_227.out
      have hnb227 := NB227_204.out
      have hnc227 := NB204_227.out
      have hnb228 := NB227_209.out
      have hnc228 := NB209_227.out
      have hcz229_0 : w76.cell? ⟨gb227, 0, none⟩ = some (.int .i64 t221) := (blk_cell BK227.out 0).trans rfl
      have hcz229_1 : w76.cell? ⟨gb227, 1, none⟩ = some (.slice Ao58 t222.length co58) := (blk_cell BK227.out 1).trans rfl
      have hfz229_0 := blk_frozen BK227.out 0
      have hfz229_1 := blk_frozen BK227.out 1
      go_wp2_with (first | ((with_reducible refine gate_callee (f := 12) rfl ?_); refine goesL_ (some 106) rfl rfl Try.func12 (by kernel_rfl) rfl #[.agg #[.int .i64 t212, .slice Ao43 t213.length co43], .agg #[.int .i64 t221, .slice Ao58 t222.length co58]] rfl (by (try simp only [List.map_toArray, List.map_cons, List.map_nil]); first | done | rfl | (simp only [List.length_drop, List.length_take]; rfl)) ?_; (with_reducible refine (waybillref21_Same.calls k t212 _ _ t213 t221 _ _ t222 false _ ?side1 ?side2 ?side3 ?side4 A77.out).mono ?_); (case side1 => repeat (first | exact (Kd.R_reads' HO215.out).2.2 | (with_reducible refine Kd.C_alloc ?_ _) | (with_reducible refine Kd.C_drewN ?_ _) | (with_reducible refine Kd.C_drew ?_))); (case side2 => exact (Kd.R_reads' HO215.out).2.1); (case side3 => repeat (first | exact (Kd.R_reads' HO224.out).2.2 | (with_reducible refine Kd.C_alloc ?_ _) | (with_reducible refine Kd.C_drewN ?_ _) | (with_reducible refine Kd.C_drew ?_))); (case side4 => exact (Kd.R_reads' HO224.out).2.1); rintro e w230 ⟨rfl, hb⟩; refine ⟨_, rfl, ?_⟩; have n0_ := am (Kd.R_below (by (with_reducible repeat (first | apply Ra | apply Rn | apply Rd)); exact HO208.out) hb); have n1_ := am (Kd.R_below (by (with_reducible repeat (first | apply Ra | apply Rn | apply Rd)); exact HO215.out) hb); have n2_ := am (Kd.R_below (by (with_reducible repeat (first | apply Ra | apply Rn | apply Rd)); exact HO224.out) hb); have n3_ := am (Kd.R_below (by (with_reducible repeat (first | apply Ra | apply Rn | apply Rd)); exact HO230.out) hb); have n4_ := am (Kd.R_below (by (with_reducible repeat (first | apply Ra | apply Rn | apply Rd)); exact HO234.out) hb); have n5_ := am (Kd.R_below (by (with_reducible repeat (first | apply Ra | apply Rn | apply Rd)); exact HO238.out) hb); have n6_ := am (Kd.R_below (by (with_reducible repeat (first | apply Ra | apply Rn | apply Rd)); exact HO241.out) hb); have n7_ := am (Kd.R_below (by (with_reducible repeat (first | apply Ra | apply Rn | apply Rd)); exact HO244.out) hb); have n8_ := am (Kd.R_below (by (with_reducible repeat (first | apply Ra | apply Rn | apply Rd)); exact HO248.out) hb); have n9_ := am (Kd.R_below (by (with_reducible repeat (first | apply Ra | apply Rn | apply Rd)); exact HO251.out) hb); have n10_ := am (Kd.R_below (by (with_reducible repeat (first | apply Ra | apply Rn | apply Rd)); exact HO254.out) hb); have n11_ := am (Kd.R_below (by (with_reducible repeat (first | apply Ra | apply Rn | apply Rd)); exact HO258.out) hb); have n12_ := am (Kd.R_below (by (with_reducible repeat (first | apply Ra | apply Rn | apply Rd)); exact HO262.out) hb); have n13_ := am (blk_below (g := gb202) (o := .cells #[.int .i64 a0_0, .slice A0_1 l0_1.length c0_1] 24 (0, 0)) (by (with_reducible repeat (first | refine bN ?_ _ | refine bD ?_ | refine bA ?_ _)); exact BK202.out) hb); have n14_ := am (blk_below (g := gb203) (o := .cells #[.int .i64 a1_0, .slice A1_1 l1_1.length c1_1] 24 (0, 0)) (by (with_reducible repeat (first | refine bN ?_ _ | refine bD ?_ | refine bA ?_ _)); exact BK203.out) hb); have n15_ := am (blk_below (g := gb204) (o := .cells #[.int .i64 a2_0, .slice A2_1 l2_1.length c2_1] 24 (0, 0)) (by (with_reducible repeat (first | refine bN ?_ _ | refine bD ?_ | refine bA ?_ _)); exact BK204.out) hb); have n16_ := am (blk_below (g := gb209) (o := .cells #[.int .i64 t205, .slice Ao29 t206.length co29] 24 (0, 0)) (by (with_reducible repeat (first | refine bN ?_ _ | refine bD ?_ | refine bA ?_ _)); exact BK209.out) hb); have n17_ := am (blk_below (g := gb218) (o := .cells #[.int .i64 t212, .slice Ao43 t213.length co43] 24 (0, 0)) (by (with_reducible repeat (first | refine bN ?_ _ | refine bD ?_ | refine bA ?_ _)); exact BK218.out) hb); have n18_ := am (blk_below (g := gb227) (o := .cells #[.int .i64 t221, .slice Ao58 t222.length co58] 24 (0, 0)) (by (with_reducible repeat (first | refine bN ?_ _ | refine bD ?_ | refine bA ?_ _)); exact BK227.out) hb); have n19_ := am (below_step (by repeat (first | (with_reducible first | exact HB.out | apply wA | apply wN | apply wD | refine bS ?_ GE202.out | refine bS ?_ GE203.out | refine bS ?_ GE204.out | refine bS ?_ GE209.out | refine bS ?_ GE218.out | refine bS ?_ GE227.out) | exact HB.out)) hb); clear HO208; clear HO215; clear HO224; clear HO230; clear HO234; clear HO238; clear HO241; clear HO244; clear HO248; clear HO251; clear HO254; clear HO258; clear HO262; clear BK202; clear BK203; clear BK204; clear BK209; clear BK218; clear BK227; clear HB; have HO208 := n0_; have HO215 := n1_; have HO224 := n2_; have HO230 := n3_; have HO234 := n4_; have HO238 := n5_; have HO241 := n6_; have HO244 := n7_; have HO248 := n8_; have HO251 := n9_; have HO254 := n10_; have HO258 := n11_; have HO262 := n12_; have BK202 := n13_; have BK203 := n14_; have BK204 := n15_; have BK209 := n16_; have BK218 := n17_; have BK227 := n18_; have HB := n19_; clear n0_ n1_ n2_ n3_ n4_ n5_ n6_ n7_ n8_ n9_ n10_ n11_ n12_ n13_ n14_ n15_ n16_ n17_ n18_ n19_; (try clear hb); (try clear hb2); (try clear hk); (try clear hi)))
      go_meet
      case rel => exact ⟨_, (true), (by first | rfl | (simp; done) | (simp [*]; done)), H', ⟨by first | omega | exact Nat.le_refl _⟩, ⟨by (with_reducible repeat (first | apply Ra | apply Rn | apply Rd)); exact Kd.R_mono HO258.out (fun _ hk => ⟨hk.2, ⟨hk.1.1.1.2, ⟨hk.1.1.2, hk.1.2⟩⟩⟩)⟩, ⟨by (with_reducible repeat (first | apply Ra | apply Rn | apply Rd)); exact Kd.R_mono HO262.out (fun _ hk => ⟨hk.2, ⟨hk.1.1.1.2, ⟨hk.1.1.2, hk.1.2⟩⟩⟩)⟩, ⟨by (with_reducible repeat (first | apply Ra | apply Rn | apply Rd)); exact Kd.R_mono HO208.out (fun _ hk => ⟨hk.1.2, ⟨hk.2, ⟨hk.1.1.1.2, hk.1.1.2⟩⟩⟩)⟩, ⟨by (with_reducible repeat (first | apply Ra | apply Rn | apply Rd)); exact Kd.R_mono HO215.out (fun _ hk => ⟨hk.1.2, ⟨hk.2, ⟨hk.1.1.1.2, hk.1.1.2⟩⟩⟩)⟩, ⟨by (with_reducible repeat (first | apply Ra | apply Rn | apply Rd)); exact Kd.R_mono HO224.out (fun _ hk => ⟨hk.1.2, ⟨hk.2, ⟨hk.1.1.1.2, hk.1.1.2⟩⟩⟩)⟩, ⟨by (with_reducible repeat (first | refine bN ?_ _ | refine bD ?_ | refine bA ?_ _)); exact BK202.out⟩, ⟨by (with_reducible repeat (first | refine bN ?_ _ | refine bD ?_ | refine bA ?_ _)); exact BK203.out⟩, ⟨by (with_reducible repeat (first | refine bN ?_ _ | refine bD ?_ | refine bA ?_ _)); exact BK204.out⟩, ⟨by (with_reducible repeat (first | refine bN ?_ _ | refine bD ?_ | refine bA ?_ _)); exact BK209.out⟩, ⟨by (with_reducible repeat (first | refine bN ?_ _ | refine bD ?_ | refine bA ?_ _)); exact BK218.out⟩, ⟨by (with_reducible repeat (first | refine bN ?_ _ | refine bD ?_ | refine bA ?_ _)); exact BK227.out⟩, ⟨by repeat (first | (with_reducible first | exact HB.out | apply wA | apply wN | apply wD | refine bS ?_ GE202.out | refine bS ?_ GE203.out | refine bS ?_ GE204.out | refine bS ?_ GE209.out | refine bS ?_ GE218.out | refine bS ?_ GE227.out) | exact HB.out)⟩⟩
  case rest =>
    clear HC16
    try clear c1
    try clear c2
    try clear p2
    try clear c3
    try clear c4
    try clear c5
    try clear c7
    try clear c8
    try clear c9
    try clear c10
    try clear c11
    try clear c12
    try clear c13
    try clear c14
    try clear c15
    try clear c16
    try clear c17
    try clear c18
    try clear c19
    try clear c20
    try clear c21
    try clear c22
    try clear c23
    try clear c24
    try clear c25
    try clear c26
    try clear c27
    try clear c30
    try clear c38
    try clear c39
    try clear c40
    try clear c41
    try clear c52
    try clear c53
    try clear c54
    try clear c55
    try clear c56
    try clear c78
    try clear c79
    try clear c79b0
    try clear c79b1
    try clear c81
    try clear c81b0
    try clear c81b1
    try clear c83
    try clear c85
    try clear c85b0
    try clear c85b1
    try clear c87
    try clear c89
    try clear c91
    try clear c93
    try clear c94
    try clear c95
    try clear c96
    try clear c97
    try clear c99
    try clear c100
    try clear c101
    try clear c102
    try clear c113
    try clear c114
    try clear c115
    try clear c116
    try clear c117
    try clear c119
    try clear c120
    try clear c121
    try clear c122
    try clear c133
    try clear c134
    try clear c135
    try clear c136
    try clear c137
    try clear c139
    try clear c140
    try clear c141
    try clear c142
    try clear c151
    try clear c152
    try clear c153
    try clear c154
    try clear c155
    try clear c157
    try clear c158
    try clear c159
    try clear c160
    try clear c167
    try clear c168
    try clear c169
    try clear c170
    try clear c171
    try clear c173
    try clear c174
    try clear c175
    try clear c176
    try clear c181
    try clear c182
    try clear c183
    try clear c184
    try clear c185
    try clear c187
    try clear c188
    try clear c189
    try clear c190
    try clear c195
    try clear c196
    try clear c197
    try clear c198
    try clear c199
    try clear c201
    try clear c202
    try clear c203
    try clear c204
    try clear c207
    try clear c208
    try clear c209
    try clear c210
    try clear c211
    try clear c213
    try clear c214
    try clear c215
    try clear c216
    try clear c219
    try clear c220
    try clear c221
    try clear c222
    try clear c223
    try clear c225
    try clear c226
    try clear c227
    try clear c228
    try clear hcz103_0
    try clear hcz103_1
    try clear hcz118_0
    try clear hcz118_1
    try clear hcz123_0
    try clear hcz123_1
    try clear hcz138_0
    try clear hcz138_1
    try clear hcz143_0
    try clear hcz143_1
    try clear hcz156_0
    try clear hcz156_1
    try clear hcz161_0
    try clear hcz161_1
    try clear hcz172_0
    try clear hcz172_1
    try clear hcz177_0
    try clear hcz177_1
    try clear hcz186_0
    try clear hcz186_1
    try clear hcz191_0
    try clear hcz191_1
    try clear hcz200_0
    try clear hcz200_1
    try clear hcz205_0
    try clear hcz205_1
    try clear hcz212_0
    try clear hcz212_1
    try clear hcz217_0
    try clear hcz217_1
    try clear hcz224_0
    try clear hcz224_1
    try clear hcz229_0
    try clear hcz229_1
    try clear hcz22_0
    try clear hcz22_1
    try clear hcz28_0
    try clear hcz28_1
    try clear hcz31_0
    try clear hcz31_1
    try clear hcz32_0
    try clear hcz32_1
    try clear hcz42_0
    try clear hcz42_1
    try clear hcz44_0
    try clear hcz44_1
    try clear hcz45_0
    try clear hcz45_1
    try clear hcz46_0
    try clear hcz46_1
    try clear hcz57_0
    try clear hcz57_1
    try clear hcz59_0
    try clear hcz59_1
    try clear hcz61_0
    try clear hcz61_1
    try clear hcz63_0
    try clear hcz63_1
    try clear hcz64_0
    try clear hcz64_1
    try clear hcz66_0
    try clear hcz66_1
    try clear hcz67_0
    try clear hcz67_1
    try clear hcz69_0
    try clear hcz69_1
    try clear hcz71_0
    try clear hcz71_1
    try clear hcz73_0
    try clear hcz73_1
    try clear hcz75_0
    try clear hcz75_1
    try clear hcz98_0
    try clear hcz98_1
    try clear hfz103_0
    try clear hfz103_1
    try clear hfz118_0
    try clear hfz118_1
    try clear hfz123_0
    try clear hfz123_1
    try clear hfz138_0
    try clear hfz138_1
    try clear hfz143_0
    try clear hfz143_1
    try clear hfz156_0
    try clear hfz156_1
    try clear hfz161_0
    try clear hfz161_1
    try clear hfz172_0
    try clear hfz172_1
    try clear hfz177_0
    try clear hfz177_1
    try clear hfz186_0
    try clear hfz186_1
    try clear hfz191_0
    try clear hfz191_1
    try clear hfz200_0
    try clear hfz200_1
    try clear hfz205_0
    try clear hfz205_1
    try clear hfz212_0
    try clear hfz212_1
    try clear hfz217_0
    try clear hfz217_1
    try clear hfz224_0
    try clear hfz224_1
    try clear hfz229_0
    try clear hfz229_1
    try clear hfz22_0
    try clear hfz22_1
    try clear hfz28_0
    try clear hfz28_1
    try clear hfz31_0
    try clear hfz31_1
    try clear hfz32_0
    try clear hfz32_1
    try clear hfz42_0
    try clear hfz42_1
    try clear hfz44_0
    try clear hfz44_1
    try clear hfz45_0
    try clear hfz45_1
    try clear hfz46_0
    try clear hfz46_1
    try clear hfz57_0
    try clear hfz57_1
    try clear hfz59_0
    try clear hfz59_1
    try clear hfz61_0
    try clear hfz61_1
    try clear hfz63_0
    try clear hfz63_1
    try clear hfz64_0
    try clear hfz64_1
    try clear hfz66_0
    try clear hfz66_1
    try clear hfz67_0
    try clear hfz67_1
    try clear hfz69_0
    try clear hfz69_1
    try clear hfz71_0
    try clear hfz71_1
    try clear hfz73_0
    try clear hfz73_1
    try clear hfz75_0
    try clear hfz75_1
    try clear hfz98_0
    try clear hfz98_1
    obtain ⟨kq, x154_15, rfl, HA, HJ15, HO_28, HO_30, HO_210001, HO_219001, HO_228001, BK202, BK203, BK204, BK209, BK218, BK227, HB⟩ := hcut
    cases kq with
    | zero => exact absurd HA.out (by simp [waybilllaw21_ResolveTells.j0])
    | succ kj15 =>
      have H := HA.out
      clear HA
      simp only [waybilllaw21_ResolveTells.j0] at H
      by_cases c231 : x154_15 = true
      · subst c231
        have H1 : (some false) = some r := by rw [if_pos rfl] at H; exact H
        clear H
        have H := H1
        clear H1
        obtain rfl := Option.some.inj H
        cases hrt
      · replace c231 := Bool.eq_false_iff.mpr c231
        subst c231
        have H1 : ((waybillplain_SameBackends.f kj15 t256 t260).bind fun t276 => (if t276 = true then ((waybilllaw21_num.f t259).bind fun t277 => (if t277 = t263 then (if t264 = t266 then ((waybilllaw21_num.f t265).bind fun t278 => (if t278 = t267 then ((resolve_Check.f t205 t206).bind fun t279 => ((waybilllaw21_num.f t279).bind fun t280 => ((waybillref21_Check.f kj15 a0_0 l0_1).bind fun t281 => (if t280 = t281 then ((waybillref21_Same.f kj15 t205 t206 a0_0 l0_1).bind fun t282 => (if t282 = true then ((waybilllaw21_alive.f).bind fun t283 => (some t283)) else (some false))) else (some false))))) else (some false))) else (some false)) else (some false))) else (some false))) = some r := by rw [if_neg (show ¬ (false = true) by decide)] at H; exact H
        clear H
        have H := H1
        clear H1
        replace H := Option.bind_eq_some_iff.mp H
        obtain ⟨t276, A2320, H⟩ := H
        replace H : (if t276 = true then ((waybilllaw21_num.f t259).bind fun t277 => (if t277 = t263 then (if t264 = t266 then ((waybilllaw21_num.f t265).bind fun t278 => (if t278 = t267 then ((resolve_Check.f t205 t206).bind fun t279 => ((waybilllaw21_num.f t279).bind fun t280 => ((waybillref21_Check.f kj15 a0_0 l0_1).bind fun t281 => (if t280 = t281 then ((waybillref21_Same.f kj15 t205 t206 a0_0 l0_1).bind fun t282 => (if t282 = true then ((waybilllaw21_alive.f).bind fun t283 => (some t283)) else (some false))) else (some false))))) else (some false))) else (some false)) else (some false))) else (some false)) = some r := H
        have A232 := am A2320
        clear A2320
        by_cases c233 : t276 = true
        · subst c233
          have H1 : ((waybilllaw21_num.f t259).bind fun t277 => (if t277 = t263 then (if t264 = t266 then ((waybilllaw21_num.f t265).bind fun t278 => (if t278 = t267 then ((resolve_Check.f t205 t206).bind fun t279 => ((waybilllaw21_num.f t279).bind fun t280 => ((waybillref21_Check.f kj15 a0_0 l0_1).bind fun t281 => (if t280 = t281 then ((waybillref21_Same.f kj15 t205 t206 a0_0 l0_1).bind fun t282 => (if t282 = true then ((waybilllaw21_alive.f).bind fun t283 => (some t283)) else (some false))) else (some false))))) else (some false))) else (some false)) else (some false))) = some r := by rw [if_pos rfl] at H; exact H
          clear H
          have H := H1
          clear H1
          replace H := Option.bind_eq_some_iff.mp H
          obtain ⟨t277, A2340, H⟩ := H
          replace H : (if t277 = t263 then (if t264 = t266 then ((waybilllaw21_num.f t265).bind fun t278 => (if t278 = t267 then ((resolve_Check.f t205 t206).bind fun t279 => ((waybilllaw21_num.f t279).bind fun t280 => ((waybillref21_Check.f kj15 a0_0 l0_1).bind fun t281 => (if t280 = t281 then ((waybillref21_Same.f kj15 t205 t206 a0_0 l0_1).bind fun t282 => (if t282 = true then ((waybilllaw21_alive.f).bind fun t283 => (some t283)) else (some false))) else (some false))))) else (some false))) else (some false)) else (some false)) = some r := H
          have A234 := am A2340
          clear A2340
          by_cases c235 : t277 = t263
          · rw [if_pos c235] at H
            have c235b0 : (t277 == t263) = true := beq_iff_eq.mpr c235
            have c235b1 : (t277 != t263) = false := bne_eq_false_iff_eq.mpr c235
            clear c235
            by_cases c236 : t264 = t266
            · rw [if_pos c236] at H
              have c236b0 : (t264 == t266) = true := beq_iff_eq.mpr c236
              have c236b1 : (t264 != t266) = false := bne_eq_false_iff_eq.mpr c236
              clear c236
              replace H := Option.bind_eq_some_iff.mp H
              obtain ⟨t278, A2370, H⟩ := H
              replace H : (if t278 = t267 then ((resolve_Check.f t205 t206).bind fun t279 => ((waybilllaw21_num.f t279).bind fun t280 => ((waybillref21_Check.f kj15 a0_0 l0_1).bind fun t281 => (if t280 = t281 then ((waybillref21_Same.f kj15 t205 t206 a0_0 l0_1).bind fun t282 => (if t282 = true then ((waybilllaw21_alive.f).bind fun t283 => (some t283)) else (some false))) else (some false))))) else (some false)) = some r := H
              have A237 := am A2370
              clear A2370
              by_cases c238 : t278 = t267
              · rw [if_pos c238] at H
                have c238b0 : (t278 == t267) = true := beq_iff_eq.mpr c238
                have c238b1 : (t278 != t267) = false := bne_eq_false_iff_eq.mpr c238
                clear c238
                replace H := Option.bind_eq_some_iff.mp H
                obtain ⟨t279, A2390, H⟩ := H
                replace H : ((waybilllaw21_num.f t279).bind fun t280 => ((waybillref21_Check.f kj15 a0_0 l0_1).bind fun t281 => (if t280 = t281 then ((waybillref21_Same.f kj15 t205 t206 a0_0 l0_1).bind fun t282 => (if t282 = true then ((waybilllaw21_alive.f).bind fun t283 => (some t283)) else (some false))) else (some false)))) = some r := H
                have A239 := am A2390
                clear A2390
                replace H := Option.bind_eq_some_iff.mp H
                obtain ⟨t280, A2400, H⟩ := H
                replace H : ((waybillref21_Check.f kj15 a0_0 l0_1).bind fun t281 => (if t280 = t281 then ((waybillref21_Same.f kj15 t205 t206 a0_0 l0_1).bind fun t282 => (if t282 = true then ((waybilllaw21_alive.f).bind fun t283 => (some t283)) else (some false))) else (some false))) = some r := H
                have A240 := am A2400
                clear A2400
                replace H := Option.bind_eq_some_iff.mp H
                obtain ⟨t281, A2410, H⟩ := H
                replace H : (if t280 = t281 then ((waybillref21_Same.f kj15 t205 t206 a0_0 l0_1).bind fun t282 => (if t282 = true then ((waybilllaw21_alive.f).bind fun t283 => (some t283)) else (some false))) else (some false)) = some r := H
                have A241 := am A2410
                clear A2410
                by_cases c242 : t280 = t281
                · rw [if_pos c242] at H
                  have c242b0 : (t280 == t281) = true := beq_iff_eq.mpr c242
                  have c242b1 : (t280 != t281) = false := bne_eq_false_iff_eq.mpr c242
                  clear c242
                  replace H := Option.bind_eq_some_iff.mp H
                  obtain ⟨t282, A2430, H⟩ := H
                  replace H : (if t282 = true then ((waybilllaw21_alive.f).bind fun t283 => (some t283)) else (some false)) = some r := H
                  have A243 := am A2430
                  clear A2430
                  by_cases c244 : t282 = true
                  · subst c244
                    have H1 : ((waybilllaw21_alive.f).bind fun t283 => (some t283)) = some r := by rw [if_pos rfl] at H; exact H
                    clear H
                    have H := H1
                    clear H1
                    replace H := Option.bind_eq_some_iff.mp H
                    obtain ⟨t283, A2450, H⟩ := H
                    replace H : (some t283) = some r := H
                    have A245 := am A2450
                    clear A2450
                    obtain rfl := Option.some.inj H
                    simp only [Option.some.injEq, Prod.mk.injEq] at H
                    obtain ⟨rfl⟩ := H
                    try go_wp2
                    have n0_ := am (Kd.R_drew HO_28.out)
                    have n1_ := am (Kd.R_drew HO_30.out)
                    have n2_ := am (Kd.R_drew HO_210001.out)
                    have n3_ := am (Kd.R_drew HO_219001.out)
                    have n4_ := am (Kd.R_drew HO_228001.out)
                    have n5_ := am (blk_drew BK202.out)
                    have n6_ := am (blk_drew BK203.out)
                    have n7_ := am (blk_drew BK204.out)
                    have n8_ := am (blk_drew BK209.out)
                    have n9_ := am (blk_drew BK218.out)
                    have n10_ := am (blk_drew BK227.out)
                    have n11_ := am (below_drew1 HB.out)
                    clear HO_28
                    clear HO_30
                    clear HO_210001
                    clear HO_219001
                    clear HO_228001
                    clear BK202
                    clear BK203
                    clear BK204
                    clear BK209
                    clear BK218
                    clear BK227
                    clear HB
                    have HO_28 := n0_
                    have HO_30 := n1_
                    have HO_210001 := n2_
                    have HO_219001 := n3_
                    have HO_228001 := n4_
                    have BK202 := n5_
                    have BK203 := n6_
                    have BK204 := n7_
                    have BK209 := n8_
                    have BK218 := n9_
                    have BK227 := n10_
                    have HB := n11_
                    clear n0_ n1_ n2_ n3_ n4_ n5_ n6_ n7_ n8_ n9_ n10_ n11_
                    obtain ⟨Ao247, co247, eo247⟩ := Kd.R_slice HO_28.out
                    (first | subst eo247 | (injection eo247 with f1_ f2_ f3_; have f4_ := f1_.symm; have f5_ := f3_.symm; clear f1_ f2_ f3_; subst f4_; subst f5_))
                    obtain ⟨Ao248, co248, eo248⟩ := Kd.R_slice HO_30.out
                    (first | subst eo248 | (injection eo248 with f1_ f2_ f3_; have f4_ := f1_.symm; have f5_ := f3_.symm; clear f1_ f2_ f3_; subst f4_; subst f5_))
                    refine start_ (n := 37) (S := fun w' => w'.cell? ⟨gb209, 0, none⟩ = some (.int .i64 t205) ∧ w'.cell? ⟨gb209, 1, none⟩ = some (.slice Ao29 t206.length co29) ∧ w'.cell? ⟨gb202, 0, none⟩ = some (.int .i64 a0_0) ∧ w'.cell? ⟨gb202, 1, none⟩ = some (.slice A0_1 l0_1.length c0_1)) (ds := []) #[false, false, false, false, false, false, false, false, false, false, false, false, false, false, false, false, false, false, false, false, false, false, false, false, false, false, false, false, false, false, false, false, false, false, false, false, false] (by kernel_rfl) rfl rfl ⟨(blk_cell BK209.out 0).trans rfl, (blk_cell BK209.out 1).trans rfl, (blk_cell BK202.out 0).trans rfl, (blk_cell BK202.out 1).trans rfl⟩ (fun hHeld => ?_); refine with_tabW waybilllaw21_ResolveTells.tab14 waybilllaw21_ResolveTells.bits14 (fun HT_ HW_ => ?_)
                    generalize wc.drew = w246 at HO_28 HO_30 HO_210001 HO_219001 HO_228001 BK202 BK203 BK204 BK209 BK218 BK227 HB hHeld ⊢
                    refine pure_ (i := 0) (N := some 155) (v := ?_) (a' := ?_) #[true, false, false, false, false, false, false, false, false, false, false, false, false, false, false, false, false, false, false, false, false, false, false, false, false, false, false, false, false, false, false, false, false, false, false, false, false] rfl rfl (any_of HT_.out (by kernel_rfl)) (fun _ _ _ h => h) (Or.inl ⟨by rfl, ?_⟩) ?_ ?_
                    rotate_left
                    · intro w'
                      go_simp
                      with_reducible rfl
                    rotate_left
                    · simp only [Act.put, List.setIfInBounds_toArray, List.set_cons_zero, List.set_cons_succ, i64_w, i32_w]
                      rfl
                    refine pure_ (i := 1) (N := some 156) (v := ?_) (a' := ?_) #[true, true, false, false, false, false, false, false, false, false, false, false, false, false, false, false, false, false, false, false, false, false, false, false, false, false, false, false, false, false, false, false, false, false, false, false, false] rfl rfl (any_of HT_.out (by kernel_rfl)) (fun _ _ _ h => h) (Or.inl ⟨by rfl, ?_⟩) ?_ ?_
                    rotate_left
                    · intro w'
                      go_simp
                      with_reducible rfl
                    rotate_left
                    · simp only [Act.put, List.setIfInBounds_toArray, List.set_cons_zero, List.set_cons_succ, i64_w, i32_w]
                      rfl
                    refine one_ (i := 2) (N := some 157) #[true, true, true, false, false, false, false, false, false, false, false, false, false, false, false, false, false, false, false, false, false, false, false, false, false, false, false, false, false, false, false, false, false, false, false, false, false] rfl rfl (one_of HT_.out (by kernel_rfl)) (by decide) (fun K hK => ?_)
                    refine goes_ Try.func20 (by kernel_rfl) rfl #[.slice Ao247 t256.length co247, .slice Ao248 t260.length co248] (by rfl) rfl rfl (by (try simp only [List.map_toArray, List.map_cons, List.map_nil]); first | done | rfl | (simp only [List.length_drop, List.length_take]; rfl)) ?_
                    with_reducible refine (waybillplain_SameBackends.calls kj15 _ _ t256 _ _ t260 true _ ?side1 ?side2 ?side3 ?side4 A232.out).mono ?_
                    (case side1 => repeat (first | exact (Kd.R_reads' HO_28.out).2.2 | (with_reducible refine Kd.C_alloc ?_ _) | (with_reducible refine Kd.C_drewN ?_ _) | (with_reducible refine Kd.C_drew ?_)))
                    (case side2 => exact (Kd.R_reads' HO_28.out).2.1)
                    (case side3 => repeat (first | exact (Kd.R_reads' HO_30.out).2.2 | (with_reducible refine Kd.C_alloc ?_ _) | (with_reducible refine Kd.C_drewN ?_ _) | (with_reducible refine Kd.C_drew ?_)))
                    (case side4 => exact (Kd.R_reads' HO_30.out).2.1)
                    rintro e w' ⟨rfl, ⟨nd, rfl⟩⟩
                    refine ⟨_, rfl, ?_⟩
                    refine hK.out _ _ ⟨(blk_cell BK209.out 0).trans rfl, (blk_cell BK209.out 1).trans rfl, (blk_cell BK202.out 0).trans rfl, (blk_cell BK202.out 1).trans rfl⟩ (fun hHeld => ?_)
                    clear hK K
                    refine norm_ (a' := ?_) ?_ ?_
                    rotate_left
                    · show Act.put _ (some 157) _ = _
                      simp only [Act.put, List.setIfInBounds_toArray, List.set_cons_zero, List.set_cons_succ, i64_w, i32_w]
                      rfl
                    refine pure_ (i := 3) (N := some 158) (v := ?_) (a' := ?_) #[true, true, true, true, false, false, false, false, false, false, false, false, false, false, false, false, false, false, false, false, false, false, false, false, false, false, false, false, false, false, false, false, false, false, false, false, false] rfl rfl (any_of HT_.out (by kernel_rfl)) (fun _ _ _ h => h) (Or.inl ⟨by rfl, ?_⟩) ?_ ?_
                    rotate_left
                    · intro w'
                      go_simp
                      with_reducible rfl
                    rotate_left
                    · simp only [Act.put, List.setIfInBounds_toArray, List.set_cons_zero, List.set_cons_succ, i64_w, i32_w]
                      rfl
                    refine pure_ (i := 4) (N := some 159) (v := ?_) (a' := ?_) #[true, true, true, true, true, false, false, false, false, false, false, false, false, false, false, false, false, false, false, false, false, false, false, false, false, false, false, false, false, false, false, false, false, false, false, false, false] rfl rfl (any_of HT_.out (by kernel_rfl)) (fun _ _ _ h => h) (Or.inl ⟨by rfl, ?_⟩) ?_ ?_
                    rotate_left
                    · intro w'
                      go_simp
                      with_reducible rfl
                    rotate_left
                    · simp only [Act.put, List.setIfInBounds_toArray, List.set_cons_zero, List.set_cons_succ, i64_w, i32_w]
                      rfl
                    refine pure_ (i := 6) (N := some 161) (v := ?_) (a' := ?_) #[true, true, true, true, true, false, true, false, false, false, false, false, false, false, false, false, false, false, false, false, false, false, false, false, false, false, false, false, false, false, false, false, false, false, false, false, false] rfl rfl (any_of HT_.out (by kernel_rfl)) (fun _ _ _ h => h) (Or.inl ⟨by rfl, ?_⟩) ?_ ?_
                    rotate_left
                    · intro w'
                      go_simp
                      with_reducible rfl
                    rotate_left
                    · simp only [Act.put, List.setIfInBounds_toArray, List.set_cons_zero, List.set_cons_succ, i64_w, i32_w]
                      rfl
                    refine one_ (i := 5) (N := some 160) #[true, true, true, true, true, true, true, false, false, false, false, false, false, false, false, false, false, false, false, false, false, false, false, false, false, false, false, false, false, false, false, false, false, false, false, false, false] rfl rfl (one_of HT_.out (by kernel_rfl)) (by decide) (fun K hK => ?_)
                    refine goes_ Try.func11 (by kernel_rfl) rfl #[.int .i64 t259] (by rfl) rfl rfl (by (try simp only [List.map_toArray, List.map_cons, List.map_nil]); first | done | rfl | (simp only [List.length_drop, List.length_take]; rfl)) ?_
                    with_reducible refine (waybilllaw21_num.calls t259 t277 _ A234.out).mono ?_
                    rintro e w' ⟨rfl, ⟨nd, rfl⟩⟩
                    refine ⟨_, rfl, ?_⟩
                    refine hK.out _ _ ⟨(blk_cell BK209.out 0).trans rfl, (blk_cell BK209.out 1).trans rfl, (blk_cell BK202.out 0).trans rfl, (blk_cell BK202.out 1).trans rfl⟩ (fun hHeld => ?_)
                    clear hK K
                    refine norm_ (a' := ?_) ?_ ?_
                    rotate_left
                    · show Act.put _ (some 160) _ = _
                      simp only [Act.put, List.setIfInBounds_toArray, List.set_cons_zero, List.set_cons_succ, i64_w, i32_w]
                      rfl
                    refine pure_ (i := 7) (N := some 162) (v := ?_) (a' := ?_) #[true, true, true, true, true, true, true, true, false, false, false, false, false, false, false, false, false, false, false, false, false, false, false, false, false, false, false, false, false, false, false, false, false, false, false, false, false] rfl rfl (any_of HT_.out (by kernel_rfl)) (fun _ _ _ h => h) (Or.inl ⟨by rfl, ?_⟩) ?_ ?_
                    rotate_left
                    · intro w'
                      go_simp
                      with_reducible rfl
                    rotate_left
                    · simp only [Act.put, List.setIfInBounds_toArray, List.set_cons_zero, List.set_cons_succ, i64_w, i32_w]
                      rfl
                    refine pure_ (i := 8) (N := some 163) (v := ?_) (a' := ?_) #[true, true, true, true, true, true, true, true, true, false, false, false, false, false, false, false, false, false, false, false, false, false, false, false, false, false, false, false, false, false, false, false, false, false, false, false, false] rfl rfl (any_of HT_.out (by kernel_rfl)) (fun _ _ _ h => h) (Or.inl ⟨by rfl, ?_⟩) ?_ ?_
                    rotate_left
                    · intro w'
                      go_simp
                      with_reducible rfl
                    rotate_left
                    · simp only [Act.put, List.setIfInBounds_toArray, List.set_cons_zero, List.set_cons_succ, i64_w, i32_w]
                      rfl
                    refine pure_ (i := 9) (N := some 164) (v := ?_) (a' := ?_) #[true, true, true, true, true, true, true, true, true, true, false, false, false, false, false, false, false, false, false, false, false, false, false, false, false, false, false, false, false, false, false, false, false, false, false, false, false] rfl rfl (any_of HT_.out (by kernel_rfl)) (fun _ _ _ h => h) (Or.inl ⟨by rfl, ?_⟩) ?_ ?_
                    rotate_left
                    · intro w'
                      go_simp
                      with_reducible rfl
                    rotate_left
                    · simp only [Act.put, List.setIfInBounds_toArray, List.set_cons_zero, List.set_cons_succ, i64_w, i32_w]
                      rfl
                    refine pure_ (i := 10) (N := some 165) (v := ?_) (a' := ?_) #[true, true, true, true, true, true, true, true, true, true, true, false, false, false, false, false, false, false, false, false, false, false, false, false, false, false, false, false, false, false, false, false, false, false, false, false, false] rfl rfl (any_of HT_.out (by kernel_rfl)) (fun _ _ _ h => h) (Or.inl ⟨by rfl, ?_⟩) ?_ ?_
                    rotate_left
                    · intro w'
                      go_simp
                      with_reducible rfl
                    rotate_left
                    · simp only [Act.put, List.setIfInBounds_toArray, List.set_cons_zero, List.set_cons_succ, i64_w, i32_w]
                      rfl
                    refine pure_ (i := 11) (N := some 166) (v := ?_) (a' := ?_) #[true, true, true, true, true, true, true, true, true, true, true, true, false, false, false, false, false, false, false, false, false, false, false, false, false, false, false, false, false, false, false, false, false, false, false, false, false] rfl rfl (any_of HT_.out (by kernel_rfl)) (fun _ _ _ h => h) (Or.inl ⟨by rfl, ?_⟩) ?_ ?_
                    rotate_left
                    · intro w'
                      go_simp
                      with_reducible rfl
                    rotate_left
                    · simp only [Act.put, List.setIfInBounds_toArray, List.set_cons_zero, List.set_cons_succ, i64_w, i32_w]
                      rfl
                    refine pure_ (i := 12) (N := some 167) (v := ?_) (a' := ?_) #[true, true, true, true, true, true, true, true, true, true, true, true, true, false, false, false, false, false, false, false, false, false, false, false, false, false, false, false, false, false, false, false, false, false, false, false, false] rfl rfl (any_of HT_.out (by kernel_rfl)) (fun _ _ _ h => h) (Or.inl ⟨by rfl, ?_⟩) ?_ ?_
                    rotate_left
                    · intro w'
                      go_simp
                      with_reducible rfl
                    rotate_left
                    · simp only [Act.put, List.setIfInBounds_toArray, List.set_cons_zero, List.set_cons_succ, i64_w, i32_w]
                      rfl
                    refine pure_ (i := 13) (N := some 168) (v := ?_) (a' := ?_) #[true, true, true, true, true, true, true, true, true, true, true, true, true, true, false, false, false, false, false, false, false, false, false, false, false, false, false, false, false, false, false, false, false, false, false, false, false] rfl rfl (any_of HT_.out (by kernel_rfl)) (fun _ _ _ h => h) (Or.inl ⟨by rfl, ?_⟩) ?_ ?_
                    rotate_left
                    · intro w'
                      go_simp
                      with_reducible rfl
                    rotate_left
                    · simp only [Act.put, List.setIfInBounds_toArray, List.set_cons_zero, List.set_cons_succ, i64_w, i32_w]
                      rfl
                    refine pure_ (i := 14) (N := some 169) (v := ?_) (a' := ?_) #[true, true, true, true, true, true, true, true, true, true, true, true, true, true, true, false, false, false, false, false, false, false, false, false, false, false, false, false, false, false, false, false, false, false, false, false, false] rfl rfl (any_of HT_.out (by kernel_rfl)) (fun _ _ _ h => h) (Or.inl ⟨by rfl, ?_⟩) ?_ ?_
                    rotate_left
                    · intro w'
                      go_simp
                      with_reducible rfl
                    rotate_left
                    · simp only [Act.put, List.setIfInBounds_toArray, List.set_cons_zero, List.set_cons_succ, i64_w, i32_w]
                      rfl
                    refine pure_ (i := 15) (N := some 170) (v := ?_) (a' := ?_) #[true, true, true, true, true, true, true, true, true, true, true, true, true, true, true, true, false, false, false, false, false, false, false, false, false, false, false, false, false, false, false, false, false, false, false, false, false] rfl rfl (any_of HT_.out (by kernel_rfl)) (fun _ _ _ h => h) (Or.inl ⟨by rfl, ?_⟩) ?_ ?_
                    rotate_left
                    · intro w'
                      go_simp
                      with_reducible rfl
                    rotate_left
                    · simp only [Act.put, List.setIfInBounds_toArray, List.set_cons_zero, List.set_cons_succ, i64_w, i32_w]
                      rfl
                    refine pure_ (i := 17) (N := some 172) (v := ?_) (a' := ?_) #[true, true, true, true, true, true, true, true, true, true, true, true, true, true, true, true, false, true, false, false, false, false, false, false, false, false, false, false, false, false, false, false, false, false, false, false, false] rfl rfl (any_of HT_.out (by kernel_rfl)) (fun _ _ _ h => h) (Or.inl ⟨by rfl, ?_⟩) ?_ ?_
                    rotate_left
                    · intro w'
                      go_simp
                      with_reducible rfl
                    rotate_left
                    · simp only [Act.put, List.setIfInBounds_toArray, List.set_cons_zero, List.set_cons_succ, i64_w, i32_w]
                      rfl
                    refine one_ (i := 16) (N := some 171) #[true, true, true, true, true, true, true, true, true, true, true, true, true, true, true, true, true, true, false, false, false, false, false, false, false, false, false, false, false, false, false, false, false, false, false, false, false] rfl rfl (one_of HT_.out (by kernel_rfl)) (by decide) (fun K hK => ?_)
                    refine goes_ Try.func11 (by kernel_rfl) rfl #[.int .i64 t265] (by rfl) rfl rfl (by (try simp only [List.map_toArray, List.map_cons, List.map_nil]); first | done | rfl | (simp only [List.length_drop, List.length_take]; rfl)) ?_
                    with_reducible refine (waybilllaw21_num.calls t265 t278 _ A237.out).mono ?_
                    rintro e w' ⟨rfl, ⟨nd, rfl⟩⟩
                    refine ⟨_, rfl, ?_⟩
                    refine hK.out _ _ ⟨(blk_cell BK209.out 0).trans rfl, (blk_cell BK209.out 1).trans rfl, (blk_cell BK202.out 0).trans rfl, (blk_cell BK202.out 1).trans rfl⟩ (fun hHeld => ?_)
                    clear hK K
                    refine norm_ (a' := ?_) ?_ ?_
                    rotate_left
                    · show Act.put _ (some 171) _ = _
                      simp only [Act.put, List.setIfInBounds_toArray, List.set_cons_zero, List.set_cons_succ, i64_w, i32_w]
                      rfl
                    refine pure_ (i := 18) (N := some 173) (v := ?_) (a' := ?_) #[true, true, true, true, true, true, true, true, true, true, true, true, true, true, true, true, true, true, true, false, false, false, false, false, false, false, false, false, false, false, false, false, false, false, false, false, false] rfl rfl (any_of HT_.out (by kernel_rfl)) (fun _ _ _ h => h) (Or.inl ⟨by rfl, ?_⟩) ?_ ?_
                    rotate_left
                    · intro w'
                      go_simp
                      with_reducible rfl
                    rotate_left
                    · simp only [Act.put, List.setIfInBounds_toArray, List.set_cons_zero, List.set_cons_succ, i64_w, i32_w]
                      rfl
                    refine pure_ (i := 19) (N := some 174) (v := ?_) (a' := ?_) #[true, true, true, true, true, true, true, true, true, true, true, true, true, true, true, true, true, true, true, true, false, false, false, false, false, false, false, false, false, false, false, false, false, false, false, false, false] rfl rfl (any_of HT_.out (by kernel_rfl)) (fun _ _ _ h => h) (Or.inl ⟨by rfl, ?_⟩) ?_ ?_
                    rotate_left
                    · intro w'
                      go_simp
                      with_reducible rfl
                    rotate_left
                    · simp only [Act.put, List.setIfInBounds_toArray, List.set_cons_zero, List.set_cons_succ, i64_w, i32_w]
                      rfl
                    refine pure_ (i := 20) (N := some 175) (v := ?_) (a' := ?_) #[true, true, true, true, true, true, true, true, true, true, true, true, true, true, true, true, true, true, true, true, true, false, false, false, false, false, false, false, false, false, false, false, false, false, false, false, false] rfl rfl (any_of HT_.out (by kernel_rfl)) (fun _ _ _ h => h) (Or.inl ⟨by rfl, ?_⟩) ?_ ?_
                    rotate_left
                    · intro w'
                      go_simp
                      with_reducible rfl
                    rotate_left
                    · simp only [Act.put, List.setIfInBounds_toArray, List.set_cons_zero, List.set_cons_succ, i64_w, i32_w]
                      rfl
                    refine take_ (i := 21) (N := some 176) (v := ?_) (a' := ?_) #[true, true, true, true, true, true, true, true, true, true, true, true, true, true, true, true, true, true, true, true, true, true, false, false, false, false, false, false, false, false, false, false, false, false, false, false, false] rfl rfl (take_ofW HT_.out HW_.out (by kernel_rfl)) (fun _ _ _ h => h) (Or.inl ⟨by rfl, ?_⟩) hHeld ?_ ?_
                    rotate_left
                    · rintro w' ⟨s0, s1, s2, s3⟩
                      go_simp
                      with_reducible rfl
                    rotate_left
                    · simp only [Act.put, List.setIfInBounds_toArray, List.set_cons_zero, List.set_cons_succ, i64_w, i32_w]
                      rfl
                    refine take_ (i := 24) (N := some 179) (v := ?_) (a' := ?_) #[true, true, true, true, true, true, true, true, true, true, true, true, true, true, true, true, true, true, true, true, true, true, false, false, true, false, false, false, false, false, false, false, false, false, false, false, false] rfl rfl (take_ofW HT_.out HW_.out (by kernel_rfl)) (fun _ _ _ h => h) (Or.inl ⟨by rfl, ?_⟩) hHeld ?_ ?_
                    rotate_left
                    · rintro w' ⟨s0, s1, s2, s3⟩
                      go_simp
                      with_reducible rfl
                    rotate_left
                    · simp only [Act.put, List.setIfInBounds_toArray, List.set_cons_zero, List.set_cons_succ, i64_w, i32_w]
                      rfl
                    refine one_ (i := 22) (N := some 177) #[true, true, true, true, true, true, true, true, true, true, true, true, true, true, true, true, true, true, true, true, true, true, true, false, true, false, false, false, false, false, false, false, false, false, false, false, false] rfl rfl (one_of HT_.out (by kernel_rfl)) (by decide) (fun K hK => ?_)
                    refine goes_ Try.func25 (by kernel_rfl) rfl #[.agg #[.int .i64 t205, .slice Ao29 t206.length co29]] (by rfl) rfl rfl (by (try simp only [List.map_toArray, List.map_cons, List.map_nil]); first | done | rfl | (simp only [List.length_drop, List.length_take]; rfl)) ?_
                    with_reducible refine (resolve_Check.calls t205 _ _ t206 t279 _ ?side1 ?side2 A239.out).mono ?_
                    (case side1 => repeat (first | exact (Kd.R_reads' HO_210001.out).2.2 | (with_reducible refine Kd.C_alloc ?_ _) | (with_reducible refine Kd.C_drewN ?_ _) | (with_reducible refine Kd.C_drew ?_)))
                    (case side2 => exact (Kd.R_reads' HO_210001.out).2.1)
                    rintro e w249 ⟨rfl, hb⟩
                    refine ⟨_, rfl, ?_⟩
                    have n0_ := am (Kd.R_below (by (with_reducible repeat (first | apply Ra | apply Rn | apply Rd)); exact HO_28.out) hb)
                    have n1_ := am (Kd.R_below (by (with_reducible repeat (first | apply Ra | apply Rn | apply Rd)); exact HO_30.out) hb)
                    have n2_ := am (Kd.R_below (by (with_reducible repeat (first | apply Ra | apply Rn | apply Rd)); exact HO_210001.out) hb)
                    have n3_ := am (Kd.R_below (by (with_reducible repeat (first | apply Ra | apply Rn | apply Rd)); exact HO_219001.out) hb)
                    have n4_ := am (Kd.R_below (by (with_reducible repeat (first | apply Ra | apply Rn | apply Rd)); exact HO_228001.out) hb)
                    have n5_ := am (blk_below (g := gb202) (o := .cells #[.int .i64 a0_0, .slice A0_1 l0_1.length c0_1] 24 (0, 0)) (by (with_reducible repeat (first | refine bN ?_ _ | refine bD ?_ | refine bA ?_ _)); exact BK202.out) hb)
                    have n6_ := am (blk_below (g := gb203) (o := .cells #[.int .i64 a1_0, .slice A1_1 l1_1.length c1_1] 24 (0, 0)) (by (with_reducible repeat (first | refine bN ?_ _ | refine bD ?_ | refine bA ?_ _)); exact BK203.out) hb)
                    have n7_ := am (blk_below (g := gb204) (o := .cells #[.int .i64 a2_0, .slice A2_1 l2_1.length c2_1] 24 (0, 0)) (by (with_reducible repeat (first | refine bN ?_ _ | refine bD ?_ | refine bA ?_ _)); exact BK204.out) hb)
                    have n8_ := am (blk_below (g := gb209) (o := .cells #[.int .i64 t205, .slice Ao29 t206.length co29] 24 (0, 0)) (by (with_reducible repeat (first | refine bN ?_ _ | refine bD ?_ | refine bA ?_ _)); exact BK209.out) hb)
                    have n9_ := am (blk_below (g := gb218) (o := .cells #[.int .i64 t212, .slice Ao43 t213.length co43] 24 (0, 0)) (by (with_reducible repeat (first | refine bN ?_ _ | refine bD ?_ | refine bA ?_ _)); exact BK218.out) hb)
                    have n10_ := am (blk_below (g := gb227) (o := .cells #[.int .i64 t221, .slice Ao58 t222.length co58] 24 (0, 0)) (by (with_reducible repeat (first | refine bN ?_ _ | refine bD ?_ | refine bA ?_ _)); exact BK227.out) hb)
                    have n11_ := am (below_step (by repeat (first | (with_reducible first | exact HB.out | apply wA | apply wN | apply wD | refine bS ?_ GE202.out | refine bS ?_ GE203.out | refine bS ?_ GE204.out | refine bS ?_ GE209.out | refine bS ?_ GE218.out | refine bS ?_ GE227.out) | exact HB.out)) hb)
                    clear HO_28
                    clear HO_30
                    clear HO_210001
                    clear HO_219001
                    clear HO_228001
                    clear BK202
                    clear BK203
                    clear BK204
                    clear BK209
                    clear BK218
                    clear BK227
                    clear HB
                    have HO_28 := n0_
                    have HO_30 := n1_
                    have HO_210001 := n2_
                    have HO_219001 := n3_
                    have HO_228001 := n4_
                    have BK202 := n5_
                    have BK203 := n6_
                    have BK204 := n7_
                    have BK209 := n8_
                    have BK218 := n9_
                    have BK227 := n10_
                    have HB := n11_
                    clear n0_ n1_ n2_ n3_ n4_ n5_ n6_ n7_ n8_ n9_ n10_ n11_
                    (try clear hb)
                    (try clear hb2)
                    (try clear hk)
                    (try clear hi)
                    refine hK.out _ _ ⟨(blk_cell BK209.out 0).trans rfl, (blk_cell BK209.out 1).trans rfl, (blk_cell BK202.out 0).trans rfl, (blk_cell BK202.out 1).trans rfl⟩ (fun hHeld => ?_)
                    clear hK K
                    refine norm_ (a' := ?_) ?_ ?_
                    rotate_left
                    · show Act.put _ (some 177) _ = _
                      simp only [Act.put, List.setIfInBounds_toArray, List.set_cons_zero, List.set_cons_succ, i64_w, i32_w]
                      rfl
                    refine one_ (i := 23) (N := some 178) #[true, true, true, true, true, true, true, true, true, true, true, true, true, true, true, true, true, true, true, true, true, true, true, true, true, false, false, false, false, false, false, false, false, false, false, false, false] rfl rfl (one_of HT_.out (by kernel_rfl)) (by decide) (fun K hK => ?_)
                    refine goes_ Try.func11 (by kernel_rfl) rfl #[.int .i64 t279] (by rfl) rfl rfl (by (try simp only [List.map_toArray, List.map_cons, List.map_nil]); first | done | rfl | (simp only [List.length_drop, List.length_take]; rfl)) ?_
                    with_reducible refine (waybilllaw21_num.calls t279 t280 _ A240.out).mono ?_
                    rintro e w' ⟨rfl, ⟨nd, rfl⟩⟩
                    refine ⟨_, rfl, ?_⟩
                    refine hK.out _ _ ⟨(blk_cell BK209.out 0).trans rfl, (blk_cell BK209.out 1).trans rfl, (blk_cell BK202.out 0).trans rfl, (blk_cell BK202.out 1).trans rfl⟩ (fun hHeld => ?_)
                    clear hK K
                    refine norm_ (a' := ?_) ?_ ?_
                    rotate_left
                    · show Act.put _ (some 178) _ = _
                      simp only [Act.put, List.setIfInBounds_toArray, List.set_cons_zero, List.set_cons_succ, i64_w, i32_w]
                      rfl
                    refine one_ (i := 25) (N := some 180) #[true, true, true, true, true, true, true, true, true, true, true, true, true, true, true, true, true, true, true, true, true, true, true, true, true, true, false, false, false, false, false, false, false, false, false, false, false] rfl rfl (one_of HT_.out (by kernel_rfl)) (by decide) (fun K hK => ?_)
                    refine goes_ Try.func26 (by kernel_rfl) rfl #[.agg #[.int .i64 a0_0, .slice A0_1 l0_1.length c0_1]] (by rfl) rfl rfl (by (try simp only [List.map_toArray, List.map_cons, List.map_nil]); first | done | rfl | (simp only [List.length_drop, List.length_take]; rfl)) ?_
                    with_reducible refine (waybillref21_Check.calls kj15 a0_0 _ _ l0_1 t281 _ ?side1 ?side2 A241.out).mono ?_
                    (case side1 => repeat (first | exact (Kd.C_below HR0_1.out (by repeat (first | (with_reducible first | exact HB.out | apply wA | apply wN | apply wD | refine bS ?_ GE202.out | refine bS ?_ GE203.out | refine bS ?_ GE204.out | refine bS ?_ GE209.out | refine bS ?_ GE218.out | refine bS ?_ GE227.out) | exact HB.out))) | (with_reducible refine Kd.C_alloc ?_ _) | (with_reducible refine Kd.C_drewN ?_ _) | (with_reducible refine Kd.C_drew ?_)))
                    (case side2 => exact HC0_1.out)
                    rintro e w250 ⟨rfl, hb⟩
                    refine ⟨_, rfl, ?_⟩
                    have n0_ := am (Kd.R_below (by (with_reducible repeat (first | apply Ra | apply Rn | apply Rd)); exact HO_28.out) hb)
                    have n1_ := am (Kd.R_below (by (with_reducible repeat (first | apply Ra | apply Rn | apply Rd)); exact HO_30.out) hb)
                    have n2_ := am (Kd.R_below (by (with_reducible repeat (first | apply Ra | apply Rn | apply Rd)); exact HO_210001.out) hb)
                    have n3_ := am (Kd.R_below (by (with_reducible repeat (first | apply Ra | apply Rn | apply Rd)); exact HO_219001.out) hb)
                    have n4_ := am (Kd.R_below (by (with_reducible repeat (first | apply Ra | apply Rn | apply Rd)); exact HO_228001.out) hb)
                    have n5_ := am (blk_below (g := gb202) (o := .cells #[.int .i64 a0_0, .slice A0_1 l0_1.length c0_1] 24 (0, 0)) (by (with_reducible repeat (first | refine bN ?_ _ | refine bD ?_ | refine bA ?_ _)); exact BK202.out) hb)
                    have n6_ := am (blk_below (g := gb203) (o := .cells #[.int .i64 a1_0, .slice A1_1 l1_1.length c1_1] 24 (0, 0)) (by (with_reducible repeat (first | refine bN ?_ _ | refine bD ?_ | refine bA ?_ _)); exact BK203.out) hb)
                    have n7_ := am (blk_below (g := gb204) (o := .cells #[.int .i64 a2_0, .slice A2_1 l2_1.length c2_1] 24 (0, 0)) (by (with_reducible repeat (first | refine bN ?_ _ | refine bD ?_ | refine bA ?_ _)); exact BK204.out) hb)
                    have n8_ := am (blk_below (g := gb209) (o := .cells #[.int .i64 t205, .slice Ao29 t206.length co29] 24 (0, 0)) (by (with_reducible repeat (first | refine bN ?_ _ | refine bD ?_ | refine bA ?_ _)); exact BK209.out) hb)
                    have n9_ := am (blk_below (g := gb218) (o := .cells #[.int .i64 t212, .slice Ao43 t213.length co43] 24 (0, 0)) (by (with_reducible repeat (first | refine bN ?_ _ | refine bD ?_ | refine bA ?_ _)); exact BK218.out) hb)
                    have n10_ := am (blk_below (g := gb227) (o := .cells #[.int .i64 t221, .slice Ao58 t222.length co58] 24 (0, 0)) (by (with_reducible repeat (first | refine bN ?_ _ | refine bD ?_ | refine bA ?_ _)); exact BK227.out) hb)
                    have n11_ := am (below_step (by repeat (first | (with_reducible first | exact HB.out | apply wA | apply wN | apply wD | refine bS ?_ GE202.out | refine bS ?_ GE203.out | refine bS ?_ GE204.out | refine bS ?_ GE209.out | refine bS ?_ GE218.out | refine bS ?_ GE227.out) | exact HB.out)) hb)
                    clear HO_28
                    clear HO_30
                    clear HO_210001
                    clear HO_219001
                    clear HO_228001
                    clear BK202
                    clear BK203
                    clear BK204
                    clear BK209
                    clear BK218
                    clear BK227
                    clear HB
                    have HO_28 := n0_
                    have HO_30 := n1_
                    have HO_210001 := n2_
                    have HO_219001 := n3_
                    have HO_228001 := n4_
                    have BK202 := n5_
                    have BK203 := n6_
                    have BK204 := n7_
                    have BK209 := n8_
                    have BK218 := n9_
                    have BK227 := n10_
                    have HB := n11_
                    clear n0_ n1_ n2_ n3_ n4_ n5_ n6_ n7_ n8_ n9_ n10_ n11_
                    (try clear hb)
                    (try clear hb2)
                    (try clear hk)
                    (try clear hi)
                    refine hK.out _ _ ⟨(blk_cell BK209.out 0).trans rfl, (blk_cell BK209.out 1).trans rfl, (blk_cell BK202.out 0).trans rfl, (blk_cell BK202.out 1).trans rfl⟩ (fun hHeld => ?_)
                    clear hK K
                    refine norm_ (a' := ?_) ?_ ?_
                    rotate_left
                    · show Act.put _ (some 180) _ = _
                      simp only [Act.put, List.setIfInBounds_toArray, List.set_cons_zero, List.set_cons_succ, i64_w, i32_w]
                      rfl
                    refine pure_ (i := 26) (N := some 181) (v := ?_) (a' := ?_) #[true, true, true, true, true, true, true, true, true, true, true, true, true, true, true, true, true, true, true, true, true, true, true, true, true, true, true, false, false, false, false, false, false, false, false, false, false] rfl rfl (any_of HT_.out (by kernel_rfl)) (fun _ _ _ h => h) (Or.inl ⟨by rfl, ?_⟩) ?_ ?_
                    rotate_left
                    · intro w'
                      go_simp
                      with_reducible rfl
                    rotate_left
                    · simp only [Act.put, List.setIfInBounds_toArray, List.set_cons_zero, List.set_cons_succ, i64_w, i32_w]
                      rfl
                    refine pure_ (i := 27) (N := some 182) (v := ?_) (a' := ?_) #[true, true, true, true, true, true, true, true, true, true, true, true, true, true, true, true, true, true, true, true, true, true, true, true, true, true, true, true, false, false, false, false, false, false, false, false, false] rfl rfl (any_of HT_.out (by kernel_rfl)) (fun _ _ _ h => h) (Or.inl ⟨by rfl, ?_⟩) ?_ ?_
                    rotate_left
                    · intro w'
                      go_simp
                      with_reducible rfl
                    rotate_left
                    · simp only [Act.put, List.setIfInBounds_toArray, List.set_cons_zero, List.set_cons_succ, i64_w, i32_w]
                      rfl
                    refine pure_ (i := 28) (N := some 183) (v := ?_) (a' := ?_) #[true, true, true, true, true, true, true, true, true, true, true, true, true, true, true, true, true, true, true, true, true, true, true, true, true, true, true, true, true, false, false, false, false, false, false, false, false] rfl rfl (any_of HT_.out (by kernel_rfl)) (fun _ _ _ h => h) (Or.inl ⟨by rfl, ?_⟩) ?_ ?_
                    rotate_left
                    · intro w'
                      go_simp
                      with_reducible rfl
                    rotate_left
                    · simp only [Act.put, List.setIfInBounds_toArray, List.set_cons_zero, List.set_cons_succ, i64_w, i32_w]
                      rfl
                    refine take_ (i := 29) (N := some 184) (v := ?_) (a' := ?_) #[true, true, true, true, true, true, true, true, true, true, true, true, true, true, true, true, true, true, true, true, true, true, true, true, true, true, true, true, true, true, false, false, false, false, false, false, false] rfl rfl (take_ofW HT_.out HW_.out (by kernel_rfl)) (fun _ _ _ h => h) (Or.inl ⟨by rfl, ?_⟩) hHeld ?_ ?_
                    rotate_left
                    · rintro w' ⟨s0, s1, s2, s3⟩
                      go_simp
                      with_reducible rfl
                    rotate_left
                    · simp only [Act.put, List.setIfInBounds_toArray, List.set_cons_zero, List.set_cons_succ, i64_w, i32_w]
                      rfl
                    refine take_ (i := 30) (N := some 185) (v := ?_) (a' := ?_) #[true, true, true, true, true, true, true, true, true, true, true, true, true, true, true, true, true, true, true, true, true, true, true, true, true, true, true, true, true, true, true, false, false, false, false, false, false] rfl rfl (take_ofW HT_.out HW_.out (by kernel_rfl)) (fun _ _ _ h => h) (Or.inl ⟨by rfl, ?_⟩) hHeld ?_ ?_
                    rotate_left
                    · rintro w' ⟨s0, s1, s2, s3⟩
                      go_simp
                      with_reducible rfl
                    rotate_left
                    · simp only [Act.put, List.setIfInBounds_toArray, List.set_cons_zero, List.set_cons_succ, i64_w, i32_w]
                      rfl
                    refine one_ (i := 31) (N := some 186) #[true, true, true, true, true, true, true, true, true, true, true, true, true, true, true, true, true, true, true, true, true, true, true, true, true, true, true, true, true, true, true, true, false, false, false, false, false] rfl rfl (one_of HT_.out (by kernel_rfl)) (by decide) (fun K hK => ?_)
                    refine goes_ Try.func12 (by kernel_rfl) rfl #[.agg #[.int .i64 t205, .slice Ao29 t206.length co29], .agg #[.int .i64 a0_0, .slice A0_1 l0_1.length c0_1]] (by rfl) rfl rfl (by (try simp only [List.map_toArray, List.map_cons, List.map_nil]); first | done | rfl | (simp only [List.length_drop, List.length_take]; rfl)) ?_
                    with_reducible refine (waybillref21_Same.calls kj15 t205 _ _ t206 a0_0 _ _ l0_1 true _ ?side1 ?side2 ?side3 ?side4 A243.out).mono ?_
                    (case side1 => repeat (first | exact (Kd.R_reads' HO_210001.out).2.2 | (with_reducible refine Kd.C_alloc ?_ _) | (with_reducible refine Kd.C_drewN ?_ _) | (with_reducible refine Kd.C_drew ?_)))
                    (case side2 => exact (Kd.R_reads' HO_210001.out).2.1)
                    (case side3 => repeat (first | exact (Kd.C_below HR0_1.out HB.out) | (with_reducible refine Kd.C_alloc ?_ _) | (with_reducible refine Kd.C_drewN ?_ _) | (with_reducible refine Kd.C_drew ?_)))
                    (case side4 => exact HC0_1.out)
                    rintro e w251 ⟨rfl, hb⟩
                    refine ⟨_, rfl, ?_⟩
                    have n0_ := am (Kd.R_below (by (with_reducible repeat (first | apply Ra | apply Rn | apply Rd)); exact HO_28.out) hb)
                    have n1_ := am (Kd.R_below (by (with_reducible repeat (first | apply Ra | apply Rn | apply Rd)); exact HO_30.out) hb)
                    have n2_ := am (Kd.R_below (by (with_reducible repeat (first | apply Ra | apply Rn | apply Rd)); exact HO_210001.out) hb)
                    have n3_ := am (Kd.R_below (by (with_reducible repeat (first | apply Ra | apply Rn | apply Rd)); exact HO_219001.out) hb)
                    have n4_ := am (Kd.R_below (by (with_reducible repeat (first | apply Ra | apply Rn | apply Rd)); exact HO_228001.out) hb)
                    have n5_ := am (blk_below (g := gb202) (o := .cells #[.int .i64 a0_0, .slice A0_1 l0_1.length c0_1] 24 (0, 0)) (by (with_reducible repeat (first | refine bN ?_ _ | refine bD ?_ | refine bA ?_ _)); exact BK202.out) hb)
                    have n6_ := am (blk_below (g := gb203) (o := .cells #[.int .i64 a1_0, .slice A1_1 l1_1.length c1_1] 24 (0, 0)) (by (with_reducible repeat (first | refine bN ?_ _ | refine bD ?_ | refine bA ?_ _)); exact BK203.out) hb)
                    have n7_ := am (blk_below (g := gb204) (o := .cells #[.int .i64 a2_0, .slice A2_1 l2_1.length c2_1] 24 (0, 0)) (by (with_reducible repeat (first | refine bN ?_ _ | refine bD ?_ | refine bA ?_ _)); exact BK204.out) hb)
                    have n8_ := am (blk_below (g := gb209) (o := .cells #[.int .i64 t205, .slice Ao29 t206.length co29] 24 (0, 0)) (by (with_reducible repeat (first | refine bN ?_ _ | refine bD ?_ | refine bA ?_ _)); exact BK209.out) hb)
                    have n9_ := am (blk_below (g := gb218) (o := .cells #[.int .i64 t212, .slice Ao43 t213.length co43] 24 (0, 0)) (by (with_reducible repeat (first | refine bN ?_ _ | refine bD ?_ | refine bA ?_ _)); exact BK218.out) hb)
                    have n10_ := am (blk_below (g := gb227) (o := .cells #[.int .i64 t221, .slice Ao58 t222.length co58] 24 (0, 0)) (by (with_reducible repeat (first | refine bN ?_ _ | refine bD ?_ | refine bA ?_ _)); exact BK227.out) hb)
                    have n11_ := am (below_step (by repeat (first | (with_reducible first | exact HB.out | apply wA | apply wN | apply wD | refine bS ?_ GE202.out | refine bS ?_ GE203.out | refine bS ?_ GE204.out | refine bS ?_ GE209.out | refine bS ?_ GE218.out | refine bS ?_ GE227.out) | exact HB.out)) hb)
                    clear HO_28
                    clear HO_30
                    clear HO_210001
                    clear HO_219001
                    clear HO_228001
                    clear BK202
                    clear BK203
                    clear BK204
                    clear BK209
                    clear BK218
                    clear BK227
                    clear HB
                    have HO_28 := n0_
                    have HO_30 := n1_
                    have HO_210001 := n2_
                    have HO_219001 := n3_
                    have HO_228001 := n4_
                    have BK202 := n5_
                    have BK203 := n6_
                    have BK204 := n7_
                    have BK209 := n8_
                    have BK218 := n9_
                    have BK227 := n10_
                    have HB := n11_
                    clear n0_ n1_ n2_ n3_ n4_ n5_ n6_ n7_ n8_ n9_ n10_ n11_
                    (try clear hb)
                    (try clear hb2)
                    (try clear hk)
                    (try clear hi)
                    refine hK.out _ _ ⟨(blk_cell BK209.out 0).trans rfl, (blk_cell BK209.out 1).trans rfl, (blk_cell BK202.out 0).trans rfl, (blk_cell BK202.out 1).trans rfl⟩ (fun hHeld => ?_)
                    clear hK K
                    refine norm_ (a' := ?_) ?_ ?_
                    rotate_left
                    · show Act.put _ (some 186) _ = _
                      simp only [Act.put, List.setIfInBounds_toArray, List.set_cons_zero, List.set_cons_succ, i64_w, i32_w]
                      rfl
                    refine pure_ (i := 32) (N := some 187) (v := ?_) (a' := ?_) #[true, true, true, true, true, true, true, true, true, true, true, true, true, true, true, true, true, true, true, true, true, true, true, true, true, true, true, true, true, true, true, true, true, false, false, false, false] rfl rfl (any_of HT_.out (by kernel_rfl)) (fun _ _ _ h => h) (Or.inl ⟨by rfl, ?_⟩) ?_ ?_
                    rotate_left
                    · intro w'
                      go_simp
                      with_reducible rfl
                    rotate_left
                    · simp only [Act.put, List.setIfInBounds_toArray, List.set_cons_zero, List.set_cons_succ, i64_w, i32_w]
                      rfl
                    refine pure_ (i := 33) (N := some 188) (v := ?_) (a' := ?_) #[true, true, true, true, true, true, true, true, true, true, true, true, true, true, true, true, true, true, true, true, true, true, true, true, true, true, true, true, true, true, true, true, true, true, false, false, false] rfl rfl (any_of HT_.out (by kernel_rfl)) (fun _ _ _ h => h) (Or.inl ⟨by rfl, ?_⟩) ?_ ?_
                    rotate_left
                    · intro w'
                      go_simp
                      with_reducible rfl
                    rotate_left
                    · simp only [Act.put, List.setIfInBounds_toArray, List.set_cons_zero, List.set_cons_succ, i64_w, i32_w]
                      rfl
                    refine one_ (i := 34) (N := some 189) #[true, true, true, true, true, true, true, true, true, true, true, true, true, true, true, true, true, true, true, true, true, true, true, true, true, true, true, true, true, true, true, true, true, true, true, false, false] rfl rfl (one_of HT_.out (by kernel_rfl)) (by decide) (fun K hK => ?_)
                    refine goes_ Try.func9 (by kernel_rfl) rfl #[] (by rfl) rfl rfl (by (try simp only [List.map_toArray, List.map_cons, List.map_nil]); first | done | rfl | (simp only [List.length_drop, List.length_take]; rfl)) ?_
                    with_reducible refine (waybilllaw21_alive.calls  t283 _ A245.out).mono ?_
                    rintro e w252 ⟨rfl, hb⟩
                    refine ⟨_, rfl, ?_⟩
                    have n0_ := am (Kd.R_below (by (with_reducible repeat (first | apply Ra | apply Rn | apply Rd)); exact HO_28.out) hb)
                    have n1_ := am (Kd.R_below (by (with_reducible repeat (first | apply Ra | apply Rn | apply Rd)); exact HO_30.out) hb)
                    have n2_ := am (Kd.R_below (by (with_reducible repeat (first | apply Ra | apply Rn | apply Rd)); exact HO_210001.out) hb)
                    have n3_ := am (Kd.R_below (by (with_reducible repeat (first | apply Ra | apply Rn | apply Rd)); exact HO_219001.out) hb)
                    have n4_ := am (Kd.R_below (by (with_reducible repeat (first | apply Ra | apply Rn | apply Rd)); exact HO_228001.out) hb)
                    have n5_ := am (blk_below (g := gb202) (o := .cells #[.int .i64 a0_0, .slice A0_1 l0_1.length c0_1] 24 (0, 0)) (by (with_reducible repeat (first | refine bN ?_ _ | refine bD ?_ | refine bA ?_ _)); exact BK202.out) hb)
                    have n6_ := am (blk_below (g := gb203) (o := .cells #[.int .i64 a1_0, .slice A1_1 l1_1.length c1_1] 24 (0, 0)) (by (with_reducible repeat (first | refine bN ?_ _ | refine bD ?_ | refine bA ?_ _)); exact BK203.out) hb)
                    have n7_ := am (blk_below (g := gb204) (o := .cells #[.int .i64 a2_0, .slice A2_1 l2_1.length c2_1] 24 (0, 0)) (by (with_reducible repeat (first | refine bN ?_ _ | refine bD ?_ | refine bA ?_ _)); exact BK204.out) hb)
                    have n8_ := am (blk_below (g := gb209) (o := .cells #[.int .i64 t205, .slice Ao29 t206.length co29] 24 (0, 0)) (by (with_reducible repeat (first | refine bN ?_ _ | refine bD ?_ | refine bA ?_ _)); exact BK209.out) hb)
                    have n9_ := am (blk_below (g := gb218) (o := .cells #[.int .i64 t212, .slice Ao43 t213.length co43] 24 (0, 0)) (by (with_reducible repeat (first | refine bN ?_ _ | refine bD ?_ | refine bA ?_ _)); exact BK218.out) hb)
                    have n10_ := am (blk_below (g := gb227) (o := .cells #[.int .i64 t221, .slice Ao58 t222.length co58] 24 (0, 0)) (by (with_reducible repeat (first | refine bN ?_ _ | refine bD ?_ | refine bA ?_ _)); exact BK227.out) hb)
                    have n11_ := am (below_step (by repeat (first | (with_reducible first | exact HB.out | apply wA | apply wN | apply wD | refine bS ?_ GE202.out | refine bS ?_ GE203.out | refine bS ?_ GE204.out | refine bS ?_ GE209.out | refine bS ?_ GE218.out | refine bS ?_ GE227.out) | exact HB.out)) hb)
                    clear HO_28
                    clear HO_30
                    clear HO_210001
                    clear HO_219001
                    clear HO_228001
                    clear BK202
                    clear BK203
                    clear BK204
                    clear BK209
                    clear BK218
                    clear BK227
                    clear HB
                    have HO_28 := n0_
                    have HO_30 := n1_
                    have HO_210001 := n2_
                    have HO_219001 := n3_
                    have HO_228001 := n4_
                    have BK202 := n5_
                    have BK203 := n6_
                    have BK204 := n7_
                    have BK209 := n8_
                    have BK218 := n9_
                    have BK227 := n10_
                    have HB := n11_
                    clear n0_ n1_ n2_ n3_ n4_ n5_ n6_ n7_ n8_ n9_ n10_ n11_
                    (try clear hb)
                    (try clear hb2)
                    (try clear hk)
                    (try clear hi)
                    refine hK.out _ _ ⟨(blk_cell BK209.out 0).trans rfl, (blk_cell BK209.out 1).trans rfl, (blk_cell BK202.out 0).trans rfl, (blk_cell BK202.out 1).trans rfl⟩ (fun hHeld => ?_)
                    clear hK K
                    refine norm_ (a' := ?_) ?_ ?_
                    rotate_left
                    · show Act.put _ (some 189) _ = _
                      simp only [Act.put, List.setIfInBounds_toArray, List.set_cons_zero, List.set_cons_succ, i64_w, i32_w]
                      rfl
                    refine pure_ (i := 35) (N := some 190) (v := ?_) (a' := ?_) #[true, true, true, true, true, true, true, true, true, true, true, true, true, true, true, true, true, true, true, true, true, true, true, true, true, true, true, true, true, true, true, true, true, true, true, true, false] rfl rfl (any_of HT_.out (by kernel_rfl)) (fun _ _ _ h => h) (Or.inl ⟨by rfl, ?_⟩) ?_ ?_
                    rotate_left
                    · intro w'
                      go_simp
                      with_reducible rfl
                    rotate_left
                    · simp only [Act.put, List.setIfInBounds_toArray, List.set_cons_zero, List.set_cons_succ, i64_w, i32_w]
                      rfl
                    refine pure_ (i := 36) (N := some 8) (v := ?_) (a' := ?_) #[true, true, true, true, true, true, true, true, true, true, true, true, true, true, true, true, true, true, true, true, true, true, true, true, true, true, true, true, true, true, true, true, true, true, true, true, true] rfl rfl (any_of HT_.out (by kernel_rfl)) (fun _ _ _ h => h) (Or.inl ⟨by rfl, ?_⟩) ?_ ?_
                    rotate_left
                    · intro w'
                      go_simp
                      with_reducible rfl
                    rotate_left
                    · simp only [Act.put, List.setIfInBounds_toArray, List.set_cons_zero, List.set_cons_succ, i64_w, i32_w]
                      rfl
                    refine done_ (done_of HT_.out (by kernel_rfl)) ?_
                    try go_wp2
                    go_ret
                    exact ⟨by first | rfl | (simp [errW_none, errW_some] <;> rfl) | (simp [*, errW_none, errW_some] <;> rfl), by repeat (first | (with_reducible first | exact HB.out | apply wA | apply wN | apply wD | refine bS ?_ GE202.out | refine bS ?_ GE203.out | refine bS ?_ GE204.out | refine bS ?_ GE209.out | refine bS ?_ GE218.out | refine bS ?_ GE227.out) | exact HB.out)⟩
                  · replace c244 := Bool.eq_false_iff.mpr c244
                    subst c244
                    have H1 : (some false) = some r := by rw [if_neg (show ¬ (false = true) by decide)] at H; exact H
                    clear H
                    have H := H1
                    clear H1
                    obtain rfl := Option.some.inj H
                    cases hrt
                · rw [if_neg c242] at H
                  have c242b0 : (t280 == t281) = false := beq_eq_false_iff_ne.mpr c242
                  have c242b1 : (t280 != t281) = true := bne_iff_ne.mpr c242
                  obtain rfl := Option.some.inj H
                  cases hrt
              · rw [if_neg c238] at H
                have c238b0 : (t278 == t267) = false := beq_eq_false_iff_ne.mpr c238
                have c238b1 : (t278 != t267) = true := bne_iff_ne.mpr c238
                obtain rfl := Option.some.inj H
                cases hrt
            · rw [if_neg c236] at H
              have c236b0 : (t264 == t266) = false := beq_eq_false_iff_ne.mpr c236
              have c236b1 : (t264 != t266) = true := bne_iff_ne.mpr c236
              obtain rfl := Option.some.inj H
              cases hrt
          · rw [if_neg c235] at H
            have c235b0 : (t277 == t263) = false := beq_eq_false_iff_ne.mpr c235
            have c235b1 : (t277 != t263) = true := bne_iff_ne.mpr c235
            obtain rfl := Option.some.inj H
            cases hrt
        · replace c233 := Bool.eq_false_iff.mpr c233
          subst c233
          have H1 : (some false) = some r := by rw [if_neg (show ¬ (false = true) by decide)] at H; exact H
          clear H
          have H := H1
          clear H1
          obtain rfl := Option.some.inj H
          cases hrt

end Go.Proofs.Ytaidadofkbagkaa.G
