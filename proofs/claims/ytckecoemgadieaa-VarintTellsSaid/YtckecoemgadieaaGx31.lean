-- Made by wip/tools/xprint.py (over the kit's print program) for this claim.
import Derived.Test.YtckecoemgadieaaGx0
import Derived.Test.YtckecoemgadieaaGx2
import Derived.Test.YtckecoemgadieaaGx4
import Derived.Test.YtckecoemgadieaaGx5
import Derived.Test.YtckecoemgadieaaGx6
import Derived.Test.YtckecoemgadieaaGx7
import Derived.Test.YtckecoemgadieaaGx9
import Derived.Test.YtckecoemgadieaaGx10
import Derived.Test.YtckecoemgadieaaGx12
import Derived.Test.YtckecoemgadieaaGx15
import Derived.Test.YtckecoemgadieaaGx18
import Derived.Test.YtckecoemgadieaaGx19
import Derived.Test.YtckecoemgadieaaGx21
import Derived.Test.YtckecoemgadieaaGx26
import Derived.Test.YtckecoemgadieaaGx27
import Derived.Test.YtckecoemgadieaaGx28
import Derived.Test.YtckecoemgadieaaGx29
import Derived.Test.YtckecoemgadieaaGx30
namespace Go.Proofs.Ytckecoemgadieaa.G
open WB Go.RowKit Go.Proofs.YtckecoemgadieaaW.PrintWords Go.Proofs.YtckecoemgadieaaW.PrintLast Go.Proofs.YtckecoemgadieaaW.PrintMore
attribute [local go_sem] max2_int min2_int max_two min_two max_three min_three max_four min_four   -- for this text's walks alone
set_option linter.unusedVariables false
set_option linter.unusedSimpArgs false

/-! ### waybilllaw01_VarintTells: function 8 -/
def waybilllaw01_VarintTells.j0 : Nat → List Int → Int → Int → List Int → Bool → Option (Bool)
  | 0, _, _, _, _, _ => none
  | k + 1, x0, x1, x2, x11, x94 => if x94 = true then (some false) else ((varint_Put.f k x11 (([x1, x2] : List Int))).bind fun t317 => ((waybillref01_Put.f k x0 x1).bind fun t320 => ((waybillref01_Put.f k t320 x2).bind fun t323 => ((waybillplain_SameBytes.f t317 t323).bind fun t326 => (if t326 = true then ((waybillplain_SameBytes.f x11 x0).bind fun t327 => (if t327 = true then ((waybilllaw01_alive.f k).bind fun t328 => (some t328)) else (some false))) else (some false))))))
def waybilllaw01_VarintTells.f (k : Nat) (l0 : List Int) (a1 : Int) (a2 : Int) (a3 : Int) (a4 : Int) : Option (Bool) := (waybillplain_CopyBytes.f l0).bind fun t288 => ((varint_Get.f t288 a3).bind fun bt291 => ((waybillref01_Get.f l0 a3).bind fun bt294 => ((varint_All.f k t288).bind fun bt297 => ((waybillref01_All.f k l0).bind fun bt301 => (if bt291.1 = bt294.1 then (if bt291.2.1 = bt294.2.1 then ((waybilllaw01_num.f bt291.2.2).bind fun t305 => (if t305 = bt294.2.2 then ((waybillplain_SameNumbers.f k bt297.1 bt301.1).bind fun t306 => (if t306 = true then ((waybilllaw01_num.f bt297.2).bind fun t307 => (if t307 = bt301.2 then ((varint_Size.f k a1).bind fun t308 => ((waybillref01_Size.f k a1).bind fun t309 => (if t308 = t309 then ((varint_Zig.f a4).bind fun t310 => ((waybillref01_Zig.f a4).bind fun t311 => (if t310 = t311 then ((varint_Zag.f a1).bind fun t312 => ((waybillref01_Zag.f a1).bind fun t313 => (waybilllaw01_VarintTells.j0 k l0 a1 a2 t288 (t312 != t313)))) else (waybilllaw01_VarintTells.j0 k l0 a1 a2 t288 true)))) else (waybilllaw01_VarintTells.j0 k l0 a1 a2 t288 true)))) else (waybilllaw01_VarintTells.j0 k l0 a1 a2 t288 true))) else (waybilllaw01_VarintTells.j0 k l0 a1 a2 t288 true))) else (waybilllaw01_VarintTells.j0 k l0 a1 a2 t288 true))) else (waybilllaw01_VarintTells.j0 k l0 a1 a2 t288 true)) else (waybilllaw01_VarintTells.j0 k l0 a1 a2 t288 true))))))
theorem waybilllaw01_VarintTells.mono_l : ∀ k, (∀ y0 y1 y2 y3 y4, LeO (waybilllaw01_VarintTells.j0 k y0 y1 y2 y3 y4) (waybilllaw01_VarintTells.j0 (k + 1) y0 y1 y2 y3 y4))
  | 0 => fun _ _ _ _ _ r h => by simp [waybilllaw01_VarintTells.j0] at h
  | k + 1 => by
    have ih0 := waybilllaw01_VarintTells.mono_l k
    · intro y0 y1 y2 y3 y4
      unfold waybilllaw01_VarintTells.j0
      repeat' first
      | (with_reducible exact ih0 _ _ _ _ _)
      | (with_reducible exact varint_All.mono _ _)
      | (with_reducible exact varint_Put.mono _ _ _)
      | (with_reducible exact varint_Size.mono _ _)
      | (with_reducible exact waybilllaw01_alive.mono _)
      | (with_reducible exact waybillplain_SameNumbers.mono _ _ _)
      | (with_reducible exact waybillref01_All.mono _ _)
      | (with_reducible exact waybillref01_Put.mono _ _ _)
      | (with_reducible exact waybillref01_Size.mono _ _)
      | (with_reducible exact LeO.refl _)
      | (with_reducible exact LeO.none _)
      | (with_reducible refine LeO.ite ?_ ?_)
      | (with_reducible refine LeO.bind ?_ (fun _ => ?_))
      | exact ih0 _ _ _ _ _
      | exact varint_All.mono _ _
      | exact varint_Put.mono _ _ _
      | exact varint_Size.mono _ _
      | exact waybilllaw01_alive.mono _
      | exact waybillplain_SameNumbers.mono _ _ _
      | exact waybillref01_All.mono _ _
      | exact waybillref01_Put.mono _ _ _
      | exact waybillref01_Size.mono _ _
      | exact LeO.none _
      | refine LeO.ite ?_ ?_
      | refine LeO.bind ?_ (fun _ => ?_)
theorem waybilllaw01_VarintTells.mono : ∀ a0 a1 a2 a3 a4 k, LeO (waybilllaw01_VarintTells.f k a0 a1 a2 a3 a4) (waybilllaw01_VarintTells.f (k + 1) a0 a1 a2 a3 a4) := by
  intro a0 a1 a2 a3 a4 k
  have ih0 := waybilllaw01_VarintTells.mono_l k
  unfold waybilllaw01_VarintTells.f
  repeat' first
      | (with_reducible exact ih0 _ _ _ _ _)
      | (with_reducible exact varint_All.mono _ _)
      | (with_reducible exact varint_Put.mono _ _ _)
      | (with_reducible exact varint_Size.mono _ _)
      | (with_reducible exact waybilllaw01_alive.mono _)
      | (with_reducible exact waybillplain_SameNumbers.mono _ _ _)
      | (with_reducible exact waybillref01_All.mono _ _)
      | (with_reducible exact waybillref01_Put.mono _ _ _)
      | (with_reducible exact waybillref01_Size.mono _ _)
      | (with_reducible exact LeO.refl _)
      | (with_reducible exact LeO.none _)
      | (with_reducible refine LeO.ite ?_ ?_)
      | (with_reducible refine LeO.bind ?_ (fun _ => ?_))
      | exact ih0 _ _ _ _ _
      | exact varint_All.mono _ _
      | exact varint_Put.mono _ _ _
      | exact varint_Size.mono _ _
      | exact waybilllaw01_alive.mono _
      | exact waybillplain_SameNumbers.mono _ _ _
      | exact waybillref01_All.mono _ _
      | exact waybillref01_Put.mono _ _ _
      | exact waybillref01_Size.mono _ _
      | exact LeO.none _
      | refine LeO.ite ?_ ?_
      | refine LeO.bind ?_ (fun _ => ?_)
set_option maxHeartbeats 8000000 in
set_option maxRecDepth 100000 in
theorem waybilllaw01_VarintTells.calls (k : Nat) (A0 : Option Addr) (c0 : Nat) (l0 : List Int) (a1 : Int) (a2 : Int) (a3 : Int) (a4 : Int) (r : Bool) (w : World) (hr0 : Kd.C (Kd.int .u8) w A0 l0.length l0) (hc0 : l0.length ≤ c0) (h : waybilllaw01_VarintTells.f k l0 a1 a2 a3 a4 = some r) :
    Calls Try.prog 8 #[.slice A0 l0.length c0, .int .u64 a1, .int .u64 a2, .int .i64 a3, .int .i64 a4] w fun e w' => e = .returned (.bool r) ∧ Below w.heap.size w w' := by
  have HR0 := Aside0.mk hr0
  have HC0 := Aside0.mk hc0
  clear hr0 hc0
  have HB := Aside0.mk (Below.refl w.heap.size w)
  have H : ((waybillplain_CopyBytes.f l0).bind fun t288 => ((varint_Get.f t288 a3).bind fun bt291 => ((waybillref01_Get.f l0 a3).bind fun bt294 => ((varint_All.f k t288).bind fun bt297 => ((waybillref01_All.f k l0).bind fun bt301 => (if bt291.1 = bt294.1 then (if bt291.2.1 = bt294.2.1 then ((waybilllaw01_num.f bt291.2.2).bind fun t305 => (if t305 = bt294.2.2 then ((waybillplain_SameNumbers.f k bt297.1 bt301.1).bind fun t306 => (if t306 = true then ((waybilllaw01_num.f bt297.2).bind fun t307 => (if t307 = bt301.2 then ((varint_Size.f k a1).bind fun t308 => ((waybillref01_Size.f k a1).bind fun t309 => (if t308 = t309 then ((varint_Zig.f a4).bind fun t310 => ((waybillref01_Zig.f a4).bind fun t311 => (if t310 = t311 then ((varint_Zag.f a1).bind fun t312 => ((waybillref01_Zag.f a1).bind fun t313 => (waybilllaw01_VarintTells.j0 k l0 a1 a2 t288 (t312 != t313)))) else (waybilllaw01_VarintTells.j0 k l0 a1 a2 t288 true)))) else (waybilllaw01_VarintTells.j0 k l0 a1 a2 t288 true)))) else (waybilllaw01_VarintTells.j0 k l0 a1 a2 t288 true))) else (waybilllaw01_VarintTells.j0 k l0 a1 a2 t288 true))) else (waybilllaw01_VarintTells.j0 k l0 a1 a2 t288 true))) else (waybilllaw01_VarintTells.j0 k l0 a1 a2 t288 true)) else (waybilllaw01_VarintTells.j0 k l0 a1 a2 t288 true))))))) = some r := h
  clear h
  replace H := Option.bind_eq_some_iff.mp H
  obtain ⟨t288, A60, H⟩ := H
  replace H : ((varint_Get.f t288 a3).bind fun bt291 => ((waybillref01_Get.f l0 a3).bind fun bt294 => ((varint_All.f k t288).bind fun bt297 => ((waybillref01_All.f k l0).bind fun bt301 => (if bt291.1 = bt294.1 then (if bt291.2.1 = bt294.2.1 then ((waybilllaw01_num.f bt291.2.2).bind fun t305 => (if t305 = bt294.2.2 then ((waybillplain_SameNumbers.f k bt297.1 bt301.1).bind fun t306 => (if t306 = true then ((waybilllaw01_num.f bt297.2).bind fun t307 => (if t307 = bt301.2 then ((varint_Size.f k a1).bind fun t308 => ((waybillref01_Size.f k a1).bind fun t309 => (if t308 = t309 then ((varint_Zig.f a4).bind fun t310 => ((waybillref01_Zig.f a4).bind fun t311 => (if t310 = t311 then ((varint_Zag.f a1).bind fun t312 => ((waybillref01_Zag.f a1).bind fun t313 => (waybilllaw01_VarintTells.j0 k l0 a1 a2 t288 (t312 != t313)))) else (waybilllaw01_VarintTells.j0 k l0 a1 a2 t288 true)))) else (waybilllaw01_VarintTells.j0 k l0 a1 a2 t288 true)))) else (waybilllaw01_VarintTells.j0 k l0 a1 a2 t288 true))) else (waybilllaw01_VarintTells.j0 k l0 a1 a2 t288 true))) else (waybilllaw01_VarintTells.j0 k l0 a1 a2 t288 true))) else (waybilllaw01_VarintTells.j0 k l0 a1 a2 t288 true)) else (waybilllaw01_VarintTells.j0 k l0 a1 a2 t288 true)))))) = some r := H
  have A6 := Aside0.mk A60
  clear A60
  replace H := Option.bind_eq_some_iff.mp H
  obtain ⟨⟨t291, t292, t293⟩, A70, H⟩ := H
  replace H : ((waybillref01_Get.f l0 a3).bind fun bt294 => ((varint_All.f k t288).bind fun bt297 => ((waybillref01_All.f k l0).bind fun bt301 => (if t291 = bt294.1 then (if t292 = bt294.2.1 then ((waybilllaw01_num.f t293).bind fun t305 => (if t305 = bt294.2.2 then ((waybillplain_SameNumbers.f k bt297.1 bt301.1).bind fun t306 => (if t306 = true then ((waybilllaw01_num.f bt297.2).bind fun t307 => (if t307 = bt301.2 then ((varint_Size.f k a1).bind fun t308 => ((waybillref01_Size.f k a1).bind fun t309 => (if t308 = t309 then ((varint_Zig.f a4).bind fun t310 => ((waybillref01_Zig.f a4).bind fun t311 => (if t310 = t311 then ((varint_Zag.f a1).bind fun t312 => ((waybillref01_Zag.f a1).bind fun t313 => (waybilllaw01_VarintTells.j0 k l0 a1 a2 t288 (t312 != t313)))) else (waybilllaw01_VarintTells.j0 k l0 a1 a2 t288 true)))) else (waybilllaw01_VarintTells.j0 k l0 a1 a2 t288 true)))) else (waybilllaw01_VarintTells.j0 k l0 a1 a2 t288 true))) else (waybilllaw01_VarintTells.j0 k l0 a1 a2 t288 true))) else (waybilllaw01_VarintTells.j0 k l0 a1 a2 t288 true))) else (waybilllaw01_VarintTells.j0 k l0 a1 a2 t288 true)) else (waybilllaw01_VarintTells.j0 k l0 a1 a2 t288 true))))) = some r := H
  have A7 := Aside0.mk A70
  clear A70
  replace H := Option.bind_eq_some_iff.mp H
  obtain ⟨⟨t294, t295, t296⟩, A80, H⟩ := H
  replace H : ((varint_All.f k t288).bind fun bt297 => ((waybillref01_All.f k l0).bind fun bt301 => (if t291 = t294 then (if t292 = t295 then ((waybilllaw01_num.f t293).bind fun t305 => (if t305 = t296 then ((waybillplain_SameNumbers.f k bt297.1 bt301.1).bind fun t306 => (if t306 = true then ((waybilllaw01_num.f bt297.2).bind fun t307 => (if t307 = bt301.2 then ((varint_Size.f k a1).bind fun t308 => ((waybillref01_Size.f k a1).bind fun t309 => (if t308 = t309 then ((varint_Zig.f a4).bind fun t310 => ((waybillref01_Zig.f a4).bind fun t311 => (if t310 = t311 then ((varint_Zag.f a1).bind fun t312 => ((waybillref01_Zag.f a1).bind fun t313 => (waybilllaw01_VarintTells.j0 k l0 a1 a2 t288 (t312 != t313)))) else (waybilllaw01_VarintTells.j0 k l0 a1 a2 t288 true)))) else (waybilllaw01_VarintTells.j0 k l0 a1 a2 t288 true)))) else (waybilllaw01_VarintTells.j0 k l0 a1 a2 t288 true))) else (waybilllaw01_VarintTells.j0 k l0 a1 a2 t288 true))) else (waybilllaw01_VarintTells.j0 k l0 a1 a2 t288 true))) else (waybilllaw01_VarintTells.j0 k l0 a1 a2 t288 true)) else (waybilllaw01_VarintTells.j0 k l0 a1 a2 t288 true)))) = some r := H
  have A8 := Aside0.mk A80
  clear A80
  replace H := Option.bind_eq_some_iff.mp H
  obtain ⟨⟨t297, t298⟩, A90, H⟩ := H
  replace H : ((waybillref01_All.f k l0).bind fun bt301 => (if t291 = t294 then (if t292 = t295 then ((waybilllaw01_num.f t293).bind fun t305 => (if t305 = t296 then ((waybillplain_SameNumbers.f k t297 bt301.1).bind fun t306 => (if t306 = true then ((waybilllaw01_num.f t298).bind fun t307 => (if t307 = bt301.2 then ((varint_Size.f k a1).bind fun t308 => ((waybillref01_Size.f k a1).bind fun t309 => (if t308 = t309 then ((varint_Zig.f a4).bind fun t310 => ((waybillref01_Zig.f a4).bind fun t311 => (if t310 = t311 then ((varint_Zag.f a1).bind fun t312 => ((waybillref01_Zag.f a1).bind fun t313 => (waybilllaw01_VarintTells.j0 k l0 a1 a2 t288 (t312 != t313)))) else (waybilllaw01_VarintTells.j0 k l0 a1 a2 t288 true)))) else (waybilllaw01_VarintTells.j0 k l0 a1 a2 t288 true)))) else (waybilllaw01_VarintTells.j0 k l0 a1 a2 t288 true))) else (waybilllaw01_VarintTells.j0 k l0 a1 a2 t288 true))) else (waybilllaw01_VarintTells.j0 k l0 a1 a2 t288 true))) else (waybilllaw01_VarintTells.j0 k l0 a1 a2 t288 true)) else (waybilllaw01_VarintTells.j0 k l0 a1 a2 t288 true))) = some r := H
  have A9 := Aside0.mk A90
  clear A90
  replace H := Option.bind_eq_some_iff.mp H
  obtain ⟨⟨t301, t302⟩, A100, H⟩ := H
  replace H : (if t291 = t294 then (if t292 = t295 then ((waybilllaw01_num.f t293).bind fun t305 => (if t305 = t296 then ((waybillplain_SameNumbers.f k t297 t301).bind fun t306 => (if t306 = true then ((waybilllaw01_num.f t298).bind fun t307 => (if t307 = t302 then ((varint_Size.f k a1).bind fun t308 => ((waybillref01_Size.f k a1).bind fun t309 => (if t308 = t309 then ((varint_Zig.f a4).bind fun t310 => ((waybillref01_Zig.f a4).bind fun t311 => (if t310 = t311 then ((varint_Zag.f a1).bind fun t312 => ((waybillref01_Zag.f a1).bind fun t313 => (waybilllaw01_VarintTells.j0 k l0 a1 a2 t288 (t312 != t313)))) else (waybilllaw01_VarintTells.j0 k l0 a1 a2 t288 true)))) else (waybilllaw01_VarintTells.j0 k l0 a1 a2 t288 true)))) else (waybilllaw01_VarintTells.j0 k l0 a1 a2 t288 true))) else (waybilllaw01_VarintTells.j0 k l0 a1 a2 t288 true))) else (waybilllaw01_VarintTells.j0 k l0 a1 a2 t288 true))) else (waybilllaw01_VarintTells.j0 k l0 a1 a2 t288 true)) else (waybilllaw01_VarintTells.j0 k l0 a1 a2 t288 true)) = some r := H
  have A10 := Aside0.mk A100
  clear A100
  have HC11 := Aside0.mk H
  clear H
  go_enter Try.func8, Try.ntmps8
  go_upto_region 6 with (first | ((with_reducible refine gate_callee (f := 16) rfl ?_); refine goesL_ (some 23) rfl rfl Try.func16 (by kernel_rfl) rfl #[.slice A0 l0.length c0] rfl (by (try simp only [List.map_toArray, List.map_cons, List.map_nil]); first | done | rfl | (simp only [List.length_drop, List.length_take]; rfl)) ?_; (with_reducible refine (waybillplain_CopyBytes.calls _ _ l0 t288 _ ?side1 ?side2 A6.out).mono ?_); (case side1 => repeat (first | exact HR0.out | (with_reducible refine Kd.C_alloc ?_ _) | (with_reducible refine Kd.C_drewN ?_ _) | (with_reducible refine Kd.C_drew ?_))); (case side2 => exact HC0.out); rintro e w12 ⟨v289, rfl, ho0, hb⟩; refine ⟨_, rfl, ?_⟩; have n0_ := Aside0.mk (Kd.R_lower ho0 (below_size (by repeat (first | (with_reducible first | exact HB.out | apply below_alloc | apply pw_below_drewN | apply below_drew1) | exact HB.out)))); have n1_ := Aside0.mk (below_step (by repeat (first | (with_reducible first | exact HB.out | apply below_alloc | apply pw_below_drewN | apply below_drew1) | exact HB.out)) hb); clear HB; have HO290 := n0_; have HB := n1_; clear n0_ n1_; (try clear hb); (try clear hb2); (try clear hk); (try clear hi); (try clear ho0); obtain ⟨Ao13, co13, eo13⟩ := Kd.R_slice HO290.out; subst eo13) | ((with_reducible refine gate_callee (f := 11) rfl ?_); refine goesL_ (some 27) rfl rfl Try.func11 (by kernel_rfl) rfl #[.slice Ao13 t288.length co13, .int .i64 a3] rfl (by (try simp only [List.map_toArray, List.map_cons, List.map_nil]); first | done | rfl | (simp only [List.length_drop, List.length_take]; rfl)) ?_; (with_reducible refine (varint_Get.calls _ _ t288 a3 t291 t292 t293 _ ?side1 ?side2 A7.out).mono ?_); (case side1 => repeat (first | exact (Kd.R_reads' HO290.out).2.2 | (with_reducible refine Kd.C_alloc ?_ _) | (with_reducible refine Kd.C_drewN ?_ _) | (with_reducible refine Kd.C_drew ?_))); (case side2 => exact (Kd.R_reads' HO290.out).2.1); rintro e w' ⟨rfl, ⟨nd, rfl⟩⟩; refine ⟨_, rfl, ?_⟩) | ((with_reducible refine gate_callee (f := 25) rfl ?_); refine goesL_ (some 34) rfl rfl Try.func25 (by kernel_rfl) rfl #[.slice A0 l0.length c0, .int .i64 a3] rfl (by (try simp only [List.map_toArray, List.map_cons, List.map_nil]); first | done | rfl | (simp only [List.length_drop, List.length_take]; rfl)) ?_; (with_reducible refine (waybillref01_Get.calls _ _ l0 a3 t294 t295 t296 _ ?side1 ?side2 A8.out).mono ?_); (case side1 => repeat (first | exact (Kd.C_below HR0.out (by repeat (first | (with_reducible first | exact HB.out | apply below_alloc | apply pw_below_drewN | apply below_drew1) | exact HB.out))) | (with_reducible refine Kd.C_alloc ?_ _) | (with_reducible refine Kd.C_drewN ?_ _) | (with_reducible refine Kd.C_drew ?_))); (case side2 => exact HC0.out); rintro e w' ⟨rfl, ⟨nd, rfl⟩⟩; refine ⟨_, rfl, ?_⟩) | ((with_reducible refine gate_callee (f := 22) rfl ?_); refine goesL_ (some 40) rfl rfl Try.func22 (by kernel_rfl) rfl #[.slice Ao13 t288.length co13] rfl (by (try simp only [List.map_toArray, List.map_cons, List.map_nil]); first | done | rfl | (simp only [List.length_drop, List.length_take]; rfl)) ?_; (with_reducible refine (varint_All.calls k _ _ t288 t297 t298 _ ?side1 ?side2 A9.out).mono ?_); (case side1 => repeat (first | exact (Kd.R_reads' HO290.out).2.2 | (with_reducible refine Kd.C_alloc ?_ _) | (with_reducible refine Kd.C_drewN ?_ _) | (with_reducible refine Kd.C_drew ?_))); (case side2 => exact (Kd.R_reads' HO290.out).2.1); rintro e w14 ⟨v299, rfl, ho0, hb⟩; refine ⟨_, rfl, ?_⟩; have n0_ := Aside0.mk (Kd.R_below (by (with_reducible repeat (first | apply Kd.R_alloc | apply Kd.R_drewN | apply Kd.R_drew)); exact HO290.out) hb); have n1_ := Aside0.mk (Kd.R_lower ho0 (below_size (by repeat (first | (with_reducible first | exact HB.out | apply below_alloc | apply pw_below_drewN | apply below_drew1) | exact HB.out)))); have n2_ := Aside0.mk (below_step (by repeat (first | (with_reducible first | exact HB.out | apply below_alloc | apply pw_below_drewN | apply below_drew1) | exact HB.out)) hb); clear HO290; clear HB; have HO290 := n0_; have HO300 := n1_; have HB := n2_; clear n0_ n1_ n2_; (try clear hb); (try clear hb2); (try clear hk); (try clear hi); (try clear ho0)) | ((with_reducible refine gate_callee (f := 26) rfl ?_); refine goesL_ (some 45) rfl rfl Try.func26 (by kernel_rfl) rfl #[.slice A0 l0.length c0] rfl (by (try simp only [List.map_toArray, List.map_cons, List.map_nil]); first | done | rfl | (simp only [List.length_drop, List.length_take]; rfl)) ?_; (with_reducible refine (waybillref01_All.calls k _ _ l0 t301 t302 _ ?side1 ?side2 A10.out).mono ?_); (case side1 => repeat (first | exact (Kd.C_below HR0.out HB.out) | (with_reducible refine Kd.C_alloc ?_ _) | (with_reducible refine Kd.C_drewN ?_ _) | (with_reducible refine Kd.C_drew ?_))); (case side2 => exact HC0.out); rintro e w15 ⟨v303, rfl, ho0, hb⟩; refine ⟨_, rfl, ?_⟩; have n0_ := Aside0.mk (Kd.R_below (by (with_reducible repeat (first | apply Kd.R_alloc | apply Kd.R_drewN | apply Kd.R_drew)); exact HO290.out) hb); have n1_ := Aside0.mk (Kd.R_elder' (by (with_reducible repeat (first | apply Kd.R_alloc | apply Kd.R_drewN | apply Kd.R_drew)); exact HO300.out) (Kd.R_base ho0) hb); have n2_ := Aside0.mk (Kd.R_lower (Kd.R_new' ho0 (Kd.R_lt (by (with_reducible repeat (first | apply Kd.R_alloc | apply Kd.R_drewN | apply Kd.R_drew)); exact HO300.out))) (below_size (by repeat (first | (with_reducible first | exact HB.out | apply below_alloc | apply pw_below_drewN | apply below_drew1) | exact HB.out)))); have n3_ := Aside0.mk (below_step (by repeat (first | (with_reducible first | exact HB.out | apply below_alloc | apply pw_below_drewN | apply below_drew1) | exact HB.out)) hb); clear HO290; clear HO300; clear HB; have HO290 := n0_; have HO300 := n1_; have HO304 := n2_; have HB := n3_; clear n0_ n1_ n2_ n3_; (try clear hb); (try clear hb2); (try clear hk); (try clear hi); (try clear ho0)))
  (try simp only [Act.put, List.setIfInBounds_toArray, List.set_cons_zero, List.set_cons_succ])
  go_cut [94] (fun v94 wc => ∃ (kq : Nat) (x94_10 : Bool), v94 = .bool x94_10 ∧ Aside0 (waybilllaw01_VarintTells.j0 kq l0 a1 a2 t288 x94_10 = some r) ∧ Aside0 (kq ≤ k) ∧ Aside0 (Kd.R (Kd.int .u8) 5 wc w.heap.size (fun _ => True) (.slice Ao13 t288.length co13) t288) ∧ Aside0 (Below w.heap.size w wc))
  case first =>
    have H := HC11.out
    clear HC11
    by_cases c16 : t291 = t294
    · rw [if_pos c16] at H
      have c16b0 : (t291 == t294) = true := beq_iff_eq.mpr c16
      have c16b1 : (t291 != t294) = false := bne_eq_false_iff_eq.mpr c16
      clear c16
      (first | rw [c16b0] | (simp only [i64_w, i32_w]; rw [c16b0]) | skip)
      by_cases c17 : t292 = t295
      · rw [if_pos c17] at H
        have c17b0 : (t292 == t295) = true := beq_iff_eq.mpr c17
        have c17b1 : (t292 != t295) = false := bne_eq_false_iff_eq.mpr c17
        clear c17
        replace H := Option.bind_eq_some_iff.mp H
        obtain ⟨t305, A180, H⟩ := H
        replace H : (if t305 = t296 then ((waybillplain_SameNumbers.f k t297 t301).bind fun t306 => (if t306 = true then ((waybilllaw01_num.f t298).bind fun t307 => (if t307 = t302 then ((varint_Size.f k a1).bind fun t308 => ((waybillref01_Size.f k a1).bind fun t309 => (if t308 = t309 then ((varint_Zig.f a4).bind fun t310 => ((waybillref01_Zig.f a4).bind fun t311 => (if t310 = t311 then ((varint_Zag.f a1).bind fun t312 => ((waybillref01_Zag.f a1).bind fun t313 => (waybilllaw01_VarintTells.j0 k l0 a1 a2 t288 (t312 != t313)))) else (waybilllaw01_VarintTells.j0 k l0 a1 a2 t288 true)))) else (waybilllaw01_VarintTells.j0 k l0 a1 a2 t288 true)))) else (waybilllaw01_VarintTells.j0 k l0 a1 a2 t288 true))) else (waybilllaw01_VarintTells.j0 k l0 a1 a2 t288 true))) else (waybilllaw01_VarintTells.j0 k l0 a1 a2 t288 true)) = some r := H
        have A18 := Aside0.mk A180
        clear A180
        by_cases c19 : t305 = t296
        · rw [if_pos c19] at H
          have c19b0 : (t305 == t296) = true := beq_iff_eq.mpr c19
          have c19b1 : (t305 != t296) = false := bne_eq_false_iff_eq.mpr c19
          clear c19
          replace H := Option.bind_eq_some_iff.mp H
          obtain ⟨t306, A200, H⟩ := H
          replace H : (if t306 = true then ((waybilllaw01_num.f t298).bind fun t307 => (if t307 = t302 then ((varint_Size.f k a1).bind fun t308 => ((waybillref01_Size.f k a1).bind fun t309 => (if t308 = t309 then ((varint_Zig.f a4).bind fun t310 => ((waybillref01_Zig.f a4).bind fun t311 => (if t310 = t311 then ((varint_Zag.f a1).bind fun t312 => ((waybillref01_Zag.f a1).bind fun t313 => (waybilllaw01_VarintTells.j0 k l0 a1 a2 t288 (t312 != t313)))) else (waybilllaw01_VarintTells.j0 k l0 a1 a2 t288 true)))) else (waybilllaw01_VarintTells.j0 k l0 a1 a2 t288 true)))) else (waybilllaw01_VarintTells.j0 k l0 a1 a2 t288 true))) else (waybilllaw01_VarintTells.j0 k l0 a1 a2 t288 true)) = some r := H
          have A20 := Aside0.mk A200
          clear A200
          by_cases c21 : t306 = true
          · subst c21
            have H1 : ((waybilllaw01_num.f t298).bind fun t307 => (if t307 = t302 then ((varint_Size.f k a1).bind fun t308 => ((waybillref01_Size.f k a1).bind fun t309 => (if t308 = t309 then ((varint_Zig.f a4).bind fun t310 => ((waybillref01_Zig.f a4).bind fun t311 => (if t310 = t311 then ((varint_Zag.f a1).bind fun t312 => ((waybillref01_Zag.f a1).bind fun t313 => (waybilllaw01_VarintTells.j0 k l0 a1 a2 t288 (t312 != t313)))) else (waybilllaw01_VarintTells.j0 k l0 a1 a2 t288 true)))) else (waybilllaw01_VarintTells.j0 k l0 a1 a2 t288 true)))) else (waybilllaw01_VarintTells.j0 k l0 a1 a2 t288 true))) = some r := by rw [if_pos rfl] at H; exact H
            clear H
            have H := H1
            clear H1
            replace H := Option.bind_eq_some_iff.mp H
            obtain ⟨t307, A220, H⟩ := H
            replace H : (if t307 = t302 then ((varint_Size.f k a1).bind fun t308 => ((waybillref01_Size.f k a1).bind fun t309 => (if t308 = t309 then ((varint_Zig.f a4).bind fun t310 => ((waybillref01_Zig.f a4).bind fun t311 => (if t310 = t311 then ((varint_Zag.f a1).bind fun t312 => ((waybillref01_Zag.f a1).bind fun t313 => (waybilllaw01_VarintTells.j0 k l0 a1 a2 t288 (t312 != t313)))) else (waybilllaw01_VarintTells.j0 k l0 a1 a2 t288 true)))) else (waybilllaw01_VarintTells.j0 k l0 a1 a2 t288 true)))) else (waybilllaw01_VarintTells.j0 k l0 a1 a2 t288 true)) = some r := H
            have A22 := Aside0.mk A220
            clear A220
            by_cases c23 : t307 = t302
            · rw [if_pos c23] at H
              have c23b0 : (t307 == t302) = true := beq_iff_eq.mpr c23
              have c23b1 : (t307 != t302) = false := bne_eq_false_iff_eq.mpr c23
              clear c23
              replace H := Option.bind_eq_some_iff.mp H
              obtain ⟨t308, A240, H⟩ := H
              replace H : ((waybillref01_Size.f k a1).bind fun t309 => (if t308 = t309 then ((varint_Zig.f a4).bind fun t310 => ((waybillref01_Zig.f a4).bind fun t311 => (if t310 = t311 then ((varint_Zag.f a1).bind fun t312 => ((waybillref01_Zag.f a1).bind fun t313 => (waybilllaw01_VarintTells.j0 k l0 a1 a2 t288 (t312 != t313)))) else (waybilllaw01_VarintTells.j0 k l0 a1 a2 t288 true)))) else (waybilllaw01_VarintTells.j0 k l0 a1 a2 t288 true))) = some r := H
              have A24 := Aside0.mk A240
              clear A240
              replace H := Option.bind_eq_some_iff.mp H
              obtain ⟨t309, A250, H⟩ := H
              replace H : (if t308 = t309 then ((varint_Zig.f a4).bind fun t310 => ((waybillref01_Zig.f a4).bind fun t311 => (if t310 = t311 then ((varint_Zag.f a1).bind fun t312 => ((waybillref01_Zag.f a1).bind fun t313 => (waybilllaw01_VarintTells.j0 k l0 a1 a2 t288 (t312 != t313)))) else (waybilllaw01_VarintTells.j0 k l0 a1 a2 t288 true)))) else (waybilllaw01_VarintTells.j0 k l0 a1 a2 t288 true)) = some r := H
              have A25 := Aside0.mk A250
              clear A250
              by_cases c26 : t308 = t309
              · rw [if_pos c26] at H
                have c26b0 : (t308 == t309) = true := beq_iff_eq.mpr c26
                have c26b1 : (t308 != t309) = false := bne_eq_false_iff_eq.mpr c26
                clear c26
                replace H := Option.bind_eq_some_iff.mp H
                obtain ⟨t310, A270, H⟩ := H
                replace H : ((waybillref01_Zig.f a4).bind fun t311 => (if t310 = t311 then ((varint_Zag.f a1).bind fun t312 => ((waybillref01_Zag.f a1).bind fun t313 => (waybilllaw01_VarintTells.j0 k l0 a1 a2 t288 (t312 != t313)))) else (waybilllaw01_VarintTells.j0 k l0 a1 a2 t288 true))) = some r := H
                have A27 := Aside0.mk A270
                clear A270
                replace H := Option.bind_eq_some_iff.mp H
                obtain ⟨t311, A280, H⟩ := H
                replace H : (if t310 = t311 then ((varint_Zag.f a1).bind fun t312 => ((waybillref01_Zag.f a1).bind fun t313 => (waybilllaw01_VarintTells.j0 k l0 a1 a2 t288 (t312 != t313)))) else (waybilllaw01_VarintTells.j0 k l0 a1 a2 t288 true)) = some r := H
                have A28 := Aside0.mk A280
                clear A280
                by_cases c29 : t310 = t311
                · rw [if_pos c29] at H
                  have c29b0 : (t310 == t311) = true := beq_iff_eq.mpr c29
                  have c29b1 : (t310 != t311) = false := bne_eq_false_iff_eq.mpr c29
                  clear c29
                  replace H := Option.bind_eq_some_iff.mp H
                  obtain ⟨t312, A300, H⟩ := H
                  replace H : ((waybillref01_Zag.f a1).bind fun t313 => (waybilllaw01_VarintTells.j0 k l0 a1 a2 t288 (t312 != t313))) = some r := H
                  have A30 := Aside0.mk A300
                  clear A300
                  replace H := Option.bind_eq_some_iff.mp H
                  obtain ⟨t313, A310, H⟩ := H
                  replace H : (waybilllaw01_VarintTells.j0 k l0 a1 a2 t288 (t312 != t313)) = some r := H
                  have A31 := Aside0.mk A310
                  clear A310
                  have H' := Aside0.mk H
                  clear H
                  go_wp2_with (first | (go_at_call 12; (with_reducible refine (waybilllaw01_num.calls t293 t305 _ A18.out).mono ?_); rintro e w' ⟨rfl, ⟨nd, rfl⟩⟩; obtain ⟨Ao32, co32, eo32⟩ := Kd.R_slice HO300.out; subst eo32; obtain ⟨Ao33, co33, eo33⟩ := Kd.R_slice HO304.out; subst eo33) | (go_at_call 27; (with_reducible refine (waybillplain_SameNumbers.calls k _ _ t297 _ _ t301 true _ ?side1 ?side2 ?side3 ?side4 A20.out).mono ?_); (case side1 => repeat (first | exact (Kd.R_reads' HO300.out).2.2 | (with_reducible refine Kd.C_alloc ?_ _) | (with_reducible refine Kd.C_drewN ?_ _) | (with_reducible refine Kd.C_drew ?_))); (case side2 => exact (Kd.R_reads' HO300.out).2.1); (case side3 => repeat (first | exact (Kd.R_reads' HO304.out).2.2 | (with_reducible refine Kd.C_alloc ?_ _) | (with_reducible refine Kd.C_drewN ?_ _) | (with_reducible refine Kd.C_drew ?_))); (case side4 => exact (Kd.R_reads' HO304.out).2.1); rintro e w' ⟨rfl, ⟨nd, rfl⟩⟩) | (go_at_call 12; (with_reducible refine (waybilllaw01_num.calls t298 t307 _ A22.out).mono ?_); rintro e w' ⟨rfl, ⟨nd, rfl⟩⟩) | (go_at_call 13; (with_reducible refine (varint_Size.calls k a1 t308 _ A24.out).mono ?_); rintro e w' ⟨rfl, ⟨nd, rfl⟩⟩) | (go_at_call 28; (with_reducible refine (waybillref01_Size.calls k a1 t309 _ A25.out).mono ?_); rintro e w34 ⟨rfl, hb⟩; have n0_ := Aside0.mk (Kd.R_below (by (with_reducible repeat (first | apply Kd.R_alloc | apply Kd.R_drewN | apply Kd.R_drew)); exact HO290.out) hb); have n1_ := Aside0.mk (Kd.R_below (by (with_reducible repeat (first | apply Kd.R_alloc | apply Kd.R_drewN | apply Kd.R_drew)); exact HO300.out) hb); have n2_ := Aside0.mk (Kd.R_below (by (with_reducible repeat (first | apply Kd.R_alloc | apply Kd.R_drewN | apply Kd.R_drew)); exact HO304.out) hb); have n3_ := Aside0.mk (below_step (by repeat (first | (with_reducible first | exact HB.out | apply below_alloc | apply pw_below_drewN | apply below_drew1) | exact HB.out)) hb); clear HO290; clear HO300; clear HO304; clear HB; have HO290 := n0_; have HO300 := n1_; have HO304 := n2_; have HB := n3_; clear n0_ n1_ n2_ n3_; (try clear hb); (try clear hb2); (try clear hk); (try clear hi)) | (go_at_call 15; (with_reducible refine (varint_Zig.calls a4 t310 _ A27.out).mono ?_); rintro e w' ⟨rfl, ⟨nd, rfl⟩⟩) | (go_at_call 29; (with_reducible refine (waybillref01_Zig.calls a4 t311 _ A28.out).mono ?_); rintro e w' ⟨rfl, ⟨nd, rfl⟩⟩) | (go_at_call 14; (with_reducible refine (varint_Zag.calls a1 t312 _ A30.out).mono ?_); rintro e w' ⟨rfl, ⟨nd, rfl⟩⟩) | (go_at_call 30; (with_reducible refine (waybillref01_Zag.calls a1 t313 _ A31.out).mono ?_); rintro e w' ⟨rfl, ⟨nd, rfl⟩⟩))
                  go_meet
                  case rel => exact ⟨_, ((t312 != t313)), (by first | rfl | (simp; done) | (simp [*]; done)), H', ⟨by first | omega | exact Nat.le_refl _⟩, ⟨by (with_reducible repeat (first | apply Kd.R_alloc | apply Kd.R_drewN | apply Kd.R_drew)); exact HO290.out⟩, ⟨by repeat (first | (with_reducible first | exact HB.out | apply below_alloc | apply pw_below_drewN | apply below_drew1) | exact HB.out)⟩⟩
                · rw [if_neg c29] at H
                  have c29b0 : (t310 == t311) = false := beq_eq_false_iff_ne.mpr c29
                  have c29b1 : (t310 != t311) = true := bne_iff_ne.mpr c29
                  have H' := Aside0.mk H
                  clear H
                  go_wp2_with (first | (go_at_call 12; (with_reducible refine (waybilllaw01_num.calls t293 t305 _ A18.out).mono ?_); rintro e w' ⟨rfl, ⟨nd, rfl⟩⟩; obtain ⟨Ao35, co35, eo35⟩ := Kd.R_slice HO300.out; subst eo35; obtain ⟨Ao36, co36, eo36⟩ := Kd.R_slice HO304.out; subst eo36) | (go_at_call 27; (with_reducible refine (waybillplain_SameNumbers.calls k _ _ t297 _ _ t301 true _ ?side1 ?side2 ?side3 ?side4 A20.out).mono ?_); (case side1 => repeat (first | exact (Kd.R_reads' HO300.out).2.2 | (with_reducible refine Kd.C_alloc ?_ _) | (with_reducible refine Kd.C_drewN ?_ _) | (with_reducible refine Kd.C_drew ?_))); (case side2 => exact (Kd.R_reads' HO300.out).2.1); (case side3 => repeat (first | exact (Kd.R_reads' HO304.out).2.2 | (with_reducible refine Kd.C_alloc ?_ _) | (with_reducible refine Kd.C_drewN ?_ _) | (with_reducible refine Kd.C_drew ?_))); (case side4 => exact (Kd.R_reads' HO304.out).2.1); rintro e w' ⟨rfl, ⟨nd, rfl⟩⟩) | (go_at_call 12; (with_reducible refine (waybilllaw01_num.calls t298 t307 _ A22.out).mono ?_); rintro e w' ⟨rfl, ⟨nd, rfl⟩⟩) | (go_at_call 13; (with_reducible refine (varint_Size.calls k a1 t308 _ A24.out).mono ?_); rintro e w' ⟨rfl, ⟨nd, rfl⟩⟩) | (go_at_call 28; (with_reducible refine (waybillref01_Size.calls k a1 t309 _ A25.out).mono ?_); rintro e w37 ⟨rfl, hb⟩; have n0_ := Aside0.mk (Kd.R_below (by (with_reducible repeat (first | apply Kd.R_alloc | apply Kd.R_drewN | apply Kd.R_drew)); exact HO290.out) hb); have n1_ := Aside0.mk (Kd.R_below (by (with_reducible repeat (first | apply Kd.R_alloc | apply Kd.R_drewN | apply Kd.R_drew)); exact HO300.out) hb); have n2_ := Aside0.mk (Kd.R_below (by (with_reducible repeat (first | apply Kd.R_alloc | apply Kd.R_drewN | apply Kd.R_drew)); exact HO304.out) hb); have n3_ := Aside0.mk (below_step (by repeat (first | (with_reducible first | exact HB.out | apply below_alloc | apply pw_below_drewN | apply below_drew1) | exact HB.out)) hb); clear HO290; clear HO300; clear HO304; clear HB; have HO290 := n0_; have HO300 := n1_; have HO304 := n2_; have HB := n3_; clear n0_ n1_ n2_ n3_; (try clear hb); (try clear hb2); (try clear hk); (try clear hi)) | (go_at_call 15; (with_reducible refine (varint_Zig.calls a4 t310 _ A27.out).mono ?_); rintro e w' ⟨rfl, ⟨nd, rfl⟩⟩) | (go_at_call 29; (with_reducible refine (waybillref01_Zig.calls a4 t311 _ A28.out).mono ?_); rintro e w' ⟨rfl, ⟨nd, rfl⟩⟩))
                  go_meet
                  case rel => exact ⟨_, (true), (by first | rfl | (simp; done) | (simp [*]; done)), H', ⟨by first | omega | exact Nat.le_refl _⟩, ⟨by (with_reducible repeat (first | apply Kd.R_alloc | apply Kd.R_drewN | apply Kd.R_drew)); exact HO290.out⟩, ⟨by repeat (first | (with_reducible first | exact HB.out | apply below_alloc | apply pw_below_drewN | apply below_drew1) | exact HB.out)⟩⟩
              · rw [if_neg c26] at H
                have c26b0 : (t308 == t309) = false := beq_eq_false_iff_ne.mpr c26
                have c26b1 : (t308 != t309) = true := bne_iff_ne.mpr c26
                have H' := Aside0.mk H
                clear H
                go_wp2_with (first | (go_at_call 12; (with_reducible refine (waybilllaw01_num.calls t293 t305 _ A18.out).mono ?_); rintro e w' ⟨rfl, ⟨nd, rfl⟩⟩; obtain ⟨Ao38, co38, eo38⟩ := Kd.R_slice HO300.out; subst eo38; obtain ⟨Ao39, co39, eo39⟩ := Kd.R_slice HO304.out; subst eo39) | (go_at_call 27; (with_reducible refine (waybillplain_SameNumbers.calls k _ _ t297 _ _ t301 true _ ?side1 ?side2 ?side3 ?side4 A20.out).mono ?_); (case side1 => repeat (first | exact (Kd.R_reads' HO300.out).2.2 | (with_reducible refine Kd.C_alloc ?_ _) | (with_reducible refine Kd.C_drewN ?_ _) | (with_reducible refine Kd.C_drew ?_))); (case side2 => exact (Kd.R_reads' HO300.out).2.1); (case side3 => repeat (first | exact (Kd.R_reads' HO304.out).2.2 | (with_reducible refine Kd.C_alloc ?_ _) | (with_reducible refine Kd.C_drewN ?_ _) | (with_reducible refine Kd.C_drew ?_))); (case side4 => exact (Kd.R_reads' HO304.out).2.1); rintro e w' ⟨rfl, ⟨nd, rfl⟩⟩) | (go_at_call 12; (with_reducible refine (waybilllaw01_num.calls t298 t307 _ A22.out).mono ?_); rintro e w' ⟨rfl, ⟨nd, rfl⟩⟩) | (go_at_call 13; (with_reducible refine (varint_Size.calls k a1 t308 _ A24.out).mono ?_); rintro e w' ⟨rfl, ⟨nd, rfl⟩⟩) | (go_at_call 28; (with_reducible refine (waybillref01_Size.calls k a1 t309 _ A25.out).mono ?_); rintro e w40 ⟨rfl, hb⟩; have n0_ := Aside0.mk (Kd.R_below (by (with_reducible repeat (first | apply Kd.R_alloc | apply Kd.R_drewN | apply Kd.R_drew)); exact HO290.out) hb); have n1_ := Aside0.mk (Kd.R_below (by (with_reducible repeat (first | apply Kd.R_alloc | apply Kd.R_drewN | apply Kd.R_drew)); exact HO300.out) hb); have n2_ := Aside0.mk (Kd.R_below (by (with_reducible repeat (first | apply Kd.R_alloc | apply Kd.R_drewN | apply Kd.R_drew)); exact HO304.out) hb); have n3_ := Aside0.mk (below_step (by repeat (first | (with_reducible first | exact HB.out | apply below_alloc | apply pw_below_drewN | apply below_drew1) | exact HB.out)) hb); clear HO290; clear HO300; clear HO304; clear HB; have HO290 := n0_; have HO300 := n1_; have HO304 := n2_; have HB := n3_; clear n0_ n1_ n2_ n3_; (try clear hb); (try clear hb2); (try clear hk); (try clear hi)))
                go_meet
                case rel => exact ⟨_, (true), (by first | rfl | (simp; done) | (simp [*]; done)), H', ⟨by first | omega | exact Nat.le_refl _⟩, ⟨by (with_reducible repeat (first | apply Kd.R_alloc | apply Kd.R_drewN | apply Kd.R_drew)); exact HO290.out⟩, ⟨by repeat (first | (with_reducible first | exact HB.out | apply below_alloc | apply pw_below_drewN | apply below_drew1) | exact HB.out)⟩⟩
            · rw [if_neg c23] at H
              have c23b0 : (t307 == t302) = false := beq_eq_false_iff_ne.mpr c23
              have c23b1 : (t307 != t302) = true := bne_iff_ne.mpr c23
              have H' := Aside0.mk H
              clear H
              go_wp2_with (first | (go_at_call 12; (with_reducible refine (waybilllaw01_num.calls t293 t305 _ A18.out).mono ?_); rintro e w' ⟨rfl, ⟨nd, rfl⟩⟩; obtain ⟨Ao41, co41, eo41⟩ := Kd.R_slice HO300.out; subst eo41; obtain ⟨Ao42, co42, eo42⟩ := Kd.R_slice HO304.out; subst eo42) | (go_at_call 27; (with_reducible refine (waybillplain_SameNumbers.calls k _ _ t297 _ _ t301 true _ ?side1 ?side2 ?side3 ?side4 A20.out).mono ?_); (case side1 => repeat (first | exact (Kd.R_reads' HO300.out).2.2 | (with_reducible refine Kd.C_alloc ?_ _) | (with_reducible refine Kd.C_drewN ?_ _) | (with_reducible refine Kd.C_drew ?_))); (case side2 => exact (Kd.R_reads' HO300.out).2.1); (case side3 => repeat (first | exact (Kd.R_reads' HO304.out).2.2 | (with_reducible refine Kd.C_alloc ?_ _) | (with_reducible refine Kd.C_drewN ?_ _) | (with_reducible refine Kd.C_drew ?_))); (case side4 => exact (Kd.R_reads' HO304.out).2.1); rintro e w' ⟨rfl, ⟨nd, rfl⟩⟩) | (go_at_call 12; (with_reducible refine (waybilllaw01_num.calls t298 t307 _ A22.out).mono ?_); rintro e w' ⟨rfl, ⟨nd, rfl⟩⟩))
              go_meet
              case rel => exact ⟨_, (true), (by first | rfl | (simp; done) | (simp [*]; done)), H', ⟨by first | omega | exact Nat.le_refl _⟩, ⟨by (with_reducible repeat (first | apply Kd.R_alloc | apply Kd.R_drewN | apply Kd.R_drew)); exact HO290.out⟩, ⟨by repeat (first | (with_reducible first | exact HB.out | apply below_alloc | apply pw_below_drewN | apply below_drew1) | exact HB.out)⟩⟩
          · replace c21 := Bool.eq_false_iff.mpr c21
            subst c21
            have H1 : (waybilllaw01_VarintTells.j0 k l0 a1 a2 t288 true) = some r := by rw [if_neg (show ¬ (false = true) by decide)] at H; exact H
            clear H
            have H := H1
            clear H1
            have H' := Aside0.mk H
            clear H
            go_wp2_with (first | (go_at_call 12; (with_reducible refine (waybilllaw01_num.calls t293 t305 _ A18.out).mono ?_); rintro e w' ⟨rfl, ⟨nd, rfl⟩⟩; obtain ⟨Ao43, co43, eo43⟩ := Kd.R_slice HO300.out; subst eo43; obtain ⟨Ao44, co44, eo44⟩ := Kd.R_slice HO304.out; subst eo44) | (go_at_call 27; (with_reducible refine (waybillplain_SameNumbers.calls k _ _ t297 _ _ t301 false _ ?side1 ?side2 ?side3 ?side4 A20.out).mono ?_); (case side1 => repeat (first | exact (Kd.R_reads' HO300.out).2.2 | (with_reducible refine Kd.C_alloc ?_ _) | (with_reducible refine Kd.C_drewN ?_ _) | (with_reducible refine Kd.C_drew ?_))); (case side2 => exact (Kd.R_reads' HO300.out).2.1); (case side3 => repeat (first | exact (Kd.R_reads' HO304.out).2.2 | (with_reducible refine Kd.C_alloc ?_ _) | (with_reducible refine Kd.C_drewN ?_ _) | (with_reducible refine Kd.C_drew ?_))); (case side4 => exact (Kd.R_reads' HO304.out).2.1); rintro e w' ⟨rfl, ⟨nd, rfl⟩⟩))
            go_meet
            case rel => exact ⟨_, (true), (by first | rfl | (simp; done) | (simp [*]; done)), H', ⟨by first | omega | exact Nat.le_refl _⟩, ⟨by (with_reducible repeat (first | apply Kd.R_alloc | apply Kd.R_drewN | apply Kd.R_drew)); exact HO290.out⟩, ⟨by repeat (first | (with_reducible first | exact HB.out | apply below_alloc | apply pw_below_drewN | apply below_drew1) | exact HB.out)⟩⟩
        · rw [if_neg c19] at H
          have c19b0 : (t305 == t296) = false := beq_eq_false_iff_ne.mpr c19
          have c19b1 : (t305 != t296) = true := bne_iff_ne.mpr c19
          have H' := Aside0.mk H
          clear H
          go_wp2_with (first | (go_at_call 12; (with_reducible refine (waybilllaw01_num.calls t293 t305 _ A18.out).mono ?_); rintro e w' ⟨rfl, ⟨nd, rfl⟩⟩))
          go_meet
          case rel => exact ⟨_, (true), (by first | rfl | (simp; done) | (simp [*]; done)), H', ⟨by first | omega | exact Nat.le_refl _⟩, ⟨by (with_reducible repeat (first | apply Kd.R_alloc | apply Kd.R_drewN | apply Kd.R_drew)); exact HO290.out⟩, ⟨by repeat (first | (with_reducible first | exact HB.out | apply below_alloc | apply pw_below_drewN | apply below_drew1) | exact HB.out)⟩⟩
      · rw [if_neg c17] at H
        have c17b0 : (t292 == t295) = false := beq_eq_false_iff_ne.mpr c17
        have c17b1 : (t292 != t295) = true := bne_iff_ne.mpr c17
        have H' := Aside0.mk H
        clear H
        go_wp2
        go_meet
        case rel => exact ⟨_, (true), (by first | rfl | (simp; done) | (simp [*]; done)), H', ⟨by first | omega | exact Nat.le_refl _⟩, ⟨by (with_reducible repeat (first | apply Kd.R_alloc | apply Kd.R_drewN | apply Kd.R_drew)); exact HO290.out⟩, ⟨by repeat (first | (with_reducible first | exact HB.out | apply below_alloc | apply pw_below_drewN | apply below_drew1) | exact HB.out)⟩⟩
    · rw [if_neg c16] at H
      have c16b0 : (t291 == t294) = false := beq_eq_false_iff_ne.mpr c16
      have c16b1 : (t291 != t294) = true := bne_iff_ne.mpr c16
      (first | rw [c16b0] | (simp only [i64_w, i32_w]; rw [c16b0]) | skip)
      have H' := Aside0.mk H
      clear H
      go_wp2
      go_meet
      case rel => exact ⟨_, (true), (by first | rfl | (simp; done) | (simp [*]; done)), H', ⟨by first | omega | exact Nat.le_refl _⟩, ⟨by (with_reducible repeat (first | apply Kd.R_alloc | apply Kd.R_drewN | apply Kd.R_drew)); exact HO290.out⟩, ⟨by repeat (first | (with_reducible first | exact HB.out | apply below_alloc | apply pw_below_drewN | apply below_drew1) | exact HB.out)⟩⟩
  case rest =>
    clear HC11
    try clear c1
    try clear c2
    try clear p2
    try clear c8
    try clear c11
    try clear c16
    try clear c16b0
    try clear c16b1
    try clear c17
    try clear c17b0
    try clear c17b1
    try clear c19
    try clear c19b0
    try clear c19b1
    try clear c21
    try clear c22
    try clear c23
    try clear c23b0
    try clear c23b1
    try clear c25
    try clear c26
    try clear c26b0
    try clear c26b1
    try clear c29
    try clear c29b0
    try clear c29b1
    obtain ⟨kq, x94_10, rfl, HA, HJ10, HO_11, HB⟩ := hcut
    cases kq with
    | zero => exact absurd HA.out (by simp [waybilllaw01_VarintTells.j0])
    | succ kj10 =>
      have H := HA.out
      clear HA
      simp only [waybilllaw01_VarintTells.j0] at H
      by_cases c45 : x94_10 = true
      · subst c45
        have H1 : (some false) = some r := by rw [if_pos rfl] at H; exact H
        clear H
        have H := H1
        clear H1
        obtain rfl := Option.some.inj H
        go_wp2
        go_ret
        exact ⟨by first | rfl | (simp [errW_none, errW_some] <;> rfl) | (simp [*, errW_none, errW_some] <;> rfl), by repeat (first | (with_reducible first | exact HB.out | apply below_alloc | apply pw_below_drewN | apply below_drew1) | exact HB.out)⟩
      · replace c45 := Bool.eq_false_iff.mpr c45
        subst c45
        have H1 : ((varint_Put.f kj10 t288 (([a1, a2] : List Int))).bind fun t317 => ((waybillref01_Put.f kj10 l0 a1).bind fun t320 => ((waybillref01_Put.f kj10 t320 a2).bind fun t323 => ((waybillplain_SameBytes.f t317 t323).bind fun t326 => (if t326 = true then ((waybillplain_SameBytes.f t288 l0).bind fun t327 => (if t327 = true then ((waybilllaw01_alive.f kj10).bind fun t328 => (some t328)) else (some false))) else (some false)))))) = some r := by rw [if_neg (show ¬ (false = true) by decide)] at H; exact H
        clear H
        have H := H1
        clear H1
        obtain ⟨y314, hy314⟩ : ∃ y_ : List Int, y_ = (([a1, a2] : List Int)) := ⟨_, rfl⟩
        replace H : ((varint_Put.f kj10 t288 y314).bind fun t317 => ((waybillref01_Put.f kj10 l0 a1).bind fun t320 => ((waybillref01_Put.f kj10 t320 a2).bind fun t323 => ((waybillplain_SameBytes.f t317 t323).bind fun t326 => (if t326 = true then ((waybillplain_SameBytes.f t288 l0).bind fun t327 => (if t327 = true then ((waybilllaw01_alive.f kj10).bind fun t328 => (some t328)) else (some false))) else (some false)))))) = some r := by first | (rw [hy314]; with_reducible exact H) | (have H2_ := (Option.bind_some _ _).symm.trans H; rw [hy314]; with_reducible exact H2_) | (have H2_ := (Option.bind_some _ _).symm.trans H; with_reducible exact H2_) | with_reducible exact H | (rw [hy314]; exact H) | exact H
        have Ny314 := Aside0.mk hy314
        clear hy314
        replace H := Option.bind_eq_some_iff.mp H
        obtain ⟨t317, A460, H⟩ := H
        replace H : ((waybillref01_Put.f kj10 l0 a1).bind fun t320 => ((waybillref01_Put.f kj10 t320 a2).bind fun t323 => ((waybillplain_SameBytes.f t317 t323).bind fun t326 => (if t326 = true then ((waybillplain_SameBytes.f t288 l0).bind fun t327 => (if t327 = true then ((waybilllaw01_alive.f kj10).bind fun t328 => (some t328)) else (some false))) else (some false))))) = some r := H
        have A46 := Aside0.mk A460
        clear A460
        replace H := Option.bind_eq_some_iff.mp H
        obtain ⟨t320, A470, H⟩ := H
        replace H : ((waybillref01_Put.f kj10 t320 a2).bind fun t323 => ((waybillplain_SameBytes.f t317 t323).bind fun t326 => (if t326 = true then ((waybillplain_SameBytes.f t288 l0).bind fun t327 => (if t327 = true then ((waybilllaw01_alive.f kj10).bind fun t328 => (some t328)) else (some false))) else (some false)))) = some r := H
        have A47 := Aside0.mk A470
        clear A470
        replace H := Option.bind_eq_some_iff.mp H
        obtain ⟨t323, A480, H⟩ := H
        replace H : ((waybillplain_SameBytes.f t317 t323).bind fun t326 => (if t326 = true then ((waybillplain_SameBytes.f t288 l0).bind fun t327 => (if t327 = true then ((waybilllaw01_alive.f kj10).bind fun t328 => (some t328)) else (some false))) else (some false))) = some r := H
        have A48 := Aside0.mk A480
        clear A480
        replace H := Option.bind_eq_some_iff.mp H
        obtain ⟨t326, A490, H⟩ := H
        replace H : (if t326 = true then ((waybillplain_SameBytes.f t288 l0).bind fun t327 => (if t327 = true then ((waybilllaw01_alive.f kj10).bind fun t328 => (some t328)) else (some false))) else (some false)) = some r := H
        have A49 := Aside0.mk A490
        clear A490
        by_cases c50 : t326 = true
        · subst c50
          have H1 : ((waybillplain_SameBytes.f t288 l0).bind fun t327 => (if t327 = true then ((waybilllaw01_alive.f kj10).bind fun t328 => (some t328)) else (some false))) = some r := by rw [if_pos rfl] at H; exact H
          clear H
          have H := H1
          clear H1
          replace H := Option.bind_eq_some_iff.mp H
          obtain ⟨t327, A510, H⟩ := H
          replace H : (if t327 = true then ((waybilllaw01_alive.f kj10).bind fun t328 => (some t328)) else (some false)) = some r := H
          have A51 := Aside0.mk A510
          clear A510
          by_cases c52 : t327 = true
          · subst c52
            have H1 : ((waybilllaw01_alive.f kj10).bind fun t328 => (some t328)) = some r := by rw [if_pos rfl] at H; exact H
            clear H
            have H := H1
            clear H1
            replace H := Option.bind_eq_some_iff.mp H
            obtain ⟨t328, A530, H⟩ := H
            replace H : (some t328) = some r := H
            have A53 := Aside0.mk A530
            clear A530
            obtain rfl := Option.some.inj H
            go_wp2_with (first | ((with_reducible refine gate_dst (N := 98) rfl ?_); refine Kd.R_lit (Kd.int .u64) _ 23 ?hg (N := 98) ?hd (xs := ([a1, a2] : List Int)) (inner := [.int .u64 a1, .int .u64 a2]) (ok := fun _ => True) (okp := fun _ => True) ?hr ?hp (fun _ hk => hk) trivial (Below.refl _ _) (Nat.le_refl _) (by simp) ?_; (case hd => rfl); (case hg => rfl); (case hr => first | (go_simp; done) | (go_simp; rfl)); (case hp => exact (Reps.one (show Kd.M (Kd.int .u64) _ _ _ a1 [.int .u64 a1] from rfl) (Reps.one (show Kd.M (Kd.int .u64) _ _ _ a2 [.int .u64 a2] from rfl) (Reps.none _ _)))); intro v315 w54 ho55 hb hg_ hnew_; clear hg_ hnew_; (first | rw [← Ny314.out] at ho55 | (simp only [Int.reduceToNat] at ho55; rw [← Ny314.out] at ho55)); have n0_ := Aside0.mk (Kd.R_below (by (with_reducible repeat (first | apply Kd.R_alloc | apply Kd.R_drewN | apply Kd.R_drew)); exact HO_11.out) hb); have n1_ := Aside0.mk (Kd.R_lower ho55 (below_size (by repeat (first | (with_reducible first | exact HB.out | apply below_alloc | apply pw_below_drewN | apply below_drew1) | exact HB.out)))); have n2_ := Aside0.mk (below_step (by repeat (first | (with_reducible first | exact HB.out | apply below_alloc | apply pw_below_drewN | apply below_drew1) | exact HB.out)) hb); clear HO_11; clear HB; have HO_11 := n0_; have HO316 := n1_; have HB := n2_; clear n0_ n1_ n2_; clear hb ho55; obtain ⟨Ao56, co56, eo56⟩ := Kd.R_slice HO316.out; subst eo56) | ((with_reducible refine gate_callee (f := 10) rfl ?_); refine goesL_ (some 99) rfl rfl Try.func10 (by kernel_rfl) rfl #[.slice Ao13 t288.length co13, .slice Ao56 y314.length co56] rfl (by (try simp only [List.map_toArray, List.map_cons, List.map_nil]); first | done | rfl | (simp only [List.length_drop, List.length_take]; rfl)) ?_; (with_reducible refine (varint_Put.calls kj10 _ _ t288 _ _ y314 t317 _ ?side1 ?side2 ?side3 ?side4 A46.out).mono ?_); (case side1 => repeat (first | exact (Kd.R_reads' HO_11.out).2.2 | (with_reducible refine Kd.C_alloc ?_ _) | (with_reducible refine Kd.C_drewN ?_ _) | (with_reducible refine Kd.C_drew ?_))); (case side2 => exact (Kd.R_reads' HO_11.out).2.1); (case side3 => repeat (first | exact (Kd.R_reads' HO316.out).2.2 | (with_reducible refine Kd.C_alloc ?_ _) | (with_reducible refine Kd.C_drewN ?_ _) | (with_reducible refine Kd.C_drew ?_))); (case side4 => exact (Kd.R_reads' HO316.out).2.1); rintro e w57 ⟨v318, rfl, ho0, hb⟩; refine ⟨_, rfl, ?_⟩; have n0_ := Aside0.mk (Kd.R_elder' (by (with_reducible repeat (first | apply Kd.R_alloc | apply Kd.R_drewN | apply Kd.R_drew)); exact HO_11.out) (Kd.R_base ho0) hb); have n1_ := Aside0.mk (Kd.R_below (by (with_reducible repeat (first | apply Kd.R_alloc | apply Kd.R_drewN | apply Kd.R_drew)); exact HO316.out) hb); have n2_ := Aside0.mk (Kd.R_lower (Kd.R_new' ho0 (Kd.R_lt (by (with_reducible repeat (first | apply Kd.R_alloc | apply Kd.R_drewN | apply Kd.R_drew)); exact HO_11.out))) (below_size (by repeat (first | (with_reducible first | exact HB.out | apply below_alloc | apply pw_below_drewN | apply below_drew1) | exact HB.out)))); have n3_ := Aside0.mk (below_step (by repeat (first | (with_reducible first | exact HB.out | apply below_alloc | apply pw_below_drewN | apply below_drew1) | exact HB.out)) hb); clear HO_11; clear HO316; clear HB; have HO_11 := n0_; have HO316 := n1_; have HO319 := n2_; have HB := n3_; clear n0_ n1_ n2_ n3_; (try clear hb); (try clear hb2); (try clear hk); (try clear hi); (try clear ho0)) | ((with_reducible refine gate_callee (f := 21) rfl ?_); refine goesL_ (some 102) rfl rfl Try.func21 (by kernel_rfl) rfl #[.slice A0 l0.length c0, .int .u64 a1] rfl (by (try simp only [List.map_toArray, List.map_cons, List.map_nil]); first | done | rfl | (simp only [List.length_drop, List.length_take]; rfl)) ?_; (with_reducible refine (waybillref01_Put.calls kj10 _ _ l0 a1 t320 _ ?side1 ?side2 A47.out).mono ?_); (case side1 => repeat (first | exact (Kd.C_below HR0.out HB.out) | (with_reducible refine Kd.C_alloc ?_ _) | (with_reducible refine Kd.C_drewN ?_ _) | (with_reducible refine Kd.C_drew ?_))); (case side2 => exact HC0.out); rintro e w58 ⟨v321, rfl, ho0, hb⟩; refine ⟨_, rfl, ?_⟩; have n0_ := Aside0.mk (Kd.R_elder' (by (with_reducible repeat (first | apply Kd.R_alloc | apply Kd.R_drewN | apply Kd.R_drew)); exact HO_11.out) (Kd.R_base ho0) hb); have n1_ := Aside0.mk (Kd.R_below (by (with_reducible repeat (first | apply Kd.R_alloc | apply Kd.R_drewN | apply Kd.R_drew)); exact HO316.out) hb); have n2_ := Aside0.mk (Kd.R_elder' (by (with_reducible repeat (first | apply Kd.R_alloc | apply Kd.R_drewN | apply Kd.R_drew)); exact HO319.out) (Kd.R_base ho0) hb); have n3_ := Aside0.mk (Kd.R_lower (Kd.R_new' (Kd.R_new' ho0 (Kd.R_lt (by (with_reducible repeat (first | apply Kd.R_alloc | apply Kd.R_drewN | apply Kd.R_drew)); exact HO_11.out))) (Kd.R_lt (by (with_reducible repeat (first | apply Kd.R_alloc | apply Kd.R_drewN | apply Kd.R_drew)); exact HO319.out))) (below_size (by repeat (first | (with_reducible first | exact HB.out | apply below_alloc | apply pw_below_drewN | apply below_drew1) | exact HB.out)))); have n4_ := Aside0.mk (below_step (by repeat (first | (with_reducible first | exact HB.out | apply below_alloc | apply pw_below_drewN | apply below_drew1) | exact HB.out)) hb); clear HO_11; clear HO316; clear HO319; clear HB; have HO_11 := n0_; have HO316 := n1_; have HO319 := n2_; have HO322 := n3_; have HB := n4_; clear n0_ n1_ n2_ n3_ n4_; (try clear hb); (try clear hb2); (try clear hk); (try clear hi); (try clear ho0); obtain ⟨Ao59, co59, eo59⟩ := Kd.R_slice HO322.out; subst eo59) | ((with_reducible refine gate_callee (f := 21) rfl ?_); refine goesL_ (some 104) rfl rfl Try.func21 (by kernel_rfl) rfl #[.slice Ao59 t320.length co59, .int .u64 a2] rfl (by (try simp only [List.map_toArray, List.map_cons, List.map_nil]); first | done | rfl | (simp only [List.length_drop, List.length_take]; rfl)) ?_; (with_reducible refine (waybillref01_Put.calls kj10 _ _ t320 a2 t323 _ ?side1 ?side2 A48.out).mono ?_); (case side1 => repeat (first | exact (Kd.R_reads' HO322.out).2.2 | (with_reducible refine Kd.C_alloc ?_ _) | (with_reducible refine Kd.C_drewN ?_ _) | (with_reducible refine Kd.C_drew ?_))); (case side2 => exact (Kd.R_reads' HO322.out).2.1); rintro e w60 ⟨v324, rfl, ho0, hb⟩; refine ⟨_, rfl, ?_⟩; have n0_ := Aside0.mk (Kd.R_elder' (by (with_reducible repeat (first | apply Kd.R_alloc | apply Kd.R_drewN | apply Kd.R_drew)); exact HO_11.out) (Kd.R_base ho0) hb); have n1_ := Aside0.mk (Kd.R_below (by (with_reducible repeat (first | apply Kd.R_alloc | apply Kd.R_drewN | apply Kd.R_drew)); exact HO316.out) hb); have n2_ := Aside0.mk (Kd.R_elder' (by (with_reducible repeat (first | apply Kd.R_alloc | apply Kd.R_drewN | apply Kd.R_drew)); exact HO319.out) (Kd.R_base ho0) hb); have n3_ := Aside0.mk (Kd.R_elder' (by (with_reducible repeat (first | apply Kd.R_alloc | apply Kd.R_drewN | apply Kd.R_drew)); exact HO322.out) (Kd.R_base ho0) hb); have n4_ := Aside0.mk (Kd.R_lower (Kd.R_new' (Kd.R_new' (Kd.R_new' ho0 (Kd.R_lt (by (with_reducible repeat (first | apply Kd.R_alloc | apply Kd.R_drewN | apply Kd.R_drew)); exact HO_11.out))) (Kd.R_lt (by (with_reducible repeat (first | apply Kd.R_alloc | apply Kd.R_drewN | apply Kd.R_drew)); exact HO319.out))) (Kd.R_lt (by (with_reducible repeat (first | apply Kd.R_alloc | apply Kd.R_drewN | apply Kd.R_drew)); exact HO322.out))) (below_size (by repeat (first | (with_reducible first | exact HB.out | apply below_alloc | apply pw_below_drewN | apply below_drew1) | exact HB.out)))); have n5_ := Aside0.mk (below_step (by repeat (first | (with_reducible first | exact HB.out | apply below_alloc | apply pw_below_drewN | apply below_drew1) | exact HB.out)) hb); clear HO_11; clear HO316; clear HO319; clear HO322; clear HB; have HO_11 := n0_; have HO316 := n1_; have HO319 := n2_; have HO322 := n3_; have HO325 := n4_; have HB := n5_; clear n0_ n1_ n2_ n3_ n4_ n5_; (try clear hb); (try clear hb2); (try clear hk); (try clear hi); (try clear ho0); obtain ⟨Ao61, co61, eo61⟩ := Kd.R_slice HO319.out; subst eo61; obtain ⟨Ao62, co62, eo62⟩ := Kd.R_slice HO325.out; subst eo62) | ((with_reducible refine gate_callee (f := 20) rfl ?_); refine goesL_ (some 105) rfl rfl Try.func20 (by kernel_rfl) rfl #[.slice Ao61 t317.length co61, .slice Ao62 t323.length co62] rfl (by (try simp only [List.map_toArray, List.map_cons, List.map_nil]); first | done | rfl | (simp only [List.length_drop, List.length_take]; rfl)) ?_; (with_reducible refine (waybillplain_SameBytes.calls _ _ t317 _ _ t323 true _ ?side1 ?side2 ?side3 ?side4 A49.out).mono ?_); (case side1 => repeat (first | exact (Kd.R_reads' HO319.out).2.2 | (with_reducible refine Kd.C_alloc ?_ _) | (with_reducible refine Kd.C_drewN ?_ _) | (with_reducible refine Kd.C_drew ?_))); (case side2 => exact (Kd.R_reads' HO319.out).2.1); (case side3 => repeat (first | exact (Kd.R_reads' HO325.out).2.2 | (with_reducible refine Kd.C_alloc ?_ _) | (with_reducible refine Kd.C_drewN ?_ _) | (with_reducible refine Kd.C_drew ?_))); (case side4 => exact (Kd.R_reads' HO325.out).2.1); rintro e w' ⟨rfl, ⟨nd, rfl⟩⟩; refine ⟨_, rfl, ?_⟩) | (go_at_call 20; (with_reducible refine (waybillplain_SameBytes.calls _ _ t288 _ _ l0 true _ ?side1 ?side2 ?side3 ?side4 A51.out).mono ?_); (case side1 => repeat (first | exact (Kd.R_reads' HO_11.out).2.2 | (with_reducible refine Kd.C_alloc ?_ _) | (with_reducible refine Kd.C_drewN ?_ _) | (with_reducible refine Kd.C_drew ?_))); (case side2 => exact (Kd.R_reads' HO_11.out).2.1); (case side3 => repeat (first | exact (Kd.C_below HR0.out (by repeat (first | (with_reducible first | exact HB.out | apply below_alloc | apply pw_below_drewN | apply below_drew1) | exact HB.out))) | (with_reducible refine Kd.C_alloc ?_ _) | (with_reducible refine Kd.C_drewN ?_ _) | (with_reducible refine Kd.C_drew ?_))); (case side4 => exact HC0.out); rintro e w' ⟨rfl, ⟨nd, rfl⟩⟩) | (go_at_call 9; (with_reducible refine (waybilllaw01_alive.calls kj10  t328 _ A53.out).mono ?_); rintro e w63 ⟨rfl, hb⟩; have n0_ := Aside0.mk (Kd.R_below (by (with_reducible repeat (first | apply Kd.R_alloc | apply Kd.R_drewN | apply Kd.R_drew)); exact HO_11.out) hb); have n1_ := Aside0.mk (Kd.R_below (by (with_reducible repeat (first | apply Kd.R_alloc | apply Kd.R_drewN | apply Kd.R_drew)); exact HO316.out) hb); have n2_ := Aside0.mk (Kd.R_below (by (with_reducible repeat (first | apply Kd.R_alloc | apply Kd.R_drewN | apply Kd.R_drew)); exact HO319.out) hb); have n3_ := Aside0.mk (Kd.R_below (by (with_reducible repeat (first | apply Kd.R_alloc | apply Kd.R_drewN | apply Kd.R_drew)); exact HO322.out) hb); have n4_ := Aside0.mk (Kd.R_below (by (with_reducible repeat (first | apply Kd.R_alloc | apply Kd.R_drewN | apply Kd.R_drew)); exact HO325.out) hb); have n5_ := Aside0.mk (below_step (by repeat (first | (with_reducible first | exact HB.out | apply below_alloc | apply pw_below_drewN | apply below_drew1) | exact HB.out)) hb); clear HO_11; clear HO316; clear HO319; clear HO322; clear HO325; clear HB; have HO_11 := n0_; have HO316 := n1_; have HO319 := n2_; have HO322 := n3_; have HO325 := n4_; have HB := n5_; clear n0_ n1_ n2_ n3_ n4_ n5_; (try clear hb); (try clear hb2); (try clear hk); (try clear hi)))
            go_ret
            exact ⟨by first | rfl | (simp [errW_none, errW_some] <;> rfl) | (simp [*, errW_none, errW_some] <;> rfl), by repeat (first | (with_reducible first | exact HB.out | apply below_alloc | apply pw_below_drewN | apply below_drew1) | exact HB.out)⟩
          · replace c52 := Bool.eq_false_iff.mpr c52
            subst c52
            have H1 : (some false) = some r := by rw [if_neg (show ¬ (false = true) by decide)] at H; exact H
            clear H
            have H := H1
            clear H1
            obtain rfl := Option.some.inj H
            go_wp2_with (first | ((with_reducible refine gate_dst (N := 98) rfl ?_); refine Kd.R_lit (Kd.int .u64) _ 23 ?hg (N := 98) ?hd (xs := ([a1, a2] : List Int)) (inner := [.int .u64 a1, .int .u64 a2]) (ok := fun _ => True) (okp := fun _ => True) ?hr ?hp (fun _ hk => hk) trivial (Below.refl _ _) (Nat.le_refl _) (by simp) ?_; (case hd => rfl); (case hg => rfl); (case hr => first | (go_simp; done) | (go_simp; rfl)); (case hp => exact (Reps.one (show Kd.M (Kd.int .u64) _ _ _ a1 [.int .u64 a1] from rfl) (Reps.one (show Kd.M (Kd.int .u64) _ _ _ a2 [.int .u64 a2] from rfl) (Reps.none _ _)))); intro v315 w64 ho65 hb hg_ hnew_; clear hg_ hnew_; (first | rw [← Ny314.out] at ho65 | (simp only [Int.reduceToNat] at ho65; rw [← Ny314.out] at ho65)); have n0_ := Aside0.mk (Kd.R_below (by (with_reducible repeat (first | apply Kd.R_alloc | apply Kd.R_drewN | apply Kd.R_drew)); exact HO_11.out) hb); have n1_ := Aside0.mk (Kd.R_lower ho65 (below_size (by repeat (first | (with_reducible first | exact HB.out | apply below_alloc | apply pw_below_drewN | apply below_drew1) | exact HB.out)))); have n2_ := Aside0.mk (below_step (by repeat (first | (with_reducible first | exact HB.out | apply below_alloc | apply pw_below_drewN | apply below_drew1) | exact HB.out)) hb); clear HO_11; clear HB; have HO_11 := n0_; have HO316 := n1_; have HB := n2_; clear n0_ n1_ n2_; clear hb ho65; obtain ⟨Ao66, co66, eo66⟩ := Kd.R_slice HO316.out; subst eo66) | ((with_reducible refine gate_callee (f := 10) rfl ?_); refine goesL_ (some 99) rfl rfl Try.func10 (by kernel_rfl) rfl #[.slice Ao13 t288.length co13, .slice Ao66 y314.length co66] rfl (by (try simp only [List.map_toArray, List.map_cons, List.map_nil]); first | done | rfl | (simp only [List.length_drop, List.length_take]; rfl)) ?_; (with_reducible refine (varint_Put.calls kj10 _ _ t288 _ _ y314 t317 _ ?side1 ?side2 ?side3 ?side4 A46.out).mono ?_); (case side1 => repeat (first | exact (Kd.R_reads' HO_11.out).2.2 | (with_reducible refine Kd.C_alloc ?_ _) | (with_reducible refine Kd.C_drewN ?_ _) | (with_reducible refine Kd.C_drew ?_))); (case side2 => exact (Kd.R_reads' HO_11.out).2.1); (case side3 => repeat (first | exact (Kd.R_reads' HO316.out).2.2 | (with_reducible refine Kd.C_alloc ?_ _) | (with_reducible refine Kd.C_drewN ?_ _) | (with_reducible refine Kd.C_drew ?_))); (case side4 => exact (Kd.R_reads' HO316.out).2.1); rintro e w67 ⟨v318, rfl, ho0, hb⟩; refine ⟨_, rfl, ?_⟩; have n0_ := Aside0.mk (Kd.R_elder' (by (with_reducible repeat (first | apply Kd.R_alloc | apply Kd.R_drewN | apply Kd.R_drew)); exact HO_11.out) (Kd.R_base ho0) hb); have n1_ := Aside0.mk (Kd.R_below (by (with_reducible repeat (first | apply Kd.R_alloc | apply Kd.R_drewN | apply Kd.R_drew)); exact HO316.out) hb); have n2_ := Aside0.mk (Kd.R_lower (Kd.R_new' ho0 (Kd.R_lt (by (with_reducible repeat (first | apply Kd.R_alloc | apply Kd.R_drewN | apply Kd.R_drew)); exact HO_11.out))) (below_size (by repeat (first | (with_reducible first | exact HB.out | apply below_alloc | apply pw_below_drewN | apply below_drew1) | exact HB.out)))); have n3_ := Aside0.mk (below_step (by repeat (first | (with_reducible first | exact HB.out | apply below_alloc | apply pw_below_drewN | apply below_drew1) | exact HB.out)) hb); clear HO_11; clear HO316; clear HB; have HO_11 := n0_; have HO316 := n1_; have HO319 := n2_; have HB := n3_; clear n0_ n1_ n2_ n3_; (try clear hb); (try clear hb2); (try clear hk); (try clear hi); (try clear ho0)) | ((with_reducible refine gate_callee (f := 21) rfl ?_); refine goesL_ (some 102) rfl rfl Try.func21 (by kernel_rfl) rfl #[.slice A0 l0.length c0, .int .u64 a1] rfl (by (try simp only [List.map_toArray, List.map_cons, List.map_nil]); first | done | rfl | (simp only [List.length_drop, List.length_take]; rfl)) ?_; (with_reducible refine (waybillref01_Put.calls kj10 _ _ l0 a1 t320 _ ?side1 ?side2 A47.out).mono ?_); (case side1 => repeat (first | exact (Kd.C_below HR0.out HB.out) | (with_reducible refine Kd.C_alloc ?_ _) | (with_reducible refine Kd.C_drewN ?_ _) | (with_reducible refine Kd.C_drew ?_))); (case side2 => exact HC0.out); rintro e w68 ⟨v321, rfl, ho0, hb⟩; refine ⟨_, rfl, ?_⟩; have n0_ := Aside0.mk (Kd.R_elder' (by (with_reducible repeat (first | apply Kd.R_alloc | apply Kd.R_drewN | apply Kd.R_drew)); exact HO_11.out) (Kd.R_base ho0) hb); have n1_ := Aside0.mk (Kd.R_below (by (with_reducible repeat (first | apply Kd.R_alloc | apply Kd.R_drewN | apply Kd.R_drew)); exact HO316.out) hb); have n2_ := Aside0.mk (Kd.R_elder' (by (with_reducible repeat (first | apply Kd.R_alloc | apply Kd.R_drewN | apply Kd.R_drew)); exact HO319.out) (Kd.R_base ho0) hb); have n3_ := Aside0.mk (Kd.R_lower (Kd.R_new' (Kd.R_new' ho0 (Kd.R_lt (by (with_reducible repeat (first | apply Kd.R_alloc | apply Kd.R_drewN | apply Kd.R_drew)); exact HO_11.out))) (Kd.R_lt (by (with_reducible repeat (first | apply Kd.R_alloc | apply Kd.R_drewN | apply Kd.R_drew)); exact HO319.out))) (below_size (by repeat (first | (with_reducible first | exact HB.out | apply below_alloc | apply pw_below_drewN | apply below_drew1) | exact HB.out)))); have n4_ := Aside0.mk (below_step (by repeat (first | (with_reducible first | exact HB.out | apply below_alloc | apply pw_below_drewN | apply below_drew1) | exact HB.out)) hb); clear HO_11; clear HO316; clear HO319; clear HB; have HO_11 := n0_; have HO316 := n1_; have HO319 := n2_; have HO322 := n3_; have HB := n4_; clear n0_ n1_ n2_ n3_ n4_; (try clear hb); (try clear hb2); (try clear hk); (try clear hi); (try clear ho0); obtain ⟨Ao69, co69, eo69⟩ := Kd.R_slice HO322.out; subst eo69) | ((with_reducible refine gate_callee (f := 21) rfl ?_); refine goesL_ (some 104) rfl rfl Try.func21 (by kernel_rfl) rfl #[.slice Ao69 t320.length co69, .int .u64 a2] rfl (by (try simp only [List.map_toArray, List.map_cons, List.map_nil]); first | done | rfl | (simp only [List.length_drop, List.length_take]; rfl)) ?_; (with_reducible refine (waybillref01_Put.calls kj10 _ _ t320 a2 t323 _ ?side1 ?side2 A48.out).mono ?_); (case side1 => repeat (first | exact (Kd.R_reads' HO322.out).2.2 | (with_reducible refine Kd.C_alloc ?_ _) | (with_reducible refine Kd.C_drewN ?_ _) | (with_reducible refine Kd.C_drew ?_))); (case side2 => exact (Kd.R_reads' HO322.out).2.1); rintro e w70 ⟨v324, rfl, ho0, hb⟩; refine ⟨_, rfl, ?_⟩; have n0_ := Aside0.mk (Kd.R_elder' (by (with_reducible repeat (first | apply Kd.R_alloc | apply Kd.R_drewN | apply Kd.R_drew)); exact HO_11.out) (Kd.R_base ho0) hb); have n1_ := Aside0.mk (Kd.R_below (by (with_reducible repeat (first | apply Kd.R_alloc | apply Kd.R_drewN | apply Kd.R_drew)); exact HO316.out) hb); have n2_ := Aside0.mk (Kd.R_elder' (by (with_reducible repeat (first | apply Kd.R_alloc | apply Kd.R_drewN | apply Kd.R_drew)); exact HO319.out) (Kd.R_base ho0) hb); have n3_ := Aside0.mk (Kd.R_elder' (by (with_reducible repeat (first | apply Kd.R_alloc | apply Kd.R_drewN | apply Kd.R_drew)); exact HO322.out) (Kd.R_base ho0) hb); have n4_ := Aside0.mk (Kd.R_lower (Kd.R_new' (Kd.R_new' (Kd.R_new' ho0 (Kd.R_lt (by (with_reducible repeat (first | apply Kd.R_alloc | apply Kd.R_drewN | apply Kd.R_drew)); exact HO_11.out))) (Kd.R_lt (by (with_reducible repeat (first | apply Kd.R_alloc | apply Kd.R_drewN | apply Kd.R_drew)); exact HO319.out))) (Kd.R_lt (by (with_reducible repeat (first | apply Kd.R_alloc | apply Kd.R_drewN | apply Kd.R_drew)); exact HO322.out))) (below_size (by repeat (first | (with_reducible first | exact HB.out | apply below_alloc | apply pw_below_drewN | apply below_drew1) | exact HB.out)))); have n5_ := Aside0.mk (below_step (by repeat (first | (with_reducible first | exact HB.out | apply below_alloc | apply pw_below_drewN | apply below_drew1) | exact HB.out)) hb); clear HO_11; clear HO316; clear HO319; clear HO322; clear HB; have HO_11 := n0_; have HO316 := n1_; have HO319 := n2_; have HO322 := n3_; have HO325 := n4_; have HB := n5_; clear n0_ n1_ n2_ n3_ n4_ n5_; (try clear hb); (try clear hb2); (try clear hk); (try clear hi); (try clear ho0); obtain ⟨Ao71, co71, eo71⟩ := Kd.R_slice HO319.out; subst eo71; obtain ⟨Ao72, co72, eo72⟩ := Kd.R_slice HO325.out; subst eo72) | ((with_reducible refine gate_callee (f := 20) rfl ?_); refine goesL_ (some 105) rfl rfl Try.func20 (by kernel_rfl) rfl #[.slice Ao71 t317.length co71, .slice Ao72 t323.length co72] rfl (by (try simp only [List.map_toArray, List.map_cons, List.map_nil]); first | done | rfl | (simp only [List.length_drop, List.length_take]; rfl)) ?_; (with_reducible refine (waybillplain_SameBytes.calls _ _ t317 _ _ t323 true _ ?side1 ?side2 ?side3 ?side4 A49.out).mono ?_); (case side1 => repeat (first | exact (Kd.R_reads' HO319.out).2.2 | (with_reducible refine Kd.C_alloc ?_ _) | (with_reducible refine Kd.C_drewN ?_ _) | (with_reducible refine Kd.C_drew ?_))); (case side2 => exact (Kd.R_reads' HO319.out).2.1); (case side3 => repeat (first | exact (Kd.R_reads' HO325.out).2.2 | (with_reducible refine Kd.C_alloc ?_ _) | (with_reducible refine Kd.C_drewN ?_ _) | (with_reducible refine Kd.C_drew ?_))); (case side4 => exact (Kd.R_reads' HO325.out).2.1); rintro e w' ⟨rfl, ⟨nd, rfl⟩⟩; refine ⟨_, rfl, ?_⟩) | (go_at_call 20; (with_reducible refine (waybillplain_SameBytes.calls _ _ t288 _ _ l0 false _ ?side1 ?side2 ?side3 ?side4 A51.out).mono ?_); (case side1 => repeat (first | exact (Kd.R_reads' HO_11.out).2.2 | (with_reducible refine Kd.C_alloc ?_ _) | (with_reducible refine Kd.C_drewN ?_ _) | (with_reducible refine Kd.C_drew ?_))); (case side2 => exact (Kd.R_reads' HO_11.out).2.1); (case side3 => repeat (first | exact (Kd.C_below HR0.out (by repeat (first | (with_reducible first | exact HB.out | apply below_alloc | apply pw_below_drewN | apply below_drew1) | exact HB.out))) | (with_reducible refine Kd.C_alloc ?_ _) | (with_reducible refine Kd.C_drewN ?_ _) | (with_reducible refine Kd.C_drew ?_))); (case side4 => exact HC0.out); rintro e w' ⟨rfl, ⟨nd, rfl⟩⟩))
            go_ret
            exact ⟨by first | rfl | (simp [errW_none, errW_some] <;> rfl) | (simp [*, errW_none, errW_some] <;> rfl), by repeat (first | (with_reducible first | exact HB.out | apply below_alloc | apply pw_below_drewN | apply below_drew1) | exact HB.out)⟩
        · replace c50 := Bool.eq_false_iff.mpr c50
          subst c50
          have H1 : (some false) = some r := by rw [if_neg (show ¬ (false = true) by decide)] at H; exact H
          clear H
          have H := H1
          clear H1
          obtain rfl := Option.some.inj H
          go_wp2_with (first | ((with_reducible refine gate_dst (N := 98) rfl ?_); refine Kd.R_lit (Kd.int .u64) _ 23 ?hg (N := 98) ?hd (xs := ([a1, a2] : List Int)) (inner := [.int .u64 a1, .int .u64 a2]) (ok := fun _ => True) (okp := fun _ => True) ?hr ?hp (fun _ hk => hk) trivial (Below.refl _ _) (Nat.le_refl _) (by simp) ?_; (case hd => rfl); (case hg => rfl); (case hr => first | (go_simp; done) | (go_simp; rfl)); (case hp => exact (Reps.one (show Kd.M (Kd.int .u64) _ _ _ a1 [.int .u64 a1] from rfl) (Reps.one (show Kd.M (Kd.int .u64) _ _ _ a2 [.int .u64 a2] from rfl) (Reps.none _ _)))); intro v315 w73 ho74 hb hg_ hnew_; clear hg_ hnew_; (first | rw [← Ny314.out] at ho74 | (simp only [Int.reduceToNat] at ho74; rw [← Ny314.out] at ho74)); have n0_ := Aside0.mk (Kd.R_below (by (with_reducible repeat (first | apply Kd.R_alloc | apply Kd.R_drewN | apply Kd.R_drew)); exact HO_11.out) hb); have n1_ := Aside0.mk (Kd.R_lower ho74 (below_size (by repeat (first | (with_reducible first | exact HB.out | apply below_alloc | apply pw_below_drewN | apply below_drew1) | exact HB.out)))); have n2_ := Aside0.mk (below_step (by repeat (first | (with_reducible first | exact HB.out | apply below_alloc | apply pw_below_drewN | apply below_drew1) | exact HB.out)) hb); clear HO_11; clear HB; have HO_11 := n0_; have HO316 := n1_; have HB := n2_; clear n0_ n1_ n2_; clear hb ho74; obtain ⟨Ao75, co75, eo75⟩ := Kd.R_slice HO316.out; subst eo75) | ((with_reducible refine gate_callee (f := 10) rfl ?_); refine goesL_ (some 99) rfl rfl Try.func10 (by kernel_rfl) rfl #[.slice Ao13 t288.length co13, .slice Ao75 y314.length co75] rfl (by (try simp only [List.map_toArray, List.map_cons, List.map_nil]); first | done | rfl | (simp only [List.length_drop, List.length_take]; rfl)) ?_; (with_reducible refine (varint_Put.calls kj10 _ _ t288 _ _ y314 t317 _ ?side1 ?side2 ?side3 ?side4 A46.out).mono ?_); (case side1 => repeat (first | exact (Kd.R_reads' HO_11.out).2.2 | (with_reducible refine Kd.C_alloc ?_ _) | (with_reducible refine Kd.C_drewN ?_ _) | (with_reducible refine Kd.C_drew ?_))); (case side2 => exact (Kd.R_reads' HO_11.out).2.1); (case side3 => repeat (first | exact (Kd.R_reads' HO316.out).2.2 | (with_reducible refine Kd.C_alloc ?_ _) | (with_reducible refine Kd.C_drewN ?_ _) | (with_reducible refine Kd.C_drew ?_))); (case side4 => exact (Kd.R_reads' HO316.out).2.1); rintro e w76 ⟨v318, rfl, ho0, hb⟩; refine ⟨_, rfl, ?_⟩; have n0_ := Aside0.mk (Kd.R_elder' (by (with_reducible repeat (first | apply Kd.R_alloc | apply Kd.R_drewN | apply Kd.R_drew)); exact HO_11.out) (Kd.R_base ho0) hb); have n1_ := Aside0.mk (Kd.R_below (by (with_reducible repeat (first | apply Kd.R_alloc | apply Kd.R_drewN | apply Kd.R_drew)); exact HO316.out) hb); have n2_ := Aside0.mk (Kd.R_lower (Kd.R_new' ho0 (Kd.R_lt (by (with_reducible repeat (first | apply Kd.R_alloc | apply Kd.R_drewN | apply Kd.R_drew)); exact HO_11.out))) (below_size (by repeat (first | (with_reducible first | exact HB.out | apply below_alloc | apply pw_below_drewN | apply below_drew1) | exact HB.out)))); have n3_ := Aside0.mk (below_step (by repeat (first | (with_reducible first | exact HB.out | apply below_alloc | apply pw_below_drewN | apply below_drew1) | exact HB.out)) hb); clear HO_11; clear HO316; clear HB; have HO_11 := n0_; have HO316 := n1_; have HO319 := n2_; have HB := n3_; clear n0_ n1_ n2_ n3_; (try clear hb); (try clear hb2); (try clear hk); (try clear hi); (try clear ho0)) | ((with_reducible refine gate_callee (f := 21) rfl ?_); refine goesL_ (some 102) rfl rfl Try.func21 (by kernel_rfl) rfl #[.slice A0 l0.length c0, .int .u64 a1] rfl (by (try simp only [List.map_toArray, List.map_cons, List.map_nil]); first | done | rfl | (simp only [List.length_drop, List.length_take]; rfl)) ?_; (with_reducible refine (waybillref01_Put.calls kj10 _ _ l0 a1 t320 _ ?side1 ?side2 A47.out).mono ?_); (case side1 => repeat (first | exact (Kd.C_below HR0.out HB.out) | (with_reducible refine Kd.C_alloc ?_ _) | (with_reducible refine Kd.C_drewN ?_ _) | (with_reducible refine Kd.C_drew ?_))); (case side2 => exact HC0.out); rintro e w77 ⟨v321, rfl, ho0, hb⟩; refine ⟨_, rfl, ?_⟩; have n0_ := Aside0.mk (Kd.R_elder' (by (with_reducible repeat (first | apply Kd.R_alloc | apply Kd.R_drewN | apply Kd.R_drew)); exact HO_11.out) (Kd.R_base ho0) hb); have n1_ := Aside0.mk (Kd.R_below (by (with_reducible repeat (first | apply Kd.R_alloc | apply Kd.R_drewN | apply Kd.R_drew)); exact HO316.out) hb); have n2_ := Aside0.mk (Kd.R_elder' (by (with_reducible repeat (first | apply Kd.R_alloc | apply Kd.R_drewN | apply Kd.R_drew)); exact HO319.out) (Kd.R_base ho0) hb); have n3_ := Aside0.mk (Kd.R_lower (Kd.R_new' (Kd.R_new' ho0 (Kd.R_lt (by (with_reducible repeat (first | apply Kd.R_alloc | apply Kd.R_drewN | apply Kd.R_drew)); exact HO_11.out))) (Kd.R_lt (by (with_reducible repeat (first | apply Kd.R_alloc | apply Kd.R_drewN | apply Kd.R_drew)); exact HO319.out))) (below_size (by repeat (first | (with_reducible first | exact HB.out | apply below_alloc | apply pw_below_drewN | apply below_drew1) | exact HB.out)))); have n4_ := Aside0.mk (below_step (by repeat (first | (with_reducible first | exact HB.out | apply below_alloc | apply pw_below_drewN | apply below_drew1) | exact HB.out)) hb); clear HO_11; clear HO316; clear HO319; clear HB; have HO_11 := n0_; have HO316 := n1_; have HO319 := n2_; have HO322 := n3_; have HB := n4_; clear n0_ n1_ n2_ n3_ n4_; (try clear hb); (try clear hb2); (try clear hk); (try clear hi); (try clear ho0); obtain ⟨Ao78, co78, eo78⟩ := Kd.R_slice HO322.out; subst eo78) | ((with_reducible refine gate_callee (f := 21) rfl ?_); refine goesL_ (some 104) rfl rfl Try.func21 (by kernel_rfl) rfl #[.slice Ao78 t320.length co78, .int .u64 a2] rfl (by (try simp only [List.map_toArray, List.map_cons, List.map_nil]); first | done | rfl | (simp only [List.length_drop, List.length_take]; rfl)) ?_; (with_reducible refine (waybillref01_Put.calls kj10 _ _ t320 a2 t323 _ ?side1 ?side2 A48.out).mono ?_); (case side1 => repeat (first | exact (Kd.R_reads' HO322.out).2.2 | (with_reducible refine Kd.C_alloc ?_ _) | (with_reducible refine Kd.C_drewN ?_ _) | (with_reducible refine Kd.C_drew ?_))); (case side2 => exact (Kd.R_reads' HO322.out).2.1); rintro e w79 ⟨v324, rfl, ho0, hb⟩; refine ⟨_, rfl, ?_⟩; have n0_ := Aside0.mk (Kd.R_elder' (by (with_reducible repeat (first | apply Kd.R_alloc | apply Kd.R_drewN | apply Kd.R_drew)); exact HO_11.out) (Kd.R_base ho0) hb); have n1_ := Aside0.mk (Kd.R_below (by (with_reducible repeat (first | apply Kd.R_alloc | apply Kd.R_drewN | apply Kd.R_drew)); exact HO316.out) hb); have n2_ := Aside0.mk (Kd.R_elder' (by (with_reducible repeat (first | apply Kd.R_alloc | apply Kd.R_drewN | apply Kd.R_drew)); exact HO319.out) (Kd.R_base ho0) hb); have n3_ := Aside0.mk (Kd.R_elder' (by (with_reducible repeat (first | apply Kd.R_alloc | apply Kd.R_drewN | apply Kd.R_drew)); exact HO322.out) (Kd.R_base ho0) hb); have n4_ := Aside0.mk (Kd.R_lower (Kd.R_new' (Kd.R_new' (Kd.R_new' ho0 (Kd.R_lt (by (with_reducible repeat (first | apply Kd.R_alloc | apply Kd.R_drewN | apply Kd.R_drew)); exact HO_11.out))) (Kd.R_lt (by (with_reducible repeat (first | apply Kd.R_alloc | apply Kd.R_drewN | apply Kd.R_drew)); exact HO319.out))) (Kd.R_lt (by (with_reducible repeat (first | apply Kd.R_alloc | apply Kd.R_drewN | apply Kd.R_drew)); exact HO322.out))) (below_size (by repeat (first | (with_reducible first | exact HB.out | apply below_alloc | apply pw_below_drewN | apply below_drew1) | exact HB.out)))); have n5_ := Aside0.mk (below_step (by repeat (first | (with_reducible first | exact HB.out | apply below_alloc | apply pw_below_drewN | apply below_drew1) | exact HB.out)) hb); clear HO_11; clear HO316; clear HO319; clear HO322; clear HB; have HO_11 := n0_; have HO316 := n1_; have HO319 := n2_; have HO322 := n3_; have HO325 := n4_; have HB := n5_; clear n0_ n1_ n2_ n3_ n4_ n5_; (try clear hb); (try clear hb2); (try clear hk); (try clear hi); (try clear ho0); obtain ⟨Ao80, co80, eo80⟩ := Kd.R_slice HO319.out; subst eo80; obtain ⟨Ao81, co81, eo81⟩ := Kd.R_slice HO325.out; subst eo81) | ((with_reducible refine gate_callee (f := 20) rfl ?_); refine goesL_ (some 105) rfl rfl Try.func20 (by kernel_rfl) rfl #[.slice Ao80 t317.length co80, .slice Ao81 t323.length co81] rfl (by (try simp only [List.map_toArray, List.map_cons, List.map_nil]); first | done | rfl | (simp only [List.length_drop, List.length_take]; rfl)) ?_; (with_reducible refine (waybillplain_SameBytes.calls _ _ t317 _ _ t323 false _ ?side1 ?side2 ?side3 ?side4 A49.out).mono ?_); (case side1 => repeat (first | exact (Kd.R_reads' HO319.out).2.2 | (with_reducible refine Kd.C_alloc ?_ _) | (with_reducible refine Kd.C_drewN ?_ _) | (with_reducible refine Kd.C_drew ?_))); (case side2 => exact (Kd.R_reads' HO319.out).2.1); (case side3 => repeat (first | exact (Kd.R_reads' HO325.out).2.2 | (with_reducible refine Kd.C_alloc ?_ _) | (with_reducible refine Kd.C_drewN ?_ _) | (with_reducible refine Kd.C_drew ?_))); (case side4 => exact (Kd.R_reads' HO325.out).2.1); rintro e w' ⟨rfl, ⟨nd, rfl⟩⟩; refine ⟨_, rfl, ?_⟩))
          go_ret
          exact ⟨by first | rfl | (simp [errW_none, errW_some] <;> rfl) | (simp [*, errW_none, errW_some] <;> rfl), by repeat (first | (with_reducible first | exact HB.out | apply below_alloc | apply pw_below_drewN | apply below_drew1) | exact HB.out)⟩

/-- THE ONE PURE STATEMENT of waybilllaw01_VarintTells: yours. -/
def waybilllaw01_VarintTells.Pure : Prop := ∀ (l0 : List Int) (a1 : Int) (a2 : Int) (a3 : Int) (a4 : Int), l0.length ≤ maxLen → l0.length * 1 ≤ 140737488351232 → (∀ x ∈ l0, (Lit.int .u8 x).wf = true) → (Lit.int .u64 a1).wf = true → (Lit.int .u64 a2).wf = true → (Lit.int .i64 a3).wf = true → (Lit.int .i64 a4).wf = true → ∃ k, waybilllaw01_VarintTells.f k l0 a1 a2 a3 a4 = some true
theorem waybilllaw01_VarintTells.walk (P : waybilllaw01_VarintTells.Pure) (a0 : Option Addr) (len0 cap0 : Nat) (z0 : List Int) (a1 : Int) (a2 : Int) (a3 : Int) (a4 : Int) (w : World) (w0 : (a0 = none ∧ len0 = 0 ∧ cap0 = 0 ∧ z0 = []) ∨ ∃ x, a0 = some x ∧ len0 ≤ cap0 ∧ cap0 ≤ maxLen ∧ z0.length = cap0 ∧ (∀ i, i < z0.length → w.cell? (x.add i) = some (.int .u8 (z0.getD i 0))) ∧ ∀ n ∈ z0, (Lit.int .u8 n).wf = true) (y0 : len0 * 1 ≤ 140737488351232) (w1 : (Lit.int .u64 a1).wf = true) (w2 : (Lit.int .u64 a2).wf = true) (w3 : (Lit.int .i64 a3).wf = true) (w4 : (Lit.int .i64 a4).wf = true) :
    Calls Try.prog 8 #[.slice a0 len0 cap0, .int .u64 a1, .int .u64 a2, .int .i64 a3, .int .i64 a4] w fun e w' => e = .returned (.bool true) ∧ Below w.heap.size w w' := by
  obtain ⟨l0, rfl, hr0, hm0, hw0, hc0⟩ := ReadsInt.ofRowC w0
  obtain ⟨k, h⟩ := P l0 a1 a2 a3 a4 hm0 y0 hw0 w1 w2 w3 w4
  refine (waybilllaw01_VarintTells.calls k _ _ l0 a1 a2 a3 a4 true w (Kd.C_of_reads (d := (0 : Int)) (h1 := fun _ => rfl) hr0) hc0 h).mono ?_
  rintro e w' ⟨rfl, hd⟩
  exact ⟨rfl, hd⟩

end Go.Proofs.Ytckecoemgadieaa.G
