-- Made by wip/tools/xprint.py (over the kit's print program) for this claim.
import Derived.Test.YtaidadofkbagkaaGx0
import Derived.Test.YtaidadofkbagkaaGx2
import Derived.Test.YtaidadofkbagkaaGx3
import Derived.Test.YtaidadofkbagkaaGx9
namespace Go.Proofs.Ytaidadofkbagkaa.G
open WB Go.RowKit Go.Proofs.YtaidadofkbagkaaW.PrintWords Go.Proofs.YtaidadofkbagkaaW.PrintLast Go.Proofs.YtaidadofkbagkaaW.PrintMore
attribute [local go_sem] max2_int min2_int max_two min_two max_three min_three max_four min_four   -- for this text's walks alone
set_option linter.unusedVariables false
set_option linter.unusedSimpArgs false

/-! ### resolve_Pick: function 18 -/
def risesI : List Int → Bool
  | [] => true
  | [_] => true
  | a :: b :: l => decide (a < b) && risesI (b :: l)
theorem risesI_snoc : ∀ (l : List Int) (a b : Int), risesI (l ++ [a, b]) = (risesI (l ++ [a]) && decide (a < b))
  | [], a, b => by simp [risesI]
  | [x], a, b => by simp [risesI]
  | x :: y :: l, a, b => by
    have h := risesI_snoc (y :: l) a b
    simp only [List.cons_append] at h ⊢
    rw [risesI, h, risesI, Bool.and_assoc]
theorem risesI_step (l : List Int) (k : Nat) (h0 : 0 < k) (hk : k < l.length) : risesI (l.take (k + 1)) = (risesI (l.take k) && decide (l.getD (k - 1) 0 < l.getD k 0)) := by
  obtain ⟨m, rfl⟩ : ∃ m, k = m + 1 := ⟨k - 1, by omega⟩
  have e1 : l.take (m + 1) = l.take m ++ [l[m]'(by omega)] := List.take_succ_eq_append_getElem (by omega)
  have e2 : l.take (m + 1 + 1) = l.take m ++ [l[m]'(by omega), l[m + 1]'hk] := by rw [List.take_succ_eq_append_getElem hk, e1, List.append_assoc]; rfl
  rw [e2, risesI_snoc, ← e1]
  simp [List.getElem?_eq_getElem hk, List.getElem?_eq_getElem (show m < l.length by omega)]
theorem risesI_app : ∀ (l m : List Int), risesI (l ++ m) = true → risesI l = true
  | [], _, _ => rfl
  | [_], _, _ => rfl
  | a :: b :: l, m, h => by
    simp only [List.cons_append] at h
    rw [risesI, Bool.and_eq_true] at h ⊢
    exact ⟨h.1, risesI_app (b :: l) m (by simpa using h.2)⟩
theorem risesI_false (l : List Int) (k : Nat) (h : risesI (l.take k) = false) : risesI l = false := by
  cases hl : risesI l with
  | false => rfl
  | true =>
    rw [← List.take_append_drop k l] at hl
    rw [risesI_app _ _ hl] at h
    cases h
def goneP (l : List S36) (id : Int) : Bool := !(wOf l id).2
def ofP (l : List S36) (id : Int) : S36 := ⟨id, (wOf l id).1⟩
def pickS (v : Int) (l : List S36) (ids : List Int) : List S36 × Int :=
  if checkS v l ≠ 0 then ([], checkS v l) else if ids.any (goneP l) = true then ([], 71) else if risesI ids = false then ([], 6) else (ids.map (ofP l), 0)
def resolve_Pick.f (a0_0 : Int) (l0_1 : List (S36)) (l1 : List Int) : Option ((List (S36)) × Int) := if l1.length < 8796093022208 ∧ (∀ x ∈ l1, (Lit.int .i64 x).wf = true) then some (pickS a0_0 l0_1 l1) else none
set_option maxHeartbeats 4000000 in
set_option maxRecDepth 100000 in
theorem resolve_Pick.calls (a0_0 : Int) (A0_1 : Option Addr) (c0_1 : Nat) (l0_1 : List (S36)) (A1 : Option Addr) (c1 : Nat) (l1 : List Int) (r1 : List (S36)) (r2 : Int) (w : World) (hr0_1 : Kd.C k36 w A0_1 l0_1.length l0_1) (hc0_1 : l0_1.length ≤ c0_1) (hr1 : Kd.C (Kd.int .i64) w A1 l1.length l1) (hc1 : l1.length ≤ c1) (h : resolve_Pick.f a0_0 l0_1 l1 = some (r1, r2)) :
    Calls Try.prog 18 #[.agg #[.int .i64 a0_0, .slice A0_1 l0_1.length c0_1], .slice A1 l1.length c1] w fun e w' => ∃ v0_ : Value, e = .returned (.tuple #[v0_, .int .i64 r2]) ∧ Kd.R k36 36 w' w.heap.size (fun _ => True) v0_ r1 ∧ Below w.heap.size w w' := by
  unfold resolve_Pick.f at h
  split at h
  case isFalse => cases h
  case isTrue hl =>
  replace h := Option.some.inj h
  have HH := Aside0.mk h
  have HL := Aside0.mk hl.1
  have HWF := Aside0.mk hl.2
  have HR := Aside0.mk hr0_1
  have HC := Aside0.mk hc0_1
  have HR1 := Aside0.mk hr1
  have HC1 := Aside0.mk hc1
  have hmax : l1.length ≤ 9223372036854775807 := hr1.2.1
  clear h hl hr0_1 hc0_1 hr1 hc1
  obtain ⟨E, hE⟩ : ∃ E, E = checkS a0_0 l0_1 := ⟨_, rfl⟩
  have HCF : Aside0 (resolve_Check.f a0_0 l0_1 = some E) := ⟨by rw [checkS_f, hE]⟩
  by_cases h0 : E = 0
  · subst h0
    have HZ := Aside0.mk hE.symm
    clear hE
    have HEV : Aside0 (l0_1.length ≤ 32 ∧ ∀ x ∈ l0_1, oddB x = false) := ⟨checkS_even _ _ HZ.out⟩
    have HPS : Aside0 (pickS a0_0 l0_1 l1 = if l1.any (goneP l0_1) = true then ([], 71) else if risesI l1 = false then ([], 6) else (l1.map (ofP l0_1), 0)) := ⟨by unfold pickS; rw [if_neg (by rw [HZ.out]; simp)]⟩
    rw [HPS.out] at HH
    clear HPS
    go_enter Try.func18, Try.ntmps18
    go_wp2_with (go_at_call 25; (with_reducible refine (resolve_Check.calls a0_0 A0_1 c0_1 l0_1 0 _ ?hr HC.out HCF.out).mono ?_); (case hr => exact Kd.C_alloc HR.out _); rintro e w1 ⟨rfl, hb⟩; have HB1 := Aside0.mk (below_then (below_alloc (Below.refl _ _) _) (by simp) hb); have BK1 := Aside0.mk (blk_below (heap_new1 w _) hb); have hlt1 : w.heap.size < w1.heap.size := blk_lt BK1.out; have x0 : w1.cell? ⟨w.heap.size, 0, none⟩ = some (.int .i64 a0_0) := (blk_cell BK1.out 0).trans rfl; have x1 : w1.cell? ⟨w.heap.size, 1, none⟩ = some (.slice A0_1 l0_1.length c0_1) := (blk_cell BK1.out 1).trans rfl; clear hb)
    go_at_call 31
    with_reducible refine (weights_any a0_0 A0_1 c0_1 l0_1 _ (Kd.C_below HR.out HB1.out) HC.out HEV.out.2 HEV.out.1).mono ?_
    rintro e w2 ⟨mb, rfl, hmb, hiw, hb⟩
    have HB2 := Aside0.mk (below_then HB1.out HB1.out.size hb)
    have HIW := Aside0.mk hiw
    have HMB := Aside0.mk hmb
    clear hb hiw hmb x0 x1
    go_wp2_with fail
    go_loopw [8, 23] (fun v8 v23 wr => ∃ (k : Nat) (vo : Value), v8 = vo ∧ v23 = .int .i64 k ∧ k ≤ l1.length ∧ Aside0 ((l1.take k).any (goneP l0_1) = false) ∧ Aside0 (Kd.R k36 36 wr w2.heap.size (fun _ => True) vo ((l1.take k).map (ofP l0_1))) ∧ Aside0 (Below w2.heap.size w2 wr)) (fun _ v23 _ => l1.length - (intOf v23).toNat)
    case atStart => exact ⟨0, _, rfl, rfl, by omega, ⟨by simp⟩, ⟨Kd.R_nil _ _ _ _ _⟩, ⟨Below.refl _ _⟩⟩
    case round =>
      obtain ⟨k, vo, rfl, rfl, hk, HT, HO, HB⟩ := hrel
      have HBW := Aside0.mk (below_then HB2.out HB2.out.size HB.out)
      by_cases hlt : k < l1.length
      · obtain ⟨ad, e1, q0⟩ := Kd.at_int (Kd.C_below HR1.out HBW.out) (k : Int) (by omega) (by omega)
        have hrd : rd l1 (k : Int) = l1[k] := by simp [rd, List.getElem?_eq_getElem hlt]
        rw [hrd] at q0
        simp only [Int.toNat_natCast] at q0
        obtain ⟨id, hid⟩ : ∃ id, id = l1[k] := ⟨_, rfl⟩
        rw [← hid] at q0
        have HS : Aside0 (l1.take (k + 1) = l1.take k ++ [id]) := ⟨by rw [List.take_succ_eq_append_getElem hlt, hid]⟩
        have HIN : Aside0 (id ∈ l1) := ⟨by rw [hid]; exact List.getElem_mem hlt⟩
        have HKEY := Aside0.mk (Go.Maps.keyOf_int_mk Try.underlying3 (HWF.out id HIN.out))
        have HRD := Aside0.mk (mapD_reads l0_1 id)
        have HIWr := Aside0.mk (HIW.out.below HB.out)
        have b1 : decide ((k : Int) < (l1.length : Int)) = true := decide_eq_true (by omega)
        have b1' : decide (k < l1.length) = true := decide_eq_true hlt
        clear hrd hid
        subst e1
        cases hg : (wOf l0_1 id).2 with
        | false =>
          have HG := Aside0.mk hg
          have HA : Aside0 (l1.any (goneP l0_1) = true) := ⟨List.any_eq_true.2 ⟨id, HIN.out, by unfold goneP; rw [hg]; rfl⟩⟩
          rw [HA.out] at HH
          rw [if_pos rfl] at HH
          obtain ⟨⟨⟩⟩ := HH
          clear hg
          go_wp2_with (at_lookup; refine wpList_lookup_own_ok_int _ rfl _ _ 69 rfl 3 3 .i64 law_id Try.underlying69 Try.underlying3 (zero_id _) mb _ _ rfl HIWr.out _ _ rfl HKEY.out ?_; intro c hat hwc; rw [HRD.out.2.2, HG.out]; obtain rfl : (wOf l0_1 id).1 = c := (by have := HRD.out.2.1.symm.trans hat; injection this with this; injection this); clear hat hwc)
          go_ret2
          exact ⟨_, rfl, Kd.R_nil _ _ _ _ _, HBW.out⟩
        | true =>
          have HG := Aside0.mk hg
          have HT' : Aside0 ((l1.take (k + 1)).any (goneP l0_1) = false) := ⟨by rw [HS.out, List.any_append, HT.out]; simp [goneP, hg]⟩
          have HM : Aside0 ((l1.take (k + 1)).map (ofP l0_1) = (l1.take k).map (ofP l0_1) ++ [ofP l0_1 id]) := ⟨by rw [HS.out, List.map_append]; rfl⟩
          clear hg
          go_wp2_with (first | (at_lookup; refine wpList_lookup_own_ok_int _ rfl _ _ 69 rfl 3 3 .i64 law_id Try.underlying69 Try.underlying3 (zero_id _) mb _ _ rfl HIWr.out _ _ rfl HKEY.out ?_; intro c hat hwc; rw [HRD.out.2.2, HG.out]; obtain rfl : (wOf l0_1 id).1 = c := (by have := HRD.out.2.1.symm.trans hat; injection this with this; injection this); clear hat hwc) | ((with_reducible refine gate_builtin (b := .append) (xs := #[.tmp 35, .tmp 39]) rfl ?_); at_builtin; refine Kd.R_append_rows k36 (w0 := w2) w2.heap.size rfl (.tmp 35) (.tmp 39) 22 36 (.agg #[.int .i64 0, .int .i64 0]) 16 rfl Try.underlying22 info36 rfl (by decide) (by omega) _ ((l1.take k).map (ofP l0_1)) [ofP l0_1 id] _ _ _ (fun _ => True) (fun _ => False) rfl rfl (Kd.R_alloc HO.out _) (C_one (heap_new1 _ _) (k36_mk _ (ofP l0_1 id))) (fun _ _ h => h) (fun _ h => h.elim) (fun _ _ => trivial) (below_alloc HB.out _) (by simp; have := HB.out.size; omega) (by have := HL.out; rw [List.length_map, List.length_take]; omega) ?_; intro v4 w4 ho4 hb4 hg4 hat4; rw [← HM.out] at ho4; have HO4 := Aside0.mk ho4; have HB4 := Aside0.mk hb4; clear ho4 hb4 hg4 hat4))
          go_roundw
          case rel => exact ⟨k + 1, _, rfl, by go_num, by omega, HT', HO4, HB4⟩
          case measure => simp [intOf]; omega
      · have b1 : decide ((k : Int) < (l1.length : Int)) = false := decide_eq_false (by omega)
        have b1' : decide (k < l1.length) = false := decide_eq_false hlt
        have HA : Aside0 (l1.any (goneP l0_1) = false) := ⟨by have := HT.out; rwa [List.take_of_length_le (by omega)] at this⟩
        rw [HA.out] at HH
        have HX : Aside0 (Kd.R k36 36 wr w2.heap.size (fun _ => True) u8 (l1.map (ofP l0_1))) := ⟨by have := HO.out; rwa [List.take_of_length_le (by omega)] at this⟩
        rw [if_neg (by simp)] at HH
        clear HO HT
        go_wp2_with fail
        have HPI : Aside0 (∀ b, risesI l1 = b → (if b = false then (([], 6) : List S36 × Int) else (l1.map (ofP l0_1), 0)) = (r1, r2)) := ⟨fun b hb => by have := HH.out; rw [hb] at this; exact this⟩
        clear HH
        go_loopw [44] (fun v44 wz => ∃ m : Nat, v44 = .int .i64 m ∧ m ≤ l1.length ∧ Aside0 (risesI (l1.take m) = true) ∧ Drawn0 wr wz) (fun v44 _ => l1.length - (intOf v44).toNat)
        case atStart => exact ⟨0, rfl, by omega, ⟨by simp [risesI]⟩, Drawn0.refl _⟩
        case round =>
          obtain ⟨m, rfl, hm, HT, ⟨nd, rfl⟩⟩ := hrel
          have HDr : Aside0 (Drawn0 wr (wr.drewN nd)) := ⟨⟨nd, rfl⟩⟩
          by_cases hlt2 : m < l1.length
          · have c1' : decide ((m : Int) < (l1.length : Int)) = true := decide_eq_true (by omega)
            have c1'' : decide (m < l1.length) = true := decide_eq_true hlt2
            rcases Nat.eq_zero_or_pos m with h0 | h0
            · subst h0
              have HT' : Aside0 (risesI (l1.take (0 + 1)) = true) := ⟨by
                rw [List.take_succ_eq_append_getElem hlt2]; simp [risesI]⟩
              go_wp2
              go_quiet (fail)
              go_wp2
              go_roundw
              case rel => exact ⟨1, rfl, by omega, HT', (by first | exact ⟨⟨_, rfl⟩⟩ | exact HDr.out.step nq)⟩
              case measure => simp [intOf]; omega
            · obtain ⟨ad, e1, q0⟩ := Kd.at_int (Kd.C_below HR1.out HBW.out) (m : Int) (by omega) (by omega)
              obtain ⟨ad', e2, p0⟩ := Kd.at_int (Kd.C_below HR1.out HBW.out) ((m : Int) - 1) (by omega) (by omega)
              have HS := Aside0.mk (risesI_step l1 m h0 hlt2)
              rw [e1] at e2
              obtain rfl := Option.some.inj e2
              have f1 : rd l1 (m : Int) = l1.getD m 0 := by simp [rd]
              have n1 : ((m : Int) - 1).toNat = m - 1 := by omega
              have f2 : rd l1 ((m : Int) - 1) = l1.getD (m - 1) 0 := by unfold rd; rw [n1]
              rw [f1] at q0
              rw [f2] at p0
              simp only [Int.toNat_natCast] at q0
              rw [n1] at p0
              clear f1 f2 e2
              obtain ⟨x, hx⟩ : ∃ x, x = l1.getD m 0 := ⟨_, rfl⟩
              obtain ⟨y, hy⟩ : ∃ y, y = l1.getD (m - 1) 0 := ⟨_, rfl⟩
              rw [← hx] at q0
              rw [← hy] at p0
              have HS' : Aside0 (risesI (l1.take (m + 1)) = decide (y < x)) := ⟨by rw [HS.out, HT.out, hx, hy]; rfl⟩
              clear HS hx hy
              have c0 : decide ((0 : Int) < m) = true := decide_eq_true (by omega)
              have c1 : (0 : Int) ≤ (m : Int) - 1 := by omega
              have cw : IntKind.i64.wrap ((m : Int) - 1) = (m : Int) - 1 := by rw [IntKind.wrap_i64]; omega
              have c2' : (m : Int) - 1 < (l1.length : Int) := by omega
              subst e1
              by_cases hxy : x ≤ y
              · have d1 : decide (x ≤ y) = true := decide_eq_true hxy
                have HA := Aside0.mk (HPI.out false (risesI_false l1 (m + 1) (by rw [HS'.out]; exact decide_eq_false (by omega))))
                rw [if_pos rfl] at HA
                obtain ⟨⟨⟩⟩ := HA
                clear hxy HPI
                go_wp2
                go_quiet (fail)
                go_wp2
                go_ret2
                exact ⟨_, rfl, Kd.R_nil _ _ _ _ _, by repeat (first | exact HBW.out | apply pw_below_drewN | apply below_drew)⟩
              · have d1 : decide (x ≤ y) = false := decide_eq_false hxy
                have HT' : Aside0 (risesI (l1.take (m + 1)) = true) := ⟨by rw [HS'.out]; exact decide_eq_true (by omega)⟩
                clear hxy
                go_wp2
                go_quiet (fail)
                go_wp2
                go_roundw
                case rel => exact ⟨m + 1, by go_num, by omega, HT', (by first | exact ⟨⟨_, rfl⟩⟩ | exact HDr.out.step nq)⟩
                case measure => simp [intOf]; omega
          · have c1' : decide ((m : Int) < (l1.length : Int)) = false := decide_eq_false (by omega)
            have c1'' : decide (m < l1.length) = false := decide_eq_false hlt2
            have HA := Aside0.mk (HPI.out true (by have := HT.out; rwa [List.take_of_length_le (by omega)] at this))
            rw [if_neg (by simp)] at HA
            obtain ⟨⟨⟩⟩ := HA
            clear HPI
            go_wp2
            go_ret2
            exact ⟨_, rfl, Kd.R_lower (Kd.R_drewN HX.out _) HB2.out.size, pw_below_drewN HBW.out _⟩
  · obtain ⟨⟨⟩⟩ : Aside0 ((([] : List S36), E) = (r1, r2)) := ⟨by have := HH.out; unfold pickS at this; rw [← hE, if_pos h0] at this; exact this⟩
    have hne : (r2 == 0) = false := by simpa using h0
    clear HH hE
    go_enter Try.func18, Try.ntmps18
    go_wp2_with (go_at_call 25; (with_reducible refine (resolve_Check.calls a0_0 A0_1 c0_1 l0_1 r2 _ ?hr HC.out HCF.out).mono ?_); (case hr => exact Kd.C_alloc HR.out _); rintro e w1 ⟨rfl, hb⟩; have HB1 := Aside0.mk (below_then (below_alloc (Below.refl _ _) _) (by simp) hb); clear hb)
    go_ret2
    exact ⟨_, rfl, Kd.R_nil _ _ _ _ _, HB1.out⟩

/-! ### resolve_Weight: function 19 -/
def resolve_Weight.l0 : Nat → Int → List (S36) → Int → Int → Option (Int × Int)
  | 0, _, _, _, _ => none
  | k + 1, x5, x14, x15, x16 => if x16 < x15 then (if 0 ≤ x16 then (if x16 < (x14.length : Int) then (resolve_Weight.l0 k (wrap64 (x5 + ((rd_T36 x14 x16).f1))) x14 x15 (wrap64 (x16 + 1))) else (none)) else (none)) else (some (x5, 0))
def resolve_Weight.f (k : Nat) (a0_0 : Int) (l0_1 : List (S36)) : Option (Int × Int) := (resolve_Check.f a0_0 l0_1).bind fun t156 => (if t156 = 0 then (resolve_Weight.l0 k 0 l0_1 (l0_1.length : Int) 0) else (some (0, t156)))
theorem resolve_Weight.mono_l : ∀ k, (∀ y0 y1 y2 y3, LeO (resolve_Weight.l0 k y0 y1 y2 y3) (resolve_Weight.l0 (k + 1) y0 y1 y2 y3))
  | 0 => fun _ _ _ _ r h => by simp [resolve_Weight.l0] at h
  | k + 1 => by
    have ih0 := resolve_Weight.mono_l k
    · intro y0 y1 y2 y3
      unfold resolve_Weight.l0
      repeat' first
      | (with_reducible exact ih0 _ _ _ _)
      | (with_reducible exact LeO.refl _)
      | (with_reducible exact LeO.none _)
      | (with_reducible refine LeO.ite ?_ ?_)
      | (with_reducible refine LeO.bind ?_ (fun _ => ?_))
      | exact ih0 _ _ _ _
      | exact LeO.none _
      | refine LeO.ite ?_ ?_
      | refine LeO.bind ?_ (fun _ => ?_)
theorem resolve_Weight.mono : ∀ a0 a1 k, LeO (resolve_Weight.f k a0 a1) (resolve_Weight.f (k + 1) a0 a1) := by
  intro a0 a1 k
  have ih0 := resolve_Weight.mono_l k
  unfold resolve_Weight.f
  repeat' first
      | (with_reducible exact ih0 _ _ _ _)
      | (with_reducible exact LeO.refl _)
      | (with_reducible exact LeO.none _)
      | (with_reducible refine LeO.ite ?_ ?_)
      | (with_reducible refine LeO.bind ?_ (fun _ => ?_))
      | exact ih0 _ _ _ _
      | exact LeO.none _
      | refine LeO.ite ?_ ?_
      | refine LeO.bind ?_ (fun _ => ?_)
set_option maxHeartbeats 8000000 in
set_option maxRecDepth 100000 in
theorem resolve_Weight.calls (k : Nat) (a0_0 : Int) (A0_1 : Option Addr) (c0_1 : Nat) (l0_1 : List (S36)) (r1 : Int) (r2 : Int) (w : World) (hr0_1 : Kd.C k36 w A0_1 l0_1.length l0_1) (hc0_1 : l0_1.length ≤ c0_1) (h : resolve_Weight.f k a0_0 l0_1 = some (r1, r2)) :
    Calls Try.prog 19 #[.agg #[.int .i64 a0_0, .slice A0_1 l0_1.length c0_1]] w fun e w' => e = .returned (.tuple #[.int .i64 r1, .int .i64 r2]) ∧ Below w.heap.size w w' := by
  have hu24 := Try.underlying24
  have hu36 := Try.underlying36
  have HR0_1 := Aside0.mk hr0_1
  have HC0_1 := Aside0.mk hc0_1
  clear hr0_1 hc0_1
  have HB := Aside0.mk (Below.refl w.heap.size w)
  have H : ((resolve_Check.f a0_0 l0_1).bind fun t156 => (if t156 = 0 then (resolve_Weight.l0 k 0 l0_1 (l0_1.length : Int) 0) else (some (0, t156)))) = some (r1, r2) := h
  clear h
  replace H := Option.bind_eq_some_iff.mp H
  obtain ⟨t156, A20, H⟩ := H
  replace H : (if t156 = 0 then (resolve_Weight.l0 k 0 l0_1 (l0_1.length : Int) 0) else (some (0, t156))) = some (r1, r2) := H
  have A2 := Aside0.mk A20
  clear A20
  by_cases c3 : t156 = 0
  · rw [if_pos c3] at H
    have c3b0 : (t156 == 0) = true := beq_iff_eq.mpr c3
    have c3b1 : (t156 != 0) = false := bne_eq_false_iff_eq.mpr c3
    clear c3
    have H' := Aside0.mk H
    clear H
    go_enter Try.func19, Try.ntmps19
    go_wp2_with (first | ((with_reducible refine gate_dst (N := 1) rfl ?_); refine box_event ?hg (N := 1) ?hd (cs := #[.int .i64 a0_0, .slice A0_1 l0_1.length c0_1]) (t := 24) ?hr ?_; (case hd => rfl); (case hg => rfl); (case hr => first | (go_simp; done) | (go_simp; rfl)); intro gb155 hg w4 hbox hb; have n0_ := Aside0.mk (below_step (by repeat (first | (with_reducible first | exact HB.out | apply below_alloc | apply pw_below_drewN | apply below_drew1) | exact HB.out)) hb); have n1_ := Aside0.mk (hbox); have n2_ := Aside0.mk ((by rw [hg]; exact (below_size (by repeat (first | (with_reducible first | exact HB.out | apply below_alloc | apply pw_below_drewN | apply below_drew1) | exact HB.out))) : w.heap.size ≤ gb155)); have n3_ := Aside0.mk ((by rw [hg]; exact (below_size (by repeat (first | (with_reducible first | exact HB.out | apply below_alloc | apply pw_below_drewN | apply below_drew1) | exact HB.out))) : w.heap.size ≤ gb155)); clear HB; have HB := n0_; have BK155 := n1_; have GW155 := n2_; have GE155 := n3_; clear n0_ n1_ n2_ n3_; clear hb hbox hg; have hcz5_0 : w4.cell? ⟨gb155, 0, none⟩ = some (.int .i64 a0_0) := (blk_cell BK155.out 0).trans rfl; have hcz5_1 : w4.cell? ⟨gb155, 1, none⟩ = some (.slice A0_1 l0_1.length c0_1) := (blk_cell BK155.out 1).trans rfl; have hfz5_0 := blk_frozen BK155.out 0; have hfz5_1 := blk_frozen BK155.out 1) | ((with_reducible refine gate_callee (f := 25) rfl ?_); refine goesL_ (some 9) rfl rfl Try.func25 (by kernel_rfl) rfl #[.agg #[.int .i64 a0_0, .slice A0_1 l0_1.length c0_1]] rfl (by (try simp only [List.map_toArray, List.map_cons, List.map_nil]); first | done | rfl | (simp only [List.length_drop, List.length_take]; rfl)) ?_; (with_reducible refine (resolve_Check.calls a0_0 _ _ l0_1 t156 _ ?side1 ?side2 A2.out).mono ?_); (case side1 => repeat (first | exact (Kd.C_below HR0_1.out HB.out) | (with_reducible refine Kd.C_alloc ?_ _) | (with_reducible refine Kd.C_drewN ?_ _) | (with_reducible refine Kd.C_drew ?_))); (case side2 => exact HC0_1.out); rintro e w6 ⟨rfl, hb⟩; refine ⟨_, rfl, ?_⟩; have n0_ := Aside0.mk (blk_below (g := gb155) (o := .cells #[.int .i64 a0_0, .slice A0_1 l0_1.length c0_1] 24 (0, 0)) (by (with_reducible repeat (first | refine blk_drewN ?_ _ | refine blk_drew ?_ | refine blk_alloc ?_ _)); exact BK155.out) hb); have n1_ := Aside0.mk (below_step (by repeat (first | (with_reducible first | exact HB.out | apply below_alloc | apply pw_below_drewN | apply below_drew1 | refine below_set ?_ GE155.out) | exact HB.out)) hb); clear BK155; clear HB; have BK155 := n0_; have HB := n1_; clear n0_ n1_; (try clear hb); (try clear hb2); (try clear hk); (try clear hi); have hcz7_0 : w6.cell? ⟨gb155, 0, none⟩ = some (.int .i64 a0_0) := (blk_cell BK155.out 0).trans rfl; have hcz7_1 : w6.cell? ⟨gb155, 1, none⟩ = some (.slice A0_1 l0_1.length c0_1) := (blk_cell BK155.out 1).trans rfl; have hfz7_0 := blk_frozen BK155.out 0; have hfz7_1 := blk_frozen BK155.out 1))
    go_loopg [5, 16] k (fun kq v5 v16 w' => ∃ (x5_1 : Int) (x16_1 : Int), v5 = .int .i64 x5_1 ∧ v16 = .int .i64 x16_1 ∧ Aside0 (resolve_Weight.l0 kq x5_1 l0_1 (l0_1.length : Int) x16_1 = some (r1, r2)) ∧ Aside0 (kq ≤ k) ∧ Aside0 (w'.heap[gb155]? = some (.cells #[.int .i64 a0_0, (.slice A0_1 l0_1.length c0_1)] 24 (0, 0))) ∧ Aside0 (Below w.heap.size w w'))
    case atStart => exact ⟨(0), (0), (by first | rfl | (simp; done) | (simp [*]; done)), (by first | rfl | (simp; done) | (simp [*]; done)), H', ⟨Nat.le_refl _⟩, ⟨by (with_reducible repeat (first | refine blk_drewN ?_ _ | refine blk_drew ?_ | refine blk_alloc ?_ _)); exact BK155.out⟩, ⟨by repeat (first | (with_reducible first | exact HB.out | apply below_alloc | apply pw_below_drewN | apply below_drew1 | refine below_set ?_ GE155.out) | exact HB.out)⟩⟩
    case round =>
      clear H'
      try clear c1
      try clear c2
      try clear p2
      try clear c3
      try clear c3b0
      try clear c3b1
      try clear hcz5_0
      try clear hcz5_1
      try clear hcz7_0
      try clear hcz7_1
      try clear hfz5_0
      try clear hfz5_1
      try clear hfz7_0
      try clear hfz7_1
      obtain ⟨x5_1, x16_1, rfl, rfl, HA, HK1, BK155, HB⟩ := hrel
      cases gk with
      | zero => exact absurd HA.out (by simp [resolve_Weight.l0])
      | succ k1 =>
        have H := HA.out
        clear HA
        simp only [resolve_Weight.l0] at H
        by_cases c8 : x16_1 < (l0_1.length : Int)
        · rw [if_pos c8] at H
          have c8b0 : decide (x16_1 < (l0_1.length : Int)) = true := decide_eq_true c8
          clear c8
          by_cases c9 : 0 ≤ x16_1
          · rw [if_pos c9] at H
            have c9b0 : decide (0 ≤ x16_1) = true := decide_eq_true c9
            clear c9
            by_cases c10 : x16_1 < (l0_1.length : Int)
            · rw [if_pos c10] at H
              have c10b0 : decide (x16_1 < (l0_1.length : Int)) = true := decide_eq_true c10
              clear c10
              have H' := Aside0.mk H
              clear H
              have p157 : 0 ≤ (x16_1 : Int) := of_decide_eq_true (by first | (with_reducible assumption) | assumption)
              have q157 : x16_1 < (l0_1.length : Int) := of_decide_eq_true (by first | (with_reducible assumption) | assumption)
              obtain ⟨ad157, e157, hx157_0, hx157_1⟩ := at_T36 HR0_1.out x16_1 p157 q157
              cases e157
              replace hx157_0 := (HB.out.cell (World.block_lt_of_cell? w _ hx157_0)).trans hx157_0
              replace hx157_1 := (HB.out.cell (World.block_lt_of_cell? w _ hx157_1)).trans hx157_1
              replace p157 := eq_true p157
              replace q157 := eq_true q157
              go_wp2_with (first | ((with_reducible refine gate_dst (N := 7) rfl ?_); refine box_event ?hg (N := 7) ?hd (cs := #[.int .i64 0, .int .i64 0]) (t := 36) ?hr ?_; (case hd => rfl); (case hg => rfl); (case hr => first | (go_simp; done) | (go_simp; rfl)); intro gb158 hg w11 hbox hb; have n0_ := Aside0.mk (blk_below (g := gb155) (o := .cells #[.int .i64 a0_0, .slice (some ad157) l0_1.length c0_1] 24 (0, 0)) (by (with_reducible repeat (first | refine blk_drewN ?_ _ | refine blk_drew ?_ | refine blk_alloc ?_ _)); exact BK155.out) hb); have n1_ := Aside0.mk (below_step (by repeat (first | (with_reducible first | exact HB.out | apply below_alloc | apply pw_below_drewN | apply below_drew1 | refine below_set ?_ GE155.out) | exact HB.out)) hb); have n2_ := Aside0.mk (hbox); have n3_ := Aside0.mk ((by rw [hg]; exact (below_size (by repeat (first | (with_reducible first | exact HB.out | apply below_alloc | apply pw_below_drewN | apply below_drew1 | refine below_set ?_ GE155.out) | exact HB.out))) : w.heap.size ≤ gb158)); have n4_ := Aside0.mk ((by rw [hg]; exact (below_size (by repeat (first | (with_reducible first | exact HB.out | apply below_alloc | apply pw_below_drewN | apply below_drew1 | refine below_set ?_ GE155.out) | exact HB.out))) : w.heap.size ≤ gb158)); have n5_ := Aside0.mk ((by rw [hg]; exact Nat.ne_of_lt (blk_lt (g := gb155) (o := .cells #[.int .i64 a0_0, .slice (some ad157) l0_1.length c0_1] 24 (0, 0)) (by (with_reducible repeat (first | refine blk_drewN ?_ _ | refine blk_drew ?_ | refine blk_alloc ?_ _)); exact BK155.out)) : gb155 ≠ gb158)); have n6_ := Aside0.mk ((by rw [hg]; exact Nat.ne_of_gt (blk_lt (g := gb155) (o := .cells #[.int .i64 a0_0, .slice (some ad157) l0_1.length c0_1] 24 (0, 0)) (by (with_reducible repeat (first | refine blk_drewN ?_ _ | refine blk_drew ?_ | refine blk_alloc ?_ _)); exact BK155.out)) : gb158 ≠ gb155)); clear BK155; clear HB; have BK155 := n0_; have HB := n1_; have BK158 := n2_; have GW158 := n3_; have GE158 := n4_; have NB155_158 := n5_; have NB158_155 := n6_; clear n0_ n1_ n2_ n3_ n4_ n5_ n6_; clear hb hbox hg; have hnb12 := NB158_155.out; have hnc12 := NB155_158.out; have hcz13_0 : w11.cell? ⟨gb158, 0, none⟩ = some (.int .i64 0) := (blk_cell BK158.out 0).trans rfl; have hcz13_1 : w11.cell? ⟨gb158, 1, none⟩ = some (.int .i64 0) := (blk_cell BK158.out 1).trans rfl; have hfz13_0 := blk_frozen BK158.out 0; have hfz13_1 := blk_frozen BK158.out 1))
              go_roundg k1
              case measure => have := HK1.out; omega
              case rel => exact ⟨(wrap64 (x5_1 + ((rd_T36 l0_1 x16_1).f1))), (wrap64 (x16_1 + 1)), (by first | rfl | (simp; done) | (simp [*]; done)), (by first | rfl | (simp; done) | (simp [*]; done)), H', ⟨by have := HK1.out; omega⟩, ⟨by (with_reducible repeat (first | refine blk_drewN ?_ _ | refine blk_drew ?_ | refine blk_alloc ?_ _)); refine blk_far ?_ NB155_158.out _; (with_reducible repeat (first | refine blk_drewN ?_ _ | refine blk_drew ?_ | refine blk_alloc ?_ _)); refine blk_far ?_ NB155_158.out _; (with_reducible repeat (first | refine blk_drewN ?_ _ | refine blk_drew ?_ | refine blk_alloc ?_ _)); exact BK155.out⟩, ⟨by repeat (first | (with_reducible first | exact HB.out | apply below_alloc | apply pw_below_drewN | apply below_drew1 | refine below_set ?_ GE155.out | refine below_set ?_ GE158.out) | exact HB.out)⟩⟩
            · rw [if_neg c10] at H
              exact absurd H (by simp)
          · rw [if_neg c9] at H
            exact absurd H (by simp)
        · rw [if_neg c8] at H
          have c8b0 : decide (x16_1 < (l0_1.length : Int)) = false := decide_eq_false c8
          clear c8
          simp only [Option.some.injEq, Prod.mk.injEq] at H
          obtain ⟨rfl, rfl⟩ := H
          go_wp2
          go_ret2
          exact ⟨by first | rfl | (simp [errW_none, errW_some] <;> rfl) | (simp [*, errW_none, errW_some] <;> rfl), by repeat (first | (with_reducible first | exact HB.out | apply below_alloc | apply pw_below_drewN | apply below_drew1 | refine below_set ?_ GE155.out) | exact HB.out)⟩
  · rw [if_neg c3] at H
    have c3b0 : (t156 == 0) = false := beq_eq_false_iff_ne.mpr c3
    have c3b1 : (t156 != 0) = true := bne_iff_ne.mpr c3
    simp only [Option.some.injEq, Prod.mk.injEq] at H
    obtain ⟨rfl, rfl⟩ := H
    go_enter Try.func19, Try.ntmps19
    go_wp2_with (first | ((with_reducible refine gate_dst (N := 1) rfl ?_); refine box_event ?hg (N := 1) ?hd (cs := #[.int .i64 a0_0, .slice A0_1 l0_1.length c0_1]) (t := 24) ?hr ?_; (case hd => rfl); (case hg => rfl); (case hr => first | (go_simp; done) | (go_simp; rfl)); intro gb155 hg w14 hbox hb; have n0_ := Aside0.mk (below_step (by repeat (first | (with_reducible first | exact HB.out | apply below_alloc | apply pw_below_drewN | apply below_drew1) | exact HB.out)) hb); have n1_ := Aside0.mk (hbox); have n2_ := Aside0.mk ((by rw [hg]; exact (below_size (by repeat (first | (with_reducible first | exact HB.out | apply below_alloc | apply pw_below_drewN | apply below_drew1) | exact HB.out))) : w.heap.size ≤ gb155)); have n3_ := Aside0.mk ((by rw [hg]; exact (below_size (by repeat (first | (with_reducible first | exact HB.out | apply below_alloc | apply pw_below_drewN | apply below_drew1) | exact HB.out))) : w.heap.size ≤ gb155)); clear HB; have HB := n0_; have BK155 := n1_; have GW155 := n2_; have GE155 := n3_; clear n0_ n1_ n2_ n3_; clear hb hbox hg; have hcz15_0 : w14.cell? ⟨gb155, 0, none⟩ = some (.int .i64 a0_0) := (blk_cell BK155.out 0).trans rfl; have hcz15_1 : w14.cell? ⟨gb155, 1, none⟩ = some (.slice A0_1 l0_1.length c0_1) := (blk_cell BK155.out 1).trans rfl; have hfz15_0 := blk_frozen BK155.out 0; have hfz15_1 := blk_frozen BK155.out 1) | ((with_reducible refine gate_callee (f := 25) rfl ?_); refine goesL_ (some 9) rfl rfl Try.func25 (by kernel_rfl) rfl #[.agg #[.int .i64 a0_0, .slice A0_1 l0_1.length c0_1]] rfl (by (try simp only [List.map_toArray, List.map_cons, List.map_nil]); first | done | rfl | (simp only [List.length_drop, List.length_take]; rfl)) ?_; (with_reducible refine (resolve_Check.calls a0_0 _ _ l0_1 t156 _ ?side1 ?side2 A2.out).mono ?_); (case side1 => repeat (first | exact (Kd.C_below HR0_1.out HB.out) | (with_reducible refine Kd.C_alloc ?_ _) | (with_reducible refine Kd.C_drewN ?_ _) | (with_reducible refine Kd.C_drew ?_))); (case side2 => exact HC0_1.out); rintro e w16 ⟨rfl, hb⟩; refine ⟨_, rfl, ?_⟩; have n0_ := Aside0.mk (blk_below (g := gb155) (o := .cells #[.int .i64 a0_0, .slice A0_1 l0_1.length c0_1] 24 (0, 0)) (by (with_reducible repeat (first | refine blk_drewN ?_ _ | refine blk_drew ?_ | refine blk_alloc ?_ _)); exact BK155.out) hb); have n1_ := Aside0.mk (below_step (by repeat (first | (with_reducible first | exact HB.out | apply below_alloc | apply pw_below_drewN | apply below_drew1 | refine below_set ?_ GE155.out) | exact HB.out)) hb); clear BK155; clear HB; have BK155 := n0_; have HB := n1_; clear n0_ n1_; (try clear hb); (try clear hb2); (try clear hk); (try clear hi)))
    go_ret2
    exact ⟨by first | rfl | (simp [errW_none, errW_some] <;> rfl) | (simp [*, errW_none, errW_some] <;> rfl), by repeat (first | (with_reducible first | exact HB.out | apply below_alloc | apply pw_below_drewN | apply below_drew1 | refine below_set ?_ GE155.out) | exact HB.out)⟩

end Go.Proofs.Ytaidadofkbagkaa.G
