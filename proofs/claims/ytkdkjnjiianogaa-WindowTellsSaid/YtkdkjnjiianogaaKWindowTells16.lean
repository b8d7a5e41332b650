/- WindowTells: texts of this claim, packed: what the kit's print has written for it and own texts, without what its proof does not reach. -/
import Derived.Test.YtkdkjnjiianogaaKWindowTells12
import Derived.Test.YtkdkjnjiianogaaKWindowTells15
set_option linter.unusedVariables false
set_option linter.unusedSimpArgs false
set_option linter.unusedSectionVars false
section
namespace Go.Proofs.Ytkdkjnjiianogaa.G
open WB Go.RowKit Go.Proofs.YtkdkjnjiianogaaW.PrintWords Go.Proofs.YtkdkjnjiianogaaW.PrintLast Go.Proofs.YtkdkjnjiianogaaW.PrintMore
attribute [local go_sem] max2_int min2_int max_two min_two max_three min_three max_four min_four   -- for this text's walks alone
set_option linter.unusedVariables false
set_option linter.unusedSimpArgs false
set_option maxHeartbeats 2000000 in
set_option maxRecDepth 100000 in
theorem old_any (d : S32) (A2 : Option Addr) (n2 c2 : Nat) (m : Int) (X : Value) (qb : Nat) (w : World) (hq : w.heap[qb]? = some (.cells #[.int .i64 m, X] 24 (0, 0))) :
    Calls Try.prog 32 #[.agg #[.int .i64 d.f0, .int .i64 d.f1, .slice A2 n2 c2], .pointer (some ⟨qb, 0, none⟩)] w fun e w' => e = .returned (.bool (decide (d.f0 < m))) ∧ Below w.heap.size w w' := by
  have b0 := blk_cell hq 0
  have hlt := blk_lt hq
  simp at b0
  clear hq
  have hne : w.heap.size ≠ qb := by omega
  have hne' : qb ≠ w.heap.size := by omega
  go_enter Try.func32, Try.ntmps32
  go_wp2
  go_ret
  exact ⟨rfl, by repeat (first | exact Below.refl _ _ | apply below_alloc | apply pw_below_drewN | apply below_drew1)⟩
set_option maxHeartbeats 2000000 in
set_option maxRecDepth 100000 in
theorem index_old (A : Option Addr) (c : Nat) (l : List S32) (rows : List (List Value)) (m : Int) (X : Value) (qb base : Nat) (w : World) (hR : (Kd.raw 3).R 32 w base (fun _ => True) (.slice A l.length c) rows) (hl : rows.length = l.length) (hd : LineD l rows) (hsm : l.length < 1000000000) (hq : w.heap[qb]? = some (.cells #[.int .i64 m, X] 24 (0, 0))) :
    Calls Try.prog 43 #[.slice A l.length c, .func (.func 32) #[] #[.pointer (some ⟨qb, 0, none⟩)]] w
      fun e w' => Aside0 ((e = .returned (.int .i64 (-1)) ∧ ∀ q, q < l.length → ¬ (l.getD q z32).f0 < m) ∨ ∃ k : Nat, e = .returned (.int .i64 k) ∧ k < l.length ∧ (l.getD k z32).f0 < m ∧ ∀ q, q < k → ¬ (l.getD q z32).f0 < m) ∧ Below w.heap.size w w' := by
  have HR := Aside0.mk hR
  have HL := Aside0.mk hl
  have HD := Aside0.mk hd
  have HQ := Aside0.mk hq
  clear hR hl hd hq
  go_enter Try.func43, Try.ntmps43
  go_wp2
  go_loopw [8] (fun v8 wr => ∃ k : Nat, v8 = .int .i64 k ∧ k ≤ l.length ∧ Aside0 (∀ q, q < k → m ≤ (l.getD q z32).f0) ∧ Aside0 (Below w.heap.size w wr)) (fun v8 _ => l.length - (intOf v8).toNat)
  case atStart => exact ⟨0, rfl, by omega, ⟨fun q h => by omega⟩, ⟨Below.refl _ _⟩⟩
  case round =>
    obtain ⟨k, rfl, hk, HT, HB⟩ := hrel
    by_cases hlt : k < l.length
    · have b1 : decide ((k : Int) < (l.length : Int)) = true := decide_eq_true (by omega)
      have b1' : decide (k < l.length) = true := decide_eq_true hlt
      have HR1 := Aside0.mk (Kd.R_below HR.out HB.out)
      obtain ⟨g, rfl⟩ : ∃ g, A = some ⟨g, 0, none⟩ := by
        rcases A with _ | ad
        · obtain ⟨A, c, he, _, hC⟩ := Kd.R_reads HR1.out
          rw [HL.out] at he hC
          obtain ⟨ad, h1, _⟩ := hC.2.2 (by omega)
          injection he with he
          rw [h1] at he
          cases he
        · obtain ⟨g, rfl⟩ := Kd.R_head HR1.out
          exact ⟨g, rfl⟩
      obtain ⟨cs, hc1, hc2, hc3, hc4⟩ := Kd.R_elem HR1.out [] (k : Int) (by omega) (by omega)
      have hrk : rows[k]? = some cs := by
        have h5 : cs = rows.getD k [] := hc2.1
        rw [h5, List.getD_eq_getElem?_getD, List.getElem?_eq_getElem (by rw [HL.out]; exact hlt)]
        rfl
      obtain ⟨d, hd⟩ : ∃ d, l[k]? = some d := ⟨_, List.getElem?_eq_getElem hlt⟩
      have hdd : l.getD k z32 = d := by rw [List.getD_eq_getElem?_getD, hd]; rfl
      obtain ⟨A2, n2, c2, rfl⟩ := HD.out k d cs hd hrk
      have q0 : wr.cell? ⟨g, k * 3, none⟩ = some (.int .i64 d.f0) := hc3 0 _ rfl
      have q1 : wr.cell? ⟨g, k * 3 + 1, none⟩ = some (.int .i64 d.f1) := hc3 1 _ rfl
      have q2 : wr.cell? ⟨g, k * 3 + 2, none⟩ = some (.slice A2 n2 c2) := hc3 2 _ rfl
      have HQ1 := Aside0.mk ((HB.out.block qb (blk_lt HQ.out)).trans HQ.out)
      have HDD := Aside0.mk hdd
      clear hc1 hc2 hc3 hc4 hd hrk hdd
      by_cases ho : d.f0 < m
      · have ho' : decide (d.f0 < m) = true := decide_eq_true ho
        go_wp2_with (go_at_call 32; (with_reducible refine (old_any d A2 n2 c2 m X qb _ HQ1.out).mono ?_); rintro e w1 ⟨rfl, hb⟩; rw [ho']; have HB1 := Aside0.mk hb; clear hb)
        go_ret
        exact ⟨⟨Or.inr ⟨k, rfl, hlt, by rw [← List.getD_eq_getElem?_getD, HDD.out]; exact ho, fun q hq => by have := HT.out q hq; simp only [List.getD_eq_getElem?_getD] at this ⊢; omega⟩⟩, below_then HB.out HB.out.size HB1.out⟩
      · have ho' : decide (d.f0 < m) = false := decide_eq_false ho
        go_wp2_with (go_at_call 32; (with_reducible refine (old_any d A2 n2 c2 m X qb _ HQ1.out).mono ?_); rintro e w1 ⟨rfl, hb⟩; rw [ho']; have HB1 := Aside0.mk hb; clear hb)
        go_roundw
        case rel => exact ⟨k + 1, by go_num, by omega, ⟨fun q hq => by
          rcases Nat.lt_or_ge q k with h | h
          · have := HT.out q h; omega
          · obtain rfl : q = k := by omega
            rw [HDD.out]; omega⟩, ⟨below_then HB.out HB.out.size HB1.out⟩⟩
        case measure => simp [intOf]; omega
    · have b1 : decide ((k : Int) < (l.length : Int)) = false := decide_eq_false (by omega)
      have b1' : decide (k < l.length) = false := decide_eq_false hlt
      go_wp2
      go_ret
      exact ⟨⟨Or.inl ⟨rfl, fun q hq => by have := HT.out q (by omega); simp only [List.getD_eq_getElem?_getD] at this ⊢; omega⟩⟩, HB.out⟩
structure DelInv (w : World) (base g n c : Nat) (l : List S32) (rows : List (List Value)) (m : Int) (i j : Nat) (rt : List (List Value)) (wr : World) : Prop where
  len : rt.length = n
  raw : (Kd.raw 3).R 32 wr base (fun _ => True) (.slice (some ⟨g, 0, none⟩) n c) rt
  rest : ∀ q, j ≤ q → rt[q]? = rows[q]?
  kept : rt.take i = keepR (l.take j) (rows.take j) m
  at_ : i = (keepR (l.take j) (rows.take j) m).length
  grown : w.grownBy wr (some g)
set_option maxHeartbeats 4000000 in
set_option maxRecDepth 100000 in
theorem delete_done (A : Option Addr) (c : Nat) (l : List S32) (rows : List (List Value)) (m : Int) (X : Value) (qb base : Nat) (w : World) (hR : (Kd.raw 3).R 32 w base (fun _ => True) (.slice A l.length c) rows) (hl : rows.length = l.length) (hd : LineD l rows) (hsm : l.length < 1000000000) (hq : w.heap[qb]? = some (.cells #[.int .i64 m, X] 24 (0, 0))) :
    Calls Try.prog 31 #[.slice A l.length c, .func (.func 32) #[] #[.pointer (some ⟨qb, 0, none⟩)]] w
      fun e w' => e = .returned (.slice A (keepR l rows m).length c) ∧ (Kd.raw 3).R 32 w' base (fun _ => True) (.slice A (keepR l rows m).length c) (keepR l rows m) ∧ w.grownBy w' (Value.slice A l.length c).ownBlock := by
  have HR := Aside0.mk hR
  have HL := Aside0.mk hl
  have HD := Aside0.mk hd
  have HQ := Aside0.mk hq
  have HSM := Aside0.mk hsm
  clear hR hl hd hq
  go_enter Try.func31, Try.ntmps31
  go_wp2_with fail
  go_at_call 43
  with_reducible refine (index_old A c l rows m X qb base _ HR.out HL.out HD.out HSM.out HQ.out).mono ?_
  rintro e w1 ⟨⟨⟨rfl, hn⟩ | ⟨k0, rfl, hk0, hm0, hn⟩⟩, hb⟩
  · have HK : Aside0 (keepR l rows m = rows) := ⟨by have := keep_none l rows m HL.out l.length (Nat.le_refl _) hn; rwa [List.take_length, ← HL.out, List.take_length] at this⟩
    have HB1 := Aside0.mk hb
    clear hn hb
    go_wp2
    go_ret
    rw [HK.out, HL.out]
    exact ⟨rfl, Kd.R_below HR.out HB1.out, grown_of_below HB1.out _⟩
  · obtain ⟨g, rfl⟩ : ∃ g, A = some ⟨g, 0, none⟩ := by
      rcases A with _ | ad
      · obtain ⟨A, c, he, _, hC⟩ := Kd.R_reads HR.out
        rw [HL.out] at he hC
        obtain ⟨ad, h1, _⟩ := hC.2.2 (by omega)
        injection he with he
        rw [h1] at he
        cases he
      · obtain ⟨g, rfl⟩ := Kd.R_head HR.out
        exact ⟨g, rfl⟩
    have HI0 : Aside0 (DelInv w base g l.length c l rows m k0 (k0 + 1) rows w1) := ⟨by
      have e1 := keep_none l rows m HL.out k0 (by omega) hn
      have e2 := keep_step l rows m k0 HL.out hk0 _ _ (List.getElem?_eq_getElem hk0) (List.getElem?_eq_getElem (show k0 < rows.length by rw [HL.out]; exact hk0))
      rw [List.getD_eq_getElem?_getD, List.getElem?_eq_getElem hk0, Option.getD_some] at hm0
      rw [if_pos hm0, List.append_nil, e1] at e2
      exact ⟨HL.out, Kd.R_below HR.out hb, fun q _ => rfl, e2.symm, by rw [e2, List.length_take, HL.out]; omega, grown_of_below hb _⟩⟩
    have hgq : g ≠ qb := fun he => Kd.R_ne HR.out HQ.out (by decide) (by simp [Value.ownBlock, he])
    have hneg : ((k0 : Int) == -1) = false := beq_eq_false_iff_ne.2 (by omega)
    clear hn hb hm0
    go_wp2
    go_loopw [5, 6] (fun v5 v6 wr => ∃ (i j : Nat) (rt : List (List Value)), v5 = .int .i64 i ∧ v6 = .int .i64 j ∧ i < j ∧ j ≤ l.length ∧ Aside0 (DelInv w base g l.length c l rows m i j rt wr)) (fun _ v6 _ => l.length - (intOf v6).toNat)
    case atStart => exact ⟨k0, k0 + 1, rows, rfl, by go_num, by omega, by omega, HI0⟩
    case round =>
      obtain ⟨i, j, rt, rfl, rfl, hij, hj, HI⟩ := hrel
      by_cases hlt : j < l.length
      · have b1 : decide ((j : Int) < (l.length : Int)) = true := decide_eq_true (by omega)
        have b1' : decide (j < l.length) = true := decide_eq_true hlt
        obtain ⟨cs, hc1, hc2, hc3, hc4⟩ := Kd.R_elem HI.out.raw [] (j : Int) (by omega) (by omega)
        have hrk : rows[j]? = some cs := by
          have h5 : cs = rt.getD j [] := hc2.1
          rw [← HI.out.rest j (Nat.le_refl _), h5, List.getD_eq_getElem?_getD, List.getElem?_eq_getElem (by rw [HI.out.len]; exact hlt)]
          rfl
        obtain ⟨d, hd⟩ : ∃ d, l[j]? = some d := ⟨_, List.getElem?_eq_getElem hlt⟩
        obtain ⟨A2, n2, c2, rfl⟩ := HD.out j d cs hd hrk
        have q0 : wr.cell? ⟨g, j * 3, none⟩ = some (.int .i64 d.f0) := hc3 0 _ rfl
        have q1 : wr.cell? ⟨g, j * 3 + 1, none⟩ = some (.int .i64 d.f1) := hc3 1 _ rfl
        have q2 : wr.cell? ⟨g, j * 3 + 2, none⟩ = some (.slice A2 n2 c2) := hc3 2 _ rfl
        have HQ1 := Aside0.mk ((HI.out.grown.block qb (blk_lt HQ.out) (by simp; exact Ne.symm hgq)).trans HQ.out)
        have HST := Aside0.mk (keep_step l rows m j HL.out hlt d _ hd hrk)
        have HRK := Aside0.mk hrk
        clear hc1 hc2 hc3 hc4 hd hrk
        by_cases ho : d.f0 < m
        · have ho' : decide (d.f0 < m) = true := decide_eq_true ho
          go_wp2_with (go_at_call 32; (with_reducible refine (old_any d A2 n2 c2 m X qb _ (blk_alloc HQ1.out _)).mono ?_); rintro e w2 ⟨rfl, hb⟩; rw [ho']; have HB1 := Aside0.mk (below_then (below_alloc (Below.refl wr.heap.size wr) _) (by simp) hb); clear hb)
          go_roundw
          case rel =>
            refine ⟨i, j + 1, rt, rfl, by go_num, by omega, by omega, ⟨?_⟩⟩
            have h6 := HST.out
            rw [if_pos ho, List.append_nil] at h6
            exact ⟨HI.out.len, Kd.R_below HI.out.raw HB1.out, fun q hq => HI.out.rest q (by omega), by rw [h6]; exact HI.out.kept, by rw [h6]; exact HI.out.at_, grown_trans HI.out.grown (grown_of_below HB1.out _)⟩
          case measure => simp [intOf]; omega
        · have ho' : decide (d.f0 < m) = false := decide_eq_false ho
          have hgl : g < wr.heap.size := Kd.R_lt HI.out.raw g (by simp [Value.ownBlock])
          have hgn : g ≠ wr.heap.size := by omega
          have hgn' : wr.heap.size ≠ g := by omega
          obtain ⟨ds, hd1, hd2, hd3, hd4⟩ := Kd.R_elem HI.out.raw [] (i : Int) (by omega) (by omega)
          obtain ⟨u0, u1, u2, rfl⟩ : ∃ u0 u1 u2, ds = [u0, u1, u2] := by
            match ds, hd1 with
            | [u0, u1, u2], _ => exact ⟨u0, u1, u2, rfl⟩
          have p0 : wr.cell? ⟨g, i * 3, none⟩ = some u0 := hd3 0 _ rfl
          have p1 : wr.cell? ⟨g, i * 3 + 1, none⟩ = some u1 := hd3 1 _ rfl
          have p2 : wr.cell? ⟨g, i * 3 + 2, none⟩ = some u2 := hd3 2 _ rfl
          clear hd1 hd2 hd3 hd4
          go_wp2_with (go_at_call 32; (with_reducible refine (old_any d A2 n2 c2 m X qb _ (blk_alloc HQ1.out _)).mono ?_); rintro e w2 ⟨rfl, hb⟩; rw [ho']; have HB1 := Aside0.mk (below_then (below_alloc (Below.refl wr.heap.size wr) _) (by simp) hb); have x0 : w2.cell? ⟨wr.heap.size, 0, none⟩ = some (.int .i64 d.f0) := (hb.cell (p := ⟨wr.heap.size, 0, none⟩) (by simp)).trans (cell_in1 _ _ _ 0); have x1 : w2.cell? ⟨wr.heap.size, 1, none⟩ = some (.int .i64 d.f1) := (hb.cell (p := ⟨wr.heap.size, 1, none⟩) (by simp)).trans (cell_in1 _ _ _ 1); have x2 : w2.cell? ⟨wr.heap.size, 2, none⟩ = some (.slice A2 n2 c2) := (hb.cell (p := ⟨wr.heap.size, 2, none⟩) (by simp)).trans (cell_in1 _ _ _ 2); have y0 := (HB1.out.cell (p := ⟨g, i * 3, none⟩) hgl).trans p0; have y1 := (HB1.out.cell (p := ⟨g, i * 3 + 1, none⟩) hgl).trans p1; have y2 := (HB1.out.cell (p := ⟨g, i * 3 + 2, none⟩) hgl).trans p2; obtain ⟨cz, hz1, hz2, hz3, hz4⟩ := Kd.R_elem (Kd.R_below HI.out.raw HB1.out) [] (i : Int) (by omega) (by omega); have z0 : w2.frozen? ⟨g, i * 3, none⟩ = false := hz4 0; have z1 : w2.frozen? ⟨g, i * 3 + 1, none⟩ = false := hz4 1; have z2 : w2.frozen? ⟨g, i * 3 + 2, none⟩ = false := hz4 2; clear hb hz1 hz2 hz3 hz4)
          go_roundw
          case rel =>
            refine ⟨i + 1, j + 1, rt.set i [.int .i64 d.f0, .int .i64 d.f1, .slice A2 n2 c2], by go_num, by go_num, by omega, by omega, ⟨?_⟩⟩
            have h6 := HST.out
            rw [if_neg (by omega)] at h6
            have RW2 := Kd.R_below HI.out.raw HB1.out
            obtain ⟨csz, hz1, _, hz3, _⟩ := Kd.R_elem RW2 [] (i : Int) (by omega) (by omega)
            obtain ⟨hraw, hgr⟩ := Kd.R_seg RW2 (i : Int) (by omega) (by omega) (c := csz) (seg := [.int .i64 d.f0, .int .i64 d.f1, .slice A2 n2 c2]) (j := 0) (x' := [.int .i64 d.f0, .int .i64 d.f1, .slice A2 n2 c2]) (okp := fun _ => False) hz1 hz3 (by show 0 + 3 ≤ 3; omega) (by
              have h6 : csz.drop (0 + [Value.int .i64 d.f0, .int .i64 d.f1, .slice A2 n2 c2].length) = [] := List.drop_of_length_le (by rw [hz1]; exact Nat.le_refl _)
              rw [h6, List.take_zero]
              refine ⟨rfl, rfl, ?_⟩
              intro u hu
              simp at hu
              rcases hu with rfl | rfl | rfl <;> rfl) (fun _ hk => hk.elim)
            have hil : i < rt.length := by rw [HI.out.len]; omega
            refine ⟨by rw [List.length_set]; exact HI.out.len, hraw, fun q hq => ?_, ?_, by rw [h6, List.length_append, ← HI.out.at_]; rfl, grown_trans (grown_trans HI.out.grown (grown_of_below HB1.out _)) hgr⟩
            · show (rt.set (i : Int).toNat _)[q]? = _
              rw [List.getElem?_set_ne (by omega)]
              exact HI.out.rest q (by omega)
            · rw [h6, List.take_succ_eq_append_getElem (by rw [List.length_set]; exact hil), List.take_set_of_le (Nat.le_refl _), HI.out.kept, List.getElem_set_self]
          case measure => simp [intOf]; omega
      · have b1 : decide ((j : Int) < (l.length : Int)) = false := decide_eq_false (by omega)
        have b1' : decide (j < l.length) = false := decide_eq_false hlt
        have hKR : keepR l rows m = keepR (l.take j) (rows.take j) m := by
          rw [List.take_of_length_le (by omega), List.take_of_length_le (by rw [HL.out]; omega)]
        have hcn : l.length ≤ c := by
          obtain ⟨A, c', he, hle, _⟩ := Kd.R_reads HI.out.raw
          injection he with _ _ he
          rw [he, ← HI.out.len]
          exact hle
        have hcell : ∀ q, q < (l.length - i) * 3 → (wr.cell? ⟨g, i * 3 + q, none⟩).isSome = true ∧ wr.frozen? ⟨g, i * 3 + q, none⟩ = false := fun q hq => by
          obtain ⟨cs, hc1, _, hc3, hc4⟩ := Kd.R_elem HI.out.raw [] ((i + q / 3 : Nat) : Int) (by omega) (by omega)
          have hc1' : cs.length = 3 := hc1
          have h7 := hc3 (q % 3) _ (List.getElem?_eq_getElem (by omega))
          have h8 := hc4 (q % 3)
          have e7 : ((i + q / 3 : Nat) : Int).toNat * (Kd.raw 3).sz + q % 3 = i * 3 + q := by
            show (((i + q / 3 : Nat) : Int).toNat) * 3 + q % 3 = i * 3 + q
            rw [Int.toNat_natCast]
            omega
          rw [e7] at h7 h8
          exact ⟨by rw [h7]; rfl, h8⟩
        have hzero : ∀ W, (zeroValue 32).run Try.prog W = .ok (.agg #[.int .i64 0, .int .i64 0, .slice none 0 0]) W := fun W => by kernel_rfl
        have hone : ∀ u ∈ (Value.agg #[.int .i64 0, .int .i64 0, .slice none 0 0]).cells.toList, u.oneCell' = true := by
          intro u hu
          have hu' : u ∈ [Value.int .i64 0, .int .i64 0, .slice none 0 0] := hu
          simp at hu'
          rcases hu' with rfl | rfl <;> rfl
        have hcl : ∀ ty, (Builtin.clear_ #[22] ty #[.slice (some ⟨g, i * 3, none⟩) (l.length - i) (c - i)]).run Try.prog wr = .ok (.tuple #[]) (wr.setCells g (i * 3) (Builtin.zeroCells (Value.agg #[.int .i64 0, .int .i64 0, .slice none 0 0]).cells (l.length - i)).toList) :=
          fun ty => run_clear_row wr _ _ ty _ Try.underlying22 hzero hone g (i * 3) (l.length - i) (c - i) (by omega) (fun q hq => (hcell q hq).1) (fun q hq => (hcell q hq).2)
        have hic : decide (i ≤ l.length) = true := decide_eq_true (by omega)
        clear hcell hzero
        go_wp2_with (simp only [hcl])
        go_ret
        obtain ⟨rows', hl', ht', hR', hG'⟩ := raw_wipe (Value.agg #[.int .i64 0, .int .i64 0, .slice none 0 0]).cells (by decide) hone (l.length - i) i wr rt (by omega) HI.out.len HI.out.raw
        have hT := Kd.R_take hR' (m := i) (by omega)
        rw [ht', HI.out.kept, ← hKR] at hT
        have hi := HI.out.at_
        rw [← hKR] at hi
        rw [← hi]
        exact ⟨rfl, hT, grown_trans HI.out.grown hG'⟩
def window_Forget.f (a0_0 : Int) (l0_1 : List (S32)) (a1 : Int) (a2 : Int) : Option (Int × (List (S32)) × Int × Int) := some (forgetW a0_0 l0_1 a1 a2)
set_option maxHeartbeats 4000000 in
set_option maxRecDepth 100000 in
theorem window_Forget.calls (a0_0 : Int) (A0_1 : Option Addr) (c0_1 : Nat) (l0_1 : List (S32)) (a1 : Int) (a2 : Int) (r1 : Int) (r2 : List (S32)) (r3 : Int) (r4 : Int) (w : World) (hr0_1 : Kd.C k32 w A0_1 l0_1.length l0_1) (hc0_1 : l0_1.length ≤ c0_1) (h : window_Forget.f a0_0 l0_1 a1 a2 = some (r1, r2, r3, r4)) :
    Calls Try.prog 13 #[.agg #[.int .i64 a0_0, .slice A0_1 l0_1.length c0_1], .int .i64 a1, .int .i64 a2] w fun e w' => ∃ v1_ : Value, e = .returned (.tuple #[.agg #[.int .i64 r1, v1_], .int .i64 r3, .int .i64 r4]) ∧ Kd.S k32 32 w' w.heap.size (fun _ => True) v1_ r2 ∧ Below w.heap.size w w' := by
  unfold window_Forget.f at h
  replace h := Option.some.inj h
  have HR := Aside0.mk hr0_1
  have HC := Aside0.mk hc0_1
  have HH := Aside0.mk h
  clear hr0_1 hc0_1 h
  by_cases hk : checkW a0_0 l0_1 a1 = 0
  · have HK := Aside0.mk (show window_Check.f a0_0 l0_1 a1 = some 0 by unfold window_Check.f; rw [hk])
    have HM := Aside0.mk (may_of _ _ _ hk)
    by_cases hm : 1073741824 < a2
    · have HS : Aside0 (forgetW a0_0 l0_1 a1 a2 = (0, [], 0, 4)) := ⟨by unfold forgetW; rw [if_neg (by rw [hk]; simp), if_pos hm]⟩
      rw [HS.out] at HH
      obtain ⟨⟨⟩⟩ := HH
      have b1 : decide (1073741824 < a2) = true := decide_eq_true hm
      clear hk hm
      go_enter Try.func13, Try.ntmps13
      go_wp2_with (go_at_call 14; (with_reducible refine (window_Check.calls a0_0 A0_1 c0_1 l0_1 a1 0 _ ?hr1 HC.out HK.out).mono ?_); (case hr1 => exact Kd.C_alloc (Kd.C_alloc HR.out _) _); rintro e w1 ⟨rfl, hb⟩; have HB1 := Aside0.mk (below_then (below_alloc (below_alloc (Below.refl _ _) _) _) (by simp; omega) hb); have BK := Aside0.mk ((hb.block (w.heap.size + 1) (by simp)).trans (heap_new2 w _ _)); have BK0 := Aside0.mk ((hb.block w.heap.size (by simp; omega)).trans (blk_alloc (heap_new1 w _) _)); have hlt1 : w.heap.size + 1 < w1.heap.size := blk_lt BK.out; have hcz0 : w1.cell? ⟨w.heap.size + 1, 0, none⟩ = some (.int .i64 0) := (blk_cell BK.out 0).trans rfl; have hcz1 : w1.cell? ⟨w.heap.size + 1, 1, none⟩ = some (.slice none 0 0) := (blk_cell BK.out 1).trans rfl; have hfz0 := blk_frozen BK.out 0; have hfz1 := blk_frozen BK.out 1; have hcw0 : w1.cell? ⟨w.heap.size, 0, none⟩ = some (.int .i64 a0_0) := (blk_cell BK0.out 0).trans rfl; have hcw1 : w1.cell? ⟨w.heap.size, 1, none⟩ = some (.slice A0_1 l0_1.length c0_1) := (blk_cell BK0.out 1).trans rfl; clear hb)
      refine bodyPost_ret (results_list (rs := [.cell 6 24, .tmp 7, .tmp 8]) rfl (by simp) (.cell (w.heap.size + 1) 24 #[.int .i64 0, .slice none 0 0] (0, 0) _ rfl (blk_put (cs := #[.int .i64 0, .slice none 0 0]) (blk_put (cs := #[.int .i64 0, .slice none 0 0]) BK.out 0 _ rfl) 1 _ rfl) Try.underlying24 rfl (by kernel_rfl) (.tmp (.tmp .nil)))) rfl ?_
      exact ⟨_, rfl, Kd.S_nil _ _ _ _ _, below_set (below_set HB1.out (by simp)) (by simp)⟩
    · have HS : Aside0 (forgetW a0_0 l0_1 a1 a2 = (max a2 a0_0, keepD l0_1 (max a2 a0_0), (l0_1.length : Int) - ((keepD l0_1 (max a2 a0_0)).length : Int), 0)) := ⟨by unfold forgetW; rw [if_neg (by rw [hk]; simp), if_neg hm]⟩
      rw [HS.out] at HH
      obtain ⟨⟨⟩⟩ := HH
      have b1 : decide (1073741824 < a2) = false := decide_eq_false hm
      have HCL : Aside0 (window_Clone.f a0_0 l0_1 = some (a0_0, l0_1)) := ⟨by
        have hm := HM.out
        have := hm.len
        have := hm.s2
        unfold window_Clone.f
        rw [if_pos ⟨by omega, fun d hd => by
          obtain ⟨i, hi, rfl⟩ := List.mem_iff_getElem.1 hd
          have := (hm.bds i hi).2.2.2.2
          rw [show l0_1.getD i z32 = l0_1[i] by simp [List.getElem?_eq_getElem hi]] at this
          omega⟩]⟩
      clear hk hm
      go_enter Try.func13, Try.ntmps13
      go_wp2_with (go_at_call 14; (with_reducible refine (window_Check.calls a0_0 A0_1 c0_1 l0_1 a1 0 _ ?hr1 HC.out HK.out).mono ?_); (case hr1 => exact Kd.C_alloc (Kd.C_alloc HR.out _) _); rintro e w1 ⟨rfl, hb⟩; have HB1 := Aside0.mk (below_then (below_alloc (below_alloc (Below.refl _ _) _) _) (by simp; omega) hb); have BK := Aside0.mk ((hb.block (w.heap.size + 1) (by simp)).trans (heap_new2 w _ _)); have BK0 := Aside0.mk ((hb.block w.heap.size (by simp; omega)).trans (blk_alloc (heap_new1 w _) _)); have hlt1 : w.heap.size + 1 < w1.heap.size := blk_lt BK.out; have hcz0 : w1.cell? ⟨w.heap.size + 1, 0, none⟩ = some (.int .i64 0) := (blk_cell BK.out 0).trans rfl; have hcz1 : w1.cell? ⟨w.heap.size + 1, 1, none⟩ = some (.slice none 0 0) := (blk_cell BK.out 1).trans rfl; have hfz0 := blk_frozen BK.out 0; have hfz1 := blk_frozen BK.out 1; have hcw0 : w1.cell? ⟨w.heap.size, 0, none⟩ = some (.int .i64 a0_0) := (blk_cell BK0.out 0).trans rfl; have hcw1 : w1.cell? ⟨w.heap.size, 1, none⟩ = some (.slice A0_1 l0_1.length c0_1) := (blk_cell BK0.out 1).trans rfl; clear hb)
      go_at_call 30
      with_reducible refine (window_Clone.calls a0_0 A0_1 c0_1 l0_1 a0_0 l0_1 _ (Kd.C_below HR.out HB1.out) HC.out HCL.out).mono ?_
      rintro e w2 ⟨v1, rfl, hS, hb⟩
      have HB2 := Aside0.mk (below_then HB1.out HB1.out.size hb)
      have BK2 := Aside0.mk (blk_below BK.out hb)
      have BW2 := Aside0.mk (blk_below BK0.out hb)
      have hlt2 : w.heap.size + 1 < w2.heap.size := blk_lt BK2.out
      obtain ⟨_, rows, f, hrl, hrR, hrM⟩ := S_open (Kd.S_lower hS (show w.heap.size ≤ w1.heap.size by omega))
      obtain ⟨A1, c1, rfl⟩ := Kd.R_slice hrR
      have hlen : rows.length = l0_1.length := hrl
      rw [hlen] at hrR hrM ⊢
      have hLD : LineD l0_1 rows := fun j d cs hd hc => by
        obtain ⟨v2, rfl, hv⟩ := k32_openM (hrM j d cs hd hc)
        obtain ⟨A, c, rfl⟩ := Kd.R_slice hv
        exact ⟨A, _, c, rfl⟩
      have HRL := Aside0.mk hlen
      have HRR := Aside0.mk hrR
      have HRM := Aside0.mk hrM
      have HLD := Aside0.mk hLD
      have hdw0 : w2.cell? ⟨w.heap.size, 0, none⟩ = some (.int .i64 a0_0) := (blk_cell BW2.out 0).trans rfl
      have hdw1 : w2.cell? ⟨w.heap.size, 1, none⟩ = some (.slice A0_1 l0_1.length c0_1) := (blk_cell BW2.out 1).trans rfl
      clear hS hb hrl hrR hrM hLD hcz0 hcz1 hfz0 hfz1 hcw0 hcw1
      have hsm : l0_1.length < 1000000000 := by have := HM.out.len; have := HM.out.s2; omega
      have HSM := Aside0.mk hsm
      have hlt3 : w.heap.size < w2.heap.size := by omega
      have hne3 : w.heap.size ≠ w2.heap.size := by omega
      have hne3' : w2.heap.size ≠ w.heap.size := by omega
      by_cases hmx : a0_0 ≤ a2
      · have bmx : decide (a0_0 ≤ a2) = true := decide_eq_true hmx
        have HMX := Aside0.mk (show max a2 a0_0 = a2 by omega)
        go_wp2_with (go_at_call 31; (with_reducible refine (delete_done A1 c1 l0_1 rows a2 (.slice A1 l0_1.length c1) w2.heap.size w.heap.size _ ?hr4 HRL.out HLD.out HSM.out ?hq4).mono ?_); (case hr4 => exact Kd.R_below (Kd.R_mono HRR.out (fun _ _ => trivial)) (below_alloc (Below.refl _ _) _)); (case hq4 => exact heap_new1 w2 _); rintro e w4 ⟨rfl, hR4, hG4⟩; have HR4 := Aside0.mk hR4; have HG4 := Aside0.mk hG4; have HOWN : Aside0 (∀ q t cs, (w2.alloc (.cells #[.int .i64 a2, .slice A1 l0_1.length c1] 24)).heap[q]? = some (.cells cs t (0, 0)) → t = 24 → some q ≠ (Value.slice A1 l0_1.length c1).ownBlock) := ⟨fun q t cs h1 h2 => by subst h2; exact Kd.R_ne (Kd.R_below HRR.out (below_alloc (Below.refl _ _) _)) h1 (by decide)⟩; have BO4 := Aside0.mk (blk_grown (heap_new1 w2 _) hG4 (HOWN.out _ _ _ (heap_new1 w2 _) rfl)); have BW4 := Aside0.mk (blk_grown (blk_alloc BW2.out _) hG4 (HOWN.out _ _ _ (blk_alloc BW2.out _) rfl)); have BR4 := Aside0.mk (blk_grown (blk_alloc BK2.out _) hG4 (HOWN.out _ _ _ (blk_alloc BK2.out _) rfl)); have ho0 : w4.cell? ⟨w2.heap.size, 0, none⟩ = some (.int .i64 a2) := (blk_cell BO4.out 0).trans rfl; have ho1 : w4.cell? ⟨w2.heap.size, 1, none⟩ = some (.slice A1 l0_1.length c1) := (blk_cell BO4.out 1).trans rfl; have hof1 := blk_frozen BO4.out 1; have hw1 : w4.cell? ⟨w.heap.size, 1, none⟩ = some (.slice A0_1 l0_1.length c0_1) := (blk_cell BW4.out 1).trans rfl; have hr0 : w4.cell? ⟨w.heap.size + 1, 0, none⟩ = some (.int .i64 0) := (blk_cell BR4.out 0).trans rfl; have hr1 : w4.cell? ⟨w.heap.size + 1, 1, none⟩ = some (.slice none 0 0) := (blk_cell BR4.out 1).trans rfl; have hrf0 := blk_frozen BR4.out 0; have hrf1 := blk_frozen BR4.out 1; clear hR4 hG4)
        have hkl : (keepR l0_1 rows a2).length ≤ l0_1.length := by have := keep_len_le l0_1 rows a2 l0_1.length; rwa [List.take_length, ← HRL.out, List.take_length, HRL.out] at this
        have BO5 := Aside0.mk (blk_put (cs := #[.int .i64 a2, .slice A1 l0_1.length c1]) BO4.out 1 (.slice A1 (keepR l0_1 rows a2).length c1) rfl)
        have BW5 := Aside0.mk (blk_far BW4.out (show w.heap.size ≠ (⟨w2.heap.size, 1, none⟩ : Addr).block by simpa using hne3) (.slice A1 (keepR l0_1 rows a2).length c1))
        have BR5 := Aside0.mk (blk_far BR4.out (show w.heap.size + 1 ≠ (⟨w2.heap.size, 1, none⟩ : Addr).block by simp; omega) (.slice A1 (keepR l0_1 rows a2).length c1))
        have hSC : Kd.S k32 32 w4 w.heap.size (fun _ => True) (.slice A1 (keepR l0_1 rows a2).length c1) (keepD l0_1 a2) := by
          obtain ⟨hkk, t, ht1, ht2⟩ := keep_tags l0_1 rows a2 HRL.out
          refine S_close (t := t) (f := f) (fun _ _ => trivial) hkk HR4.out ht1 (fun j x cs hx hc => ?_)
          obtain ⟨g1, g2⟩ := ht2 j x cs hx hc
          have h7 := k32.M_bound (HRM.out (t j) x cs g1 g2)
          have h8 := k32.M_move (w1 := w4) (fun q hq => (HG4.out.block q (by have := hq.2.2.1; simp; omega) hq.1.1.2).trans (Below.heap_alloc w2 _ q hq.2.2.1)) h7
          exact k32.M_mono (fun q hq => ⟨⟨trivial, fun he => hq.1.1.2 (he.trans (by cases A1 <;> rfl))⟩, hq.1.2⟩) h8
        have HS5 := Aside0.mk (Kd.S_set hSC BO4.out (by decide) 1 (.slice A1 (keepR l0_1 rows a2).length c1))
        have HB5 := Aside0.mk (below_set (below_grown_own (below_then HB2.out HB2.out.size (below_alloc (Below.refl w2.heap.size w2) (.cells #[.int .i64 a2, .slice A1 l0_1.length c1] 24))) HG4.out (fun q hq => Kd.R_base HRR.out q hq) (by rw [World.size_alloc]; omega)) (show w.heap.size ≤ w2.heap.size by omega) (j := 1) (v := .slice A1 (keepR l0_1 rows a2).length c1))
        obtain ⟨W5, hW5⟩ : ∃ W5, W5 = w4.setCell ⟨w2.heap.size, 1, none⟩ (.slice A1 (keepR l0_1 rows a2).length c1) := ⟨_, rfl⟩
        rw [← hW5] at BO5 BW5 BR5 HS5 HB5 ⊢
        have so0 : W5.cell? ⟨w2.heap.size, 0, none⟩ = some (.int .i64 a2) := (blk_cell BO5.out 0).trans rfl
        have so1 : W5.cell? ⟨w2.heap.size, 1, none⟩ = some (.slice A1 (keepR l0_1 rows a2).length c1) := (blk_cell BO5.out 1).trans rfl
        have sw1 : W5.cell? ⟨w.heap.size, 1, none⟩ = some (.slice A0_1 l0_1.length c0_1) := (blk_cell BW5.out 1).trans rfl
        have sr0 : W5.cell? ⟨w.heap.size + 1, 0, none⟩ = some (.int .i64 0) := (blk_cell BR5.out 0).trans rfl
        have sr1 : W5.cell? ⟨w.heap.size + 1, 1, none⟩ = some (.slice none 0 0) := (blk_cell BR5.out 1).trans rfl
        have srf0 := blk_frozen BR5.out 0
        have srf1 := blk_frozen BR5.out 1
        have hne4 : w2.heap.size ≠ w.heap.size + 1 := by omega
        have hne4' : w.heap.size + 1 ≠ w2.heap.size := by omega
        have hsub : IntKind.i64.wrap ((l0_1.length : Int) - ((keepR l0_1 rows a2).length : Int)) = (l0_1.length : Int) - ((keepR l0_1 rows a2).length : Int) := by rw [IntKind.wrap_i64]; omega
        clear hW5 ho0 ho1 hof1 hw1 hr0 hr1 hrf0 hrf1 hkl hSC
        go_region_held3 (fun w' => w'.cell? ⟨w2.heap.size, 0, none⟩ = some (.int .i64 a2) ∧ w'.cell? ⟨w2.heap.size, 1, none⟩ = some (.slice A1 (keepR l0_1 rows a2).length c1) ∧ w'.cell? ⟨w.heap.size, 1, none⟩ = some (.slice A0_1 l0_1.length c0_1)) (go_keep) (fail)
        have hkk := (keep_tags l0_1 rows a2 HRL.out).1
        go_wp2
        refine bodyPost_ret (results_list (rs := [.cell 6 24, .tmp 7, .tmp 8]) rfl (by simp) (.cell (w.heap.size + 1) 24 #[.int .i64 a2, .slice A1 (keepR l0_1 rows a2).length c1] (0, 0) _ rfl (blk_put (cs := #[.int .i64 a2, .slice none 0 0]) (blk_put (cs := #[.int .i64 0, .slice none 0 0]) BR5.out 0 _ rfl) 1 _ rfl) Try.underlying24 rfl (by kernel_rfl) (.tmp (.tmp .nil)))) rfl ?_
        rw [HMX.out, ← hkk]
        exact ⟨_, rfl, Kd.S_drew (Kd.S_set (Kd.S_set HS5.out BR5.out (by decide) 0 _) (blk_put (cs := #[.int .i64 0, .slice none 0 0]) BR5.out 0 _ rfl) (by decide) 1 _), below_drew (below_set (below_set HB5.out (by simp)) (by simp))⟩
      · have bmx : decide (a0_0 ≤ a2) = false := decide_eq_false hmx
        have HMX := Aside0.mk (show max a2 a0_0 = a0_0 by omega)
        go_wp2_with (go_at_call 31; (with_reducible refine (delete_done A1 c1 l0_1 rows a0_0 (.slice A1 l0_1.length c1) w2.heap.size w.heap.size _ ?hr4 HRL.out HLD.out HSM.out ?hq4).mono ?_); (case hr4 => exact Kd.R_below (Kd.R_mono HRR.out (fun _ _ => trivial)) (below_alloc (Below.refl _ _) _)); (case hq4 => exact heap_new1 w2 _); rintro e w4 ⟨rfl, hR4, hG4⟩; have HR4 := Aside0.mk hR4; have HG4 := Aside0.mk hG4; have HOWN : Aside0 (∀ q t cs, (w2.alloc (.cells #[.int .i64 a0_0, .slice A1 l0_1.length c1] 24)).heap[q]? = some (.cells cs t (0, 0)) → t = 24 → some q ≠ (Value.slice A1 l0_1.length c1).ownBlock) := ⟨fun q t cs h1 h2 => by subst h2; exact Kd.R_ne (Kd.R_below HRR.out (below_alloc (Below.refl _ _) _)) h1 (by decide)⟩; have BO4 := Aside0.mk (blk_grown (heap_new1 w2 _) hG4 (HOWN.out _ _ _ (heap_new1 w2 _) rfl)); have BW4 := Aside0.mk (blk_grown (blk_alloc BW2.out _) hG4 (HOWN.out _ _ _ (blk_alloc BW2.out _) rfl)); have BR4 := Aside0.mk (blk_grown (blk_alloc BK2.out _) hG4 (HOWN.out _ _ _ (blk_alloc BK2.out _) rfl)); have ho0 : w4.cell? ⟨w2.heap.size, 0, none⟩ = some (.int .i64 a0_0) := (blk_cell BO4.out 0).trans rfl; have ho1 : w4.cell? ⟨w2.heap.size, 1, none⟩ = some (.slice A1 l0_1.length c1) := (blk_cell BO4.out 1).trans rfl; have hof1 := blk_frozen BO4.out 1; have hw1 : w4.cell? ⟨w.heap.size, 1, none⟩ = some (.slice A0_1 l0_1.length c0_1) := (blk_cell BW4.out 1).trans rfl; have hr0 : w4.cell? ⟨w.heap.size + 1, 0, none⟩ = some (.int .i64 0) := (blk_cell BR4.out 0).trans rfl; have hr1 : w4.cell? ⟨w.heap.size + 1, 1, none⟩ = some (.slice none 0 0) := (blk_cell BR4.out 1).trans rfl; have hrf0 := blk_frozen BR4.out 0; have hrf1 := blk_frozen BR4.out 1; clear hR4 hG4)
        have hkl : (keepR l0_1 rows a0_0).length ≤ l0_1.length := by have := keep_len_le l0_1 rows a0_0 l0_1.length; rwa [List.take_length, ← HRL.out, List.take_length, HRL.out] at this
        have BO5 := Aside0.mk (blk_put (cs := #[.int .i64 a0_0, .slice A1 l0_1.length c1]) BO4.out 1 (.slice A1 (keepR l0_1 rows a0_0).length c1) rfl)
        have BW5 := Aside0.mk (blk_far BW4.out (show w.heap.size ≠ (⟨w2.heap.size, 1, none⟩ : Addr).block by simpa using hne3) (.slice A1 (keepR l0_1 rows a0_0).length c1))
        have BR5 := Aside0.mk (blk_far BR4.out (show w.heap.size + 1 ≠ (⟨w2.heap.size, 1, none⟩ : Addr).block by simp; omega) (.slice A1 (keepR l0_1 rows a0_0).length c1))
        have hSC : Kd.S k32 32 w4 w.heap.size (fun _ => True) (.slice A1 (keepR l0_1 rows a0_0).length c1) (keepD l0_1 a0_0) := by
          obtain ⟨hkk, t, ht1, ht2⟩ := keep_tags l0_1 rows a0_0 HRL.out
          refine S_close (t := t) (f := f) (fun _ _ => trivial) hkk HR4.out ht1 (fun j x cs hx hc => ?_)
          obtain ⟨g1, g2⟩ := ht2 j x cs hx hc
          have h7 := k32.M_bound (HRM.out (t j) x cs g1 g2)
          have h8 := k32.M_move (w1 := w4) (fun q hq => (HG4.out.block q (by have := hq.2.2.1; simp; omega) hq.1.1.2).trans (Below.heap_alloc w2 _ q hq.2.2.1)) h7
          exact k32.M_mono (fun q hq => ⟨⟨trivial, fun he => hq.1.1.2 (he.trans (by cases A1 <;> rfl))⟩, hq.1.2⟩) h8
        have HS5 := Aside0.mk (Kd.S_set hSC BO4.out (by decide) 1 (.slice A1 (keepR l0_1 rows a0_0).length c1))
        have HB5 := Aside0.mk (below_set (below_grown_own (below_then HB2.out HB2.out.size (below_alloc (Below.refl w2.heap.size w2) (.cells #[.int .i64 a0_0, .slice A1 l0_1.length c1] 24))) HG4.out (fun q hq => Kd.R_base HRR.out q hq) (by rw [World.size_alloc]; omega)) (show w.heap.size ≤ w2.heap.size by omega) (j := 1) (v := .slice A1 (keepR l0_1 rows a0_0).length c1))
        obtain ⟨W5, hW5⟩ : ∃ W5, W5 = w4.setCell ⟨w2.heap.size, 1, none⟩ (.slice A1 (keepR l0_1 rows a0_0).length c1) := ⟨_, rfl⟩
        rw [← hW5] at BO5 BW5 BR5 HS5 HB5 ⊢
        have so0 : W5.cell? ⟨w2.heap.size, 0, none⟩ = some (.int .i64 a0_0) := (blk_cell BO5.out 0).trans rfl
        have so1 : W5.cell? ⟨w2.heap.size, 1, none⟩ = some (.slice A1 (keepR l0_1 rows a0_0).length c1) := (blk_cell BO5.out 1).trans rfl
        have sw1 : W5.cell? ⟨w.heap.size, 1, none⟩ = some (.slice A0_1 l0_1.length c0_1) := (blk_cell BW5.out 1).trans rfl
        have sr0 : W5.cell? ⟨w.heap.size + 1, 0, none⟩ = some (.int .i64 0) := (blk_cell BR5.out 0).trans rfl
        have sr1 : W5.cell? ⟨w.heap.size + 1, 1, none⟩ = some (.slice none 0 0) := (blk_cell BR5.out 1).trans rfl
        have srf0 := blk_frozen BR5.out 0
        have srf1 := blk_frozen BR5.out 1
        have hne4 : w2.heap.size ≠ w.heap.size + 1 := by omega
        have hne4' : w.heap.size + 1 ≠ w2.heap.size := by omega
        have hsub : IntKind.i64.wrap ((l0_1.length : Int) - ((keepR l0_1 rows a0_0).length : Int)) = (l0_1.length : Int) - ((keepR l0_1 rows a0_0).length : Int) := by rw [IntKind.wrap_i64]; omega
        clear hW5 ho0 ho1 hof1 hw1 hr0 hr1 hrf0 hrf1 hkl hSC
        go_region_held3 (fun w' => w'.cell? ⟨w2.heap.size, 0, none⟩ = some (.int .i64 a0_0) ∧ w'.cell? ⟨w2.heap.size, 1, none⟩ = some (.slice A1 (keepR l0_1 rows a0_0).length c1) ∧ w'.cell? ⟨w.heap.size, 1, none⟩ = some (.slice A0_1 l0_1.length c0_1)) (go_keep) (fail)
        have hkk := (keep_tags l0_1 rows a0_0 HRL.out).1
        go_wp2
        refine bodyPost_ret (results_list (rs := [.cell 6 24, .tmp 7, .tmp 8]) rfl (by simp) (.cell (w.heap.size + 1) 24 #[.int .i64 a0_0, .slice A1 (keepR l0_1 rows a0_0).length c1] (0, 0) _ rfl (blk_put (cs := #[.int .i64 a0_0, .slice none 0 0]) (blk_put (cs := #[.int .i64 0, .slice none 0 0]) BR5.out 0 _ rfl) 1 _ rfl) Try.underlying24 rfl (by kernel_rfl) (.tmp (.tmp .nil)))) rfl ?_
        rw [HMX.out, ← hkk]
        exact ⟨_, rfl, Kd.S_drew (Kd.S_set (Kd.S_set HS5.out BR5.out (by decide) 0 _) (blk_put (cs := #[.int .i64 0, .slice none 0 0]) BR5.out 0 _ rfl) (by decide) 1 _), below_drew (below_set (below_set HB5.out (by simp)) (by simp))⟩
  · obtain ⟨E, hE⟩ : ∃ E, E = checkW a0_0 l0_1 a1 := ⟨_, rfl⟩
    have HK := Aside0.mk (show window_Check.f a0_0 l0_1 a1 = some E by unfold window_Check.f; rw [hE])
    have HS : Aside0 (forgetW a0_0 l0_1 a1 a2 = (0, [], 0, E)) := ⟨by unfold forgetW; rw [if_pos hk, hE]⟩
    have hne : (E == 0) = false := by rw [hE]; simpa using hk
    have h0 : ¬ E = 0 := by rw [hE]; exact hk
    clear hk hE
    rw [HS.out] at HH
    obtain ⟨⟨⟩⟩ := HH
    go_enter Try.func13, Try.ntmps13
    go_wp2_with (go_at_call 14; (with_reducible refine (window_Check.calls a0_0 A0_1 c0_1 l0_1 a1 r4 _ ?hr1 HC.out HK.out).mono ?_); (case hr1 => exact Kd.C_alloc (Kd.C_alloc HR.out _) _); rintro e w1 ⟨rfl, hb⟩; have HB1 := Aside0.mk (below_then (below_alloc (below_alloc (Below.refl _ _) _) _) (by simp; omega) hb); have BK := Aside0.mk ((hb.block (w.heap.size + 1) (by simp)).trans (heap_new2 w _ _)); have BK0 := Aside0.mk ((hb.block w.heap.size (by simp; omega)).trans (blk_alloc (heap_new1 w _) _)); have hlt1 : w.heap.size + 1 < w1.heap.size := blk_lt BK.out; have hcz0 : w1.cell? ⟨w.heap.size + 1, 0, none⟩ = some (.int .i64 0) := (blk_cell BK.out 0).trans rfl; have hcz1 : w1.cell? ⟨w.heap.size + 1, 1, none⟩ = some (.slice none 0 0) := (blk_cell BK.out 1).trans rfl; have hfz0 := blk_frozen BK.out 0; have hfz1 := blk_frozen BK.out 1; have hcw0 : w1.cell? ⟨w.heap.size, 0, none⟩ = some (.int .i64 a0_0) := (blk_cell BK0.out 0).trans rfl; have hcw1 : w1.cell? ⟨w.heap.size, 1, none⟩ = some (.slice A0_1 l0_1.length c0_1) := (blk_cell BK0.out 1).trans rfl; clear hb)
    refine bodyPost_ret (results_list (rs := [.cell 6 24, .tmp 7, .tmp 8]) rfl (by simp) (.cell (w.heap.size + 1) 24 #[.int .i64 0, .slice none 0 0] (0, 0) _ rfl (blk_put (cs := #[.int .i64 0, .slice none 0 0]) (blk_put (cs := #[.int .i64 0, .slice none 0 0]) BK.out 0 _ rfl) 1 _ rfl) Try.underlying24 rfl (by kernel_rfl) (.tmp (.tmp .nil)))) rfl ?_
    exact ⟨_, rfl, Kd.S_nil _ _ _ _ _, below_set (below_set HB1.out (by simp)) (by simp)⟩
end Go.Proofs.Ytkdkjnjiianogaa.G
end

section
namespace Go.Proofs.Ytkdkjnjiianogaa.G
open WB Go.RowKit Go.Proofs.YtkdkjnjiianogaaW.PrintWords Go.Proofs.YtkdkjnjiianogaaW.PrintLast Go.Proofs.YtkdkjnjiianogaaW.PrintMore
attribute [local go_sem] max2_int min2_int max_two min_two max_three min_three max_four min_four   -- for this text's walks alone
set_option linter.unusedVariables false
set_option linter.unusedSimpArgs false
def waybillplain_SameBytes.f (l0 : List Int) (l1 : List Int) : Option (Bool) := some ((strOfNums l0).toList == (strOfNums l1).toList)
set_option maxHeartbeats 8000000 in
set_option maxRecDepth 100000 in
theorem waybillplain_SameBytes.calls (A0 : Option Addr) (c0 : Nat) (l0 : List Int) (A1 : Option Addr) (c1 : Nat) (l1 : List Int) (r : Bool) (w : World) (hr0 : Kd.C (Kd.int .u8) w A0 l0.length l0) (hc0 : l0.length ≤ c0) (hr1 : Kd.C (Kd.int .u8) w A1 l1.length l1) (hc1 : l1.length ≤ c1) (h : waybillplain_SameBytes.f l0 l1 = some r) :
    Calls Try.prog 36 #[.slice A0 l0.length c0, .slice A1 l1.length c1] w fun e w' => e = .returned (.bool r) ∧ Drawn0 w w' := by
  have HR0 := Aside0.mk hr0
  have HC0 := Aside0.mk hc0
  clear hr0 hc0
  have HR1 := Aside0.mk hr1
  have HC1 := Aside0.mk hc1
  clear hr1 hc1
  have H : (some ((strOfNums l0).toList == (strOfNums l1).toList)) = some r := h
  clear h
  obtain rfl := Option.some.inj H
  simp only [Option.some.injEq, Prod.mk.injEq] at H
  obtain ⟨rfl⟩ := H
  have hcv3 := Kd.C_string (P := Try.prog) (A := A0) (c := c0) Try.underlying30 Try.underlying5 Try.underlying9 HR0.out
  have hcv4 := Kd.C_string (P := Try.prog) (A := A1) (c := c1) Try.underlying30 Try.underlying5 Try.underlying9 HR1.out
  go_enter Try.func36, Try.ntmps36
  go_wp2
  go_ret
  exact ⟨by first | rfl | (simp; done) | (simp [*]; done), by repeat (first | exact Drawn0.refl _ | apply Drawn0.step)⟩
def waybilllaw22_same.f (a0_0 : Int) (a0_1 : Int) (l0_2 : List Int) (a1_0 : Int) (a1_1 : Int) (l1_2 : List Int) : Option (Bool) := if a0_0 = a1_0 then (if a0_1 = a1_1 then ((waybillplain_SameBytes.f l0_2 l1_2).bind fun t157 => (some t157)) else (some false)) else (some false)
set_option maxHeartbeats 8000000 in
set_option maxRecDepth 100000 in
theorem waybilllaw22_same.calls (a0_0 : Int) (a0_1 : Int) (A0_2 : Option Addr) (c0_2 : Nat) (l0_2 : List Int) (a1_0 : Int) (a1_1 : Int) (A1_2 : Option Addr) (c1_2 : Nat) (l1_2 : List Int) (r : Bool) (w : World) (hr0_2 : Kd.C (Kd.int .u8) w A0_2 l0_2.length l0_2) (hc0_2 : l0_2.length ≤ c0_2) (hr1_2 : Kd.C (Kd.int .u8) w A1_2 l1_2.length l1_2) (hc1_2 : l1_2.length ≤ c1_2) (h : waybilllaw22_same.f a0_0 a0_1 l0_2 a1_0 a1_1 l1_2 = some r) :
    Calls Try.prog 15 #[.agg #[.int .i64 a0_0, .int .i64 a0_1, .slice A0_2 l0_2.length c0_2], .agg #[.int .i64 a1_0, .int .i64 a1_1, .slice A1_2 l1_2.length c1_2]] w fun e w' => e = .returned (.bool r) ∧ Below w.heap.size w w' := by
  have hu32 := Try.underlying32
  have HR0_2 := Aside0.mk hr0_2
  have HC0_2 := Aside0.mk hc0_2
  clear hr0_2 hc0_2
  have HR1_2 := Aside0.mk hr1_2
  have HC1_2 := Aside0.mk hc1_2
  clear hr1_2 hc1_2
  have HB := Aside0.mk (Below.refl w.heap.size w)
  have H : (if a0_0 = a1_0 then (if a0_1 = a1_1 then ((waybillplain_SameBytes.f l0_2 l1_2).bind fun t157 => (some t157)) else (some false)) else (some false)) = some r := h
  clear h
  by_cases c3 : a0_0 = a1_0
  · rw [if_pos c3] at H
    have c3b0 : (a0_0 == a1_0) = true := beq_iff_eq.mpr c3
    have c3b1 : (a0_0 != a1_0) = false := bne_eq_false_iff_eq.mpr c3
    clear c3
    by_cases c4 : a0_1 = a1_1
    · rw [if_pos c4] at H
      have c4b0 : (a0_1 == a1_1) = true := beq_iff_eq.mpr c4
      have c4b1 : (a0_1 != a1_1) = false := bne_eq_false_iff_eq.mpr c4
      clear c4
      replace H := Option.bind_eq_some_iff.mp H
      obtain ⟨t157, A50, H⟩ := H
      replace H : (some t157) = some r := H
      have A5 := Aside0.mk A50
      clear A50
      obtain rfl := Option.some.inj H
      simp only [Option.some.injEq, Prod.mk.injEq] at H
      obtain ⟨rfl⟩ := H
      go_enter Try.func15, Try.ntmps15
      go_wp2_with (first | ((with_reducible refine gate_dst (N := 2) rfl ?_); refine box_event ?hg (N := 2) ?hd (cs := #[.int .i64 a0_0, .int .i64 a0_1, .slice A0_2 l0_2.length c0_2]) (t := 32) ?hr ?_; (case hd => rfl); (case hg => rfl); (case hr => first | (go_simp; done) | (go_simp; rfl)); intro gb155 hg w6 hbox hb; have n0_ := Aside0.mk (below_step (by repeat (first | (with_reducible first | exact HB.out | apply below_alloc | apply pw_below_drewN | apply below_drew1) | exact HB.out)) hb); have n1_ := Aside0.mk (hbox); have n2_ := Aside0.mk ((by rw [hg]; exact (below_size (by repeat (first | (with_reducible first | exact HB.out | apply below_alloc | apply pw_below_drewN | apply below_drew1) | exact HB.out))) : w.heap.size ≤ gb155)); have n3_ := Aside0.mk ((by rw [hg]; exact (below_size (by repeat (first | (with_reducible first | exact HB.out | apply below_alloc | apply pw_below_drewN | apply below_drew1) | exact HB.out))) : w.heap.size ≤ gb155)); clear HB; have HB := n0_; have BK155 := n1_; have GW155 := n2_; have GE155 := n3_; clear n0_ n1_ n2_ n3_; clear hb hbox hg) | ((with_reducible refine gate_dst (N := 3) rfl ?_); refine box_event ?hg (N := 3) ?hd (cs := #[.int .i64 a1_0, .int .i64 a1_1, .slice A1_2 l1_2.length c1_2]) (t := 32) ?hr ?_; (case hd => rfl); (case hg => rfl); (case hr => first | (go_simp; done) | (go_simp; rfl)); intro gb156 hg w7 hbox hb; have n0_ := Aside0.mk (blk_below (g := gb155) (o := .cells #[.int .i64 a0_0, .int .i64 a0_1, .slice A0_2 l0_2.length c0_2] 32 (0, 0)) (by (with_reducible repeat (first | refine blk_drewN ?_ _ | refine blk_drew ?_ | refine blk_alloc ?_ _)); exact BK155.out) hb); have n1_ := Aside0.mk (below_step (by repeat (first | (with_reducible first | exact HB.out | apply below_alloc | apply pw_below_drewN | apply below_drew1 | refine below_set ?_ GE155.out) | exact HB.out)) hb); have n2_ := Aside0.mk (hbox); have n3_ := Aside0.mk ((by rw [hg]; exact (below_size (by repeat (first | (with_reducible first | exact HB.out | apply below_alloc | apply pw_below_drewN | apply below_drew1 | refine below_set ?_ GE155.out) | exact HB.out))) : w.heap.size ≤ gb156)); have n4_ := Aside0.mk ((by rw [hg]; exact (below_size (by repeat (first | (with_reducible first | exact HB.out | apply below_alloc | apply pw_below_drewN | apply below_drew1 | refine below_set ?_ GE155.out) | exact HB.out))) : w.heap.size ≤ gb156)); have n5_ := Aside0.mk ((by rw [hg]; exact Nat.ne_of_lt (blk_lt (g := gb155) (o := .cells #[.int .i64 a0_0, .int .i64 a0_1, .slice A0_2 l0_2.length c0_2] 32 (0, 0)) (by (with_reducible repeat (first | refine blk_drewN ?_ _ | refine blk_drew ?_ | refine blk_alloc ?_ _)); exact BK155.out)) : gb155 ≠ gb156)); have n6_ := Aside0.mk ((by rw [hg]; exact Nat.ne_of_gt (blk_lt (g := gb155) (o := .cells #[.int .i64 a0_0, .int .i64 a0_1, .slice A0_2 l0_2.length c0_2] 32 (0, 0)) (by (with_reducible repeat (first | refine blk_drewN ?_ _ | refine blk_drew ?_ | refine blk_alloc ?_ _)); exact BK155.out)) : gb156 ≠ gb155)); clear BK155; clear HB; have BK155 := n0_; have HB := n1_; have BK156 := n2_; have GW156 := n3_; have GE156 := n4_; have NB155_156 := n5_; have NB156_155 := n6_; clear n0_ n1_ n2_ n3_ n4_ n5_ n6_; clear hb hbox hg; have hnb8 := NB155_156.out; have hnc8 := NB156_155.out; have hcz9_0 : w7.cell? ⟨gb155, 0, none⟩ = some (.int .i64 a0_0) := (blk_cell BK155.out 0).trans rfl; have hcz9_1 : w7.cell? ⟨gb155, 1, none⟩ = some (.int .i64 a0_1) := (blk_cell BK155.out 1).trans rfl; have hcz9_2 : w7.cell? ⟨gb155, 2, none⟩ = some (.slice A0_2 l0_2.length c0_2) := (blk_cell BK155.out 2).trans rfl; have hfz9_0 := blk_frozen BK155.out 0; have hfz9_1 := blk_frozen BK155.out 1; have hfz9_2 := blk_frozen BK155.out 2; have hcz10_0 : w7.cell? ⟨gb156, 0, none⟩ = some (.int .i64 a1_0) := (blk_cell BK156.out 0).trans rfl; have hcz10_1 : w7.cell? ⟨gb156, 1, none⟩ = some (.int .i64 a1_1) := (blk_cell BK156.out 1).trans rfl; have hcz10_2 : w7.cell? ⟨gb156, 2, none⟩ = some (.slice A1_2 l1_2.length c1_2) := (blk_cell BK156.out 2).trans rfl; have hfz10_0 := blk_frozen BK156.out 0; have hfz10_1 := blk_frozen BK156.out 1; have hfz10_2 := blk_frozen BK156.out 2) | (go_at_call 36; (with_reducible refine (waybillplain_SameBytes.calls _ _ l0_2 _ _ l1_2 t157 _ ?side1 ?side2 ?side3 ?side4 A5.out).mono ?_); (case side1 => repeat (first | exact (Kd.C_below HR0_2.out HB.out) | (with_reducible refine Kd.C_alloc ?_ _) | (with_reducible refine Kd.C_drewN ?_ _) | (with_reducible refine Kd.C_drew ?_))); (case side2 => exact HC0_2.out); (case side3 => repeat (first | exact (Kd.C_below HR1_2.out HB.out) | (with_reducible refine Kd.C_alloc ?_ _) | (with_reducible refine Kd.C_drewN ?_ _) | (with_reducible refine Kd.C_drew ?_))); (case side4 => exact HC1_2.out); rintro e w' ⟨rfl, ⟨nd, rfl⟩⟩))
      go_ret
      exact ⟨by first | rfl | (simp [errW_none, errW_some] <;> rfl) | (simp [*, errW_none, errW_some] <;> rfl), by repeat (first | (with_reducible first | exact HB.out | apply below_alloc | apply pw_below_drewN | apply below_drew1 | refine below_set ?_ GE155.out | refine below_set ?_ GE156.out) | exact HB.out)⟩
    · rw [if_neg c4] at H
      have c4b0 : (a0_1 == a1_1) = false := beq_eq_false_iff_ne.mpr c4
      have c4b1 : (a0_1 != a1_1) = true := bne_iff_ne.mpr c4
      obtain rfl := Option.some.inj H
      simp only [Option.some.injEq, Prod.mk.injEq] at H
      obtain ⟨rfl⟩ := H
      go_enter Try.func15, Try.ntmps15
      go_wp2_with (first | ((with_reducible refine gate_dst (N := 2) rfl ?_); refine box_event ?hg (N := 2) ?hd (cs := #[.int .i64 a0_0, .int .i64 a0_1, .slice A0_2 l0_2.length c0_2]) (t := 32) ?hr ?_; (case hd => rfl); (case hg => rfl); (case hr => first | (go_simp; done) | (go_simp; rfl)); intro gb155 hg w11 hbox hb; have n0_ := Aside0.mk (below_step (by repeat (first | (with_reducible first | exact HB.out | apply below_alloc | apply pw_below_drewN | apply below_drew1) | exact HB.out)) hb); have n1_ := Aside0.mk (hbox); have n2_ := Aside0.mk ((by rw [hg]; exact (below_size (by repeat (first | (with_reducible first | exact HB.out | apply below_alloc | apply pw_below_drewN | apply below_drew1) | exact HB.out))) : w.heap.size ≤ gb155)); have n3_ := Aside0.mk ((by rw [hg]; exact (below_size (by repeat (first | (with_reducible first | exact HB.out | apply below_alloc | apply pw_below_drewN | apply below_drew1) | exact HB.out))) : w.heap.size ≤ gb155)); clear HB; have HB := n0_; have BK155 := n1_; have GW155 := n2_; have GE155 := n3_; clear n0_ n1_ n2_ n3_; clear hb hbox hg) | ((with_reducible refine gate_dst (N := 3) rfl ?_); refine box_event ?hg (N := 3) ?hd (cs := #[.int .i64 a1_0, .int .i64 a1_1, .slice A1_2 l1_2.length c1_2]) (t := 32) ?hr ?_; (case hd => rfl); (case hg => rfl); (case hr => first | (go_simp; done) | (go_simp; rfl)); intro gb156 hg w12 hbox hb; have n0_ := Aside0.mk (blk_below (g := gb155) (o := .cells #[.int .i64 a0_0, .int .i64 a0_1, .slice A0_2 l0_2.length c0_2] 32 (0, 0)) (by (with_reducible repeat (first | refine blk_drewN ?_ _ | refine blk_drew ?_ | refine blk_alloc ?_ _)); exact BK155.out) hb); have n1_ := Aside0.mk (below_step (by repeat (first | (with_reducible first | exact HB.out | apply below_alloc | apply pw_below_drewN | apply below_drew1 | refine below_set ?_ GE155.out) | exact HB.out)) hb); have n2_ := Aside0.mk (hbox); have n3_ := Aside0.mk ((by rw [hg]; exact (below_size (by repeat (first | (with_reducible first | exact HB.out | apply below_alloc | apply pw_below_drewN | apply below_drew1 | refine below_set ?_ GE155.out) | exact HB.out))) : w.heap.size ≤ gb156)); have n4_ := Aside0.mk ((by rw [hg]; exact (below_size (by repeat (first | (with_reducible first | exact HB.out | apply below_alloc | apply pw_below_drewN | apply below_drew1 | refine below_set ?_ GE155.out) | exact HB.out))) : w.heap.size ≤ gb156)); have n5_ := Aside0.mk ((by rw [hg]; exact Nat.ne_of_lt (blk_lt (g := gb155) (o := .cells #[.int .i64 a0_0, .int .i64 a0_1, .slice A0_2 l0_2.length c0_2] 32 (0, 0)) (by (with_reducible repeat (first | refine blk_drewN ?_ _ | refine blk_drew ?_ | refine blk_alloc ?_ _)); exact BK155.out)) : gb155 ≠ gb156)); have n6_ := Aside0.mk ((by rw [hg]; exact Nat.ne_of_gt (blk_lt (g := gb155) (o := .cells #[.int .i64 a0_0, .int .i64 a0_1, .slice A0_2 l0_2.length c0_2] 32 (0, 0)) (by (with_reducible repeat (first | refine blk_drewN ?_ _ | refine blk_drew ?_ | refine blk_alloc ?_ _)); exact BK155.out)) : gb156 ≠ gb155)); clear BK155; clear HB; have BK155 := n0_; have HB := n1_; have BK156 := n2_; have GW156 := n3_; have GE156 := n4_; have NB155_156 := n5_; have NB156_155 := n6_; clear n0_ n1_ n2_ n3_ n4_ n5_ n6_; clear hb hbox hg; have hnb13 := NB155_156.out; have hnc13 := NB156_155.out; have hcz14_0 : w12.cell? ⟨gb155, 0, none⟩ = some (.int .i64 a0_0) := (blk_cell BK155.out 0).trans rfl; have hcz14_1 : w12.cell? ⟨gb155, 1, none⟩ = some (.int .i64 a0_1) := (blk_cell BK155.out 1).trans rfl; have hcz14_2 : w12.cell? ⟨gb155, 2, none⟩ = some (.slice A0_2 l0_2.length c0_2) := (blk_cell BK155.out 2).trans rfl; have hfz14_0 := blk_frozen BK155.out 0; have hfz14_1 := blk_frozen BK155.out 1; have hfz14_2 := blk_frozen BK155.out 2; have hcz15_0 : w12.cell? ⟨gb156, 0, none⟩ = some (.int .i64 a1_0) := (blk_cell BK156.out 0).trans rfl; have hcz15_1 : w12.cell? ⟨gb156, 1, none⟩ = some (.int .i64 a1_1) := (blk_cell BK156.out 1).trans rfl; have hcz15_2 : w12.cell? ⟨gb156, 2, none⟩ = some (.slice A1_2 l1_2.length c1_2) := (blk_cell BK156.out 2).trans rfl; have hfz15_0 := blk_frozen BK156.out 0; have hfz15_1 := blk_frozen BK156.out 1; have hfz15_2 := blk_frozen BK156.out 2))
      go_ret
      exact ⟨by first | rfl | (simp [errW_none, errW_some] <;> rfl) | (simp [*, errW_none, errW_some] <;> rfl), by repeat (first | (with_reducible first | exact HB.out | apply below_alloc | apply pw_below_drewN | apply below_drew1 | refine below_set ?_ GE155.out | refine below_set ?_ GE156.out) | exact HB.out)⟩
  · rw [if_neg c3] at H
    have c3b0 : (a0_0 == a1_0) = false := beq_eq_false_iff_ne.mpr c3
    have c3b1 : (a0_0 != a1_0) = true := bne_iff_ne.mpr c3
    obtain rfl := Option.some.inj H
    simp only [Option.some.injEq, Prod.mk.injEq] at H
    obtain ⟨rfl⟩ := H
    go_enter Try.func15, Try.ntmps15
    go_wp2_with (first | ((with_reducible refine gate_dst (N := 2) rfl ?_); refine box_event ?hg (N := 2) ?hd (cs := #[.int .i64 a0_0, .int .i64 a0_1, .slice A0_2 l0_2.length c0_2]) (t := 32) ?hr ?_; (case hd => rfl); (case hg => rfl); (case hr => first | (go_simp; done) | (go_simp; rfl)); intro gb155 hg w16 hbox hb; have n0_ := Aside0.mk (below_step (by repeat (first | (with_reducible first | exact HB.out | apply below_alloc | apply pw_below_drewN | apply below_drew1) | exact HB.out)) hb); have n1_ := Aside0.mk (hbox); have n2_ := Aside0.mk ((by rw [hg]; exact (below_size (by repeat (first | (with_reducible first | exact HB.out | apply below_alloc | apply pw_below_drewN | apply below_drew1) | exact HB.out))) : w.heap.size ≤ gb155)); have n3_ := Aside0.mk ((by rw [hg]; exact (below_size (by repeat (first | (with_reducible first | exact HB.out | apply below_alloc | apply pw_below_drewN | apply below_drew1) | exact HB.out))) : w.heap.size ≤ gb155)); clear HB; have HB := n0_; have BK155 := n1_; have GW155 := n2_; have GE155 := n3_; clear n0_ n1_ n2_ n3_; clear hb hbox hg) | ((with_reducible refine gate_dst (N := 3) rfl ?_); refine box_event ?hg (N := 3) ?hd (cs := #[.int .i64 a1_0, .int .i64 a1_1, .slice A1_2 l1_2.length c1_2]) (t := 32) ?hr ?_; (case hd => rfl); (case hg => rfl); (case hr => first | (go_simp; done) | (go_simp; rfl)); intro gb156 hg w17 hbox hb; have n0_ := Aside0.mk (blk_below (g := gb155) (o := .cells #[.int .i64 a0_0, .int .i64 a0_1, .slice A0_2 l0_2.length c0_2] 32 (0, 0)) (by (with_reducible repeat (first | refine blk_drewN ?_ _ | refine blk_drew ?_ | refine blk_alloc ?_ _)); exact BK155.out) hb); have n1_ := Aside0.mk (below_step (by repeat (first | (with_reducible first | exact HB.out | apply below_alloc | apply pw_below_drewN | apply below_drew1 | refine below_set ?_ GE155.out) | exact HB.out)) hb); have n2_ := Aside0.mk (hbox); have n3_ := Aside0.mk ((by rw [hg]; exact (below_size (by repeat (first | (with_reducible first | exact HB.out | apply below_alloc | apply pw_below_drewN | apply below_drew1 | refine below_set ?_ GE155.out) | exact HB.out))) : w.heap.size ≤ gb156)); have n4_ := Aside0.mk ((by rw [hg]; exact (below_size (by repeat (first | (with_reducible first | exact HB.out | apply below_alloc | apply pw_below_drewN | apply below_drew1 | refine below_set ?_ GE155.out) | exact HB.out))) : w.heap.size ≤ gb156)); have n5_ := Aside0.mk ((by rw [hg]; exact Nat.ne_of_lt (blk_lt (g := gb155) (o := .cells #[.int .i64 a0_0, .int .i64 a0_1, .slice A0_2 l0_2.length c0_2] 32 (0, 0)) (by (with_reducible repeat (first | refine blk_drewN ?_ _ | refine blk_drew ?_ | refine blk_alloc ?_ _)); exact BK155.out)) : gb155 ≠ gb156)); have n6_ := Aside0.mk ((by rw [hg]; exact Nat.ne_of_gt (blk_lt (g := gb155) (o := .cells #[.int .i64 a0_0, .int .i64 a0_1, .slice A0_2 l0_2.length c0_2] 32 (0, 0)) (by (with_reducible repeat (first | refine blk_drewN ?_ _ | refine blk_drew ?_ | refine blk_alloc ?_ _)); exact BK155.out)) : gb156 ≠ gb155)); clear BK155; clear HB; have BK155 := n0_; have HB := n1_; have BK156 := n2_; have GW156 := n3_; have GE156 := n4_; have NB155_156 := n5_; have NB156_155 := n6_; clear n0_ n1_ n2_ n3_ n4_ n5_ n6_; clear hb hbox hg; have hnb18 := NB155_156.out; have hnc18 := NB156_155.out; have hcz19_0 : w17.cell? ⟨gb155, 0, none⟩ = some (.int .i64 a0_0) := (blk_cell BK155.out 0).trans rfl; have hcz19_1 : w17.cell? ⟨gb155, 1, none⟩ = some (.int .i64 a0_1) := (blk_cell BK155.out 1).trans rfl; have hcz19_2 : w17.cell? ⟨gb155, 2, none⟩ = some (.slice A0_2 l0_2.length c0_2) := (blk_cell BK155.out 2).trans rfl; have hfz19_0 := blk_frozen BK155.out 0; have hfz19_1 := blk_frozen BK155.out 1; have hfz19_2 := blk_frozen BK155.out 2; have hcz20_0 : w17.cell? ⟨gb156, 0, none⟩ = some (.int .i64 a1_0) := (blk_cell BK156.out 0).trans rfl; have hcz20_1 : w17.cell? ⟨gb156, 1, none⟩ = some (.int .i64 a1_1) := (blk_cell BK156.out 1).trans rfl; have hcz20_2 : w17.cell? ⟨gb156, 2, none⟩ = some (.slice A1_2 l1_2.length c1_2) := (blk_cell BK156.out 2).trans rfl; have hfz20_0 := blk_frozen BK156.out 0; have hfz20_1 := blk_frozen BK156.out 1; have hfz20_2 := blk_frozen BK156.out 2))
    go_ret
    exact ⟨by first | rfl | (simp [errW_none, errW_some] <;> rfl) | (simp [*, errW_none, errW_some] <;> rfl), by repeat (first | (with_reducible first | exact HB.out | apply below_alloc | apply pw_below_drewN | apply below_drew1 | refine below_set ?_ GE155.out | refine below_set ?_ GE156.out) | exact HB.out)⟩
end Go.Proofs.Ytkdkjnjiianogaa.G
end
