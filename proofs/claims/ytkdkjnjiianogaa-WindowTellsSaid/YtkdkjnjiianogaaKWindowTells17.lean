/- WindowTells: texts of this claim, packed: what the kit's print has written for it and own texts, without what its proof does not reach. -/
import Derived.Test.YtkdkjnjiianogaaKWindowTells12
import Derived.Test.YtkdkjnjiianogaaKWindowTells13
set_option linter.unusedVariables false
set_option linter.unusedSimpArgs false
set_option linter.unusedSectionVars false
section
namespace Go.Proofs.Ytkdkjnjiianogaa.G
open WB Go.RowKit Go.Proofs.YtkdkjnjiianogaaW.PrintWords Go.Proofs.YtkdkjnjiianogaaW.PrintLast Go.Proofs.YtkdkjnjiianogaaW.PrintMore
attribute [local go_sem] max2_int min2_int max_two min_two max_three min_three max_four min_four   -- for this text's walks alone
set_option linter.unusedVariables false
set_option linter.unusedSimpArgs false
set_option maxHeartbeats 4000000 in
set_option maxRecDepth 100000 in
theorem insert_end (A : Option Addr) (c n : Nat) (rows : List (List Value)) (cs : List Value) (vb base : Nat) (w : World) (hR : (Kd.raw 3).R 32 w base (fun _ => True) (.slice A n c) rows) (hl : rows.length = n) (hsm : n < 1000000) (hbase : base ≤ w.heap.size)
    (hv : w.heap[vb]? = some (.cells cs.toArray 32 (0, 0))) (hcs : cs.length = 3) (h1 : ∀ u ∈ cs, u.oneCell' = true) :
    Calls Try.prog 44 #[.slice A n c, .int .i64 n, .slice (some ⟨vb, 0, none⟩) 1 1] w
      fun e w' => ∃ (A' : Option Addr) (c' : Nat), e = .returned (.slice A' (n + 1) c') ∧ (Kd.raw 3).R 32 w' base (fun _ => True) (.slice A' (n + 1) c') (rows ++ [cs]) ∧ w.grownBy w' (Value.slice A n c).ownBlock ∧ ((Value.slice A' (n + 1) c').ownBlock = (Value.slice A n c).ownBlock ∨ ∃ b, (Value.slice A' (n + 1) c').ownBlock = some b ∧ w.heap.size ≤ b) := by
  have HR := Aside0.mk hR
  have HL := Aside0.mk hl
  have HB := Aside0.mk hbase
  have HRR : Aside0 (ReadsRow (fun x cs => cs = x ∧ cs.length = 3 ∧ ∀ u ∈ cs, u.oneCell' = true) 3 w (some ⟨vb, 0, none⟩) 1 [cs]) := ⟨by
    refine ⟨rfl, by omega, fun _ => ⟨⟨vb, 0, none⟩, rfl, fun j p hj => ?_⟩⟩
    have hj0 : j = 0 := by
      have := (List.getElem?_eq_some_iff.1 hj).1
      simpa using this
    subst hj0
    have hp : cs = p := by simpa using hj
    subst hp
    refine ⟨cs, hcs, ⟨rfl, hcs, h1⟩, fun i u hu => ?_⟩
    rw [Addr.add_lit, Nat.zero_mul, Nat.zero_add, Nat.zero_add, blk_cell hv]
    simpa using hu⟩
  clear hR hl hbase hv hcs h1
  go_enter Try.func44, Try.ntmps44
  go_wp2_with (at_builtin; refine Kd.R_append_rows (Kd.raw 3) (w0 := w) base rfl _ _ 22 32 (.agg #[.int .i64 0, .int .i64 0, .slice none 0 0]) 40 rfl Try.underlying22 info32 rfl (by decide) (by omega) (.slice A n c) rows [cs] (some ⟨vb, 0, none⟩) 1 1 (fun _ => True) (fun _ => False) rfl rfl HR.out HRR.out (fun _ _ h => h) (fun _ h => h.elim) (fun _ _ => trivial) (Below.refl _ _) HB.out (by rw [HL.out]; omega) ?_; intro v2 w2 ho2 hb2 hg2 hat2; have HO2 := Aside0.mk ho2; have HB2 := Aside0.mk hb2; have HG2 := Aside0.mk hg2; have HA2 := Aside0.mk hat2; clear ho2 hb2 hg2 hat2)
  all_goals
    obtain ⟨A', c', rfl⟩ := Kd.R_slice HO2.out
    have hlen : (rows ++ [cs]).length = n + 1 := by rw [List.length_append, HL.out]; rfl
    rw [hlen] at HO2 HA2 ⊢
    go_ret
    have hob : (Value.slice A n n).ownBlock = (Value.slice A n c).ownBlock := by cases A <;> rfl
    first | exact ⟨A', c', rfl, HO2.out, HG2.out, HA2.out⟩ | exact ⟨A', c', rfl, HO2.out, by rw [hob]; exact HG2.out, by rw [hob]; exact HA2.out⟩
set_option maxHeartbeats 4000000 in
set_option maxRecDepth 100000 in
theorem insert_shift (g c n i : Nat) (rows : List (List Value)) (cs : List Value) (vb base : Nat) (w : World) (hR : (Kd.raw 3).R 32 w base (fun _ => True) (.slice (some ⟨g, 0, none⟩) n c) rows) (hi : i < n) (hroom : n + 1 ≤ c) (hsm : n < 1000000)
    (hv : w.heap[vb]? = some (.cells cs.toArray 32 (0, 0))) (hcs : cs.length = 3) (h1 : ∀ u ∈ cs, u.oneCell' = true) (hvb : vb ≠ g) :
    Calls Try.prog 44 #[.slice (some ⟨g, 0, none⟩) n c, .int .i64 i, .slice (some ⟨vb, 0, none⟩) 1 1] w
      fun e w' => e = .returned (.slice (some ⟨g, 0, none⟩) (n + 1) c) ∧ (Kd.raw 3).R 32 w' base (fun _ => True) (.slice (some ⟨g, 0, none⟩) (n + 1) c) (rows.take i ++ cs :: rows.drop i) ∧ w.grownBy w' (some g) := by
  obtain ⟨r1, r2, r3, r4, r5, r6, cur, rest, r7, r8, r9⟩ := raw_flat hR
  have hdr : ∀ d ∈ rows.drop i, d.length = 3 := fun d hd => (r6 d (List.mem_of_mem_drop hd)).1
  have htr : ∀ d ∈ rows.take i, d.length = 3 := fun d hd => (r6 d (List.mem_of_mem_take hd)).1
  have lseg : (rows.drop i).flatten.length = (n - i) * 3 := by rw [flat_len _ hdr, List.length_drop, r3]
  have ltak : (rows.take i).flatten.length = i * 3 := by rw [flat_len _ htr, List.length_take, r3, Nat.min_eq_left (by omega)]
  have hcur : cur.toList = (rows.take i).flatten ++ ((rows.drop i).flatten ++ rest) := by rw [r9, ← List.append_assoc, ← List.flatten_append, List.take_append_drop]
  have hsz3 : cur.size = c * 3 := r8
  have hcm : c ≤ 9223372036854775807 := r5
  have hov : ∀ lb cb, (callFunc 45 #[.slice (some ⟨vb, 0, none⟩) 1 1, .slice (some ⟨g, (i + 1) * 3, none⟩) lb cb]).run Try.prog w = .ok (.value (.bool false)) w := fun lb cb => by
    rw [run_callFunc_extern Try.func45 (by kernel_rfl) (by kernel_rfl) (by kernel_rfl) (e := Extern.SlicesOverlaps.overlaps #[22, 22] #[4]) (by kernel_rfl),
      Lib.run_overlaps_apart w 22 4 32 Try.underlying22 3 (fun W => by kernel_rfl) ⟨vb, 0, none⟩ ⟨g, (i + 1) * 3, none⟩ 1 1 lb cb hvb 32 32 3 cur.size (by simp [World.shape?, hv, hcs]) (by simp [World.shape?, r7]) (by omega) (blk_frozen hv 0) (blk_frozen hv 3)]
    rfl
  have hcl : ∀ (q : Nat) (v : Value), cur[q]? = some v → ∀ (W : World), W.heap[g]? = w.heap[g]? → W.cell? ⟨g, q, none⟩ = some v := fun q v hq W hW => by rw [blk_cell (hW.trans r7)]; exact hq
  have hcp1 : ∀ ty dc sc, (Builtin.copy_ #[22, 22] ty #[.slice (some ⟨g, (i + 1) * 3, none⟩) (n - i) dc, .slice (some ⟨g, i * 3, none⟩) (n + 1 - i) sc]).run Try.prog w.drew = .ok (goInt (Nat.min (n + 1 - i) (n - i))) (w.drew.setCells g ((i + 1) * 3) (rows.drop i).flatten) := fun ty dc sc =>
    run_copy_rows w.drew _ _ ty 32 3 g ((i + 1) * 3) (n - i) dc ⟨g, i * 3, none⟩ (n + 1 - i) sc (rows.drop i).flatten Try.underlying22 (by rfl) (by rw [lseg]; simp only [Nat.min_def]; split <;> omega)
      (fun j v hj => by
        have hjl := (List.getElem?_eq_some_iff.1 hj).1
        rw [Addr.add_lit]
        refine hcl _ v ?_ w.drew rfl
        rw [← Array.getElem?_toList, hcur, List.getElem?_append_right (by omega), ltak, Nat.add_sub_cancel_left, List.getElem?_append_left hjl]
        exact hj)
      (fun j hj => by
        rw [lseg] at hj
        rw [hcl _ _ (Array.getElem?_eq_getElem (by omega)) w.drew rfl]; rfl)
      (fun j hj => blk_frozen (w := w.drew) r7 _)
      (fun v hv => by
        obtain ⟨d, hd, hvd⟩ := List.mem_flatten.1 hv
        exact (r6 d (List.mem_of_mem_drop hd)).2 v hvd)
  obtain ⟨W1, hW1⟩ : ∃ W1, W1 = w.drew.setCells g ((i + 1) * 3) (rows.drop i).flatten := ⟨_, rfl⟩
  obtain ⟨cur1, c1, c2, c3⟩ := setCells_row (rows.drop i).flatten ((i + 1) * 3) w.drew cur r7 (by rw [lseg]; omega)
  rw [← hW1] at c1 hcp1
  have hvW : W1.heap[vb]? = some (.cells cs.toArray 32 (0, 0)) := by rw [hW1, setCells_far _ _ vb hvb]; exact hv
  have hcp2 : ∀ ty dc, (Builtin.copy_ #[22, 22] ty #[.slice (some ⟨g, i * 3, none⟩) (n + 1 - i) dc, .slice (some ⟨vb, 0, none⟩) 1 1]).run Try.prog W1 = .ok (goInt (Nat.min 1 (n + 1 - i))) (W1.setCells g (i * 3) cs) := fun ty dc =>
    run_copy_rows W1 _ _ ty 32 3 g (i * 3) (n + 1 - i) dc ⟨vb, 0, none⟩ 1 1 cs Try.underlying22 (by rfl) (by rw [hcs]; simp only [Nat.min_def]; split <;> omega)
      (fun j v hj => by rw [Addr.add_lit, Nat.zero_add, blk_cell hvW]; simpa using hj)
      (fun j hj => by rw [hcs] at hj; rw [blk_cell c1, Array.getElem?_eq_getElem (by omega)]; rfl)
      (fun j hj => blk_frozen c1 _) h1
  have hfin : (Kd.raw 3).R 32 (W1.setCells g (i * 3) cs) base (fun _ => True) (.slice (some ⟨g, 0, none⟩) (n + 1) c) (rows.take i ++ cs :: rows.drop i) ∧ w.grownBy (W1.setCells g (i * 3) cs) (some g) := by
    obtain ⟨cur2, d1, d2, d3⟩ := setCells_row cs (i * 3) W1 cur1 c1 (by rw [hcs, c2]; omega)
    obtain ⟨s1, s2, s3, s4⟩ := setCells_same g (rows.drop i).flatten ((i + 1) * 3) w.drew
    obtain ⟨t1, t2, t3, t4⟩ := setCells_same g cs (i * 3) W1
    refine ⟨raw_unflat (rest := cur.toList.drop ((i + 1) * 3 + (n - i) * 3)) r1 r2 (by simp; omega) hroom r5 (fun d hd => ?_) d1 (by rw [d2, c2, r8]) ?_, ?_⟩
    · rw [List.mem_append, List.mem_cons] at hd
      rcases hd with hd | rfl | hd
      · exact r6 d (List.mem_of_mem_take hd)
      · exact ⟨hcs, h1⟩
      · exact r6 d (List.mem_of_mem_drop hd)
    · have e1 : (cur.toList.take ((i + 1) * 3)).length = (i + 1) * 3 := by rw [List.length_take, Array.length_toList]; omega
      rw [d3, c3, hcs, lseg]
      have hlist : ∀ (T S D : List Value), T.length = (i + 1) * 3 → ((T ++ S ++ D).take (i * 3) ++ cs ++ (T ++ S ++ D).drop (i * 3 + 3)) = T.take (i * 3) ++ cs ++ (S ++ D) := by
        intro T S D hT
        rw [List.append_assoc T, List.take_append_of_le_length (by omega), List.drop_left' (by omega)]
      rw [hlist _ _ _ e1, List.take_take, Nat.min_eq_left (by omega), List.flatten_append, List.flatten_cons]
      have e2 : cur.toList.take (i * 3) = (rows.take i).flatten := by rw [hcur, List.take_left' ltak]
      rw [e2]
      simp [List.append_assoc]
    · rw [hW1] at t1 t2 t3 t4 ⊢
      refine ⟨t1.trans s1, t2.trans s2, t3.trans s3, by rw [t4, s4]; exact Nat.le_refl _, fun k hk hn => ?_⟩
      have hkg : k ≠ g := fun he => hn (by rw [he])
      rw [setCells_far _ _ k hkg, setCells_far _ _ k hkg]
      rfl
  have HF := Aside0.mk hfin
  clear hfin
  subst hW1
  have hw1 : IntKind.i64.wrap ((i : Int) + 1) = (i : Int) + 1 := by rw [IntKind.wrap_i64]; omega
  have hb1 : (0 : Int) ≤ (i : Int) + 1 := by omega
  have htn : ((i : Int) + 1).toNat = i + 1 := by omega
  have hz2 : ((i : Int) == (n : Int)) = false := beq_eq_false_iff_ne.2 (by omega)
  have hb0 : ¬ ((i : Int) = (n : Int)) := by omega
  have hb2 : ¬ (c = i + 1) := by omega
  have hb3 : (i : Int) ≤ (n : Int) + 1 := by omega
  have hb4 : ¬ (c = i) := by omega
  have hin : i ≤ n := by omega
  clear hR hcl r1 r2 r3 r4 r5 r6 r7 r8 r9 hdr htr lseg ltak hcur c1 c2 c3 hv hcs h1 hvW
  go_enter Try.func44, Try.ntmps44
  go_wp2_with (simp only [hov])
  go_region_law (refine step_copy_by rfl _ _ 22 22 rfl _ _ (by simp [Act.eval, Act.put]) (by simp [Act.eval, Act.put]) (hcp1 _ _ _) ?_)
  go_wp2_with (at_builtin; refine wpList_copy_by _ rfl _ _ 22 22 rfl _ _ rfl rfl (hcp2 _ _) ?_)
  go_ret
  exact ⟨rfl, HF.out.1, HF.out.2⟩
set_option maxHeartbeats 4000000 in
set_option maxRecDepth 100000 in
theorem insert_grow (g c n i : Nat) (rows : List (List Value)) (cs : List Value) (vb base : Nat) (w : World) (hR : (Kd.raw 3).R 32 w base (fun _ => True) (.slice (some ⟨g, 0, none⟩) n c) rows) (hi : i < n) (hfull : c < n + 1) (hsm : n < 1000000) (hbase : base ≤ w.heap.size)
    (hv : w.heap[vb]? = some (.cells cs.toArray 32 (0, 0))) (hcs : cs.length = 3) (h1 : ∀ u ∈ cs, u.oneCell' = true) :
    Calls Try.prog 44 #[.slice (some ⟨g, 0, none⟩) n c, .int .i64 i, .slice (some ⟨vb, 0, none⟩) 1 1] w
      fun e w' => ∃ c', e = .returned (.slice (some ⟨w.heap.size, 0, none⟩) (n + 1) c') ∧ (Kd.raw 3).R 32 w' base (fun _ => True) (.slice (some ⟨w.heap.size, 0, none⟩) (n + 1) c') (rows.take i ++ cs :: rows.drop i) ∧ Below w.heap.size w w' := by
  obtain ⟨r1, r2, r3, r4, r5, r6, cur, rest, r7, r8, r9⟩ := raw_flat hR
  have hcn : c = n := by omega
  subst hcn
  have hdr : ∀ d ∈ rows.drop i, d.length = 3 := fun d hd => (r6 d (List.mem_of_mem_drop hd)).1
  have htr : ∀ d ∈ rows.take i, d.length = 3 := fun d hd => (r6 d (List.mem_of_mem_take hd)).1
  have lseg : (rows.drop i).flatten.length = (c - i) * 3 := by rw [flat_len _ hdr, List.length_drop, r3]
  have ltak : (rows.take i).flatten.length = i * 3 := by rw [flat_len _ htr, List.length_take, r3, Nat.min_eq_left (by omega)]
  have hcur : cur.toList = (rows.take i).flatten ++ ((rows.drop i).flatten ++ rest) := by rw [r9, ← List.append_assoc, ← List.flatten_append, List.take_append_drop]
  have hcl : ∀ (q : Nat) (v : Value), cur[q]? = some v → ∀ (W : World), W.heap[g]? = w.heap[g]? → W.cell? ⟨g, q, none⟩ = some v := fun q v hq W hW => by rw [blk_cell (hW.trans r7)]; exact hq
  obtain ⟨i0, hi0, hzz⟩ := Option.map_eq_some_iff.1 info32
  simp only [Prod.mk.injEq] at hzz
  obtain ⟨hz0, hz1, hz2⟩ := hzz
  have hold : (Builtin.firstCells i0.size i (.slice (some ⟨g, 0, none⟩) i c)).run Try.prog w.drew = .ok (rows.take i).flatten.toArray w.drew := by
    rw [hz1]
    exact run_firstCells_some w.drew 3 i ⟨g, 0, none⟩ i c (rows.take i).flatten (by rw [ltak]) (fun j v hj => by
      have hjl := (List.getElem?_eq_some_iff.1 hj).1
      rw [Addr.add_lit, Nat.zero_add]
      refine hcl _ v ?_ w.drew rfl
      rw [← Array.getElem?_toList, hcur, List.getElem?_append_left hjl]
      exact hj)
  have hrz : ∀ ty, (Builtin.append_ #[22, 3] ty #[.slice (some ⟨g, 0, none⟩) i c, .int .i64 ((c : Int) + 1 - (i : Int))]).run Try.prog w = .ok (.slice (some ⟨w.heap.size, 0, none⟩) (c + 1) (grownCap w (c + 1) c 32))
      (w.drew.alloc (.cells ((rows.take i).flatten.toArray ++ Builtin.zeroCells (Value.agg #[.int .i64 0, .int .i64 0, .slice none 0 0]).cells (c + 1 - i) ++ Builtin.zeroCells (Value.agg #[.int .i64 0, .int .i64 0, .slice none 0 0]).cells (grownCap w (c + 1) c 32 - (c + 1))) 32)) := fun ty => by
    have h := Lib.run_append_grow_zeros w 22 3 ty 32 i0 _ .i64 .i64 Try.underlying22 Try.underlying3 hi0 hz0 (some ⟨g, 0, none⟩) i c (rows.take i).flatten hold (c + 1 - i) (by omega) (by omega) (by omega) (by omega) (by rw [hz2]; omega) (by rw [hz2, show i + (c + 1 - i) = c + 1 by omega]; exact growslice_fits (by omega) (by omega))
    rw [show i + (c + 1 - i) = c + 1 by omega] at h
    rw [show (c : Int) + 1 - (i : Int) = ((c + 1 - i : Nat) : Int) by omega]
    exact h
  obtain ⟨G, hG⟩ : ∃ G, G = grownCap w (c + 1) c 32 := ⟨_, rfl⟩
  have hG1 : c + 1 ≤ G := by rw [hG]; exact grownCap_ge w (c + 1) c 32
  have hG2 : G ≤ maxLen := by rw [hG]; exact grownCap_le_maxLen w (c + 1) c 32 (by show c + 1 ≤ 9223372036854775807; omega)
  have hG3 : G ≤ 9223372036854775807 := hG2
  obtain ⟨ROW, hROW⟩ : ∃ ROW : Array Value, ROW = (rows.take i).flatten.toArray ++ Builtin.zeroCells (Value.agg #[.int .i64 0, .int .i64 0, .slice none 0 0]).cells (c + 1 - i) ++ Builtin.zeroCells (Value.agg #[.int .i64 0, .int .i64 0, .slice none 0 0]).cells (G - (c + 1)) := ⟨_, rfl⟩
  rw [← hG, ← hROW] at hrz
  have hzl : ∀ k, (Builtin.zeroCells (Value.agg #[.int .i64 0, .int .i64 0, .slice none 0 0]).cells k).size = k * 3 := fun k => by simp [Builtin.zeroCells]; rfl
  have hRl : ROW.size = G * 3 := by
    rw [hROW, Array.size_append, Array.size_append, hzl, hzl, List.size_toArray, ltak]
    omega
  have hRt : ROW.toList.take (i * 3) = (rows.take i).flatten := by
    rw [hROW, Array.toList_append, Array.toList_append, List.append_assoc, List.take_left' (by simpa using ltak)]
  obtain ⟨W1, hW1⟩ : ∃ W1, W1 = w.drew.alloc (.cells ROW 32) := ⟨_, rfl⟩
  rw [← hW1] at hrz
  have c1 : W1.heap[w.heap.size]? = some (.cells ROW 32 (0, 0)) := by rw [hW1]; exact heap_new1 w.drew _
  have B1 : Below w.heap.size w W1 := by rw [hW1]; exact below_alloc (below_drew (Below.refl _ _)) _
  have hvlt : vb < w.heap.size := blk_lt hv
  have hglt : g < w.heap.size := blk_lt r7
  have hv1 : W1.heap[vb]? = some (.cells cs.toArray 32 (0, 0)) := (B1.block vb hvlt).trans hv
  have hcpA : ∀ ty dc, (Builtin.copy_ #[22, 22] ty #[.slice (some ⟨w.heap.size, i * 3, none⟩) (c + 1 - i) dc, .slice (some ⟨vb, 0, none⟩) 1 1]).run Try.prog W1 = .ok (goInt (Nat.min 1 (c + 1 - i))) (W1.setCells w.heap.size (i * 3) cs) := fun ty dc =>
    run_copy_rows W1 _ _ ty 32 3 w.heap.size (i * 3) (c + 1 - i) dc ⟨vb, 0, none⟩ 1 1 cs Try.underlying22 (by rfl) (by rw [hcs]; simp only [Nat.min_def]; split <;> omega)
      (fun j v hj => by rw [Addr.add_lit, Nat.zero_add, blk_cell hv1]; simpa using hj)
      (fun j hj => by rw [hcs] at hj; rw [blk_cell c1, Array.getElem?_eq_getElem (by omega)]; rfl)
      (fun j hj => blk_frozen c1 _) h1
  obtain ⟨cur2, d1, d2, d3⟩ := setCells_row cs (i * 3) W1 ROW c1 (by rw [hcs]; omega)
  have hgw : g ≠ w.heap.size := by omega
  have hg2 : (W1.setCells w.heap.size (i * 3) cs).drew.heap[g]? = w.heap[g]? := (setCells_far _ _ g hgw).trans (B1.block g hglt)
  have hcpB : ∀ ty dc sc, (Builtin.copy_ #[22, 22] ty #[.slice (some ⟨w.heap.size, (i + 1) * 3, none⟩) (c - i) dc, .slice (some ⟨g, i * 3, none⟩) (c - i) sc]).run Try.prog (W1.setCells w.heap.size (i * 3) cs).drew = .ok (goInt (Nat.min (c - i) (c - i))) ((W1.setCells w.heap.size (i * 3) cs).drew.setCells w.heap.size ((i + 1) * 3) (rows.drop i).flatten) := fun ty dc sc =>
    run_copy_rows _ _ _ ty 32 3 w.heap.size ((i + 1) * 3) (c - i) dc ⟨g, i * 3, none⟩ (c - i) sc (rows.drop i).flatten Try.underlying22 (by rfl) (by rw [lseg]; simp [Nat.min_def])
      (fun j v hj => by
        have hjl := (List.getElem?_eq_some_iff.1 hj).1
        rw [Addr.add_lit]
        refine hcl _ v ?_ _ hg2
        rw [← Array.getElem?_toList, hcur, List.getElem?_append_right (by omega), ltak, Nat.add_sub_cancel_left, List.getElem?_append_left hjl]
        exact hj)
      (fun j hj => by
        rw [lseg] at hj
        rw [blk_cell (w := (W1.setCells w.heap.size (i * 3) cs).drew) d1, Array.getElem?_eq_getElem (by omega)]; rfl)
      (fun j hj => blk_frozen (w := (W1.setCells w.heap.size (i * 3) cs).drew) d1 _)
      (fun v hv => by
        obtain ⟨d, hd, hvd⟩ := List.mem_flatten.1 hv
        exact (r6 d (List.mem_of_mem_drop hd)).2 v hvd)
  have hfin : (Kd.raw 3).R 32 ((W1.setCells w.heap.size (i * 3) cs).drew.setCells w.heap.size ((i + 1) * 3) (rows.drop i).flatten) base (fun _ => True) (.slice (some ⟨w.heap.size, 0, none⟩) (c + 1) G) (rows.take i ++ cs :: rows.drop i) ∧ Below w.heap.size w ((W1.setCells w.heap.size (i * 3) cs).drew.setCells w.heap.size ((i + 1) * 3) (rows.drop i).flatten) := by
    obtain ⟨cur3, f1, f2, f3⟩ := setCells_row (rows.drop i).flatten ((i + 1) * 3) (W1.setCells w.heap.size (i * 3) cs).drew cur2 d1 (by rw [lseg, d2]; omega)
    obtain ⟨s1, s2, s3, s4⟩ := setCells_same w.heap.size cs (i * 3) W1
    obtain ⟨t1, t2, t3, t4⟩ := setCells_same w.heap.size (rows.drop i).flatten ((i + 1) * 3) (W1.setCells w.heap.size (i * 3) cs).drew
    refine ⟨raw_unflat (rest := cur2.toList.drop ((i + 1) * 3 + (c - i) * 3)) hbase trivial (by simp; omega) hG1 hG2 (fun d hd => ?_) f1 (by rw [f2, d2, hRl]) ?_, ?_⟩
    · rw [List.mem_append, List.mem_cons] at hd
      rcases hd with hd | rfl | hd
      · exact r6 d (List.mem_of_mem_take hd)
      · exact ⟨hcs, h1⟩
      · exact r6 d (List.mem_of_mem_drop hd)
    · rw [f3, lseg]
      have e1 : cur2.toList.take ((i + 1) * 3) = (rows.take i).flatten ++ cs := by
        rw [d3, hRt, List.append_assoc, hcs, ← List.append_assoc, List.take_left' (by rw [List.length_append, ltak, hcs]; omega)]
      rw [e1, List.flatten_append, List.flatten_cons]
      simp [List.append_assoc]
    · refine B1.trans ⟨t1.trans s1, t2.trans s2, t3.trans s3, ?_, fun k hk => ?_⟩
      · rw [t4]
        show W1.heap.size ≤ (W1.setCells w.heap.size (i * 3) cs).heap.size
        rw [s4]
        exact Nat.le_refl _
      · have hkg : k ≠ w.heap.size := by omega
        rw [setCells_far _ _ k hkg]
        exact setCells_far _ _ k hkg
  have HF := Aside0.mk hfin
  clear hfin
  have hw1 : IntKind.i64.wrap ((i : Int) + 1) = (i : Int) + 1 := by rw [IntKind.wrap_i64]; omega
  have hb1 : (0 : Int) ≤ (i : Int) + 1 := by omega
  have htn : ((i : Int) + 1).toNat = i + 1 := by omega
  have hz2' : ((i : Int) == (c : Int)) = false := beq_eq_false_iff_ne.2 (by omega)
  have hb0 : ¬ ((i : Int) = (c : Int)) := by omega
  have hb4 : ¬ (c = i) := by omega
  have hb5 : ¬ (G = i) := by omega
  have hb6 : ¬ (G = i + 1) := by omega
  have hin : i ≤ c := by omega
  have hb7 : (c : Int) < (c : Int) + 1 := by omega
  clear hR hcl r1 r2 r3 r4 r5 r6 r7 r8 r9 hdr htr lseg ltak hcur c1 d1 d2 d3 hv hcs h1 hv1 hold hRl hRt hzl hROW hW1 B1 hg2 hi0 hz0 hz1 hz2 hG hG2
  go_enter Try.func44, Try.ntmps44
  go_wp2_with (first | (at_builtin; refine Lib.wpList_append_run _ rfl _ _ _ _ rfl _ _ rfl rfl _ _ (hrz _) ?_) | (at_builtin; refine wpList_copy_by _ rfl _ _ 22 22 rfl _ _ rfl rfl (hcpA _ _) ?_))
  go_region_law (refine step_copy_by rfl _ _ 22 22 rfl _ _ (by simp [Act.eval, Act.put]) (by simp [Act.eval, Act.put]) (hcpB _ _ _) ?_)
  go_wp2
  go_ret
  exact ⟨G, rfl, HF.out.1, HF.out.2⟩
set_option maxHeartbeats 4000000 in
theorem insert_any (A : Option Addr) (c n i : Nat) (rows : List (List Value)) (cs : List Value) (vb base : Nat) (w : World) (hR : (Kd.raw 3).R 32 w base (fun _ => True) (.slice A n c) rows) (hl : rows.length = n) (hi : i ≤ n) (hsm : n < 1000000) (hbase : base ≤ w.heap.size)
    (hv : w.heap[vb]? = some (.cells cs.toArray 32 (0, 0))) (hcs : cs.length = 3) (h1 : ∀ u ∈ cs, u.oneCell' = true) (hvb : some vb ≠ (Value.slice A n c).ownBlock) :
    Calls Try.prog 44 #[.slice A n c, .int .i64 i, .slice (some ⟨vb, 0, none⟩) 1 1] w
      fun e w' => ∃ (A' : Option Addr) (c' : Nat), e = .returned (.slice A' (n + 1) c') ∧ (Kd.raw 3).R 32 w' base (fun _ => True) (.slice A' (n + 1) c') (rows.take i ++ cs :: rows.drop i) ∧ w.grownBy w' (Value.slice A n c).ownBlock ∧ ((Value.slice A' (n + 1) c').ownBlock = (Value.slice A n c).ownBlock ∨ ∃ b, (Value.slice A' (n + 1) c').ownBlock = some b ∧ w.heap.size ≤ b) := by
  rcases Nat.lt_or_ge i n with hlt | hge
  · obtain ⟨g, rfl⟩ : ∃ g, A = some ⟨g, 0, none⟩ := by
      rcases A with _ | ad
      · obtain ⟨A, c', he, _, hC⟩ := Kd.R_reads hR
        rw [hl] at he hC
        obtain ⟨ad, h2, _⟩ := hC.2.2 (by omega)
        injection he with he
        rw [h2] at he
        cases he
      · obtain ⟨g, rfl⟩ := Kd.R_head hR
        exact ⟨g, rfl⟩
    rcases Nat.lt_or_ge c (n + 1) with hc | hc
    · refine (insert_grow g c n i rows cs vb base w hR hlt hc hsm hbase hv hcs h1).mono ?_
      rintro e w' ⟨c', rfl, hr, hb⟩
      exact ⟨_, c', rfl, hr, grown_of_below hb _, Or.inr ⟨w.heap.size, rfl, Nat.le_refl _⟩⟩
    · refine (insert_shift g c n i rows cs vb base w hR hlt hc hsm hv hcs h1 (fun he => hvb (by rw [he]; rfl))).mono ?_
      rintro e w' ⟨rfl, hr, hg⟩
      exact ⟨_, c, rfl, hr, hg, Or.inl rfl⟩
  · obtain rfl : i = n := by omega
    refine (insert_end A c i rows cs vb base w hR hl hsm hbase hv hcs h1).mono ?_
    rintro e w' ⟨A', c', rfl, hr, hg, hat⟩
    refine ⟨A', c', rfl, ?_, hg, hat⟩
    rw [List.take_of_length_le (by omega), List.drop_of_length_le (by omega)]
    exact hr
set_option maxHeartbeats 4000000 in
theorem insert_S (A : Option Addr) (c i : Nat) (L : List S32) (d : S32) (v2 : Value) (vb base : Nat) (w0 w : World) (hS : Kd.S k32 32 w0 base (fun _ => True) (.slice A L.length c) L) (hb : Below w0.heap.size w0 w) (hd : (Kd.int .u8).R 5 w w0.heap.size (fun _ => True) v2 d.f2)
    (hv : w.heap[vb]? = some (.cells #[.int .i64 d.f0, .int .i64 d.f1, v2] 32 (0, 0))) (hvb : w0.heap.size ≤ vb) (hi : i ≤ L.length) (hsm : L.length < 1000000) (hbase : base ≤ w0.heap.size) :
    Calls Try.prog 44 #[.slice A L.length c, .int .i64 i, .slice (some ⟨vb, 0, none⟩) 1 1] w
      fun e w' => ∃ (A' : Option Addr) (c' : Nat), e = .returned (.slice A' (L.length + 1) c') ∧ Kd.S k32 32 w' base (fun _ => True) (.slice A' (L.length + 1) c') (L.take i ++ d :: L.drop i) ∧ w.grownBy w' (Value.slice A L.length c).ownBlock := by
  obtain ⟨_, rows, f, hrl, hrR, hrM⟩ := S_open hS
  have hsz := hb.size
  have hown : ∀ k, (Value.slice A L.length c).ownBlock = some k → k < w0.heap.size := fun k hk => Kd.R_lt hrR k hk
  obtain ⟨A2, c2, rfl⟩ := Kd.R_slice hd
  refine (insert_any A c L.length i rows [.int .i64 d.f0, .int .i64 d.f1, .slice A2 d.f2.length c2] vb base w (Kd.R_below (Kd.R_mono hrR (fun _ _ => trivial)) hb) hrl hi hsm (by omega) hv rfl (by
    intro u hu
    simp at hu
    rcases hu with rfl | rfl | rfl <;> rfl) (fun he => by have := hown vb he.symm; omega)).mono ?_
  rintro e w' ⟨A', c', rfl, hr, hg, hat⟩
  refine ⟨A', c', rfl, ?_, hg⟩
  have hfar : ∀ q, q < w.heap.size → some q ≠ (Value.slice A L.length c).ownBlock → some q ≠ (Value.slice A' (L.length + 1) c').ownBlock := fun q hq hn he => by
    rcases hat with hat | ⟨b, hb1, hb2⟩
    · exact hn (he.trans hat)
    · rw [hb1] at he
      injection he with he
      omega
  refine S_close (rows := rows.take i ++ [.int .i64 d.f0, .int .i64 d.f1, .slice A2 d.f2.length c2] :: rows.drop i) (f := fun q => if q < w0.heap.size then f q else L.length) (t := fun j => if j < i then j else if j = i then L.length else j - 1) (fun _ _ => trivial) (by simp [hrl]) hr ?_ ?_
  · intro a b ha hb2 hab
    simp at ha hb2
    split at hab <;> split at hab <;> (try split at hab) <;> (try split at hab) <;> omega
  · intro j x cs hx hc
    have hold : ∀ (p : Nat) (x : S32) (cs : List Value), L[p]? = some x → rows[p]? = some cs → k32.M w' base (fun k => (True ∧ some k ≠ (Value.slice A' (L.length + 1) c').ownBlock) ∧ (if k < w0.heap.size then f k else L.length) = p) x cs := fun p x cs hx hc => by
      have h7 := k32.M_bound (hrM p x cs hx hc)
      have h8 := k32.M_move (w1 := w') (fun q hq => (hg.block q (by have := hq.2.2.1; omega) hq.1.1.2).trans (hb.block q hq.2.2.1)) h7
      exact k32.M_mono (fun q hq => ⟨⟨trivial, hfar q (by have := hq.2.2.1; omega) hq.1.1.2⟩, by rw [if_pos hq.2.2.1]; exact hq.1.2⟩) h8
    have lt1 : (L.take i).length = i := by rw [List.length_take]; omega
    have lt2 : (rows.take i).length = i := by rw [List.length_take, hrl]; omega
    rcases Nat.lt_trichotomy j i with hj | rfl | hj
    · rw [List.getElem?_append_left (by omega), List.getElem?_take, if_pos hj] at hx hc
      rw [if_pos hj]
      exact hold j x cs hx hc
    · rw [List.getElem?_append_right (by omega), lt1, Nat.sub_self] at hx
      rw [List.getElem?_append_right (by omega), lt2, Nat.sub_self] at hc
      obtain rfl : d = x := by simpa using hx
      obtain rfl : _ = cs := by simpa using hc
      rw [if_neg (by omega), if_pos rfl]
      have h7 := Kd.R_step (w1 := w') (Kd.R_mono (ok' := fun q => (True ∧ some q ≠ (Value.slice A' (L.length + 1) c').ownBlock) ∧ ((if q < w0.heap.size then f q else L.length) = L.length ∧ some q ≠ (Value.slice A L.length c).ownBlock)) (Kd.R_bound hd) (fun q hq => by
        have h9 : w0.heap.size ≤ q := hq.2.1
        have h10 : some q ≠ (Value.slice A L.length c).ownBlock := fun he => by have := hown q he.symm; omega
        exact ⟨⟨trivial, hfar q hq.2.2.1 h10⟩, by rw [if_neg (by omega)], h10⟩)) (fun q hq hlt => hg.block q hlt hq.2.2)
      exact k32_mkM _ _ _ d (Kd.R_lower (Kd.R_mono h7 (fun q hq => ⟨hq.1, hq.2.1⟩)) (by omega))
    · rw [List.getElem?_append_right (by omega), lt1, show j - i = (j - i - 1) + 1 by omega, List.getElem?_cons_succ, List.getElem?_drop, show i + (j - i - 1) = j - 1 by omega] at hx
      rw [List.getElem?_append_right (by omega), lt2, show j - i = (j - i - 1) + 1 by omega, List.getElem?_cons_succ, List.getElem?_drop, show i + (j - i - 1) = j - 1 by omega] at hc
      rw [if_neg (by omega), if_neg (by omega)]
      exact hold (j - 1) x cs hx hc
set_option maxHeartbeats 4000000 in
set_option maxRecDepth 100000 in
theorem window_put (gv : Nat) (mark size : Int) (A : Option Addr) (c : Nat) (L : List S32) (d : S32) (A2 : Option Addr) (c2 base : Nat) (w : World) (hg : w.heap[gv]? = some (.cells #[.int .i64 mark, .slice A L.length c, .int .i64 size] 65 (0, 0)))
    (hS : Kd.S k32 32 w base (fun _ => True) (.slice A L.length c) L) (hm : May mark size L) (hbv : base ≤ gv) (hbase : base ≤ w.heap.size) (hd : Kd.C (Kd.int .u8) w A2 d.f2.length d.f2) (hd2 : d.f2.length ≤ c2) :
    Calls Try.prog 37 #[.pointer (some ⟨gv, 0, none⟩), .agg #[.int .i64 d.f0, .int .i64 d.f1, .slice A2 d.f2.length c2]] w
      fun e w' => e = .returned (.int .i64 (putW mark size L d).1) ∧ Aside0 (∃ (A' : Option Addr) (c' : Nat), w'.heap[gv]? = some (.cells #[.int .i64 mark, .slice A' (putW mark size L d).2.length c', .int .i64 size] 65 (0, 0)) ∧ Kd.S k32 32 w' base (fun _ => True) (.slice A' (putW mark size L d).2.length c') (putW mark size L d).2) ∧ Below base w w' := by
  have HG := Aside0.mk hg
  have HS := Aside0.mk hS
  have HM := Aside0.mk hm
  have HD := Aside0.mk hd
  have HD2 := Aside0.mk hd2
  have hlt := blk_lt hg
  have HCA : Aside0 (Kd.C k32 w A L.length L ∧ L.length ≤ c) := ⟨by
    obtain ⟨A1, c1, he, h1, h2⟩ := Kd.R_reads (Kd.S_R hS)
    injection he with ha _ hc
    subst ha hc
    exact ⟨h2, h1⟩⟩
  clear hg hS hm hd hd2
  obtain ⟨bx, hbx⟩ : ∃ bx : Obj, bx = .cells #[.int .i64 d.f0, .int .i64 d.f1, .slice A2 d.f2.length c2] 32 := ⟨_, rfl⟩
  have HWH : Aside0 (∃ wh sp, wh = whatD mark size L d.f0 ∧ sp = spotD mark size L d.f0) := ⟨_, _, rfl, rfl⟩
  obtain ⟨wh, sp, hwh, hsp⟩ := HWH.out
  have HW := Aside0.mk hwh
  have HSP := Aside0.mk hsp
  have HAT := Aside0.mk (window_at gv mark size A c L d.f0 (w.alloc bx) (Kd.C_alloc HCA.out.1 _) HCA.out.2 (blk_alloc HG.out _) HM.out)
  rw [← hwh, ← hsp, hbx] at HAT
  clear hwh hsp HWH
  go_enter Try.func37, Try.ntmps37
  go_wp2_with fail
  go_at_call 28
  with_reducible refine HAT.out.mono ?_
  rintro e w1 ⟨rfl, hb⟩
  have HB1 := Aside0.mk (show Below w.heap.size w w1 from below_then (below_alloc (Below.refl _ _) _) (by simp) hb)
  have HBB := Aside0.mk (HB1.out.mono hbase)
  have BG1 := Aside0.mk ((hb.block gv (by simp; omega)).trans (blk_alloc HG.out _))
  have BX1 := Aside0.mk ((hb.block w.heap.size (by simp)).trans (heap_new1 w _))
  have HS1 := Aside0.mk (Kd.S_below HS.out HB1.out)
  have HC1 := Aside0.mk (Kd.C_below HD.out HB1.out)
  have hlt1 : w.heap.size < w1.heap.size := blk_lt BX1.out
  have x0 : w1.cell? ⟨w.heap.size, 0, none⟩ = some (.int .i64 d.f0) := (blk_cell BX1.out 0).trans rfl
  have x1 : w1.cell? ⟨w.heap.size, 1, none⟩ = some (.int .i64 d.f1) := (blk_cell BX1.out 1).trans rfl
  have x2 : w1.cell? ⟨w.heap.size, 2, none⟩ = some (.slice A2 d.f2.length c2) := (blk_cell BX1.out 2).trans rfl
  have g0 : w1.cell? ⟨gv, 0, none⟩ = some (.int .i64 mark) := (blk_cell BG1.out 0).trans rfl
  have g1 : w1.cell? ⟨gv, 1, none⟩ = some (.slice A L.length c) := (blk_cell BG1.out 1).trans rfl
  have gf1 := blk_frozen BG1.out 1
  have KEEP : Aside0 (∀ e : Int, (e, L) = putW mark size L d → ∀ n, (Ending.returned (.int .i64 e) = .returned (.int .i64 (putW mark size L d).1) ∧ Aside0 (∃ (A' : Option Addr) (c' : Nat), (w1.drewN n).heap[gv]? = some (.cells #[.int .i64 mark, .slice A' (putW mark size L d).2.length c', .int .i64 size] 65 (0, 0)) ∧ Kd.S k32 32 (w1.drewN n) base (fun _ => True) (.slice A' (putW mark size L d).2.length c') (putW mark size L d).2) ∧ Below base w (w1.drewN n))) := ⟨by
    intro e he n
    rw [← he]
    exact ⟨rfl, ⟨A, c, BG1.out, Kd.S_below HS1.out (pw_below_drewN (Below.refl _ _) n)⟩, pw_below_drewN HBB.out n⟩⟩
  clear hb hbx
  by_cases h1 : d.f1 < 0
  · have HE : Aside0 ((4, L) = putW mark size L d) := ⟨by unfold putW; rw [if_pos (Or.inl h1)]⟩
    have b1 : decide (d.f1 < 0) = true := decide_eq_true h1
    go_wp2
    go_ret
    exact KEEP.out 4 HE.out 0
  by_cases h2 : 1000 < d.f1
  · have HE : Aside0 ((4, L) = putW mark size L d) := ⟨by unfold putW; rw [if_pos (Or.inr h2)]⟩
    have b1 : decide (d.f1 < 0) = false := decide_eq_false h1
    have b2 : decide (1000 < d.f1) = true := decide_eq_true h2
    go_wp2
    go_ret
    exact KEEP.out 4 HE.out 0
  have b1 : decide (d.f1 < 0) = false := decide_eq_false h1
  have b2 : decide (1000 < d.f1) = false := decide_eq_false h2
  have HP0 : Aside0 (putW mark size L d = if 1024 < d.f2.length then (5, L) else if wh = 1 then (6, L) else if wh = 2 then (73, L) else if wh = 3 then (72, L) else (0, L.take (placeD L d.f0) ++ d :: L.drop (placeD L d.f0))) := ⟨by unfold putW; rw [if_neg (by omega), ← HW.out]⟩
  clear h1 h2
  by_cases h3 : 1024 < d.f2.length
  · have HE : Aside0 ((5, L) = putW mark size L d) := ⟨by rw [HP0.out, if_pos h3]⟩
    have b3 : decide (1024 < d.f2.length) = true := decide_eq_true h3
    have b3' : decide ((1024 : Int) < (d.f2.length : Int)) = true := decide_eq_true (by omega)
    clear h3
    go_wp2
    go_ret
    exact KEEP.out 5 HE.out 0
  have b3 : decide (1024 < d.f2.length) = false := decide_eq_false h3
  have b3' : decide ((1024 : Int) < (d.f2.length : Int)) = false := decide_eq_false (by omega)
  have HL3 := Aside0.mk h3
  have HP1 := Aside0.mk (HP0.out.trans (if_neg h3))
  clear h3
  by_cases h4 : wh = 1
  · have HE : Aside0 ((6, L) = putW mark size L d) := ⟨by rw [HP1.out, if_pos h4]⟩
    subst h4
    go_wp2
    go_ret
    exact KEEP.out 6 HE.out 0
  by_cases h5 : wh = 2
  · have HE : Aside0 ((73, L) = putW mark size L d) := ⟨by rw [HP1.out, if_neg h4, if_pos h5]⟩
    subst h5
    go_wp2
    go_ret
    exact KEEP.out 73 HE.out 0
  by_cases h6 : wh = 3
  · have HE : Aside0 ((72, L) = putW mark size L d) := ⟨by rw [HP1.out, if_neg h4, if_neg h5, if_pos h6]⟩
    subst h6
    go_wp2
    go_ret
    exact KEEP.out 72 HE.out 0
  have HE : Aside0 (putW mark size L d = (0, L.take (placeD L d.f0) ++ d :: L.drop (placeD L d.f0))) := ⟨by rw [HP1.out, if_neg h4, if_neg h5, if_neg h6]⟩
  have t4 : (wh == 1) = false := beq_eq_false_iff_ne.2 h4
  have t5 : (wh == 2) = false := beq_eq_false_iff_ne.2 h5
  have t6 : (wh == 3) = false := beq_eq_false_iff_ne.2 h6
  clear h4 h5 h6 KEEP HAT
  go_wp2_with fail
  have HSZ : Aside0 (d.f2.length ≤ 1024 ∧ L.length < 1000000 ∧ sp = placeD L d.f0 ∧ sp ≤ L.length) := ⟨by
    have a1 := HL3.out
    have a2 := HM.out.len
    have a3 := HM.out.s2
    have a4 : sp = placeD L d.f0 := by
      rw [HSP.out]
      unfold spotD
      rw [if_neg]
      intro hx
      have hw := HW.out
      unfold whatD at hw
      rcases hx with hx | hx
      · rw [if_pos hx] at hw
        rw [hw] at t5
        cases t5
      · split at hw
        · rw [hw] at t5; cases t5
        · rw [hw] at t6; cases t6
    refine ⟨by omega, by omega, a4, ?_⟩
    rw [a4]
    unfold placeD
    exact (List.takeWhile_prefix _).length_le⟩
  have HCL : Aside0 (window_clone.f d.f0 d.f1 d.f2 = some (d.f0, d.f1, d.f2)) := ⟨by
    have := HSZ.out.1
    unfold window_clone.f slices_Clone_byte_byte.f; rw [if_pos (by omega)]; rfl⟩
  have hne1 : gv ≠ w.heap.size := by omega
  have hne2 : w.heap.size ≠ gv := by omega
  go_region_with (first | (go_at_call 29; (with_reducible refine (window_clone.calls d.f0 d.f1 A2 c2 d.f2 d.f0 d.f1 d.f2 _ ?hcl HD2.out HCL.out).mono ?_); (case hcl => exact Kd.C_below HC1.out (by repeat (first | exact Below.refl _ _ | apply below_alloc | apply below_drew | apply pw_below_drewN | apply below_drew1))); rintro e w2 ⟨v2, rfl, hR2, hb2⟩; have HB2 := Aside0.mk (show Below w1.heap.size w1 w2 from below_then (w := w1) (by repeat (first | exact Below.refl _ _ | apply below_alloc | apply below_drew | apply pw_below_drewN | apply below_drew1)) (by first | exact Nat.le_refl _ | (simp; try omega)) hb2); have HR2 := Aside0.mk (show Kd.R (Kd.int .u8) 5 w2 w1.heap.size (fun _ => True) v2 d.f2 from hR2); have BG2 := Aside0.mk ((HB2.out.block gv (blk_lt BG1.out)).trans BG1.out); have hg0 : w2.cell? ⟨gv, 0, none⟩ = some (.int .i64 mark) := (blk_cell BG2.out 0).trans rfl; have hg1 : w2.cell? ⟨gv, 1, none⟩ = some (.slice A L.length c) := (blk_cell BG2.out 1).trans rfl; have hgf1 := blk_frozen BG2.out 1; have hlt2 : w1.heap.size ≤ w2.heap.size := HB2.out.size; have hg5 : gv < w2.heap.size := Nat.lt_of_lt_of_le (blk_lt BG1.out) HB2.out.size; have hg6 : gv ≠ w2.heap.size := Nat.ne_of_lt hg5; have hg7 : w2.heap.size ≠ gv := Nat.ne_of_gt hg5; clear hb2 hR2) | (go_at_call 44; (refine (insert_S A c sp L d v2 _ base w1 _ HS1.out ?hB ?hD ?hV ?hvb HSZ.out.2.2.2 HSZ.out.2.1 (Nat.le_trans hbase HB1.out.size)).mono ?_); (case hV => first | exact heap_new1 _ _ | exact heap_new1 w2 _); (case hB => exact below_then HB2.out HB2.out.size (by repeat (first | exact Below.refl _ _ | apply below_alloc | apply below_drew | apply pw_below_drewN | apply below_drew1))); (case hD => exact Kd.R_below HR2.out (by repeat (first | exact Below.refl _ _ | apply below_alloc | apply below_drew | apply pw_below_drewN | apply below_drew1))); (case hvb => first | exact hlt2 | (simp; omega)); rintro e w3 ⟨A', c', rfl, hS3, hG3⟩; have HS3 := Aside0.mk hS3; have HG3 := Aside0.mk hG3; have BG3 := Aside0.mk (blk_grown (blk_alloc BG2.out _) hG3 (Kd.R_ne (Kd.S_R HS1.out) BG1.out (by decide))); have hi1 : w3.cell? ⟨gv, 1, none⟩ = some (.slice A L.length c) := (blk_cell BG3.out 1).trans rfl; have hif1 := blk_frozen BG3.out 1; have HB3 := Aside0.mk (show Below base w w3 from below_grown_own (below_alloc0 (HBB.out.trans (HB2.out.mono (Nat.le_trans hbase HB1.out.size))) (Nat.le_trans hbase (Nat.le_trans HB1.out.size HB2.out.size)) _) hG3 (fun q hq => Kd.R_base (Kd.S_R HS1.out) q hq) (by simp; have := HB1.out.size; omega)); clear hS3 hG3))
  all_goals
    go_wp2
    go_ret
    have hlen : (L.take sp ++ d :: L.drop sp).length = L.length + 1 := by have := HSZ.out.2.2.2; simp; omega
    have hput : putW mark size L d = (0, L.take sp ++ d :: L.drop sp) := by rw [HE.out, ← HSZ.out.2.2.1]
    rw [hput]
    have hfin : ((w3.setCell ⟨gv, 1, none⟩ (.slice A' (L.length + 1) c')).heap[gv]? = some (.cells #[.int .i64 mark, .slice A' (L.take sp ++ d :: L.drop sp).length c', .int .i64 size] 65 (0, 0)) ∧ Kd.S k32 32 (w3.setCell ⟨gv, 1, none⟩ (.slice A' (L.length + 1) c')) base (fun _ => True) (.slice A' (L.take sp ++ d :: L.drop sp).length c') (L.take sp ++ d :: L.drop sp)) ∧ Below base w (w3.setCell ⟨gv, 1, none⟩ (.slice A' (L.length + 1) c')) := by
      rw [hlen]
      exact ⟨⟨blk_put (cs := #[.int .i64 mark, .slice A L.length c, .int .i64 size]) BG3.out 1 _ rfl, Kd.S_set HS3.out BG3.out (by decide) 1 _⟩, HB3.out.setCell (p := ⟨gv, 1, none⟩) hbv _⟩
    first
    | exact ⟨rfl, ⟨A', c', hfin.1.1, hfin.1.2⟩, hfin.2⟩
    | exact ⟨rfl, ⟨A', c', hfin.1.1, Kd.S_drew hfin.1.2⟩, below_drew hfin.2⟩
    | exact ⟨rfl, ⟨A', c', hfin.1.1, Kd.S_below hfin.1.2 (pw_below_drewN (Below.refl _ _) _)⟩, pw_below_drewN hfin.2 _⟩
end Go.Proofs.Ytkdkjnjiianogaa.G
end
