/- LedgerOwn: texts of this claim, packed: what the kit's print has written for it and own texts, without what its proof does not reach. -/
import Derived.Test.YtbegdgdghiigpaaKLedgerOwn12
import Derived.Test.YtbegdgdghiigpaaKLedgerOwn13
set_option linter.unusedVariables false
set_option linter.unusedSimpArgs false
set_option linter.unusedSectionVars false
section
namespace Go.Proofs.Ytbegdgdghiigpaa.G
open WB Go.RowKit Go.Proofs.YtbegdgdghiigpaaW.PrintWords Go.Proofs.YtbegdgdghiigpaaW.PrintLast Go.Proofs.YtbegdgdghiigpaaW.PrintMore
attribute [local go_sem] max2_int min2_int max_two min_two max_three min_three max_four min_four   -- for this text's walks alone
set_option linter.unusedVariables false
set_option linter.unusedSimpArgs false
structure Moved (w w' : World) (S : Nat → Prop) : Prop where
  os : w'.os = w.os
  tape : w'.tape = w.tape
  output : w'.output = w.output
  size : w.heap.size ≤ w'.heap.size
  block : ∀ k, k < w.heap.size → ¬ S k → w'.heap[k]? = w.heap[k]?
theorem Moved.below {B : Nat} {w0 w w' : World} {S : Nat → Prop} (h : Moved w w' S) (hb : Below B w0 w) (hs : B ≤ w.heap.size) (hS : ∀ k, S k → B ≤ k) : Below B w0 w' :=
  hb.trans ⟨h.os, h.tape, h.output, h.size, fun k hk => h.block k (by omega) (fun hh => by have := hS k hh; omega)⟩
theorem Moved.then {w w1 w2 : World} {S : Nat → Prop} (h : Moved w w1 S) (hb : Below w1.heap.size w1 w2) : Moved w w2 S :=
  ⟨hb.os.trans h.os, hb.tape.trans h.tape, hb.output.trans h.output, Nat.le_trans h.size hb.size, fun k hk hn => (hb.block k (by have := h.size; omega)).trans (h.block k hk hn)⟩
theorem Moved.row {w w1 w2 : World} {S : Nat → Prop} {r : Option Nat} (h : Moved w w1 S) (hg : w1.grownBy w2 r) (hr : ∀ k, r = some k → k < w.heap.size → S k) : Moved w w2 S :=
  ⟨hg.os.trans h.os, hg.tape.trans h.tape, hg.output.trans h.output, Nat.le_trans h.size hg.size, fun k hk hn => (hg.block k (by have := h.size; omega) (fun he => hn (hr k he.symm hk))).trans (h.block k hk hn)⟩
theorem Moved.drew {w w1 : World} {S : Nat → Prop} (h : Moved w w1 S) : Moved w w1.drew S := ⟨h.os, h.tape, h.output, h.size, h.block⟩
theorem Moved.set {w w1 : World} {S : Nat → Prop} {g j : Nat} {u : Value} (h : Moved w w1 S) (hr : g < w.heap.size → S g) : Moved w (w1.setCell ⟨g, j, none⟩ u) S :=
  Moved.row h (grown_set (World.grownBy.refl w1 (some g))) (fun k hk hlt => by injection hk with hk; subst hk; exact hr hlt)
/-- What a call of do moves. -/
def DoS (g gb : Nat) (vl : Value) (k : Nat) : Prop := k = g ∨ k = gb ∨ some k = vl.ownBlock
theorem isum_snoc (l : List Int) (x : Int) : isum (l ++ [x]) = isum l + x := by unfold isum; rw [List.foldl_append]; rfl
theorem isum_bd (bs : List Int) (h : BalOk bs) : ∀ k, k ≤ 16 → 0 ≤ isum (bs.take k) ∧ isum (bs.take k) ≤ 1073741824 * k
  | 0, _ => by simp [isum]
  | k + 1, hk => by
    have ih := isum_bd bs h k (by omega)
    have hl : k < bs.length := by rw [h.len]; omega
    have hx := h.bd _ (List.getElem_mem hl)
    rw [List.take_succ_eq_append_getElem hl, isum_snoc]
    push_cast
    omega
/-- Where do stands behind the answer's making. -/
structure DoAt (w W : World) (S : Nat → Prop) (base g gb c g6 : Nat) (vl : Value) (bs' : List Int) (L : List S44) (o : S35) (code place value : Int) : Prop where
  bk : Book W base g gb c vl bs' L
  mv : Moved w W S
  op : W.heap[w.heap.size]? = some (.cells #[.int .i64 o.f0, .int .i64 o.f1, .int .i64 o.f2, .int .i64 o.f3] 35 (0, 0))
  res : W.heap[w.heap.size + 1]? = some (.cells #[.int .i64 0, .int .i64 0, .int .i64 0] 37 (0, 0))
  r : W.heap[g6]? = some (.cells #[.int .i64 code, .int .i64 place, .int .i64 value] 37 (0, 0))
  g6 : w.heap.size + 1 < g6
section
variable {w W : World} {S : Nat → Prop} {base g gb c g6 : Nat} {vl : Value} {bs' : List Int} {L : List S44} {o : S35} {code place value : Int}
theorem DoAt.set (h : DoAt w W S base g gb c g6 vl bs' L o code place value) (j : Nat) (x : Int) {code' place' value' : Int} (e : (#[.int .i64 code, .int .i64 place, .int .i64 value] : Array Value).setIfInBounds j (.int .i64 x) = #[.int .i64 code', .int .i64 place', .int .i64 value']) : DoAt w (W.setCell ⟨g6, j, none⟩ (.int .i64 x)) S base g gb c g6 vl bs' L o code' place' value' := by
  have h6 := h.g6
  exact ⟨⟨blk_far h.bk.b0 (blk_ne h.bk.b0 h.r (by decide)) _, Kd.R_set h.bk.rb h.r (by decide) j _, Kd.R_set h.bk.rl h.r (by decide) j _⟩, h.mv.set (fun hh => by omega), blk_far h.op (blk_ne h.op h.r (by decide)) _, blk_far h.res (show w.heap.size + 1 ≠ g6 by omega) _, blk_put h.r j _ e, h6⟩
theorem DoAt.below {W1 : World} (h : DoAt w W S base g gb c g6 vl bs' L o code place value) (hb : Below W.heap.size W W1) : DoAt w W1 S base g gb c g6 vl bs' L o code place value :=
  ⟨h.bk.below hb, h.mv.then hb, blk_below h.op hb, blk_below h.res hb, blk_below h.r hb, h.g6⟩
/-- The log's row grew. -/
structure DoGrown (w W : World) (S : Nat → Prop) (base g gb c g6 : Nat) (vl : Value) (bs' : List Int) (o : S35) (code place value : Int) : Prop where
  b0 : W.heap[g]? = some (.cells #[.slice (some ⟨gb, 0, none⟩) bs'.length c, vl] 57 (0, 0))
  rb : Kd.R (Kd.int .i64) 3 W base (fun _ => True) (.slice (some ⟨gb, 0, none⟩) bs'.length c) bs'
  mv : Moved w W S
  op : W.heap[w.heap.size]? = some (.cells #[.int .i64 o.f0, .int .i64 o.f1, .int .i64 o.f2, .int .i64 o.f3] 35 (0, 0))
  res : W.heap[w.heap.size + 1]? = some (.cells #[.int .i64 0, .int .i64 0, .int .i64 0] 37 (0, 0))
  r : W.heap[g6]? = some (.cells #[.int .i64 code, .int .i64 place, .int .i64 value] 37 (0, 0))
theorem DoAt.grown {W0 W1 : World} (h : DoAt w W S base g gb c g6 vl bs' L o code place value) (hb : Below W.heap.size W W0) (hg : W0.grownBy W1 vl.ownBlock) (hs : ∀ k, vl.ownBlock = some k → S k) : DoGrown w W1 S base g gb c g6 vl bs' o code place value := by
  have h0 := h.below hb
  have hty := fun k hk => Kd.R_typed h0.bk.rl k hk
  have ne : ∀ {q T cs}, W0.heap[q]? = some (.cells cs T (0, 0)) → T ≠ 44 → some q ≠ vl.ownBlock := fun hq hT he => by
    obtain ⟨cells, hc⟩ := hty _ he.symm
    rw [hq] at hc
    injection hc with hc
    injection hc with _ hc
    exact hT hc
  exact ⟨blk_grown h0.bk.b0 hg (ne h0.bk.b0 (by decide)), Kd.R_over' h0.bk.rb hty (by decide) hg, h0.mv.row hg (fun k hk _ => hs k hk), blk_grown h0.op hg (ne h0.op (by decide)), blk_grown h0.res hg (ne h0.res (by decide)), blk_grown h0.r hg (ne h0.r (by decide))⟩
theorem DoGrown.put {v1 : Value} {L1 : List S44} (h : DoGrown w W S base g gb c g6 vl bs' o code place value) (hr : Kd.R k44 44 W base (fun _ => True) v1 L1) (hgl : S g) (h6 : w.heap.size + 1 < g6) : DoAt w (W.setCell ⟨g, 1, none⟩ v1) S base g gb c g6 v1 bs' L1 o code place value := by
  exact ⟨⟨blk_put h.b0 1 _ rfl, Kd.R_set h.rb h.b0 (by decide) 1 _, Kd.R_set hr h.b0 (by decide) 1 _⟩, h.mv.set (fun _ => hgl), blk_far h.op (blk_ne h.op h.b0 (by decide)) _, blk_far h.res (blk_ne h.res h.b0 (by decide)) _, blk_far h.r (blk_ne h.r h.b0 (by decide)) _, h6⟩
/-- The log on its way to one entry more. -/
structure LogTr (w3 : World) (base : Nat) (vl : Value) (L : List S44) (f : Nat → Bool) (W : World) : Prop where
  mv : w3.grownBy W vl.ownBlock
  rl : f 10 = false → Kd.R k44 44 W base (fun _ => True) vl L
theorem grownBy_of_below {w w1 : World} (hb : Below w.heap.size w w1) (r : Option Nat) : w.grownBy w1 r := ⟨hb.os, hb.tape, hb.output, hb.size, fun k hk _ => hb.block k hk⟩
theorem LogTr.up {w3 W : World} {base : Nat} {vl : Value} {L : List S44} {f : Nat → Bool} (h : LogTr w3 base vl L f W) (i : Nat) : LogTr w3 base vl L (fun j => if j = i then true else f j) W := ⟨h.mv, fun hf => h.rl (by by_cases hi : 10 = i <;> simp_all)⟩
theorem LogTr.made {w3 W W1 : World} {base : Nat} {vl : Value} {L : List S44} {f : Nat → Bool} (h : LogTr w3 base vl L f W) (i : Nat) (hb : Below W.heap.size W W1) : LogTr w3 base vl L (fun j => if j = i then true else f j) W1 := ⟨World.grownBy.trans h.mv (grownBy_of_below hb _), fun hf => Kd.R_below (h.rl (by by_cases hi : 10 = i <;> simp_all)) hb⟩
theorem LogTr.grew {w3 W W1 : World} {base : Nat} {vl : Value} {L : List S44} {f : Nat → Bool} (h : LogTr w3 base vl L f W) (hg : W.grownBy W1 vl.ownBlock) : LogTr w3 base vl L (fun j => if j = 10 then true else f j) W1 := ⟨World.grownBy.trans h.mv hg, fun hf => by simp at hf⟩
/-- The answer is told. -/
theorem DoAt.done (h : DoAt w W S base g gb c g6 vl bs' L o code place value) (x y z : Int) :
    (((W.setCell ⟨w.heap.size + 1, 0, none⟩ (.int .i64 x)).setCell ⟨w.heap.size + 1, 1, none⟩ (.int .i64 y)).setCell ⟨w.heap.size + 1, 2, none⟩ (.int .i64 z)).heap[w.heap.size + 1]? = some (.cells #[.int .i64 x, .int .i64 y, .int .i64 z] 37 (0, 0)) ∧
    Book (((W.setCell ⟨w.heap.size + 1, 0, none⟩ (.int .i64 x)).setCell ⟨w.heap.size + 1, 1, none⟩ (.int .i64 y)).setCell ⟨w.heap.size + 1, 2, none⟩ (.int .i64 z)) base g gb c vl bs' L ∧
    Moved w (((W.setCell ⟨w.heap.size + 1, 0, none⟩ (.int .i64 x)).setCell ⟨w.heap.size + 1, 1, none⟩ (.int .i64 y)).setCell ⟨w.heap.size + 1, 2, none⟩ (.int .i64 z)) S := by
  have n1 := blk_ne h.bk.b0 h.res (by decide)
  have r1 := blk_put (cs := #[.int .i64 0, .int .i64 0, .int .i64 0]) h.res 0 (.int .i64 x) rfl
  have r2 := blk_put (cs := #[.int .i64 x, .int .i64 0, .int .i64 0]) r1 1 (.int .i64 y) rfl
  have r3 := blk_put (cs := #[.int .i64 x, .int .i64 y, .int .i64 0]) r2 2 (.int .i64 z) rfl
  exact ⟨r3, ⟨blk_far (blk_far (blk_far h.bk.b0 n1 _) n1 _) n1 _, Kd.R_set (Kd.R_set (Kd.R_set h.bk.rb h.res (by decide) 0 _) r1 (by decide) 1 _) r2 (by decide) 2 _, Kd.R_set (Kd.R_set (Kd.R_set h.bk.rl h.res (by decide) 0 _) r1 (by decide) 1 _) r2 (by decide) 2 _⟩, ((h.mv.set (fun hh => by omega)).set (fun hh => by omega)).set (fun hh => by omega)⟩
end
set_option maxHeartbeats 8000000 in
set_option maxRecDepth 100000 in
theorem book_do (base g gb c cl : Nat) (Al : Option Addr) (bs : List Int) (L : List S44) (o : S35) (w : World) (hB : Book w base g gb c (.slice Al L.length cl) bs L) (ho : OpOk o) (hb : BalOk bs) (hL : L.length < 1073741824) (hbase : base ≤ w.heap.size) :
    Calls Try.prog 21 #[.pointer (some ⟨g, 0, none⟩), .agg #[.int .i64 o.f0, .int .i64 o.f1, .int .i64 o.f2, .int .i64 o.f3]] w fun e w' => e = .returned (.agg #[.int .i64 (doL (bs, L) o).2.f0, .int .i64 (doL (bs, L) o).2.f1, .int .i64 (doL (bs, L) o).2.f2]) ∧
      (∃ vl, Book w' base g gb c vl (doL (bs, L) o).1.1 (doL (bs, L) o).1.2 ∧ (vl.ownBlock = (Value.slice Al L.length cl).ownBlock ∨ ∃ b, vl.ownBlock = some b ∧ w.heap.size ≤ b)) ∧ Moved w w' (DoS g gb (.slice Al L.length cl)) := by
  obtain ⟨wh, ke, ot, am⟩ := o
  have HOK := Aside0.mk ho
  have hk1 : 0 ≤ ke := ho.k1
  have hk2 : ke < 16 := ho.k2
  have hwh1 : 1 ≤ wh := ho.w1
  have hwh2 : wh ≤ 4 := ho.w2
  obtain ⟨k1, rfl⟩ := Int.eq_ofNat_of_zero_le hk1
  obtain ⟨bs', hbs'⟩ : ∃ b, b = (changeL bs ⟨wh, k1, ot, am⟩).1 := ⟨_, rfl⟩
  obtain ⟨code, hcode⟩ : ∃ b, b = (changeL bs ⟨wh, k1, ot, am⟩).2 := ⟨_, rfl⟩
  have HBO : Aside0 (BalOk bs') := ⟨by rw [hbs']; exact change_ok hb _⟩
  have HCH : Aside0 (changeL bs ⟨wh, k1, ot, am⟩ = (bs', code)) := ⟨by rw [hbs', hcode]⟩
  have HGB : Aside0 (gb < w.heap.size ∧ g < w.heap.size ∧ L.length ≤ 9223372036854775807) := ⟨Kd.R_lt hB.rb gb rfl, blk_lt hB.b0, by omega⟩
  have HB := Aside0.mk (hB.below (below_alloc (below_alloc (Below.refl _ _) (.cells #[.int .i64 wh, .int .i64 k1, .int .i64 ot, .int .i64 am] 35)) (.cells #[.int .i64 0, .int .i64 0, .int .i64 0] 37)))
  have BO := Aside0.mk (blk_alloc (heap_new1 w (.cells #[.int .i64 wh, .int .i64 k1, .int .i64 ot, .int .i64 am] 35)) (.cells #[.int .i64 0, .int .i64 0, .int .i64 0] 37))
  have BR := Aside0.mk (heap_new2 w (.cells #[.int .i64 wh, .int .i64 k1, .int .i64 ot, .int .i64 am] 35) (.cells #[.int .i64 0, .int .i64 0, .int .i64 0] 37))
  have HL := Aside0.mk hL
  have hl0 : L.length ≤ 1073741824 := by omega
  have HBS := Aside0.mk hb
  clear hB ho hk1 hb hbs' hcode hL
  go_enter Try.func21, Try.ntmps21
  go_wp2_with fail
  go_at_call 31
  with_reducible refine (book_change base g gb c (.slice Al L.length cl) bs L ⟨wh, k1, ot, am⟩ _ HB.out HOK.out HBS.out).mono ?_
  rintro e w1 ⟨rfl, hB1, hg1⟩
  rw [HCH.out] at hB1 ⊢
  dsimp only at hB1 ⊢
  have HB1 := Aside0.mk hB1
  have BO1 := Aside0.mk ((hg1.block w.heap.size (by simp; omega) (by have := HGB.out; simp; omega)).trans BO.out)
  have BR1 := Aside0.mk ((hg1.block (w.heap.size + 1) (by simp) (by have := HGB.out; simp; omega)).trans BR.out)
  have HM1 : Aside0 (Moved w w1 (DoS g gb (.slice Al L.length cl))) := ⟨Moved.row (w1 := (w.alloc (.cells #[.int .i64 wh, .int .i64 k1, .int .i64 ot, .int .i64 am] 35)).alloc (.cells #[.int .i64 0, .int .i64 0, .int .i64 0] 37)) (Moved.then ⟨rfl, rfl, rfl, Nat.le_refl _, fun _ _ _ => rfl⟩ (below_alloc (below_alloc (Below.refl _ _) _) _)) hg1 (fun q hq _ => .inr (.inl (by injection hq with hq; exact hq.symm)))⟩
  clear hB1 hg1
  have hlt1 : w.heap.size + 1 < w1.heap.size := blk_lt BR1.out
  have hlt0 : w.heap.size < w1.heap.size := by omega
  have hgl : g < w1.heap.size := blk_lt HB1.out.b0
  have hgbl : gb < w1.heap.size := Kd.R_lt HB1.out.rb gb rfl
  have p0 : w1.cell? ⟨w.heap.size, 0, none⟩ = some (.int .i64 wh) := (blk_cell BO1.out 0).trans rfl
  have p1 : w1.cell? ⟨w.heap.size, 1, none⟩ = some (.int .i64 k1) := (blk_cell BO1.out 1).trans rfl
  have b0 : w1.cell? ⟨g, 0, none⟩ = some (.slice (some ⟨gb, 0, none⟩) bs'.length c) := (blk_cell HB1.out.b0 0).trans rfl
  have b1 : w1.cell? ⟨g, 1, none⟩ = some (.slice Al L.length cl) := (blk_cell HB1.out.b0 1).trans rfl
  have hkl : k1 < bs'.length := by rw [HBO.out.len]; omega
  have q0 := (HB1.out.cell k1 hkl).1
  obtain ⟨bv, hbv⟩ : ∃ bv, bv = bs'.getD k1 0 := ⟨_, rfl⟩
  rw [← hbv] at q0
  have HBV := Aside0.mk hbv
  clear hbv
  have hbl : bs'.length ≤ 9223372036854775807 := by rw [HBO.out.len]; omega
  go_wp2_with fail
  refine region_tail (B := _) (w0 := _) 18 [(12, (fun v _ => v = .int .i64 code)), (13, (fun v _ => v = .pointer (some ⟨g, 0, none⟩))), (14, (fun v _ => v = .pointer (some ⟨g, 0, none⟩))), (15, (fun v _ => v = .pointer (some ⟨g, 0, none⟩))), (16, (fun v _ => v = .pointer (some ⟨g, 0, none⟩))), (17, (fun v _ => v = .slice (some ⟨gb, 0, none⟩) bs'.length c)), (18, (fun v _ => v = .pointer (some ⟨w.heap.size, 1, none⟩))), (19, (fun v _ => v = .int .i64 k1)), (20, (fun v _ => v = .pointer (some ⟨gb, k1, none⟩))), (21, (fun v _ => v = .int .i64 bv)), (22, (fun v _ => v = .pointer (some ⟨g, 0, none⟩))), (23, (fun v _ => v = .pointer (some ⟨g, 0, none⟩))), (24, (fun v _ => v = .pointer (some ⟨g, 0, none⟩))), (25, (fun v _ => v = .pointer (some ⟨g, 1, none⟩))), (26, (fun v _ => v = .slice Al L.length cl)), (27, (fun v _ => v = .int .i64 (L.length : Int))), (28, (fun v _ => v = .agg #[.int .i64 code, .int .i64 (L.length : Int), .int .i64 bv])), (6, (fun v W => ∃ g6, v = .pointer (some ⟨g6, 0, none⟩) ∧ w1.heap.size ≤ g6 ∧ W.heap[g6]? = some (.cells #[.int .i64 0, .int .i64 0, .int .i64 0] 37 (0, 0))))] (by kernel_rfl) (by kernel_rfl) (by decide) (by kernel_rfl) (by kernel_rfl) (by rfl) (show ([12, 13, 14, 15, 16, 17, 18, 19, 20, 21, 22, 23, 24, 25, 26, 27, 28, 6] : List Nat).Nodup by decide) ?hsz ?hst (Below.refl _ _) (Nat.le_refl _) ?step ?fin
  case hsz => exact List.forall_mem_cons.2 ⟨(show 12 < 71 by decide), List.forall_mem_cons.2 ⟨(show 13 < 71 by decide), List.forall_mem_cons.2 ⟨(show 14 < 71 by decide), List.forall_mem_cons.2 ⟨(show 15 < 71 by decide), List.forall_mem_cons.2 ⟨(show 16 < 71 by decide), List.forall_mem_cons.2 ⟨(show 17 < 71 by decide), List.forall_mem_cons.2 ⟨(show 18 < 71 by decide), List.forall_mem_cons.2 ⟨(show 19 < 71 by decide), List.forall_mem_cons.2 ⟨(show 20 < 71 by decide), List.forall_mem_cons.2 ⟨(show 21 < 71 by decide), List.forall_mem_cons.2 ⟨(show 22 < 71 by decide), List.forall_mem_cons.2 ⟨(show 23 < 71 by decide), List.forall_mem_cons.2 ⟨(show 24 < 71 by decide), List.forall_mem_cons.2 ⟨(show 25 < 71 by decide), List.forall_mem_cons.2 ⟨(show 26 < 71 by decide), List.forall_mem_cons.2 ⟨(show 27 < 71 by decide), List.forall_mem_cons.2 ⟨(show 28 < 71 by decide), List.forall_mem_cons.2 ⟨(show 6 < 71 by decide), fun _ h => nomatch h⟩⟩⟩⟩⟩⟩⟩⟩⟩⟩⟩⟩⟩⟩⟩⟩⟩⟩
  case hst => exact List.forall_mem_cons.2 ⟨(fun v w1 w2 hb h => h), List.forall_mem_cons.2 ⟨(fun v w1 w2 hb h => h), List.forall_mem_cons.2 ⟨(fun v w1 w2 hb h => h), List.forall_mem_cons.2 ⟨(fun v w1 w2 hb h => h), List.forall_mem_cons.2 ⟨(fun v w1 w2 hb h => h), List.forall_mem_cons.2 ⟨(fun v w1 w2 hb h => h), List.forall_mem_cons.2 ⟨(fun v w1 w2 hb h => h), List.forall_mem_cons.2 ⟨(fun v w1 w2 hb h => h), List.forall_mem_cons.2 ⟨(fun v w1 w2 hb h => h), List.forall_mem_cons.2 ⟨(fun v w1 w2 hb h => h), List.forall_mem_cons.2 ⟨(fun v w1 w2 hb h => h), List.forall_mem_cons.2 ⟨(fun v w1 w2 hb h => h), List.forall_mem_cons.2 ⟨(fun v w1 w2 hb h => h), List.forall_mem_cons.2 ⟨(fun v w1 w2 hb h => h), List.forall_mem_cons.2 ⟨(fun v w1 w2 hb h => h), List.forall_mem_cons.2 ⟨(fun v w1 w2 hb h => h), List.forall_mem_cons.2 ⟨(fun v w1 w2 hb h => h), List.forall_mem_cons.2 ⟨(fun v w1 w2 hb h => h.imp fun g hg => ⟨hg.1, hg.2.1, blk_below hg.2.2 hb⟩), fun _ h => nomatch h⟩⟩⟩⟩⟩⟩⟩⟩⟩⟩⟩⟩⟩⟩⟩⟩⟩⟩
  case step =>
    intro i_ o_ e_ ho he a w1_ hs hdf hfr hbl hbs hpre
    match i_, ho, he with
    | 0, ho, he => obtain rfl : o_ = ⟨_, _, _, _, _, _⟩ := (Option.some.inj ho).symm; obtain rfl := Option.some.inj he; clear he; have f5 : a.tmps.getD 5 undef = .int .i64 code := (by rw [Array.getD_eq_getD_getElem?, hfr 5 (show ¬ 5 ∈ ([12, 13, 14, 15, 16, 17, 18, 19, 20, 21, 22, 23, 24, 25, 26, 27, 28, 6] : List Nat) by decide)]; rfl); clear hpre hfr; refine wpOp_value (v := .int .i64 code) ho rfl ?_ ⟨_, rfl, rfl, Below.refl _ _⟩; simp only [execOp, Act.eval, List.map_toArray, List.map_cons, List.map_nil, f5]; first | rfl | (go_simp; done) | (go_simp; rfl) | (go_simp; intro h_; exfalso; omega)
    | 1, ho, he => obtain rfl : o_ = ⟨_, _, _, _, _, _⟩ := (Option.some.inj ho).symm; obtain rfl := Option.some.inj he; clear he; have f0 : a.tmps.getD 0 undef = .pointer (some ⟨g, 0, none⟩) := (by rw [Array.getD_eq_getD_getElem?, hfr 0 (show ¬ 0 ∈ ([12, 13, 14, 15, 16, 17, 18, 19, 20, 21, 22, 23, 24, 25, 26, 27, 28, 6] : List Nat) by decide)]; rfl); clear hpre hfr; refine wpOp_value (v := .pointer (some ⟨g, 0, none⟩)) ho rfl ?_ ⟨_, rfl, rfl, Below.refl _ _⟩; simp only [execOp, Act.eval, List.map_toArray, List.map_cons, List.map_nil, f0]; first | rfl | (go_simp; done) | (go_simp; rfl) | (go_simp; intro h_; exfalso; omega)
    | 2, ho, he => obtain rfl : o_ = ⟨_, _, _, _, _, _⟩ := (Option.some.inj ho).symm; obtain rfl := Option.some.inj he; clear he; have e13 : a.tmps.getD 13 undef = .pointer (some ⟨g, 0, none⟩) := hpre ⟨1, .data⟩ (by simp) rfl _ rfl; clear hpre hfr; refine wpOp_value (v := .pointer (some ⟨g, 0, none⟩)) ho rfl ?_ ⟨_, rfl, rfl, Below.refl _ _⟩; simp only [execOp, Act.eval, List.map_toArray, List.map_cons, List.map_nil, e13]; first | rfl | (go_simp; done) | (go_simp; rfl) | (go_simp; intro h_; exfalso; omega)
    | 3, ho, he => obtain rfl : o_ = ⟨_, _, _, _, _, _⟩ := (Option.some.inj ho).symm; obtain rfl := Option.some.inj he; clear he; have e14 : a.tmps.getD 14 undef = .pointer (some ⟨g, 0, none⟩) := hpre ⟨2, .data⟩ (by simp) rfl _ rfl; clear hpre hfr; refine wpOp_value (v := .pointer (some ⟨g, 0, none⟩)) ho rfl ?_ ⟨_, rfl, rfl, Below.refl _ _⟩; simp only [execOp, Act.eval, List.map_toArray, List.map_cons, List.map_nil, e14]; first | rfl | (go_simp; done) | (go_simp; rfl) | (go_simp; intro h_; exfalso; omega)
    | 4, ho, he => obtain rfl : o_ = ⟨_, _, _, _, _, _⟩ := (Option.some.inj ho).symm; obtain rfl := Option.some.inj he; clear he; have e15 : a.tmps.getD 15 undef = .pointer (some ⟨g, 0, none⟩) := hpre ⟨3, .data⟩ (by simp) rfl _ rfl; clear hpre hfr; refine wpOp_value (v := .pointer (some ⟨g, 0, none⟩)) ho rfl ?_ ⟨_, rfl, rfl, Below.refl _ _⟩; simp only [execOp, Act.eval, List.map_toArray, List.map_cons, List.map_nil, e15]; first | rfl | (go_simp; done) | (go_simp; rfl) | (go_simp; intro h_; exfalso; omega)
    | 5, ho, he => obtain rfl : o_ = ⟨_, _, _, _, _, _⟩ := (Option.some.inj ho).symm; obtain rfl := Option.some.inj he; clear he; have e16 : a.tmps.getD 16 undef = .pointer (some ⟨g, 0, none⟩) := hpre ⟨4, .data⟩ (by simp) rfl _ rfl; clear hpre hfr; have k_b0 := (hbl.cell (World.block_lt_of_cell? _ _ b0)).trans b0; refine wpOp_value (v := .slice (some ⟨gb, 0, none⟩) bs'.length c) ho rfl ?_ ⟨_, rfl, rfl, Below.refl _ _⟩; simp only [execOp, Act.eval, List.map_toArray, List.map_cons, List.map_nil, e16]; first | rfl | (go_simp; done) | (go_simp; rfl) | (go_simp; intro h_; exfalso; omega)
    | 6, ho, he => obtain rfl : o_ = ⟨_, _, _, _, _, _⟩ := (Option.some.inj ho).symm; obtain rfl := Option.some.inj he; clear he; have f3 : a.tmps.getD 3 undef = .pointer (some ⟨w.heap.size, 0, none⟩) := (by rw [Array.getD_eq_getD_getElem?, hfr 3 (show ¬ 3 ∈ ([12, 13, 14, 15, 16, 17, 18, 19, 20, 21, 22, 23, 24, 25, 26, 27, 28, 6] : List Nat) by decide)]; rfl); clear hpre hfr; refine wpOp_value (v := .pointer (some ⟨w.heap.size, 1, none⟩)) ho rfl ?_ ⟨_, rfl, rfl, Below.refl _ _⟩; simp only [execOp, Act.eval, List.map_toArray, List.map_cons, List.map_nil, f3]; first | rfl | (go_simp; done) | (go_simp; rfl) | (go_simp; intro h_; exfalso; omega)
    | 7, ho, he => obtain rfl : o_ = ⟨_, _, _, _, _, _⟩ := (Option.some.inj ho).symm; obtain rfl := Option.some.inj he; clear he; have e18 : a.tmps.getD 18 undef = .pointer (some ⟨w.heap.size, 1, none⟩) := hpre ⟨6, .data⟩ (by simp) rfl _ rfl; clear hpre hfr; have k_p1 := (hbl.cell (World.block_lt_of_cell? _ _ p1)).trans p1; refine wpOp_value (v := .int .i64 k1) ho rfl ?_ ⟨_, rfl, rfl, Below.refl _ _⟩; simp only [execOp, Act.eval, List.map_toArray, List.map_cons, List.map_nil, e18]; first | rfl | (go_simp; done) | (go_simp; rfl) | (go_simp; intro h_; exfalso; omega)
    | 8, ho, he => obtain rfl : o_ = ⟨_, _, _, _, _, _⟩ := (Option.some.inj ho).symm; obtain rfl := Option.some.inj he; clear he; have e17 : a.tmps.getD 17 undef = .slice (some ⟨gb, 0, none⟩) bs'.length c := hpre ⟨5, .data⟩ (by simp) rfl _ rfl; have e19 : a.tmps.getD 19 undef = .int .i64 k1 := hpre ⟨7, .data⟩ (by simp) rfl _ rfl; clear hpre hfr; refine wpOp_value (v := .pointer (some ⟨gb, k1, none⟩)) ho rfl ?_ ⟨_, rfl, rfl, Below.refl _ _⟩; simp only [execOp, Act.eval, List.map_toArray, List.map_cons, List.map_nil, e17, e19]; first | rfl | (go_simp; done) | (go_simp; rfl) | (go_simp; intro h_; exfalso; omega)
    | 9, ho, he => obtain rfl : o_ = ⟨_, _, _, _, _, _⟩ := (Option.some.inj ho).symm; obtain rfl := Option.some.inj he; clear he; have e20 : a.tmps.getD 20 undef = .pointer (some ⟨gb, k1, none⟩) := hpre ⟨8, .data⟩ (by simp) rfl _ rfl; clear hpre hfr; have k_q0 := (hbl.cell (World.block_lt_of_cell? _ _ q0)).trans q0; refine wpOp_value (v := .int .i64 bv) ho rfl ?_ ⟨_, rfl, rfl, Below.refl _ _⟩; simp only [execOp, Act.eval, List.map_toArray, List.map_cons, List.map_nil, e20]; first | rfl | (go_simp; done) | (go_simp; rfl) | (go_simp; intro h_; exfalso; omega)
    | 10, ho, he => obtain rfl : o_ = ⟨_, _, _, _, _, _⟩ := (Option.some.inj ho).symm; obtain rfl := Option.some.inj he; clear he; have f0 : a.tmps.getD 0 undef = .pointer (some ⟨g, 0, none⟩) := (by rw [Array.getD_eq_getD_getElem?, hfr 0 (show ¬ 0 ∈ ([12, 13, 14, 15, 16, 17, 18, 19, 20, 21, 22, 23, 24, 25, 26, 27, 28, 6] : List Nat) by decide)]; rfl); clear hpre hfr; refine wpOp_value (v := .pointer (some ⟨g, 0, none⟩)) ho rfl ?_ ⟨_, rfl, rfl, Below.refl _ _⟩; simp only [execOp, Act.eval, List.map_toArray, List.map_cons, List.map_nil, f0]; first | rfl | (go_simp; done) | (go_simp; rfl) | (go_simp; intro h_; exfalso; omega)
    | 11, ho, he => obtain rfl : o_ = ⟨_, _, _, _, _, _⟩ := (Option.some.inj ho).symm; obtain rfl := Option.some.inj he; clear he; have e22 : a.tmps.getD 22 undef = .pointer (some ⟨g, 0, none⟩) := hpre ⟨10, .data⟩ (by simp) rfl _ rfl; clear hpre hfr; refine wpOp_value (v := .pointer (some ⟨g, 0, none⟩)) ho rfl ?_ ⟨_, rfl, rfl, Below.refl _ _⟩; simp only [execOp, Act.eval, List.map_toArray, List.map_cons, List.map_nil, e22]; first | rfl | (go_simp; done) | (go_simp; rfl) | (go_simp; intro h_; exfalso; omega)
    | 12, ho, he => obtain rfl : o_ = ⟨_, _, _, _, _, _⟩ := (Option.some.inj ho).symm; obtain rfl := Option.some.inj he; clear he; have e23 : a.tmps.getD 23 undef = .pointer (some ⟨g, 0, none⟩) := hpre ⟨11, .data⟩ (by simp) rfl _ rfl; clear hpre hfr; refine wpOp_value (v := .pointer (some ⟨g, 0, none⟩)) ho rfl ?_ ⟨_, rfl, rfl, Below.refl _ _⟩; simp only [execOp, Act.eval, List.map_toArray, List.map_cons, List.map_nil, e23]; first | rfl | (go_simp; done) | (go_simp; rfl) | (go_simp; intro h_; exfalso; omega)
    | 13, ho, he => obtain rfl : o_ = ⟨_, _, _, _, _, _⟩ := (Option.some.inj ho).symm; obtain rfl := Option.some.inj he; clear he; have e24 : a.tmps.getD 24 undef = .pointer (some ⟨g, 0, none⟩) := hpre ⟨12, .data⟩ (by simp) rfl _ rfl; clear hpre hfr; refine wpOp_value (v := .pointer (some ⟨g, 1, none⟩)) ho rfl ?_ ⟨_, rfl, rfl, Below.refl _ _⟩; simp only [execOp, Act.eval, List.map_toArray, List.map_cons, List.map_nil, e24]; first | rfl | (go_simp; done) | (go_simp; rfl) | (go_simp; intro h_; exfalso; omega)
    | 14, ho, he => obtain rfl : o_ = ⟨_, _, _, _, _, _⟩ := (Option.some.inj ho).symm; obtain rfl := Option.some.inj he; clear he; have e25 : a.tmps.getD 25 undef = .pointer (some ⟨g, 1, none⟩) := hpre ⟨13, .data⟩ (by simp) rfl _ rfl; clear hpre hfr; have k_b1 := (hbl.cell (World.block_lt_of_cell? _ _ b1)).trans b1; refine wpOp_value (v := .slice Al L.length cl) ho rfl ?_ ⟨_, rfl, rfl, Below.refl _ _⟩; simp only [execOp, Act.eval, List.map_toArray, List.map_cons, List.map_nil, e25]; first | rfl | (go_simp; done) | (go_simp; rfl) | (go_simp; intro h_; exfalso; omega)
    | 15, ho, he => obtain rfl : o_ = ⟨_, _, _, _, _, _⟩ := (Option.some.inj ho).symm; obtain rfl := Option.some.inj he; clear he; have e26 : a.tmps.getD 26 undef = .slice Al L.length cl := hpre ⟨14, .data⟩ (by simp) rfl _ rfl; clear hpre hfr; refine wpOp_value (v := .int .i64 (L.length : Int)) ho rfl ?_ ⟨_, rfl, rfl, Below.refl _ _⟩; simp only [execOp, Act.eval, List.map_toArray, List.map_cons, List.map_nil, e26]; first | rfl | (go_simp; done) | (go_simp; rfl) | (go_simp; intro h_; exfalso; omega)
    | 16, ho, he => obtain rfl : o_ = ⟨_, _, _, _, _, _⟩ := (Option.some.inj ho).symm; obtain rfl := Option.some.inj he; clear he; have e12 : a.tmps.getD 12 undef = .int .i64 code := hpre ⟨0, .data⟩ (by simp) rfl _ rfl; have e21 : a.tmps.getD 21 undef = .int .i64 bv := hpre ⟨9, .data⟩ (by simp) rfl _ rfl; have e27 : a.tmps.getD 27 undef = .int .i64 (L.length : Int) := hpre ⟨15, .data⟩ (by simp) rfl _ rfl; clear hpre hfr; refine wpOp_value (v := .agg #[.int .i64 code, .int .i64 (L.length : Int), .int .i64 bv]) ho rfl ?_ ⟨_, rfl, rfl, Below.refl _ _⟩; simp only [execOp, Act.eval, List.map_toArray, List.map_cons, List.map_nil, e12, e21, e27]; first | rfl | (go_simp; done) | (go_simp; rfl) | (go_simp; intro h_; exfalso; omega)
    | 17, ho, he => obtain rfl : o_ = ⟨_, _, _, _, _, _⟩ := (Option.some.inj ho).symm; obtain rfl := Option.some.inj he; clear he; clear hpre hfr; refine wpOp_value (w1 := w1_.alloc (.cells #[.int .i64 0, .int .i64 0, .int .i64 0] 37)) (v := .pointer (some ⟨w1_.heap.size, 0, none⟩)) ho rfl ?_ ⟨_, rfl, ⟨_, rfl, hbs, heap_new1 _ _⟩, below_alloc (Below.refl _ _) _⟩; simp only [execOp, Act.eval, List.map_toArray, List.map_cons, List.map_nil]; first | rfl | (go_simp; done) | (go_simp; rfl)
    | n_ + 18, ho, he => simp at he
  case fin =>
    intro xv_ w1_ hbl hbs hx
    simp only [List.forall_mem_cons] at hx
    obtain ⟨x12, x13, x14, x15, x16, x17, x18, x19, x20, x21, x22, x23, x24, x25, x26, x27, x28, ⟨g6, x6, hg6, hr6⟩, _⟩ := hx
    simp only [List.map_cons, List.map_nil, putL, Act.put, List.setIfInBounds_toArray, List.set_cons_zero, List.set_cons_succ, x12, x13, x14, x15, x16, x17, x18, x19, x20, x21, x22, x23, x24, x25, x26, x27, x28, x6]
    simp only [List.drop_succ_cons, List.drop_zero]
    clear x12 x13 x14 x15 x16 x17 x18 x19 x20 x21 x22 x23 x24 x25 x26 x27 x28 x6
    have HD0 : Aside0 (DoAt w w1_ (DoS g gb (.slice Al L.length cl)) base g gb c g6 (.slice Al L.length cl) bs' L ⟨wh, k1, ot, am⟩ 0 0 0) := ⟨HB1.out.below hbl, HM1.out.then hbl, blk_below BO1.out hbl, blk_below BR1.out hbl, hr6, by omega⟩
    have HD1 := Aside0.mk (((HD0.out.set 0 code rfl).set 1 (L.length : Int) rfl).set 2 bv rfl)
    have r0 : w1_.cell? ⟨g6, 0, none⟩ = some (.int .i64 0) := (blk_cell hr6 0).trans rfl
    have r1 : w1_.cell? ⟨g6, 1, none⟩ = some (.int .i64 0) := (blk_cell hr6 1).trans rfl
    have r2 : w1_.cell? ⟨g6, 2, none⟩ = some (.int .i64 0) := (blk_cell hr6 2).trans rfl
    have fr0 := blk_frozen hr6 0
    have fr1 := blk_frozen hr6 1
    have fr2 := blk_frozen hr6 2
    have hlr := blk_lt hr6
    have s0 : w1_.cell? ⟨w.heap.size, 0, none⟩ = some (.int .i64 wh) := (blk_cell HD0.out.op 0).trans rfl
    have s1 : w1_.cell? ⟨w.heap.size, 1, none⟩ = some (.int .i64 k1) := (blk_cell HD0.out.op 1).trans rfl
    have s2 : w1_.cell? ⟨w.heap.size, 2, none⟩ = some (.int .i64 ot) := (blk_cell HD0.out.op 2).trans rfl
    have s3 : w1_.cell? ⟨w.heap.size, 3, none⟩ = some (.int .i64 am) := (blk_cell HD0.out.op 3).trans rfl
    have z0 : w1_.cell? ⟨w.heap.size + 1, 0, none⟩ = some (.int .i64 0) := (blk_cell HD0.out.res 0).trans rfl
    have z1 : w1_.cell? ⟨w.heap.size + 1, 1, none⟩ = some (.int .i64 0) := (blk_cell HD0.out.res 1).trans rfl
    have z2 : w1_.cell? ⟨w.heap.size + 1, 2, none⟩ = some (.int .i64 0) := (blk_cell HD0.out.res 2).trans rfl
    have fz0 := blk_frozen HD0.out.res 0
    have fz1 := blk_frozen HD0.out.res 1
    have fz2 := blk_frozen HD0.out.res 2
    have hlz := blk_lt HD0.out.res
    have y0 : w1_.cell? ⟨g, 0, none⟩ = some (.slice (some ⟨gb, 0, none⟩) bs'.length c) := (blk_cell HD0.out.bk.b0 0).trans rfl
    have ne1 : w.heap.size ≠ g6 := by omega
    have ne2 : g6 ≠ w.heap.size := by omega
    have ne3 : g6 ≠ w.heap.size + 1 := by omega
    have ne4 : w.heap.size + 1 ≠ g6 := by omega
    have ne5 : g ≠ g6 := by omega
    have ne6 : g6 ≠ g := by omega
    have hg6' := HD0.out.g6
    clear hr6 hbl hbs HD0 p0 p1 b0 b1 q0 HB1 BO1 BR1 HM1 hg6 HB BO BR
    by_cases hw4 : wh = 4
    · have HE : Aside0 (doL (bs, L) ⟨wh, k1, ot, am⟩ = ((bs', L), ⟨code, (L.length : Int), isum bs'⟩)) := ⟨by unfold doL ansL; dsimp only; rw [HCH.out, if_neg (by omega), if_neg (by omega), if_pos hw4]⟩
      have HD2 := Aside0.mk (HD1.out.set 2 0 rfl)
      subst hw4
      clear HD1
      go_wp2_with fail
      obtain ⟨w3, hw3⟩ : ∃ w3, w3 = (((w1_.setCell ⟨g6, 0, none⟩ (.int .i64 code)).setCell ⟨g6, 1, none⟩ (.int .i64 (L.length : Int))).setCell ⟨g6, 2, none⟩ (.int .i64 bv)).setCell ⟨g6, 2, none⟩ (.int .i64 0) := ⟨_, rfl⟩
      rw [← hw3] at HD2 ⊢
      clear hw3 s0 s1 s2 s3 z0 z1 z2 fz0 fz1 fz2 r0 r1 r2 fr0 fr1 fr2 y0 hlr hlz
      go_loopw [39] (fun v39 wr => ∃ k : Nat, v39 = .int .i64 k ∧ k ≤ bs'.length ∧ Aside0 (DoAt w wr (DoS g gb (.slice Al L.length cl)) base g gb c g6 (.slice Al L.length cl) bs' L ⟨4, k1, ot, am⟩ code (L.length : Int) (isum (bs'.take k)))) (fun v39 _ => bs'.length - (intOf v39).toNat)
      case atStart => exact ⟨0, rfl, by omega, by simpa [isum] using HD2⟩
      case round =>
        obtain ⟨k, rfl, hk, HD⟩ := hrel
        have v2 : wr.cell? ⟨g6, 2, none⟩ = some (.int .i64 (isum (bs'.take k))) := (blk_cell HD.out.r 2).trans rfl
        have fv2 := blk_frozen HD.out.r 2
        by_cases hlt : k < bs'.length
        · have v0 := (HD.out.bk.cell k hlt).1
          have HS : Aside0 (isum (bs'.take (k + 1)) = isum (bs'.take k) + bs'.getD k 0) := ⟨by rw [List.take_succ_eq_append_getElem hlt, isum_snoc, List.getD_eq_getElem?_getD, List.getElem?_eq_getElem hlt]; rfl⟩
          have h16 : bs'.length = 16 := HBO.out.len
          have hbd := isum_bd bs' HBO.out k (by omega)
          have hxd := HBO.out.get k
          obtain ⟨sm, hsm⟩ : ∃ sm, sm = isum (bs'.take k) := ⟨_, rfl⟩
          obtain ⟨xv, hxv⟩ : ∃ xv, xv = bs'.getD k 0 := ⟨_, rfl⟩
          rw [← hsm] at v2 HS hbd HD
          rw [← hxv] at v0 HS hxd
          obtain ⟨hb1, hb2⟩ := hbd
          obtain ⟨hx1, hx2⟩ := hxd
          have b1 : decide ((k : Int) < (bs'.length : Int)) = true := decide_eq_true (by omega)
          have b1' : decide (k < bs'.length) = true := decide_eq_true hlt
          have hsb : sm ≤ 17179869184 := by omega
          clear hsm hxv h16 hb2
          go_wp2
          go_roundw
          case rel => exact ⟨k + 1, by go_num, by omega, ⟨by rw [HS.out]; exact HD.out.set 2 _ rfl⟩⟩
          case measure => simp [intOf]; omega
        · have b1 : decide ((k : Int) < (bs'.length : Int)) = false := decide_eq_false (by omega)
          have b1' : decide (k < bs'.length) = false := decide_eq_false hlt
          rw [List.take_of_length_le (by omega)] at HD v2
          have s0 : wr.cell? ⟨w.heap.size, 0, none⟩ = some (.int .i64 4) := (blk_cell HD.out.op 0).trans rfl
          have v0 : wr.cell? ⟨g6, 0, none⟩ = some (.int .i64 code) := (blk_cell HD.out.r 0).trans rfl
          have v1 : wr.cell? ⟨g6, 1, none⟩ = some (.int .i64 (L.length : Int)) := (blk_cell HD.out.r 1).trans rfl
          have z0 : wr.cell? ⟨w.heap.size + 1, 0, none⟩ = some (.int .i64 0) := (blk_cell HD.out.res 0).trans rfl
          have z1 : wr.cell? ⟨w.heap.size + 1, 1, none⟩ = some (.int .i64 0) := (blk_cell HD.out.res 1).trans rfl
          have z2 : wr.cell? ⟨w.heap.size + 1, 2, none⟩ = some (.int .i64 0) := (blk_cell HD.out.res 2).trans rfl
          have fz0 := blk_frozen HD.out.res 0
          have fz1 := blk_frozen HD.out.res 1
          have fz2 := blk_frozen HD.out.res 2
          have hlz := blk_lt HD.out.res
          obtain ⟨sm, hsm⟩ : ∃ sm, sm = isum bs' := ⟨_, rfl⟩
          rw [← hsm] at v2 HD HE
          clear hsm
          go_wp2
          obtain ⟨e1, e2, e3⟩ := HD.out.done code (L.length : Int) sm
          refine bodyPost_ret (results_cell_row rfl _ _ (w.heap.size + 1) 37 #[.int .i64 code, .int .i64 (L.length : Int), .int .i64 sm] (0, 0) _ rfl e1 Try.underlying37 rfl (by kernel_rfl)) rfl ?_
          exact ⟨by rw [HE.out], ⟨_, by rw [HE.out]; exact e2, .inl rfl⟩, e3⟩
    · have t4 : (wh == 4) = false := by simpa using hw4
      by_cases hw2 : wh ≤ 2
      · have t2 : decide (wh ≤ 2) = true := decide_eq_true hw2
        have HE : Aside0 (doL (bs, L) ⟨wh, k1, ot, am⟩ = ((bs', L ++ [⟨⟨wh, k1, ot, am⟩, ⟨code, (L.length : Int) + 1, bv⟩⟩]), ⟨code, (L.length : Int) + 1, bv⟩)) := ⟨by unfold doL ansL; dsimp only; rw [HCH.out, if_pos hw2, if_pos hw2, if_neg hw4, Int.toNat_natCast, HBV.out]⟩
        have HD2 := Aside0.mk (HD1.out.set 1 ((L.length : Int) + 1) rfl)
        clear HD1
        go_wp2_with fail
        obtain ⟨w3, hw3⟩ : ∃ w3, w3 = (((w1_.setCell ⟨g6, 0, none⟩ (.int .i64 code)).setCell ⟨g6, 1, none⟩ (.int .i64 (L.length : Int))).setCell ⟨g6, 2, none⟩ (.int .i64 bv)).setCell ⟨g6, 1, none⟩ (.int .i64 ((L.length : Int) + 1)) := ⟨_, rfl⟩
        rw [← hw3] at HD2 ⊢
        clear hw3 s0 s1 s2 s3 z0 z1 z2 fz0 fz1 fz2 r0 r1 r2 fr0 fr1 fr2 y0 hlr hlz
        have HD := HD2
        have s0 : w3.cell? ⟨w.heap.size, 0, none⟩ = some (.int .i64 wh) := (blk_cell HD.out.op 0).trans rfl
        have s1 : w3.cell? ⟨w.heap.size, 1, none⟩ = some (.int .i64 k1) := (blk_cell HD.out.op 1).trans rfl
        have s2 : w3.cell? ⟨w.heap.size, 2, none⟩ = some (.int .i64 ot) := (blk_cell HD.out.op 2).trans rfl
        have s3 : w3.cell? ⟨w.heap.size, 3, none⟩ = some (.int .i64 am) := (blk_cell HD.out.op 3).trans rfl
        have v0 : w3.cell? ⟨g6, 0, none⟩ = some (.int .i64 code) := (blk_cell HD.out.r 0).trans rfl
        have v1 : w3.cell? ⟨g6, 1, none⟩ = some (.int .i64 ((L.length : Int) + 1)) := (blk_cell HD.out.r 1).trans rfl
        have v2 : w3.cell? ⟨g6, 2, none⟩ = some (.int .i64 bv) := (blk_cell HD.out.r 2).trans rfl
        have b1 : w3.cell? ⟨g, 1, none⟩ = some (.slice Al L.length cl) := (blk_cell HD.out.bk.b0 1).trans rfl
        have fb1 := blk_frozen HD.out.bk.b0 1
        have hglt := blk_lt HD.out.bk.b0
        have hg6l := blk_lt HD.out.r
        have hrl := blk_lt HD.out.res
        have HBS0 : Aside0 (base ≤ w3.heap.size) := ⟨by have := HD.out.mv.size; omega⟩
        have nb0 := Kd.R_ne HD.out.bk.rl HD.out.bk.b0 (by decide)
        have nop := Kd.R_ne HD.out.bk.rl HD.out.op (by decide)
        have nr := Kd.R_ne HD.out.bk.rl HD.out.r (by decide)
        clear s0 s1 s2 s3 v0 v1 v2 b1 fb1
        have s0 : ∀ f W, LogTr w3 base (.slice Al L.length cl) L f W → W.cell? ⟨w.heap.size, 0, none⟩ = some (.int .i64 wh) := fun f W h => (blk_cell (blk_grown HD.out.op h.mv nop) 0).trans rfl
        have s1 : ∀ f W, LogTr w3 base (.slice Al L.length cl) L f W → W.cell? ⟨w.heap.size, 1, none⟩ = some (.int .i64 k1) := fun f W h => (blk_cell (blk_grown HD.out.op h.mv nop) 1).trans rfl
        have s2 : ∀ f W, LogTr w3 base (.slice Al L.length cl) L f W → W.cell? ⟨w.heap.size, 2, none⟩ = some (.int .i64 ot) := fun f W h => (blk_cell (blk_grown HD.out.op h.mv nop) 2).trans rfl
        have s3 : ∀ f W, LogTr w3 base (.slice Al L.length cl) L f W → W.cell? ⟨w.heap.size, 3, none⟩ = some (.int .i64 am) := fun f W h => (blk_cell (blk_grown HD.out.op h.mv nop) 3).trans rfl
        have v0 : ∀ f W, LogTr w3 base (.slice Al L.length cl) L f W → W.cell? ⟨g6, 0, none⟩ = some (.int .i64 code) := fun f W h => (blk_cell (blk_grown HD.out.r h.mv nr) 0).trans rfl
        have v1 : ∀ f W, LogTr w3 base (.slice Al L.length cl) L f W → W.cell? ⟨g6, 1, none⟩ = some (.int .i64 ((L.length : Int) + 1)) := fun f W h => (blk_cell (blk_grown HD.out.r h.mv nr) 1).trans rfl
        have v2 : ∀ f W, LogTr w3 base (.slice Al L.length cl) L f W → W.cell? ⟨g6, 2, none⟩ = some (.int .i64 bv) := fun f W h => (blk_cell (blk_grown HD.out.r h.mv nr) 2).trans rfl
        have b1 : ∀ f W, LogTr w3 base (.slice Al L.length cl) L f W → W.cell? ⟨g, 1, none⟩ = some (.slice Al L.length cl) := fun f W h => (blk_cell (blk_grown HD.out.bk.b0 h.mv nb0) 1).trans rfl
        refine region_moves 14 (fun i => if i = 9 then (fun w1 w2 => Below w1.heap.size w1 w2) else if i = 10 then (fun w1 w2 => w1.grownBy w2 (Value.slice Al L.length cl).ownBlock) else fun w1 w2 => w2 = w1) (LogTr w3 base (.slice Al L.length cl) L) [(56, (fun v _ => v = .pointer (some ⟨g, 0, none⟩))), (57, (fun v _ => v = .pointer (some ⟨g, 0, none⟩))), (58, (fun v _ => v = .pointer (some ⟨g, 0, none⟩))), (59, (fun v _ => v = .pointer (some ⟨g, 0, none⟩))), (60, (fun v _ => v = .pointer (some ⟨g, 1, none⟩))), (61, (fun v _ => v = .slice Al L.length cl)), (62, (fun v _ => v = .agg #[.int .i64 wh, .int .i64 k1, .int .i64 ot, .int .i64 am])), (63, (fun v _ => v = .agg #[.int .i64 code, .int .i64 ((L.length : Int) + 1), .int .i64 bv])), (64, (fun v _ => v = .agg #[.int .i64 wh, .int .i64 k1, .int .i64 ot, .int .i64 am, .int .i64 code, .int .i64 ((L.length : Int) + 1), .int .i64 bv])), (65, (fun v W => ∃ g7, v = .slice (some ⟨g7, 0, none⟩) 1 1 ∧ w3.heap.size ≤ g7 ∧ W.heap[g7]? = some (.cells #[.int .i64 wh, .int .i64 k1, .int .i64 ot, .int .i64 am, .int .i64 code, .int .i64 ((L.length : Int) + 1), .int .i64 bv] 44 (0, 0)))), (66, (fun v W => ∃ Ao co, v = .slice Ao (L.length + 1) co ∧ Kd.R k44 44 W base (fun _ => True) (.slice Ao (L.length + 1) co) (L ++ [⟨⟨wh, k1, ot, am⟩, ⟨code, (L.length : Int) + 1, bv⟩⟩]) ∧ ((Value.slice Ao (L.length + 1) co).ownBlock = (Value.slice Al L.length cl).ownBlock ∨ ∃ b, (Value.slice Ao (L.length + 1) co).ownBlock = some b ∧ w3.heap.size ≤ b))), (67, (fun v _ => v = .pointer (some ⟨g, 0, none⟩))), (68, (fun v _ => v = .pointer (some ⟨g, 0, none⟩))), (69, (fun v _ => v = .pointer (some ⟨g, 1, none⟩)))] (by kernel_rfl) (by kernel_rfl) (by decide) (by kernel_rfl) (by kernel_rfl) (by rfl) (show ([56, 57, 58, 59, 60, 61, 62, 63, 64, 65, 66, 67, 68, 69] : List Nat).Nodup by decide) ?hsz ?hst ?hT0 ?hT ?step ?fin
        case hsz => exact List.forall_mem_cons.2 ⟨(show 56 < 71 by decide), List.forall_mem_cons.2 ⟨(show 57 < 71 by decide), List.forall_mem_cons.2 ⟨(show 58 < 71 by decide), List.forall_mem_cons.2 ⟨(show 59 < 71 by decide), List.forall_mem_cons.2 ⟨(show 60 < 71 by decide), List.forall_mem_cons.2 ⟨(show 61 < 71 by decide), List.forall_mem_cons.2 ⟨(show 62 < 71 by decide), List.forall_mem_cons.2 ⟨(show 63 < 71 by decide), List.forall_mem_cons.2 ⟨(show 64 < 71 by decide), List.forall_mem_cons.2 ⟨(show 65 < 71 by decide), List.forall_mem_cons.2 ⟨(show 66 < 71 by decide), List.forall_mem_cons.2 ⟨(show 67 < 71 by decide), List.forall_mem_cons.2 ⟨(show 68 < 71 by decide), List.forall_mem_cons.2 ⟨(show 69 < 71 by decide), fun _ h => nomatch h⟩⟩⟩⟩⟩⟩⟩⟩⟩⟩⟩⟩⟩⟩
        case hT0 => exact fun f _ => ⟨grown_drew (World.grownBy.refl _ _), fun _ => Kd.R_drew HD.out.bk.rl⟩
        case hT =>
          intro f i_ w1 w2 hfi ht hr
          try dsimp only at hr
          by_cases hi65 : i_ = 9
          · subst hi65; simp only [if_true, reduceIte, Nat.reduceEqDiff] at hr; exact ht.made _ hr
          by_cases hi66 : i_ = 10
          · subst hi66; simp only [if_true, reduceIte, Nat.reduceEqDiff] at hr; exact ht.grew hr
          simp only [if_neg hi65, if_neg hi66] at hr
          subst hr
          exact ht.up _
        case hst =>
          intro i_ j_ q_ hq hij hin
          by_cases hi65 : i_ = 9
          · subst hi65; simp only [if_true, reduceIte, Nat.reduceEqDiff]
            match j_, hq with
            | 0, hq => exact .inr (by obtain rfl := Option.some.inj hq; exact fun f v w1 w2 ht hr h => h)
            | 1, hq => exact .inr (by obtain rfl := Option.some.inj hq; exact fun f v w1 w2 ht hr h => h)
            | 2, hq => exact .inr (by obtain rfl := Option.some.inj hq; exact fun f v w1 w2 ht hr h => h)
            | 3, hq => exact .inr (by obtain rfl := Option.some.inj hq; exact fun f v w1 w2 ht hr h => h)
            | 4, hq => exact .inr (by obtain rfl := Option.some.inj hq; exact fun f v w1 w2 ht hr h => h)
            | 5, hq => exact .inr (by obtain rfl := Option.some.inj hq; exact fun f v w1 w2 ht hr h => h)
            | 6, hq => exact .inr (by obtain rfl := Option.some.inj hq; exact fun f v w1 w2 ht hr h => h)
            | 7, hq => exact .inr (by obtain rfl := Option.some.inj hq; exact fun f v w1 w2 ht hr h => h)
            | 8, hq => exact .inr (by obtain rfl := Option.some.inj hq; exact fun f v w1 w2 ht hr h => h)
            | 9, hq => exact absurd rfl hij
            | 10, hq => exact .inl (by kernel_rfl)
            | 11, hq => exact .inl (by kernel_rfl)
            | 12, hq => exact .inl (by kernel_rfl)
            | 13, hq => exact .inl (by kernel_rfl)
            | n_ + 14, hq => simp at hq
          by_cases hi66 : i_ = 10
          · subst hi66; simp only [if_true, reduceIte, Nat.reduceEqDiff]
            match j_, hq with
            | 0, hq => exact .inr (by obtain rfl := Option.some.inj hq; exact fun f v w1 w2 ht hr h => h)
            | 1, hq => exact .inr (by obtain rfl := Option.some.inj hq; exact fun f v w1 w2 ht hr h => h)
            | 2, hq => exact .inr (by obtain rfl := Option.some.inj hq; exact fun f v w1 w2 ht hr h => h)
            | 3, hq => exact .inr (by obtain rfl := Option.some.inj hq; exact fun f v w1 w2 ht hr h => h)
            | 4, hq => exact .inr (by obtain rfl := Option.some.inj hq; exact fun f v w1 w2 ht hr h => h)
            | 5, hq => exact .inr (by obtain rfl := Option.some.inj hq; exact fun f v w1 w2 ht hr h => h)
            | 6, hq => exact .inr (by obtain rfl := Option.some.inj hq; exact fun f v w1 w2 ht hr h => h)
            | 7, hq => exact .inr (by obtain rfl := Option.some.inj hq; exact fun f v w1 w2 ht hr h => h)
            | 8, hq => exact .inr (by obtain rfl := Option.some.inj hq; exact fun f v w1 w2 ht hr h => h)
            | 9, hq => exact .inr (by obtain rfl := Option.some.inj hq; exact fun f v w1 w2 ht hr h => h.imp fun g7 h => ⟨h.1, h.2.1, blk_grown h.2.2 hr (fun he => by have := Kd.R_lt HD.out.bk.rl g7 he.symm; omega)⟩)
            | 10, hq => exact absurd rfl hij
            | 11, hq => exact .inl (by kernel_rfl)
            | 12, hq => exact .inl (by kernel_rfl)
            | 13, hq => exact .inl (by kernel_rfl)
            | n_ + 14, hq => simp at hq
          simp only [if_neg hi65, if_neg hi66]
          exact .inr fun f v w1 w2 _ hr h => hr ▸ h
        case step =>
          intro i_ o_ e_ ho he f a w1_ hfi hs hdf hfr htr hpre
          try dsimp only
          match i_, ho, he, hfi with
          | 0, ho, he, hfi => obtain rfl : o_ = ⟨_, _, _, _, _, _⟩ := (Option.some.inj ho).symm; obtain rfl := Option.some.inj he; clear he; have f0 : a.tmps.getD 0 undef = .pointer (some ⟨g, 0, none⟩) := (by rw [Array.getD_eq_getD_getElem?, hfr 0 (show ¬ 0 ∈ ([56, 57, 58, 59, 60, 61, 62, 63, 64, 65, 66, 67, 68, 69] : List Nat) by decide)]; rfl); clear hpre hfr; refine wpOp_value (v := .pointer (some ⟨g, 0, none⟩)) ho rfl ?_ ⟨_, rfl, rfl, rfl⟩; simp only [execOp, Act.eval, List.map_toArray, List.map_cons, List.map_nil, f0]; first | rfl | (go_simp; done) | (go_simp; rfl) | (go_simp; intro h_; exfalso; omega)
          | 1, ho, he, hfi => obtain rfl : o_ = ⟨_, _, _, _, _, _⟩ := (Option.some.inj ho).symm; obtain rfl := Option.some.inj he; clear he; have f0 : a.tmps.getD 0 undef = .pointer (some ⟨g, 0, none⟩) := (by rw [Array.getD_eq_getD_getElem?, hfr 0 (show ¬ 0 ∈ ([56, 57, 58, 59, 60, 61, 62, 63, 64, 65, 66, 67, 68, 69] : List Nat) by decide)]; rfl); clear hpre hfr; refine wpOp_value (v := .pointer (some ⟨g, 0, none⟩)) ho rfl ?_ ⟨_, rfl, rfl, rfl⟩; simp only [execOp, Act.eval, List.map_toArray, List.map_cons, List.map_nil, f0]; first | rfl | (go_simp; done) | (go_simp; rfl) | (go_simp; intro h_; exfalso; omega)
          | 2, ho, he, hfi => obtain rfl : o_ = ⟨_, _, _, _, _, _⟩ := (Option.some.inj ho).symm; obtain rfl := Option.some.inj he; clear he; have e57 : a.tmps.getD 57 undef = .pointer (some ⟨g, 0, none⟩) := hpre ⟨1, .data⟩ (by simp) rfl _ rfl; clear hpre hfr; refine wpOp_value (v := .pointer (some ⟨g, 0, none⟩)) ho rfl ?_ ⟨_, rfl, rfl, rfl⟩; simp only [execOp, Act.eval, List.map_toArray, List.map_cons, List.map_nil, e57]; first | rfl | (go_simp; done) | (go_simp; rfl) | (go_simp; intro h_; exfalso; omega)
          | 3, ho, he, hfi => obtain rfl : o_ = ⟨_, _, _, _, _, _⟩ := (Option.some.inj ho).symm; obtain rfl := Option.some.inj he; clear he; have e58 : a.tmps.getD 58 undef = .pointer (some ⟨g, 0, none⟩) := hpre ⟨2, .data⟩ (by simp) rfl _ rfl; clear hpre hfr; refine wpOp_value (v := .pointer (some ⟨g, 0, none⟩)) ho rfl ?_ ⟨_, rfl, rfl, rfl⟩; simp only [execOp, Act.eval, List.map_toArray, List.map_cons, List.map_nil, e58]; first | rfl | (go_simp; done) | (go_simp; rfl) | (go_simp; intro h_; exfalso; omega)
          | 4, ho, he, hfi => obtain rfl : o_ = ⟨_, _, _, _, _, _⟩ := (Option.some.inj ho).symm; obtain rfl := Option.some.inj he; clear he; have e59 : a.tmps.getD 59 undef = .pointer (some ⟨g, 0, none⟩) := hpre ⟨3, .data⟩ (by simp) rfl _ rfl; clear hpre hfr; refine wpOp_value (v := .pointer (some ⟨g, 1, none⟩)) ho rfl ?_ ⟨_, rfl, rfl, rfl⟩; simp only [execOp, Act.eval, List.map_toArray, List.map_cons, List.map_nil, e59]; first | rfl | (go_simp; done) | (go_simp; rfl) | (go_simp; intro h_; exfalso; omega)
          | 5, ho, he, hfi => obtain rfl : o_ = ⟨_, _, _, _, _, _⟩ := (Option.some.inj ho).symm; obtain rfl := Option.some.inj he; clear he; have e60 : a.tmps.getD 60 undef = .pointer (some ⟨g, 1, none⟩) := hpre ⟨4, .data⟩ (by simp) rfl _ rfl; clear hpre hfr; have k_b1 := b1 _ _ htr; refine wpOp_value (v := .slice Al L.length cl) ho rfl ?_ ⟨_, rfl, rfl, rfl⟩; simp only [execOp, Act.eval, List.map_toArray, List.map_cons, List.map_nil, e60]; first | rfl | (go_simp; done) | (go_simp; rfl) | (go_simp; intro h_; exfalso; omega)
          | 6, ho, he, hfi => obtain rfl : o_ = ⟨_, _, _, _, _, _⟩ := (Option.some.inj ho).symm; obtain rfl := Option.some.inj he; clear he; have f3 : a.tmps.getD 3 undef = .pointer (some ⟨w.heap.size, 0, none⟩) := (by rw [Array.getD_eq_getD_getElem?, hfr 3 (show ¬ 3 ∈ ([56, 57, 58, 59, 60, 61, 62, 63, 64, 65, 66, 67, 68, 69] : List Nat) by decide)]; rfl); clear hpre hfr; have k_s0 := s0 _ _ htr; have k_s1 := s1 _ _ htr; have k_s2 := s2 _ _ htr; have k_s3 := s3 _ _ htr; refine wpOp_value (v := .agg #[.int .i64 wh, .int .i64 k1, .int .i64 ot, .int .i64 am]) ho rfl ?_ ⟨_, rfl, rfl, rfl⟩; simp only [execOp, Act.eval, List.map_toArray, List.map_cons, List.map_nil, f3]; first | rfl | (go_simp; done) | (go_simp; rfl) | (go_simp; intro h_; exfalso; omega)
          | 7, ho, he, hfi => obtain rfl : o_ = ⟨_, _, _, _, _, _⟩ := (Option.some.inj ho).symm; obtain rfl := Option.some.inj he; clear he; have f6 : a.tmps.getD 6 undef = .pointer (some ⟨g6, 0, none⟩) := (by rw [Array.getD_eq_getD_getElem?, hfr 6 (show ¬ 6 ∈ ([56, 57, 58, 59, 60, 61, 62, 63, 64, 65, 66, 67, 68, 69] : List Nat) by decide)]; rfl); clear hpre hfr; have k_v0 := v0 _ _ htr; have k_v1 := v1 _ _ htr; have k_v2 := v2 _ _ htr; refine wpOp_value (v := .agg #[.int .i64 code, .int .i64 ((L.length : Int) + 1), .int .i64 bv]) ho rfl ?_ ⟨_, rfl, rfl, rfl⟩; simp only [execOp, Act.eval, List.map_toArray, List.map_cons, List.map_nil, f6]; first | rfl | (go_simp; done) | (go_simp; rfl) | (go_simp; intro h_; exfalso; omega)
          | 8, ho, he, hfi => obtain rfl : o_ = ⟨_, _, _, _, _, _⟩ := (Option.some.inj ho).symm; obtain rfl := Option.some.inj he; clear he; have e62 : a.tmps.getD 62 undef = .agg #[.int .i64 wh, .int .i64 k1, .int .i64 ot, .int .i64 am] := hpre ⟨6, .data⟩ (by simp) rfl _ rfl; have e63 : a.tmps.getD 63 undef = .agg #[.int .i64 code, .int .i64 ((L.length : Int) + 1), .int .i64 bv] := hpre ⟨7, .data⟩ (by simp) rfl _ rfl; clear hpre hfr; refine wpOp_value (v := .agg #[.int .i64 wh, .int .i64 k1, .int .i64 ot, .int .i64 am, .int .i64 code, .int .i64 ((L.length : Int) + 1), .int .i64 bv]) ho rfl ?_ ⟨_, rfl, rfl, rfl⟩; simp only [execOp, Act.eval, List.map_toArray, List.map_cons, List.map_nil, e62, e63]; first | rfl | (go_simp; done) | (go_simp; rfl) | (go_simp; intro h_; exfalso; omega)
          | 9, ho, he, hfi => obtain rfl : o_ = ⟨_, _, _, _, _, _⟩ := (Option.some.inj ho).symm; obtain rfl := Option.some.inj he; clear he; have e64 : a.tmps.getD 64 undef = .agg #[.int .i64 wh, .int .i64 k1, .int .i64 ot, .int .i64 am, .int .i64 code, .int .i64 ((L.length : Int) + 1), .int .i64 bv] := hpre ⟨8, .data⟩ (by simp) rfl _ rfl; clear hpre hfr; refine wpOp_value (w1 := w1_.alloc (.cells #[.int .i64 wh, .int .i64 k1, .int .i64 ot, .int .i64 am, .int .i64 code, .int .i64 ((L.length : Int) + 1), .int .i64 bv] 44)) (v := .slice (some ⟨w1_.heap.size, 0, none⟩) 1 1) ho rfl ?_ ⟨_, rfl, ⟨_, rfl, htr.mv.size, heap_new1 _ _⟩, below_alloc (Below.refl _ _) _⟩; simp only [execOp, Act.eval, List.map_toArray, List.map_cons, List.map_nil, e64]; first | rfl | (go_simp; done) | (go_simp; rfl)
          | 10, ho, he, hfi =>
            obtain rfl : o_ = ⟨_, _, _, _, _, _⟩ := (Option.some.inj ho).symm
            obtain rfl := Option.some.inj he; clear he
            have e61 : a.tmps.getD 61 undef = .slice Al L.length cl := hpre ⟨5, .data⟩ (by simp) rfl _ rfl
            have e65 := hpre ⟨9, .data⟩ (by simp) rfl _ rfl; dsimp only at e65
            clear hpre hfr
            obtain ⟨g7, e65, hg7, hr7⟩ := e65
            show wpOp _ _ _ _ (fun a' w2 => ∃ v, a' = a.put (some 66) v ∧ (∃ Ao co, v = .slice Ao (L.length + 1) co ∧ Kd.R k44 44 w2 base (fun _ => True) (.slice Ao (L.length + 1) co) (L ++ [⟨⟨wh, k1, ot, am⟩, ⟨code, (L.length : Int) + 1, bv⟩⟩]) ∧ ((Value.slice Ao (L.length + 1) co).ownBlock = (Value.slice Al L.length cl).ownBlock ∨ ∃ b, (Value.slice Ao (L.length + 1) co).ownBlock = some b ∧ w3.heap.size ≤ b)) ∧ w1_.grownBy w2 (Value.slice Al L.length cl).ownBlock) _ _
            refine wpOp_step ho fun K' hK => ?_
            refine Kd.R_append_rows_step k44 (w0 := w1_) (W := w1_) base rfl (.tmp 61) (.tmp 65) 23 44 (.agg #[.int .i64 0, .int .i64 0, .int .i64 0, .int .i64 0, .int .i64 0, .int .i64 0, .int .i64 0]) 56 rfl Try.underlying23 info44 rfl (by decide) (by omega) (.slice Al L.length cl) L [⟨⟨wh, k1, ot, am⟩, ⟨code, (L.length : Int) + 1, bv⟩⟩] (some ⟨g7, 0, none⟩) 1 1 (fun _ => True) (fun _ => False) e61 e65 (htr.rl hfi) (C_one hr7 (k44_mk _ ⟨⟨wh, k1, ot, am⟩, ⟨code, (L.length : Int) + 1, bv⟩⟩)) (fun _ _ h => h) (fun _ h => h.elim) (fun _ _ => trivial) (Below.refl _ _) ?hbs ?hl ?_
            case hbs => have := HBS0.out; have := htr.mv.size; omega
            case hl => have := HL.out; omega
            intro v4 w4 ho4 hb4 hg4 hat4
            obtain ⟨Ao, co, rfl⟩ := Kd.R_slice ho4
            simp only [List.length_append, List.length_cons, List.length_nil] at ho4 hat4 ⊢
            exact hK _ _ ⟨_, rfl, ⟨Ao, co, by simp, ho4, hat4.imp id (fun ⟨b, e1, e2⟩ => ⟨b, e1, Nat.le_trans htr.mv.size e2⟩)⟩, hg4⟩
          | 11, ho, he, hfi => obtain rfl : o_ = ⟨_, _, _, _, _, _⟩ := (Option.some.inj ho).symm; obtain rfl := Option.some.inj he; clear he; have e56 : a.tmps.getD 56 undef = .pointer (some ⟨g, 0, none⟩) := hpre ⟨0, .data⟩ (by simp) rfl _ rfl; clear hpre hfr; refine wpOp_value (v := .pointer (some ⟨g, 0, none⟩)) ho rfl ?_ ⟨_, rfl, rfl, rfl⟩; simp only [execOp, Act.eval, List.map_toArray, List.map_cons, List.map_nil, e56]; first | rfl | (go_simp; done) | (go_simp; rfl) | (go_simp; intro h_; exfalso; omega)
          | 12, ho, he, hfi => obtain rfl : o_ = ⟨_, _, _, _, _, _⟩ := (Option.some.inj ho).symm; obtain rfl := Option.some.inj he; clear he; have e67 : a.tmps.getD 67 undef = .pointer (some ⟨g, 0, none⟩) := hpre ⟨11, .data⟩ (by simp) rfl _ rfl; clear hpre hfr; refine wpOp_value (v := .pointer (some ⟨g, 0, none⟩)) ho rfl ?_ ⟨_, rfl, rfl, rfl⟩; simp only [execOp, Act.eval, List.map_toArray, List.map_cons, List.map_nil, e67]; first | rfl | (go_simp; done) | (go_simp; rfl) | (go_simp; intro h_; exfalso; omega)
          | 13, ho, he, hfi => obtain rfl : o_ = ⟨_, _, _, _, _, _⟩ := (Option.some.inj ho).symm; obtain rfl := Option.some.inj he; clear he; have e68 : a.tmps.getD 68 undef = .pointer (some ⟨g, 0, none⟩) := hpre ⟨12, .data⟩ (by simp) rfl _ rfl; clear hpre hfr; refine wpOp_value (v := .pointer (some ⟨g, 1, none⟩)) ho rfl ?_ ⟨_, rfl, rfl, rfl⟩; simp only [execOp, Act.eval, List.map_toArray, List.map_cons, List.map_nil, e68]; first | rfl | (go_simp; done) | (go_simp; rfl) | (go_simp; intro h_; exfalso; omega)
          | n_ + 14, ho, he, hfi => simp at he
        case fin =>
          intro xv_ f_ w1_ htr hx
          simp only [List.forall_mem_cons] at hx
          obtain ⟨x56, x57, x58, x59, x60, x61, x62, x63, x64, ⟨g7, x65, hg7, hr7⟩, ⟨Ao, co, x66, ho4, hat4⟩, x67, x68, x69, _⟩ := hx
          simp only [List.map_cons, List.map_nil, putL, Act.put, List.setIfInBounds_toArray, List.set_cons_zero, List.set_cons_succ, x56, x57, x58, x59, x60, x61, x62, x63, x64, x65, x66, x67, x68, x69]
          simp only [List.drop_succ_cons, List.drop_zero]
          clear x56 x57 x58 x59 x60 x61 x62 x63 x64 x65 x66 x67 x68 x69
          have HG := Aside0.mk (HD.out.grown (Below.refl _ _) htr.mv (fun k hk => .inr (.inr hk.symm)))
          have HF := Aside0.mk (HG.out.put ho4 (.inl rfl) hg6')
          have HAT : Aside0 ((Value.slice Ao (L.length + 1) co).ownBlock = (Value.slice Al L.length cl).ownBlock ∨ ∃ b, (Value.slice Ao (L.length + 1) co).ownBlock = some b ∧ w.heap.size ≤ b) := ⟨hat4.imp id (fun ⟨b, e1, e2⟩ => ⟨b, e1, by have := HD.out.mv.size; omega⟩)⟩
          clear s0 s1 s2 s3 v0 v1 v2 b1 ho4 hat4 htr hr7 nb0 nop nr
          have b1 : w1_.cell? ⟨g, 1, none⟩ = some (.slice Al L.length cl) := (blk_cell HG.out.b0 1).trans rfl
          have fb1 := blk_frozen HG.out.b0 1
          have v0 : w1_.cell? ⟨g6, 0, none⟩ = some (.int .i64 code) := (blk_cell HG.out.r 0).trans rfl
          have v1 : w1_.cell? ⟨g6, 1, none⟩ = some (.int .i64 ((L.length : Int) + 1)) := (blk_cell HG.out.r 1).trans rfl
          have v2 : w1_.cell? ⟨g6, 2, none⟩ = some (.int .i64 bv) := (blk_cell HG.out.r 2).trans rfl
          have z0 : w1_.cell? ⟨w.heap.size + 1, 0, none⟩ = some (.int .i64 0) := (blk_cell HG.out.res 0).trans rfl
          have z1 : w1_.cell? ⟨w.heap.size + 1, 1, none⟩ = some (.int .i64 0) := (blk_cell HG.out.res 1).trans rfl
          have z2 : w1_.cell? ⟨w.heap.size + 1, 2, none⟩ = some (.int .i64 0) := (blk_cell HG.out.res 2).trans rfl
          have fz0 := blk_frozen HG.out.res 0
          have fz1 := blk_frozen HG.out.res 1
          have fz2 := blk_frozen HG.out.res 2
          have hl1 := blk_lt HG.out.b0
          have hl2 := blk_lt HG.out.r
          have hl3 := blk_lt HG.out.res
          have ne7 := blk_ne HG.out.b0 HG.out.res (by decide)
          have ne8 := Ne.symm ne7
          go_wp2
          obtain ⟨e1, e2, e3⟩ := HF.out.done code ((L.length : Int) + 1) bv
          refine bodyPost_ret (results_cell_row rfl _ _ (w.heap.size + 1) 37 #[.int .i64 code, .int .i64 ((L.length : Int) + 1), .int .i64 bv] (0, 0) _ rfl e1 Try.underlying37 rfl (by kernel_rfl)) rfl ?_
          exact ⟨by rw [HE.out], ⟨_, by rw [HE.out]; exact e2, HAT.out⟩, e3⟩
      · have t2 : decide (wh ≤ 2) = false := decide_eq_false hw2
        have HE : Aside0 (doL (bs, L) ⟨wh, k1, ot, am⟩ = ((bs', L), ⟨code, (L.length : Int), bv⟩)) := ⟨by unfold doL ansL; dsimp only; rw [HCH.out, if_neg hw2, if_neg hw2, if_neg hw4, Int.toNat_natCast, HBV.out]⟩
        go_wp2
        obtain ⟨e1, e2, e3⟩ := HD1.out.done code (L.length : Int) bv
        refine bodyPost_ret (results_cell_row rfl _ _ (w.heap.size + 1) 37 #[.int .i64 code, .int .i64 (L.length : Int), .int .i64 bv] (0, 0) _ rfl e1 Try.underlying37 rfl (by kernel_rfl)) rfl ?_
        exact ⟨by rw [HE.out], ⟨_, by rw [HE.out]; exact e2, .inl rfl⟩, e3⟩
end Go.Proofs.Ytbegdgdghiigpaa.G
end
