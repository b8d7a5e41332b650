/- MessageTellsUpto: texts of this claim, packed: what the kit's print has written for it and own texts, without what its proof does not reach. -/
import Derived.Test.YtkddlhcpplkpbaaKMessageTellsUpto7
import Derived.WalkKit
set_option linter.unusedVariables false
set_option linter.unusedSimpArgs false
set_option linter.unusedSectionVars false
section
namespace WB
open Go Go.RowKit Go.Proofs.YtkddlhcpplkpbaaW.PrintWords
section
variable {P : Program} {ops : Array Oper} {Q : Exit → Act → World → Prop}
theorem wl_val {o : Oper} {rest : List Oper} {a : Act} {w w1 : World} {v : Value} (hw : Region.wanted o (yielded ops a.tmps) = true) (hr : (execOp a.eval o).run P w = .ok (.value v) w1) (h : wpList P ops Q rest (a.put o.dst v) w1) : wpList P ops Q (o :: rest) a w := by
 unfold wpList
 rw [if_pos hw]
 left
 unfold Oper.wp
 rw [hr]
 exact h
theorem wl_off {o : Oper} {rest : List Oper} {a : Act} {w : World} (hw : Region.wanted o (yielded ops a.tmps) = false) (h : wpList P ops Q rest (a.put o.dst undef) w) : wpList P ops Q (o :: rest) a w := by
 unfold wpList
 rw [if_neg (by rw [hw]; decide)]
 exact h
theorem wanted_none {o : Oper} {y : Nat → Option Bool} (h : o.guard = none) : Region.wanted o y = true := by
 unfold Region.wanted
 rw [h]
theorem put_same {a : Act} {s : Nat} {v : Value} (h : s < a.tmps.size) : (a.put (some s) v).tmps.getD s undef = v := by
 simp [Act.put, Array.getD_eq_getD_getElem?, h]
theorem put_ne {a : Act} {s t : Nat} {v : Value} (h : t ≠ s) : (a.put (some s) v).tmps.getD t undef = a.tmps.getD t undef := by
 simp [Act.put, Array.getD_eq_getD_getElem?, Array.getElem?_setIfInBounds_ne (Ne.symm h)]
theorem put_size {a : Act} {s : Option Tmp} {v : Value} : (a.put s v).tmps.size = a.tmps.size := by
 cases s <;> simp [Act.put]
theorem put_defers {a : Act} {s : Option Tmp} {v : Value} : (a.put s v).defers = a.defers := by
 cases s <;> rfl
/-- What stays of an act: its size, its defers, the slots apart from these. -/
structure Kept (S : List Nat) (a a' : Act) : Prop where
 size : a'.tmps.size = a.tmps.size
 defers : a'.defers = a.defers
 slot : ∀ t, t ∉ S → a'.tmps.getD t undef = a.tmps.getD t undef
theorem Kept.refl (S : List Nat) (a : Act) : Kept S a a := ⟨rfl, rfl, fun _ _ => rfl⟩
theorem Kept.put {S : List Nat} {a a' : Act} (h : Kept S a a') {s : Nat} (hs : s ∈ S) (v : Value) : Kept S a (a'.put (some s) v) :=
 ⟨put_size.trans h.size, put_defers.trans h.defers, fun t ht => (put_ne (fun e => ht (by rw [e]; exact hs))).trans (h.slot t ht)⟩
theorem Kept.trans {s : Nat} {S : List Nat} {a b c : Act} (h : Kept (s :: S) a b) (k : Kept S b c) : Kept (s :: S) a c :=
 ⟨k.size.trans h.size, k.defers.trans h.defers, fun t ht => (k.slot t (fun hm => ht (List.mem_cons_of_mem _ hm))).trans (h.slot t ht)⟩
/-- ONE FIELD MORE. -/
theorem grp {k : IntKind} {rest : List Oper} {a : Act} {w : World} {o0 o1 o2 o3 o4 o5 o6 : Oper} {T t n p q sp s0 s1 s2 s3 s4 s5 s6 j1 j2 i1 i2 g1 g2 : Nat} {y : TypeId} (c : Bool) (u v : Int)
  (e0 : o0.dst = some s0 ∧ o0.op = .move (.tmp sp) ∧ o0.guard = none)
  (e1 : o1.dst = some s1 ∧ o1.op = .fieldAddr T (.tmp p) j1 ∧ o1.guard = some (n, true))
  (e2 : o2.dst = some s2 ∧ o2.op = .load t (.tmp s1) ∧ o2.guard = some (n, true))
  (e3 : o3.dst = some s3 ∧ o3.op = .fieldAddr T (.tmp q) j2 ∧ o3.guard = some (n, true))
  (e4 : o4.dst = some s4 ∧ o4.op = .load t (.tmp s3) ∧ o4.guard = some (n, true))
  (e5 : o5.dst = some s5 ∧ o5.op = .binOp .eql t (.tmp s2) (.tmp s4) y ∧ o5.guard = some (n, true))
  (e6 : o6.dst = some s6 ∧ o6.op = .pick (.tmp s0) (.tmp s5) (.const (.bool false)) ∧ o6.guard = none)
  (hu : P.underlying t = some (.int k))
  (hn : (ops[n]?).bind (·.dst) = some s0)
  (hd : (decide (sp < a.tmps.size) && [s0, s1, s2, s3, s4, s5, s6].all (fun s => decide (s < a.tmps.size)) && decide ([sp, p, q, s0, s1, s2, s3, s4, s5, s6].Nodup)) = true)
  (hp : a.tmps.getD p undef = .pointer (some ⟨g1, 0, none⟩)) (hq : a.tmps.getD q undef = .pointer (some ⟨g2, 0, none⟩)) (hc : a.tmps.getD sp undef = .bool c)
  (r1 : ∀ W, (Instr.fieldAt T (.pointer (some ⟨g1, 0, none⟩)) j1).run P W = .ok (.pointer (some ⟨g1, i1, none⟩)) W)
  (r3 : ∀ W, (Instr.fieldAt T (.pointer (some ⟨g2, 0, none⟩)) j2).run P W = .ok (.pointer (some ⟨g2, i2, none⟩)) W)
  (c1 : w.cell? ⟨g1, i1, none⟩ = some (.int k u)) (c2 : w.cell? ⟨g2, i2, none⟩ = some (.int k v))
  (h : ∀ a', Kept [s0, s1, s2, s3, s4, s5, s6] a a' → a'.tmps.getD s6 undef = .bool (c && (u == v)) → wpList P ops Q rest a' w) :
  wpList P ops Q (o0 :: o1 :: o2 :: o3 :: o4 :: o5 :: o6 :: rest) a w := by
 have hagg : (isAgg t).run P w = .ok false w := by
  unfold isAgg
  rw [Sem.run_bind, run_underlying hu w]
  rfl
 have l1 : (Instr.loadAt t (.pointer (some ⟨g1, i1, none⟩))).run P w = .ok (.int k u) w := by
  simp [Instr.loadAt, Instr.sureAddr, loadVar, Sem.run_bind, hagg, c1, go_sem]
 have l2 : (Instr.loadAt t (.pointer (some ⟨g2, i2, none⟩))).run P w = .ok (.int k v) w := by
  simp [Instr.loadAt, Instr.sureAddr, loadVar, Sem.run_bind, hagg, c2, go_sem]
 simp only [List.all_cons, List.all_nil, Bool.and_true, Bool.and_eq_true, decide_eq_true_eq, List.nodup_cons, List.mem_cons, List.not_mem_nil, or_false, not_or, List.nodup_nil, and_true] at hd
 obtain ⟨⟨hsp, z0, z1, z2, z3, z4, z5, z6⟩, ⟨d1, d2, d3, d4, d5, d6, d7, d8, d9⟩, ⟨d11, d12, d13, d14, d15, d16, d17, d18⟩, ⟨d21, d22, d23, d24, d25, d26, d27⟩, ⟨d31, d32, d33, d34, d35, d36⟩, ⟨d41, d42, d43, d44, d45⟩, ⟨d51, d52, d53, d54⟩, ⟨d61, d62, d63⟩, ⟨d71, d72⟩, d81, _⟩ := hd
 refine wl_val (v := .bool c) (w1 := w) (wanted_none e0.2.2) (by unfold execOp; rw [e0.2.1]; simp [Act.eval, hc]) ?_
 rw [e0.1]
 generalize hA0 : a.put (some s0) (.bool c) = A0
 have k0 : Kept [s0, s1, s2, s3, s4, s5, s6] a A0 := by rw [← hA0]; exact (Kept.refl _ a).put (by simp) _
 have x0 : A0.tmps.getD s0 undef = .bool c := by rw [← hA0]; exact put_same z0
 have hin : ∀ z, z ≠ s0 → z ≠ s1 → z ≠ s2 → z ≠ s3 → z ≠ s4 → z ≠ s5 → z ≠ s6 → z ∉ [s0, s1, s2, s3, s4, s5, s6] := by
  intro z h0 h1 h2 h3 h4 h5 h6 hm
  simp only [List.mem_cons, List.not_mem_nil, or_false] at hm
  exact hm.elim h0 fun hm => hm.elim h1 fun hm => hm.elim h2 fun hm => hm.elim h3 fun hm => hm.elim h4 fun hm => hm.elim h5 h6
 have hp' := hin p d12 d13 d14 d15 d16 d17 d18
 have hq' := hin q d21 d22 d23 d24 d25 d26 d27
 have hs0 : s0 ∉ [s1, s2, s3, s4, s5, s6] := by
  intro hm
  simp only [List.mem_cons, List.not_mem_nil, or_false] at hm
  exact hm.elim d31 fun hm => hm.elim d32 fun hm => hm.elim d33 fun hm => hm.elim d34 fun hm => hm.elim d35 d36
 have k00 : Kept [s1, s2, s3, s4, s5, s6] A0 A0 := Kept.refl _ _
 clear hA0
 cases c with
 | false =>
  have off : ∀ (o : Oper) (r : List Oper) (A : Act) (s : Nat), o.dst = some s → o.guard = some (n, true) → s ∈ [s1, s2, s3, s4, s5, s6] → Kept [s1, s2, s3, s4, s5, s6] A0 A → (∀ A', A' = A.put (some s) undef → Kept [s1, s2, s3, s4, s5, s6] A0 A' → wpList P ops Q r A' w) → wpList P ops Q (o :: r) A w := by
   intro o r A s h1 h2 h3 h4 h5
   refine wl_off (unwanted_of h2 hn ((h4.slot s0 hs0).trans x0) (by simp)) ?_
   rw [h1]
   exact h5 _ rfl (h4.put h3 _)
  refine off o1 _ A0 s1 e1.1 e1.2.2 (by simp) k00 fun A1 q1 k1 => ?_
  refine off o2 _ A1 s2 e2.1 e2.2.2 (by simp) k1 fun A2 q2 k2 => ?_
  refine off o3 _ A2 s3 e3.1 e3.2.2 (by simp) k2 fun A3 q3 k3 => ?_
  refine off o4 _ A3 s4 e4.1 e4.2.2 (by simp) k3 fun A4 q4 k4 => ?_
  refine off o5 _ A4 s5 e5.1 e5.2.2 (by simp) k4 fun A5 q5 k5 => ?_
  have x0' : A5.tmps.getD s0 undef = .bool false := by
   rw [q5, put_ne d35, q4, put_ne d34, q3, put_ne d33, q2, put_ne d32, q1, put_ne d31]
   exact x0
  refine wl_val (v := .bool false) (w1 := w) (wanted_none e6.2.2) (by unfold execOp; rw [e6.2.1]; simp [Act.eval, asBool, ← Array.getD_eq_getD_getElem?, x0']) ?_
  rw [e6.1]
  exact h _ (k0.trans (k5.put (by simp) _)) (by rw [put_same (by rw [k5.size, k0.size]; exact z6)]; rfl)
 | true =>
  have on : ∀ (o : Oper) (r : List Oper) (A : Act) (s : Nat) (b : Value), o.dst = some s → o.guard = some (n, true) → s ∈ [s1, s2, s3, s4, s5, s6] → Kept [s1, s2, s3, s4, s5, s6] A0 A → (execOp A.eval o).run P w = .ok (.value b) w → (∀ A', A' = A.put (some s) b → Kept [s1, s2, s3, s4, s5, s6] A0 A' → wpList P ops Q r A' w) → wpList P ops Q (o :: r) A w := by
   intro o r A s b h1 h2 h3 h4 h6 h5
   refine wl_val (wanted_of h2 hn (by rw [h4.size, k0.size]; exact z0) ((h4.slot s0 hs0).trans x0)) h6 ?_
   rw [h1]
   exact h5 _ rfl (h4.put h3 _)
  refine on o1 _ A0 s1 (.pointer (some ⟨g1, i1, none⟩)) e1.1 e1.2.2 (by simp) k00 (by have hh := (k0.slot p hp').trans hp; unfold execOp; rw [e1.2.1]; simp only [Act.eval, hh, Sem.run_bind, r1]; rfl) fun A1 q1 k1 => ?_
  have y1 : A1.tmps.getD s1 undef = .pointer (some ⟨g1, i1, none⟩) := by rw [q1]; exact put_same (by rw [k0.size]; exact z1)
  refine on o2 _ A1 s2 (.int k u) e2.1 e2.2.2 (by simp) k1 (by unfold execOp; rw [e2.2.1]; simp only [Act.eval, y1, Sem.run_bind, l1]; rfl) fun A2 q2 k2 => ?_
  have y2 : A2.tmps.getD s2 undef = .int k u := by rw [q2]; exact put_same (by rw [k1.size, k0.size]; exact z2)
  refine on o3 _ A2 s3 (.pointer (some ⟨g2, i2, none⟩)) e3.1 e3.2.2 (by simp) k2 (by have hh := (k2.slot q (fun hm => hq' (List.mem_cons_of_mem _ hm))).trans ((k0.slot q hq').trans hq); unfold execOp; rw [e3.2.1]; simp only [Act.eval, hh, Sem.run_bind, r3]; rfl) fun A3 q3 k3 => ?_
  have y3 : A3.tmps.getD s3 undef = .pointer (some ⟨g2, i2, none⟩) := by rw [q3]; exact put_same (by rw [k2.size, k0.size]; exact z3)
  refine on o4 _ A3 s4 (.int k v) e4.1 e4.2.2 (by simp) k3 (by unfold execOp; rw [e4.2.1]; simp only [Act.eval, y3, Sem.run_bind, l2]; rfl) fun A4 q4 k4 => ?_
  have y4 : A4.tmps.getD s4 undef = .int k v := by rw [q4]; exact put_same (by rw [k3.size, k0.size]; exact z4)
  have y2' : A4.tmps.getD s2 undef = .int k u := by rw [q4, put_ne d52, q3, put_ne d51]; exact y2
  refine on o5 _ A4 s5 (.bool (u == v)) e5.1 e5.2.2 (by simp) k4 (by unfold execOp; rw [e5.2.1]; simp only [Act.eval, y4, y2']; go_simp) fun A5 q5 k5 => ?_
  have y5 : A5.tmps.getD s5 undef = .bool (u == v) := by rw [q5]; exact put_same (by rw [k4.size, k0.size]; exact z5)
  have x0' : A5.tmps.getD s0 undef = .bool true := by
   rw [q5, put_ne d35, q4, put_ne d34, q3, put_ne d33, q2, put_ne d32, q1, put_ne d31]
   exact x0
  refine wl_val (v := .bool (u == v)) (w1 := w) (wanted_none e6.2.2) (by unfold execOp; rw [e6.2.1]; simp [Act.eval, asBool, ← Array.getD_eq_getD_getElem?, x0', y5]) ?_
  rw [e6.1]
  exact h _ (k0.trans (k5.put (by simp) _)) (by rw [put_same (by rw [k5.size, k0.size]; exact z6)]; simp)
end
end WB
end
