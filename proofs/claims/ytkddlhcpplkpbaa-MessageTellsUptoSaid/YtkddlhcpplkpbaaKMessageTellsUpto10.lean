/- MessageTellsUpto: texts of this claim, packed: what the kit's print has written for it and own texts, without what its proof does not reach. -/
import Derived.Test.YtkddlhcpplkpbaaKMessageTellsUpto6
import Derived.Laws.IdiomCopy
import Derived.StillTailTactics
set_option linter.unusedVariables false
set_option linter.unusedSimpArgs false
set_option linter.unusedSectionVars false
section
namespace WB
open Go Go.RowKit Go.Proofs.YtkddlhcpplkpbaaW.PrintWords Go.Proofs.YtkddlhcpplkpbaaW.PrintLast Go.Proofs.YtkddlhcpplkpbaaW.PrintMore
open Kd
section
variable {P : Program} {ops : Array Oper} {rest : List Oper} {o : Oper} {a : Act} {Q : Exit → Act → World → Prop}
/-- A whole array, or struct, loaded out of its block. -/
theorem wp_load_whole {W : World} (hgd : o.guard = none) (t : TypeId) (p : Operand) (ho : o.op = .load t p) {g : Nat} {cs : Array Value} {T : TypeId} {d : TypeDesc} (hp : a.eval p = .pointer (some ⟨g, 0, none⟩)) (hh : W.heap[g]? = some (.cells cs T (0, 0)))
  (hu : P.underlying t = some d) (hd : (match d with | .struct _ | .array _ _ => true | _ => false) = true) (hi : (P.info? t).map (·.size) = some cs.size)
  (h : wpList P ops Q rest (a.put o.dst (.agg cs)) W) : wpList P ops Q (o :: rest) a W := by
 refine event_run hgd ?_ h
 have hl := run_loadVar_row W g T t cs (0, 0) d hh hu hd hi
 simp [execOp, ho, Instr.loadAt, Instr.sureAddr, hp, hl]
/-- A value built, where its run is known. -/
theorem wp_build_by {W : World} (hgd : o.guard = none) (t : TypeId) (ps : Array (Nat × Operand)) (ho : o.op = .build t ps) {v : Value} (ps' : Array (Nat × Value)) (hps : (ps.map fun p => (p.1, a.eval p.2)) = ps') (hr : (Instr.build t ps').run P W = .ok v W)
  (h : wpList P ops Q rest (a.put o.dst v) W) : wpList P ops Q (o :: rest) a W := by
 refine event_run hgd ?_ h
 subst hps
 simp only [execOp, ho, Sem.run_bind]
 show ((Instr.build t _).run P W).andThen _ = _
 rw [hr]
 rfl
/-- A whole array, or struct, stored into its block. -/
theorem wp_store_whole {W : World} (hN : o.dst = none) (hgd : o.guard = none) (t : TypeId) (p x : Operand) (ho : o.op = .store t p x) {g : Nat} {cur cs : Array Value} {T : TypeId} (hp : a.eval p = .pointer (some ⟨g, 0, none⟩)) (hx : a.eval x = .agg cs) (hh : W.heap[g]? = some (.cells cur T (0, 0)))
  (hi : (P.info? t).map (·.size) = some cs.size) (hs : cs.size = cur.size) (h1 : ∀ q ∈ cs, q.oneCell' = true)
  (h : ∀ w1 : World, w1.heap[g]? = some (.cells cs T (0, 0)) → W.grownBy w1 (some g) → w1.heap.size = W.heap.size → wpList P ops Q rest a w1) : wpList P ops Q (o :: rest) a W := by
 have hrun : (Instr.storeAt t (.pointer (some ⟨g, 0, none⟩)) (.agg cs)).run P W = .ok () (W.setCells g 0 cs.toList) := run_store_run t (.agg cs) cs.toList hh rfl (by simpa using hi) (by simp; omega) (by simpa using h1)
 obtain ⟨cur', h3, h4, h5⟩ := setCells_row cs.toList 0 W cur hh (by simp; omega)
 obtain ⟨s1, s2, s3, s4⟩ := setCells_same g cs.toList 0 W
 have he : cur' = cs := by
  apply Array.ext'
  rw [h5, List.take_zero, List.nil_append, List.drop_of_length_le (by simp; omega), List.append_nil]
 subst he
 refine wpList_plain hgd fun K hK => ?_
 unfold Oper.wp execOp
 simp only [ho, hp, hx, Sem.run_bind, Sem.run_pure, Result.andThen_ok, hrun]
 show K (a.put o.dst undef) _
 rw [hN]
 exact hK a _ (h _ h3 ⟨s1, s2, s3, by rw [s4]; exact Nat.le_refl _, fun k hk hn => setCells_far _ _ k (fun he => hn (by rw [he]))⟩ s4)
end
theorem fold_set (vs : List Value) : ∀ (off j : Nat) (cells : Array Value), off + j + vs.length ≤ cells.size →
  ((vs.zipIdx j).foldl (fun cs (x : Value × Nat) => cs.setIfInBounds (off + x.2) x.1) cells).toList = cells.toList.take (off + j) ++ vs ++ cells.toList.drop (off + j + vs.length) := by
 induction vs with
 | nil => intro off j cells h; simp
 | cons v vs ih =>
  intro off j cells h
  have h' : off + (j + 1) + vs.length ≤ (cells.setIfInBounds (off + j) v).size := by simp at h ⊢; omega
  rw [List.zipIdx_cons, List.foldl_cons, ih off (j + 1) _ h', Array.toList_setIfInBounds]
  have hl : off + j < cells.toList.length := by simp at h ⊢; omega
  rw [List.length_cons, show off + (j + 1) = off + j + 1 by omega, List.take_succ_eq_append_getElem (by simpa using hl), List.take_set_of_le (Nat.le_refl _), List.getElem_set_self, List.drop_set_of_lt (by omega)]
  simp [Nat.add_assoc, Nat.add_comm 1]
theorem fold_set_arr (vs : Array Value) (off : Nat) (cells : Array Value) (h : off + vs.size ≤ cells.size) :
  (vs.zipIdx.foldl (fun cs (x : Value × Nat) => cs.setIfInBounds (off + x.2) x.1) cells).toList = cells.toList.take off ++ vs.toList ++ cells.toList.drop (off + vs.size) := by
 have := fold_set vs.toList off 0 cells (by simpa using h)
 rw [← Array.foldl_toList, Array.toList_zipIdx]
 simpa using this
end WB
end
