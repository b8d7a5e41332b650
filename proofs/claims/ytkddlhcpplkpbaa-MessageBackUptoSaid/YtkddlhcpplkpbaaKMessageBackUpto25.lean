/- MessageBackUpto: texts of this claim, packed: what the kit's print has written for it and own texts, without what its proof does not reach. -/
import Derived.Test.YtkddlhcpplkpbaaKMessageBackUpto7
set_option linter.unusedVariables false
set_option linter.unusedSimpArgs false
set_option linter.unusedSectionVars false
section
set_option linter.unusedVariables false
namespace WB
open Go Go.RowKit Go.Proofs.YtkddlhcpplkpbaaW.PrintWords
section
variable {P : Program} {ops : Array Oper} {Q : Exit → Act → World → Prop}
/-- A REGION WHOSE ORDER IS FIXED, from its operation number k on: one fact for each operation's value, each shown by itself. -/
theorem list_facts {a0 : Act} {w0 w : World} {B : Nat} (k : Nat) (facts : List Fact) (hb : backB ops = true)
    (hd : (ops.toList.drop k).map (·.dst) = facts.map (fun e => some e.1)) (hnd : (facts.map (·.1)).Nodup) (hsz : ∀ e ∈ facts, e.1 < a0.tmps.size) (hst : ∀ e ∈ facts, Fact.stays e) (hB : Below B w0 w) (hBs : B ≤ w.heap.size)
    (step : ∀ i o e, ops[k + i]? = some o → facts[i]? = some e → ∀ a w1, a.tmps.size = a0.tmps.size → a.defers = a0.defers → (∀ t, t ∉ facts.map (·.1) → a.tmps[t]? = a0.tmps[t]?) → Below B w0 w1 → B ≤ w1.heap.size →
      (∀ d ∈ o.after, Region.binds .any d = true → k ≤ d.on → ∀ q, facts[d.on - k]? = some q → q.2 (a.tmps.getD q.1 undef) w1) →
      wpOp P ops Q (k + i) (fun a' w2 => ∃ v, a' = a.put (some e.1) v ∧ e.2 v w2 ∧ Below w1.heap.size w1 w2) a w1)
    (fin : ∀ (x : Tmp → Value) w1, Below B w0 w1 → (∀ e ∈ facts, e.2 (x e.1) w1) → Q .normal (putL a0 ((facts.map (·.1)).map fun d => (d, x d))) w1) : wpList P ops Q (ops.toList.drop k) a0 w := by
  have hlen : facts.length = ops.size - k := by have := congrArg List.length hd; simpa using this.symm
  have key : ∀ (m n : Nat) (a : Act) (w1 : World), n + m = facts.length → a.tmps.size = a0.tmps.size → a.defers = a0.defers → (∀ t, t ∉ facts.map (·.1) → a.tmps[t]? = a0.tmps[t]?) → Below B w0 w1 → B ≤ w1.heap.size → (∀ i e, facts[i]? = some e → i < n → e.2 (a.tmps.getD e.1 undef) w1) → (n = 0 → a = a0) → wpList P ops Q (ops.toList.drop (k + n)) a w1 := by
    intro m
    induction m with
    | zero =>
      intro n a w1 hn hs hdf hfr hbl hbs hfa _
      rw [List.drop_of_length_le (by rw [Array.length_toList]; omega)]
      have h1 := fin (fun t => a.tmps.getD t undef) w1 hbl (fun e he => by
        obtain ⟨i, hi, rfl⟩ := List.mem_iff_getElem.1 he
        exact hfa i _ (List.getElem?_eq_getElem hi) (by omega))
      have he : putL a0 ((facts.map (·.1)).map fun d => (d, a.tmps.getD d undef)) = a := by
        have h2 : (putL a0 ((facts.map (·.1)).map fun d => (d, a.tmps.getD d undef))).tmps = a.tmps := by
          apply Array.ext_getElem?
          intro t
          by_cases ht : t ∈ facts.map (·.1)
          · obtain ⟨e, hem, rfl⟩ := List.mem_map.1 ht
            have hlt := hsz e hem
            rw [putL_in _ _ _ _ ht hlt, Array.getD_eq_getD_getElem?, Array.getElem?_eq_getElem (show e.1 < a.tmps.size by rw [hs]; exact hlt)]
            rfl
          · rw [hfr t ht]
            refine putL_out _ _ t fun q hq => ?_
            obtain ⟨d, hd', rfl⟩ := List.mem_map.1 hq
            exact fun h => ht (h ▸ hd')
        have h3 : (putL a0 ((facts.map (·.1)).map fun d => (d, a.tmps.getD d undef))).defers = a.defers := by rw [putL_defers, hdf]
        cases hx : putL a0 ((facts.map (·.1)).map fun d => (d, a.tmps.getD d undef))
        rw [hx] at h2 h3
        cases a
        simp only at h2 h3
        rw [h2, h3]
      rw [he] at h1
      exact h1
    | succ m ih =>
      intro n a w1 hn hs hdf hfr hbl hbs hfa _
      have hi : n < facts.length := by omega
      have hko : k + n < ops.size := by omega
      have ho : ops[k + n]? = some ops[k + n] := Array.getElem?_eq_getElem hko
      have he : facts[n]? = some facts[n] := List.getElem?_eq_getElem hi
      obtain ⟨e, hee⟩ : ∃ e, e = facts[n] := ⟨_, rfl⟩
      obtain ⟨o, hoo⟩ : ∃ o, o = ops[k + n] := ⟨_, rfl⟩
      rw [← hee] at he
      rw [← hoo] at ho
      have hdr : ops.toList.drop (k + n) = o :: ops.toList.drop (k + (n + 1)) := by
        rw [List.drop_eq_getElem_cons (by rw [Array.length_toList]; exact hko), hoo]
        rfl
      rw [hdr]
      unfold wpList
      have hw : wpOp P ops Q (k + n) (wpList P ops Q (ops.toList.drop (k + (n + 1)))) a w1 := by
        refine wpOp_mono ?_ (step n o e ho he a w1 hs hdf hfr hbl hbs fun d hdm hbd hkd q hq => hfa _ _ hq (by have := backB_spec hb ho d hdm hbd; omega))
        rintro a' w2 ⟨v, rfl, hp, hbw⟩
        have hem : e ∈ facts := List.mem_of_getElem? he
        refine ih (n + 1) _ w2 (by omega) (by simp [Act.put, hs]) (by simp [Act.put, hdf]) (fun t ht => ?_) (below_then hbl hbs hbw) (Nat.le_trans hbs hbw.size) (fun j q hq hj => ?_) (fun h => by omega)
        · rw [← hfr t ht]
          have : e.1 ≠ t := fun h => ht (h ▸ List.mem_map.2 ⟨e, hem, rfl⟩)
          simp [Act.put, Array.getElem?_setIfInBounds_ne this]
        · by_cases hji : j = n
          · subst hji
            rw [he] at hq
            cases hq
            have : e.1 < a.tmps.size := by rw [hs]; exact hsz e hem
            simpa [Act.put, this] using hp
          · have h1 := hst q (List.mem_of_getElem? hq) _ _ _ hbw (hfa j q hq (by omega))
            have hne : e.1 ≠ q.1 := by
              intro h
              have hj' : j < (facts.map (·.1)).length := by simp; exact (List.getElem?_eq_some_iff.1 hq).1
              have hi' : n < (facts.map (·.1)).length := by simpa using hi
              have e1 : (facts.map (·.1))[n] = e.1 := by simp [hee]
              have e2 : (facts.map (·.1))[j] = q.1 := by simp [(List.getElem?_eq_some_iff.1 hq).2]
              exact hji ((List.getElem_inj hnd).1 (by rw [e1, e2, h])).symm
            have : (a.put (some e.1) v).tmps.getD q.1 undef = a.tmps.getD q.1 undef := by
              simp [Act.put, Array.getD_eq_getD_getElem?, Array.getElem?_setIfInBounds_ne hne]
            rw [this]
            exact h1
      simp only [wpOp, ho] at hw
      exact hw
  have := key facts.length 0 a0 w (by omega) rfl rfl (fun _ _ => rfl) hB hBs (fun i e _ h => by omega) (fun _ => rfl)
  simpa using this
end
end WB
end
