/- MessageTellsUpto: texts of this claim, packed: what the kit's print has written for it and own texts, without what its proof does not reach. -/
import Derived.Test.YtkddlhcpplkpbaaKMessageTellsUpto1
import Derived.Test.YtkddlhcpplkpbaaRows
import Derived.ChangeArms
import Derived.DataReads
import Derived.Carry
import Derived.SizedLaws
set_option linter.unusedVariables false
set_option linter.unusedSimpArgs false
set_option linter.unusedSectionVars false
section
namespace WB
open Go Go.RowKit Go.Proofs.YtkddlhcpplkpbaaW.PrintWords Go.Proofs.Ytkddlhcpplkpbaa.Rows
def lsum {α : Type} (bk : α → Nat) : List α → Nat
 | [] => 0
 | a :: l => bk a + lsum bk l
theorem lsum_one {α : Type} (l : List α) : lsum (fun _ => 1) l = l.length := by
 induction l with
 | nil => rfl
 | cons a l ih => simp only [lsum, ih, List.length_cons]; omega
/-- WHAT A READING OF TYPE t GIVES. -/
def Op (P : Program) (t : TypeId) {α : Type} (d : Kd α) (wf : α → Prop) (bk : α → Nat) (sz : α → Prop) : Prop :=
 ∀ (H : Type) (enc : TypeId × Value → H) (W : World) (fuel : Nat) (cs : List Value) (x : DataW H × List MemPlace), DataW.trod enc P W 0 (fun _ => true) true fuel t cs = some x →
  ∃ a, d.K W a cs ∧ wf a ∧ bk a ≤ uptoBulk x.1 ∧ ((DataW.weights P t x.1).all (· ≤ reachBytes) = true → sz a)
variable {P : Program} {t e : TypeId} {α β : Type}
theorem Op.int {k : IntKind} (ht : P.underlying t = some (.int k)) : Op P t (Kd.int k) (fun n => (Lit.int k n).wf = true) (fun _ => 1) (fun _ => True) := by
 intro H enc W fuel cs x h
 obtain ⟨n, rfl, rfl, hw⟩ := DataW.trod_int ht h
 exact ⟨n, rfl, hw, by simp [uptoBulk], fun _ => trivial⟩
theorem Op.bool (ht : P.underlying t = some .bool) : Op P t Kd.bool (fun _ => True) (fun _ => 1) (fun _ => True) := by
 intro H enc W fuel cs x h
 obtain ⟨n, rfl, rfl⟩ := DataW.trod_bool ht h
 exact ⟨n, rfl, trivial, by simp [uptoBulk], fun _ => trivial⟩
theorem add_add_ (a : Addr) (i j : Nat) : (a.add i).add j = a.add (i + j) := by
 unfold Addr.add
 by_cases hi : i = 0
 · subst hi; simp
 · by_cases hj : j = 0
   · subst hj; simp [hi]
   · simp [hi, hj, Nat.add_assoc]
theorem choose_list {Q : Nat → α → Prop} : ∀ (n : Nat), (∀ i, i < n → ∃ a, Q i a) → ∃ l : List α, l.length = n ∧ ∀ i a, l[i]? = some a → Q i a
 | 0, _ => ⟨[], rfl, fun i a h => by simp at h⟩
 | n + 1, h => by
  obtain ⟨l, hl, hq⟩ := choose_list n (fun i hi => h i (by omega))
  obtain ⟨a, ha⟩ := h n (by omega)
  refine ⟨l ++ [a], by simp [hl], fun i b hb => ?_⟩
  rcases Nat.lt_or_ge i n with hi | hi
  · rw [List.getElem?_append_left (by omega)] at hb
    exact hq i b hb
  · have hin : i = n := by
     have := (List.getElem?_eq_some_iff.1 hb).1
     simp [hl] at this
     omega
    subst hin
    rw [List.getElem?_append_right (by omega), hl, Nat.sub_self] at hb
    cases hb
    exact ha
theorem bulkAll_ge {H : Type} {bk : α → Nat} : ∀ (l : List α) (ds : List (DataW H)), l.length = ds.length → (∀ (i : Nat) (a : α) (d : DataW H), l[i]? = some a → ds[i]? = some d → bk a ≤ uptoBulk d) → lsum bk l ≤ uptoBulkAll ds
 | [], [], _, _ => by simp [lsum]
 | a :: l, d :: ds, h, hb => by
  simp only [lsum, uptoBulkAll]
  have h1 := hb 0 a d rfl rfl
  have h2 := bulkAll_ge l ds (by simpa using h) (fun i a d ha hd => hb (i + 1) a d (by simpa using ha) (by simpa using hd))
  omega
 | [], _ :: _, h, _ => by simp at h
 | _ :: _, [], h, _ => by simp at h
theorem weightsAll_of {H : Type} : ∀ (ds : List (DataW H)) (d : DataW H), d ∈ ds → ∀ n ∈ DataW.weights P e d, n ∈ DataW.weightsAll P e ds
 | [], _, h, _, _ => by cases h
 | d' :: ds, d, h, n, hn => by
  unfold DataW.weightsAll
  rcases List.mem_cons.1 h with rfl | h
  · exact List.mem_append_left _ hn
  · exact List.mem_append_right _ (weightsAll_of ds d h n hn)
theorem Op.slice {d : Kd α} {wf : α → Prop} {bk : α → Nat} {sz : α → Prop} (h : Op P e d wf bk sz) (ht : P.underlying t = some (.slice e)) (hc : P.cellsOf e = d.sz) {B : Nat} (hB : P.bytesOf e = B) :
   Op P t (Kd.slice e d) (fun l => ∀ a ∈ l, wf a) (fun l => lsum bk l + 1) (fun l => l.length * B ≤ reachBytes ∧ ∀ a ∈ l, sz a) := by
 intro H enc W fuel cs x hx
 rcases DataW.trod_slice ht hx with ⟨rfl, rfl⟩ | ⟨a, len, cap, elems, rest, n, _, rfl, rfl, _, hl, hm, hlen, hel, _, _⟩
 · exact ⟨[], ⟨none, 0, rfl, by simp, Kd.C_nil _ _⟩, by simp, by simp [lsum, uptoBulk], fun _ => by simp⟩
 · have hall : ∀ i, i < len → ∃ y : α × (DataW H × List MemPlace), elems[i]? = some y.2 ∧ (∃ cs', W.cells? 0 (a.add (i * P.cellsOf e)) (P.cellsOf e) = some cs' ∧ d.K W y.1 cs') ∧ wf y.1 ∧ bk y.1 ≤ uptoBulk y.2.1 ∧ ((DataW.weights P e y.2.1).all (· ≤ reachBytes) = true → sz y.1) := by
     intro i hi
     have h1 := hel i hi
     rw [List.getElem?_eq_getElem (by omega)] at h1
     obtain ⟨cs', h2, h3⟩ := Option.bind_eq_some_iff.1 h1
     obtain ⟨v, hK, hw, hb, hs⟩ := h H enc W n cs' _ h3
     exact ⟨(v, elems[i]), by rw [List.getElem?_eq_getElem (by omega)], ⟨cs', h2, hK⟩, hw, hb, hs⟩
   obtain ⟨ys, hyl, hys⟩ := choose_list len hall
   have hget : ∀ (i : Nat) (p : α), (ys.map (·.1))[i]? = some p → ∃ q, ys[i]? = some (p, q) := by
     intro i p hp
     rw [List.getElem?_map, Option.map_eq_some_iff] at hp
     obtain ⟨q, hq, rfl⟩ := hp
     exact ⟨q.2, hq⟩
   have hmem : ∀ p ∈ ys.map (·.1), ∃ i : Nat, (ys.map (·.1))[i]? = some p := fun p hp => List.mem_iff_getElem?.1 hp
   refine ⟨ys.map (·.1), ⟨some a, cap, by simp [hyl], by simpa [hyl] using hl, by simp, ?_, fun _ => ⟨a, rfl, fun i p hp => ?_⟩⟩, fun p hp => ?_, ?_, fun hw => ⟨?_, fun p hp => ?_⟩⟩
   · simp only [List.length_map, hyl]
     simp only [maxLen] at hm
     omega
   · obtain ⟨q, hq⟩ := hget i p hp
     obtain ⟨_, ⟨cs', h2, hK⟩, _⟩ := hys i _ hq
     refine ⟨cs', d.K_len hK, hK, fun j u hu => ?_⟩
     obtain ⟨_, h4, h5⟩ := World.cells?_some h2
     rw [hc] at h4 h5
     have hj : j < d.sz := by rw [← h4]; exact (List.getElem?_eq_some_iff.1 hu).1
     have h6 := h5 j hj
     rw [hu] at h6
     rw [← add_add_]
     exact h6
   · obtain ⟨i, hi⟩ := hmem p hp
     obtain ⟨q, hq⟩ := hget i p hi
     exact (hys i _ hq).2.2.1
   · simp only [uptoBulk]
     have := bulkAll_ge (bk := bk) (ys.map (·.1)) (elems.map (·.1)) (by simp [hyl, hlen]) (fun i p dd hp hd => by
      obtain ⟨q, hq⟩ := hget i p hp
      obtain ⟨h1, _, _, h2, _⟩ := hys i _ hq
      rw [List.getElem?_map, h1] at hd
      cases hd
      exact h2)
     omega
   · rw [List.all_eq_true] at hw
     have := hw ((elems.length + rest.length) * P.bytesOf e) (by unfold DataW.weights; rw [ht]; simp)
     simp only [decide_eq_true_eq] at this
     rw [hB] at this
     refine Nat.le_trans (Nat.mul_le_mul_right _ ?_) this
     simp [hyl]
     omega
   · obtain ⟨i, hi⟩ := hmem p hp
     obtain ⟨q, hq⟩ := hget i p hi
     obtain ⟨h1, _, _, _, h3⟩ := hys i _ hq
     refine h3 ?_
     rw [List.all_eq_true] at hw ⊢
     intro n' hn'
     refine hw n' ?_
     unfold DataW.weights
     rw [ht]
     refine List.mem_cons_of_mem _ (List.mem_append_left _ (weightsAll_of _ q.1 ?_ n' hn'))
     exact List.mem_map.2 ⟨q, List.mem_of_getElem? h1, rfl⟩
/-- The fields from a place on: one behind the other. -/
def OpF (P : Program) (fs : List Field) (off : Nat) {β : Type} (d : Kd β) (wf : β → Prop) (bk : β → Nat) (sz : β → Prop) : Prop :=
 ∀ (H : Type) (enc : TypeId × Value → H) (W : World) (fuel : Nat) (cs : List Value) (xs : List (DataW H × List MemPlace)), cs.length = off + d.sz → xs.length = fs.length →
  (∀ (i : Nat) (f : Field), fs[i]? = some f → DataW.trod enc P W 0 (fun _ => true) true fuel f.type ((cs.drop f.offset).take (P.cellsOf f.type)) = xs[i]?) →
  ∃ a, d.K W a (cs.drop off) ∧ wf a ∧ bk a ≤ uptoBulkAll (xs.map (·.1)) ∧ ((DataW.weightsEach P (fs.map (·.type)) (xs.map (·.1))).all (· ≤ reachBytes) = true → sz a)
theorem OpF.one {f : Field} {off : Nat} {d : Kd α} {wf : α → Prop} {bk : α → Nat} {sz : α → Prop} (h : Op P f.type d wf bk sz) (ho : f.offset = off) (hc : P.cellsOf f.type = d.sz) : OpF P [f] off d wf bk sz := by
 intro H enc W fuel cs xs hl hx hf
 match xs, hx with
 | [x], _ =>
  have h1 := hf 0 f rfl
  rw [hc, ho, List.take_of_length_le (by rw [List.length_drop]; omega)] at h1
  obtain ⟨a, hK, hw, hb, hs⟩ := h H enc W fuel _ x h1
  refine ⟨a, hK, hw, by simp [uptoBulkAll]; omega, fun hz => hs ?_⟩
  simpa [DataW.weightsEach] using hz
theorem OpF.cons {f : Field} {fs : List Field} {off : Nat} {d : Kd α} {wf : α → Prop} {bk : α → Nat} {sz : α → Prop} {dr : Kd β} {wfr : β → Prop} {bkr : β → Nat} {szr : β → Prop} (h : Op P f.type d wf bk sz) (ho : f.offset = off) (hc : P.cellsOf f.type = d.sz) (hr : OpF P fs (off + d.sz) dr wfr bkr szr) :
  OpF P (f :: fs) off (Kd.pair d dr) (fun x => wf x.1 ∧ wfr x.2) (fun x => bk x.1 + bkr x.2) (fun x => sz x.1 ∧ szr x.2) := by
 intro H enc W fuel cs xs hl hx hf
 match xs, hx with
 | x :: xs, hx =>
  have hsz : (Kd.pair d dr).sz = d.sz + dr.sz := rfl
  have h1 := hf 0 f rfl
  rw [hc, ho] at h1
  obtain ⟨a, hK, hw, hb, hs⟩ := h H enc W fuel _ x h1
  obtain ⟨b, hK2, hw2, hb2, hs2⟩ := hr H enc W fuel cs xs (by omega) (by simpa using hx) (fun i g hg => by simpa using hf (i + 1) g (by simpa using hg))
  refine ⟨(a, b), ⟨(cs.drop off).take d.sz, cs.drop (off + d.sz), ?_, hK, hK2⟩, ⟨hw, hw2⟩, by simp only [List.map_cons, uptoBulkAll]; omega, fun hz => ?_⟩
  · rw [← List.drop_drop, List.take_append_drop]
  · simp only [List.map_cons, DataW.weightsEach, List.all_append, Bool.and_eq_true] at hz
    exact ⟨hs hz.1, hs2 hz.2⟩
/-- A struct, by its fields; f tells its fields as pairs in pairs. -/
theorem Op.struct {fs : Array Field} {d : Kd β} {wf : β → Prop} {bk : β → Nat} {sz : β → Prop} (f : α → β) (g : β → α) (hfg : ∀ b, f (g b) = b) (ht : P.underlying t = some (.struct fs)) (hc : P.cellsOf t = d.sz) (h : OpF P fs.toList 0 d wf bk sz) :
   Op P t (Kd.iso d f) (fun x => wf (f x)) (fun x => bk (f x) + 1) (fun x => sz (f x)) := by
 intro H enc W fuel cs x hx
 obtain ⟨xs, n, _, rfl, hl, hn, hf⟩ := DataW.trod_struct ht hx
 obtain ⟨b, hK, hw, hb, hs⟩ := h H enc W n cs xs (by omega) (by simpa using hn) (fun i g hg => hf i g (by simpa using hg))
 rw [List.drop_zero] at hK
 refine ⟨g b, ?_, by show wf (f (g b)); rw [hfg]; exact hw, by show bk (f (g b)) + 1 ≤ _; rw [hfg]; simp only [uptoBulk]; omega, fun hz => ?_⟩
 · show d.K W (f (g b)) cs
   rw [hfg]
   exact hK
 · show sz (f (g b))
   rw [hfg]
   refine hs ?_
   unfold DataW.weights at hz
   rw [ht] at hz
   exact hz
end WB
end
