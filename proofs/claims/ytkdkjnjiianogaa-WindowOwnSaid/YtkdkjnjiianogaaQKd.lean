/- Words for walks by hand over the print's kinds: a call of a function value. -/
import Derived.Test.YtkdkjnjiianogaaWMore
namespace WB
open Go Go.RowKit Go.Proofs.YtkdkjnjiianogaaW.PrintWords Go.Proofs.YtkdkjnjiianogaaW.PrintLast Go.Proofs.YtkdkjnjiianogaaW.PrintMore
section
variable {P : Program} {ops : Array Oper} {Q : Exit → Act → World → Prop}
/-- A call of a function value: what is bound ahead, the arguments, what is captured. -/
theorem goesV_ {rest : List Oper} {oi : Oper} {a : Act} {w : World} (N : Option Tmp) (hd : oi.dst = N) (hg : oi.guard = none) {f : FuncId} {fn : Func} {x : Operand} {first cap : Array Value} {as : Array Operand} {ts : Array TypeId} (hf : P.funcs[f]? = some fn) (hname : (fn.name == "runtime.NumGoroutine") = false) (hb : fn.body.isSome = true) (args : Array Value)
    (hop : oi.op = .call { callee := .value x, args := as, argTypes := ts }) (hx : a.eval x = .func (.func f) first cap) (hargs : first ++ as.map a.eval ++ cap = args)
    (h : Calls P f args w fun e w' => ∃ v, e = .returned v ∧ wpList P ops Q rest (a.put N v) w') : wpList P ops Q (oi :: rest) a w := by
  refine wpList_plain hg fun K hK => ?_
  have he := enters_ hf hname hb args w
  have hrun : (execOp a.eval oi).run P w = .ok (.enter f args) w := by
    unfold execOp
    simp [hop, resolve, Deferred.ofValue, invoke, hx, hargs, he]
  unfold Oper.wp
  rw [hrun, Oper.upon_enter]
  refine h.mono fun e w'' hh => ?_
  obtain ⟨v, rfl, hk⟩ := hh
  subst hd
  exact hK _ _ hk
end
/-- An element of a row of rows. -/
theorem at_rows {α : Type} {d : Kd α} {e : Nat} {w : World} {A : Option Addr} {n : Nat} {xs : List (List α)} (h : Kd.C (Kd.slice e d) w A n xs) (k : Nat) (hk : k < n) :
    ∃ ad A0 c0, A = some ad ∧ w.cell? (ad.add k) = some (.slice A0 (xs.getD k []).length c0) ∧ (xs.getD k []).length ≤ c0 ∧ d.C w A0 (xs.getD k []).length (xs.getD k []) := by
  obtain ⟨ad, c, e1, hs, ⟨A0, c0, rfl, hl, hC⟩, hc⟩ := ReadsRow.get_ h [] (k : Int) (by omega) (by omega)
  have h3 := hc 0 _ rfl
  have e2 : (k : Int).toNat * (Kd.slice e d).sz + 0 = k := by show (k : Int).toNat * 1 + 0 = k; omega
  rw [e2] at h3
  simp only [Int.toNat_natCast] at h3 hl hC
  exact ⟨ad, A0, c0, e1, h3, hl, hC⟩
theorem heap_new1 (w : World) (o : Obj) : (w.alloc o).heap[w.heap.size]? = some o := heap_alloc_new w o
theorem heap_new2 (w : World) (o o' : Obj) : ((w.alloc o).alloc o').heap[w.heap.size + 1]? = some o' := by
  have := heap_alloc_new (w.alloc o) o'
  rwa [World.size_alloc] at this
theorem heap_new3 (w : World) (o o' o'' : Obj) : (((w.alloc o).alloc o').alloc o'').heap[w.heap.size + 2]? = some o'' := by
  have := heap_alloc_new ((w.alloc o).alloc o') o''
  rwa [World.size_alloc, World.size_alloc] at this
theorem cell_in1 (w : World) (cs : Array Value) (t : TypeId) (j : Nat) : (w.alloc (.cells cs t)).cell? ⟨w.heap.size, j, none⟩ = cs[j]? := by
  simp only [World.cell?, heap_new1]
  simp
theorem cell_in2 (w : World) (cs : Array Value) (t : TypeId) (o' : Obj) (j : Nat) : ((w.alloc (.cells cs t)).alloc o').cell? ⟨w.heap.size, j, none⟩ = cs[j]? := by
  rw [World.cell?_alloc_lt _ _ _ (by simp), cell_in1]
theorem cell_freeze (w : World) (a : Addr) (n : Nat) (p : Addr) : (w.freeze a n).cell? p = w.cell? p := by
  unfold World.freeze
  split
  · rfl
  · simp only [World.cell?, Array.getElem?_modify]
    by_cases he : a.block = p.block
    · rw [if_pos he]
      cases w.heap[p.block]? with
      | none => rfl
      | some o => cases o <;> rfl
    · rw [if_neg he]
theorem freeze_below {B : Nat} {a w : World} (h : Below B a w) {p : Addr} (hp : B ≤ p.block) (n : Nat) : Below B a (w.freeze p n) := by
  unfold World.freeze
  split
  · exact h
  · exact ⟨h.os, h.tape, h.output, by simpa using h.size, fun k hk => by
      have := h.block k hk
      rw [← this]
      simp only [Array.getElem?_modify]
      rw [if_neg (by omega)]⟩
/-- A constant text as octets, which a call has laid: it is marked, its octets stay. -/
theorem wp_convert_octets {P : Program} {ops : Array Oper} {rest : List Oper} {o : Oper} {a : Act} {Q : Exit → Act → World → Prop} {t e : TypeId} {x : Operand} (hgd : o.guard = none) (ho : o.op = .convert t t x) (ht : P.underlying t = some (.slice e)) (he : P.underlying e = some (.int .u8)) {g n c B : Nat} {w0 W : World} {xs : List Int}
    (hx : a.eval x = .slice (some ⟨g, 0, none⟩) n c) (HB : Below B w0 W) (hg : B ≤ g) (hC : (Kd.int .u8).C W (some ⟨g, 0, none⟩) n xs)
    (h : ∀ w1, (Kd.int .u8).C w1 (some ⟨g, 0, none⟩) n xs → Below B w0 w1 → wpList P ops Q rest (a.put o.dst (.slice (some ⟨g, 0, none⟩) n c)) w1) : wpList P ops Q (o :: rest) a W := by
  have hrun : ∃ w1, (convert t t (.slice (some ⟨g, 0, none⟩) n c)).run P W = .ok (.slice (some ⟨g, 0, none⟩) n c) w1 ∧ (w1 = W ∨ ∃ m, w1 = W.freeze ⟨g, m, none⟩ 1) := by
    cases hs : W.shape? g with
    | none => exact ⟨W, by simp [convert, run_underlying ht, run_underlying he, markStringish, hs], .inl rfl⟩
    | some s =>
      obtain ⟨T, m⟩ := s
      exact ⟨_, by simp [convert, run_underlying ht, run_underlying he, markStringish, hs], .inr ⟨m, rfl⟩⟩
  obtain ⟨w1, hr, hw⟩ := hrun
  refine Kd.event_run (w1 := w1) hgd (by simp only [execOp, ho, hx, Sem.run_bind]; rw [hr]; rfl) (h _ ?_ ?_)
  · rcases hw with rfl | ⟨m, rfl⟩
    · exact hC
    · refine ⟨hC.1, hC.2.1, fun hn => ?_⟩
      obtain ⟨ad, h1, h2⟩ := hC.2.2 hn
      refine ⟨ad, h1, fun j p hj => ?_⟩
      obtain ⟨cs, h3, h4, h5⟩ := h2 j p hj
      exact ⟨cs, h3, h4, fun i u hu => by rw [cell_freeze]; exact h5 i u hu⟩
  · rcases hw with rfl | ⟨m, rfl⟩
    · exact HB
    · exact freeze_below HB hg 1
open Kd in
theorem C_lit1 {α : Type} {d : Kd α} {e : Nat} {W : World} {g T : Nat} {A : Option Addr} {c : Nat} {l : List α} (hb : W.heap[g]? = some (.cells #[.slice A l.length c] T (0, 0))) (hl : l.length ≤ c) (hC : d.C W A l.length l) : (Kd.slice e d).C W (some ⟨g, 0, none⟩) [l].length [l] :=
  ⟨rfl, by simp, fun _ => ⟨_, rfl, fun j p hj => by
    have h0 : j = 0 := by have := (List.getElem?_eq_some_iff.1 hj).1; simpa using this
    subst h0
    obtain rfl : l = p := by simpa using hj
    exact ⟨_, rfl, ⟨A, c, rfl, hl, hC⟩, fun i u hu => by rw [Addr.add_lit, blk_cell hb]; simpa [Kd.slice] using hu⟩⟩⟩
open Kd in
theorem C_ints {k : IntKind} {W : World} {g T : Nat} {l : List Int} {cs : Array Value} (hb : W.heap[g]? = some (.cells cs T (0, 0))) (hm : l.length ≤ 9223372036854775807) (hc : cs.toList = l.map (fun x => .int k x)) : (Kd.int k).C W (some ⟨g, 0, none⟩) l.length l :=
  ⟨rfl, hm, fun _ => ⟨_, rfl, fun j p hj => ⟨[.int k p], rfl, rfl, fun i u hu => by
    have hi : i = 0 := by have := (List.getElem?_eq_some_iff.1 hu).1; simpa using this
    subst hi
    obtain rfl : .int k p = u := by simpa using hu
    rw [Addr.add_lit, blk_cell hb, ← Array.getElem?_toList, hc]
    show (l.map _)[0 + (j * 1 + 0)]? = _
    rw [show 0 + (j * 1 + 0) = j by omega, List.getElem?_map, hj]
    rfl⟩⟩⟩
open Kd in
/-- A block whose cells are these elements', one behind the other. -/
theorem C_cells {α : Type} {d : Kd α} {W : World} {g T : Nat} {cs : Array Value} {l : List α} (hb : W.heap[g]? = some (.cells cs T (0, 0))) (hm : l.length ≤ 9223372036854775807) (hrep : Reps (d.K W) d.sz l cs.toList) : d.C W (some ⟨g, 0, none⟩) l.length l := by
  refine ⟨rfl, hm, fun _ => ⟨_, rfl, fun j p hj => ?_⟩⟩
  have hp := hrep.2 j p hj
  refine ⟨(cs.toList.drop (j * d.sz)).take d.sz, d.K_len hp, hp, fun i u hu => ?_⟩
  have hi := (List.getElem?_eq_some_iff.1 hu).1
  rw [Addr.add_lit, Nat.zero_add, blk_cell hb, ← Array.getElem?_toList]
  rw [List.getElem?_take, if_pos (by have := d.K_len hp; omega), List.getElem?_drop] at hu
  exact hu
open Kd in
theorem C_one {α : Type} {d : Kd α} {W : World} {g T : Nat} {cs : Array Value} {x : α} (hb : W.heap[g]? = some (.cells cs T (0, 0))) (hK : d.K W x cs.toList) : d.C W (some ⟨g, 0, none⟩) [x].length [x] :=
  C_cells hb (by simp) ⟨by rw [d.K_len hK]; simp, fun j p hj => by
    have h0 : j = 0 := by have := (List.getElem?_eq_some_iff.1 hj).1; simpa using this
    subst h0
    obtain rfl : x = p := by simpa using hj
    rw [Nat.zero_mul, List.drop_zero, List.take_of_length_le (by rw [d.K_len hK]; exact Nat.le_refl _)]
    exact hK⟩
open Kd in
/-- A literal whose elements lead to what may lie anywhere: it is only read. -/
theorem bundle_lit {P : Program} {ops : Array Oper} {rest : List Oper} {o : Oper} {a : Act} {Q : Exit → Act → World → Prop} {α : Type} (d : Kd α) (e : Nat) {W : World} (hgd : o.guard = none) {N : Tmp} (_hd : o.dst = some N) {xs : List α} {inner : List Value}
    (hrun : (execOp a.eval o).run P W = .ok (.value (.slice (some ⟨W.heap.size, 0, none⟩) xs.length xs.length)) (W.alloc (.cells inner.toArray e)))
    (hrep : Reps (d.K W) d.sz xs inner) (hm : xs.length ≤ 9223372036854775807)
    (h : ∀ (g : Nat) (w1 : World), W.heap.size ≤ g → d.C w1 (some ⟨g, 0, none⟩) xs.length xs → Below W.heap.size W w1 → wpList P ops Q rest (a.put o.dst (.slice (some ⟨g, 0, none⟩) xs.length xs.length)) w1) : wpList P ops Q (o :: rest) a W := by
  refine event_run hgd hrun (h _ _ (Nat.le_refl _) ⟨rfl, hm, fun _ => ⟨_, rfl, fun j p hj => ?_⟩⟩ (below_alloc (Below.refl _ _) _))
  have hp := hrep.2 j p hj
  have hl := (List.getElem?_eq_some_iff.1 hj).1
  refine ⟨(inner.drop (j * d.sz)).take d.sz, ?_, d.K_below (below_alloc (Below.refl _ _) _) hp, fun i u hu => ?_⟩
  · exact d.K_len hp
  · have hi := (List.getElem?_eq_some_iff.1 hu).1
    rw [Addr.add_lit, Nat.zero_add, cell_in1]
    rw [List.getElem?_take, if_pos (by have := d.K_len hp; omega), List.getElem?_drop] at hu
    simpa using hu
end WB
