/- MessageTellsUpto: texts of this claim, packed: what the kit's print has written for it and own texts, without what its proof does not reach. -/
import Derived.Test.YtkddlhcpplkpbaaKMessageTellsUpto15
import Derived.Test.YtkddlhcpplkpbaaKMessageTellsUpto16
import Derived.Test.YtkddlhcpplkpbaaKMessageTellsUpto17
import Derived.Test.YtkddlhcpplkpbaaKMessageTellsUpto18
set_option linter.unusedVariables false
set_option linter.unusedSimpArgs false
set_option linter.unusedSectionVars false
section
namespace Go.Proofs.Ytkddlhcpplkpbaa.G
open WB Go.RowKit Go.Proofs.YtkddlhcpplkpbaaW.PrintWords Go.Proofs.YtkddlhcpplkpbaaW.PrintLast Go.Proofs.YtkddlhcpplkpbaaW.PrintMore
attribute [local go_sem] max2_int min2_int max_two min_two max_three min_three max_four min_four   -- for this text's walks alone
set_option maxRecDepth 100000 in
theorem assert_nil (w : World) : (Instr.typeAssert .nilIface 20 26 true).run Try.prog w = .ok (.tuple #[.int .i64 0, .bool false]) w := by
 rfl
set_option maxRecDepth 100000 in
theorem assert_errno (e : Int) (w : World) : (Instr.typeAssert (.iface 26 (.int .i64 e)) 20 26 true).run Try.prog w = .ok (.tuple #[.int .i64 e, .bool true]) w := by
 rfl
set_option maxHeartbeats 4000000 in
set_option maxRecDepth 100000 in
/-- What Decode defers, where nothing panics. -/
theorem decode_back (pm pe : Addr) (w : World) : CallsD Try.prog 28 #[.pointer (some pm), .pointer (some pe)] .returning w fun e u' w' => e = .returned (.tuple #[]) ∧ u' = .returning ∧ w' = w := by
 refine callsD_of_wpS Try.func28 rfl fun c₀ cs hu => ?_
 apply wpS_seq
 apply wpS_region
 simp [wpOpsS, go_sem, recoverD, hu, Try.ntmps28, Exit.thenS, assert_nil]
 apply wpS_seq
 apply wpS_region
 simp [wpOpsS, go_sem, Try.ntmps28, Exit.thenS, Array.replicate]
 refine wpS_cond (t := false) (by simp [Act.eval, Array.replicate]) ?_
 simp only [Bool.false_eq_true, if_false]
 refine wpS_of_wp (wp_skip ?_)
 cases c₀
 simp_all [bodyPostS, results, Try.results28]
set_option maxHeartbeats 4000000 in
set_option maxRecDepth 100000 in
/-- What Decode defers, where a fault comes through. -/
theorem decode_fault (gm ge : Nat) (hne : gm ≠ ge) (e e0 : Int) (z0 z1 z2 z3 z4 z5 z6 z7 z8 z9 z10 : Int) (D0 : Value) (older : List PanicEntry) (w : World) (hm : w.heap[gm]? = some (.cells (msgCells [z0, z1, z2, z3, z4, z5, z6, z7, z8, z9, z10] D0) 25 (0, 0))) (he : w.heap[ge]? = some (.cells #[.int .i64 e0] 26 (0, 0))) : CallsD Try.prog 28 #[.pointer (some ⟨gm, 0, none⟩), .pointer (some ⟨ge, 0, none⟩)] (.panicking ({ v := .iface 26 (.int .i64 e), recovered := false } :: older)) w fun r u' w' => r = .returned (.tuple #[]) ∧ u' = .panicking ({ v := .iface 26 (.int .i64 e), recovered := true } :: older) ∧ w' = (fillW w gm 0 0 0 0 0 0 0 0 0 0 0 (.slice none 0 0)).setCell ⟨ge, 0, none⟩ (.int .i64 e) := by
 have hms := hm
 rw [msg_lit] at hms
 have r0 : w.cell? ⟨gm, 0, none⟩ = some (.int .i64 z0) := (blk_cell hms 0).trans rfl
 have t0 : w.frozen? ⟨gm, 0, none⟩ = false := blk_frozen hms 0
 have r1 : w.cell? ⟨gm, 1, none⟩ = some (.int .i64 z1) := (blk_cell hms 1).trans rfl
 have t1 : w.frozen? ⟨gm, 1, none⟩ = false := blk_frozen hms 1
 have r2 : w.cell? ⟨gm, 2, none⟩ = some (.int .i64 z2) := (blk_cell hms 2).trans rfl
 have t2 : w.frozen? ⟨gm, 2, none⟩ = false := blk_frozen hms 2
 have r3 : w.cell? ⟨gm, 3, none⟩ = some (.int .i64 z3) := (blk_cell hms 3).trans rfl
 have t3 : w.frozen? ⟨gm, 3, none⟩ = false := blk_frozen hms 3
 have r4 : w.cell? ⟨gm, 4, none⟩ = some (.int .i64 z4) := (blk_cell hms 4).trans rfl
 have t4 : w.frozen? ⟨gm, 4, none⟩ = false := blk_frozen hms 4
 have r5 : w.cell? ⟨gm, 5, none⟩ = some (.int .i64 z5) := (blk_cell hms 5).trans rfl
 have t5 : w.frozen? ⟨gm, 5, none⟩ = false := blk_frozen hms 5
 have r6 : w.cell? ⟨gm, 6, none⟩ = some (.int .i64 z6) := (blk_cell hms 6).trans rfl
 have t6 : w.frozen? ⟨gm, 6, none⟩ = false := blk_frozen hms 6
 have r7 : w.cell? ⟨gm, 7, none⟩ = some (.int .i64 z7) := (blk_cell hms 7).trans rfl
 have t7 : w.frozen? ⟨gm, 7, none⟩ = false := blk_frozen hms 7
 have r8 : w.cell? ⟨gm, 8, none⟩ = some (.int .i64 z8) := (blk_cell hms 8).trans rfl
 have t8 : w.frozen? ⟨gm, 8, none⟩ = false := blk_frozen hms 8
 have r9 : w.cell? ⟨gm, 9, none⟩ = some (.int .i64 z9) := (blk_cell hms 9).trans rfl
 have t9 : w.frozen? ⟨gm, 9, none⟩ = false := blk_frozen hms 9
 have r10 : w.cell? ⟨gm, 10, none⟩ = some (.int .i64 z10) := (blk_cell hms 10).trans rfl
 have t10 : w.frozen? ⟨gm, 10, none⟩ = false := blk_frozen hms 10
 have r11 : w.cell? ⟨gm, 11, none⟩ = some (D0) := (blk_cell hms 11).trans rfl
 have t11 : w.frozen? ⟨gm, 11, none⟩ = false := blk_frozen hms 11
 have r12 : w.cell? ⟨ge, 0, none⟩ = some (.int .i64 e0) := (blk_cell he 0).trans rfl
 have t12 : w.frozen? ⟨ge, 0, none⟩ = false := blk_frozen he 0
 have hne2 : ge ≠ gm := Ne.symm hne
 clear hms hm he
 refine callsD_of_wpS Try.func28 rfl fun c₀ cs hu => ?_
 apply wpS_seq
 apply wpS_region
 simp [wpOpsS, go_sem, recoverD, hu, Try.ntmps28, Exit.thenS, assert_errno]
 apply wpS_seq
 apply wpS_region
 simp [wpOpsS, go_sem, Try.ntmps28, Exit.thenS, Array.replicate]
 refine wpS_cond (t := true) (by simp [Act.eval, Array.replicate]) ?_
 simp only [if_true]
 refine wpS_of_wp ?_
 go_wp2_with fail
 simp [bodyPostS, results, Try.results28, go_sem, fillW]
theorem decM_err {k : Nat} {l : List Int} {d : Int × List Int × List Int} (h : decM k l = some d) (hd : d.1 ≠ 0) : d.2.1 = [] ∧ d.2.2 = [] := by
 unfold decM at h
 split at h
 · split at h
   · obtain rfl := Option.some.inj h; exact ⟨rfl, rfl⟩
   · split at h
     · split at h
       · obtain ⟨t, _, h⟩ := Option.bind_eq_some_iff.1 h
         split at h
         · split at h
           · obtain rfl := Option.some.inj h; exact absurd rfl hd
           · obtain rfl := Option.some.inj h; exact ⟨rfl, rfl⟩
         · obtain rfl := Option.some.inj h; exact ⟨rfl, rfl⟩
       · split at h
         · obtain rfl := Option.some.inj h; exact absurd rfl hd
         · obtain rfl := Option.some.inj h; exact ⟨rfl, rfl⟩
     · obtain rfl := Option.some.inj h; exact ⟨rfl, rfl⟩
 · obtain rfl := Option.some.inj h; exact ⟨rfl, rfl⟩
theorem run_load_int {P : Program} {w : World} {g T t : Nat} {k : IntKind} {x : Int} (hg : w.heap[g]? = some (.cells #[.int k x] T (0, 0))) (hu : P.underlying t = some (.int k)) : (loadVar t ⟨g, 0, none⟩).run P w = .ok (.int k x) w := by
 have hc : w.cell? ⟨g, 0, none⟩ = some (.int k x) := (blk_cell hg 0).trans rfl
 have hagg : (isAgg t).run P w = .ok false w := by
  unfold isAgg
  rw [Sem.run_bind, run_underlying hu w]
  rfl
 simp [loadVar, Sem.run_bind, hagg, hc, go_sem]
theorem results_two {fn : Func} {p q : Tmp} {ty tq : TypeId} {P : Program} (h : fn.results = #[.cell p ty, .cell q tq]) (tmps : Array Value) (w : World) (g g2 : Nat) (v v2 : Value)
  (hp : tmps.getD p undef = .pointer (some ⟨g, 0, none⟩)) (hq : tmps.getD q undef = .pointer (some ⟨g2, 0, none⟩)) (h1 : (loadVar ty ⟨g, 0, none⟩).run P w = .ok v w) (h2 : (loadVar tq ⟨g2, 0, none⟩).run P w = .ok v2 w) :
  (results fn tmps).run P w = .ok (.tuple #[v, v2]) w := by
 have hp' : tmps[p]?.getD undef = .pointer (some ⟨g, 0, none⟩) := by simpa using hp
 have hq' : tmps[q]?.getD undef = .pointer (some ⟨g2, 0, none⟩) := by simpa using hq
 simp [results, h, hp', hq', asAddr, h1, h2]
set_option maxHeartbeats 4000000 in
set_option maxRecDepth 100000 in
theorem message_decode (k : Nat) (A : Option Addr) (c : Nat) (l : List Int) (d : Int × List Int × List Int) (w : World) (hr : Kd.C (Kd.int .u8) w A l.length l) (hc : l.length ≤ c) (hok : octetsOk l = true) (hd : decM k l = some d) :
   Calls Try.prog 10 #[.slice A l.length c] w fun e w' => (if d.1 = 0 then ∃ v, e = .returned (.tuple #[.agg (msgCells d.2.1 v), .int .i64 0]) ∧ d.2.1.length = 11 ∧ Kd.R (Kd.int .u8) 5 w' w.heap.size (fun _ => True) v d.2.2 else e = .returned (.tuple #[.agg (msgCells [0, 0, 0, 0, 0, 0, 0, 0, 0, 0, 0] (.slice none 0 0)), .int .i64 d.1])) ∧ Below w.heap.size w w' := by
 have HR := Aside0.mk hr
 have HC := Aside0.mk hc
 have HOK := Aside0.mk hok
 have HD := Aside0.mk hd
 clear hr hc hok hd
 have hmf : ∀ (fn : Fn) (first cap : Array Value) (w : World), (Instr.makeFunc fn first cap).run Try.prog w = .ok (.func fn first cap) w := fun _ _ _ _ => rfl
 go_enter_defers Try.func10, Try.ntmps10
 go_wp2_with fail
 go_at_call 29
 obtain ⟨W0, hW0⟩ : ∃ W, W = ((w.alloc (.cells #[.int .i64 0, .int .i64 0, .int .i64 0, .int .i64 0, .int .i64 0, .int .i64 0, .int .i64 0, .int .i64 0, .int .i64 0, .int .i64 0, .int .i64 0, .slice none 0 0] 25)).alloc (.cells #[.int .i64 0] 26)).alloc (.cells #[.slice A l.length c, .int .i64 0] 59) := ⟨_, rfl⟩
 rw [← hW0]
 have B0 := Aside0.mk (show W0.heap[w.heap.size]? = some (.cells (msgCells [0, 0, 0, 0, 0, 0, 0, 0, 0, 0, 0] (.slice none 0 0)) 25 (0, 0)) by rw [hW0, msg_lit]; exact blk_alloc (blk_alloc (heap_new1 _ _) _) _)
 have B1 := Aside0.mk (show W0.heap[w.heap.size + 1]? = some (.cells #[.int .i64 0] 26 (0, 0)) by rw [hW0]; exact blk_alloc (heap_new2 _ _ _) _)
 have B2 := Aside0.mk (show W0.heap[w.heap.size + 1 + 1]? = some (.cells #[.slice A l.length c, .int .i64 0] 59 (0, 0)) by rw [hW0]; exact heap_new3 _ _ _ _)
 have HB := Aside0.mk (show Below w.heap.size w W0 by rw [hW0]; exact below_alloc (below_alloc (below_alloc (Below.refl _ _) _) _) _)
 have HS0 : Aside0 (W0.heap.size = w.heap.size + 1 + 1 + 1) := ⟨by rw [hW0]; simp⟩
 clear hW0
 with_reducible refine (reader_message k (w.heap.size + 1 + 1) A c l 0 w W0 d B2.out HB.out (by omega) HR.out HC.out HOK.out HD.out).mono ?_
 rintro r w3 ⟨hres, hbel, hkeep⟩
 have C0 := Aside0.mk ((hkeep w.heap.size (blk_lt B0.out) (by omega)).trans B0.out)
 have C1 := Aside0.mk ((hkeep (w.heap.size + 1) (blk_lt B1.out) (by omega)).trans B1.out)
 have HB3 := Aside0.mk hbel
 clear hbel hkeep
 by_cases hd0 : d.1 = 0
 · rw [if_pos hd0] at hres
   obtain ⟨v, rfl, hlen, hrr⟩ := hres
   obtain ⟨A3, c3, rfl⟩ := Kd.R_slice hrr
   have HR3 := Aside0.mk hrr
   obtain ⟨dn, hdn⟩ : ∃ dn, dn = d.2.1 := ⟨_, rfl⟩
   rw [← hdn] at hlen
   have HDN := Aside0.mk hdn
   have HL := Aside0.mk hlen
   obtain ⟨x0, x1, x2, x3, x4, x5, x6, x7, x8, x9, x10, rfl⟩ := list11 hlen
   rw [← hdn, msg_lit]
   clear hrr hdn hlen
   have hms := C0.out
   rw [msg_lit] at hms
   have r0 : w3.cell? ⟨w.heap.size, 0, none⟩ = some (.int .i64 0) := (blk_cell hms 0).trans rfl
   have u0_ : w3.frozen? ⟨w.heap.size, 0, none⟩ = false := blk_frozen hms 0
   have r1 : w3.cell? ⟨w.heap.size, 1, none⟩ = some (.int .i64 0) := (blk_cell hms 1).trans rfl
   have u1_ : w3.frozen? ⟨w.heap.size, 1, none⟩ = false := blk_frozen hms 1
   have r2 : w3.cell? ⟨w.heap.size, 2, none⟩ = some (.int .i64 0) := (blk_cell hms 2).trans rfl
   have u2_ : w3.frozen? ⟨w.heap.size, 2, none⟩ = false := blk_frozen hms 2
   have r3 : w3.cell? ⟨w.heap.size, 3, none⟩ = some (.int .i64 0) := (blk_cell hms 3).trans rfl
   have u3_ : w3.frozen? ⟨w.heap.size, 3, none⟩ = false := blk_frozen hms 3
   have r4 : w3.cell? ⟨w.heap.size, 4, none⟩ = some (.int .i64 0) := (blk_cell hms 4).trans rfl
   have u4_ : w3.frozen? ⟨w.heap.size, 4, none⟩ = false := blk_frozen hms 4
   have r5 : w3.cell? ⟨w.heap.size, 5, none⟩ = some (.int .i64 0) := (blk_cell hms 5).trans rfl
   have u5_ : w3.frozen? ⟨w.heap.size, 5, none⟩ = false := blk_frozen hms 5
   have r6 : w3.cell? ⟨w.heap.size, 6, none⟩ = some (.int .i64 0) := (blk_cell hms 6).trans rfl
   have u6_ : w3.frozen? ⟨w.heap.size, 6, none⟩ = false := blk_frozen hms 6
   have r7 : w3.cell? ⟨w.heap.size, 7, none⟩ = some (.int .i64 0) := (blk_cell hms 7).trans rfl
   have u7_ : w3.frozen? ⟨w.heap.size, 7, none⟩ = false := blk_frozen hms 7
   have r8 : w3.cell? ⟨w.heap.size, 8, none⟩ = some (.int .i64 0) := (blk_cell hms 8).trans rfl
   have u8_ : w3.frozen? ⟨w.heap.size, 8, none⟩ = false := blk_frozen hms 8
   have r9 : w3.cell? ⟨w.heap.size, 9, none⟩ = some (.int .i64 0) := (blk_cell hms 9).trans rfl
   have u9_ : w3.frozen? ⟨w.heap.size, 9, none⟩ = false := blk_frozen hms 9
   have r10 : w3.cell? ⟨w.heap.size, 10, none⟩ = some (.int .i64 0) := (blk_cell hms 10).trans rfl
   have u10_ : w3.frozen? ⟨w.heap.size, 10, none⟩ = false := blk_frozen hms 10
   have r11 : w3.cell? ⟨w.heap.size, 11, none⟩ = some (.slice none 0 0) := (blk_cell hms 11).trans rfl
   have u11_ : w3.frozen? ⟨w.heap.size, 11, none⟩ = false := blk_frozen hms 11
   have rE : w3.cell? ⟨w.heap.size + 1, 0, none⟩ = some (.int .i64 0) := (blk_cell C1.out 0).trans rfl
   have uE : w3.frozen? ⟨w.heap.size + 1, 0, none⟩ = false := blk_frozen C1.out 0
   clear hms
   go_wp2_with fail
   dsimp only [bodyPostD]
   refine leaves_cons (f := 28) (args := #[.pointer (some ⟨w.heap.size, 0, none⟩), .pointer (some ⟨w.heap.size + 1, 0, none⟩)]) (by simp) (by simp [go_sem]) ?_
   refine (decode_back ⟨w.heap.size, 0, none⟩ ⟨w.heap.size + 1, 0, none⟩ _).mono ?_
   rintro e u' w4 ⟨rfl, rfl, rfl⟩
   dsimp only [settle, List.dropWhile]
   have m1 : _ := msg_fill C0.out x0 x1 x2 x3 x4 x5 x6 x7 x8 x9 x10 (.slice A3 d.2.2.length c3)
   have m2 := blk_far m1 (p := ⟨w.heap.size + 1, 0, none⟩) (by simp) (.int .i64 0)
   have e1 := (fill_keep (W := w3) x0 x1 x2 x3 x4 x5 x6 x7 x8 x9 x10 (.slice A3 d.2.2.length c3) (w.heap.size + 1) (show w.heap.size + 1 ≠ w.heap.size by omega)).trans C1.out
   have e2 := blk_put e1 0 (.int .i64 0) rfl
   refine ⟨_, results_two rfl _ _ w.heap.size (w.heap.size + 1) _ _ rfl rfl (run_loadVar_row _ _ _ _ _ _ _ m2 Try.underlying25 rfl (by kernel_rfl)) (run_load_int e2 Try.underlying26), ⟨_, by rw [← HDN.out, msg_lit], by rw [← HDN.out]; rfl, ?_⟩, below_set (msg_fillB HB3.out (Nat.le_refl _) _ _ _ _ _ _ _ _ _ _ _ _) (by omega)⟩
   have hs0 := HS0.out
   refine Kd.R_lower (Kd.R_mono (Kd.R_step (Kd.R_bound HR3.out) (fun k hk _ => ?_)) (fun _ _ => trivial)) (show w.heap.size ≤ W0.heap.size by omega)
   have hk1 := hk.2.1
   exact (Below.heap_setCell _ ⟨w.heap.size + 1, 0, none⟩ _ k (by show k ≠ _; simp; omega)).trans (fill_keep x0 x1 x2 x3 x4 x5 x6 x7 x8 x9 x10 (.slice A3 d.2.2.length c3) k (by omega))
 · rw [if_neg hd0] at hres
   subst hres
   refine leaves_cons (f := 28) (args := #[.pointer (some ⟨w.heap.size, 0, none⟩), .pointer (some ⟨w.heap.size + 1, 0, none⟩)]) (by simp) (by simp [go_sem]) ?_
   refine (decode_fault w.heap.size (w.heap.size + 1) (by omega) d.1 0 0 0 0 0 0 0 0 0 0 0 0 (.slice none 0 0) [] w3 C0.out C1.out).mono ?_
   rintro e u' w4 ⟨rfl, rfl, rfl⟩
   dsimp only [settle, List.dropWhile]
   refine ⟨.tuple #[.agg #[.int .i64 0, .int .i64 0, .int .i64 0, .int .i64 0, .int .i64 0, .int .i64 0, .int .i64 0, .int .i64 0, .int .i64 0, .int .i64 0, .int .i64 0, .slice none 0 0], .int .i64 d.1], ?_, ?_⟩
   case refine_1 =>
     have m1 : _ := msg_fill C0.out 0 0 0 0 0 0 0 0 0 0 0 (.slice none 0 0)
     have m2 := blk_far m1 (p := ⟨w.heap.size + 1, 0, none⟩) (by simp) (.int .i64 d.1)
     have e1 := (fill_keep (W := w3) 0 0 0 0 0 0 0 0 0 0 0 (.slice none 0 0) (w.heap.size + 1) (show w.heap.size + 1 ≠ w.heap.size by omega)).trans C1.out
     have e2 := blk_put e1 0 (.int .i64 d.1) rfl
     exact results_two rfl _ _ w.heap.size (w.heap.size + 1) _ _ rfl rfl (run_loadVar_row _ _ _ _ _ _ _ m2 Try.underlying25 rfl (by kernel_rfl)) (run_load_int e2 Try.underlying26)
   · dsimp only
     rw [if_neg hd0]
     exact ⟨by rw [msg_lit], below_set (msg_fillB HB3.out (Nat.le_refl _) _ _ _ _ _ _ _ _ _ _ _ _) (by omega)⟩
def message_Decode.f (k : Nat) (l0 : List Int) : Option (Int × Int × Int × Int × Int × Int × Int × Int × Int × Int × Int × List Int × Int) := if octetsOk l0 = true then (decM k l0).bind fun d => some (d.2.1.getD 0 0, d.2.1.getD 1 0, d.2.1.getD 2 0, d.2.1.getD 3 0, d.2.1.getD 4 0, d.2.1.getD 5 0, d.2.1.getD 6 0, d.2.1.getD 7 0, d.2.1.getD 8 0, d.2.1.getD 9 0, d.2.1.getD 10 0, d.2.2, d.1) else none
set_option maxRecDepth 100000 in
theorem message_Decode.calls (k : Nat) (A0 : Option Addr) (c0 : Nat) (l0 : List Int) (r1 : Int) (r2 : Int) (r3 : Int) (r4 : Int) (r5 : Int) (r6 : Int) (r7 : Int) (r8 : Int) (r9 : Int) (r10 : Int) (r11 : Int) (r12 : List Int) (r13 : Int) (w : World) (hr0 : Kd.C (Kd.int .u8) w A0 l0.length l0) (hc0 : l0.length ≤ c0) (h : message_Decode.f k l0 = some (r1, r2, r3, r4, r5, r6, r7, r8, r9, r10, r11, r12, r13)) :
   Calls Try.prog 10 #[.slice A0 l0.length c0] w fun e w' => ∃ v11_ : Value, e = .returned (.tuple #[.agg #[.int .i64 r1, .int .i64 r2, .int .i64 r3, .int .i64 r4, .int .i64 r5, .int .i64 r6, .int .i64 r7, .int .i64 r8, .int .i64 r9, .int .i64 r10, .int .i64 r11, v11_], .int .i64 r13]) ∧ Kd.R (Kd.int .u8) 5 w' w.heap.size (fun _ => True) v11_ r12 ∧ Below w.heap.size w w' := by
 unfold message_Decode.f at h
 split at h
 case isFalse => cases h
 case isTrue hok =>
 obtain ⟨d, hd, h⟩ := Option.bind_eq_some_iff.1 h
 simp only [Option.some.injEq, Prod.mk.injEq] at h
 obtain ⟨rfl, rfl, rfl, rfl, rfl, rfl, rfl, rfl, rfl, rfl, rfl, rfl, rfl⟩ := h
 refine (message_decode k A0 c0 l0 d w hr0 hc0 hok hd).mono ?_
 rintro e w' ⟨h, hb⟩
 by_cases h0 : d.1 = 0
 · rw [if_pos h0] at h
   obtain ⟨v, rfl, hl, hr⟩ := h
   rw [h0]
   obtain ⟨x0, x1, x2, x3, x4, x5, x6, x7, x8, x9, x10, hx⟩ := list11 hl
   rw [hx]
   exact ⟨v, rfl, hr, hb⟩
 · rw [if_neg h0] at h
   subst h
   obtain ⟨e1, e2⟩ := decM_err hd h0
   rw [e1, e2]
   exact ⟨_, rfl, Kd.R_nil _ _ _ _ _, hb⟩
end Go.Proofs.Ytkddlhcpplkpbaa.G
end
section
namespace Go.Proofs.Ytkddlhcpplkpbaa.G
open WB Go.RowKit Go.Proofs.YtkddlhcpplkpbaaW.PrintWords Go.Proofs.YtkddlhcpplkpbaaW.PrintLast Go.Proofs.YtkddlhcpplkpbaaW.PrintMore
attribute [local go_sem] max2_int min2_int max_two min_two max_three min_three max_four min_four   -- for this text's walks alone
def waybilllaw09_num.f (a0 : Int) : Option (Int) := some a0
set_option maxHeartbeats 8000000 in
set_option maxRecDepth 100000 in
theorem waybilllaw09_num.calls (a0 : Int) (r : Int) (w : World) (h : waybilllaw09_num.f a0 = some r) :
  Calls Try.prog 11 #[.int .i64 a0] w fun e w' => e = .returned (.int .i64 r) ∧ Drawn0 w w' := by
 have H : (some a0) = some r := h
 clear h
 obtain rfl := Option.some.inj H
 simp only [Option.some.injEq, Prod.mk.injEq] at H
 obtain ⟨rfl⟩ := H
 go_enter Try.func11, Try.ntmps11
 go_wp2
 go_ret
 exact ⟨by first | rfl | (simp; done) | (simp [*]; done), by repeat (first | exact Drawn0.refl _ | apply Drawn0.step)⟩
end Go.Proofs.Ytkddlhcpplkpbaa.G
end
section
namespace Go.Proofs.Ytkddlhcpplkpbaa.G
open WB Go.RowKit Go.Proofs.YtkddlhcpplkpbaaW.PrintWords Go.Proofs.YtkddlhcpplkpbaaW.PrintLast Go.Proofs.YtkddlhcpplkpbaaW.PrintMore
attribute [local go_sem] max2_int min2_int max_two min_two max_three min_three max_four min_four   -- for this text's walks alone
/-- The first place of one that a test takes; none: -1. -/
def fstI (p : Int → Bool) (l : List Int) : Int := if l.any p = true then (l.findIdx p : Int) else -1
theorem fstI_none (p : Int → Bool) (l : List Int) (h : ∀ x ∈ l, p x = false) : fstI p l = -1 := by
 unfold fstI
 rw [if_neg]
 rw [List.any_eq_true]
 rintro ⟨x, hx, hp⟩
 rw [h x hx] at hp
 cases hp
theorem fstI_at (p : Int → Bool) (l : List Int) (k : Nat) (d : Int) (hd : l[k]? = some d) (hp : p d = true) (h : ∀ x ∈ l.take k, p x = false) : fstI p l = k := by
 obtain ⟨hk, rfl⟩ := List.getElem?_eq_some_iff.1 hd
 unfold fstI
 rw [if_pos (List.any_eq_true.2 ⟨_, List.getElem_mem hk, hp⟩)]
 congr 1
 rw [List.findIdx_eq hk]
 exact ⟨hp, fun j hj => h _ (List.mem_take_iff_getElem.2 ⟨j, by omega, rfl⟩)⟩
/-- What a test of numbers does: it answers, and keeps what it rests on. -/
structure TestsI (f : FuncId) (fn : Func) (first cap : Array Value) (p : Int → Bool) (Inv : World → Prop) : Prop where
 hf : Try.prog.funcs[f]? = some fn
 hname : (fn.name == "runtime.NumGoroutine") = false
 hb : fn.body.isSome = true
 keep : ∀ W W', Below W.heap.size W W' → Inv W → Inv W'
 does : ∀ x W, Inv W → Calls Try.prog f (first ++ #[.int .i64 x] ++ cap) W fun e w' => e = .returned (.bool (p x)) ∧ Below W.heap.size W w'
set_option maxHeartbeats 2000000 in
set_option maxRecDepth 100000 in
theorem index_ints (B : Option Addr) (c : Nat) (l : List Int) (f : FuncId) (fn : Func) (first cap : Array Value) (p : Int → Bool) (Inv : World → Prop) (w : World) (ht : TestsI f fn first cap p Inv) (hi : Inv w) (hr : Kd.C (Kd.int .i64) w B l.length l) (hc : l.length ≤ c) :
  Calls Try.prog 58 #[.slice B l.length c, .func (.func f) first cap] w fun e w' => e = .returned (.int .i64 (fstI p l)) ∧ Below w.heap.size w w' := by
 have HR := Aside0.mk hr
 have HC := Aside0.mk hc
 have HT := Aside0.mk ht
 have HI := Aside0.mk hi
 have hlen : l.length ≤ 9223372036854775807 := hr.2.1
 clear hr hc ht hi
 go_enter Try.func58, Try.ntmps58
 go_wp2_with fail
 go_loopw [8] (fun v8 wr => ∃ k : Nat, v8 = .int .i64 k ∧ k ≤ l.length ∧ Aside0 (∀ x ∈ l.take k, p x = false) ∧ Aside0 (Below w.heap.size w wr)) (fun v8 _ => l.length - (intOf v8).toNat)
 case atStart => exact ⟨0, rfl, by omega, ⟨by simp⟩, ⟨Below.refl _ _⟩⟩
 case round =>
  obtain ⟨k, rfl, hk, HF, HB⟩ := hrel
  by_cases hlt : k < l.length
  · have b1 : decide ((k : Int) < (l.length : Int)) = true := decide_eq_true (by omega)
    have b1' : decide (k < l.length) = true := decide_eq_true hlt
    obtain ⟨ad, e1, q0⟩ := Kd.at_int (Kd.C_below HR.out HB.out) (k : Int) (by omega) (by omega)
    simp only [Int.toNat_natCast] at q0
    have hrd : rd l (k : Int) = l[k] := by simp [rd, List.getElem?_eq_getElem hlt]
    rw [hrd] at q0
    obtain ⟨x, hx⟩ : ∃ x, x = l[k] := ⟨_, rfl⟩
    rw [← hx] at q0
    have HX : Aside0 (l[k]? = some x) := ⟨by rw [hx]; exact List.getElem?_eq_getElem hlt⟩
    have HIr := Aside0.mk (HT.out.keep _ _ HB.out HI.out)
    subst e1
    clear hrd hx
    have he := fun args W => enters_ HT.out.hf HT.out.hname HT.out.hb args W
    by_cases ho : p x = true
    · have HA : Aside0 (fstI p l = (k : Int)) := ⟨fstI_at p l k x HX.out ho HF.out⟩
      go_wp2_with (refine (HT.out.does x _ HIr.out).mono ?_; rintro e w1 ⟨rfl, hb⟩; rw [ho]; have HB1 := Aside0.mk hb; clear hb)
      go_ret
      exact ⟨by rw [HA.out]; rfl, below_then HB.out HB.out.size HB1.out⟩
    · have ho' : p x = false := by simpa using ho
      have HF' : Aside0 (∀ y ∈ l.take (k + 1), p y = false) := ⟨fun y hy => by
       rw [List.take_add_one, List.mem_append] at hy
       rcases hy with hy | hy
       · exact HF.out y hy
       · rw [HX.out] at hy
         simp at hy
         rw [hy]; exact ho'⟩
      clear ho
      go_wp2_with (refine (HT.out.does x _ HIr.out).mono ?_; rintro e w1 ⟨rfl, hb⟩; rw [ho']; have HB1 := Aside0.mk hb; clear hb)
      go_roundw
      case rel => exact ⟨k + 1, by go_num, by omega, HF', ⟨below_then HB.out HB.out.size HB1.out⟩⟩
      case measure => simp [intOf]; omega
  · have b1 : decide ((k : Int) < (l.length : Int)) = false := decide_eq_false (by omega)
    have b1' : decide (k < l.length) = false := decide_eq_false hlt
    have HE : Aside0 (fstI p l = -1) := ⟨fstI_none p l (by have := HF.out; rwa [List.take_of_length_le (by omega)] at this)⟩
    go_wp2
    go_ret
    exact ⟨by rw [HE.out]; rfl, HB.out⟩
end Go.Proofs.Ytkddlhcpplkpbaa.G
end
section
namespace Go.Proofs.Ytkddlhcpplkpbaa.G
open WB Go.RowKit Go.Proofs.YtkddlhcpplkpbaaW.PrintWords Go.Proofs.YtkddlhcpplkpbaaW.PrintLast Go.Proofs.YtkddlhcpplkpbaaW.PrintMore
attribute [local go_sem] max2_int min2_int max_two min_two max_three min_three max_four min_four   -- for this text's walks alone
theorem fstI_pos (p : Int → Bool) (l : List Int) : decide (fstI p l ≥ 0) = l.any p := by
 unfold fstI
 by_cases h : l.any p = true
 · rw [if_pos h, h]; exact decide_eq_true (by omega)
 · rw [if_neg h, Bool.eq_false_iff.2 h]; exact decide_eq_false (by omega)
set_option maxHeartbeats 2000000 in
set_option maxRecDepth 100000 in
theorem contains_ints (B : Option Addr) (c : Nat) (l : List Int) (f : FuncId) (fn : Func) (first cap : Array Value) (p : Int → Bool) (Inv : World → Prop) (w : World) (ht : TestsI f fn first cap p Inv) (hi : Inv w) (hr : Kd.C (Kd.int .i64) w B l.length l) (hc : l.length ≤ c) :
  Calls Try.prog 34 #[.slice B l.length c, .func (.func f) first cap] w fun e w' => e = .returned (.bool (l.any p)) ∧ Below w.heap.size w w' := by
 have HT := Aside0.mk (index_ints B c l f fn first cap p Inv w ht hi hr hc)
 clear ht hi hr hc
 go_enter Try.func34, Try.ntmps34
 go_wp2_with fail
 go_at_call 58
 with_reducible refine HT.out.mono ?_
 rintro e w1 ⟨rfl, hb⟩
 have HB := Aside0.mk hb
 have HE := Aside0.mk (fstI_pos p l)
 clear hb
 go_wp2_with fail
 go_ret
 exact ⟨by rw [← HE.out]; rfl, HB.out⟩
end Go.Proofs.Ytkddlhcpplkpbaa.G
end
section
namespace Go.Proofs.Ytkddlhcpplkpbaa.G
open WB Go.RowKit Go.Proofs.YtkddlhcpplkpbaaW.PrintWords Go.Proofs.YtkddlhcpplkpbaaW.PrintLast Go.Proofs.YtkddlhcpplkpbaaW.PrintMore
attribute [local go_sem] max2_int min2_int max_two min_two max_three min_three max_four min_four   -- for this text's walks alone
def message_numbers.f (a0_0 : Int) (a0_1 : Int) (a0_2 : Int) (a0_3 : Int) (a0_4 : Int) (a0_5 : Int) (a0_6 : Int) (a0_7 : Int) (a0_8 : Int) (a0_9 : Int) (a0_10 : Int) (l0_11 : List Int) : Option (List Int) := some (([a0_1, a0_2, a0_3, a0_4, a0_5, a0_6, a0_7, a0_8, a0_9, a0_10] : List Int))
set_option maxHeartbeats 8000000 in
set_option maxRecDepth 100000 in
theorem message_numbers.calls (a0_0 : Int) (a0_1 : Int) (a0_2 : Int) (a0_3 : Int) (a0_4 : Int) (a0_5 : Int) (a0_6 : Int) (a0_7 : Int) (a0_8 : Int) (a0_9 : Int) (a0_10 : Int) (A0_11 : Option Addr) (c0_11 : Nat) (l0_11 : List Int) (r : List Int) (w : World) (hr0_11 : Kd.C (Kd.int .u8) w A0_11 l0_11.length l0_11) (hc0_11 : l0_11.length ≤ c0_11) (h : message_numbers.f a0_0 a0_1 a0_2 a0_3 a0_4 a0_5 a0_6 a0_7 a0_8 a0_9 a0_10 l0_11 = some r) :
  Calls Try.prog 35 #[.agg #[.int .i64 a0_0, .int .i64 a0_1, .int .i64 a0_2, .int .i64 a0_3, .int .i64 a0_4, .int .i64 a0_5, .int .i64 a0_6, .int .i64 a0_7, .int .i64 a0_8, .int .i64 a0_9, .int .i64 a0_10, .slice A0_11 l0_11.length c0_11]] w fun e w' => ∃ v0_ : Value, e = .returned (v0_) ∧ Kd.R (Kd.int .i64) 3 w' w.heap.size (fun _ => True) v0_ r ∧ Below w.heap.size w w' := by
 have hu25 := Try.underlying25
 have HR0_11 := Aside0.mk hr0_11
 have HC0_11 := Aside0.mk hc0_11
 clear hr0_11 hc0_11
 have HB := Aside0.mk (Below.refl w.heap.size w)
 have H : (some (([a0_1, a0_2, a0_3, a0_4, a0_5, a0_6, a0_7, a0_8, a0_9, a0_10] : List Int))) = some r := h
 clear h
 obtain ⟨y110, hy110⟩ : ∃ y_ : List Int, y_ = (([a0_1, a0_2, a0_3, a0_4, a0_5, a0_6, a0_7, a0_8, a0_9, a0_10] : List Int)) := ⟨_, rfl⟩
 replace H : (some y110) = some r := by first | (rw [hy110]; with_reducible exact H) | (have H2_ := (Option.bind_some _ _).symm.trans H; rw [hy110]; with_reducible exact H2_) | (have H2_ := (Option.bind_some _ _).symm.trans H; with_reducible exact H2_) | with_reducible exact H | (rw [hy110]; exact H) | exact H
 have Ny110 := Aside0.mk hy110
 clear hy110
 obtain rfl := Option.some.inj H
 simp only [Option.some.injEq, Prod.mk.injEq] at H
 obtain ⟨rfl⟩ := H
 go_enter Try.func35, Try.ntmps35
 go_wp2_with (first | ((with_reducible refine gate_dst (N := 1) rfl ?_); refine box_event ?hg (N := 1) ?hd (cs := #[.int .i64 a0_0, .int .i64 a0_1, .int .i64 a0_2, .int .i64 a0_3, .int .i64 a0_4, .int .i64 a0_5, .int .i64 a0_6, .int .i64 a0_7, .int .i64 a0_8, .int .i64 a0_9, .int .i64 a0_10, .slice A0_11 l0_11.length c0_11]) (t := 25) ?hr ?_; (case hd => rfl); (case hg => rfl); (case hr => first | (go_simp; done) | (go_simp; rfl)); intro gb109 hg w2 hbox hb; have n0_ := Aside0.mk (below_step (by repeat (first | (with_reducible first | exact HB.out | apply below_alloc | apply pw_below_drewN | apply below_drew1) | exact HB.out)) hb); have n1_ := Aside0.mk (hbox); have n2_ := Aside0.mk ((by rw [hg]; exact (below_size (by repeat (first | (with_reducible first | exact HB.out | apply below_alloc | apply pw_below_drewN | apply below_drew1) | exact HB.out))) : w.heap.size ≤ gb109)); have n3_ := Aside0.mk ((by rw [hg]; exact (below_size (by repeat (first | (with_reducible first | exact HB.out | apply below_alloc | apply pw_below_drewN | apply below_drew1) | exact HB.out))) : w.heap.size ≤ gb109)); clear HB; have HB := n0_; have BK109 := n1_; have GW109 := n2_; have GE109 := n3_; clear n0_ n1_ n2_ n3_; clear hb hbox hg; have hcz3_0 : w2.cell? ⟨gb109, 0, none⟩ = some (.int .i64 a0_0) := (blk_cell BK109.out 0).trans rfl; have hcz3_1 : w2.cell? ⟨gb109, 1, none⟩ = some (.int .i64 a0_1) := (blk_cell BK109.out 1).trans rfl; have hcz3_2 : w2.cell? ⟨gb109, 2, none⟩ = some (.int .i64 a0_2) := (blk_cell BK109.out 2).trans rfl; have hcz3_3 : w2.cell? ⟨gb109, 3, none⟩ = some (.int .i64 a0_3) := (blk_cell BK109.out 3).trans rfl; have hcz3_4 : w2.cell? ⟨gb109, 4, none⟩ = some (.int .i64 a0_4) := (blk_cell BK109.out 4).trans rfl; have hcz3_5 : w2.cell? ⟨gb109, 5, none⟩ = some (.int .i64 a0_5) := (blk_cell BK109.out 5).trans rfl; have hcz3_6 : w2.cell? ⟨gb109, 6, none⟩ = some (.int .i64 a0_6) := (blk_cell BK109.out 6).trans rfl; have hcz3_7 : w2.cell? ⟨gb109, 7, none⟩ = some (.int .i64 a0_7) := (blk_cell BK109.out 7).trans rfl; have hcz3_8 : w2.cell? ⟨gb109, 8, none⟩ = some (.int .i64 a0_8) := (blk_cell BK109.out 8).trans rfl; have hcz3_9 : w2.cell? ⟨gb109, 9, none⟩ = some (.int .i64 a0_9) := (blk_cell BK109.out 9).trans rfl; have hcz3_10 : w2.cell? ⟨gb109, 10, none⟩ = some (.int .i64 a0_10) := (blk_cell BK109.out 10).trans rfl; have hcz3_11 : w2.cell? ⟨gb109, 11, none⟩ = some (.slice A0_11 l0_11.length c0_11) := (blk_cell BK109.out 11).trans rfl; have hfz3_0 := blk_frozen BK109.out 0; have hfz3_1 := blk_frozen BK109.out 1; have hfz3_2 := blk_frozen BK109.out 2; have hfz3_3 := blk_frozen BK109.out 3; have hfz3_4 := blk_frozen BK109.out 4; have hfz3_5 := blk_frozen BK109.out 5; have hfz3_6 := blk_frozen BK109.out 6; have hfz3_7 := blk_frozen BK109.out 7; have hfz3_8 := blk_frozen BK109.out 8; have hfz3_9 := blk_frozen BK109.out 9; have hfz3_10 := blk_frozen BK109.out 10; have hfz3_11 := blk_frozen BK109.out 11) | ((with_reducible refine gate_dst (N := 23) rfl ?_); refine Kd.R_lit (Kd.int .i64) _ 3 ?hg (N := 23) ?hd (xs := ([a0_1, a0_2, a0_3, a0_4, a0_5, a0_6, a0_7, a0_8, a0_9, a0_10] : List Int)) (inner := [.int .i64 a0_1, .int .i64 a0_2, .int .i64 a0_3, .int .i64 a0_4, .int .i64 a0_5, .int .i64 a0_6, .int .i64 a0_7, .int .i64 a0_8, .int .i64 a0_9, .int .i64 a0_10]) (ok := fun _ => True) (okp := fun _ => True) ?hr ?hp (fun _ hk => hk) trivial (Below.refl _ _) (Nat.le_refl _) (by simp) ?_; (case hd => rfl); (case hg => rfl); (case hr => first | (go_simp; done) | (go_simp; rfl)); (case hp => exact (Reps.one (show Kd.M (Kd.int .i64) _ _ _ a0_1 [.int .i64 a0_1] from rfl) (Reps.one (show Kd.M (Kd.int .i64) _ _ _ a0_2 [.int .i64 a0_2] from rfl) (Reps.one (show Kd.M (Kd.int .i64) _ _ _ a0_3 [.int .i64 a0_3] from rfl) (Reps.one (show Kd.M (Kd.int .i64) _ _ _ a0_4 [.int .i64 a0_4] from rfl) (Reps.one (show Kd.M (Kd.int .i64) _ _ _ a0_5 [.int .i64 a0_5] from rfl) (Reps.one (show Kd.M (Kd.int .i64) _ _ _ a0_6 [.int .i64 a0_6] from rfl) (Reps.one (show Kd.M (Kd.int .i64) _ _ _ a0_7 [.int .i64 a0_7] from rfl) (Reps.one (show Kd.M (Kd.int .i64) _ _ _ a0_8 [.int .i64 a0_8] from rfl) (Reps.one (show Kd.M (Kd.int .i64) _ _ _ a0_9 [.int .i64 a0_9] from rfl) (Reps.one (show Kd.M (Kd.int .i64) _ _ _ a0_10 [.int .i64 a0_10] from rfl) (Reps.none _ _)))))))))))); intro v111 w4 ho5 hb hg_ hnew_; clear hg_ hnew_; (first | rw [← Ny110.out] at ho5 | (simp only [Int.reduceToNat] at ho5; rw [← Ny110.out] at ho5)); have n0_ := Aside0.mk (Kd.R_lower ho5 (below_size (by repeat (first | (with_reducible first | exact HB.out | apply below_alloc | apply pw_below_drewN | apply below_drew1 | refine below_set ?_ GE109.out) | exact HB.out)))); have n1_ := Aside0.mk (blk_below (g := gb109) (o := .cells #[.int .i64 a0_0, .int .i64 a0_1, .int .i64 a0_2, .int .i64 a0_3, .int .i64 a0_4, .int .i64 a0_5, .int .i64 a0_6, .int .i64 a0_7, .int .i64 a0_8, .int .i64 a0_9, .int .i64 a0_10, .slice A0_11 l0_11.length c0_11] 25 (0, 0)) (by (with_reducible repeat (first | refine blk_drewN ?_ _ | refine blk_drew ?_ | refine blk_alloc ?_ _)); exact BK109.out) hb); have n2_ := Aside0.mk (below_step (by repeat (first | (with_reducible first | exact HB.out | apply below_alloc | apply pw_below_drewN | apply below_drew1 | refine below_set ?_ GE109.out) | exact HB.out)) hb); clear BK109; clear HB; have HO112 := n0_; have BK109 := n1_; have HB := n2_; clear n0_ n1_ n2_; clear hb ho5))
 go_ret
 exact ⟨_, by first | rfl | (simp [errW_none, errW_some] <;> rfl) | (simp [*, errW_none, errW_some] <;> rfl), by (with_reducible repeat (first | apply Kd.R_alloc | apply Kd.R_drewN | apply Kd.R_drew)); exact HO112.out, by repeat (first | (with_reducible first | exact HB.out | apply below_alloc | apply pw_below_drewN | apply below_drew1 | refine below_set ?_ GE109.out) | exact HB.out)⟩
end Go.Proofs.Ytkddlhcpplkpbaa.G
end
section
namespace Go.Proofs.Ytkddlhcpplkpbaa.G
open WB Go.RowKit Go.Proofs.YtkddlhcpplkpbaaW.PrintWords Go.Proofs.YtkddlhcpplkpbaaW.PrintLast Go.Proofs.YtkddlhcpplkpbaaW.PrintMore
attribute [local go_sem] max2_int min2_int max_two min_two max_three min_three max_four min_four   -- for this text's walks alone
def slices_Equal_byte_byte.l0 : Nat → List Int → List Int → Int → Int → Option (Bool)
 | 0, _, _, _, _ => none
 | k + 1, x0, x1, x12, x13 => if x13 < x12 then (if 0 ≤ x13 then (if x13 < (x0.length : Int) then (if x13 < (x1.length : Int) then (if (rd x0 x13) = (rd x1 x13) then (slices_Equal_byte_byte.l0 k x0 x1 x12 (wrap64 (x13 + 1))) else (some false)) else (none)) else (none)) else (none)) else (some true)
def slices_Equal_byte_byte.f (k : Nat) (l0 : List Int) (l1 : List Int) : Option (Bool) := if (l0.length : Int) = (l1.length : Int) then (slices_Equal_byte_byte.l0 k l0 l1 (l0.length : Int) 0) else (some false)
set_option maxHeartbeats 8000000 in
set_option maxRecDepth 100000 in
theorem slices_Equal_byte_byte.calls (k : Nat) (A0 : Option Addr) (c0 : Nat) (l0 : List Int) (A1 : Option Addr) (c1 : Nat) (l1 : List Int) (r : Bool) (w : World) (hr0 : Kd.C (Kd.int .u8) w A0 l0.length l0) (hc0 : l0.length ≤ c0) (hr1 : Kd.C (Kd.int .u8) w A1 l1.length l1) (hc1 : l1.length ≤ c1) (h : slices_Equal_byte_byte.f k l0 l1 = some r) :
   Calls Try.prog 59 #[.slice A0 l0.length c0, .slice A1 l1.length c1] w fun e w' => e = .returned (.bool r) ∧ Drawn0 w w' := by
 have HR0 := Aside0.mk hr0
 have HC0 := Aside0.mk hc0
 clear hr0 hc0
 have HR1 := Aside0.mk hr1
 have HC1 := Aside0.mk hc1
 clear hr1 hc1
 have H : (if (l0.length : Int) = (l1.length : Int) then (slices_Equal_byte_byte.l0 k l0 l1 (l0.length : Int) 0) else (some false)) = some r := h
 clear h
 by_cases c3 : (l0.length : Int) = (l1.length : Int)
 · rw [if_pos c3] at H
   have c3b0 : ((l0.length : Int) == (l1.length : Int)) = true := beq_iff_eq.mpr c3
   have c3b1 : ((l0.length : Int) != (l1.length : Int)) = false := bne_eq_false_iff_eq.mpr c3
   have c3b2 : (l0.length == l1.length) = true := by first | simpa using c3 | (simp at c3 ⊢; omega)
   clear c3
   have H' := Aside0.mk H
   clear H
   go_enter Try.func59, Try.ntmps59
   go_wp2
   repeat (go_quiet (fail); try go_wp2)
   go_loopg [13] k (fun kq v13 w' => ∃ (x13_1 : Int), v13 = .int .i64 x13_1 ∧ Aside0 (slices_Equal_byte_byte.l0 kq l0 l1 (l0.length : Int) x13_1 = some r) ∧ Aside0 (kq ≤ k) ∧ Drawn0 w w')
   case atStart => exact ⟨(0), (by first | rfl | (simp; done) | (simp [*]; done)), H', ⟨Nat.le_refl _⟩, by repeat (first | exact Drawn0.refl _ | apply Drawn0.step)⟩
   case round =>
    clear H'
    try clear c1
    try clear p2
    try clear c3
    try clear c3b0
    try clear c3b1
    try clear c3b2
    obtain ⟨x13_1, rfl, HA, HK1, ⟨m1, rfl⟩⟩ := hrel
    cases gk with
    | zero => exact absurd HA.out (by simp [slices_Equal_byte_byte.l0])
    | succ k1 =>
     have H := HA.out
     clear HA
     simp only [slices_Equal_byte_byte.l0] at H
     by_cases c4 : x13_1 < (l0.length : Int)
     · rw [if_pos c4] at H
       have c4b0 : decide (x13_1 < (l0.length : Int)) = true := decide_eq_true c4
       clear c4
       by_cases c5 : 0 ≤ x13_1
       · rw [if_pos c5] at H
         have c5b0 : decide (0 ≤ x13_1) = true := decide_eq_true c5
         clear c5
         by_cases c6 : x13_1 < (l0.length : Int)
         · rw [if_pos c6] at H
           have c6b0 : decide (x13_1 < (l0.length : Int)) = true := decide_eq_true c6
           clear c6
           by_cases c7 : x13_1 < (l1.length : Int)
           · rw [if_pos c7] at H
             have c7b0 : decide (x13_1 < (l1.length : Int)) = true := decide_eq_true c7
             clear c7
             by_cases c8 : (rd l0 x13_1) = (rd l1 x13_1)
             · rw [if_pos c8] at H
               have c8b0 : ((rd l0 x13_1) == (rd l1 x13_1)) = true := beq_iff_eq.mpr c8
               have c8b1 : ((rd l0 x13_1) != (rd l1 x13_1)) = false := bne_eq_false_iff_eq.mpr c8
               clear c8
               have H' := Aside0.mk H
               clear H
               have p113 : 0 ≤ (x13_1 : Int) := of_decide_eq_true (by assumption)
               have q113 : x13_1 < (l0.length : Int) := of_decide_eq_true (by assumption)
               obtain ⟨ad113, e113, hx113_0⟩ := Kd.at_int HR0.out x13_1 p113 q113
               cases e113
               replace p113 := eq_true p113
               replace q113 := eq_true q113
               have p114 : 0 ≤ (x13_1 : Int) := of_decide_eq_true (by assumption)
               have q114 : x13_1 < (l1.length : Int) := of_decide_eq_true (by assumption)
               obtain ⟨ad114, e114, hx114_0⟩ := Kd.at_int HR1.out x13_1 p114 q114
               cases e114
               replace p114 := eq_true p114
               replace q114 := eq_true q114
               go_wp2
               repeat (go_quiet (fail); try go_wp2)
               go_roundg k1
               case measure => have := HK1.out; omega
               case rel => exact ⟨(wrap64 (x13_1 + 1)), (by first | rfl | (simp; done) | (simp [*]; done)), H', ⟨by have := HK1.out; omega⟩, by repeat (first | exact Drawn0.refl _ | apply Drawn0.step)⟩
             · rw [if_neg c8] at H
               have c8b0 : ((rd l0 x13_1) == (rd l1 x13_1)) = false := beq_eq_false_iff_ne.mpr c8
               have c8b1 : ((rd l0 x13_1) != (rd l1 x13_1)) = true := bne_iff_ne.mpr c8
               obtain rfl := Option.some.inj H
               simp only [Option.some.injEq, Prod.mk.injEq] at H
               obtain ⟨rfl⟩ := H
               have p113 : 0 ≤ (x13_1 : Int) := of_decide_eq_true (by assumption)
               have q113 : x13_1 < (l0.length : Int) := of_decide_eq_true (by assumption)
               obtain ⟨ad113, e113, hx113_0⟩ := Kd.at_int HR0.out x13_1 p113 q113
               cases e113
               replace p113 := eq_true p113
               replace q113 := eq_true q113
               have p114 : 0 ≤ (x13_1 : Int) := of_decide_eq_true (by assumption)
               have q114 : x13_1 < (l1.length : Int) := of_decide_eq_true (by assumption)
               obtain ⟨ad114, e114, hx114_0⟩ := Kd.at_int HR1.out x13_1 p114 q114
               cases e114
               replace p114 := eq_true p114
               replace q114 := eq_true q114
               go_wp2
               repeat (go_quiet (fail); try go_wp2)
               go_ret
               exact ⟨by first | rfl | (simp; done) | (simp [*]; done), by repeat (first | exact Drawn0.refl _ | apply Drawn0.step)⟩
           · rw [if_neg c7] at H
             exact absurd H (by simp)
         · rw [if_neg c6] at H
           exact absurd H (by simp)
       · rw [if_neg c5] at H
         exact absurd H (by simp)
     · rw [if_neg c4] at H
       have c4b0 : decide (x13_1 < (l0.length : Int)) = false := decide_eq_false c4
       clear c4
       obtain rfl := Option.some.inj H
       simp only [Option.some.injEq, Prod.mk.injEq] at H
       obtain ⟨rfl⟩ := H
       go_wp2
       repeat (go_quiet (fail); try go_wp2)
       go_ret
       exact ⟨by first | rfl | (simp; done) | (simp [*]; done), by repeat (first | exact Drawn0.refl _ | apply Drawn0.step)⟩
 · rw [if_neg c3] at H
   have c3b0 : ((l0.length : Int) == (l1.length : Int)) = false := beq_eq_false_iff_ne.mpr c3
   have c3b1 : ((l0.length : Int) != (l1.length : Int)) = true := bne_iff_ne.mpr c3
   have c3b2 : (l0.length == l1.length) = false := by first | simpa using c3 | (simp at c3 ⊢; omega)
   obtain rfl := Option.some.inj H
   simp only [Option.some.injEq, Prod.mk.injEq] at H
   obtain ⟨rfl⟩ := H
   go_enter Try.func59, Try.ntmps59
   go_wp2
   repeat (go_quiet (fail); try go_wp2)
   go_ret
   exact ⟨by first | rfl | (simp; done) | (simp [*]; done), by repeat (first | exact Drawn0.refl _ | apply Drawn0.step)⟩
end Go.Proofs.Ytkddlhcpplkpbaa.G
end
section
namespace Go.Proofs.Ytkddlhcpplkpbaa.G
open WB Go.RowKit Go.Proofs.YtkddlhcpplkpbaaW.PrintWords Go.Proofs.YtkddlhcpplkpbaaW.PrintLast Go.Proofs.YtkddlhcpplkpbaaW.PrintMore
attribute [local go_sem] max2_int min2_int max_two min_two max_three min_three max_four min_four   -- for this text's walks alone
def slices_Equal_int_int.l0 : Nat → List Int → List Int → Int → Int → Option (Bool)
 | 0, _, _, _, _ => none
 | k + 1, x0, x1, x12, x13 => if x13 < x12 then (if 0 ≤ x13 then (if x13 < (x0.length : Int) then (if x13 < (x1.length : Int) then (if (rd x0 x13) = (rd x1 x13) then (slices_Equal_int_int.l0 k x0 x1 x12 (wrap64 (x13 + 1))) else (some false)) else (none)) else (none)) else (none)) else (some true)
def slices_Equal_int_int.f (k : Nat) (l0 : List Int) (l1 : List Int) : Option (Bool) := if (l0.length : Int) = (l1.length : Int) then (slices_Equal_int_int.l0 k l0 l1 (l0.length : Int) 0) else (some false)
set_option maxHeartbeats 8000000 in
set_option maxRecDepth 100000 in
theorem slices_Equal_int_int.calls (k : Nat) (A0 : Option Addr) (c0 : Nat) (l0 : List Int) (A1 : Option Addr) (c1 : Nat) (l1 : List Int) (r : Bool) (w : World) (hr0 : Kd.C (Kd.int .i64) w A0 l0.length l0) (hc0 : l0.length ≤ c0) (hr1 : Kd.C (Kd.int .i64) w A1 l1.length l1) (hc1 : l1.length ≤ c1) (h : slices_Equal_int_int.f k l0 l1 = some r) :
   Calls Try.prog 60 #[.slice A0 l0.length c0, .slice A1 l1.length c1] w fun e w' => e = .returned (.bool r) ∧ Drawn0 w w' := by
 have HR0 := Aside0.mk hr0
 have HC0 := Aside0.mk hc0
 clear hr0 hc0
 have HR1 := Aside0.mk hr1
 have HC1 := Aside0.mk hc1
 clear hr1 hc1
 have H : (if (l0.length : Int) = (l1.length : Int) then (slices_Equal_int_int.l0 k l0 l1 (l0.length : Int) 0) else (some false)) = some r := h
 clear h
 by_cases c3 : (l0.length : Int) = (l1.length : Int)
 · rw [if_pos c3] at H
   have c3b0 : ((l0.length : Int) == (l1.length : Int)) = true := beq_iff_eq.mpr c3
   have c3b1 : ((l0.length : Int) != (l1.length : Int)) = false := bne_eq_false_iff_eq.mpr c3
   have c3b2 : (l0.length == l1.length) = true := by first | simpa using c3 | (simp at c3 ⊢; omega)
   clear c3
   have H' := Aside0.mk H
   clear H
   go_enter Try.func60, Try.ntmps60
   go_wp2
   repeat (go_quiet (fail); try go_wp2)
   go_loopg [13] k (fun kq v13 w' => ∃ (x13_1 : Int), v13 = .int .i64 x13_1 ∧ Aside0 (slices_Equal_int_int.l0 kq l0 l1 (l0.length : Int) x13_1 = some r) ∧ Aside0 (kq ≤ k) ∧ Drawn0 w w')
   case atStart => exact ⟨(0), (by first | rfl | (simp; done) | (simp [*]; done)), H', ⟨Nat.le_refl _⟩, by repeat (first | exact Drawn0.refl _ | apply Drawn0.step)⟩
   case round =>
    clear H'
    try clear c1
    try clear p2
    try clear c3
    try clear c3b0
    try clear c3b1
    try clear c3b2
    obtain ⟨x13_1, rfl, HA, HK1, ⟨m1, rfl⟩⟩ := hrel
    cases gk with
    | zero => exact absurd HA.out (by simp [slices_Equal_int_int.l0])
    | succ k1 =>
     have H := HA.out
     clear HA
     simp only [slices_Equal_int_int.l0] at H
     by_cases c4 : x13_1 < (l0.length : Int)
     · rw [if_pos c4] at H
       have c4b0 : decide (x13_1 < (l0.length : Int)) = true := decide_eq_true c4
       clear c4
       by_cases c5 : 0 ≤ x13_1
       · rw [if_pos c5] at H
         have c5b0 : decide (0 ≤ x13_1) = true := decide_eq_true c5
         clear c5
         by_cases c6 : x13_1 < (l0.length : Int)
         · rw [if_pos c6] at H
           have c6b0 : decide (x13_1 < (l0.length : Int)) = true := decide_eq_true c6
           clear c6
           by_cases c7 : x13_1 < (l1.length : Int)
           · rw [if_pos c7] at H
             have c7b0 : decide (x13_1 < (l1.length : Int)) = true := decide_eq_true c7
             clear c7
             by_cases c8 : (rd l0 x13_1) = (rd l1 x13_1)
             · rw [if_pos c8] at H
               have c8b0 : ((rd l0 x13_1) == (rd l1 x13_1)) = true := beq_iff_eq.mpr c8
               have c8b1 : ((rd l0 x13_1) != (rd l1 x13_1)) = false := bne_eq_false_iff_eq.mpr c8
               clear c8
               have H' := Aside0.mk H
               clear H
               have p115 : 0 ≤ (x13_1 : Int) := of_decide_eq_true (by assumption)
               have q115 : x13_1 < (l0.length : Int) := of_decide_eq_true (by assumption)
               obtain ⟨ad115, e115, hx115_0⟩ := Kd.at_int HR0.out x13_1 p115 q115
               cases e115
               replace p115 := eq_true p115
               replace q115 := eq_true q115
               have p116 : 0 ≤ (x13_1 : Int) := of_decide_eq_true (by assumption)
               have q116 : x13_1 < (l1.length : Int) := of_decide_eq_true (by assumption)
               obtain ⟨ad116, e116, hx116_0⟩ := Kd.at_int HR1.out x13_1 p116 q116
               cases e116
               replace p116 := eq_true p116
               replace q116 := eq_true q116
               go_wp2
               repeat (go_quiet (fail); try go_wp2)
               go_roundg k1
               case measure => have := HK1.out; omega
               case rel => exact ⟨(wrap64 (x13_1 + 1)), (by first | rfl | (simp; done) | (simp [*]; done)), H', ⟨by have := HK1.out; omega⟩, by repeat (first | exact Drawn0.refl _ | apply Drawn0.step)⟩
             · rw [if_neg c8] at H
               have c8b0 : ((rd l0 x13_1) == (rd l1 x13_1)) = false := beq_eq_false_iff_ne.mpr c8
               have c8b1 : ((rd l0 x13_1) != (rd l1 x13_1)) = true := bne_iff_ne.mpr c8
               obtain rfl := Option.some.inj H
               simp only [Option.some.injEq, Prod.mk.injEq] at H
               obtain ⟨rfl⟩ := H
               have p115 : 0 ≤ (x13_1 : Int) := of_decide_eq_true (by assumption)
               have q115 : x13_1 < (l0.length : Int) := of_decide_eq_true (by assumption)
               obtain ⟨ad115, e115, hx115_0⟩ := Kd.at_int HR0.out x13_1 p115 q115
               cases e115
               replace p115 := eq_true p115
               replace q115 := eq_true q115
               have p116 : 0 ≤ (x13_1 : Int) := of_decide_eq_true (by assumption)
               have q116 : x13_1 < (l1.length : Int) := of_decide_eq_true (by assumption)
               obtain ⟨ad116, e116, hx116_0⟩ := Kd.at_int HR1.out x13_1 p116 q116
               cases e116
               replace p116 := eq_true p116
               replace q116 := eq_true q116
               go_wp2
               repeat (go_quiet (fail); try go_wp2)
               go_ret
               exact ⟨by first | rfl | (simp; done) | (simp [*]; done), by repeat (first | exact Drawn0.refl _ | apply Drawn0.step)⟩
           · rw [if_neg c7] at H
             exact absurd H (by simp)
         · rw [if_neg c6] at H
           exact absurd H (by simp)
       · rw [if_neg c5] at H
         exact absurd H (by simp)
     · rw [if_neg c4] at H
       have c4b0 : decide (x13_1 < (l0.length : Int)) = false := decide_eq_false c4
       clear c4
       obtain rfl := Option.some.inj H
       simp only [Option.some.injEq, Prod.mk.injEq] at H
       obtain ⟨rfl⟩ := H
       go_wp2
       repeat (go_quiet (fail); try go_wp2)
       go_ret
       exact ⟨by first | rfl | (simp; done) | (simp [*]; done), by repeat (first | exact Drawn0.refl _ | apply Drawn0.step)⟩
 · rw [if_neg c3] at H
   have c3b0 : ((l0.length : Int) == (l1.length : Int)) = false := beq_eq_false_iff_ne.mpr c3
   have c3b1 : ((l0.length : Int) != (l1.length : Int)) = true := bne_iff_ne.mpr c3
   have c3b2 : (l0.length == l1.length) = false := by first | simpa using c3 | (simp at c3 ⊢; omega)
   obtain rfl := Option.some.inj H
   simp only [Option.some.injEq, Prod.mk.injEq] at H
   obtain ⟨rfl⟩ := H
   go_enter Try.func60, Try.ntmps60
   go_wp2
   repeat (go_quiet (fail); try go_wp2)
   go_ret
   exact ⟨by first | rfl | (simp; done) | (simp [*]; done), by repeat (first | exact Drawn0.refl _ | apply Drawn0.step)⟩
end Go.Proofs.Ytkddlhcpplkpbaa.G
end
