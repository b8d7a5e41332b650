/- WindowTells: texts of this claim, packed: what the kit's print has written for it and own texts, without what its proof does not reach. -/
import Derived.Test.YtkdkjnjiianogaaKWindowTells12
import Derived.Test.YtkdkjnjiianogaaKWindowTells18
import Derived.Test.YtkdkjnjiianogaaKWindowTells19
import Derived.Test.YtkdkjnjiianogaaKWindowTells20
import Derived.Test.YtkdkjnjiianogaaKWindowTells21
set_option linter.unusedVariables false
set_option linter.unusedSimpArgs false
set_option linter.unusedSectionVars false
section
namespace Go.Proofs.Ytkdkjnjiianogaa.G
open WB Go.RowKit Go.Proofs.YtkdkjnjiianogaaW.PrintWords Go.Proofs.YtkdkjnjiianogaaW.PrintLast Go.Proofs.YtkdkjnjiianogaaW.PrintMore
attribute [local go_sem] max2_int min2_int max_two min_two max_three min_three max_four min_four   -- for this text's walks alone
set_option linter.unusedVariables false
set_option linter.unusedSimpArgs false
theorem R_addr {α : Type} {d : Kd α} {e : Nat} {w : World} {base : Nat} {ok : Nat → Prop} {A : Option Addr} {n c : Nat} {xs : List α} (h : d.R e w base ok (.slice A n c) xs) (hn : 0 < xs.length) : ∃ g, A = some ⟨g, 0, none⟩ := by
  obtain ⟨_, inner, ho, _⟩ := h
  obtain ⟨_, ⟨hv, h0⟩ | ⟨g, cap, cur, hv, _⟩⟩ := ho
  · omega
  · injection hv with hv
    exact ⟨g, hv⟩
theorem wrap_in {x : Int} (h0 : -9223372036854775808 ≤ x) (h1 : x ≤ 9223372036854775807) : wrap64 x = x := by unfold wrap64; omega
theorem rcheck_l0 (m s : Int) (l : List S32) (hm : 1 ≤ m ∧ m ≤ 1073741824) (hs : 1 ≤ s ∧ s ≤ 64) (hl : l.length ≤ 9223372036854775807) : ∀ (n i : Nat), l.length - i = n → i ≤ l.length → (l.take i).any (oddD m s) = false → risesD (l.take i) = true → ∀ k, n < k →
    waybillref22_Check.l0 k s (i : Int) m l = some (if l.any (oddD m s) = true ∨ risesD l = false then 9 else 0) := by
  intro n
  induction n with
  | zero =>
    intro i hn hi ho hr k hk
    obtain ⟨k, rfl⟩ : ∃ q, k = q + 1 := ⟨k - 1, by omega⟩
    simp only [waybillref22_Check.l0]
    rw [List.take_of_length_le (by omega)] at ho hr
    rw [if_neg (by omega), if_neg (by rw [ho, hr]; simp)]
  | succ n ih =>
    intro i hn hi ho hr k hk
    obtain ⟨k, rfl⟩ : ∃ q, k = q + 1 := ⟨k - 1, by omega⟩
    have hlt : i < l.length := by omega
    obtain ⟨x, hx⟩ : ∃ x, x = l.getD i z32 := ⟨_, rfl⟩
    have hxe : l[i] = x := by rw [hx]; simp [List.getElem?_eq_getElem hlt]
    have hrd : rd_T32 l (i : Int) = x := by rw [hx]; simp [rd_T32]
    have hmem : x ∈ l := by rw [← hxe]; exact List.getElem_mem hlt
    have hbad : oddD m s x = true → (if l.any (oddD m s) = true ∨ risesD l = false then (9 : Int) else 0) = 9 := fun h => if_pos (.inl (List.any_eq_true.2 ⟨x, hmem, h⟩))
    have hsn : l.take (i + 1) = l.take i ++ [x] := by rw [List.take_succ_eq_append_getElem hlt, hxe]
    have hw1 : wrap64 (m + s) = m + s := wrap_in (by omega) (by omega)
    have hw2 : wrap64 ((i : Int) + 1) = ((i + 1 : Nat) : Int) := wrap_in (by omega) (by omega)
    simp only [waybillref22_Check.l0]
    rw [if_pos (show (i : Int) < (l.length : Int) by omega), if_pos (by omega), hrd, hw1]
    by_cases c1 : x.f0 < m
    · rw [if_pos c1, hbad (by simp [oddD]; omega)]
    rw [if_neg c1]
    by_cases c2 : x.f0 ≥ m + s
    · rw [if_pos c2, hbad (by simp [oddD]; omega)]
    rw [if_neg c2]
    have tail : ∀ (hr' : risesD (l.take (i + 1)) = true), (if x.f1 < 0 then (some 9 : Option Int) else if x.f1 > 1000 then some 9 else if (x.f2.length : Int) > 1024 then some 9 else waybillref22_Check.l0 k s (wrap64 ((i : Int) + 1)) m l) = some (if l.any (oddD m s) = true ∨ risesD l = false then 9 else 0) := by
      intro hr'
      by_cases c3 : x.f1 < 0
      · rw [if_pos c3, hbad (by simp [oddD]; omega)]
      rw [if_neg c3]
      by_cases c4 : x.f1 > 1000
      · rw [if_pos c4, hbad (by simp [oddD]; omega)]
      rw [if_neg c4]
      by_cases c5 : (x.f2.length : Int) > 1024
      · rw [if_pos c5, hbad (by simp [oddD]; omega)]
      rw [if_neg c5, hw2]
      refine ih (i + 1) (by omega) (by omega) ?_ hr' k (by omega)
      rw [hsn, List.any_append, ho]
      simp [oddD]
      omega
    by_cases c6 : (i : Int) > 0
    · obtain ⟨y, hy⟩ : ∃ y, y = l.getD (i - 1) z32 := ⟨_, rfl⟩
      have hw3 : wrap64 ((i : Int) - 1) = ((i - 1 : Nat) : Int) := by rw [wrap_in (by omega) (by omega)]; omega
      have hrd2 : rd_T32 l ((i - 1 : Nat) : Int) = y := by rw [hy]; simp [rd_T32]
      have hst := rises_step l i (by omega) hlt
      rw [hr, ← hx, ← hy, Bool.true_and] at hst
      rw [if_pos c6, hw3, if_pos (by omega), if_pos (by omega), hrd2]
      by_cases c7 : x.f0 ≤ y.f0
      · have : risesD l = false := rises_false l (i + 1) (by rw [hst]; exact decide_eq_false (by omega))
        rw [if_pos c7, if_pos (.inr this)]
      · rw [if_neg c7]
        exact tail (by rw [hst]; exact decide_eq_true (by omega))
    · rw [if_neg c6]
      refine tail ?_
      obtain rfl : i = 0 := by omega
      rw [hsn]
      rfl
theorem rcheck_ev (m s : Int) (l : List S32) (hl : l.length ≤ 9223372036854775807) : ∃ K, ∀ k, K ≤ k → waybillref22_Check.f k m l s = some (checkW m l s) := by
  refine ⟨l.length + 3, fun k hk => ?_⟩
  obtain ⟨k, rfl⟩ : ∃ q, k = q + 1 := ⟨k - 1, by omega⟩
  unfold waybillref22_Check.f checkW
  by_cases h1 : s < 1
  · rw [if_pos h1, if_pos (.inl h1)]
    simp only [waybillref22_Check.j0]
    rw [if_pos trivial]
  rw [if_neg h1]
  simp only [waybillref22_Check.j0]
  by_cases h2 : s > 64
  · rw [if_pos (by simpa using h2), if_pos (.inr h2)]
  rw [if_neg (by simpa using h2), if_neg (show ¬ (s < 1 ∨ 64 < s) by omega)]
  by_cases h3 : m < 1
  · rw [if_pos h3, if_pos (.inl (.inl h3))]
  rw [if_neg h3]
  by_cases h4 : m > 1073741824
  · rw [if_pos h4, if_pos (.inl (.inr h4))]
  rw [if_neg h4]
  by_cases h5 : (l.length : Int) > s
  · rw [if_pos h5, if_pos]
    by_cases h6 : l.any (oddD m s) = true ∨ risesD l = false
    · exact .inr h6
    · rw [not_or] at h6
      have hmay : May m s l := may_of m s l (by unfold checkW; rw [if_neg (by omega), if_neg]; rintro (h | h | h) <;> first | omega | exact h6.1 h | exact h6.2 h)
      have := hmay.len
      omega
  · rw [if_neg h5]
    rw [show ((0 : Int)) = ((0 : Nat) : Int) from rfl, rcheck_l0 m s l ⟨by omega, by omega⟩ ⟨by omega, by omega⟩ hl l.length 0 (by omega) (by omega) rfl rfl k (by omega)]
    congr 1
    by_cases h6 : l.any (oddD m s) = true ∨ risesD l = false
    · rw [if_pos h6, if_pos (.inr h6)]
    · rw [if_neg h6, if_neg]
      · rfl
      · rintro (h | h)
        · omega
        · exact h6 h
theorem rkept (d : S32) (h : d.f2.length ≤ 1024) : waybillref22_Kept.f d.f0 d.f1 d.f2 = some (d.f0, d.f1, d.f2) := by
  unfold waybillref22_Kept.f waybillref01_Copied.f
  rw [if_pos (by simp; omega)]
  rfl
theorem rsee_l0 (m s q : Int) (l : List S32) (hm : May m s l) (hq : m ≤ q ∧ q < m + s) : ∀ (n i : Nat), l.length - i = n → i ≤ l.length → (∀ j, j < i → (l.getD j z32).f0 ≠ q) → ∀ k, n < k → waybillref22_See.l0 k q (i : Int) m l = some (seeW m l s q) := by
  have hse : ∀ i, i ≤ l.length → (∀ j, j < i → (l.getD j z32).f0 ≠ q) → i < l.length → (l.getD i z32).f0 = q → seeW m l s q = (1, (l.getD i z32).f0, (l.getD i z32).f1, (l.getD i z32).f2, 0) := by
    intro i hi hj hlt he
    have hp : placeD l q = i := place_of l q i hi (fun j hji => by
      have := hm.neat.up j i (by omega) hlt
      have := hj j hji
      omega) (fun _ => by omega)
    have hmem : l[i] ∈ l := List.getElem_mem hlt
    have hw : whatD m s l q = 1 := by
      unfold whatD
      rw [if_neg (by omega), if_neg (by omega), if_pos]
      refine List.any_eq_true.2 ⟨l[i], hmem, ?_⟩
      rw [List.getD_eq_getElem?_getD, List.getElem?_eq_getElem hlt] at he
      simpa using he
    unfold seeW
    rw [if_neg (by rw [check_of m s l hm]; simp), if_pos hw, hp, he]
  have hno : (∀ j, j < l.length → (l.getD j z32).f0 ≠ q) → seeW m l s q = (0, 0, 0, [], 0) := by
    intro hj
    have hw : whatD m s l q = 0 := by
      unfold whatD
      rw [if_neg (by omega), if_neg (by omega), if_neg]
      rw [List.any_eq_true]
      rintro ⟨x, hx, he⟩
      obtain ⟨i, hi, rfl⟩ := List.mem_iff_getElem.1 hx
      refine hj i hi ?_
      rw [List.getD_eq_getElem?_getD, List.getElem?_eq_getElem hi]
      simpa using he
    unfold seeW
    rw [if_neg (by rw [check_of m s l hm]; simp), if_neg (by rw [hw]; decide), hw]
  have hlen : l.length ≤ 64 := by have := hm.len; have := hm.s2; omega
  intro n
  induction n with
  | zero =>
    intro i hn hi hj k hk
    obtain ⟨k, rfl⟩ : ∃ q, k = q + 1 := ⟨k - 1, by omega⟩
    simp only [waybillref22_See.l0]
    rw [if_neg (by omega), hno (fun j hjl => hj j (by omega))]
  | succ n ih =>
    intro i hn hi hj k hk
    obtain ⟨k, rfl⟩ : ∃ q, k = q + 1 := ⟨k - 1, by omega⟩
    have hlt : i < l.length := by omega
    have hrd : rd_T32 l (i : Int) = l.getD i z32 := by simp [rd_T32]
    have hb := (hm.bds i hlt).2.2.2.2
    have hw2 : wrap64 ((i : Int) + 1) = ((i + 1 : Nat) : Int) := wrap_in (by omega) (by omega)
    simp only [waybillref22_See.l0]
    rw [if_pos (by omega), if_pos (by omega), hrd]
    by_cases c : (l.getD i z32).f0 = q
    · rw [if_pos c, hse i hi hj hlt c, rkept _ hb]
      rfl
    · rw [if_neg c, hw2]
      exact ih (i + 1) (by omega) (by omega) (fun j hji => by
        rcases Nat.lt_or_ge j i with h | h
        · exact hj j h
        · obtain rfl : j = i := by omega
          exact c) k (by omega)
theorem rsee_ev (m s q : Int) (l : List S32) (hm : May m s l) : ∃ K, ∀ k, K ≤ k → waybillref22_See.f k m l s q = some (seeW m l s q) := by
  have hlen : l.length ≤ 64 := by have := hm.len; have := hm.s2; omega
  obtain ⟨K, hK⟩ := rcheck_ev m s l (by omega)
  refine ⟨K + l.length + 1, fun k hk => ?_⟩
  have h1 := hm.m1
  have h2 := hm.m2
  have h3 := hm.s1
  have h4 := hm.s2
  unfold waybillref22_See.f
  rw [hK k (by omega), check_of m s l hm, Option.bind_some, if_pos rfl, wrap_in (by omega) (by omega)]
  by_cases c1 : q < m
  · rw [if_pos c1]
    unfold seeW whatD
    rw [if_neg (by rw [check_of m s l hm]; simp), if_pos c1, if_neg (by decide)]
  rw [if_neg c1]
  by_cases c2 : q ≥ m + s
  · rw [if_pos c2]
    unfold seeW whatD
    rw [if_neg (by rw [check_of m s l hm]; simp), if_neg c1, if_pos c2, if_neg (by decide)]
  rw [if_neg c2]
  exact rsee_l0 m s q l hm ⟨by omega, by omega⟩ l.length 0 (by omega) (by omega) (fun j hj => by omega) k (by omega)
theorem rown_l0 (m : Int) (l : List S32) (hl : l.length ≤ 1000000) (hd : ∀ d ∈ l, d.f2.length ≤ 1024) : ∀ (n i : Nat), l.length - i = n → i ≤ l.length → ∀ k, n < k → waybillref22_Own.l0 k (i : Int) m l m (l.take i) = some (m, l) := by
  intro n
  induction n with
  | zero =>
    intro i hn hi k hk
    obtain ⟨k, rfl⟩ : ∃ q, k = q + 1 := ⟨k - 1, by omega⟩
    simp only [waybillref22_Own.l0]
    rw [if_neg (by omega), List.take_of_length_le (by omega)]
  | succ n ih =>
    intro i hn hi k hk
    obtain ⟨k, rfl⟩ : ∃ q, k = q + 1 := ⟨k - 1, by omega⟩
    have hlt : i < l.length := by omega
    have hxe : rd_T32 l (i : Int) = l[i] := by simp [rd_T32, List.getElem?_eq_getElem hlt]
    have hw2 : wrap64 ((i : Int) + 1) = ((i + 1 : Nat) : Int) := wrap_in (by omega) (by omega)
    have e := ih (i + 1) (by omega) (by omega) k (by omega)
    rw [List.take_succ_eq_append_getElem hlt] at e
    simp only [waybillref22_Own.l0]
    rw [if_pos (by omega), if_pos (by omega), hxe, rkept _ (hd _ (List.getElem_mem hlt)), Option.bind_some, if_pos (by rw [List.length_take]; omega), hw2]
    exact e
theorem rown_ev (m : Int) (l : List S32) (hl : l.length ≤ 1000000) (hd : ∀ d ∈ l, d.f2.length ≤ 1024) : ∃ K, ∀ k, K ≤ k → waybillref22_Own.f k m l = some (m, l) := ⟨l.length + 1, fun k hk => rown_l0 m l hl hd l.length 0 (by omega) (by omega) k (by omega)⟩
theorem may_data {m s : Int} {l : List S32} (hm : May m s l) : ∀ d ∈ l, d.f2.length ≤ 1024 := fun d hd => by
  obtain ⟨i, hi, rfl⟩ := List.mem_iff_getElem.1 hd
  have := (hm.bds i hi).2.2.2.2
  rwa [List.getD_eq_getElem?_getD, List.getElem?_eq_getElem hi] at this
/-- What an insertion leaves, by its cells. -/
theorem ins_close {A A' : Option Addr} {c c' i base : Nat} {L : List S32} {d : S32} {A2 : Option Addr} {c2 : Nat} {w0 w' : World} {rows : List (List Value)} {f : Nat → Nat} (hrl : rows.length = L.length) (hrR : (Kd.raw 3).R 32 w0 base (fun k => some k = (Value.slice A L.length c).ownBlock) (.slice A L.length c) rows)
    (hrM : ∀ (j : Nat) (x : S32) (cs : List Value), L[j]? = some x → rows[j]? = some cs → k32.M w0 base (fun k => (True ∧ some k ≠ (Value.slice A L.length c).ownBlock) ∧ f k = j) x cs)
    (hr : (Kd.raw 3).R 32 w' base (fun _ => True) (.slice A' (L.length + 1) c') (rows.take i ++ [.int .i64 d.f0, .int .i64 d.f1, .slice A2 d.f2.length c2] :: rows.drop i)) (hmv : ∀ q, q < w0.heap.size → some q ≠ (Value.slice A L.length c).ownBlock → (∃ cells, w0.heap[q]? = some (.cells cells 5 (0, 0))) → w'.heap[q]? = w0.heap[q]?)
    (hd : (Kd.int .u8).R 5 w' w0.heap.size (fun _ => True) (.slice A2 d.f2.length c2) d.f2) (hat : (Value.slice A' (L.length + 1) c').ownBlock = (Value.slice A L.length c).ownBlock ∨ ∃ b, (Value.slice A' (L.length + 1) c').ownBlock = some b ∧ w0.heap.size ≤ b) (hi : i ≤ L.length) (hbase : base ≤ w0.heap.size) :
    Kd.S k32 32 w' base (fun _ => True) (.slice A' (L.length + 1) c') (L.take i ++ d :: L.drop i) := by
  have hown : ∀ k, (Value.slice A L.length c).ownBlock = some k → k < w0.heap.size := fun k hk => Kd.R_lt hrR k hk
  have hfar : ∀ q, q < w0.heap.size → some q ≠ (Value.slice A L.length c).ownBlock → some q ≠ (Value.slice A' (L.length + 1) c').ownBlock := fun q hq hn he => by
    rcases hat with hat | ⟨b, hb1, hb2⟩
    · exact hn (he.trans hat)
    · rw [hb1] at he
      injection he with he
      omega
  refine S_close (rows := rows.take i ++ [.int .i64 d.f0, .int .i64 d.f1, .slice A2 d.f2.length c2] :: rows.drop i) (f := fun q => if q < w0.heap.size then f q else L.length) (t := fun j => if j < i then j else if j = i then L.length else j - 1) (fun _ _ => trivial) (by simp [hrl]) hr ?_ ?_
  · intro a b ha hb2 hab
    simp at ha hb2
    split at hab <;> split at hab <;> (try split at hab) <;> (try split at hab) <;> omega
  · intro j x cs hx hc
    have hold : ∀ (p : Nat) (x : S32) (cs : List Value), L[p]? = some x → rows[p]? = some cs → k32.M w' base (fun k => (True ∧ some k ≠ (Value.slice A' (L.length + 1) c').ownBlock) ∧ (if k < w0.heap.size then f k else L.length) = p) x cs := fun p x cs hx hc => by
      have h7 := k32.M_bound (hrM p x cs hx hc)
      have h8 := k32.M_move (w1 := w') (fun q hq => hmv q hq.2.2.1 hq.1.1.2 (by
        obtain ⟨q', hq', cells, hcell⟩ := hq.2.2.2
        have : q' = 5 := List.mem_singleton.1 (show q' ∈ [5] from hq')
        exact ⟨cells, this ▸ hcell⟩)) h7
      exact k32.M_mono (fun q hq => ⟨⟨trivial, hfar q hq.2.2.1 hq.1.1.2⟩, by rw [if_pos hq.2.2.1]; exact hq.1.2⟩) h8
    have lt1 : (L.take i).length = i := by rw [List.length_take]; omega
    have lt2 : (rows.take i).length = i := by rw [List.length_take, hrl]; omega
    rcases Nat.lt_trichotomy j i with hj | rfl | hj
    · rw [List.getElem?_append_left (by omega), List.getElem?_take, if_pos hj] at hx hc
      rw [if_pos hj]
      exact hold j x cs hx hc
    · rw [List.getElem?_append_right (by omega), lt1, Nat.sub_self] at hx
      rw [List.getElem?_append_right (by omega), lt2, Nat.sub_self] at hc
      obtain rfl : d = x := by simpa using hx
      obtain rfl : _ = cs := by simpa using hc
      rw [if_neg (by omega), if_pos rfl]
      have h7 := Kd.R_mono (ok' := fun q => (True ∧ some q ≠ (Value.slice A' (L.length + 1) c').ownBlock) ∧ (if q < w0.heap.size then f q else L.length) = L.length) (Kd.R_bound hd) (fun q hq => by
        obtain ⟨_, h9, _, q', hq', cells, hcell⟩ := hq
        refine ⟨⟨trivial, fun he => ?_⟩, by rw [if_neg (by omega)]⟩
        obtain ⟨cells', hc'⟩ := Kd.R_typed hr q he.symm
        rw [hcell] at hc'
        injection hc' with hc'
        injection hc' with _ hT
        have : q' = 5 := by simpa [Kd.int, Kd.scalar] using hq'
        rw [this] at hT
        exact absurd hT (by decide))
      exact k32_mkM _ _ _ d (Kd.R_lower h7 hbase)
    · rw [List.getElem?_append_right (by omega), lt1, show j - i = (j - i - 1) + 1 by omega, List.getElem?_cons_succ, List.getElem?_drop, show i + (j - i - 1) = j - 1 by omega] at hx
      rw [List.getElem?_append_right (by omega), lt2, show j - i = (j - i - 1) + 1 by omega, List.getElem?_cons_succ, List.getElem?_drop, show i + (j - i - 1) = j - 1 by omega] at hc
      rw [if_neg (by omega), if_neg (by omega)]
      exact hold (j - 1) x cs hx hc
/-- The row while it is moved up: all but the slot p are in place. -/
structure BubInv (w W1 : World) (mark : Int) (L : List S32) (d : S32) (A3 : Option Addr) (c3 : Nat) (own : Option Nat) (g9 gx base : Nat) (rows : List (List Value)) (gA cA p : Nat) (M : List (List Value)) (wl : World) : Prop where
  raw : (Kd.raw 3).R 32 wl base (fun _ => True) (.slice (some ⟨gA, 0, none⟩) (L.length + 1) cA) M
  len : M.length = L.length + 1
  tk : M.take p = rows.take p
  dr : M.drop (p + 1) = rows.drop p
  gt : ∀ j, p ≤ j → j < L.length → d.f0 < (L.getD j z32).f0
  b9 : wl.heap[g9]? = some (.cells #[.int .i64 mark, .slice (some ⟨gA, 0, none⟩) (L.length + 1) cA] 24 (0, 0))
  b6 : wl.heap[w.heap.size + 1]? = some (.cells #[.int .i64 0, .slice none 0 0] 24 (0, 0))
  bx : wl.heap[gx]? = some (.cells #[.int .i64 d.f0, .int .i64 d.f1, .slice A3 d.f2.length c3] 32 (0, 0))
  nx : gx ≠ gA
  mv : ∀ q, q < W1.heap.size → q ≠ g9 → some q ≠ own → wl.heap[q]? = W1.heap[q]?
  siz : W1.heap.size ≤ wl.heap.size
  at_ : some gA = own ∨ W1.heap.size ≤ gA
  bel : Below w.heap.size w wl
theorem BubInv.below {w W1 : World} {mark : Int} {L : List S32} {d : S32} {A3 : Option Addr} {c3 : Nat} {own : Option Nat} {g9 gx base : Nat} {rows : List (List Value)} {gA cA p : Nat} {M : List (List Value)} {wl wl' : World} (h : BubInv w W1 mark L d A3 c3 own g9 gx base rows gA cA p M wl) (hb : Below wl.heap.size wl wl') : BubInv w W1 mark L d A3 c3 own g9 gx base rows gA cA p M wl' :=
  ⟨Kd.R_below h.raw hb, h.len, h.tk, h.dr, h.gt, blk_below h.b9 hb, blk_below h.b6 hb, blk_below h.bx hb, h.nx, fun q h1 h2 h3 => (hb.block q (by have := h.siz; omega)).trans (h.mv q h1 h2 h3), Nat.le_trans h.siz hb.size, h.at_, below_then h.bel h.bel.size hb⟩
theorem BubInv.step {w W1 : World} {mark : Int} {L : List S32} {d : S32} {A3 : Option Addr} {c3 : Nat} {own : Option Nat} {g9 gx base : Nat} {rows : List (List Value)} {gA cA q : Nat} {M : List (List Value)} {wl : World} (h : BubInv w W1 mark L d A3 c3 own g9 gx base rows gA cA (q + 1) M wl) (hq : q < L.length) (hr : rows.length = L.length) (hg : d.f0 < (L.getD q z32).f0) (cs : List Value) (hcs : rows[q]? = some cs) (h3 : cs.length = 3) (h1 : ∀ u ∈ cs, u.oneCell' = true) (hbw : w.heap.size ≤ gA) :
    BubInv w W1 mark L d A3 c3 own g9 gx base rows gA cA q (M.set (q + 1) cs) (wl.setCells gA ((q + 1) * 3) cs) := by
  have hl := h.len
  obtain ⟨c0, e1, _, e3, _⟩ := Kd.R_elem h.raw [] ((q + 1 : Nat) : Int) (by omega) (by omega)
  obtain ⟨hS, hG⟩ := Kd.R_seg h.raw ((q + 1 : Nat) : Int) (by omega) (by omega) (c := c0) (seg := cs) (j := 0) (x' := cs) (okp := fun _ => False) e1 e3 (by show 0 + cs.length ≤ 3; omega) (by
    have h6 : c0.drop (0 + cs.length) = [] := List.drop_of_length_le (by rw [e1]; show 3 ≤ _; omega)
    rw [h6, List.take_zero, List.append_nil, List.nil_append]
    exact ⟨rfl, h3, h1⟩) (fun _ hk => hk.elim)
  have e : ((q + 1 : Nat) : Int).toNat * (Kd.raw 3).sz + 0 = (q + 1) * 3 := by rw [Int.toNat_natCast]; rfl
  rw [e] at hS hG
  rw [Int.toNat_natCast] at hS
  have hne : ∀ {k T cs'}, wl.heap[k]? = some (.cells cs' T (0, 0)) → T ≠ 32 → some k ≠ some gA := fun hk hT => Kd.R_ne h.raw hk (Ne.symm hT)
  refine ⟨hS, by rw [List.length_set, hl], ?_, ?_, fun j h1 h2 => ?_, blk_grown h.b9 hG (hne h.b9 (by decide)), blk_grown h.b6 hG (hne h.b6 (by decide)), blk_grown h.bx hG (fun he => h.nx (Option.some.inj he)), h.nx, fun k h1 h2 h3 => ?_, Nat.le_trans h.siz hG.size, h.at_, Below.grown h.bel hG h.bel.size (fun k hk => by injection hk with hk; omega)⟩
  · rw [List.take_set_of_le (by omega)]
    have := congrArg (List.take q) h.tk
    rwa [List.take_take, List.take_take, Nat.min_eq_left (by omega)] at this
  · rw [List.drop_eq_getElem_cons (by rw [List.length_set]; omega), List.getElem_set_self, List.drop_set, if_pos (by omega), h.dr]
    have hqr : q < rows.length := by omega
    rw [List.drop_eq_getElem_cons hqr]
    congr 1
    rw [List.getElem?_eq_getElem hqr] at hcs
    exact (Option.some.inj hcs).symm
  · rcases Nat.lt_or_ge q j with hj | hj
    · exact h.gt j hj h2
    · obtain rfl : j = q := by omega
      exact hg
  · refine (hG.block k (by have := h.siz; omega) (fun he => ?_)).trans (h.mv k h1 h2 h3)
    rcases h.at_ with ha | ha
    · exact h3 (he.trans ha)
    · injection he with he
      omega
theorem set_split {α : Type} : ∀ (l : List α) (p : Nat) (x : α), p < l.length → l.set p x = l.take p ++ x :: l.drop (p + 1)
  | [], p, x, h => by simp at h
  | a :: l, 0, x, _ => by simp
  | a :: l, p + 1, x, h => by
    have := set_split l p x (by simpa using h)
    simp [this]
theorem len3 {cs : List Value} (h : cs.length = 3) : ∃ a b c, cs = [a, b, c] := by
  match cs, h with
  | [a, b, c], _ => exact ⟨a, b, c, rfl⟩
theorem BubInv.fin {w W1 : World} {mark : Int} {L : List S32} {d : S32} {A3 : Option Addr} {c3 : Nat} {A : Option Addr} {c g9 gx base : Nat} {rows : List (List Value)} {ft : Nat → Nat} {gA cA p : Nat} {M : List (List Value)} {wl : World} {A2 : Option Addr} {c2 : Nat} (h : BubInv w W1 mark L d A3 c3 (Value.slice A L.length c).ownBlock g9 gx base rows gA cA p M wl)
    (hrl : rows.length = L.length) (hrR : (Kd.raw 3).R 32 W1 base (fun k => some k = (Value.slice A L.length c).ownBlock) (.slice A L.length c) rows)
    (hrM : ∀ (j : Nat) (x : S32) (cs : List Value), L[j]? = some x → rows[j]? = some cs → k32.M W1 base (fun k => (True ∧ some k ≠ (Value.slice A L.length c).ownBlock) ∧ ft k = j) x cs)
    (hv9 : W1.heap[g9]? = some (.cells #[.int .i64 mark, .slice A L.length c] 24 (0, 0))) (hd : (Kd.int .u8).R 5 wl W1.heap.size (fun _ => True) (.slice A2 d.f2.length c2) d.f2) (hp : p ≤ L.length) (hbase : base ≤ W1.heap.size) (hbw : w.heap.size ≤ gA) :
    Kd.S k32 32 (wl.setCells gA (p * 3) [.int .i64 d.f0, .int .i64 d.f1, .slice A2 d.f2.length c2]) base (fun _ => True) (.slice (some ⟨gA, 0, none⟩) (L.length + 1) cA) (L.take p ++ d :: L.drop p) ∧
    (wl.setCells gA (p * 3) [.int .i64 d.f0, .int .i64 d.f1, .slice A2 d.f2.length c2]).heap[g9]? = some (.cells #[.int .i64 mark, .slice (some ⟨gA, 0, none⟩) (L.length + 1) cA] 24 (0, 0)) ∧
    (wl.setCells gA (p * 3) [.int .i64 d.f0, .int .i64 d.f1, .slice A2 d.f2.length c2]).heap[w.heap.size + 1]? = some (.cells #[.int .i64 0, .slice none 0 0] 24 (0, 0)) ∧
    Below w.heap.size w (wl.setCells gA (p * 3) [.int .i64 d.f0, .int .i64 d.f1, .slice A2 d.f2.length c2]) := by
  have hl := h.len
  have h1 : ∀ u ∈ [Value.int .i64 d.f0, .int .i64 d.f1, .slice A2 d.f2.length c2], u.oneCell' = true := by
    intro u hu
    simp at hu
    rcases hu with rfl | rfl | rfl <;> rfl
  obtain ⟨c0, e1, _, e3, _⟩ := Kd.R_elem h.raw [] (p : Int) (by omega) (by omega)
  obtain ⟨hS, hG⟩ := Kd.R_seg h.raw (p : Int) (by omega) (by omega) (c := c0) (seg := [.int .i64 d.f0, .int .i64 d.f1, .slice A2 d.f2.length c2]) (j := 0) (x' := [.int .i64 d.f0, .int .i64 d.f1, .slice A2 d.f2.length c2]) (okp := fun _ => False) e1 e3 (by show 0 + 3 ≤ 3; omega) (by
    have h6 : c0.drop (0 + [Value.int .i64 d.f0, .int .i64 d.f1, .slice A2 d.f2.length c2].length) = [] := List.drop_of_length_le (by rw [e1]; exact Nat.le_refl _)
    rw [h6, List.take_zero, List.append_nil, List.nil_append]
    exact ⟨rfl, rfl, h1⟩) (fun _ hk => hk.elim)
  have e : (p : Int).toNat * (Kd.raw 3).sz + 0 = p * 3 := by rw [Int.toNat_natCast]; rfl
  rw [e] at hS hG
  rw [Int.toNat_natCast, set_split M p _ (by omega), h.tk, h.dr] at hS
  have hne : ∀ {k T cs'}, wl.heap[k]? = some (.cells cs' T (0, 0)) → T ≠ 32 → some k ≠ some gA := fun hk hT => Kd.R_ne h.raw hk (Ne.symm hT)
  have hat : ∀ q, q < W1.heap.size → some q ≠ (Value.slice A L.length c).ownBlock → some q ≠ some gA := fun q hq hn he => by
    rcases h.at_ with ha | ha
    · exact hn (he.trans ha)
    · injection he with he
      omega
  refine ⟨ins_close (w0 := W1) (c := c) (f := ft) hrl hrR hrM hS (fun q hq hn hu => ?_) ?_ ?_ hp hbase, blk_grown h.b9 hG (hne h.b9 (by decide)), blk_grown h.b6 hG (hne h.b6 (by decide)), Below.grown h.bel hG h.bel.size (fun k hk => by injection hk with hk; omega)⟩
  · have hq9 : q ≠ g9 := fun he => by
      obtain ⟨cells, hc⟩ := hu
      rw [he, hv9] at hc
      injection hc with hc
      injection hc with _ hc
      exact absurd hc (by decide)
    exact (hG.block q (by have := h.siz; omega) (hat q hq hn)).trans (h.mv q hq hq9 hn)
  · exact Kd.R_over hd h.raw (by decide) hG
  · rcases h.at_ with ha | ha
    · exact .inl ha
    · exact .inr ⟨gA, rfl, ha⟩
/-- Where Put stands, ahead of a reply. -/
structure RPutInv (w : World) (mark size : Int) (l ds : List S32) (g9 k : Nat) (A : Option Addr) (c : Nat) (L : List S32) (wr : World) : Prop where
  all : putAll mark size ds l = putAll mark size (ds.drop k) L
  may : May mark size L
  b9 : wr.heap[g9]? = some (.cells #[.int .i64 mark, .slice A L.length c] 24 (0, 0))
  b6 : wr.heap[w.heap.size + 1]? = some (.cells #[.int .i64 0, .slice none 0 0] 24 (0, 0))
  s : Kd.S k32 32 wr (w.heap.size + 2) (fun _ => True) (.slice A L.length c) L
  bel : Below w.heap.size w wr
def waybillref22_Put.f (a0_0 : Int) (l0_1 : List (S32)) (a1 : Int) (l2 : List (S32)) : Option (Int × (List (S32)) × Int) := some (putsW a0_0 l0_1 a1 l2)
set_option maxHeartbeats 4000000 in
set_option maxRecDepth 100000 in
theorem waybillref22_Put.calls (a0_0 : Int) (A0_1 : Option Addr) (c0_1 : Nat) (l0_1 : List (S32)) (a1 : Int) (A2 : Option Addr) (c2 : Nat) (l2 : List (S32)) (r1 : Int) (r2 : List (S32)) (r3 : Int) (w : World) (hr0_1 : Kd.C k32 w A0_1 l0_1.length l0_1) (hc0_1 : l0_1.length ≤ c0_1) (hr2 : Kd.C k32 w A2 l2.length l2) (hc2 : l2.length ≤ c2) (h : waybillref22_Put.f a0_0 l0_1 a1 l2 = some (r1, r2, r3)) :
    Calls Try.prog 20 #[.agg #[.int .i64 a0_0, .slice A0_1 l0_1.length c0_1], .int .i64 a1, .slice A2 l2.length c2] w fun e w' => ∃ v1_ : Value, e = .returned (.tuple #[.agg #[.int .i64 r1, v1_], .int .i64 r3]) ∧ Kd.S k32 32 w' w.heap.size (fun _ => True) v1_ r2 ∧ Below w.heap.size w w' := by
  unfold waybillref22_Put.f at h
  replace h := Option.some.inj h
  have HR := Aside0.mk hr0_1
  have HC := Aside0.mk hc0_1
  have HR2 := Aside0.mk hr2
  have HC2 := Aside0.mk hc2
  have hmax : l2.length ≤ 9223372036854775807 := hr2.2.1
  obtain ⟨KC, hKC⟩ := rcheck_ev a0_0 a1 l0_1 hr0_1.2.1
  have HKC := Aside0.mk (hKC KC (Nat.le_refl _))
  have HH := Aside0.mk h
  clear hr0_1 hc0_1 hr2 hc2 h hKC
  by_cases hk : checkW a0_0 l0_1 a1 = 0
  · rw [hk] at HKC
    have HM := Aside0.mk (may_of _ _ _ hk)
    obtain ⟨KO, hKO⟩ := rown_ev a0_0 l0_1 (by have := HM.out.len; have := HM.out.s2; omega) (may_data HM.out)
    have HKO := Aside0.mk (hKO KO (Nat.le_refl _))
    have HPW : Aside0 (putsW a0_0 l0_1 a1 l2 = if (putAll a0_0 a1 l2 l0_1).1 = 0 then (a0_0, (putAll a0_0 a1 l2 l0_1).2, 0) else (0, [], (putAll a0_0 a1 l2 l0_1).1)) := ⟨by unfold putsW; rw [if_neg (by rw [hk]; simp)]⟩
    rw [HPW.out] at HH
    clear hk HPW hKO
    go_enter Try.func20, Try.ntmps20
    go_wp2_with (go_at_call 26; (with_reducible refine (waybillref22_Check.calls KC a0_0 A0_1 c0_1 l0_1 a1 0 _ ?hr1 HC.out HKC.out).mono ?_); (case hr1 => exact Kd.C_alloc (Kd.C_alloc HR.out _) _); rintro e w1 ⟨rfl, hb⟩; have HB1 := Aside0.mk (below_then (below_alloc (below_alloc (Below.refl _ _) _) _) (by simp; omega) hb); have BK := Aside0.mk ((hb.block (w.heap.size + 1) (by simp)).trans (heap_new2 w _ _)); have BK0 := Aside0.mk ((hb.block w.heap.size (by simp; omega)).trans (blk_alloc (heap_new1 w _) _)); have hlt1 : w.heap.size + 1 < w1.heap.size := blk_lt BK.out; have hcw0 : w1.cell? ⟨w.heap.size, 0, none⟩ = some (.int .i64 a0_0) := (blk_cell BK0.out 0).trans rfl; have hcw1 : w1.cell? ⟨w.heap.size, 1, none⟩ = some (.slice A0_1 l0_1.length c0_1) := (blk_cell BK0.out 1).trans rfl; clear hb)
    go_at_call 17
    with_reducible refine (waybillref22_Own.calls KO a0_0 A0_1 c0_1 l0_1 a0_0 l0_1 _ (Kd.C_below HR.out HB1.out) HC.out HKO.out).mono ?_
    rintro e w2 ⟨v1, rfl, hS, hb⟩
    have HB2 := Aside0.mk (below_then HB1.out HB1.out.size hb)
    have BK2 := Aside0.mk (blk_below BK.out hb)
    have hlt2 : w.heap.size + 1 < w2.heap.size := blk_lt BK2.out
    have HS2 := Aside0.mk (Kd.S_lower hS (show w.heap.size + 2 ≤ w1.heap.size by omega))
    obtain ⟨A1, c1, rfl⟩ := Kd.R_slice (Kd.S_R HS2.out)
    clear hS hb hcw0 hcw1
    go_wp2_with fail
    go_loopw [10] (fun v10 wr => ∃ (k : Nat) (A : Option Addr) (c : Nat) (L : List S32), v10 = .int .i64 k ∧ k ≤ l2.length ∧ Aside0 (RPutInv w a0_0 a1 l0_1 l2 w2.heap.size k A c L wr)) (fun v10 _ => l2.length - (intOf v10).toNat)
    case atStart =>
      exact ⟨0, A1, c1, l0_1, rfl, by omega, ⟨by rw [List.drop_zero], HM.out, heap_new1 w2 _, blk_alloc BK2.out _, Kd.S_alloc HS2.out _, below_alloc HB2.out _⟩⟩
    case round =>
      obtain ⟨k, A, c, L, rfl, hk, HI⟩ := hrel
      have y0 : wr.cell? ⟨w2.heap.size, 0, none⟩ = some (.int .i64 a0_0) := (blk_cell HI.out.b9 0).trans rfl
      have y1 : wr.cell? ⟨w2.heap.size, 1, none⟩ = some (.slice A L.length c) := (blk_cell HI.out.b9 1).trans rfl
      have hw2 : w2.heap.size < wr.heap.size := blk_lt HI.out.b9
      have hw1 : w.heap.size + 1 < wr.heap.size := blk_lt HI.out.b6
      by_cases hlt : k < l2.length
      · obtain ⟨ad, A3, c3, e1, q0', q1', q2', q3, q4⟩ := at_T32 HR2.out (k : Int) (by omega) (by omega)
        have q0 := (HI.out.bel.cell (World.block_lt_of_cell? _ _ q0')).trans q0'
        have q1 := (HI.out.bel.cell (World.block_lt_of_cell? _ _ q1')).trans q1'
        have q2 := (HI.out.bel.cell (World.block_lt_of_cell? _ _ q2')).trans q2'
        clear q0' q1' q2'
        simp only [Int.toNat_natCast] at q0 q1 q2
        have hrd : rd_T32 l2 (k : Int) = l2.getD k z32 := by simp [rd_T32]
        rw [hrd] at q0 q1 q2 q3 q4
        obtain ⟨d, hd⟩ : ∃ d, d = l2.getD k z32 := ⟨_, rfl⟩
        rw [← hd] at q0 q1 q2 q3 q4
        have HDR : Aside0 (l2.drop k = d :: l2.drop (k + 1)) := ⟨by rw [List.drop_eq_getElem_cons hlt, hd]; simp [List.getD_eq_getElem?_getD, List.getElem?_eq_getElem hlt]⟩
        have b1 : decide ((k : Int) < (l2.length : Int)) = true := decide_eq_true (by omega)
        have b1' : decide (k < l2.length) = true := decide_eq_true hlt
        have Q3 := Aside0.mk q3
        have Q4W := Aside0.mk q4
        have Q4 := Aside0.mk (Kd.C_below q4 HI.out.bel)
        obtain ⟨KS, hKS⟩ := rsee_ev a0_0 a1 d.f0 L HI.out.may
        obtain ⟨x1, x2, x3, hsw⟩ := see_whole HI.out.may d.f0
        have HKS := Aside0.mk ((hKS KS (Nat.le_refl _)).trans (congrArg some hsw))
        obtain ⟨wh, hwh⟩ : ∃ wh, wh = whatD a0_0 a1 L d.f0 := ⟨_, rfl⟩
        rw [← hwh] at HKS
        have HW := Aside0.mk hwh
        have HCL : Aside0 (Kd.C k32 wr A L.length L ∧ L.length ≤ c) := ⟨by obtain ⟨_, h2, h3⟩ := Kd.R_reads' (Kd.S_R HI.out.s); exact ⟨h3, h2⟩⟩
        have BX := Aside0.mk (heap_new1 wr (.cells #[.int .i64 d.f0, .int .i64 d.f1, .slice A3 d.f2.length c3] 32))
        clear q3 q4 hrd hd hKS hsw hwh
        subst e1
        go_upto_region 10 with (go_at_call 22; (refine (waybillref22_See.calls KS a0_0 A c L a1 d.f0 wh x1 x2 x3 0 _ (Kd.C_alloc HCL.out.1 _) HCL.out.2 HKS.out).mono ?_); rintro e ws ⟨vs, rfl, hRs, hb⟩; obtain ⟨As, cs, rfl⟩ := Kd.R_slice hRs; have HBS := Aside0.mk (show Below wr.heap.size wr ws from below_then (below_alloc (Below.refl _ _) _) (by simp) hb); have BXS := Aside0.mk (blk_below BX.out hb); have hws : wr.heap.size < ws.heap.size := blk_lt BXS.out; have xs0 : ws.cell? ⟨wr.heap.size, 0, none⟩ = some (.int .i64 d.f0) := (blk_cell BXS.out 0).trans rfl; clear hb hRs)
        have HB1' := Aside0.mk (show Below wr.heap.size wr (ws.alloc (.cells #[.int .i64 x1, .int .i64 x2, .slice As x3.length cs] 32)) from below_then HBS.out HBS.out.size (below_alloc (Below.refl _ _) _))
        have BX1' := Aside0.mk (blk_alloc BXS.out (.cells #[.int .i64 x1, .int .i64 x2, .slice As x3.length cs] 32))
        obtain ⟨W1, hW1⟩ : ∃ W1, W1 = ws.alloc (.cells #[.int .i64 x1, .int .i64 x2, .slice As x3.length cs] 32) := ⟨_, rfl⟩
        rw [← hW1] at HB1' BX1' ⊢
        have BX1 := Aside0.mk (show W1.heap[wr.heap.size]? = some (.cells #[.int .i64 d.f0, .int .i64 d.f1, .slice A3 d.f2.length c3] 32 (0, 0)) from BX1'.out)
        clear hW1 xs0 BX1'
        have B6 := Aside0.mk (blk_below HI.out.b6 HB1'.out)
        have B9 := Aside0.mk (blk_below HI.out.b9 HB1'.out)
        have HB1W := Aside0.mk (below_then HI.out.bel HI.out.bel.size HB1'.out)
        have HS1 := Aside0.mk (Kd.S_below HI.out.s HB1'.out)
        have HQ4 := Aside0.mk (Kd.C_below Q4.out HB1'.out)
        have hx1 : wr.heap.size < W1.heap.size := blk_lt BX1.out
        have x0 : W1.cell? ⟨wr.heap.size, 0, none⟩ = some (.int .i64 d.f0) := (blk_cell BX1.out 0).trans rfl
        have x1' : W1.cell? ⟨wr.heap.size, 1, none⟩ = some (.int .i64 d.f1) := (blk_cell BX1.out 1).trans rfl
        have x2' : W1.cell? ⟨wr.heap.size, 2, none⟩ = some (.slice A3 d.f2.length c3) := (blk_cell BX1.out 2).trans rfl
        have z0 : W1.cell? ⟨w.heap.size + 1, 0, none⟩ = some (.int .i64 0) := (blk_cell B6.out 0).trans rfl
        have z1 : W1.cell? ⟨w.heap.size + 1, 1, none⟩ = some (.slice none 0 0) := (blk_cell B6.out 1).trans rfl
        have zf0 := blk_frozen B6.out 0
        have zf1 := blk_frozen B6.out 1
        clear y0 y1 q0 q1 q2
        have ERR : Aside0 (∀ E, (putW a0_0 a1 L d).1 = E → E ≠ 0 → r1 = 0 ∧ r2 = [] ∧ r3 = E) := ⟨by
          intro E hE h0
          have h1 := HH.out
          have h2 : putAll a0_0 a1 l2 l0_1 = (E, []) := by rw [HI.out.all, HDR.out, putAll, if_neg (by rw [hE]; exact h0), hE]
          rw [h2] at h1
          replace h1 := (if_neg h0).symm.trans h1
          obtain ⟨⟨⟩⟩ : Aside0 ((0, [], E) = (r1, r2, r3)) := ⟨h1⟩
          exact ⟨rfl, rfl, rfl⟩⟩
        by_cases h1 : d.f1 < 0
        · obtain ⟨rfl, rfl, rfl⟩ := ERR.out 4 (by unfold putW; rw [if_pos (Or.inl h1)]) (by decide)
          have b1 : decide (d.f1 < 0) = true := decide_eq_true h1
          go_wp2
          refine bodyPost_ret (results_list (rs := [.cell 6 24, .tmp 7]) rfl (by simp) (.cell (w.heap.size + 1) 24 #[.int .i64 0, .slice none 0 0] (0, 0) _ rfl (blk_put (cs := #[.int .i64 0, .slice none 0 0]) (blk_put (cs := #[.int .i64 0, .slice none 0 0]) B6.out 0 _ rfl) 1 _ rfl) Try.underlying24 rfl (by kernel_rfl) (.tmp .nil))) rfl ?_
          exact ⟨_, rfl, Kd.S_nil _ _ _ _ _, below_set (below_set HB1W.out (by simp)) (by simp)⟩
        by_cases h2 : 1000 < d.f1
        · obtain ⟨rfl, rfl, rfl⟩ := ERR.out 4 (by unfold putW; rw [if_pos (Or.inr h2)]) (by decide)
          have b1 : decide (d.f1 < 0) = false := decide_eq_false h1
          have b2 : decide (1000 < d.f1) = true := decide_eq_true h2
          go_wp2
          refine bodyPost_ret (results_list (rs := [.cell 6 24, .tmp 7]) rfl (by simp) (.cell (w.heap.size + 1) 24 #[.int .i64 0, .slice none 0 0] (0, 0) _ rfl (blk_put (cs := #[.int .i64 0, .slice none 0 0]) (blk_put (cs := #[.int .i64 0, .slice none 0 0]) B6.out 0 _ rfl) 1 _ rfl) Try.underlying24 rfl (by kernel_rfl) (.tmp .nil))) rfl ?_
          exact ⟨_, rfl, Kd.S_nil _ _ _ _ _, below_set (below_set HB1W.out (by simp)) (by simp)⟩
        have b2 : decide (d.f1 < 0) = false := decide_eq_false h1
        have b3 : decide (1000 < d.f1) = false := decide_eq_false h2
        have HP0 : Aside0 (putW a0_0 a1 L d = if 1024 < d.f2.length then (5, L) else if wh = 1 then (6, L) else if wh = 2 then (73, L) else if wh = 3 then (72, L) else (0, L.take (placeD L d.f0) ++ d :: L.drop (placeD L d.f0))) := ⟨by unfold putW; rw [if_neg (by omega), ← HW.out]⟩
        clear h1 h2
        by_cases h3 : 1024 < d.f2.length
        · obtain ⟨rfl, rfl, rfl⟩ := ERR.out 5 (by rw [HP0.out, if_pos h3]) (by decide)
          have b4 : decide (1024 < d.f2.length) = true := decide_eq_true h3
          have b5 : decide ((1024 : Int) < (d.f2.length : Int)) = true := decide_eq_true (by omega)
          clear h3
          go_wp2
          refine bodyPost_ret (results_list (rs := [.cell 6 24, .tmp 7]) rfl (by simp) (.cell (w.heap.size + 1) 24 #[.int .i64 0, .slice none 0 0] (0, 0) _ rfl (blk_put (cs := #[.int .i64 0, .slice none 0 0]) (blk_put (cs := #[.int .i64 0, .slice none 0 0]) B6.out 0 _ rfl) 1 _ rfl) Try.underlying24 rfl (by kernel_rfl) (.tmp .nil))) rfl ?_
          exact ⟨_, rfl, Kd.S_nil _ _ _ _ _, below_set (below_set HB1W.out (by simp)) (by simp)⟩
        have b4 : decide (1024 < d.f2.length) = false := decide_eq_false h3
        have b5 : decide ((1024 : Int) < (d.f2.length : Int)) = false := decide_eq_false (by omega)
        have HL3 := Aside0.mk h3
        have HP1 := Aside0.mk (HP0.out.trans (if_neg h3))
        clear h3
        by_cases h4 : wh = 1
        · obtain ⟨rfl, rfl, rfl⟩ := ERR.out 6 (by rw [HP1.out, if_pos h4]) (by decide)
          subst h4
          go_wp2
          refine bodyPost_ret (results_list (rs := [.cell 6 24, .tmp 7]) rfl (by simp) (.cell (w.heap.size + 1) 24 #[.int .i64 0, .slice none 0 0] (0, 0) _ rfl (blk_put (cs := #[.int .i64 0, .slice none 0 0]) (blk_put (cs := #[.int .i64 0, .slice none 0 0]) B6.out 0 _ rfl) 1 _ rfl) Try.underlying24 rfl (by kernel_rfl) (.tmp .nil))) rfl ?_
          exact ⟨_, rfl, Kd.S_nil _ _ _ _ _, below_set (below_set HB1W.out (by simp)) (by simp)⟩
        by_cases h5 : wh = 2
        · obtain ⟨rfl, rfl, rfl⟩ := ERR.out 73 (by rw [HP1.out, if_neg h4, if_pos h5]) (by decide)
          subst h5
          go_wp2
          refine bodyPost_ret (results_list (rs := [.cell 6 24, .tmp 7]) rfl (by simp) (.cell (w.heap.size + 1) 24 #[.int .i64 0, .slice none 0 0] (0, 0) _ rfl (blk_put (cs := #[.int .i64 0, .slice none 0 0]) (blk_put (cs := #[.int .i64 0, .slice none 0 0]) B6.out 0 _ rfl) 1 _ rfl) Try.underlying24 rfl (by kernel_rfl) (.tmp .nil))) rfl ?_
          exact ⟨_, rfl, Kd.S_nil _ _ _ _ _, below_set (below_set HB1W.out (by simp)) (by simp)⟩
        by_cases h6 : wh = 3
        · obtain ⟨rfl, rfl, rfl⟩ := ERR.out 72 (by rw [HP1.out, if_neg h4, if_neg h5, if_pos h6]) (by decide)
          subst h6
          go_wp2
          refine bodyPost_ret (results_list (rs := [.cell 6 24, .tmp 7]) rfl (by simp) (.cell (w.heap.size + 1) 24 #[.int .i64 0, .slice none 0 0] (0, 0) _ rfl (blk_put (cs := #[.int .i64 0, .slice none 0 0]) (blk_put (cs := #[.int .i64 0, .slice none 0 0]) B6.out 0 _ rfl) 1 _ rfl) Try.underlying24 rfl (by kernel_rfl) (.tmp .nil))) rfl ?_
          exact ⟨_, rfl, Kd.S_nil _ _ _ _ _, below_set (below_set HB1W.out (by simp)) (by simp)⟩
        have HE : Aside0 (putW a0_0 a1 L d = (0, L.take (placeD L d.f0) ++ d :: L.drop (placeD L d.f0))) := ⟨by rw [HP1.out, if_neg h4, if_neg h5, if_neg h6]⟩
        have t4 : (wh == 1) = false := beq_eq_false_iff_ne.2 h4
        have t5 : (wh == 2) = false := beq_eq_false_iff_ne.2 h5
        have t6 : (wh == 3) = false := beq_eq_false_iff_ne.2 h6
        have HNE : Aside0 (∀ x ∈ L, x.f0 ≠ d.f0) := ⟨fun x hx he => h4 (by
          obtain ⟨_, hod, _⟩ := (may_iff _ _ _).1 HI.out.may
          have := (odd_of _ _ _).1 (hod x hx)
          exact HW.out.trans ((what_done _ _ _ _).2 ⟨by omega, by omega, x, hx, he⟩))⟩
        clear h4 h5 h6 ERR
        have v0 : W1.cell? ⟨w2.heap.size, 0, none⟩ = some (.int .i64 a0_0) := (blk_cell B9.out 0).trans rfl
        have v1 : W1.cell? ⟨w2.heap.size, 1, none⟩ = some (.slice A L.length c) := (blk_cell B9.out 1).trans rfl
        go_upto_region 21 with fail
        obtain ⟨_, rows, ft, hrl, hrR, hrM⟩ := S_open HS1.out
        have HRL := Aside0.mk hrl
        have HRR := Aside0.mk hrR
        have HRM := Aside0.mk hrM
        have HKD := Aside0.mk (rkept d (by have := HL3.out; omega))
        have HLN : Aside0 (L.length ≤ 64) := ⟨by have := HI.out.may.len; have := HI.out.may.s2; omega⟩
        clear hrl hrR hrM z0 z1 zf0 zf1 v0
        refine region_tail (B := _) (w0 := _) 5 [(75, (fun v _ => v = .pointer (some ⟨w2.heap.size, 1, none⟩))), (76, (fun v _ => v = .slice A L.length c)), (77, (fun v _ => v = .agg #[.int .i64 d.f0, .int .i64 d.f1, .slice A3 d.f2.length c3])), (78, (fun v W => ∃ v2, v = .agg #[.int .i64 d.f0, .int .i64 d.f1, v2] ∧ v2.oneCell' = true)), (79, (fun v W => ∃ vb v2, v = .slice (some ⟨vb, 0, none⟩) 1 1 ∧ W1.heap.size ≤ vb ∧ W.heap[vb]? = some (.cells #[.int .i64 d.f0, .int .i64 d.f1, v2] 32 (0, 0)) ∧ v2.oneCell' = true))] (by kernel_rfl) (by kernel_rfl) (by decide) (by kernel_rfl) (by kernel_rfl) (by rfl) (show ([75, 76, 77, 78, 79] : List Nat).Nodup by decide) ?hsz ?hst (Below.refl _ _) (Nat.le_refl _) ?step ?fin
        case hsz => exact List.forall_mem_cons.2 ⟨(show 75 < 115 by decide), List.forall_mem_cons.2 ⟨(show 76 < 115 by decide), List.forall_mem_cons.2 ⟨(show 77 < 115 by decide), List.forall_mem_cons.2 ⟨(show 78 < 115 by decide), List.forall_mem_cons.2 ⟨(show 79 < 115 by decide), fun _ h => nomatch h⟩⟩⟩⟩⟩
        case hst => exact List.forall_mem_cons.2 ⟨(fun v w1 w2 hb h => h), List.forall_mem_cons.2 ⟨(fun v w1 w2 hb h => h), List.forall_mem_cons.2 ⟨(fun v w1 w2 hb h => h), List.forall_mem_cons.2 ⟨(fun v w1 w2 hb h => h), List.forall_mem_cons.2 ⟨(fun v w1 w2 hb h => h.imp fun _ h => h.imp fun _ h => ⟨h.1, h.2.1, blk_below h.2.2.1 hb, h.2.2.2⟩), fun _ h => nomatch h⟩⟩⟩⟩⟩
        case step =>
          intro i_ o_ e_ ho he a w1_ hs hdf hfr hbl hbs hpre
          match i_, ho, he with
          | 0, ho, he => obtain rfl : o_ = ⟨_, _, _, _, _, _⟩ := (Option.some.inj ho).symm; obtain rfl := Option.some.inj he; clear he; have f9 : a.tmps.getD 9 undef = .pointer (some ⟨w2.heap.size, 0, none⟩) := (by rw [Array.getD_eq_getD_getElem?, hfr 9 (show ¬ 9 ∈ ([75, 76, 77, 78, 79] : List Nat) by decide)]; rfl); clear hpre hfr; refine wpOp_value (v := .pointer (some ⟨w2.heap.size, 1, none⟩)) ho rfl ?_ ⟨_, rfl, rfl, Below.refl _ _⟩; simp only [execOp, Act.eval, List.map_toArray, List.map_cons, List.map_nil, f9]; first | rfl | (go_simp; done) | (go_simp; rfl) | (go_simp; intro h_; exfalso; omega)
          | 1, ho, he => obtain rfl : o_ = ⟨_, _, _, _, _, _⟩ := (Option.some.inj ho).symm; obtain rfl := Option.some.inj he; clear he; have e75 : a.tmps.getD 75 undef = .pointer (some ⟨w2.heap.size, 1, none⟩) := hpre ⟨0, .data⟩ (by simp) rfl _ rfl; clear hpre hfr; have k_v1 := (hbl.cell (World.block_lt_of_cell? _ _ v1)).trans v1; refine wpOp_value (v := .slice A L.length c) ho rfl ?_ ⟨_, rfl, rfl, Below.refl _ _⟩; simp only [execOp, Act.eval, List.map_toArray, List.map_cons, List.map_nil, e75]; first | rfl | (go_simp; done) | (go_simp; rfl) | (go_simp; intro h_; exfalso; omega)
          | 2, ho, he => obtain rfl : o_ = ⟨_, _, _, _, _, _⟩ := (Option.some.inj ho).symm; obtain rfl := Option.some.inj he; clear he; have f11 : a.tmps.getD 11 undef = .pointer (some ⟨wr.heap.size, 0, none⟩) := (by rw [Array.getD_eq_getD_getElem?, hfr 11 (show ¬ 11 ∈ ([75, 76, 77, 78, 79] : List Nat) by decide)]; rfl); clear hpre hfr; have k_x0 := (hbl.cell (World.block_lt_of_cell? _ _ x0)).trans x0; have k_x1' := (hbl.cell (World.block_lt_of_cell? _ _ x1')).trans x1'; have k_x2' := (hbl.cell (World.block_lt_of_cell? _ _ x2')).trans x2'; refine wpOp_value (v := .agg #[.int .i64 d.f0, .int .i64 d.f1, .slice A3 d.f2.length c3]) ho rfl ?_ ⟨_, rfl, rfl, Below.refl _ _⟩; simp only [execOp, Act.eval, List.map_toArray, List.map_cons, List.map_nil, f11]; first | rfl | (go_simp; done) | (go_simp; rfl) | (go_simp; intro h_; exfalso; omega)
          | 3, ho, he => obtain rfl : o_ = ⟨_, _, _, _, _, _⟩ := (Option.some.inj ho).symm; obtain rfl := Option.some.inj he; clear he; have e77 : a.tmps.getD 77 undef = .agg #[.int .i64 d.f0, .int .i64 d.f1, .slice A3 d.f2.length c3] := hpre ⟨2, .data⟩ (by simp) rfl _ rfl; clear hpre hfr; refine wpOp_call (fn := Try.f18) ho rfl rfl rfl rfl #[.agg #[.int .i64 d.f0, .int .i64 d.f1, .slice A3 d.f2.length c3]] rfl (by simp only [List.map_toArray, List.map_cons, List.map_nil, Act.eval, e77]) ?_; refine (waybillref22_Kept.calls d.f0 d.f1 A3 c3 d.f2 d.f0 d.f1 d.f2 _ (Kd.C_below HQ4.out hbl) Q3.out HKD.out).mono ?_; rintro e w3 ⟨v2, rfl, hr, hb2⟩; obtain ⟨A2', c2', rfl⟩ := Kd.R_slice hr; exact ⟨_, rfl, _, rfl, ⟨_, rfl, rfl⟩, hb2⟩
          | 4, ho, he => obtain rfl : o_ = ⟨_, _, _, _, _, _⟩ := (Option.some.inj ho).symm; obtain rfl := Option.some.inj he; clear he; have e78 := hpre ⟨3, .data⟩ (by simp) rfl _ rfl; dsimp only at e78; clear hpre hfr; obtain ⟨v2, e1, e2⟩ := e78; refine wpOp_value (w1 := w1_.alloc (.cells #[.int .i64 d.f0, .int .i64 d.f1, v2] 32)) (v := .slice (some ⟨w1_.heap.size, 0, none⟩) 1 1) ho rfl ?_ ⟨_, rfl, ⟨_, v2, rfl, hbs, heap_new1 _ _, e2⟩, below_alloc (Below.refl _ _) _⟩; simp only [execOp, Act.eval, List.map_toArray, List.map_cons, List.map_nil, e1]; first | rfl | (go_simp; done) | (go_simp; rfl)
          | n_ + 5, ho, he => simp at he
        case fin =>
          intro xv_ w1_ hbl hbs hx
          simp only [List.forall_mem_cons] at hx
          obtain ⟨x75, x76, x77, ⟨v78, x78, _⟩, ⟨vb, vk, x79, hvb, hbv, hok⟩, _⟩ := hx
          simp only [List.map_cons, List.map_nil, putL, Act.put, List.setIfInBounds_toArray, List.set_cons_zero, List.set_cons_succ, x75, x76, x77, x78, x79]
          simp only [List.drop_succ_cons, List.drop_zero]
          clear x75 x76 x77 x78 x79
          have HBL := Aside0.mk hbl
          have HBV := Aside0.mk hbv
          have HRV : Aside0 (ReadsRow (fun x cs => cs = x ∧ cs.length = 3 ∧ ∀ u ∈ cs, u.oneCell' = true) 3 w1_ (some ⟨vb, 0, none⟩) 1 [[.int .i64 d.f0, .int .i64 d.f1, vk]]) := ⟨by
            refine ⟨rfl, by omega, fun _ => ⟨⟨vb, 0, none⟩, rfl, fun j p hj => ?_⟩⟩
            have hj0 : j = 0 := by
              have := (List.getElem?_eq_some_iff.1 hj).1
              simpa using this
            subst hj0
            have hp : [.int .i64 d.f0, .int .i64 d.f1, vk] = p := by simpa using hj
            subst hp
            refine ⟨_, rfl, ⟨rfl, rfl, ?_⟩, fun i u hu => ?_⟩
            · intro u hu
              simp at hu
              rcases hu with rfl | rfl | rfl
              · rfl
              · rfl
              · exact hok
            · rw [Addr.add_lit, Nat.zero_mul, Nat.zero_add, Nat.zero_add, blk_cell hbv]
              simpa using hu⟩
          have HR5 := Aside0.mk (Kd.R_below (Kd.R_mono HRR.out (ok' := fun _ => True) (fun _ _ => trivial)) hbl)
          have B95 := Aside0.mk (blk_below B9.out hbl)
          have HSZ5 : Aside0 (w.heap.size + 2 ≤ w1_.heap.size) := ⟨by omega⟩
          have HLEN : Aside0 ((rows ++ [[Value.int .i64 d.f0, .int .i64 d.f1, vk]]).length = L.length + 1) := ⟨by rw [List.length_append, HRL.out]; rfl⟩
          clear hbl hbv hok v1 x0 x1' x2'
          go_wp2_with ((with_reducible refine gate_builtin (b := .append) (xs := #[.tmp 76, .tmp 79]) rfl ?_); at_builtin; refine Kd.R_append_rows (Kd.raw 3) (w0 := w1_) (w.heap.size + 2) rfl (.tmp 76) (.tmp 79) 22 32 (.agg #[.int .i64 0, .int .i64 0, .slice none 0 0]) 40 rfl Try.underlying22 info32 rfl (by decide) (by omega) (.slice A L.length c) rows [[.int .i64 d.f0, .int .i64 d.f1, vk]] (some ⟨vb, 0, none⟩) 1 1 (fun _ => True) (fun _ => False) rfl rfl HR5.out HRV.out (fun _ _ h => h) (fun _ h => h.elim) (fun _ _ => trivial) (Below.refl _ _) HSZ5.out (by have := HLN.out; rw [HRL.out]; omega) ?_; intro v4 w4 ho4 hb4 hg4 hat4; obtain ⟨Ao, co, rfl⟩ := Kd.R_slice ho4; obtain ⟨gA, rfl⟩ := R_addr ho4 (by rw [HLEN.out]; omega); rw [HLEN.out] at ho4 hat4 ⊢; have HO4 := Aside0.mk ho4; have HG4 := Aside0.mk hg4; have HA4 := Aside0.mk hat4; have bl4 := blk_grown B95.out hg4 (Kd.R_ne HR5.out B95.out (by decide)); have BL4 := Aside0.mk bl4; have l1' : w4.cell? ⟨w2.heap.size, 1, none⟩ = some (.slice A L.length c) := (blk_cell bl4 1).trans rfl; have fl1' := blk_frozen bl4 1; clear ho4 hb4 hg4 hat4 bl4)
          have HBI : Aside0 (BubInv w W1 a0_0 L d A3 c3 (Value.slice A L.length c).ownBlock w2.heap.size wr.heap.size (w.heap.size + 2) rows gA co L.length (rows ++ [[.int .i64 d.f0, .int .i64 d.f1, vk]]) (w4.setCell ⟨w2.heap.size, 1, none⟩ (.slice (some ⟨gA, 0, none⟩) (L.length + 1) co))) := ⟨by
            have bx4 := blk_grown (blk_below BX1.out HBL.out) HG4.out (fun he => by have := Kd.R_lt HRR.out _ he.symm; have := Kd.R_lt (Kd.S_R HI.out.s) _ he.symm; omega)
            have b64 := blk_grown (blk_below B6.out HBL.out) HG4.out (Kd.R_ne HR5.out (blk_below B6.out HBL.out) (by decide))
            have own1 : ∀ q, (Value.slice A L.length c).ownBlock = some q → q < wr.heap.size ∧ w.heap.size + 2 ≤ q := fun q hq => ⟨Kd.R_lt (Kd.S_R HI.out.s) _ hq, Kd.R_base (Kd.S_R HI.out.s) _ hq⟩
            refine ⟨Kd.R_set HO4.out BL4.out (by decide) 1 _, HLEN.out, ?_, ?_, fun j h1 h2 => by omega, blk_put BL4.out 1 _ rfl, blk_far b64 (show w.heap.size + 1 ≠ w2.heap.size by omega) _, blk_far bx4 (show wr.heap.size ≠ w2.heap.size by omega) _, ?_, fun q h1 h2 h3 => ?_, ?_, ?_, ?_⟩
            · rw [← HRL.out, List.take_left', List.take_length]; rfl
            · rw [← HRL.out, List.drop_of_length_le (by simp), List.drop_of_length_le (by simp)]
            · rcases HA4.out with h | ⟨b, h, hb⟩
              · have := own1 gA (by rw [← h]; rfl); omega
              · have : gA = b := by simpa [Value.ownBlock] using h
                omega
            · exact (Below.heap_setCell w4 ⟨w2.heap.size, 1, none⟩ _ q h2).trans ((HG4.out.block q (by have := HBL.out.size; omega) h3).trans (HBL.out.block q h1))
            · have h1 := HBL.out.size
              have h2 := HG4.out.size
              simp
              omega
            · rcases HA4.out with h | ⟨b, h, hb⟩
              · exact .inl (by rw [← h]; rfl)
              · have : gA = b := by simpa [Value.ownBlock] using h
                exact .inr (by have := HBL.out.size; omega)
            · exact Below.setCell (Below.grown (below_then HB1W.out HB1W.out.size HBL.out) HG4.out (by have := HB1W.out.size; have := HBL.out.size; omega) (fun q hq => by have := own1 q hq; omega)) (show w.heap.size ≤ w2.heap.size by omega) _⟩
          clear l1' fl1' HBV HRV HR5 B95 HSZ5 HLEN HO4 HG4 HA4 BL4 HBL hbs hvb
          obtain ⟨wo, hwo⟩ : ∃ wo, wo = wr := ⟨_, rfl⟩
          subst hwo
          go_loopw [15] (fun v15 wl => ∃ (p : Nat) (M : List (List Value)), v15 = .int .i64 p ∧ p ≤ L.length ∧ Aside0 (BubInv w W1 a0_0 L d A3 c3 (Value.slice A L.length c).ownBlock w2.heap.size wo.heap.size (w.heap.size + 2) rows gA co p M wl)) (fun v15 _ => (intOf v15).toNat)
          case atStart => exact ⟨_, _, rfl, Nat.le_refl _, HBI⟩
          case round =>
            obtain ⟨p, M, rfl, hp, HBU⟩ := hrel
            have HNX := Aside0.mk hp
            have v1 : wr.cell? ⟨w2.heap.size, 1, none⟩ = some (.slice (some ⟨gA, 0, none⟩) (L.length + 1) co) := (blk_cell HBU.out.b9 1).trans rfl
            have x0 : wr.cell? ⟨wo.heap.size, 0, none⟩ = some (.int .i64 d.f0) := (blk_cell HBU.out.bx 0).trans rfl
            have hLm : L.length ≤ 64 := HLN.out
            go_upto_region 22 with fail
            go_cut [95] (fun v95 w' => ∃ b : Bool, v95 = .bool b ∧ (b = true ↔ 0 < p ∧ d.f0 < (L.getD (p - 1) z32).f0) ∧ Aside0 (Below wr.heap.size wr w'))
            case first =>
              by_cases hp0 : p = 0
              · have hcp : decide ((0 : Int) < (p : Int)) = false := decide_eq_false (by omega)
                have hcp' : decide (0 < p) = false := decide_eq_false (by omega)
                refine region_facts (B := _) (w0 := _) [(82, (fun v _ => v = .int .i64 p)), (83, (fun v _ => v = .bool false)), (84, (fun v _ => v = .bool false)), (85, (fun v _ => v = undef)), (86, (fun v _ => v = undef)), (87, (fun v _ => v = undef)), (88, (fun v _ => v = undef)), (89, (fun v _ => v = undef)), (90, (fun v _ => v = undef)), (91, (fun v _ => v = undef)), (92, (fun v _ => v = undef)), (93, (fun v _ => v = undef)), (94, (fun v _ => v = undef)), (95, (fun v _ => v = .bool false))] (by kernel_rfl) (by kernel_rfl) (by rfl) (show ([82, 83, 84, 85, 86, 87, 88, 89, 90, 91, 92, 93, 94, 95] : List Nat).Nodup by decide) ?hsz ?hst (Below.refl _ _) (Nat.le_refl _) ?step ?fin
                case hsz => exact List.forall_mem_cons.2 ⟨(show 82 < 115 by decide), List.forall_mem_cons.2 ⟨(show 83 < 115 by decide), List.forall_mem_cons.2 ⟨(show 84 < 115 by decide), List.forall_mem_cons.2 ⟨(show 85 < 115 by decide), List.forall_mem_cons.2 ⟨(show 86 < 115 by decide), List.forall_mem_cons.2 ⟨(show 87 < 115 by decide), List.forall_mem_cons.2 ⟨(show 88 < 115 by decide), List.forall_mem_cons.2 ⟨(show 89 < 115 by decide), List.forall_mem_cons.2 ⟨(show 90 < 115 by decide), List.forall_mem_cons.2 ⟨(show 91 < 115 by decide), List.forall_mem_cons.2 ⟨(show 92 < 115 by decide), List.forall_mem_cons.2 ⟨(show 93 < 115 by decide), List.forall_mem_cons.2 ⟨(show 94 < 115 by decide), List.forall_mem_cons.2 ⟨(show 95 < 115 by decide), fun _ h => nomatch h⟩⟩⟩⟩⟩⟩⟩⟩⟩⟩⟩⟩⟩⟩
                case hst => exact List.forall_mem_cons.2 ⟨(fun v w1 w2 hb h => h), List.forall_mem_cons.2 ⟨(fun v w1 w2 hb h => h), List.forall_mem_cons.2 ⟨(fun v w1 w2 hb h => h), List.forall_mem_cons.2 ⟨(fun v w1 w2 hb h => h), List.forall_mem_cons.2 ⟨(fun v w1 w2 hb h => h), List.forall_mem_cons.2 ⟨(fun v w1 w2 hb h => h), List.forall_mem_cons.2 ⟨(fun v w1 w2 hb h => h), List.forall_mem_cons.2 ⟨(fun v w1 w2 hb h => h), List.forall_mem_cons.2 ⟨(fun v w1 w2 hb h => h), List.forall_mem_cons.2 ⟨(fun v w1 w2 hb h => h), List.forall_mem_cons.2 ⟨(fun v w1 w2 hb h => h), List.forall_mem_cons.2 ⟨(fun v w1 w2 hb h => h), List.forall_mem_cons.2 ⟨(fun v w1 w2 hb h => h), List.forall_mem_cons.2 ⟨(fun v w1 w2 hb h => h), fun _ h => nomatch h⟩⟩⟩⟩⟩⟩⟩⟩⟩⟩⟩⟩⟩⟩
                case step =>
                  intro i_ o_ e_ ho he a w1_ hs hdf hfr hbl hbs hpre
                  match i_, ho, he with
                  | 0, ho, he => obtain rfl : o_ = ⟨_, _, _, _, _, _⟩ := (Option.some.inj ho).symm; obtain rfl := Option.some.inj he; clear he; have f15 : a.tmps.getD 15 undef = .int .i64 p := (by rw [Array.getD_eq_getD_getElem?, hfr 15 (show ¬ 15 ∈ ([82, 83, 84, 85, 86, 87, 88, 89, 90, 91, 92, 93, 94, 95] : List Nat) by decide)]; rfl); clear hpre hfr; refine wpOp_value (v := .int .i64 p) ho rfl ?_ ⟨_, rfl, rfl, Below.refl _ _⟩; simp only [execOp, Act.eval, List.map_toArray, List.map_cons, List.map_nil, f15]; first | rfl | (go_simp; done) | (go_simp; rfl) | (go_simp; intro h_; exfalso; omega)
                  | 1, ho, he => obtain rfl : o_ = ⟨_, _, _, _, _, _⟩ := (Option.some.inj ho).symm; obtain rfl := Option.some.inj he; clear he; have e82 : a.tmps.getD 82 undef = .int .i64 p := hpre ⟨0, .data⟩ (by simp) rfl _ rfl; clear hpre hfr; refine wpOp_value (v := .bool false) ho rfl ?_ ⟨_, rfl, rfl, Below.refl _ _⟩; simp only [execOp, Act.eval, List.map_toArray, List.map_cons, List.map_nil, e82]; first | rfl | (go_simp; done) | (go_simp; rfl) | (go_simp; intro h_; exfalso; omega)
                  | 2, ho, he => obtain rfl : o_ = ⟨_, _, _, _, _, _⟩ := (Option.some.inj ho).symm; obtain rfl := Option.some.inj he; clear he; have e83 : a.tmps.getD 83 undef = .bool false := hpre ⟨1, .data⟩ (by simp) rfl _ rfl; clear hpre hfr; refine wpOp_value (v := .bool false) ho rfl ?_ ⟨_, rfl, rfl, Below.refl _ _⟩; simp only [execOp, Act.eval, List.map_toArray, List.map_cons, List.map_nil, e83]; first | rfl | (go_simp; done) | (go_simp; rfl) | (go_simp; intro h_; exfalso; omega)
                  | 3, ho, he => obtain rfl : o_ = ⟨_, _, _, _, _, _⟩ := (Option.some.inj ho).symm; obtain rfl := Option.some.inj he; clear he; have e84 : a.tmps.getD 84 undef = .bool false := hpre ⟨2, .guard⟩ (by simp) rfl _ rfl; have f9 : a.tmps.getD 9 undef = .pointer (some ⟨w2.heap.size, 0, none⟩) := (by rw [Array.getD_eq_getD_getElem?, hfr 9 (show ¬ 9 ∈ ([82, 83, 84, 85, 86, 87, 88, 89, 90, 91, 92, 93, 94, 95] : List Nat) by decide)]; rfl); clear hpre hfr; exact wpOp_unwanted ho (unwanted_of (n := 2) (d := 84) rfl rfl e84 (by simp [undef])) ⟨_, rfl, rfl, Below.refl _ _⟩
                  | 4, ho, he => obtain rfl : o_ = ⟨_, _, _, _, _, _⟩ := (Option.some.inj ho).symm; obtain rfl := Option.some.inj he; clear he; have e85 : a.tmps.getD 85 undef = undef := hpre ⟨3, .data⟩ (by simp) rfl _ rfl; have e84 : a.tmps.getD 84 undef = .bool false := hpre ⟨2, .guard⟩ (by simp) rfl _ rfl; clear hpre hfr; exact wpOp_unwanted ho (unwanted_of (n := 2) (d := 84) rfl rfl e84 (by simp [undef])) ⟨_, rfl, rfl, Below.refl _ _⟩
                  | 5, ho, he => obtain rfl : o_ = ⟨_, _, _, _, _, _⟩ := (Option.some.inj ho).symm; obtain rfl := Option.some.inj he; clear he; have e84 : a.tmps.getD 84 undef = .bool false := hpre ⟨2, .guard⟩ (by simp) rfl _ rfl; have f15 : a.tmps.getD 15 undef = .int .i64 p := (by rw [Array.getD_eq_getD_getElem?, hfr 15 (show ¬ 15 ∈ ([82, 83, 84, 85, 86, 87, 88, 89, 90, 91, 92, 93, 94, 95] : List Nat) by decide)]; rfl); clear hpre hfr; exact wpOp_unwanted ho (unwanted_of (n := 2) (d := 84) rfl rfl e84 (by simp [undef])) ⟨_, rfl, rfl, Below.refl _ _⟩
                  | 6, ho, he => obtain rfl : o_ = ⟨_, _, _, _, _, _⟩ := (Option.some.inj ho).symm; obtain rfl := Option.some.inj he; clear he; have e87 : a.tmps.getD 87 undef = undef := hpre ⟨5, .data⟩ (by simp) rfl _ rfl; have e84 : a.tmps.getD 84 undef = .bool false := hpre ⟨2, .guard⟩ (by simp) rfl _ rfl; clear hpre hfr; exact wpOp_unwanted ho (unwanted_of (n := 2) (d := 84) rfl rfl e84 (by simp [undef])) ⟨_, rfl, rfl, Below.refl _ _⟩
                  | 7, ho, he => obtain rfl : o_ = ⟨_, _, _, _, _, _⟩ := (Option.some.inj ho).symm; obtain rfl := Option.some.inj he; clear he; have e86 : a.tmps.getD 86 undef = undef := hpre ⟨4, .data⟩ (by simp) rfl _ rfl; have e88 : a.tmps.getD 88 undef = undef := hpre ⟨6, .data⟩ (by simp) rfl _ rfl; have e84 : a.tmps.getD 84 undef = .bool false := hpre ⟨2, .guard⟩ (by simp) rfl _ rfl; clear hpre hfr; exact wpOp_unwanted ho (unwanted_of (n := 2) (d := 84) rfl rfl e84 (by simp [undef])) ⟨_, rfl, rfl, Below.refl _ _⟩
                  | 8, ho, he => obtain rfl : o_ = ⟨_, _, _, _, _, _⟩ := (Option.some.inj ho).symm; obtain rfl := Option.some.inj he; clear he; have e89 : a.tmps.getD 89 undef = undef := hpre ⟨7, .data⟩ (by simp) rfl _ rfl; have e84 : a.tmps.getD 84 undef = .bool false := hpre ⟨2, .guard⟩ (by simp) rfl _ rfl; clear hpre hfr; exact wpOp_unwanted ho (unwanted_of (n := 2) (d := 84) rfl rfl e84 (by simp [undef])) ⟨_, rfl, rfl, Below.refl _ _⟩
                  | 9, ho, he => obtain rfl : o_ = ⟨_, _, _, _, _, _⟩ := (Option.some.inj ho).symm; obtain rfl := Option.some.inj he; clear he; have e90 : a.tmps.getD 90 undef = undef := hpre ⟨8, .data⟩ (by simp) rfl _ rfl; have e84 : a.tmps.getD 84 undef = .bool false := hpre ⟨2, .guard⟩ (by simp) rfl _ rfl; clear hpre hfr; exact wpOp_unwanted ho (unwanted_of (n := 2) (d := 84) rfl rfl e84 (by simp [undef])) ⟨_, rfl, rfl, Below.refl _ _⟩
                  | 10, ho, he => obtain rfl : o_ = ⟨_, _, _, _, _, _⟩ := (Option.some.inj ho).symm; obtain rfl := Option.some.inj he; clear he; have e84 : a.tmps.getD 84 undef = .bool false := hpre ⟨2, .guard⟩ (by simp) rfl _ rfl; have f11 : a.tmps.getD 11 undef = .pointer (some ⟨wo.heap.size, 0, none⟩) := (by rw [Array.getD_eq_getD_getElem?, hfr 11 (show ¬ 11 ∈ ([82, 83, 84, 85, 86, 87, 88, 89, 90, 91, 92, 93, 94, 95] : List Nat) by decide)]; rfl); clear hpre hfr; exact wpOp_unwanted ho (unwanted_of (n := 2) (d := 84) rfl rfl e84 (by simp [undef])) ⟨_, rfl, rfl, Below.refl _ _⟩
                  | 11, ho, he => obtain rfl : o_ = ⟨_, _, _, _, _, _⟩ := (Option.some.inj ho).symm; obtain rfl := Option.some.inj he; clear he; have e92 : a.tmps.getD 92 undef = undef := hpre ⟨10, .data⟩ (by simp) rfl _ rfl; have e84 : a.tmps.getD 84 undef = .bool false := hpre ⟨2, .guard⟩ (by simp) rfl _ rfl; clear hpre hfr; exact wpOp_unwanted ho (unwanted_of (n := 2) (d := 84) rfl rfl e84 (by simp [undef])) ⟨_, rfl, rfl, Below.refl _ _⟩
                  | 12, ho, he => obtain rfl : o_ = ⟨_, _, _, _, _, _⟩ := (Option.some.inj ho).symm; obtain rfl := Option.some.inj he; clear he; have e91 : a.tmps.getD 91 undef = undef := hpre ⟨9, .data⟩ (by simp) rfl _ rfl; have e93 : a.tmps.getD 93 undef = undef := hpre ⟨11, .data⟩ (by simp) rfl _ rfl; have e84 : a.tmps.getD 84 undef = .bool false := hpre ⟨2, .guard⟩ (by simp) rfl _ rfl; clear hpre hfr; exact wpOp_unwanted ho (unwanted_of (n := 2) (d := 84) rfl rfl e84 (by simp [undef])) ⟨_, rfl, rfl, Below.refl _ _⟩
                  | 13, ho, he => obtain rfl : o_ = ⟨_, _, _, _, _, _⟩ := (Option.some.inj ho).symm; obtain rfl := Option.some.inj he; clear he; have e84 : a.tmps.getD 84 undef = .bool false := hpre ⟨2, .data⟩ (by simp) rfl _ rfl; have e94 : a.tmps.getD 94 undef = undef := hpre ⟨12, .data⟩ (by simp) rfl _ rfl; clear hpre hfr; refine wpOp_value (v := .bool false) ho rfl ?_ ⟨_, rfl, rfl, Below.refl _ _⟩; simp only [execOp, Act.eval, List.map_toArray, List.map_cons, List.map_nil, e84, e94]; first | rfl | (go_simp; done) | (go_simp; rfl) | (go_simp; intro h_; exfalso; omega)
                  | n_ + 14, ho, he => simp at he
                case fin =>
                  intro xv_ w1_ hbl hx
                  simp only [List.forall_mem_cons] at hx
                  obtain ⟨x82, x83, x84, x85, x86, x87, x88, x89, x90, x91, x92, x93, x94, x95, _⟩ := hx
                  simp only [List.map_cons, List.map_nil, putL, Act.put, List.setIfInBounds_toArray, List.set_cons_zero, List.set_cons_succ, x82, x83, x84, x85, x86, x87, x88, x89, x90, x91, x92, x93, x94, x95]
                  clear x82 x83 x84 x85 x86 x87 x88 x89 x90 x91 x92 x93 x94 x95
                  go_wp2
                  go_meet
                  case rel => exact ⟨false, rfl, ⟨fun h => (by cases h), fun h => (by omega)⟩, ⟨hbl⟩⟩
              · obtain ⟨q, hq⟩ : ∃ q, p = q + 1 := ⟨p - 1, by omega⟩
                have hwp : IntKind.i64.wrap ((p : Int) - 1) = (q : Int) := by rw [IntKind.wrap_i64]; omega
                have hcp : decide ((0 : Int) < (p : Int)) = true := decide_eq_true (by omega)
                have hcp' : decide (0 < p) = true := decide_eq_true (by omega)
                have hqn : q < L.length := by omega
                obtain ⟨y, hy⟩ : ∃ y, y = L.getD q z32 := ⟨_, rfl⟩
                have hye : L[q]? = some y := by rw [hy, List.getD_eq_getElem?_getD, List.getElem?_eq_getElem hqn]; rfl
                obtain ⟨cs', hcs⟩ : ∃ cs', rows[q]? = some cs' := ⟨_, List.getElem?_eq_getElem (by rw [HRL.out]; exact hqn)⟩
                obtain ⟨vy, hvy, hRy⟩ := k32_openM (HRM.out q y cs' hye hcs)
                have hMq : M[q]? = some [.int .i64 y.f0, .int .i64 y.f1, vy] := by
                  have := congrArg (fun l => l[q]?) HBU.out.tk
                  simp only [List.getElem?_take] at this
                  rw [if_pos (by omega), if_pos (by omega), hcs, hvy] at this
                  exact this
                obtain ⟨cq, a1', a2', a3', a4'⟩ := Kd.R_elem HBU.out.raw [] (q : Int) (by omega) (by omega)
                have hcq : cq = [.int .i64 y.f0, .int .i64 y.f1, vy] := by
                  have h5 : cq = M.getD (q : Int).toNat [] := a2'.1
                  rw [h5, Int.toNat_natCast, List.getD_eq_getElem?_getD, hMq]; rfl
                subst hcq
                have r0 : wr.cell? ⟨gA, q * 3, none⟩ = some (.int .i64 y.f0) := a3' 0 _ rfl
                have HY : Aside0 (L.getD (p - 1) z32 = y) := ⟨by rw [hy, hq, Nat.add_sub_cancel]⟩
                have HPQ := Aside0.mk hq
                clear a1' a2' a3' a4' hMq hRy hvy hcs hye hy hq
                by_cases hgt : d.f0 < y.f0
                · have hdt : decide (d.f0 < y.f0) = true := decide_eq_true hgt
                  refine region_facts (B := _) (w0 := _) [(82, (fun v _ => v = .int .i64 p)), (83, (fun v _ => v = .bool true)), (84, (fun v _ => v = .bool true)), (85, (fun v _ => v = .pointer (some ⟨w2.heap.size, 1, none⟩))), (86, (fun v _ => v = .slice (some ⟨gA, 0, none⟩) (L.length + 1) co)), (87, (fun v _ => v = .int .i64 p)), (88, (fun v _ => v = .int .i64 q)), (89, (fun v _ => v = .pointer (some ⟨gA, q * 3, none⟩))), (90, (fun v _ => v = .pointer (some ⟨gA, q * 3, none⟩))), (91, (fun v _ => v = .int .i64 y.f0)), (92, (fun v _ => v = .pointer (some ⟨wo.heap.size, 0, none⟩))), (93, (fun v _ => v = .int .i64 d.f0)), (94, (fun v _ => v = .bool true)), (95, (fun v _ => v = .bool true))] (by kernel_rfl) (by kernel_rfl) (by rfl) (show ([82, 83, 84, 85, 86, 87, 88, 89, 90, 91, 92, 93, 94, 95] : List Nat).Nodup by decide) ?hsz ?hst (Below.refl _ _) (Nat.le_refl _) ?step ?fin
                  case hsz => exact List.forall_mem_cons.2 ⟨(show 82 < 115 by decide), List.forall_mem_cons.2 ⟨(show 83 < 115 by decide), List.forall_mem_cons.2 ⟨(show 84 < 115 by decide), List.forall_mem_cons.2 ⟨(show 85 < 115 by decide), List.forall_mem_cons.2 ⟨(show 86 < 115 by decide), List.forall_mem_cons.2 ⟨(show 87 < 115 by decide), List.forall_mem_cons.2 ⟨(show 88 < 115 by decide), List.forall_mem_cons.2 ⟨(show 89 < 115 by decide), List.forall_mem_cons.2 ⟨(show 90 < 115 by decide), List.forall_mem_cons.2 ⟨(show 91 < 115 by decide), List.forall_mem_cons.2 ⟨(show 92 < 115 by decide), List.forall_mem_cons.2 ⟨(show 93 < 115 by decide), List.forall_mem_cons.2 ⟨(show 94 < 115 by decide), List.forall_mem_cons.2 ⟨(show 95 < 115 by decide), fun _ h => nomatch h⟩⟩⟩⟩⟩⟩⟩⟩⟩⟩⟩⟩⟩⟩
                  case hst => exact List.forall_mem_cons.2 ⟨(fun v w1 w2 hb h => h), List.forall_mem_cons.2 ⟨(fun v w1 w2 hb h => h), List.forall_mem_cons.2 ⟨(fun v w1 w2 hb h => h), List.forall_mem_cons.2 ⟨(fun v w1 w2 hb h => h), List.forall_mem_cons.2 ⟨(fun v w1 w2 hb h => h), List.forall_mem_cons.2 ⟨(fun v w1 w2 hb h => h), List.forall_mem_cons.2 ⟨(fun v w1 w2 hb h => h), List.forall_mem_cons.2 ⟨(fun v w1 w2 hb h => h), List.forall_mem_cons.2 ⟨(fun v w1 w2 hb h => h), List.forall_mem_cons.2 ⟨(fun v w1 w2 hb h => h), List.forall_mem_cons.2 ⟨(fun v w1 w2 hb h => h), List.forall_mem_cons.2 ⟨(fun v w1 w2 hb h => h), List.forall_mem_cons.2 ⟨(fun v w1 w2 hb h => h), List.forall_mem_cons.2 ⟨(fun v w1 w2 hb h => h), fun _ h => nomatch h⟩⟩⟩⟩⟩⟩⟩⟩⟩⟩⟩⟩⟩⟩
                  case step =>
                    intro i_ o_ e_ ho he a w1_ hs hdf hfr hbl hbs hpre
                    match i_, ho, he with
                    | 0, ho, he => obtain rfl : o_ = ⟨_, _, _, _, _, _⟩ := (Option.some.inj ho).symm; obtain rfl := Option.some.inj he; clear he; have f15 : a.tmps.getD 15 undef = .int .i64 p := (by rw [Array.getD_eq_getD_getElem?, hfr 15 (show ¬ 15 ∈ ([82, 83, 84, 85, 86, 87, 88, 89, 90, 91, 92, 93, 94, 95] : List Nat) by decide)]; rfl); clear hpre hfr; refine wpOp_value (v := .int .i64 p) ho rfl ?_ ⟨_, rfl, rfl, Below.refl _ _⟩; simp only [execOp, Act.eval, List.map_toArray, List.map_cons, List.map_nil, f15]; first | rfl | (go_simp; done) | (go_simp; rfl) | (go_simp; intro h_; exfalso; omega)
                    | 1, ho, he => obtain rfl : o_ = ⟨_, _, _, _, _, _⟩ := (Option.some.inj ho).symm; obtain rfl := Option.some.inj he; clear he; have e82 : a.tmps.getD 82 undef = .int .i64 p := hpre ⟨0, .data⟩ (by simp) rfl _ rfl; clear hpre hfr; refine wpOp_value (v := .bool true) ho rfl ?_ ⟨_, rfl, rfl, Below.refl _ _⟩; simp only [execOp, Act.eval, List.map_toArray, List.map_cons, List.map_nil, e82]; first | rfl | (go_simp; done) | (go_simp; rfl) | (go_simp; intro h_; exfalso; omega)
                    | 2, ho, he => obtain rfl : o_ = ⟨_, _, _, _, _, _⟩ := (Option.some.inj ho).symm; obtain rfl := Option.some.inj he; clear he; have e83 : a.tmps.getD 83 undef = .bool true := hpre ⟨1, .data⟩ (by simp) rfl _ rfl; clear hpre hfr; refine wpOp_value (v := .bool true) ho rfl ?_ ⟨_, rfl, rfl, Below.refl _ _⟩; simp only [execOp, Act.eval, List.map_toArray, List.map_cons, List.map_nil, e83]; first | rfl | (go_simp; done) | (go_simp; rfl) | (go_simp; intro h_; exfalso; omega)
                    | 3, ho, he => obtain rfl : o_ = ⟨_, _, _, _, _, _⟩ := (Option.some.inj ho).symm; obtain rfl := Option.some.inj he; clear he; have e84 : a.tmps.getD 84 undef = .bool true := hpre ⟨2, .guard⟩ (by simp) rfl _ rfl; have f9 : a.tmps.getD 9 undef = .pointer (some ⟨w2.heap.size, 0, none⟩) := (by rw [Array.getD_eq_getD_getElem?, hfr 9 (show ¬ 9 ∈ ([82, 83, 84, 85, 86, 87, 88, 89, 90, 91, 92, 93, 94, 95] : List Nat) by decide)]; rfl); clear hpre hfr; refine wpOp_value_w (v := .pointer (some ⟨w2.heap.size, 1, none⟩)) ho (wanted_of (n := 2) (d := 84) rfl rfl (by rw [hs]; exact (show 84 < 115 by decide)) e84) ?_ ⟨_, rfl, rfl, Below.refl _ _⟩; simp only [execOp, Act.eval, List.map_toArray, List.map_cons, List.map_nil, e84, f9]; first | rfl | (go_simp; done) | (go_simp; rfl) | (go_simp; intro h_; exfalso; omega)
                    | 4, ho, he => obtain rfl : o_ = ⟨_, _, _, _, _, _⟩ := (Option.some.inj ho).symm; obtain rfl := Option.some.inj he; clear he; have e85 : a.tmps.getD 85 undef = .pointer (some ⟨w2.heap.size, 1, none⟩) := hpre ⟨3, .data⟩ (by simp) rfl _ rfl; have e84 : a.tmps.getD 84 undef = .bool true := hpre ⟨2, .guard⟩ (by simp) rfl _ rfl; clear hpre hfr; have k_v1 := (hbl.cell (World.block_lt_of_cell? _ _ v1)).trans v1; refine wpOp_value_w (v := .slice (some ⟨gA, 0, none⟩) (L.length + 1) co) ho (wanted_of (n := 2) (d := 84) rfl rfl (by rw [hs]; exact (show 84 < 115 by decide)) e84) ?_ ⟨_, rfl, rfl, Below.refl _ _⟩; simp only [execOp, Act.eval, List.map_toArray, List.map_cons, List.map_nil, e85, e84]; first | rfl | (go_simp; done) | (go_simp; rfl) | (go_simp; intro h_; exfalso; omega)
                    | 5, ho, he => obtain rfl : o_ = ⟨_, _, _, _, _, _⟩ := (Option.some.inj ho).symm; obtain rfl := Option.some.inj he; clear he; have e84 : a.tmps.getD 84 undef = .bool true := hpre ⟨2, .guard⟩ (by simp) rfl _ rfl; have f15 : a.tmps.getD 15 undef = .int .i64 p := (by rw [Array.getD_eq_getD_getElem?, hfr 15 (show ¬ 15 ∈ ([82, 83, 84, 85, 86, 87, 88, 89, 90, 91, 92, 93, 94, 95] : List Nat) by decide)]; rfl); clear hpre hfr; refine wpOp_value_w (v := .int .i64 p) ho (wanted_of (n := 2) (d := 84) rfl rfl (by rw [hs]; exact (show 84 < 115 by decide)) e84) ?_ ⟨_, rfl, rfl, Below.refl _ _⟩; simp only [execOp, Act.eval, List.map_toArray, List.map_cons, List.map_nil, e84, f15]; first | rfl | (go_simp; done) | (go_simp; rfl) | (go_simp; intro h_; exfalso; omega)
                    | 6, ho, he => obtain rfl : o_ = ⟨_, _, _, _, _, _⟩ := (Option.some.inj ho).symm; obtain rfl := Option.some.inj he; clear he; have e87 : a.tmps.getD 87 undef = .int .i64 p := hpre ⟨5, .data⟩ (by simp) rfl _ rfl; have e84 : a.tmps.getD 84 undef = .bool true := hpre ⟨2, .guard⟩ (by simp) rfl _ rfl; clear hpre hfr; refine wpOp_value_w (v := .int .i64 q) ho (wanted_of (n := 2) (d := 84) rfl rfl (by rw [hs]; exact (show 84 < 115 by decide)) e84) ?_ ⟨_, rfl, rfl, Below.refl _ _⟩; simp only [execOp, Act.eval, List.map_toArray, List.map_cons, List.map_nil, e87, e84]; first | rfl | (go_simp; done) | (go_simp; rfl) | (go_simp; intro h_; exfalso; omega)
                    | 7, ho, he => obtain rfl : o_ = ⟨_, _, _, _, _, _⟩ := (Option.some.inj ho).symm; obtain rfl := Option.some.inj he; clear he; have e86 : a.tmps.getD 86 undef = .slice (some ⟨gA, 0, none⟩) (L.length + 1) co := hpre ⟨4, .data⟩ (by simp) rfl _ rfl; have e88 : a.tmps.getD 88 undef = .int .i64 q := hpre ⟨6, .data⟩ (by simp) rfl _ rfl; have e84 : a.tmps.getD 84 undef = .bool true := hpre ⟨2, .guard⟩ (by simp) rfl _ rfl; clear hpre hfr; refine wpOp_value_w (v := .pointer (some ⟨gA, q * 3, none⟩)) ho (wanted_of (n := 2) (d := 84) rfl rfl (by rw [hs]; exact (show 84 < 115 by decide)) e84) ?_ ⟨_, rfl, rfl, Below.refl _ _⟩; simp only [execOp, Act.eval, List.map_toArray, List.map_cons, List.map_nil, e86, e88, e84]; first | rfl | (go_simp; done) | (go_simp; rfl) | (go_simp; intro h_; exfalso; omega)
                    | 8, ho, he => obtain rfl : o_ = ⟨_, _, _, _, _, _⟩ := (Option.some.inj ho).symm; obtain rfl := Option.some.inj he; clear he; have e89 : a.tmps.getD 89 undef = .pointer (some ⟨gA, q * 3, none⟩) := hpre ⟨7, .data⟩ (by simp) rfl _ rfl; have e84 : a.tmps.getD 84 undef = .bool true := hpre ⟨2, .guard⟩ (by simp) rfl _ rfl; clear hpre hfr; refine wpOp_value_w (v := .pointer (some ⟨gA, q * 3, none⟩)) ho (wanted_of (n := 2) (d := 84) rfl rfl (by rw [hs]; exact (show 84 < 115 by decide)) e84) ?_ ⟨_, rfl, rfl, Below.refl _ _⟩; simp only [execOp, Act.eval, List.map_toArray, List.map_cons, List.map_nil, e89, e84]; first | rfl | (go_simp; done) | (go_simp; rfl) | (go_simp; intro h_; exfalso; omega)
                    | 9, ho, he => obtain rfl : o_ = ⟨_, _, _, _, _, _⟩ := (Option.some.inj ho).symm; obtain rfl := Option.some.inj he; clear he; have e90 : a.tmps.getD 90 undef = .pointer (some ⟨gA, q * 3, none⟩) := hpre ⟨8, .data⟩ (by simp) rfl _ rfl; have e84 : a.tmps.getD 84 undef = .bool true := hpre ⟨2, .guard⟩ (by simp) rfl _ rfl; clear hpre hfr; have k_r0 := (hbl.cell (World.block_lt_of_cell? _ _ r0)).trans r0; refine wpOp_value_w (v := .int .i64 y.f0) ho (wanted_of (n := 2) (d := 84) rfl rfl (by rw [hs]; exact (show 84 < 115 by decide)) e84) ?_ ⟨_, rfl, rfl, Below.refl _ _⟩; simp only [execOp, Act.eval, List.map_toArray, List.map_cons, List.map_nil, e90, e84]; first | rfl | (go_simp; done) | (go_simp; rfl) | (go_simp; intro h_; exfalso; omega)
                    | 10, ho, he => obtain rfl : o_ = ⟨_, _, _, _, _, _⟩ := (Option.some.inj ho).symm; obtain rfl := Option.some.inj he; clear he; have e84 : a.tmps.getD 84 undef = .bool true := hpre ⟨2, .guard⟩ (by simp) rfl _ rfl; have f11 : a.tmps.getD 11 undef = .pointer (some ⟨wo.heap.size, 0, none⟩) := (by rw [Array.getD_eq_getD_getElem?, hfr 11 (show ¬ 11 ∈ ([82, 83, 84, 85, 86, 87, 88, 89, 90, 91, 92, 93, 94, 95] : List Nat) by decide)]; rfl); clear hpre hfr; refine wpOp_value_w (v := .pointer (some ⟨wo.heap.size, 0, none⟩)) ho (wanted_of (n := 2) (d := 84) rfl rfl (by rw [hs]; exact (show 84 < 115 by decide)) e84) ?_ ⟨_, rfl, rfl, Below.refl _ _⟩; simp only [execOp, Act.eval, List.map_toArray, List.map_cons, List.map_nil, e84, f11]; first | rfl | (go_simp; done) | (go_simp; rfl) | (go_simp; intro h_; exfalso; omega)
                    | 11, ho, he => obtain rfl : o_ = ⟨_, _, _, _, _, _⟩ := (Option.some.inj ho).symm; obtain rfl := Option.some.inj he; clear he; have e92 : a.tmps.getD 92 undef = .pointer (some ⟨wo.heap.size, 0, none⟩) := hpre ⟨10, .data⟩ (by simp) rfl _ rfl; have e84 : a.tmps.getD 84 undef = .bool true := hpre ⟨2, .guard⟩ (by simp) rfl _ rfl; clear hpre hfr; have k_x0 := (hbl.cell (World.block_lt_of_cell? _ _ x0)).trans x0; refine wpOp_value_w (v := .int .i64 d.f0) ho (wanted_of (n := 2) (d := 84) rfl rfl (by rw [hs]; exact (show 84 < 115 by decide)) e84) ?_ ⟨_, rfl, rfl, Below.refl _ _⟩; simp only [execOp, Act.eval, List.map_toArray, List.map_cons, List.map_nil, e92, e84]; first | rfl | (go_simp; done) | (go_simp; rfl) | (go_simp; intro h_; exfalso; omega)
                    | 12, ho, he => obtain rfl : o_ = ⟨_, _, _, _, _, _⟩ := (Option.some.inj ho).symm; obtain rfl := Option.some.inj he; clear he; have e91 : a.tmps.getD 91 undef = .int .i64 y.f0 := hpre ⟨9, .data⟩ (by simp) rfl _ rfl; have e93 : a.tmps.getD 93 undef = .int .i64 d.f0 := hpre ⟨11, .data⟩ (by simp) rfl _ rfl; have e84 : a.tmps.getD 84 undef = .bool true := hpre ⟨2, .guard⟩ (by simp) rfl _ rfl; clear hpre hfr; refine wpOp_value_w (v := .bool true) ho (wanted_of (n := 2) (d := 84) rfl rfl (by rw [hs]; exact (show 84 < 115 by decide)) e84) ?_ ⟨_, rfl, rfl, Below.refl _ _⟩; simp only [execOp, Act.eval, List.map_toArray, List.map_cons, List.map_nil, e91, e93, e84]; first | rfl | (go_simp; done) | (go_simp; rfl) | (go_simp; intro h_; exfalso; omega)
                    | 13, ho, he => obtain rfl : o_ = ⟨_, _, _, _, _, _⟩ := (Option.some.inj ho).symm; obtain rfl := Option.some.inj he; clear he; have e84 : a.tmps.getD 84 undef = .bool true := hpre ⟨2, .data⟩ (by simp) rfl _ rfl; have e94 : a.tmps.getD 94 undef = .bool true := hpre ⟨12, .data⟩ (by simp) rfl _ rfl; clear hpre hfr; refine wpOp_value (v := .bool true) ho rfl ?_ ⟨_, rfl, rfl, Below.refl _ _⟩; simp only [execOp, Act.eval, List.map_toArray, List.map_cons, List.map_nil, e84, e94]; first | rfl | (go_simp; done) | (go_simp; rfl) | (go_simp; intro h_; exfalso; omega)
                    | n_ + 14, ho, he => simp at he
                  case fin =>
                    intro xv_ w1_ hbl hx
                    simp only [List.forall_mem_cons] at hx
                    obtain ⟨x82, x83, x84, x85, x86, x87, x88, x89, x90, x91, x92, x93, x94, x95, _⟩ := hx
                    simp only [List.map_cons, List.map_nil, putL, Act.put, List.setIfInBounds_toArray, List.set_cons_zero, List.set_cons_succ, x82, x83, x84, x85, x86, x87, x88, x89, x90, x91, x92, x93, x94, x95]
                    clear x82 x83 x84 x85 x86 x87 x88 x89 x90 x91 x92 x93 x94 x95
                    go_wp2
                    go_meet
                    case rel => exact ⟨true, rfl, ⟨fun _ => ⟨by omega, by rw [HY.out]; exact hgt⟩, fun _ => rfl⟩, ⟨hbl⟩⟩
                · have hdt : decide (d.f0 < y.f0) = false := decide_eq_false hgt
                  refine region_facts (B := _) (w0 := _) [(82, (fun v _ => v = .int .i64 p)), (83, (fun v _ => v = .bool true)), (84, (fun v _ => v = .bool true)), (85, (fun v _ => v = .pointer (some ⟨w2.heap.size, 1, none⟩))), (86, (fun v _ => v = .slice (some ⟨gA, 0, none⟩) (L.length + 1) co)), (87, (fun v _ => v = .int .i64 p)), (88, (fun v _ => v = .int .i64 q)), (89, (fun v _ => v = .pointer (some ⟨gA, q * 3, none⟩))), (90, (fun v _ => v = .pointer (some ⟨gA, q * 3, none⟩))), (91, (fun v _ => v = .int .i64 y.f0)), (92, (fun v _ => v = .pointer (some ⟨wo.heap.size, 0, none⟩))), (93, (fun v _ => v = .int .i64 d.f0)), (94, (fun v _ => v = .bool false)), (95, (fun v _ => v = .bool false))] (by kernel_rfl) (by kernel_rfl) (by rfl) (show ([82, 83, 84, 85, 86, 87, 88, 89, 90, 91, 92, 93, 94, 95] : List Nat).Nodup by decide) ?hsz ?hst (Below.refl _ _) (Nat.le_refl _) ?step ?fin
                  case hsz => exact List.forall_mem_cons.2 ⟨(show 82 < 115 by decide), List.forall_mem_cons.2 ⟨(show 83 < 115 by decide), List.forall_mem_cons.2 ⟨(show 84 < 115 by decide), List.forall_mem_cons.2 ⟨(show 85 < 115 by decide), List.forall_mem_cons.2 ⟨(show 86 < 115 by decide), List.forall_mem_cons.2 ⟨(show 87 < 115 by decide), List.forall_mem_cons.2 ⟨(show 88 < 115 by decide), List.forall_mem_cons.2 ⟨(show 89 < 115 by decide), List.forall_mem_cons.2 ⟨(show 90 < 115 by decide), List.forall_mem_cons.2 ⟨(show 91 < 115 by decide), List.forall_mem_cons.2 ⟨(show 92 < 115 by decide), List.forall_mem_cons.2 ⟨(show 93 < 115 by decide), List.forall_mem_cons.2 ⟨(show 94 < 115 by decide), List.forall_mem_cons.2 ⟨(show 95 < 115 by decide), fun _ h => nomatch h⟩⟩⟩⟩⟩⟩⟩⟩⟩⟩⟩⟩⟩⟩
                  case hst => exact List.forall_mem_cons.2 ⟨(fun v w1 w2 hb h => h), List.forall_mem_cons.2 ⟨(fun v w1 w2 hb h => h), List.forall_mem_cons.2 ⟨(fun v w1 w2 hb h => h), List.forall_mem_cons.2 ⟨(fun v w1 w2 hb h => h), List.forall_mem_cons.2 ⟨(fun v w1 w2 hb h => h), List.forall_mem_cons.2 ⟨(fun v w1 w2 hb h => h), List.forall_mem_cons.2 ⟨(fun v w1 w2 hb h => h), List.forall_mem_cons.2 ⟨(fun v w1 w2 hb h => h), List.forall_mem_cons.2 ⟨(fun v w1 w2 hb h => h), List.forall_mem_cons.2 ⟨(fun v w1 w2 hb h => h), List.forall_mem_cons.2 ⟨(fun v w1 w2 hb h => h), List.forall_mem_cons.2 ⟨(fun v w1 w2 hb h => h), List.forall_mem_cons.2 ⟨(fun v w1 w2 hb h => h), List.forall_mem_cons.2 ⟨(fun v w1 w2 hb h => h), fun _ h => nomatch h⟩⟩⟩⟩⟩⟩⟩⟩⟩⟩⟩⟩⟩⟩
                  case step =>
                    intro i_ o_ e_ ho he a w1_ hs hdf hfr hbl hbs hpre
                    match i_, ho, he with
                    | 0, ho, he => obtain rfl : o_ = ⟨_, _, _, _, _, _⟩ := (Option.some.inj ho).symm; obtain rfl := Option.some.inj he; clear he; have f15 : a.tmps.getD 15 undef = .int .i64 p := (by rw [Array.getD_eq_getD_getElem?, hfr 15 (show ¬ 15 ∈ ([82, 83, 84, 85, 86, 87, 88, 89, 90, 91, 92, 93, 94, 95] : List Nat) by decide)]; rfl); clear hpre hfr; refine wpOp_value (v := .int .i64 p) ho rfl ?_ ⟨_, rfl, rfl, Below.refl _ _⟩; simp only [execOp, Act.eval, List.map_toArray, List.map_cons, List.map_nil, f15]; first | rfl | (go_simp; done) | (go_simp; rfl) | (go_simp; intro h_; exfalso; omega)
                    | 1, ho, he => obtain rfl : o_ = ⟨_, _, _, _, _, _⟩ := (Option.some.inj ho).symm; obtain rfl := Option.some.inj he; clear he; have e82 : a.tmps.getD 82 undef = .int .i64 p := hpre ⟨0, .data⟩ (by simp) rfl _ rfl; clear hpre hfr; refine wpOp_value (v := .bool true) ho rfl ?_ ⟨_, rfl, rfl, Below.refl _ _⟩; simp only [execOp, Act.eval, List.map_toArray, List.map_cons, List.map_nil, e82]; first | rfl | (go_simp; done) | (go_simp; rfl) | (go_simp; intro h_; exfalso; omega)
                    | 2, ho, he => obtain rfl : o_ = ⟨_, _, _, _, _, _⟩ := (Option.some.inj ho).symm; obtain rfl := Option.some.inj he; clear he; have e83 : a.tmps.getD 83 undef = .bool true := hpre ⟨1, .data⟩ (by simp) rfl _ rfl; clear hpre hfr; refine wpOp_value (v := .bool true) ho rfl ?_ ⟨_, rfl, rfl, Below.refl _ _⟩; simp only [execOp, Act.eval, List.map_toArray, List.map_cons, List.map_nil, e83]; first | rfl | (go_simp; done) | (go_simp; rfl) | (go_simp; intro h_; exfalso; omega)
                    | 3, ho, he => obtain rfl : o_ = ⟨_, _, _, _, _, _⟩ := (Option.some.inj ho).symm; obtain rfl := Option.some.inj he; clear he; have e84 : a.tmps.getD 84 undef = .bool true := hpre ⟨2, .guard⟩ (by simp) rfl _ rfl; have f9 : a.tmps.getD 9 undef = .pointer (some ⟨w2.heap.size, 0, none⟩) := (by rw [Array.getD_eq_getD_getElem?, hfr 9 (show ¬ 9 ∈ ([82, 83, 84, 85, 86, 87, 88, 89, 90, 91, 92, 93, 94, 95] : List Nat) by decide)]; rfl); clear hpre hfr; refine wpOp_value_w (v := .pointer (some ⟨w2.heap.size, 1, none⟩)) ho (wanted_of (n := 2) (d := 84) rfl rfl (by rw [hs]; exact (show 84 < 115 by decide)) e84) ?_ ⟨_, rfl, rfl, Below.refl _ _⟩; simp only [execOp, Act.eval, List.map_toArray, List.map_cons, List.map_nil, e84, f9]; first | rfl | (go_simp; done) | (go_simp; rfl) | (go_simp; intro h_; exfalso; omega)
                    | 4, ho, he => obtain rfl : o_ = ⟨_, _, _, _, _, _⟩ := (Option.some.inj ho).symm; obtain rfl := Option.some.inj he; clear he; have e85 : a.tmps.getD 85 undef = .pointer (some ⟨w2.heap.size, 1, none⟩) := hpre ⟨3, .data⟩ (by simp) rfl _ rfl; have e84 : a.tmps.getD 84 undef = .bool true := hpre ⟨2, .guard⟩ (by simp) rfl _ rfl; clear hpre hfr; have k_v1 := (hbl.cell (World.block_lt_of_cell? _ _ v1)).trans v1; refine wpOp_value_w (v := .slice (some ⟨gA, 0, none⟩) (L.length + 1) co) ho (wanted_of (n := 2) (d := 84) rfl rfl (by rw [hs]; exact (show 84 < 115 by decide)) e84) ?_ ⟨_, rfl, rfl, Below.refl _ _⟩; simp only [execOp, Act.eval, List.map_toArray, List.map_cons, List.map_nil, e85, e84]; first | rfl | (go_simp; done) | (go_simp; rfl) | (go_simp; intro h_; exfalso; omega)
                    | 5, ho, he => obtain rfl : o_ = ⟨_, _, _, _, _, _⟩ := (Option.some.inj ho).symm; obtain rfl := Option.some.inj he; clear he; have e84 : a.tmps.getD 84 undef = .bool true := hpre ⟨2, .guard⟩ (by simp) rfl _ rfl; have f15 : a.tmps.getD 15 undef = .int .i64 p := (by rw [Array.getD_eq_getD_getElem?, hfr 15 (show ¬ 15 ∈ ([82, 83, 84, 85, 86, 87, 88, 89, 90, 91, 92, 93, 94, 95] : List Nat) by decide)]; rfl); clear hpre hfr; refine wpOp_value_w (v := .int .i64 p) ho (wanted_of (n := 2) (d := 84) rfl rfl (by rw [hs]; exact (show 84 < 115 by decide)) e84) ?_ ⟨_, rfl, rfl, Below.refl _ _⟩; simp only [execOp, Act.eval, List.map_toArray, List.map_cons, List.map_nil, e84, f15]; first | rfl | (go_simp; done) | (go_simp; rfl) | (go_simp; intro h_; exfalso; omega)
                    | 6, ho, he => obtain rfl : o_ = ⟨_, _, _, _, _, _⟩ := (Option.some.inj ho).symm; obtain rfl := Option.some.inj he; clear he; have e87 : a.tmps.getD 87 undef = .int .i64 p := hpre ⟨5, .data⟩ (by simp) rfl _ rfl; have e84 : a.tmps.getD 84 undef = .bool true := hpre ⟨2, .guard⟩ (by simp) rfl _ rfl; clear hpre hfr; refine wpOp_value_w (v := .int .i64 q) ho (wanted_of (n := 2) (d := 84) rfl rfl (by rw [hs]; exact (show 84 < 115 by decide)) e84) ?_ ⟨_, rfl, rfl, Below.refl _ _⟩; simp only [execOp, Act.eval, List.map_toArray, List.map_cons, List.map_nil, e87, e84]; first | rfl | (go_simp; done) | (go_simp; rfl) | (go_simp; intro h_; exfalso; omega)
                    | 7, ho, he => obtain rfl : o_ = ⟨_, _, _, _, _, _⟩ := (Option.some.inj ho).symm; obtain rfl := Option.some.inj he; clear he; have e86 : a.tmps.getD 86 undef = .slice (some ⟨gA, 0, none⟩) (L.length + 1) co := hpre ⟨4, .data⟩ (by simp) rfl _ rfl; have e88 : a.tmps.getD 88 undef = .int .i64 q := hpre ⟨6, .data⟩ (by simp) rfl _ rfl; have e84 : a.tmps.getD 84 undef = .bool true := hpre ⟨2, .guard⟩ (by simp) rfl _ rfl; clear hpre hfr; refine wpOp_value_w (v := .pointer (some ⟨gA, q * 3, none⟩)) ho (wanted_of (n := 2) (d := 84) rfl rfl (by rw [hs]; exact (show 84 < 115 by decide)) e84) ?_ ⟨_, rfl, rfl, Below.refl _ _⟩; simp only [execOp, Act.eval, List.map_toArray, List.map_cons, List.map_nil, e86, e88, e84]; first | rfl | (go_simp; done) | (go_simp; rfl) | (go_simp; intro h_; exfalso; omega)
                    | 8, ho, he => obtain rfl : o_ = ⟨_, _, _, _, _, _⟩ := (Option.some.inj ho).symm; obtain rfl := Option.some.inj he; clear he; have e89 : a.tmps.getD 89 undef = .pointer (some ⟨gA, q * 3, none⟩) := hpre ⟨7, .data⟩ (by simp) rfl _ rfl; have e84 : a.tmps.getD 84 undef = .bool true := hpre ⟨2, .guard⟩ (by simp) rfl _ rfl; clear hpre hfr; refine wpOp_value_w (v := .pointer (some ⟨gA, q * 3, none⟩)) ho (wanted_of (n := 2) (d := 84) rfl rfl (by rw [hs]; exact (show 84 < 115 by decide)) e84) ?_ ⟨_, rfl, rfl, Below.refl _ _⟩; simp only [execOp, Act.eval, List.map_toArray, List.map_cons, List.map_nil, e89, e84]; first | rfl | (go_simp; done) | (go_simp; rfl) | (go_simp; intro h_; exfalso; omega)
                    | 9, ho, he => obtain rfl : o_ = ⟨_, _, _, _, _, _⟩ := (Option.some.inj ho).symm; obtain rfl := Option.some.inj he; clear he; have e90 : a.tmps.getD 90 undef = .pointer (some ⟨gA, q * 3, none⟩) := hpre ⟨8, .data⟩ (by simp) rfl _ rfl; have e84 : a.tmps.getD 84 undef = .bool true := hpre ⟨2, .guard⟩ (by simp) rfl _ rfl; clear hpre hfr; have k_r0 := (hbl.cell (World.block_lt_of_cell? _ _ r0)).trans r0; refine wpOp_value_w (v := .int .i64 y.f0) ho (wanted_of (n := 2) (d := 84) rfl rfl (by rw [hs]; exact (show 84 < 115 by decide)) e84) ?_ ⟨_, rfl, rfl, Below.refl _ _⟩; simp only [execOp, Act.eval, List.map_toArray, List.map_cons, List.map_nil, e90, e84]; first | rfl | (go_simp; done) | (go_simp; rfl) | (go_simp; intro h_; exfalso; omega)
                    | 10, ho, he => obtain rfl : o_ = ⟨_, _, _, _, _, _⟩ := (Option.some.inj ho).symm; obtain rfl := Option.some.inj he; clear he; have e84 : a.tmps.getD 84 undef = .bool true := hpre ⟨2, .guard⟩ (by simp) rfl _ rfl; have f11 : a.tmps.getD 11 undef = .pointer (some ⟨wo.heap.size, 0, none⟩) := (by rw [Array.getD_eq_getD_getElem?, hfr 11 (show ¬ 11 ∈ ([82, 83, 84, 85, 86, 87, 88, 89, 90, 91, 92, 93, 94, 95] : List Nat) by decide)]; rfl); clear hpre hfr; refine wpOp_value_w (v := .pointer (some ⟨wo.heap.size, 0, none⟩)) ho (wanted_of (n := 2) (d := 84) rfl rfl (by rw [hs]; exact (show 84 < 115 by decide)) e84) ?_ ⟨_, rfl, rfl, Below.refl _ _⟩; simp only [execOp, Act.eval, List.map_toArray, List.map_cons, List.map_nil, e84, f11]; first | rfl | (go_simp; done) | (go_simp; rfl) | (go_simp; intro h_; exfalso; omega)
                    | 11, ho, he => obtain rfl : o_ = ⟨_, _, _, _, _, _⟩ := (Option.some.inj ho).symm; obtain rfl := Option.some.inj he; clear he; have e92 : a.tmps.getD 92 undef = .pointer (some ⟨wo.heap.size, 0, none⟩) := hpre ⟨10, .data⟩ (by simp) rfl _ rfl; have e84 : a.tmps.getD 84 undef = .bool true := hpre ⟨2, .guard⟩ (by simp) rfl _ rfl; clear hpre hfr; have k_x0 := (hbl.cell (World.block_lt_of_cell? _ _ x0)).trans x0; refine wpOp_value_w (v := .int .i64 d.f0) ho (wanted_of (n := 2) (d := 84) rfl rfl (by rw [hs]; exact (show 84 < 115 by decide)) e84) ?_ ⟨_, rfl, rfl, Below.refl _ _⟩; simp only [execOp, Act.eval, List.map_toArray, List.map_cons, List.map_nil, e92, e84]; first | rfl | (go_simp; done) | (go_simp; rfl) | (go_simp; intro h_; exfalso; omega)
                    | 12, ho, he => obtain rfl : o_ = ⟨_, _, _, _, _, _⟩ := (Option.some.inj ho).symm; obtain rfl := Option.some.inj he; clear he; have e91 : a.tmps.getD 91 undef = .int .i64 y.f0 := hpre ⟨9, .data⟩ (by simp) rfl _ rfl; have e93 : a.tmps.getD 93 undef = .int .i64 d.f0 := hpre ⟨11, .data⟩ (by simp) rfl _ rfl; have e84 : a.tmps.getD 84 undef = .bool true := hpre ⟨2, .guard⟩ (by simp) rfl _ rfl; clear hpre hfr; refine wpOp_value_w (v := .bool false) ho (wanted_of (n := 2) (d := 84) rfl rfl (by rw [hs]; exact (show 84 < 115 by decide)) e84) ?_ ⟨_, rfl, rfl, Below.refl _ _⟩; simp only [execOp, Act.eval, List.map_toArray, List.map_cons, List.map_nil, e91, e93, e84]; first | rfl | (go_simp; done) | (go_simp; rfl) | (go_simp; intro h_; exfalso; omega)
                    | 13, ho, he => obtain rfl : o_ = ⟨_, _, _, _, _, _⟩ := (Option.some.inj ho).symm; obtain rfl := Option.some.inj he; clear he; have e84 : a.tmps.getD 84 undef = .bool true := hpre ⟨2, .data⟩ (by simp) rfl _ rfl; have e94 : a.tmps.getD 94 undef = .bool false := hpre ⟨12, .data⟩ (by simp) rfl _ rfl; clear hpre hfr; refine wpOp_value (v := .bool false) ho rfl ?_ ⟨_, rfl, rfl, Below.refl _ _⟩; simp only [execOp, Act.eval, List.map_toArray, List.map_cons, List.map_nil, e84, e94]; first | rfl | (go_simp; done) | (go_simp; rfl) | (go_simp; intro h_; exfalso; omega)
                    | n_ + 14, ho, he => simp at he
                  case fin =>
                    intro xv_ w1_ hbl hx
                    simp only [List.forall_mem_cons] at hx
                    obtain ⟨x82, x83, x84, x85, x86, x87, x88, x89, x90, x91, x92, x93, x94, x95, _⟩ := hx
                    simp only [List.map_cons, List.map_nil, putL, Act.put, List.setIfInBounds_toArray, List.set_cons_zero, List.set_cons_succ, x82, x83, x84, x85, x86, x87, x88, x89, x90, x91, x92, x93, x94, x95]
                    clear x82 x83 x84 x85 x86 x87 x88 x89 x90 x91 x92 x93 x94 x95
                    go_wp2
                    go_meet
                    case rel => exact ⟨false, rfl, ⟨fun h => (by cases h), fun h => (by have h2 := h.2; rw [HY.out] at h2; omega)⟩, ⟨hbl⟩⟩
            case rest =>
            obtain ⟨b, rfl, hgo, HBL⟩ := hcut
            have HB2 := Aside0.mk (HBU.out.below HBL.out)
            clear HBU HBL v1 x0
            have v1 : wc.cell? ⟨w2.heap.size, 1, none⟩ = some (.slice (some ⟨gA, 0, none⟩) (L.length + 1) co) := (blk_cell HB2.out.b9 1).trans rfl
            have HBG : Aside0 (w.heap.size + 2 ≤ gA) := ⟨Kd.R_base HB2.out.raw gA rfl⟩
            cases b with
            | true =>
              obtain ⟨hgp, hgd⟩ := hgo.1 rfl
              obtain ⟨q, hq⟩ : ∃ q, p = q + 1 := ⟨p - 1, by omega⟩
              have hwp : IntKind.i64.wrap ((p : Int) - 1) = (q : Int) := by rw [IntKind.wrap_i64]; omega
              have hqn : q < L.length := by omega
              rw [hq, Nat.add_sub_cancel] at hgd
              obtain ⟨y, hy⟩ : ∃ y, y = L.getD q z32 := ⟨_, rfl⟩
              have hye : L[q]? = some y := by rw [hy, List.getD_eq_getElem?_getD, List.getElem?_eq_getElem hqn]; rfl
              obtain ⟨cs', hcs⟩ : ∃ cs', rows[q]? = some cs' := ⟨_, List.getElem?_eq_getElem (by rw [HRL.out]; exact hqn)⟩
              obtain ⟨vy, hvy, hRy⟩ := k32_openM (HRM.out q y cs' hye hcs)
              have hMq : M[q]? = some [.int .i64 y.f0, .int .i64 y.f1, vy] := by
                have := congrArg (fun l => l[q]?) HB2.out.tk
                simp only [List.getElem?_take] at this
                rw [if_pos (by omega), if_pos (by omega), hcs, hvy] at this
                exact this
              obtain ⟨cq, a1', a2', a3', a4'⟩ := Kd.R_elem HB2.out.raw [] (q : Int) (by omega) (by omega)
              have hcq : cq = [.int .i64 y.f0, .int .i64 y.f1, vy] := by
                have h5 : cq = M.getD (q : Int).toNat [] := a2'.1
                rw [h5, Int.toNat_natCast, List.getD_eq_getElem?_getD, hMq]; rfl
              subst hcq
              obtain ⟨Av, cv, hvv⟩ := Kd.R_slice hRy
              subst hvv
              have r0 : wc.cell? ⟨gA, q * 3, none⟩ = some (.int .i64 y.f0) := a3' 0 _ rfl
              have r1' : wc.cell? ⟨gA, q * 3 + 1, none⟩ = some (.int .i64 y.f1) := a3' 1 _ rfl
              have r2' : wc.cell? ⟨gA, q * 3 + 2, none⟩ = some (.slice Av y.f2.length cv) := a3' 2 _ rfl
              have HCS : Aside0 (rows[q]? = some [.int .i64 y.f0, .int .i64 y.f1, .slice Av y.f2.length cv]) := ⟨by rw [hcs, hvy]⟩
              have HGD := Aside0.mk hgd
              have HPQ := Aside0.mk hq
              clear a1' a2' a3' a4' hMq hRy hvy hcs hye hy hq hgo hgd
              go_upto_region 23 with fail
              refine region_tail (B := _) (w0 := _) 10 [(96, (fun v _ => v = .pointer (some ⟨w2.heap.size, 1, none⟩))), (97, (fun v _ => v = .slice (some ⟨gA, 0, none⟩) (L.length + 1) co)), (98, (fun v _ => v = .int .i64 p)), (99, (fun v _ => v = .pointer (some ⟨w2.heap.size, 1, none⟩))), (100, (fun v _ => v = .slice (some ⟨gA, 0, none⟩) (L.length + 1) co)), (101, (fun v _ => v = .int .i64 p)), (102, (fun v _ => v = .int .i64 q)), (103, (fun v _ => v = .pointer (some ⟨gA, q * 3, none⟩))), (104, (fun v _ => v = .agg #[.int .i64 y.f0, .int .i64 y.f1, .slice Av y.f2.length cv])), (105, (fun v _ => v = .pointer (some ⟨gA, p * 3, none⟩)))] (by kernel_rfl) (by kernel_rfl) (by decide) (by kernel_rfl) (by kernel_rfl) (by rfl) (show ([96, 97, 98, 99, 100, 101, 102, 103, 104, 105] : List Nat).Nodup by decide) ?hsz ?hst (Below.refl _ _) (Nat.le_refl _) ?step ?fin
              case hsz => exact List.forall_mem_cons.2 ⟨(show 96 < 115 by decide), List.forall_mem_cons.2 ⟨(show 97 < 115 by decide), List.forall_mem_cons.2 ⟨(show 98 < 115 by decide), List.forall_mem_cons.2 ⟨(show 99 < 115 by decide), List.forall_mem_cons.2 ⟨(show 100 < 115 by decide), List.forall_mem_cons.2 ⟨(show 101 < 115 by decide), List.forall_mem_cons.2 ⟨(show 102 < 115 by decide), List.forall_mem_cons.2 ⟨(show 103 < 115 by decide), List.forall_mem_cons.2 ⟨(show 104 < 115 by decide), List.forall_mem_cons.2 ⟨(show 105 < 115 by decide), fun _ h => nomatch h⟩⟩⟩⟩⟩⟩⟩⟩⟩⟩
              case hst => exact List.forall_mem_cons.2 ⟨(fun v w1 w2 hb h => h), List.forall_mem_cons.2 ⟨(fun v w1 w2 hb h => h), List.forall_mem_cons.2 ⟨(fun v w1 w2 hb h => h), List.forall_mem_cons.2 ⟨(fun v w1 w2 hb h => h), List.forall_mem_cons.2 ⟨(fun v w1 w2 hb h => h), List.forall_mem_cons.2 ⟨(fun v w1 w2 hb h => h), List.forall_mem_cons.2 ⟨(fun v w1 w2 hb h => h), List.forall_mem_cons.2 ⟨(fun v w1 w2 hb h => h), List.forall_mem_cons.2 ⟨(fun v w1 w2 hb h => h), List.forall_mem_cons.2 ⟨(fun v w1 w2 hb h => h), fun _ h => nomatch h⟩⟩⟩⟩⟩⟩⟩⟩⟩⟩
              case step =>
                intro i_ o_ e_ ho he a w1_ hs hdf hfr hbl hbs hpre
                match i_, ho, he with
                | 0, ho, he => obtain rfl : o_ = ⟨_, _, _, _, _, _⟩ := (Option.some.inj ho).symm; obtain rfl := Option.some.inj he; clear he; have f9 : a.tmps.getD 9 undef = .pointer (some ⟨w2.heap.size, 0, none⟩) := (by rw [Array.getD_eq_getD_getElem?, hfr 9 (show ¬ 9 ∈ ([96, 97, 98, 99, 100, 101, 102, 103, 104, 105] : List Nat) by decide)]; rfl); clear hpre hfr; refine wpOp_value (v := .pointer (some ⟨w2.heap.size, 1, none⟩)) ho rfl ?_ ⟨_, rfl, rfl, Below.refl _ _⟩; simp only [execOp, Act.eval, List.map_toArray, List.map_cons, List.map_nil, f9]; first | rfl | (go_simp; done) | (go_simp; rfl) | (go_simp; intro h_; exfalso; omega)
                | 1, ho, he => obtain rfl : o_ = ⟨_, _, _, _, _, _⟩ := (Option.some.inj ho).symm; obtain rfl := Option.some.inj he; clear he; have e96 : a.tmps.getD 96 undef = .pointer (some ⟨w2.heap.size, 1, none⟩) := hpre ⟨0, .data⟩ (by simp) rfl _ rfl; clear hpre hfr; have k_v1 := (hbl.cell (World.block_lt_of_cell? _ _ v1)).trans v1; refine wpOp_value (v := .slice (some ⟨gA, 0, none⟩) (L.length + 1) co) ho rfl ?_ ⟨_, rfl, rfl, Below.refl _ _⟩; simp only [execOp, Act.eval, List.map_toArray, List.map_cons, List.map_nil, e96]; first | rfl | (go_simp; done) | (go_simp; rfl) | (go_simp; intro h_; exfalso; omega)
                | 2, ho, he => obtain rfl : o_ = ⟨_, _, _, _, _, _⟩ := (Option.some.inj ho).symm; obtain rfl := Option.some.inj he; clear he; have f15 : a.tmps.getD 15 undef = .int .i64 p := (by rw [Array.getD_eq_getD_getElem?, hfr 15 (show ¬ 15 ∈ ([96, 97, 98, 99, 100, 101, 102, 103, 104, 105] : List Nat) by decide)]; rfl); clear hpre hfr; refine wpOp_value (v := .int .i64 p) ho rfl ?_ ⟨_, rfl, rfl, Below.refl _ _⟩; simp only [execOp, Act.eval, List.map_toArray, List.map_cons, List.map_nil, f15]; first | rfl | (go_simp; done) | (go_simp; rfl) | (go_simp; intro h_; exfalso; omega)
                | 3, ho, he => obtain rfl : o_ = ⟨_, _, _, _, _, _⟩ := (Option.some.inj ho).symm; obtain rfl := Option.some.inj he; clear he; have f9 : a.tmps.getD 9 undef = .pointer (some ⟨w2.heap.size, 0, none⟩) := (by rw [Array.getD_eq_getD_getElem?, hfr 9 (show ¬ 9 ∈ ([96, 97, 98, 99, 100, 101, 102, 103, 104, 105] : List Nat) by decide)]; rfl); clear hpre hfr; refine wpOp_value (v := .pointer (some ⟨w2.heap.size, 1, none⟩)) ho rfl ?_ ⟨_, rfl, rfl, Below.refl _ _⟩; simp only [execOp, Act.eval, List.map_toArray, List.map_cons, List.map_nil, f9]; first | rfl | (go_simp; done) | (go_simp; rfl) | (go_simp; intro h_; exfalso; omega)
                | 4, ho, he => obtain rfl : o_ = ⟨_, _, _, _, _, _⟩ := (Option.some.inj ho).symm; obtain rfl := Option.some.inj he; clear he; have e99 : a.tmps.getD 99 undef = .pointer (some ⟨w2.heap.size, 1, none⟩) := hpre ⟨3, .data⟩ (by simp) rfl _ rfl; clear hpre hfr; have k_v1 := (hbl.cell (World.block_lt_of_cell? _ _ v1)).trans v1; refine wpOp_value (v := .slice (some ⟨gA, 0, none⟩) (L.length + 1) co) ho rfl ?_ ⟨_, rfl, rfl, Below.refl _ _⟩; simp only [execOp, Act.eval, List.map_toArray, List.map_cons, List.map_nil, e99]; first | rfl | (go_simp; done) | (go_simp; rfl) | (go_simp; intro h_; exfalso; omega)
                | 5, ho, he => obtain rfl : o_ = ⟨_, _, _, _, _, _⟩ := (Option.some.inj ho).symm; obtain rfl := Option.some.inj he; clear he; have f15 : a.tmps.getD 15 undef = .int .i64 p := (by rw [Array.getD_eq_getD_getElem?, hfr 15 (show ¬ 15 ∈ ([96, 97, 98, 99, 100, 101, 102, 103, 104, 105] : List Nat) by decide)]; rfl); clear hpre hfr; refine wpOp_value (v := .int .i64 p) ho rfl ?_ ⟨_, rfl, rfl, Below.refl _ _⟩; simp only [execOp, Act.eval, List.map_toArray, List.map_cons, List.map_nil, f15]; first | rfl | (go_simp; done) | (go_simp; rfl) | (go_simp; intro h_; exfalso; omega)
                | 6, ho, he => obtain rfl : o_ = ⟨_, _, _, _, _, _⟩ := (Option.some.inj ho).symm; obtain rfl := Option.some.inj he; clear he; have e101 : a.tmps.getD 101 undef = .int .i64 p := hpre ⟨5, .data⟩ (by simp) rfl _ rfl; clear hpre hfr; refine wpOp_value (v := .int .i64 q) ho rfl ?_ ⟨_, rfl, rfl, Below.refl _ _⟩; simp only [execOp, Act.eval, List.map_toArray, List.map_cons, List.map_nil, e101]; first | rfl | (go_simp; done) | (go_simp; rfl) | (go_simp; intro h_; exfalso; omega)
                | 7, ho, he => obtain rfl : o_ = ⟨_, _, _, _, _, _⟩ := (Option.some.inj ho).symm; obtain rfl := Option.some.inj he; clear he; have e100 : a.tmps.getD 100 undef = .slice (some ⟨gA, 0, none⟩) (L.length + 1) co := hpre ⟨4, .data⟩ (by simp) rfl _ rfl; have e102 : a.tmps.getD 102 undef = .int .i64 q := hpre ⟨6, .data⟩ (by simp) rfl _ rfl; clear hpre hfr; refine wpOp_value (v := .pointer (some ⟨gA, q * 3, none⟩)) ho rfl ?_ ⟨_, rfl, rfl, Below.refl _ _⟩; simp only [execOp, Act.eval, List.map_toArray, List.map_cons, List.map_nil, e100, e102]; first | rfl | (go_simp; done) | (go_simp; rfl) | (go_simp; intro h_; exfalso; omega)
                | 8, ho, he => obtain rfl : o_ = ⟨_, _, _, _, _, _⟩ := (Option.some.inj ho).symm; obtain rfl := Option.some.inj he; clear he; have e103 : a.tmps.getD 103 undef = .pointer (some ⟨gA, q * 3, none⟩) := hpre ⟨7, .data⟩ (by simp) rfl _ rfl; clear hpre hfr; have k_r0 := (hbl.cell (World.block_lt_of_cell? _ _ r0)).trans r0; have k_r1' := (hbl.cell (World.block_lt_of_cell? _ _ r1')).trans r1'; have k_r2' := (hbl.cell (World.block_lt_of_cell? _ _ r2')).trans r2'; refine wpOp_value (v := .agg #[.int .i64 y.f0, .int .i64 y.f1, .slice Av y.f2.length cv]) ho rfl ?_ ⟨_, rfl, rfl, Below.refl _ _⟩; simp only [execOp, Act.eval, List.map_toArray, List.map_cons, List.map_nil, e103]; first | rfl | (go_simp; done) | (go_simp; rfl) | (go_simp; intro h_; exfalso; omega)
                | 9, ho, he => obtain rfl : o_ = ⟨_, _, _, _, _, _⟩ := (Option.some.inj ho).symm; obtain rfl := Option.some.inj he; clear he; have e97 : a.tmps.getD 97 undef = .slice (some ⟨gA, 0, none⟩) (L.length + 1) co := hpre ⟨1, .data⟩ (by simp) rfl _ rfl; have e98 : a.tmps.getD 98 undef = .int .i64 p := hpre ⟨2, .data⟩ (by simp) rfl _ rfl; clear hpre hfr; refine wpOp_value (v := .pointer (some ⟨gA, p * 3, none⟩)) ho rfl ?_ ⟨_, rfl, rfl, Below.refl _ _⟩; simp only [execOp, Act.eval, List.map_toArray, List.map_cons, List.map_nil, e97, e98]; first | rfl | (go_simp; done) | (go_simp; rfl) | (go_simp; intro h_; exfalso; omega)
                | n_ + 10, ho, he => simp at he
              case fin =>
                intro xv_ w1_ hbl hbs hx
                simp only [List.forall_mem_cons] at hx
                obtain ⟨x96, x97, x98, x99, x100, x101, x102, x103, x104, x105, _⟩ := hx
                simp only [List.map_cons, List.map_nil, putL, Act.put, List.setIfInBounds_toArray, List.set_cons_zero, List.set_cons_succ, x96, x97, x98, x99, x100, x101, x102, x103, x104, x105]
                simp only [List.drop_succ_cons, List.drop_zero]
                clear x96 x97 x98 x99 x100 x101 x102 x103 x104 x105
                have HB3 := Aside0.mk (HB2.out.below hbl)
                obtain ⟨cp, p1, _, p3, p4⟩ := Kd.R_elem HB3.out.raw [] (p : Int) (by omega) (by omega)
                obtain ⟨u0, u1, u2, rfl⟩ := len3 p1
                have k0 : w1_.cell? ⟨gA, p * 3, none⟩ = some u0 := p3 0 _ rfl
                have k1 : w1_.cell? ⟨gA, p * 3 + 1, none⟩ = some u1 := p3 1 _ rfl
                have k2 : w1_.cell? ⟨gA, p * 3 + 2, none⟩ = some u2 := p3 2 _ rfl
                have kf0 : w1_.frozen? ⟨gA, p * 3, none⟩ = false := p4 0
                have kf1 : w1_.frozen? ⟨gA, p * 3 + 1, none⟩ = false := p4 1
                have kf2 : w1_.frozen? ⟨gA, p * 3 + 2, none⟩ = false := p4 2
                clear p1 p3 p4 hbl
                go_wp2
                go_roundw
                case rel =>
                  obtain rfl := HPQ.out
                  exact ⟨q, _, rfl, by omega, ⟨HB3.out.step hqn HRL.out HGD.out _ HCS.out rfl (by intro u hu; simp at hu; rcases hu with rfl | rfl | rfl <;> rfl) (by have := HBG.out; omega)⟩⟩
                case measure => have := HPQ.out; simp only [intOf, Int.toNat_natCast]; omega
            | false =>
              have hng : ¬ (0 < p ∧ d.f0 < (L.getD (p - 1) z32).f0) := fun h => by have := hgo.2 h; cases this
              have x0 : wc.cell? ⟨wo.heap.size, 0, none⟩ = some (.int .i64 d.f0) := (blk_cell HB2.out.bx 0).trans rfl
              have x1' : wc.cell? ⟨wo.heap.size, 1, none⟩ = some (.int .i64 d.f1) := (blk_cell HB2.out.bx 1).trans rfl
              have x2' : wc.cell? ⟨wo.heap.size, 2, none⟩ = some (.slice A3 d.f2.length c3) := (blk_cell HB2.out.bx 2).trans rfl
              have HPL : Aside0 (placeD L d.f0 = p) := ⟨by
                refine place_of L d.f0 p hp (fun j hj => ?_) (fun hl => Int.le_of_lt (HB2.out.gt p (Nat.le_refl _) hl))
                have h1 : ¬ d.f0 < (L.getD (p - 1) z32).f0 := fun h => hng ⟨by omega, h⟩
                have h2 := HI.out.may.neat.up j (p - 1) (by omega) (by omega)
                have h3 := HNE.out (L.getD j z32) (by rw [List.getD_eq_getElem?_getD, List.getElem?_eq_getElem (show j < L.length by omega)]; exact List.getElem_mem _)
                omega⟩
              have HMP := Aside0.mk (may_put a0_0 a1 L d HI.out.may (by rw [HE.out]))
              rw [HE.out, HPL.out] at HMP
              have HC3 := Aside0.mk (show Kd.C (Kd.int .u8) wc A3 d.f2.length d.f2 from Kd.C_below Q4W.out HB2.out.bel)
              have hls : (L.take p ++ d :: L.drop p).length = L.length + 1 := by simp; omega
              have HLS := Aside0.mk hls
              have HPA : Aside0 (putAll a0_0 a1 (l2.drop k) L = putAll a0_0 a1 (l2.drop (k + 1)) (L.take p ++ d :: L.drop p)) := ⟨by rw [HDR.out, putAll, HE.out, HPL.out, if_pos rfl]⟩
              have HNX2 : Aside0 (k + 1 ≤ l2.length) := ⟨by omega⟩
              have HMS : Aside0 (l2.length - (k + 1) < l2.length - k) := ⟨by omega⟩
              have hwk : wrap64 ((k : Int) + 1) = ((k + 1 : Nat) : Int) := wrap_in (by omega) (by omega)
              clear hgo hng hls
              go_wp2_with fail
              refine region_tail (B := _) (w0 := _) 6 [(108, (fun v _ => v = .pointer (some ⟨w2.heap.size, 1, none⟩))), (109, (fun v _ => v = .slice (some ⟨gA, 0, none⟩) (L.length + 1) co)), (110, (fun v _ => v = .int .i64 p)), (111, (fun v _ => v = .agg #[.int .i64 d.f0, .int .i64 d.f1, .slice A3 d.f2.length c3])), (112, (fun v W => ∃ A2 c2, v = .agg #[.int .i64 d.f0, .int .i64 d.f1, .slice A2 d.f2.length c2] ∧ Kd.R (Kd.int .u8) 5 W W1.heap.size (fun _ => True) (.slice A2 d.f2.length c2) d.f2)), (113, (fun v _ => v = .pointer (some ⟨gA, p * 3, none⟩)))] (by kernel_rfl) (by kernel_rfl) (by decide) (by kernel_rfl) (by kernel_rfl) (by rfl) (show ([108, 109, 110, 111, 112, 113] : List Nat).Nodup by decide) ?hsz ?hst (Below.refl _ _) (Nat.le_refl _) ?step ?fin
              case hsz => exact List.forall_mem_cons.2 ⟨(show 108 < 115 by decide), List.forall_mem_cons.2 ⟨(show 109 < 115 by decide), List.forall_mem_cons.2 ⟨(show 110 < 115 by decide), List.forall_mem_cons.2 ⟨(show 111 < 115 by decide), List.forall_mem_cons.2 ⟨(show 112 < 115 by decide), List.forall_mem_cons.2 ⟨(show 113 < 115 by decide), fun _ h => nomatch h⟩⟩⟩⟩⟩⟩
              case hst => exact List.forall_mem_cons.2 ⟨(fun v w1 w2 hb h => h), List.forall_mem_cons.2 ⟨(fun v w1 w2 hb h => h), List.forall_mem_cons.2 ⟨(fun v w1 w2 hb h => h), List.forall_mem_cons.2 ⟨(fun v w1 w2 hb h => h), List.forall_mem_cons.2 ⟨(fun v w1 w2 hb h => h.imp fun _ h => h.imp fun _ h => ⟨h.1, Kd.R_below h.2 hb⟩), List.forall_mem_cons.2 ⟨(fun v w1 w2 hb h => h), fun _ h => nomatch h⟩⟩⟩⟩⟩⟩
              case step =>
                intro i_ o_ e_ ho he a w1_ hs hdf hfr hbl hbs hpre
                match i_, ho, he with
                | 0, ho, he => obtain rfl : o_ = ⟨_, _, _, _, _, _⟩ := (Option.some.inj ho).symm; obtain rfl := Option.some.inj he; clear he; have f9 : a.tmps.getD 9 undef = .pointer (some ⟨w2.heap.size, 0, none⟩) := (by rw [Array.getD_eq_getD_getElem?, hfr 9 (show ¬ 9 ∈ ([108, 109, 110, 111, 112, 113] : List Nat) by decide)]; rfl); clear hpre hfr; refine wpOp_value (v := .pointer (some ⟨w2.heap.size, 1, none⟩)) ho rfl ?_ ⟨_, rfl, rfl, Below.refl _ _⟩; simp only [execOp, Act.eval, List.map_toArray, List.map_cons, List.map_nil, f9]; first | rfl | (go_simp; done) | (go_simp; rfl) | (go_simp; intro h_; exfalso; omega)
                | 1, ho, he => obtain rfl : o_ = ⟨_, _, _, _, _, _⟩ := (Option.some.inj ho).symm; obtain rfl := Option.some.inj he; clear he; have e108 : a.tmps.getD 108 undef = .pointer (some ⟨w2.heap.size, 1, none⟩) := hpre ⟨0, .data⟩ (by simp) rfl _ rfl; clear hpre hfr; have k_v1 := (hbl.cell (World.block_lt_of_cell? _ _ v1)).trans v1; refine wpOp_value (v := .slice (some ⟨gA, 0, none⟩) (L.length + 1) co) ho rfl ?_ ⟨_, rfl, rfl, Below.refl _ _⟩; simp only [execOp, Act.eval, List.map_toArray, List.map_cons, List.map_nil, e108]; first | rfl | (go_simp; done) | (go_simp; rfl) | (go_simp; intro h_; exfalso; omega)
                | 2, ho, he => obtain rfl : o_ = ⟨_, _, _, _, _, _⟩ := (Option.some.inj ho).symm; obtain rfl := Option.some.inj he; clear he; have f15 : a.tmps.getD 15 undef = .int .i64 p := (by rw [Array.getD_eq_getD_getElem?, hfr 15 (show ¬ 15 ∈ ([108, 109, 110, 111, 112, 113] : List Nat) by decide)]; rfl); clear hpre hfr; refine wpOp_value (v := .int .i64 p) ho rfl ?_ ⟨_, rfl, rfl, Below.refl _ _⟩; simp only [execOp, Act.eval, List.map_toArray, List.map_cons, List.map_nil, f15]; first | rfl | (go_simp; done) | (go_simp; rfl) | (go_simp; intro h_; exfalso; omega)
                | 3, ho, he => obtain rfl : o_ = ⟨_, _, _, _, _, _⟩ := (Option.some.inj ho).symm; obtain rfl := Option.some.inj he; clear he; have f11 : a.tmps.getD 11 undef = .pointer (some ⟨wo.heap.size, 0, none⟩) := (by rw [Array.getD_eq_getD_getElem?, hfr 11 (show ¬ 11 ∈ ([108, 109, 110, 111, 112, 113] : List Nat) by decide)]; rfl); clear hpre hfr; have k_x0 := (hbl.cell (World.block_lt_of_cell? _ _ x0)).trans x0; have k_x1' := (hbl.cell (World.block_lt_of_cell? _ _ x1')).trans x1'; have k_x2' := (hbl.cell (World.block_lt_of_cell? _ _ x2')).trans x2'; refine wpOp_value (v := .agg #[.int .i64 d.f0, .int .i64 d.f1, .slice A3 d.f2.length c3]) ho rfl ?_ ⟨_, rfl, rfl, Below.refl _ _⟩; simp only [execOp, Act.eval, List.map_toArray, List.map_cons, List.map_nil, f11]; first | rfl | (go_simp; done) | (go_simp; rfl) | (go_simp; intro h_; exfalso; omega)
                | 4, ho, he => obtain rfl : o_ = ⟨_, _, _, _, _, _⟩ := (Option.some.inj ho).symm; obtain rfl := Option.some.inj he; clear he; have e111 : a.tmps.getD 111 undef = .agg #[.int .i64 d.f0, .int .i64 d.f1, .slice A3 d.f2.length c3] := hpre ⟨3, .data⟩ (by simp) rfl _ rfl; clear hpre hfr; refine wpOp_call (fn := Try.f18) ho rfl rfl rfl rfl #[.agg #[.int .i64 d.f0, .int .i64 d.f1, .slice A3 d.f2.length c3]] rfl (by simp only [List.map_toArray, List.map_cons, List.map_nil, Act.eval, e111]) ?_; refine (waybillref22_Kept.calls d.f0 d.f1 A3 c3 d.f2 d.f0 d.f1 d.f2 _ (Kd.C_below HC3.out hbl) Q3.out HKD.out).mono ?_; rintro e w3 ⟨v2, rfl, hr, hb2⟩; obtain ⟨A2', c2', rfl⟩ := Kd.R_slice hr; exact ⟨_, rfl, _, rfl, ⟨_, _, rfl, Kd.R_lower hr (by have := HB2.out.siz; omega)⟩, hb2⟩
                | 5, ho, he => obtain rfl : o_ = ⟨_, _, _, _, _, _⟩ := (Option.some.inj ho).symm; obtain rfl := Option.some.inj he; clear he; have e109 : a.tmps.getD 109 undef = .slice (some ⟨gA, 0, none⟩) (L.length + 1) co := hpre ⟨1, .data⟩ (by simp) rfl _ rfl; have e110 : a.tmps.getD 110 undef = .int .i64 p := hpre ⟨2, .data⟩ (by simp) rfl _ rfl; clear hpre hfr; refine wpOp_value (v := .pointer (some ⟨gA, p * 3, none⟩)) ho rfl ?_ ⟨_, rfl, rfl, Below.refl _ _⟩; simp only [execOp, Act.eval, List.map_toArray, List.map_cons, List.map_nil, e109, e110]; first | rfl | (go_simp; done) | (go_simp; rfl) | (go_simp; intro h_; exfalso; omega)
                | n_ + 6, ho, he => simp at he
              case fin =>
                intro xv_ w1_ hbl hbs hx
                simp only [List.forall_mem_cons] at hx
                obtain ⟨x108, x109, x110, x111, ⟨Aq, cq, x112, hRq⟩, x113, _⟩ := hx
                simp only [List.map_cons, List.map_nil, putL, Act.put, List.setIfInBounds_toArray, List.set_cons_zero, List.set_cons_succ, x108, x109, x110, x111, x112, x113]
                simp only [List.drop_succ_cons, List.drop_zero]
                clear x108 x109 x110 x111 x112 x113
                have HB3 := Aside0.mk (HB2.out.below hbl)
                have HRQ := Aside0.mk hRq
                obtain ⟨cp, p1, _, p3, p4⟩ := Kd.R_elem HB3.out.raw [] (p : Int) (by omega) (by omega)
                obtain ⟨u0, u1, u2, rfl⟩ := len3 p1
                have k0 : w1_.cell? ⟨gA, p * 3, none⟩ = some u0 := p3 0 _ rfl
                have k1 : w1_.cell? ⟨gA, p * 3 + 1, none⟩ = some u1 := p3 1 _ rfl
                have k2 : w1_.cell? ⟨gA, p * 3 + 2, none⟩ = some u2 := p3 2 _ rfl
                have kf0 : w1_.frozen? ⟨gA, p * 3, none⟩ = false := p4 0
                have kf1 : w1_.frozen? ⟨gA, p * 3 + 1, none⟩ = false := p4 1
                have kf2 : w1_.frozen? ⟨gA, p * 3 + 2, none⟩ = false := p4 2
                have HFN := Aside0.mk (HB3.out.fin HRL.out HRR.out HRM.out B9.out HRQ.out hp (by omega) (by have := HBG.out; omega))
                clear p1 p3 p4 hbl hRq
                go_wp2
                go_roundw
                case rel =>
                  obtain ⟨h1, h2, h3, h4⟩ := HFN.out
                  refine ⟨k + 1, some ⟨gA, 0, none⟩, co, L.take p ++ d :: L.drop p, by rw [hwk], HNX2.out, ⟨HI.out.all.trans HPA.out, HMP.out.2, ?_, h3, ?_, h4⟩⟩
                  · rw [HLS.out]; exact h2
                  · rw [HLS.out]; exact h1
                case measure => rw [hwk]; simp only [intOf, Int.toNat_natCast]; exact HMS.out
      · have b1 : decide ((k : Int) < (l2.length : Int)) = false := decide_eq_false (by omega)
        have b1' : decide (k < l2.length) = false := decide_eq_false hlt
        have z0 : wr.cell? ⟨w.heap.size + 1, 0, none⟩ = some (.int .i64 0) := (blk_cell HI.out.b6 0).trans rfl
        have z1 : wr.cell? ⟨w.heap.size + 1, 1, none⟩ = some (.slice none 0 0) := (blk_cell HI.out.b6 1).trans rfl
        have zf0 := blk_frozen HI.out.b6 0
        have zf1 := blk_frozen HI.out.b6 1
        go_wp2
        have HPA : Aside0 (putAll a0_0 a1 l2 l0_1 = (0, L)) := ⟨by rw [HI.out.all, List.drop_of_length_le (by omega)]; rfl⟩
        rw [HPA.out] at HH
        obtain ⟨⟨⟩⟩ := HH
        refine bodyPost_ret (results_list (rs := [.cell 6 24, .tmp 7]) rfl (by simp) (.cell (w.heap.size + 1) 24 #[.int .i64 a0_0, .slice A L.length c] (0, 0) _ rfl (blk_put (cs := #[.int .i64 a0_0, .slice none 0 0]) (blk_put (cs := #[.int .i64 0, .slice none 0 0]) HI.out.b6 0 _ rfl) 1 _ rfl) Try.underlying24 rfl (by kernel_rfl) (.tmp .nil))) rfl ?_
        exact ⟨_, rfl, Kd.S_set (Kd.S_set (Kd.S_lower HI.out.s (by omega)) HI.out.b6 (by decide) 0 _) (blk_put (cs := #[.int .i64 0, .slice none 0 0]) HI.out.b6 0 _ rfl) (by decide) 1 _, below_set (below_set HI.out.bel (by simp)) (by simp)⟩
  · have HPW : Aside0 (putsW a0_0 l0_1 a1 l2 = (0, [], checkW a0_0 l0_1 a1)) := ⟨by unfold putsW; rw [if_pos hk]⟩
    obtain ⟨ec, hec⟩ : ∃ ec, ec = checkW a0_0 l0_1 a1 := ⟨_, rfl⟩
    rw [HPW.out, ← hec] at HH
    rw [← hec] at HKC hk
    obtain ⟨⟨⟩⟩ := HH
    have hne : (r3 == 0) = false := by simpa using hk
    clear HPW hec
    go_enter Try.func20, Try.ntmps20
    go_wp2_with (go_at_call 26; (with_reducible refine (waybillref22_Check.calls KC a0_0 A0_1 c0_1 l0_1 a1 r3 _ ?hr1 HC.out HKC.out).mono ?_); (case hr1 => exact Kd.C_alloc (Kd.C_alloc HR.out _) _); rintro e w1 ⟨rfl, hb⟩; have HB1 := Aside0.mk (below_then (below_alloc (below_alloc (Below.refl _ _) _) _) (by simp; omega) hb); have BK := Aside0.mk ((hb.block (w.heap.size + 1) (by simp)).trans (heap_new2 w _ _)); have hlt1 : w.heap.size + 1 < w1.heap.size := blk_lt BK.out; have z0 : w1.cell? ⟨w.heap.size + 1, 0, none⟩ = some (.int .i64 0) := (blk_cell BK.out 0).trans rfl; have z1 : w1.cell? ⟨w.heap.size + 1, 1, none⟩ = some (.slice none 0 0) := (blk_cell BK.out 1).trans rfl; have zf0 := blk_frozen BK.out 0; have zf1 := blk_frozen BK.out 1; clear hb)
    refine bodyPost_ret (results_list (rs := [.cell 6 24, .tmp 7]) rfl (by simp) (.cell (w.heap.size + 1) 24 #[.int .i64 0, .slice none 0 0] (0, 0) _ rfl (blk_put (cs := #[.int .i64 0, .slice none 0 0]) (blk_put (cs := #[.int .i64 0, .slice none 0 0]) BK.out 0 _ rfl) 1 _ rfl) Try.underlying24 rfl (by kernel_rfl) (.tmp .nil))) rfl ?_
    exact ⟨_, rfl, Kd.S_nil _ _ _ _ _, below_set (below_set HB1.out (by simp)) (by simp)⟩
end Go.Proofs.Ytkdkjnjiianogaa.G
end
