/- AftersOk of the program and of the reference return the same for all functions, and they stay as they were; no condition. -/
import Derived.Test.YtggajlaifoddeaaOpen
import Derived.Test.YtggajlaifoddeaaPLib
import Derived.Test.YtggajlaifoddeaaPFnExactAftersOkx11
namespace Go.Proofs.Ytggajlaifoddeaa.Pure
open Go.RowKit Go.Proofs.YtggajlaifoddeaaOpen Go.Proofs.YtggajlaifoddeaaPLib Go.Proofs.Ytggajlaifoddeaa.PFnExactAftersOk Go.Proofs.YtggajlaifoddeaaW.PrintWords Go.Proofs.YtggajlaifoddeaaW.PrintLast
set_option linter.unusedVariables false
set_option linter.unusedSimpArgs false

theorem l1In_eq (a b c : Int) : spec_l1In.f a b c = some (btw a b c) := by
  unfold spec_l1In.f btw
  by_cases h : b ≤ a
  · rw [if_pos h]; simp [h]
  · rw [if_neg h]; simp [h]
theorem within_eq (a b c : Int) : impl_within.f a b c = some (btw a b c) := by
  unfold impl_within.f btw
  by_cases h : b ≤ a
  · rw [if_pos h]; simp [h]
  · rw [if_neg h]; simp [h]
theorem sz_i64s (l : List Int) (left : Int) (hl : 0 ≤ left) (hl2 : left ≤ 1048576) (hn : l.length ≤ 9223372036854775807) : laws_szInt64S.f l left = some (if (l.length : Int) ≤ left then left - (l.length : Int) else -1) := by
  unfold laws_szInt64S.f
  rw [wrap_id (by omega) (by omega)]
  by_cases h : (l.length : Int) ≤ left
  · rw [if_neg (by omega), if_pos h]
  · rw [if_pos (by omega), if_neg h]
theorem sz_bools (l : List Bool) (left : Int) (hl : 0 ≤ left) (hl2 : left ≤ 1048576) (hn : l.length ≤ 9223372036854775807) : laws_szBoolS.f l left = some (if (l.length : Int) ≤ left then left - (l.length : Int) else -1) := by
  unfold laws_szBoolS.f
  rw [wrap_id (by omega) (by omega)]
  by_cases h : (l.length : Int) ≤ left
  · rw [if_neg (by omega), if_pos h]
  · rw [if_pos (by omega), if_neg h]
theorem sz_slots (a : List Int) (u : List Bool) (ha : a.length ≤ 9223372036854775807) (hu : u.length ≤ 9223372036854775807) : (laws_szSlots.f a u 1048576 = some (1048576 - (a.length : Int) - (u.length : Int)) ∧ a.length + u.length ≤ 1048576) ∨ laws_szSlots.f a u 1048576 = some (-1) := by
  unfold laws_szSlots.f
  rw [sz_i64s a _ (by omega) (by omega) ha]
  by_cases h : (a.length : Int) ≤ 1048576
  · rw [if_pos h]
    have z : ¬ (1048576 - (a.length : Int) < 0) := by omega
    simp only [Option.bind_some, z, if_false]
    rw [sz_bools u _ (by omega) (by omega) hu]
    by_cases h2 : (u.length : Int) ≤ 1048576 - (a.length : Int)
    · rw [if_pos h2]
      have z2 : ¬ (1048576 - (a.length : Int) - (u.length : Int) < 0) := by omega
      simp only [Option.bind_some, z2, if_false]
      exact Or.inl ⟨trivial, by omega⟩
    · rw [if_neg h2]
      exact Or.inr (by simp)
  · rw [if_neg h]
    exact Or.inr (by simp)
theorem to_i64s (l : List Int) (hn : l.length ≤ 1048576) : ∃ K, ∀ k, K ≤ k → laws_toInt64S.f k l = some l := by
  obtain ⟨K, e⟩ := ev_copy (fun k a b i => laws_toInt64S.l0 k a b i) (fun x : Int => x) 0 (fun k x0 x3 i => by
    show laws_toInt64S.l0 (k + 1) x0 x3 i = _
    rw [laws_toInt64S.l0]
    rfl) l 0 (by omega)
  refine ⟨K, fun k hk => ?_⟩
  unfold laws_toInt64S.f
  rw [if_pos (by omega), if_pos (by omega), Int.toNat_natCast]
  simpa using e k hk
theorem to_bools (l : List Bool) (hn : l.length ≤ 1048576) : ∃ K, ∀ k, K ≤ k → laws_toBoolS.f k l = some l := by
  obtain ⟨K, e⟩ := ev_copy (fun k a b i => laws_toBoolS.l0 k a b i) (fun x : Bool => x) false (fun k x0 x3 i => by
    show laws_toBoolS.l0 (k + 1) x0 x3 i = _
    rw [laws_toBoolS.l0]
    rfl) l false (by omega)
  refine ⟨K, fun k hk => ?_⟩
  unfold laws_toBoolS.f
  rw [if_pos (by omega), if_pos (by omega), Int.toNat_natCast]
  simpa using e k hk
theorem to_slots (a : List Int) (u : List Bool) (hn : a.length + u.length ≤ 1048576) : ∃ K, ∀ k, K ≤ k → laws_toSlots.f k a u = some (a, u) := by
  obtain ⟨K, h⟩ := both (to_i64s a (by omega)) (to_bools u (by omega))
  refine ⟨K, fun k hk => ?_⟩
  unfold laws_toSlots.f
  rw [(h k hk).1, (h k hk).2]
  rfl
theorem eq_i64s (l : List Int) (hn : l.length ≤ 1048576) : ∃ K, ∀ k, K ≤ k → laws_eqInt64S.f k l l = some true := by
  obtain ⟨K, e⟩ := ev_same (fun k a b i => laws_eqInt64S.l0 k a b i) l (fun k i h0 h1 => by
    show laws_eqInt64S.l0 (k + 1) l l i = _
    rw [laws_eqInt64S.l0, if_pos h1, if_pos h0, if_pos h1, if_pos rfl]) (fun k i h => by
    show laws_eqInt64S.l0 (k + 1) l l i = _
    rw [laws_eqInt64S.l0, if_neg h]) (by omega)
  refine ⟨K, fun k hk => ?_⟩
  unfold laws_eqInt64S.f
  rw [if_pos rfl]
  exact e k hk
theorem eq_bools (l : List Bool) (hn : l.length ≤ 1048576) : ∃ K, ∀ k, K ≤ k → laws_eqBoolS.f k l l = some true := by
  obtain ⟨K, e⟩ := ev_same (fun k a b i => laws_eqBoolS.l0 k a b i) l (fun k i h0 h1 => by
    show laws_eqBoolS.l0 (k + 1) l l i = _
    rw [laws_eqBoolS.l0, if_pos h1, if_pos h0, if_pos h1, bne_self_eq_false]
    rfl) (fun k i h => by
    show laws_eqBoolS.l0 (k + 1) l l i = _
    rw [laws_eqBoolS.l0, if_neg h]) (by omega)
  refine ⟨K, fun k hk => ?_⟩
  unfold laws_eqBoolS.f
  rw [if_pos rfl]
  exact e k hk
theorem eq_slots (a : List Int) (u : List Bool) (hn : a.length + u.length ≤ 1048576) : ∃ K, ∀ k, K ≤ k → laws_eqSlots.f k a u a u = some true := by
  obtain ⟨K, h⟩ := both (eq_i64s a (by omega)) (eq_bools u (by omega))
  refine ⟨K, fun k hk => ?_⟩
  unfold laws_eqSlots.f
  rw [(h k hk).1, (h k hk).2]
  rfl
/-- What the document asks of slots. -/
def slotsB (a : List Int) (u : List Bool) : Bool := btw (a.length : Int) 1 64 && ((u.length : Int) == (a.length : Int)) && allFrom (fun i => btw (rd a i) 0 1000000) a.length 0
theorem spec_slots (a : List Int) (u : List Bool) (ha : a.length ≤ 1048576) : ∃ K, ∀ k, K ≤ k → spec_SlotsOk.f k a u = some (slotsB a u) := by
  obtain ⟨K, e⟩ := ev_all (fun k i => spec_SlotsOk.l0 k i a u) (fun i => btw (rd a i) 0 1000000) a.length 0 (fun k i _ h0 h1 => by
    show spec_SlotsOk.l0 (k + 1) i a u = if btw (rd a i) 0 1000000 = true then spec_SlotsOk.l0 k (wrap64 (i + 1)) a u else some false
    rw [spec_SlotsOk.l0, if_pos h1, if_pos h0, l1In_eq]
    rfl) (fun k i h => by
    show spec_SlotsOk.l0 (k + 1) i a u = _
    rw [spec_SlotsOk.l0, if_neg h]) (by omega)
  refine ⟨K + 1, fun k hk => ?_⟩
  obtain ⟨m, rfl⟩ : ∃ m, k = m + 1 := ⟨k - 1, by omega⟩
  have q := e m (by omega)
  simp only at q
  unfold spec_SlotsOk.f slotsB
  rw [l1In_eq]
  simp only [Option.bind_some, spec_SlotsOk.j0]
  cases h1 : btw (a.length : Int) 1 64
  · simp
  · by_cases h2 : (u.length : Int) = (a.length : Int)
    · simp [h2, q]
    · simp [h2]
theorem impl_bad (a : List Int) (ha : a.length ≤ 1048576) : ∃ K, ∀ k, K ≤ k → slices_ContainsFunc_int64_int64.f k a = some (!allFrom (fun i => btw (rd a i) 0 1000000) a.length 0) := by
  obtain ⟨K, e⟩ := ev_all (fun k i => (slices_IndexFunc_int64_int64.l0 k a (a.length : Int) i).bind fun t => some (!decide (t ≥ 0))) (fun i => btw (rd a i) 0 1000000) a.length 0 (fun k i _ h0 h1 => by
    show (slices_IndexFunc_int64_int64.l0 (k + 1) a (a.length : Int) i).bind (fun t => some (!decide (t ≥ 0))) = if btw (rd a i) 0 1000000 = true then (slices_IndexFunc_int64_int64.l0 k a (a.length : Int) (wrap64 (i + 1))).bind (fun t => some (!decide (t ≥ 0))) else some false
    rw [slices_IndexFunc_int64_int64.l0, if_pos h1, if_pos h0, if_pos h1]
    unfold impl_SlotsOk_1.f
    rw [within_eq]
    cases h : btw (rd a i) 0 1000000
    · simp [h0]
    · simp) (fun k i h => by
    show (slices_IndexFunc_int64_int64.l0 (k + 1) a (a.length : Int) i).bind (fun t => some (!decide (t ≥ 0))) = _
    rw [slices_IndexFunc_int64_int64.l0, if_neg h]
    rfl) (by omega)
  refine ⟨K, fun k hk => ?_⟩
  have q := e k hk
  simp only at q
  unfold slices_ContainsFunc_int64_int64.f slices_IndexFunc_int64_int64.f
  cases h : slices_IndexFunc_int64_int64.l0 k a (a.length : Int) 0 with
  | none => rw [h] at q; simp at q
  | some t =>
    rw [h] at q
    simp only [Option.bind_some, Option.some.injEq] at q ⊢
    rw [← q, Bool.not_not]
theorem impl_slots (a : List Int) (u : List Bool) (ha : a.length ≤ 1048576) : ∃ K, ∀ k, K ≤ k → impl_SlotsOk.f k a u = some (slotsB a u) := by
  obtain ⟨K, e⟩ := impl_bad a ha
  refine ⟨K, fun k hk => ?_⟩
  unfold impl_SlotsOk.f slotsB impl_size_int64.f
  simp only [Option.bind_some, within_eq, e k hk]
  cases h1 : btw (a.length : Int) 1 64
  · simp
  · by_cases h2 : (u.length : Int) = (a.length : Int)
    · simp [h2]
    · simp [h2]
theorem slotsB_len {a : List Int} {u : List Bool} (h : slotsB a u = true) : (u.length : Int) = (a.length : Int) := by
  unfold slotsB at h
  simp at h
  omega
/-- What slots hold. -/
def heldB (a : List Int) (u : List Bool) (s g : Int) : Bool := btw s 0 ((a.length : Int) - 1) && (rdOf false u s && (rd a s == g))
def holdsB (a : List Int) (u : List Bool) (s g : Int) : Bool := slotsB a u && heldB a u s g
theorem impl_slots_holds (a : List Int) (u : List Bool) (s g : Int) (ha : a.length ≤ 1048576) (hu : (u.length : Int) = (a.length : Int)) : impl_Slots_holds.f a u s g = some (heldB a u s g) := by
  unfold impl_Slots_holds.f heldB impl_isIn_int64.f impl_size_int64.f
  simp only [Option.bind_some, within_eq]
  rw [wrap_id (by omega) (by omega)]
  cases h : btw s 0 ((a.length : Int) - 1)
  · simp
  · have := btw_iff.1 h
    rw [if_pos rfl, if_pos (by omega), if_pos (by omega), if_pos (show s < (a.length : Int) by omega)]
    cases rdOf false u s <;> simp
theorem spec_holdsA (a : List Int) (u : List Bool) (ha : a.length ≤ 1048576) : ∃ K, ∀ k, K ≤ k → ∀ s g : Int, spec_Holds.f k a u s g = some (holdsB a u s g) := by
  obtain ⟨K, e⟩ := spec_slots a u ha
  refine ⟨K, fun k hk s g => ?_⟩
  unfold spec_Holds.f holdsB
  rw [e k hk]
  simp only [Option.bind_some]
  cases hq : slotsB a u
  · simp
  · have hl := slotsB_len hq
    rw [if_pos rfl, wrap_id (by omega) (by omega), l1In_eq]
    simp only [Option.bind_some]
    unfold heldB
    cases h : btw s 0 ((a.length : Int) - 1)
    · simp
    · have := btw_iff.1 h
      rw [if_pos rfl, if_pos (by omega), if_pos (by omega), if_pos (show s < (a.length : Int) by omega)]
      cases rdOf false u s <;> simp
/-- How many of m slots are used, from slot i on; c before. -/
def cntFrom (u : List Bool) : Nat → Int → Int → Int
  | 0, _, c => c
  | m + 1, i, c => cntFrom u m (i + 1) (if rdOf false u i = true then c + 1 else c)
theorem impl_used_loop (u : List Bool) (hn : u.length ≤ 1048576) : ∀ (m j k : Nat) (c : Int), j + m = u.length → m < k → 0 ≤ c → c ≤ j → impl_Slots_used.l0 k c u (u.length : Int) (j : Int) = some (cntFrom u m j c) := by
  intro m
  induction m with
  | zero =>
    intro j k c hj hk hc hc2
    obtain ⟨q, rfl⟩ : ∃ q, k = q + 1 := ⟨k - 1, by omega⟩
    rw [impl_Slots_used.l0, if_neg (by omega)]
    rfl
  | succ m ih =>
    intro j k c hj hk hc hc2
    obtain ⟨q, rfl⟩ : ∃ q, k = q + 1 := ⟨k - 1, by omega⟩
    rw [impl_Slots_used.l0, if_pos (by omega), if_pos (by omega), if_pos (by omega), wrap_id (x := (j : Int) + 1) (by omega) (by omega), wrap_id (x := c + 1) (by omega) (by omega)]
    unfold cntFrom
    have e1 := ih (j + 1) q (c + 1) (by omega) (by omega) (by omega) (by omega)
    have e2 := ih (j + 1) q c (by omega) (by omega) (by omega) (by omega)
    rw [Int.natCast_add, Int.natCast_one] at e1 e2
    rw [e1, e2]
    split <;> rfl
theorem impl_used (a : List Int) (u : List Bool) (hn : u.length ≤ 1048576) : ∃ K, ∀ k, K ≤ k → impl_Slots_used.f k a u = some (cntFrom u u.length 0 0) := by
  refine ⟨u.length + 1, fun k hk => ?_⟩
  have e := impl_used_loop u hn u.length 0 k 0 (by omega) (by omega) (by omega) (by omega)
  unfold impl_Slots_used.f
  simpa using e
theorem spec_used_loop (a : List Int) (u : List Bool) (hn : u.length ≤ 1048576) : ∀ (m j k : Nat) (c : Int), j + m = u.length → m < k → 0 ≤ c → c ≤ j → spec_UsedIn.l0 k c (j : Int) a u = some (cntFrom u m j c) := by
  intro m
  induction m with
  | zero =>
    intro j k c hj hk hc hc2
    obtain ⟨q, rfl⟩ : ∃ q, k = q + 1 := ⟨k - 1, by omega⟩
    rw [spec_UsedIn.l0, if_neg (by omega)]
    rfl
  | succ m ih =>
    intro j k c hj hk hc hc2
    obtain ⟨q, rfl⟩ : ∃ q, k = q + 1 := ⟨k - 1, by omega⟩
    rw [spec_UsedIn.l0, if_pos (by omega), if_pos (by omega), wrap_id (x := (j : Int) + 1) (by omega) (by omega), wrap_id (x := c + 1) (by omega) (by omega)]
    unfold cntFrom
    have e1 := ih (j + 1) q (c + 1) (by omega) (by omega) (by omega) (by omega)
    have e2 := ih (j + 1) q c (by omega) (by omega) (by omega) (by omega)
    rw [Int.natCast_add, Int.natCast_one] at e1 e2
    rw [e1, e2]
    split <;> rfl
def usedB (a : List Int) (u : List Bool) : Int := if slotsB a u = true then cntFrom u u.length 0 0 else -1
theorem spec_usedin (a : List Int) (u : List Bool) (ha : a.length ≤ 1048576) (hn : u.length ≤ 1048576) : ∃ K, ∀ k, K ≤ k → spec_UsedIn.f k a u = some (usedB a u) := by
  obtain ⟨K, e⟩ := spec_slots a u ha
  refine ⟨K + u.length + 1, fun k hk => ?_⟩
  have e2 := spec_used_loop a u hn u.length 0 k 0 (by omega) (by omega) (by omega) (by omega)
  unfold spec_UsedIn.f usedB
  rw [e k (by omega)]
  simp only [Option.bind_some]
  split
  · simpa using e2
  · rfl
theorem cntFrom_le (u : List Bool) : ∀ (m : Nat) (i c : Int), cntFrom u m i c ≤ c + m := by
  intro m
  induction m with
  | zero => intro i c; simp [cntFrom]
  | succ m ih =>
    intro i c
    unfold cntFrom
    split
    · have := ih (i + 1) (c + 1); omega
    · have := ih (i + 1) c; omega
def hEq (l : List S106) (q i : Int) : Bool := (rd_T106 l q).f0.f0 == (rd_T106 l i).f0.f0 && ((rd_T106 l q).f0.f1 == (rd_T106 l i).f0.f1)
theorem hEq_self (l : List S106) (i : Int) : hEq l i i = true := by simp [hEq]
/-- The first place of a handle. -/
theorem at_loop (l : List S106) (hn : l.length ≤ 1048576) (i : Int) (hi : i < (l.length : Int)) : ∀ (d j k : Nat), (j : Int) + d = i → d < k → ∃ t, impl_After_98.l0 k l (l.length : Int) (j : Int) (rd_T106 l i).f0.f0 (rd_T106 l i).f0.f1 = some t ∧ (t = i ↔ allFrom (fun q => !hEq l q i) d j = true) := by
  intro d
  induction d with
  | zero =>
    intro j k hj hk
    obtain ⟨k, rfl⟩ : ∃ q, k = q + 1 := ⟨k - 1, by omega⟩
    have e : (j : Int) = i := by omega
    rw [impl_After_98.l0, if_pos (by omega), if_pos (by omega), if_pos (by omega), e]
    unfold impl_Afters_at_1.f
    have h := hEq_self l i
    unfold hEq at h
    rw [h]
    simp only [Option.bind_some]
    exact ⟨i, rfl, by simp [allFrom]⟩
  | succ d ih =>
    intro j k hj hk
    obtain ⟨k, rfl⟩ : ∃ q, k = q + 1 := ⟨k - 1, by omega⟩
    rw [impl_After_98.l0, if_pos (by omega), if_pos (by omega), if_pos (by omega)]
    unfold impl_Afters_at_1.f allFrom
    simp only [Option.bind_some]
    show ∃ t, (if hEq l (j : Int) i = true then _ else _) = some t ∧ _
    cases h : hEq l (j : Int) i
    · rw [if_neg (by simp), wrap_id (by omega) (by omega)]
      obtain ⟨t, e, q⟩ := ih (j + 1) k (by omega) (by omega)
      rw [Int.natCast_add, Int.natCast_one] at e q
      exact ⟨t, e, by simpa using q⟩
    · rw [if_pos rfl]
      exact ⟨_, rfl, by simp; omega⟩
/-- What the document asks of a function at place i. -/
def afterAt (a : List Int) (u : List Bool) (l : List S106) (i : Int) : Bool :=
  heldB a u (rd_T106 l i).f0.f0 (rd_T106 l i).f0.f1 && (btw (rd_T106 l i).f1 0 59 && (btw (rd_T106 l i).f2 0 99 && allFrom (fun q => !hEq l q i) i.toNat 0))
def aftersB (a : List Int) (u : List Bool) (l : List S106) : Bool := slotsB a u && (((l.length : Int) == cntFrom u u.length 0 0) && allFrom (afterAt a u l) l.length 0)
theorem slotsB_small {a : List Int} {u : List Bool} (h : slotsB a u = true) : a.length ≤ 64 ∧ u.length ≤ 64 := by
  have e := slotsB_len h
  unfold slotsB at h
  rw [Bool.and_eq_true, Bool.and_eq_true, btw_iff] at h
  omega
theorem impl_afters_loop (a : List Int) (u : List Bool) (l : List S106) (ha : a.length ≤ 1048576) (hu : (u.length : Int) = (a.length : Int)) (hn : l.length ≤ 1048576) : ∃ K, ∀ k, K ≤ k → impl_AftersOk.l0 k l (l.length : Int) 0 a u l = some (allFrom (afterAt a u l) l.length 0) := by
  obtain ⟨K, e⟩ := ev_all (fun k i => impl_AftersOk.l0 k l (l.length : Int) i a u l) (afterAt a u l) l.length (l.length + 2) (fun k i hk h0 h1 => by
    show impl_AftersOk.l0 (k + 1) l (l.length : Int) i a u l = if afterAt a u l i = true then impl_AftersOk.l0 k l (l.length : Int) (wrap64 (i + 1)) a u l else some false
    generalize hR : impl_AftersOk.l0 k l (l.length : Int) (wrap64 (i + 1)) a u l = R
    rw [impl_AftersOk.l0, if_pos h1, if_pos h0, if_pos h1, hR, impl_slots_holds a u _ _ ha hu]
    obtain ⟨t, et, ht⟩ := at_loop l hn i h1 i.toNat 0 k (by omega) (by omega)
    unfold impl_isAfter.f impl_Afters_at.f impl_After_98.f afterAt
    rw [show ((0 : Nat) : Int) = 0 from rfl] at et ht
    simp only [Option.bind_some, within_eq, et]
    cases b1 : btw (rd_T106 l i).f1 0 59
    · simp
    · cases b2 : btw (rd_T106 l i).f2 0 99
      · simp
      · cases b3 : heldB a u (rd_T106 l i).f0.f0 (rd_T106 l i).f0.f1
        · simp
        · by_cases c : t = i
          · have := ht.1 c
            simp [this, c]
          · have : allFrom (fun q => !hEq l q i) i.toNat 0 = false := by
              rw [Bool.eq_false_iff]
              exact fun x => c (ht.2 x)
            simp [this, c]) (fun k i h => by
    show impl_AftersOk.l0 (k + 1) l (l.length : Int) i a u l = _
    rw [impl_AftersOk.l0, if_neg h]) (by omega)
  exact ⟨K, fun k hk => e k hk⟩
theorem impl_afters (a : List Int) (u : List Bool) (l : List S106) (ha : a.length ≤ 1048576) (hu : u.length ≤ 1048576) (hn : l.length ≤ 1048576) : ∃ K, ∀ k, K ≤ k → impl_AftersOk.f k a u l = some (aftersB a u l) := by
  obtain ⟨K, e⟩ := both (impl_slots a u ha) (impl_used a u hu)
  by_cases hq : slotsB a u = true
  · have hl := slotsB_len hq
    obtain ⟨K2, e2⟩ := impl_afters_loop a u l ha hl hn
    refine ⟨K + K2 + 1, fun k hk => ?_⟩
    obtain ⟨m, rfl⟩ : ∃ m, k = m + 1 := ⟨k - 1, by omega⟩
    unfold impl_AftersOk.f aftersB impl_After_79.f
    rw [(e (m + 1) (by omega)).1, hq]
    simp only [Option.bind_some]
    rw [if_pos trivial, (e (m + 1) (by omega)).2]
    simp only [Option.bind_some]
    rw [impl_AftersOk.j0, e2 m (by omega)]
    by_cases c : (l.length : Int) = cntFrom u u.length 0 0
    · simp [c]
    · simp [c]
  · refine ⟨K + 1, fun k hk => ?_⟩
    obtain ⟨m, rfl⟩ : ∃ m, k = m + 1 := ⟨k - 1, by omega⟩
    unfold impl_AftersOk.f aftersB
    rw [(e (m + 1) (by omega)).1]
    simp only [Option.bind_some]
    rw [if_neg hq, impl_AftersOk.j0, if_pos rfl, Bool.eq_false_iff.mpr hq]
    rfl
theorem spec_after_inner (a : List Int) (u : List Bool) (l : List S106) (hn : l.length ≤ 1048576) (i : Nat) (hi : i < l.length) (R : Bool) : ∀ (m j k : Nat), j + m = i → m < k → (∀ q, k ≤ q + m + 1 → spec_AftersOk.l0 q ((i : Int) + 1) a u l = some R) → spec_AftersOk.l1 k (i : Int) (j : Int) a u l (rd_T106 l i).f0.f0 (rd_T106 l i).f0.f1 (rd_T106 l i).f1 (rd_T106 l i).f2 (rd_T106 l i).f3 = some (allFrom (fun q => !hEq l q i) m j && R) := by
  intro m
  induction m with
  | zero =>
    intro j k hj hk hR
    obtain ⟨k, rfl⟩ : ∃ q, k = q + 1 := ⟨k - 1, by omega⟩
    rw [spec_AftersOk.l1, if_neg (by omega), wrap_id (by omega) (by omega), hR k (by omega)]
    simp [allFrom]
  | succ m ih =>
    intro j k hj hk hR
    obtain ⟨k, rfl⟩ : ∃ q, k = q + 1 := ⟨k - 1, by omega⟩
    rw [spec_AftersOk.l1, if_pos (by omega), if_pos (by omega), if_pos (by omega)]
    unfold allFrom
    show (if hEq l (j : Int) i = true then _ else _) = _
    cases h : hEq l (j : Int) i
    · rw [if_neg (by simp), wrap_id (by omega) (by omega)]
      have e := ih (j + 1) k (by omega) (by omega) (fun q hq => hR q (by omega))
      rw [Int.natCast_add, Int.natCast_one] at e
      rw [e]
      simp
    · simp
theorem spec_after_loop (a : List Int) (u : List Bool) (l : List S106) (hn : l.length ≤ 1048576) (hq : slotsB a u = true) (K : Nat) (hK : ∀ k, K ≤ k → ∀ s g : Int, spec_Holds.f k a u s g = some (holdsB a u s g)) : ∀ (m j k : Nat), j + m = l.length → K + m * (l.length + 4) < k → spec_AftersOk.l0 k (j : Int) a u l = some (allFrom (afterAt a u l) m j) := by
  intro m
  induction m with
  | zero =>
    intro j k hj hk
    obtain ⟨k, rfl⟩ : ∃ q, k = q + 1 := ⟨k - 1, by omega⟩
    rw [spec_AftersOk.l0, if_neg (by omega)]
    rfl
  | succ m ih =>
    intro j k hj hk
    rw [Nat.add_mul] at hk
    obtain ⟨k, rfl⟩ : ∃ q, k = q + 2 := ⟨k - 2, by omega⟩
    rw [spec_AftersOk.l0, if_pos (by omega), if_pos (by omega), hK (k + 1) (by omega)]
    have hin := spec_after_inner a u l hn j (by omega) (allFrom (afterAt a u l) m ((j : Int) + 1)) j 0 k (by omega) (by omega) (fun q hq => by
      have := ih (j + 1) q (by omega) (by omega)
      rw [Int.natCast_add, Int.natCast_one] at this
      exact this)
    rw [show ((0 : Nat) : Int) = 0 from rfl] at hin
    unfold allFrom
    rw [show afterAt a u l (j : Int) = (heldB a u (rd_T106 l j).f0.f0 (rd_T106 l j).f0.f1 && (btw (rd_T106 l j).f1 0 59 && (btw (rd_T106 l j).f2 0 99 && allFrom (fun q => !hEq l q j) j 0))) from rfl]
    unfold holdsB
    rw [hq, Bool.true_and]
    simp only [Option.bind_some, l1In_eq, spec_AftersOk.j2, hin]
    cases b3 : heldB a u (rd_T106 l j).f0.f0 (rd_T106 l j).f0.f1
    · simp
    · cases b1 : btw (rd_T106 l j).f1 0 59
      · simp
      · cases b2 : btw (rd_T106 l j).f2 0 99
        · simp
        · simp
theorem spec_afters (a : List Int) (u : List Bool) (l : List S106) (ha : a.length ≤ 1048576) (hu : u.length ≤ 1048576) (hn : l.length ≤ 1048576) : ∃ K, ∀ k, K ≤ k → spec_AftersOk.f k a u l = some (aftersB a u l) := by
  obtain ⟨K, e⟩ := both (spec_slots a u ha) (both (spec_usedin a u ha hu) (spec_holdsA a u ha))
  by_cases hq : slotsB a u = true
  · refine ⟨K + l.length * (l.length + 4) + 2, fun k hk => ?_⟩
    obtain ⟨m, rfl⟩ : ∃ m, k = m + 1 := ⟨k - 1, by omega⟩
    have e2 := spec_after_loop a u l hn hq K (fun k hk => (e k hk).2.2) l.length 0 m (by omega) (by omega)
    unfold spec_AftersOk.f aftersB
    rw [(e (m + 1) (by omega)).1, hq]
    simp only [Option.bind_some]
    rw [if_pos trivial, (e (m + 1) (by omega)).2.1]
    simp only [Option.bind_some]
    unfold usedB
    rw [if_pos hq, spec_AftersOk.j0]
    rw [show ((0 : Nat) : Int) = 0 from rfl] at e2
    rw [e2]
    by_cases c : (l.length : Int) = cntFrom u u.length 0 0
    · simp [c]
    · simp [c]
  · refine ⟨K + 1, fun k hk => ?_⟩
    obtain ⟨m, rfl⟩ : ∃ m, k = m + 1 := ⟨k - 1, by omega⟩
    unfold spec_AftersOk.f aftersB
    rw [(e (m + 1) (by omega)).1]
    simp only [Option.bind_some]
    rw [if_neg hq, spec_AftersOk.j0, if_pos rfl, Bool.eq_false_iff.mpr hq]
    rfl
theorem sz_AfterS (l : List S119) (left : Int) (hl : 0 ≤ left) (hl2 : left ≤ 1048576) (hn : l.length ≤ 9223372036854775807) : laws_szAfterS.f l left = some (if (l.length : Int) ≤ left then left - (l.length : Int) else -1) := by
  unfold laws_szAfterS.f
  rw [wrap_id (by omega) (by omega)]
  by_cases h : (l.length : Int) ≤ left
  · rw [if_neg (by omega), if_pos h]
  · rw [if_pos (by omega), if_neg h]
/-- An element of the statements as one of the program. -/
def ofAfterS (x : S119) : S106 := ⟨⟨x.f0.f0, x.f0.f1⟩, x.f1, x.f2, x.f3⟩
theorem to_AfterS (l : List S119) (hn : l.length ≤ 1048576) : ∃ K, ∀ k, K ≤ k → laws_toAfterS.f k l = some (l.map ofAfterS) := by
  obtain ⟨K, e⟩ := ev_copy (fun k a b i => laws_toAfterS.l0 k a b i) ofAfterS z119 (fun k x0 x3 i => by
    show laws_toAfterS.l0 (k + 1) x0 x3 i = _
    simp only [laws_toAfterS.l0, laws_toAfter.f, laws_toHandle.f, Option.bind_some]
    rfl) l z106 (by omega)
  refine ⟨K, fun k hk => ?_⟩
  unfold laws_toAfterS.f
  rw [if_pos (by omega), if_pos (by omega), Int.toNat_natCast]
  exact e k hk
theorem eq_AfterS (l : List S106) (hn : l.length ≤ 4611686018427387904) : ∃ K, ∀ k, K ≤ k → laws_eqAfterS.f k l l = some true := by
  obtain ⟨K, e⟩ := ev_same (fun k a b i => laws_eqAfterS.l0 k a b i) l (fun k i h0 h1 => by
    show laws_eqAfterS.l0 (k + 1) l l i = laws_eqAfterS.l0 k l l (wrap64 (i + 1))
    generalize hw : laws_eqAfterS.l0 k l l (wrap64 (i + 1)) = R
    rw [laws_eqAfterS.l0, hw]
    simp [laws_eqAfter.f, laws_eqHandle.f, h0, h1]) (fun k i h => by
    show laws_eqAfterS.l0 (k + 1) l l i = _
    rw [laws_eqAfterS.l0, if_neg h]) hn
  refine ⟨K, fun k hk => ?_⟩
  unfold laws_eqAfterS.f
  rw [if_pos rfl]
  exact e k hk
theorem FnExactAftersOk : ∀ (l0_0 : List Int) (l0_1 : List Bool) (l0_2 : List (S119)), l0_0.length ≤ 9223372036854775807 → l0_1.length ≤ 9223372036854775807 → l0_2.length ≤ 9223372036854775807 → (((∀ x_ ∈ l0_0, wf64 x_) ∧ (∀ x_ ∈ l0_1, True)) ∧ (∀ x_ ∈ l0_2, (((wf64 x_.f0.f0 ∧ wf64 x_.f0.f1)) ∧ wf64 x_.f1 ∧ wf64 x_.f2 ∧ True))) → ∃ k, laws_FnExactAftersOk.f k l0_0 l0_1 l0_2 = some true := by
  intro a u l ha hu hn _
  have hskip : laws_szAfters.f a u l 1048576 = some (-1) → ∃ k, laws_FnExactAftersOk.f k a u l = some true := fun hs => by
    refine ⟨0, ?_⟩
    unfold laws_FnExactAftersOk.f
    rw [hs]
    simp
  rcases sz_slots a u ha hu with ⟨hs, hl⟩ | hs
  · have z1 : ¬ (1048576 - (a.length : Int) - (u.length : Int) < 0) := by omega
    by_cases h : (l.length : Int) ≤ 1048576 - (a.length : Int) - (u.length : Int)
    · have hz : laws_szAfters.f a u l 1048576 = some (1048576 - (a.length : Int) - (u.length : Int) - (l.length : Int)) := by
        unfold laws_szAfters.f
        rw [hs]
        simp only [Option.bind_some, z1, if_false]
        rw [sz_AfterS l _ (by omega) (by omega) hn, if_pos h]
        simp only [Option.bind_some]
        rw [if_neg (by omega)]
      have hm : (l.map ofAfterS).length = l.length := List.length_map ..
      obtain ⟨K, q⟩ := both (to_slots a u hl) (both (to_AfterS l (by omega)) (both (spec_afters a u (l.map ofAfterS) (by omega) (by omega) (by omega)) (both (impl_afters a u (l.map ofAfterS) (by omega) (by omega) (by omega)) (both (eq_slots a u hl) (eq_AfterS (l.map ofAfterS) (by omega))))))
      obtain ⟨q1, q2, q3, q4, q5, q6⟩ := q K (Nat.le_refl _)
      refine ⟨K, ?_⟩
      have ht : laws_toAfters.f K a u l = some (a, u, l.map ofAfterS) := by
        unfold laws_toAfters.f
        rw [q1]
        simp only [Option.bind_some]
        rw [q2]
        rfl
      have he : laws_eqAfters.f K a u (l.map ofAfterS) a u (l.map ofAfterS) = some true := by
        unfold laws_eqAfters.f
        rw [q5]
        simp only [Option.bind_some]
        rw [if_pos trivial, q6]
        rfl
      unfold laws_FnExactAftersOk.f
      rw [hz]
      rw [Option.bind_some, if_neg (by omega), ht]
      rw [Option.bind_some, q3]
      rw [Option.bind_some, Option.bind_some, q4]
      rw [Option.bind_some, bne_self_eq_false, if_neg (by simp), Option.bind_some, he]
      rfl
    · refine hskip ?_
      unfold laws_szAfters.f
      rw [hs]
      simp only [Option.bind_some, z1, if_false]
      rw [sz_AfterS l _ (by omega) (by omega) hn, if_neg h]
      rfl
  · refine hskip ?_
    unfold laws_szAfters.f
    rw [hs]
    rfl

end Go.Proofs.Ytggajlaifoddeaa.Pure
