/- UsedIn of the program and of the reference return the same for all slots, and the slots stay as they were; no condition. -/
import Derived.Test.YtggajlaifoddeaaOpen
import Derived.Test.YtggajlaifoddeaaPLib
import Derived.Test.YtggajlaifoddeaaPFnExactUsedInx3
namespace Go.Proofs.Ytggajlaifoddeaa.Pure
open Go.RowKit Go.Proofs.YtggajlaifoddeaaOpen Go.Proofs.YtggajlaifoddeaaPLib Go.Proofs.Ytggajlaifoddeaa.PFnExactUsedIn Go.Proofs.YtggajlaifoddeaaW.PrintWords Go.Proofs.YtggajlaifoddeaaW.PrintLast
set_option linter.unusedVariables false
set_option linter.unusedSimpArgs false

theorem l1In_eq (a b c : Int) : spec_l1In.f a b c = some (btw a b c) := by
  unfold spec_l1In.f btw
  by_cases h : b ≤ a
  · rw [if_pos h]; simp [h]
  · rw [if_neg h]; simp [h]
theorem within_eq (a b c : Int) : impl_within.f a b c = some (btw a b c) := by
  unfold impl_within.f btw
  by_cases h : b ≤ a
  · rw [if_pos h]; simp [h]
  · rw [if_neg h]; simp [h]
theorem sz_i64s (l : List Int) (left : Int) (hl : 0 ≤ left) (hl2 : left ≤ 1048576) (hn : l.length ≤ 9223372036854775807) : laws_szInt64S.f l left = some (if (l.length : Int) ≤ left then left - (l.length : Int) else -1) := by
  unfold laws_szInt64S.f
  rw [wrap_id (by omega) (by omega)]
  by_cases h : (l.length : Int) ≤ left
  · rw [if_neg (by omega), if_pos h]
  · rw [if_pos (by omega), if_neg h]
theorem sz_bools (l : List Bool) (left : Int) (hl : 0 ≤ left) (hl2 : left ≤ 1048576) (hn : l.length ≤ 9223372036854775807) : laws_szBoolS.f l left = some (if (l.length : Int) ≤ left then left - (l.length : Int) else -1) := by
  unfold laws_szBoolS.f
  rw [wrap_id (by omega) (by omega)]
  by_cases h : (l.length : Int) ≤ left
  · rw [if_neg (by omega), if_pos h]
  · rw [if_pos (by omega), if_neg h]
theorem sz_slots (a : List Int) (u : List Bool) (ha : a.length ≤ 9223372036854775807) (hu : u.length ≤ 9223372036854775807) : (laws_szSlots.f a u 1048576 = some (1048576 - (a.length : Int) - (u.length : Int)) ∧ a.length + u.length ≤ 1048576) ∨ laws_szSlots.f a u 1048576 = some (-1) := by
  unfold laws_szSlots.f
  rw [sz_i64s a _ (by omega) (by omega) ha]
  by_cases h : (a.length : Int) ≤ 1048576
  · rw [if_pos h]
    have z : ¬ (1048576 - (a.length : Int) < 0) := by omega
    simp only [Option.bind_some, z, if_false]
    rw [sz_bools u _ (by omega) (by omega) hu]
    by_cases h2 : (u.length : Int) ≤ 1048576 - (a.length : Int)
    · rw [if_pos h2]
      have z2 : ¬ (1048576 - (a.length : Int) - (u.length : Int) < 0) := by omega
      simp only [Option.bind_some, z2, if_false]
      exact Or.inl ⟨trivial, by omega⟩
    · rw [if_neg h2]
      exact Or.inr (by simp)
  · rw [if_neg h]
    exact Or.inr (by simp)
theorem to_i64s (l : List Int) (hn : l.length ≤ 1048576) : ∃ K, ∀ k, K ≤ k → laws_toInt64S.f k l = some l := by
  obtain ⟨K, e⟩ := ev_copy (fun k a b i => laws_toInt64S.l0 k a b i) (fun x : Int => x) 0 (fun k x0 x3 i => by
    show laws_toInt64S.l0 (k + 1) x0 x3 i = _
    rw [laws_toInt64S.l0]
    rfl) l 0 (by omega)
  refine ⟨K, fun k hk => ?_⟩
  unfold laws_toInt64S.f
  rw [if_pos (by omega), if_pos (by omega), Int.toNat_natCast]
  simpa using e k hk
theorem to_bools (l : List Bool) (hn : l.length ≤ 1048576) : ∃ K, ∀ k, K ≤ k → laws_toBoolS.f k l = some l := by
  obtain ⟨K, e⟩ := ev_copy (fun k a b i => laws_toBoolS.l0 k a b i) (fun x : Bool => x) false (fun k x0 x3 i => by
    show laws_toBoolS.l0 (k + 1) x0 x3 i = _
    rw [laws_toBoolS.l0]
    rfl) l false (by omega)
  refine ⟨K, fun k hk => ?_⟩
  unfold laws_toBoolS.f
  rw [if_pos (by omega), if_pos (by omega), Int.toNat_natCast]
  simpa using e k hk
theorem to_slots (a : List Int) (u : List Bool) (hn : a.length + u.length ≤ 1048576) : ∃ K, ∀ k, K ≤ k → laws_toSlots.f k a u = some (a, u) := by
  obtain ⟨K, h⟩ := both (to_i64s a (by omega)) (to_bools u (by omega))
  refine ⟨K, fun k hk => ?_⟩
  unfold laws_toSlots.f
  rw [(h k hk).1, (h k hk).2]
  rfl
theorem eq_i64s (l : List Int) (hn : l.length ≤ 1048576) : ∃ K, ∀ k, K ≤ k → laws_eqInt64S.f k l l = some true := by
  obtain ⟨K, e⟩ := ev_same (fun k a b i => laws_eqInt64S.l0 k a b i) l (fun k i h0 h1 => by
    show laws_eqInt64S.l0 (k + 1) l l i = _
    rw [laws_eqInt64S.l0, if_pos h1, if_pos h0, if_pos h1, if_pos rfl]) (fun k i h => by
    show laws_eqInt64S.l0 (k + 1) l l i = _
    rw [laws_eqInt64S.l0, if_neg h]) (by omega)
  refine ⟨K, fun k hk => ?_⟩
  unfold laws_eqInt64S.f
  rw [if_pos rfl]
  exact e k hk
theorem eq_bools (l : List Bool) (hn : l.length ≤ 1048576) : ∃ K, ∀ k, K ≤ k → laws_eqBoolS.f k l l = some true := by
  obtain ⟨K, e⟩ := ev_same (fun k a b i => laws_eqBoolS.l0 k a b i) l (fun k i h0 h1 => by
    show laws_eqBoolS.l0 (k + 1) l l i = _
    rw [laws_eqBoolS.l0, if_pos h1, if_pos h0, if_pos h1, bne_self_eq_false]
    rfl) (fun k i h => by
    show laws_eqBoolS.l0 (k + 1) l l i = _
    rw [laws_eqBoolS.l0, if_neg h]) (by omega)
  refine ⟨K, fun k hk => ?_⟩
  unfold laws_eqBoolS.f
  rw [if_pos rfl]
  exact e k hk
theorem eq_slots (a : List Int) (u : List Bool) (hn : a.length + u.length ≤ 1048576) : ∃ K, ∀ k, K ≤ k → laws_eqSlots.f k a u a u = some true := by
  obtain ⟨K, h⟩ := both (eq_i64s a (by omega)) (eq_bools u (by omega))
  refine ⟨K, fun k hk => ?_⟩
  unfold laws_eqSlots.f
  rw [(h k hk).1, (h k hk).2]
  rfl
/-- What the document asks of slots. -/
def slotsB (a : List Int) (u : List Bool) : Bool := btw (a.length : Int) 1 64 && ((u.length : Int) == (a.length : Int)) && allFrom (fun i => btw (rd a i) 0 1000000) a.length 0
theorem spec_slots (a : List Int) (u : List Bool) (ha : a.length ≤ 1048576) : ∃ K, ∀ k, K ≤ k → spec_SlotsOk.f k a u = some (slotsB a u) := by
  obtain ⟨K, e⟩ := ev_all (fun k i => spec_SlotsOk.l0 k i a u) (fun i => btw (rd a i) 0 1000000) a.length 0 (fun k i _ h0 h1 => by
    show spec_SlotsOk.l0 (k + 1) i a u = if btw (rd a i) 0 1000000 = true then spec_SlotsOk.l0 k (wrap64 (i + 1)) a u else some false
    rw [spec_SlotsOk.l0, if_pos h1, if_pos h0, l1In_eq]
    rfl) (fun k i h => by
    show spec_SlotsOk.l0 (k + 1) i a u = _
    rw [spec_SlotsOk.l0, if_neg h]) (by omega)
  refine ⟨K + 1, fun k hk => ?_⟩
  obtain ⟨m, rfl⟩ : ∃ m, k = m + 1 := ⟨k - 1, by omega⟩
  have q := e m (by omega)
  simp only at q
  unfold spec_SlotsOk.f slotsB
  rw [l1In_eq]
  simp only [Option.bind_some, spec_SlotsOk.j0]
  cases h1 : btw (a.length : Int) 1 64
  · simp
  · by_cases h2 : (u.length : Int) = (a.length : Int)
    · simp [h2, q]
    · simp [h2]
theorem impl_bad (a : List Int) (ha : a.length ≤ 1048576) : ∃ K, ∀ k, K ≤ k → slices_ContainsFunc_int64_int64.f k a = some (!allFrom (fun i => btw (rd a i) 0 1000000) a.length 0) := by
  obtain ⟨K, e⟩ := ev_all (fun k i => (slices_IndexFunc_int64_int64.l0 k a (a.length : Int) i).bind fun t => some (!decide (t ≥ 0))) (fun i => btw (rd a i) 0 1000000) a.length 0 (fun k i _ h0 h1 => by
    show (slices_IndexFunc_int64_int64.l0 (k + 1) a (a.length : Int) i).bind (fun t => some (!decide (t ≥ 0))) = if btw (rd a i) 0 1000000 = true then (slices_IndexFunc_int64_int64.l0 k a (a.length : Int) (wrap64 (i + 1))).bind (fun t => some (!decide (t ≥ 0))) else some false
    rw [slices_IndexFunc_int64_int64.l0, if_pos h1, if_pos h0, if_pos h1]
    unfold impl_SlotsOk_1.f
    rw [within_eq]
    cases h : btw (rd a i) 0 1000000
    · simp [h0]
    · simp) (fun k i h => by
    show (slices_IndexFunc_int64_int64.l0 (k + 1) a (a.length : Int) i).bind (fun t => some (!decide (t ≥ 0))) = _
    rw [slices_IndexFunc_int64_int64.l0, if_neg h]
    rfl) (by omega)
  refine ⟨K, fun k hk => ?_⟩
  have q := e k hk
  simp only at q
  unfold slices_ContainsFunc_int64_int64.f slices_IndexFunc_int64_int64.f
  cases h : slices_IndexFunc_int64_int64.l0 k a (a.length : Int) 0 with
  | none => rw [h] at q; simp at q
  | some t =>
    rw [h] at q
    simp only [Option.bind_some, Option.some.injEq] at q ⊢
    rw [← q, Bool.not_not]
theorem impl_slots (a : List Int) (u : List Bool) (ha : a.length ≤ 1048576) : ∃ K, ∀ k, K ≤ k → impl_SlotsOk.f k a u = some (slotsB a u) := by
  obtain ⟨K, e⟩ := impl_bad a ha
  refine ⟨K, fun k hk => ?_⟩
  unfold impl_SlotsOk.f slotsB impl_size_int64.f
  simp only [Option.bind_some, within_eq, e k hk]
  cases h1 : btw (a.length : Int) 1 64
  · simp
  · by_cases h2 : (u.length : Int) = (a.length : Int)
    · simp [h2]
    · simp [h2]
/-- How many of m slots are used, from slot i on; c before. -/
def cntFrom (u : List Bool) : Nat → Int → Int → Int
  | 0, _, c => c
  | m + 1, i, c => cntFrom u m (i + 1) (if rdOf false u i = true then c + 1 else c)
theorem impl_used_loop (u : List Bool) (hn : u.length ≤ 1048576) : ∀ (m j k : Nat) (c : Int), j + m = u.length → m < k → 0 ≤ c → c ≤ j → impl_Slots_used.l0 k c u (u.length : Int) (j : Int) = some (cntFrom u m j c) := by
  intro m
  induction m with
  | zero =>
    intro j k c hj hk hc hc2
    obtain ⟨q, rfl⟩ : ∃ q, k = q + 1 := ⟨k - 1, by omega⟩
    rw [impl_Slots_used.l0, if_neg (by omega)]
    rfl
  | succ m ih =>
    intro j k c hj hk hc hc2
    obtain ⟨q, rfl⟩ : ∃ q, k = q + 1 := ⟨k - 1, by omega⟩
    rw [impl_Slots_used.l0, if_pos (by omega), if_pos (by omega), if_pos (by omega), wrap_id (x := (j : Int) + 1) (by omega) (by omega), wrap_id (x := c + 1) (by omega) (by omega)]
    unfold cntFrom
    have e1 := ih (j + 1) q (c + 1) (by omega) (by omega) (by omega) (by omega)
    have e2 := ih (j + 1) q c (by omega) (by omega) (by omega) (by omega)
    rw [Int.natCast_add, Int.natCast_one] at e1 e2
    rw [e1, e2]
    split <;> rfl
theorem impl_used (a : List Int) (u : List Bool) (hn : u.length ≤ 1048576) : ∃ K, ∀ k, K ≤ k → impl_Slots_used.f k a u = some (cntFrom u u.length 0 0) := by
  refine ⟨u.length + 1, fun k hk => ?_⟩
  have e := impl_used_loop u hn u.length 0 k 0 (by omega) (by omega) (by omega) (by omega)
  unfold impl_Slots_used.f
  simpa using e
theorem spec_used_loop (a : List Int) (u : List Bool) (hn : u.length ≤ 1048576) : ∀ (m j k : Nat) (c : Int), j + m = u.length → m < k → 0 ≤ c → c ≤ j → spec_UsedIn.l0 k c (j : Int) a u = some (cntFrom u m j c) := by
  intro m
  induction m with
  | zero =>
    intro j k c hj hk hc hc2
    obtain ⟨q, rfl⟩ : ∃ q, k = q + 1 := ⟨k - 1, by omega⟩
    rw [spec_UsedIn.l0, if_neg (by omega)]
    rfl
  | succ m ih =>
    intro j k c hj hk hc hc2
    obtain ⟨q, rfl⟩ : ∃ q, k = q + 1 := ⟨k - 1, by omega⟩
    rw [spec_UsedIn.l0, if_pos (by omega), if_pos (by omega), wrap_id (x := (j : Int) + 1) (by omega) (by omega), wrap_id (x := c + 1) (by omega) (by omega)]
    unfold cntFrom
    have e1 := ih (j + 1) q (c + 1) (by omega) (by omega) (by omega) (by omega)
    have e2 := ih (j + 1) q c (by omega) (by omega) (by omega) (by omega)
    rw [Int.natCast_add, Int.natCast_one] at e1 e2
    rw [e1, e2]
    split <;> rfl
def usedB (a : List Int) (u : List Bool) : Int := if slotsB a u = true then cntFrom u u.length 0 0 else -1
theorem spec_usedin (a : List Int) (u : List Bool) (ha : a.length ≤ 1048576) (hn : u.length ≤ 1048576) : ∃ K, ∀ k, K ≤ k → spec_UsedIn.f k a u = some (usedB a u) := by
  obtain ⟨K, e⟩ := spec_slots a u ha
  refine ⟨K + u.length + 1, fun k hk => ?_⟩
  have e2 := spec_used_loop a u hn u.length 0 k 0 (by omega) (by omega) (by omega) (by omega)
  unfold spec_UsedIn.f usedB
  rw [e k (by omega)]
  simp only [Option.bind_some]
  split
  · simpa using e2
  · rfl
theorem impl_usedin (a : List Int) (u : List Bool) (ha : a.length ≤ 1048576) (hn : u.length ≤ 1048576) : ∃ K, ∀ k, K ≤ k → impl_UsedIn.f k a u = some (usedB a u) := by
  obtain ⟨K, e⟩ := both (impl_slots a u ha) (impl_used a u hn)
  refine ⟨K, fun k hk => ?_⟩
  unfold impl_UsedIn.f usedB
  rw [(e k hk).1, (e k hk).2]
  simp only [Option.bind_some]
  split <;> rfl
theorem FnExactUsedIn : ∀ (l0_0 : List Int) (l0_1 : List Bool), l0_0.length ≤ 9223372036854775807 → l0_1.length ≤ 9223372036854775807 → ((∀ x_ ∈ l0_0, wf64 x_) ∧ (∀ x_ ∈ l0_1, True)) → ∃ k, laws_FnExactUsedIn.f k l0_0 l0_1 = some true := by
  intro a u ha hu _
  rcases sz_slots a u ha hu with ⟨hs, hl⟩ | hs
  · obtain ⟨K, q⟩ := both (to_slots a u hl) (both (spec_usedin a u (by omega) (by omega)) (both (impl_usedin a u (by omega) (by omega)) (eq_slots a u hl)))
    have q := q K (Nat.le_refl _)
    refine ⟨K, ?_⟩
    unfold laws_FnExactUsedIn.f
    rw [hs]
    have z : ¬ (1048576 - (a.length : Int) - (u.length : Int) < 0) := by omega
    simp only [Option.bind_some, z, if_false, q, bne_self_eq_false, Bool.false_eq_true, if_true]
  · refine ⟨0, ?_⟩
    unfold laws_FnExactUsedIn.f
    rw [hs]
    simp

end Go.Proofs.Ytggajlaifoddeaa.Pure
