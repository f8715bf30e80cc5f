/- Holds of the program and of the reference return the same for all slots and handles, and the slots stay as they were; no condition. -/
import Derived.Test.YtggajlaifoddeaaOpen
import Derived.Test.YtggajlaifoddeaaPLib
import Derived.Test.YtggajlaifoddeaaPFnExactHoldsx5
namespace Go.Proofs.Ytggajlaifoddeaa.Pure
open Go.RowKit Go.Proofs.YtggajlaifoddeaaOpen Go.Proofs.YtggajlaifoddeaaPLib Go.Proofs.Ytggajlaifoddeaa.PFnExactHolds Go.Proofs.YtggajlaifoddeaaW.PrintWords Go.Proofs.YtggajlaifoddeaaW.PrintLast
set_option linter.unusedVariables false
set_option linter.unusedSimpArgs false

theorem l1In_eq (a b c : Int) : spec_l1In.f a b c = some (btw a b c) := by
  unfold spec_l1In.f btw
  by_cases h : b ≤ a
  · rw [if_pos h]; simp [h]
  · rw [if_neg h]; simp [h]
theorem within_eq (a b c : Int) : impl_within.f a b c = some (btw a b c) := by
  unfold impl_within.f btw
  by_cases h : b ≤ a
  · rw [if_pos h]; simp [h]
  · rw [if_neg h]; simp [h]
theorem sz_i64s (l : List Int) (left : Int) (hl : 0 ≤ left) (hl2 : left ≤ 1048576) (hn : l.length ≤ 9223372036854775807) : laws_szInt64S.f l left = some (if (l.length : Int) ≤ left then left - (l.length : Int) else -1) := by
  unfold laws_szInt64S.f
  rw [wrap_id (by omega) (by omega)]
  by_cases h : (l.length : Int) ≤ left
  · rw [if_neg (by omega), if_pos h]
  · rw [if_pos (by omega), if_neg h]
theorem sz_bools (l : List Bool) (left : Int) (hl : 0 ≤ left) (hl2 : left ≤ 1048576) (hn : l.length ≤ 9223372036854775807) : laws_szBoolS.f l left = some (if (l.length : Int) ≤ left then left - (l.length : Int) else -1) := by
  unfold laws_szBoolS.f
  rw [wrap_id (by omega) (by omega)]
  by_cases h : (l.length : Int) ≤ left
  · rw [if_neg (by omega), if_pos h]
  · rw [if_pos (by omega), if_neg h]
theorem sz_slots (a : List Int) (u : List Bool) (ha : a.length ≤ 9223372036854775807) (hu : u.length ≤ 9223372036854775807) : (laws_szSlots.f a u 1048576 = some (1048576 - (a.length : Int) - (u.length : Int)) ∧ a.length + u.length ≤ 1048576) ∨ laws_szSlots.f a u 1048576 = some (-1) := by
  unfold laws_szSlots.f
  rw [sz_i64s a _ (by omega) (by omega) ha]
  by_cases h : (a.length : Int) ≤ 1048576
  · rw [if_pos h]
    have z : ¬ (1048576 - (a.length : Int) < 0) := by omega
    simp only [Option.bind_some, z, if_false]
    rw [sz_bools u _ (by omega) (by omega) hu]
    by_cases h2 : (u.length : Int) ≤ 1048576 - (a.length : Int)
    · rw [if_pos h2]
      have z2 : ¬ (1048576 - (a.length : Int) - (u.length : Int) < 0) := by omega
      simp only [Option.bind_some, z2, if_false]
      exact Or.inl ⟨trivial, by omega⟩
    · rw [if_neg h2]
      exact Or.inr (by simp)
  · rw [if_neg h]
    exact Or.inr (by simp)
theorem to_i64s (l : List Int) (hn : l.length ≤ 1048576) : ∃ K, ∀ k, K ≤ k → laws_toInt64S.f k l = some l := by
  obtain ⟨K, e⟩ := ev_copy (fun k a b i => laws_toInt64S.l0 k a b i) (fun x : Int => x) 0 (fun k x0 x3 i => by
    show laws_toInt64S.l0 (k + 1) x0 x3 i = _
    rw [laws_toInt64S.l0]
    rfl) l 0 (by omega)
  refine ⟨K, fun k hk => ?_⟩
  unfold laws_toInt64S.f
  rw [if_pos (by omega), if_pos (by omega), Int.toNat_natCast]
  simpa using e k hk
theorem to_bools (l : List Bool) (hn : l.length ≤ 1048576) : ∃ K, ∀ k, K ≤ k → laws_toBoolS.f k l = some l := by
  obtain ⟨K, e⟩ := ev_copy (fun k a b i => laws_toBoolS.l0 k a b i) (fun x : Bool => x) false (fun k x0 x3 i => by
    show laws_toBoolS.l0 (k + 1) x0 x3 i = _
    rw [laws_toBoolS.l0]
    rfl) l false (by omega)
  refine ⟨K, fun k hk => ?_⟩
  unfold laws_toBoolS.f
  rw [if_pos (by omega), if_pos (by omega), Int.toNat_natCast]
  simpa using e k hk
theorem to_slots (a : List Int) (u : List Bool) (hn : a.length + u.length ≤ 1048576) : ∃ K, ∀ k, K ≤ k → laws_toSlots.f k a u = some (a, u) := by
  obtain ⟨K, h⟩ := both (to_i64s a (by omega)) (to_bools u (by omega))
  refine ⟨K, fun k hk => ?_⟩
  unfold laws_toSlots.f
  rw [(h k hk).1, (h k hk).2]
  rfl
theorem eq_i64s (l : List Int) (hn : l.length ≤ 1048576) : ∃ K, ∀ k, K ≤ k → laws_eqInt64S.f k l l = some true := by
  obtain ⟨K, e⟩ := ev_same (fun k a b i => laws_eqInt64S.l0 k a b i) l (fun k i h0 h1 => by
    show laws_eqInt64S.l0 (k + 1) l l i = _
    rw [laws_eqInt64S.l0, if_pos h1, if_pos h0, if_pos h1, if_pos rfl]) (fun k i h => by
    show laws_eqInt64S.l0 (k + 1) l l i = _
    rw [laws_eqInt64S.l0, if_neg h]) (by omega)
  refine ⟨K, fun k hk => ?_⟩
  unfold laws_eqInt64S.f
  rw [if_pos rfl]
  exact e k hk
theorem eq_bools (l : List Bool) (hn : l.length ≤ 1048576) : ∃ K, ∀ k, K ≤ k → laws_eqBoolS.f k l l = some true := by
  obtain ⟨K, e⟩ := ev_same (fun k a b i => laws_eqBoolS.l0 k a b i) l (fun k i h0 h1 => by
    show laws_eqBoolS.l0 (k + 1) l l i = _
    rw [laws_eqBoolS.l0, if_pos h1, if_pos h0, if_pos h1, bne_self_eq_false]
    rfl) (fun k i h => by
    show laws_eqBoolS.l0 (k + 1) l l i = _
    rw [laws_eqBoolS.l0, if_neg h]) (by omega)
  refine ⟨K, fun k hk => ?_⟩
  unfold laws_eqBoolS.f
  rw [if_pos rfl]
  exact e k hk
theorem eq_slots (a : List Int) (u : List Bool) (hn : a.length + u.length ≤ 1048576) : ∃ K, ∀ k, K ≤ k → laws_eqSlots.f k a u a u = some true := by
  obtain ⟨K, h⟩ := both (eq_i64s a (by omega)) (eq_bools u (by omega))
  refine ⟨K, fun k hk => ?_⟩
  unfold laws_eqSlots.f
  rw [(h k hk).1, (h k hk).2]
  rfl
/-- What the document asks of slots. -/
def slotsB (a : List Int) (u : List Bool) : Bool := btw (a.length : Int) 1 64 && ((u.length : Int) == (a.length : Int)) && allFrom (fun i => btw (rd a i) 0 1000000) a.length 0
theorem spec_slots (a : List Int) (u : List Bool) (ha : a.length ≤ 1048576) : ∃ K, ∀ k, K ≤ k → spec_SlotsOk.f k a u = some (slotsB a u) := by
  obtain ⟨K, e⟩ := ev_all (fun k i => spec_SlotsOk.l0 k i a u) (fun i => btw (rd a i) 0 1000000) a.length 0 (fun k i _ h0 h1 => by
    show spec_SlotsOk.l0 (k + 1) i a u = if btw (rd a i) 0 1000000 = true then spec_SlotsOk.l0 k (wrap64 (i + 1)) a u else some false
    rw [spec_SlotsOk.l0, if_pos h1, if_pos h0, l1In_eq]
    rfl) (fun k i h => by
    show spec_SlotsOk.l0 (k + 1) i a u = _
    rw [spec_SlotsOk.l0, if_neg h]) (by omega)
  refine ⟨K + 1, fun k hk => ?_⟩
  obtain ⟨m, rfl⟩ : ∃ m, k = m + 1 := ⟨k - 1, by omega⟩
  have q := e m (by omega)
  simp only at q
  unfold spec_SlotsOk.f slotsB
  rw [l1In_eq]
  simp only [Option.bind_some, spec_SlotsOk.j0]
  cases h1 : btw (a.length : Int) 1 64
  · simp
  · by_cases h2 : (u.length : Int) = (a.length : Int)
    · simp [h2, q]
    · simp [h2]
theorem impl_bad (a : List Int) (ha : a.length ≤ 1048576) : ∃ K, ∀ k, K ≤ k → slices_ContainsFunc_int64_int64.f k a = some (!allFrom (fun i => btw (rd a i) 0 1000000) a.length 0) := by
  obtain ⟨K, e⟩ := ev_all (fun k i => (slices_IndexFunc_int64_int64.l0 k a (a.length : Int) i).bind fun t => some (!decide (t ≥ 0))) (fun i => btw (rd a i) 0 1000000) a.length 0 (fun k i _ h0 h1 => by
    show (slices_IndexFunc_int64_int64.l0 (k + 1) a (a.length : Int) i).bind (fun t => some (!decide (t ≥ 0))) = if btw (rd a i) 0 1000000 = true then (slices_IndexFunc_int64_int64.l0 k a (a.length : Int) (wrap64 (i + 1))).bind (fun t => some (!decide (t ≥ 0))) else some false
    rw [slices_IndexFunc_int64_int64.l0, if_pos h1, if_pos h0, if_pos h1]
    unfold impl_SlotsOk_1.f
    rw [within_eq]
    cases h : btw (rd a i) 0 1000000
    · simp [h0]
    · simp) (fun k i h => by
    show (slices_IndexFunc_int64_int64.l0 (k + 1) a (a.length : Int) i).bind (fun t => some (!decide (t ≥ 0))) = _
    rw [slices_IndexFunc_int64_int64.l0, if_neg h]
    rfl) (by omega)
  refine ⟨K, fun k hk => ?_⟩
  have q := e k hk
  simp only at q
  unfold slices_ContainsFunc_int64_int64.f slices_IndexFunc_int64_int64.f
  cases h : slices_IndexFunc_int64_int64.l0 k a (a.length : Int) 0 with
  | none => rw [h] at q; simp at q
  | some t =>
    rw [h] at q
    simp only [Option.bind_some, Option.some.injEq] at q ⊢
    rw [← q, Bool.not_not]
theorem impl_slots (a : List Int) (u : List Bool) (ha : a.length ≤ 1048576) : ∃ K, ∀ k, K ≤ k → impl_SlotsOk.f k a u = some (slotsB a u) := by
  obtain ⟨K, e⟩ := impl_bad a ha
  refine ⟨K, fun k hk => ?_⟩
  unfold impl_SlotsOk.f slotsB impl_size_int64.f
  simp only [Option.bind_some, within_eq, e k hk]
  cases h1 : btw (a.length : Int) 1 64
  · simp
  · by_cases h2 : (u.length : Int) = (a.length : Int)
    · simp [h2]
    · simp [h2]
theorem slotsB_len {a : List Int} {u : List Bool} (h : slotsB a u = true) : (u.length : Int) = (a.length : Int) := by
  unfold slotsB at h
  simp at h
  omega
/-- What slots hold. -/
def heldB (a : List Int) (u : List Bool) (s g : Int) : Bool := btw s 0 ((a.length : Int) - 1) && (rdOf false u s && (rd a s == g))
def holdsB (a : List Int) (u : List Bool) (s g : Int) : Bool := slotsB a u && heldB a u s g
theorem impl_slots_holds (a : List Int) (u : List Bool) (s g : Int) (ha : a.length ≤ 1048576) (hu : (u.length : Int) = (a.length : Int)) : impl_Slots_holds.f a u s g = some (heldB a u s g) := by
  unfold impl_Slots_holds.f heldB impl_isIn_int64.f impl_size_int64.f
  simp only [Option.bind_some, within_eq]
  rw [wrap_id (by omega) (by omega)]
  cases h : btw s 0 ((a.length : Int) - 1)
  · simp
  · have := btw_iff.1 h
    rw [if_pos rfl, if_pos (by omega), if_pos (by omega), if_pos (show s < (a.length : Int) by omega)]
    cases rdOf false u s <;> simp
theorem spec_holds (a : List Int) (u : List Bool) (s g : Int) (ha : a.length ≤ 1048576) : ∃ K, ∀ k, K ≤ k → spec_Holds.f k a u s g = some (holdsB a u s g) := by
  obtain ⟨K, e⟩ := spec_slots a u ha
  refine ⟨K, fun k hk => ?_⟩
  unfold spec_Holds.f holdsB
  rw [e k hk]
  simp only [Option.bind_some]
  cases hq : slotsB a u
  · simp
  · have hl := slotsB_len hq
    rw [if_pos rfl, wrap_id (by omega) (by omega), l1In_eq]
    simp only [Option.bind_some]
    unfold heldB
    cases h : btw s 0 ((a.length : Int) - 1)
    · simp
    · have := btw_iff.1 h
      rw [if_pos rfl, if_pos (by omega), if_pos (by omega), if_pos (show s < (a.length : Int) by omega)]
      cases rdOf false u s <;> simp
theorem impl_holds (a : List Int) (u : List Bool) (s g : Int) (ha : a.length ≤ 1048576) : ∃ K, ∀ k, K ≤ k → impl_Holds.f k a u s g = some (holdsB a u s g) := by
  obtain ⟨K, e⟩ := impl_slots a u ha
  refine ⟨K, fun k hk => ?_⟩
  unfold impl_Holds.f holdsB
  rw [e k hk]
  simp only [Option.bind_some]
  cases hq : slotsB a u
  · simp
  · rw [if_pos rfl, impl_slots_holds a u s g ha (slotsB_len hq)]
    simp
theorem FnExactHolds : ∀ (l0_0 : List Int) (l0_1 : List Bool) (a1_0 : Int) (a1_1 : Int), l0_0.length ≤ 9223372036854775807 → l0_1.length ≤ 9223372036854775807 → ((∀ x_ ∈ l0_0, wf64 x_) ∧ (∀ x_ ∈ l0_1, True)) → (wf64 a1_0 ∧ wf64 a1_1) → ∃ k, laws_FnExactHolds.f k l0_0 l0_1 a1_0 a1_1 = some true := by
  intro a u s g ha hu _ _
  rcases sz_slots a u ha hu with ⟨hs, hl⟩ | hs
  · obtain ⟨K, q⟩ := both (to_slots a u hl) (both (spec_holds a u s g (by omega)) (both (impl_holds a u s g (by omega)) (eq_slots a u hl)))
    have q := q K (Nat.le_refl _)
    refine ⟨K, ?_⟩
    unfold laws_FnExactHolds.f
    rw [hs]
    have z : ¬ (1048576 - (a.length : Int) - (u.length : Int) < 0) := by omega
    simp only [Option.bind_some, z, if_false, q, laws_toHandle.f, bne_self_eq_false, Bool.false_eq_true, if_true]
  · refine ⟨0, ?_⟩
    unfold laws_FnExactHolds.f
    rw [hs]
    simp

end Go.Proofs.Ytggajlaifoddeaa.Pure
