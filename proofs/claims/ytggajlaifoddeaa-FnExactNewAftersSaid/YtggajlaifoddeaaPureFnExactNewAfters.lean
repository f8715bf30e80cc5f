/- NewAfters of the program and of the reference return the same for all numbers, and each result is new memory; no condition. -/
import Derived.Test.YtggajlaifoddeaaPLib
import Derived.Test.YtggajlaifoddeaaPFnExactNewAftersx5
namespace Go.Proofs.Ytggajlaifoddeaa.Pure
open Go.RowKit Go.Proofs.YtggajlaifoddeaaPLib Go.Proofs.Ytggajlaifoddeaa.PFnExactNewAfters Go.Proofs.YtggajlaifoddeaaW.PrintWords Go.Proofs.YtggajlaifoddeaaW.PrintLast
set_option linter.unusedVariables false
set_option linter.unusedSimpArgs false

theorem l1In_eq (a b c : Int) : spec_l1In.f a b c = some (btw a b c) := by
  unfold spec_l1In.f btw
  by_cases h : b ≤ a
  · rw [if_pos h]; simp [h]
  · rw [if_neg h]; simp [h]
theorem within_eq (a b c : Int) : impl_within.f a b c = some (btw a b c) := by
  unfold impl_within.f btw
  by_cases h : b ≤ a
  · rw [if_pos h]; simp [h]
  · rw [if_neg h]; simp [h]
/-- The mark of an element. -/
def mkInt64S (c : Int) : Int := c
def nxInt64S (c : Int) : Int := wrap64 (c + 1)
theorem nxInt64S_add (c : Int) (h0 : 0 ≤ c) (h1 : c ≤ 4611686018427387904) : nxInt64S c = c + 1 := by
  unfold nxInt64S wrap64
  omega
theorem mark_Int64S (l : List Int) (c : Int) (hc0 : 0 ≤ c) (hc : c ≤ 1000000000) (hn : l.length ≤ 2000000) : ∃ K, ∀ k, K ≤ k → laws_markInt64S.f k l c = some (c + 1 * (l.length : Int), marks mkInt64S nxInt64S l.length c) := by
  obtain ⟨K, e⟩ := ev_mark (fun k x0 c i => laws_markInt64S.l0 k x0 c i) mkInt64S nxInt64S (fun k x0 c i => by
    show laws_markInt64S.l0 (k + 1) x0 c i = _
    rw [laws_markInt64S.l0]
    by_cases h : i < (x0.length : Int)
    · by_cases h0 : 0 ≤ i
      · have hr : ∀ v, rd (x0.set i.toNat v) i = v := fun v => by
          unfold rd
          rw [getD_lt _ (by rw [List.length_set]; omega), List.getElem_set_self]
        rw [if_pos h, if_pos h0, if_pos h, if_pos h0]
        try simp only [Option.bind_some, hr, List.set_set]
        rfl
      · rw [if_pos h, if_neg h0, if_pos h, if_neg h0]
    · rw [if_neg h, if_neg h]) l c (by omega)
  refine ⟨K, fun k hk => ?_⟩
  unfold laws_markInt64S.f
  rw [← endOf_add nxInt64S 1 (by omega) (by omega) (fun c h0 h1 => nxInt64S_add c h0 h1) l.length c (by omega) (by omega)]
  exact e k hk
theorem held_Int64S (n : Nat) (c : Int) (hc0 : 0 ≤ c) (hc : c ≤ 1000000000) (hn : n ≤ 2000000) : ∃ K, ∀ k, K ≤ k → laws_heldInt64S.f k (marks mkInt64S nxInt64S n c) c = some (c + 1 * (n : Int)) := by
  obtain ⟨K, e⟩ := ev_held (fun k x0 c i => laws_heldInt64S.l0 k x0 c i) mkInt64S nxInt64S 0 (fun k x0 c i h0 h1 he => by
    show laws_heldInt64S.l0 (k + 1) x0 c i = _
    have hr : rd x0 i = mkInt64S c := he
    rw [laws_heldInt64S.l0, if_pos h1, if_pos h0, hr]
    unfold mkInt64S nxInt64S
    simp) (fun k x0 c i h => by
    show laws_heldInt64S.l0 (k + 1) x0 c i = _
    rw [laws_heldInt64S.l0, if_neg h]) n c (by omega)
  refine ⟨K, fun k hk => ?_⟩
  unfold laws_heldInt64S.f
  rw [← endOf_add nxInt64S 1 (by omega) (by omega) (fun c h0 h1 => nxInt64S_add c h0 h1) n c (by omega) (by omega)]
  exact e k hk
/-- The mark of an element. -/
def mkBoolS (c : Int) : Bool := (Int.tmod (c) 3 == 0)
def nxBoolS (c : Int) : Int := wrap64 (c + 1)
theorem nxBoolS_add (c : Int) (h0 : 0 ≤ c) (h1 : c ≤ 4611686018427387904) : nxBoolS c = c + 1 := by
  unfold nxBoolS wrap64
  omega
theorem mark_BoolS (l : List Bool) (c : Int) (hc0 : 0 ≤ c) (hc : c ≤ 1000000000) (hn : l.length ≤ 2000000) : ∃ K, ∀ k, K ≤ k → laws_markBoolS.f k l c = some (c + 1 * (l.length : Int), marks mkBoolS nxBoolS l.length c) := by
  obtain ⟨K, e⟩ := ev_mark (fun k x0 c i => laws_markBoolS.l0 k x0 c i) mkBoolS nxBoolS (fun k x0 c i => by
    show laws_markBoolS.l0 (k + 1) x0 c i = _
    rw [laws_markBoolS.l0]
    by_cases h : i < (x0.length : Int)
    · by_cases h0 : 0 ≤ i
      · have hr : ∀ v, rdOf false (x0.set i.toNat v) i = v := fun v => by
          unfold rdOf
          rw [getD_lt _ (by rw [List.length_set]; omega), List.getElem_set_self]
        rw [if_pos h, if_pos h0, if_pos h, if_pos h0]
        try simp only [Option.bind_some, hr, List.set_set]
        rfl
      · rw [if_pos h, if_neg h0, if_pos h, if_neg h0]
    · rw [if_neg h, if_neg h]) l c (by omega)
  refine ⟨K, fun k hk => ?_⟩
  unfold laws_markBoolS.f
  rw [← endOf_add nxBoolS 1 (by omega) (by omega) (fun c h0 h1 => nxBoolS_add c h0 h1) l.length c (by omega) (by omega)]
  exact e k hk
theorem held_BoolS (n : Nat) (c : Int) (hc0 : 0 ≤ c) (hc : c ≤ 1000000000) (hn : n ≤ 2000000) : ∃ K, ∀ k, K ≤ k → laws_heldBoolS.f k (marks mkBoolS nxBoolS n c) c = some (c + 1 * (n : Int)) := by
  obtain ⟨K, e⟩ := ev_held (fun k x0 c i => laws_heldBoolS.l0 k x0 c i) mkBoolS nxBoolS false (fun k x0 c i h0 h1 he => by
    show laws_heldBoolS.l0 (k + 1) x0 c i = _
    have hr : rdOf false x0 i = mkBoolS c := he
    rw [laws_heldBoolS.l0, if_pos h1, if_pos h0, hr]
    unfold mkBoolS nxBoolS
    simp) (fun k x0 c i h => by
    show laws_heldBoolS.l0 (k + 1) x0 c i = _
    rw [laws_heldBoolS.l0, if_neg h]) n c (by omega)
  refine ⟨K, fun k hk => ?_⟩
  unfold laws_heldBoolS.f
  rw [← endOf_add nxBoolS 1 (by omega) (by omega) (fun c h0 h1 => nxBoolS_add c h0 h1) n c (by omega) (by omega)]
  exact e k hk
theorem eq_Int64S (l : List Int) (hn : l.length ≤ 4611686018427387904) : ∃ K, ∀ k, K ≤ k → laws_eqInt64S.f k l l = some true := by
  obtain ⟨K, e⟩ := ev_same (fun k a b i => laws_eqInt64S.l0 k a b i) l (fun k i h0 h1 => by
    show laws_eqInt64S.l0 (k + 1) l l i = laws_eqInt64S.l0 k l l (wrap64 (i + 1))
    generalize hw : laws_eqInt64S.l0 k l l (wrap64 (i + 1)) = R
    rw [laws_eqInt64S.l0, hw]
    simp [h0, h1]) (fun k i h => by
    show laws_eqInt64S.l0 (k + 1) l l i = _
    rw [laws_eqInt64S.l0, if_neg h]) hn
  refine ⟨K, fun k hk => ?_⟩
  unfold laws_eqInt64S.f
  rw [if_pos rfl]
  exact e k hk
theorem eq_BoolS (l : List Bool) (hn : l.length ≤ 4611686018427387904) : ∃ K, ∀ k, K ≤ k → laws_eqBoolS.f k l l = some true := by
  obtain ⟨K, e⟩ := ev_same (fun k a b i => laws_eqBoolS.l0 k a b i) l (fun k i h0 h1 => by
    show laws_eqBoolS.l0 (k + 1) l l i = laws_eqBoolS.l0 k l l (wrap64 (i + 1))
    generalize hw : laws_eqBoolS.l0 k l l (wrap64 (i + 1)) = R
    rw [laws_eqBoolS.l0, hw]
    simp [h0, h1]) (fun k i h => by
    show laws_eqBoolS.l0 (k + 1) l l i = _
    rw [laws_eqBoolS.l0, if_neg h]) hn
  refine ⟨K, fun k hk => ?_⟩
  unfold laws_eqBoolS.f
  rw [if_pos rfl]
  exact e k hk
theorem eq_none (k : Nat) : laws_eqAfterS.f (k + 1) ([] : List S106) [] = some true := by
  unfold laws_eqAfterS.f
  rw [if_pos rfl, laws_eqAfterS.l0, if_neg (by simp)]
theorem mark_none (k : Nat) (c : Int) : laws_markAfterS.f (k + 1) ([] : List S106) c = some (c, []) := by
  unfold laws_markAfterS.f
  rw [laws_markAfterS.l0, if_neg (by simp)]
theorem held_none (k : Nat) (c : Int) : laws_heldAfterS.f (k + 1) ([] : List S106) c = some c := by
  unfold laws_heldAfterS.f
  rw [laws_heldAfterS.l0, if_neg (by simp)]
theorem FnExactNewAfters : laws_FnExactNewAfters.Pure := by
  intro n _
  have e1 : spec_NewSlots.f n = impl_NewSlots.f n := by
    unfold spec_NewSlots.f impl_NewSlots.f
    rw [l1In_eq, within_eq]
  obtain ⟨A, B, f, hA, hB, hi⟩ : ∃ (A : List Int) (B : List Bool) (f : Bool), A.length ≤ 64 ∧ B.length ≤ 64 ∧ impl_NewSlots.f n = some (A, B, f) := by
    unfold impl_NewSlots.f
    rw [within_eq]
    simp only [Option.bind_some]
    cases hb : btw n 1 64 with
    | false => exact ⟨[], [], false, by simp, by simp, rfl⟩
    | true =>
      have := btw_iff.1 hb
      refine ⟨List.replicate n.toNat 0, List.replicate n.toNat false, true, by rw [List.length_replicate]; omega, by rw [List.length_replicate]; omega, ?_⟩
      rw [if_pos rfl, if_pos (by omega), if_pos (by omega), if_pos (by omega)]
  obtain ⟨K, q⟩ := both (eq_Int64S A (by omega)) (both (eq_BoolS B (by omega)) (both (mark_Int64S A 1 (by omega) (by omega) (by omega)) (both (mark_BoolS B (1 + 1 * (A.length : Int)) (by omega) (by omega) (by omega)) (both (held_Int64S A.length 1 (by omega) (by omega) (by omega)) (held_BoolS B.length (1 + 1 * (A.length : Int)) (by omega) (by omega) (by omega))))))
  have z1 : ¬ (1 + 1 * (A.length : Int) < 0) := by omega
  have z2 : ¬ (1 + 1 * (A.length : Int) + 1 * (B.length : Int) < 0) := by omega
  have he : ∀ k, K + 1 ≤ k → laws_eqAfters.f k A B [] A B [] = some true := fun k hk => by
    obtain ⟨m, rfl⟩ : ∃ m, k = m + 1 := ⟨k - 1, by omega⟩
    have a := q (m + 1) (by omega)
    simp only [laws_eqAfters.f, laws_eqSlots.f, a, eq_none, Option.bind_some, if_true]
  have hm : ∀ k, K + 1 ≤ k → ∃ A' B', laws_markAfters.f k A B [] 1 = some (1 + 1 * (A.length : Int) + 1 * (B.length : Int), A', B', []) ∧ (∀ k', K + 1 ≤ k' → laws_heldAfters.f k' A' B' [] 1 = some (1 + 1 * (A.length : Int) + 1 * (B.length : Int))) := fun k hk => by
    obtain ⟨m, rfl⟩ : ∃ m, k = m + 1 := ⟨k - 1, by omega⟩
    have a := q (m + 1) (by omega)
    refine ⟨marks mkInt64S nxInt64S A.length 1, marks mkBoolS nxBoolS B.length (1 + 1 * (A.length : Int)), ?_, fun k' hk' => ?_⟩
    · simp only [laws_markAfters.f, laws_markSlots.f, a, mark_none, Option.bind_some]
    · obtain ⟨m', rfl⟩ : ∃ m, k' = m + 1 := ⟨k' - 1, by omega⟩
      have a' := q (m' + 1) (by omega)
      simp only [laws_heldAfters.f, laws_heldSlots.f, a', held_none, Option.bind_some, z1, z2, if_false]
  obtain ⟨A', B', hm1, hm2⟩ := hm (K + 2) (by omega)
  refine ⟨K + 3, ?_⟩
  unfold laws_FnExactNewAfters.f spec_NewAfters.f impl_NewAfters.f
  rw [e1, hi]
  simp only [Option.bind_some, he (K + 3) (by omega), if_true, bne_self_eq_false]
  rw [laws_FnExactNewAfters.j0]
  unfold impl_NewAfters.f
  rw [hi]
  simp only [Bool.false_eq_true, if_false, hm1, Option.bind_some, hm2 (K + 2) (by omega), z2, if_true, he (K + 2) (by omega), bne_self_eq_false]
  rw [laws_FnExactNewAfters.j1]
  simp only [Bool.false_eq_true, if_false, Option.bind_some, hm2 (K + 1) (by omega), z2, if_true]

end Go.Proofs.Ytggajlaifoddeaa.Pure
