/- ProgOk of the program and of the reference return the same for every list of instructions, and the list stays as it was; no condition. -/
import Derived.Test.YtggajlaifoddeaaOpen
import Derived.Test.YtggajlaifoddeaaPLib
import Derived.Test.YtggajlaifoddeaaPFnExactProgOkx4
namespace Go.Proofs.Ytggajlaifoddeaa.Pure
open Go.RowKit Go.Proofs.YtggajlaifoddeaaOpen Go.Proofs.YtggajlaifoddeaaPLib Go.Proofs.Ytggajlaifoddeaa.PFnExactProgOk Go.Proofs.YtggajlaifoddeaaW.PrintWords Go.Proofs.YtggajlaifoddeaaW.PrintLast
set_option linter.unusedVariables false
set_option linter.unusedSimpArgs false

theorem l1In_eq (a b c : Int) : spec_l1In.f a b c = some (btw a b c) := by
  unfold spec_l1In.f btw
  by_cases h : b ≤ a
  · rw [if_pos h]; simp [h]
  · rw [if_neg h]; simp [h]
theorem within_eq (a b c : Int) : impl_within.f a b c = some (btw a b c) := by
  unfold impl_within.f btw
  by_cases h : b ≤ a
  · rw [if_pos h]; simp [h]
  · rw [if_neg h]; simp [h]
/-- What the document asks of an instruction. -/
def insB (op a b : Int) : Bool :=
  if op = 0 then btw a 0 90 && b == 0
  else if op = 1 ∨ op = 2 ∨ op = 9 then btw a (-1) 59 && b == 0
  else if op = 3 then btw a (-1) 59 && btw b 0 1000
  else if op = 4 then btw a (-1) 59 && btw b 0 999
  else if op = 5 then btw a 0 12 && b == 0
  else if op = 6 ∨ op = 7 then btw a 0 7 && btw b 0 7
  else if op = 8 then btw a 0 7 && b == 0
  else if op = 10 then btw a (-1) 59 && btw b 1 9
  else false
theorem spec_ins (k : Nat) (op a b : Int) : spec_InsOk.f (k + 3) op a b = some (insB op a b) := by
  by_cases h0 : op = 0
  · subst h0
    cases hA : btw a 0 90 <;> simp [spec_InsOk.f, l1In_eq, insB, hA] <;> simp_all
  by_cases h1 : op = 1
  · subst h1
    cases hA : btw a (-1) 59 <;> simp_all [spec_InsOk.f, spec_InsOk.j0, spec_l9Leash.f, l1In_eq, insB]
  by_cases h2 : op = 2
  · subst h2
    cases hA : btw a (-1) 59 <;> simp_all [spec_InsOk.f, spec_InsOk.j0, spec_l9Leash.f, l1In_eq, insB]
  by_cases h9 : op = 9
  · subst h9
    cases hA : btw a (-1) 59 <;> simp_all [spec_InsOk.f, spec_InsOk.j0, spec_l9Leash.f, l1In_eq, insB]
  by_cases h3 : op = 3
  · subst h3
    cases hA : btw a (-1) 59 <;> simp_all [spec_InsOk.f, spec_InsOk.j0, spec_l9Leash.f, l1In_eq, insB]
  by_cases h4 : op = 4
  · subst h4
    cases hA : btw a (-1) 59 <;> simp_all [spec_InsOk.f, spec_InsOk.j0, spec_l9Leash.f, l1In_eq, insB]
  by_cases h5 : op = 5
  · subst h5
    cases hA : btw a 0 12 <;> simp_all [spec_InsOk.f, spec_InsOk.j0, l1In_eq, insB]
  by_cases h6 : op = 6
  · subst h6
    cases hA : btw a 0 7 <;> simp_all [spec_InsOk.f, spec_InsOk.j0, spec_InsOk.j1, l1In_eq, insB]
  by_cases h7 : op = 7
  · subst h7
    cases hA : btw a 0 7 <;> simp_all [spec_InsOk.f, spec_InsOk.j0, spec_InsOk.j1, l1In_eq, insB]
  by_cases h8 : op = 8
  · subst h8
    cases hA : btw a 0 7 <;> simp_all [spec_InsOk.f, spec_InsOk.j0, spec_InsOk.j1, l1In_eq, insB]
  by_cases h10 : op = 10
  · subst h10
    cases hA : btw a (-1) 59 <;> simp_all [spec_InsOk.f, spec_InsOk.j0, spec_InsOk.j1, spec_l9Leash.f, l1In_eq, insB]
  simp [spec_InsOk.f, spec_InsOk.j0, spec_InsOk.j1, insB, *]
theorem impl_ins (k : Nat) (op a b : Int) : impl_InsOk.f (k + 3) op a b = some (insB op a b) := by
  by_cases h0 : op = 0
  · subst h0
    have hn : impl_hasNode.f 0 = some false := by decide
    cases hA : btw a 0 90 <;> by_cases hb : b = 0 <;> simp_all [impl_InsOk.f, impl_InsOk.j0, impl_hasB.f, within_eq, insB]
  by_cases h1 : op = 1
  · subst h1
    have hn : impl_hasNode.f 1 = some true := by decide
    cases hA : btw a (-1) 59 <;> by_cases hb : b = 0 <;> simp_all [impl_InsOk.f, impl_InsOk.j0, impl_InsOk.j1, impl_hasB.f, within_eq, insB]
  by_cases h2 : op = 2
  · subst h2
    have hn : impl_hasNode.f 2 = some true := by decide
    cases hA : btw a (-1) 59 <;> by_cases hb : b = 0 <;> simp_all [impl_InsOk.f, impl_InsOk.j0, impl_InsOk.j1, impl_hasB.f, within_eq, insB]
  by_cases h9 : op = 9
  · subst h9
    have hn : impl_hasNode.f 9 = some true := by decide
    cases hA : btw a (-1) 59 <;> by_cases hb : b = 0 <;> simp_all [impl_InsOk.f, impl_InsOk.j0, impl_InsOk.j1, impl_hasB.f, within_eq, insB]
  by_cases h3 : op = 3
  · subst h3
    have hn : impl_hasNode.f 3 = some true := by decide
    cases hA : btw a (-1) 59 <;> simp_all [impl_InsOk.f, impl_InsOk.j0, impl_InsOk.j1, impl_hasB.f, within_eq, insB]
  by_cases h4 : op = 4
  · subst h4
    have hn : impl_hasNode.f 4 = some true := by decide
    cases hA : btw a (-1) 59 <;> simp_all [impl_InsOk.f, impl_InsOk.j0, impl_InsOk.j1, impl_hasB.f, within_eq, insB]
  by_cases h5 : op = 5
  · subst h5
    have hn : impl_hasNode.f 5 = some false := by decide
    by_cases hb : b = 0 <;> simp_all [impl_InsOk.f, impl_InsOk.j0, impl_InsOk.j1, impl_hasB.f, within_eq, insB]
  by_cases h6 : op = 6
  · subst h6
    have hn : impl_hasNode.f 6 = some false := by decide
    cases hA : btw a 0 7 <;> simp_all [impl_InsOk.f, impl_InsOk.j0, impl_InsOk.j1, impl_InsOk.j2, impl_hasB.f, within_eq, insB]
  by_cases h7 : op = 7
  · subst h7
    have hn : impl_hasNode.f 7 = some false := by decide
    cases hA : btw a 0 7 <;> simp_all [impl_InsOk.f, impl_InsOk.j0, impl_InsOk.j1, impl_InsOk.j2, impl_hasB.f, within_eq, insB]
  by_cases h8 : op = 8
  · subst h8
    have hn : impl_hasNode.f 8 = some false := by decide
    by_cases hb : b = 0 <;> simp_all [impl_InsOk.f, impl_InsOk.j0, impl_InsOk.j1, impl_InsOk.j2, impl_hasB.f, within_eq, insB]
  by_cases h10 : op = 10
  · subst h10
    have hn : impl_hasNode.f 10 = some true := by decide
    cases hA : btw a (-1) 59 <;> simp_all [impl_InsOk.f, impl_InsOk.j0, impl_InsOk.j1, impl_InsOk.j2, impl_hasB.f, within_eq, insB]
  have hn : impl_hasNode.f op = some false := by
    unfold impl_hasNode.f
    rw [within_eq]
    have : btw op 1 4 = false := by
      rw [Bool.eq_false_iff]
      intro h
      have := btw_iff.1 h
      omega
    simp [h9, h10, this]
  have hb : impl_hasB.f op = some false := by simp [impl_hasB.f, *]
  by_cases hb0 : b = 0 <;> simp [impl_InsOk.f, hn, hb, impl_InsOk.j0, impl_InsOk.j1, impl_InsOk.j2, insB, *]
theorem sz_InsS (l : List S85) (left : Int) (hl : 0 ≤ left) (hl2 : left ≤ 1048576) (hn : l.length ≤ 9223372036854775807) : laws_szInsS.f l left = some (if (l.length : Int) ≤ left then left - (l.length : Int) else -1) := by
  unfold laws_szInsS.f
  rw [wrap_id (by omega) (by omega)]
  by_cases h : (l.length : Int) ≤ left
  · rw [if_neg (by omega), if_pos h]
  · rw [if_pos (by omega), if_neg h]
/-- An element of the statements as one of the program. -/
def ofInsS (x : S85) : S83 := ⟨x.f0, x.f1, x.f2⟩
theorem to_InsS (l : List S85) (hn : l.length ≤ 1048576) : ∃ K, ∀ k, K ≤ k → laws_toInsS.f k l = some (l.map ofInsS) := by
  obtain ⟨K, e⟩ := ev_copy (fun k a b i => laws_toInsS.l0 k a b i) ofInsS z85 (fun k x0 x3 i => by
    show laws_toInsS.l0 (k + 1) x0 x3 i = _
    simp only [laws_toInsS.l0, laws_toIns.f, Option.bind_some]
    rfl) l z83 (by omega)
  refine ⟨K, fun k hk => ?_⟩
  unfold laws_toInsS.f
  rw [if_pos (by omega), if_pos (by omega), Int.toNat_natCast]
  exact e k hk
theorem eq_InsS (l : List S83) (hn : l.length ≤ 4611686018427387904) : ∃ K, ∀ k, K ≤ k → laws_eqInsS.f k l l = some true := by
  obtain ⟨K, e⟩ := ev_same (fun k a b i => laws_eqInsS.l0 k a b i) l (fun k i h0 h1 => by
    show laws_eqInsS.l0 (k + 1) l l i = laws_eqInsS.l0 k l l (wrap64 (i + 1))
    generalize hw : laws_eqInsS.l0 k l l (wrap64 (i + 1)) = R
    rw [laws_eqInsS.l0, hw]
    simp [laws_eqIns.f, h0, h1]) (fun k i h => by
    show laws_eqInsS.l0 (k + 1) l l i = _
    rw [laws_eqInsS.l0, if_neg h]) hn
  refine ⟨K, fun k hk => ?_⟩
  unfold laws_eqInsS.f
  rw [if_pos rfl]
  exact e k hk
/-- What the document asks of a program. -/
def insAt (l : List S83) (i : Int) : Bool := insB (rd_T83 l i).f0 (rd_T83 l i).f1 (rd_T83 l i).f2
def progB (l : List S83) : Bool := decide ((l.length : Int) ≤ 12) && allFrom (insAt l) l.length 0
theorem spec_ins3 (k : Nat) (h : 3 ≤ k) (op a b : Int) : spec_InsOk.f k op a b = some (insB op a b) := by
  obtain ⟨m, rfl⟩ : ∃ m, k = m + 3 := ⟨k - 3, by omega⟩
  exact spec_ins m op a b
theorem impl_ins3 (k : Nat) (h : 3 ≤ k) (op a b : Int) : impl_InsOk.f k op a b = some (insB op a b) := by
  obtain ⟨m, rfl⟩ : ∃ m, k = m + 3 := ⟨k - 3, by omega⟩
  exact impl_ins m op a b
theorem spec_prog_loop (l : List S83) (hl : l.length ≤ 1048576) : ∀ (m j k : Nat), j + m = l.length → m + 3 < k → spec_ProgOk.l0 k l (j : Int) = some (allFrom (insAt l) m j && decide ((l.length : Int) ≤ 12)) := by
  intro m
  induction m with
  | zero =>
    intro j k hj hk
    obtain ⟨q, rfl⟩ : ∃ q, k = q + 1 := ⟨k - 1, by omega⟩
    rw [spec_ProgOk.l0, if_neg (by omega)]
    simp [allFrom]
  | succ m ih =>
    intro j k hj hk
    obtain ⟨q, rfl⟩ : ∃ q, k = q + 1 := ⟨k - 1, by omega⟩
    rw [spec_ProgOk.l0, if_pos (by omega), if_pos (by omega), spec_ins3 q (by omega)]
    have e := ih (j + 1) q (by omega) (by omega)
    rw [wrap_id (by omega) (by omega)]
    unfold allFrom
    simp only [Option.bind_some]
    show (if insAt l j = true then _ else _) = _
    cases h : insAt l j
    · simp
    · simp only [if_true, Bool.true_and]
      simpa using e
theorem spec_prog (l : List S83) (hl : l.length ≤ 1048576) : ∃ K, ∀ k, K ≤ k → spec_ProgOk.f k l = some (progB l) := by
  refine ⟨l.length + 4, fun k hk => ?_⟩
  have e := spec_prog_loop l hl l.length 0 k (by omega) (by omega)
  unfold spec_ProgOk.f progB
  rw [Bool.and_comm]
  simpa using e
theorem impl_badins (l : List S83) (hl : l.length ≤ 1048576) : ∃ K, ∀ k, K ≤ k → impl_Ins_56.f k l = some (!allFrom (insAt l) l.length 0) := by
  obtain ⟨K, e⟩ := ev_all (fun k i => (impl_Ins_85.l0 k l (l.length : Int) i).bind fun t => some (!decide (t ≥ 0))) (insAt l) l.length 3 (fun k i hk h0 h1 => by
    show (impl_Ins_85.l0 (k + 1) l (l.length : Int) i).bind (fun t => some (!decide (t ≥ 0))) = if insAt l i = true then (impl_Ins_85.l0 k l (l.length : Int) (wrap64 (i + 1))).bind (fun t => some (!decide (t ≥ 0))) else some false
    rw [impl_Ins_85.l0, if_pos h1, if_pos h0, if_pos h1]
    unfold impl_ProgOk_1.f
    rw [impl_ins3 k hk]
    show ((some (!insAt l i)).bind _).bind _ = _
    cases h : insAt l i
    · simp [h0]
    · simp) (fun k i h => by
    show (impl_Ins_85.l0 (k + 1) l (l.length : Int) i).bind (fun t => some (!decide (t ≥ 0))) = _
    rw [impl_Ins_85.l0, if_neg h]
    rfl) (by omega)
  refine ⟨K, fun k hk => ?_⟩
  have q := e k hk
  simp only at q
  unfold impl_Ins_56.f impl_Ins_85.f
  cases h : impl_Ins_85.l0 k l (l.length : Int) 0 with
  | none => rw [h] at q; simp at q
  | some t =>
    rw [h] at q
    simp only [Option.bind_some, Option.some.injEq] at q ⊢
    rw [← q, Bool.not_not]
theorem impl_prog (l : List S83) (hl : l.length ≤ 1048576) : ∃ K, ∀ k, K ≤ k → impl_ProgOk.f k l = some (progB l) := by
  obtain ⟨K, e⟩ := impl_badins l hl
  refine ⟨K, fun k hk => ?_⟩
  unfold impl_ProgOk.f progB
  rw [e k hk]
  by_cases h : (l.length : Int) ≤ 12
  · rw [if_pos h]
    simp [h]
  · rw [if_neg h]
    simp [h]
theorem FnExactProgOk : ∀ (l0 : List (S85)), l0.length ≤ 9223372036854775807 → (∀ x_ ∈ l0, (wf64 x_.f0 ∧ wf64 x_.f1 ∧ wf64 x_.f2)) → ∃ k, laws_FnExactProgOk.f k l0 = some true := by
  intro l hl _
  by_cases h : (l.length : Int) ≤ 1048576
  · obtain ⟨K, q⟩ := both (to_InsS l (by omega)) (both (spec_prog (l.map ofInsS) (by rw [List.length_map]; omega)) (both (impl_prog (l.map ofInsS) (by rw [List.length_map]; omega)) (eq_InsS (l.map ofInsS) (by rw [List.length_map]; omega))))
    have q := q K (Nat.le_refl _)
    refine ⟨K, ?_⟩
    unfold laws_FnExactProgOk.f
    rw [sz_InsS l _ (by omega) (by omega) hl, if_pos h]
    have z : ¬ (1048576 - (l.length : Int) < 0) := by omega
    simp only [Option.bind_some, z, if_false, q, bne_self_eq_false, Bool.false_eq_true, if_true]
  · refine ⟨0, ?_⟩
    unfold laws_FnExactProgOk.f
    rw [sz_InsS l _ (by omega) (by omega) hl, if_neg h]
    simp

end Go.Proofs.Ytggajlaifoddeaa.Pure
