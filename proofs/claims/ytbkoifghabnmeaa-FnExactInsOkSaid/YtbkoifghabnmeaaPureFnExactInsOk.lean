/- InsOk of the program and of the reference return the same for all instructions; no condition. -/
import Derived.Test.YtbkoifghabnmeaaOpen
import Derived.Test.YtbkoifghabnmeaaPFnExactInsOkx2
namespace Go.Proofs.Ytbkoifghabnmeaa.Pure
open Go.RowKit Go.Proofs.YtbkoifghabnmeaaOpen Go.Proofs.Ytbkoifghabnmeaa.PFnExactInsOk Go.Proofs.YtbkoifghabnmeaaW.PrintWords Go.Proofs.YtbkoifghabnmeaaW.PrintLast
set_option linter.unusedVariables false
set_option linter.unusedSimpArgs false

/-- Between two numbers. -/
def btw (a lo hi : Int) : Bool := decide (lo ≤ a) && decide (a ≤ hi)
theorem btw_iff {a lo hi : Int} : btw a lo hi = true ↔ lo ≤ a ∧ a ≤ hi := by simp [btw]
theorem l1In_eq (a b c : Int) : spec_l1In.f a b c = some (btw a b c) := by
  unfold spec_l1In.f btw
  by_cases h : b ≤ a
  · rw [if_pos h]; simp [h]
  · rw [if_neg h]; simp [h]
theorem within_eq (a b c : Int) : impl_within.f a b c = some (btw a b c) := by
  unfold impl_within.f btw
  by_cases h : b ≤ a
  · rw [if_pos h]; simp [h]
  · rw [if_neg h]; simp [h]
/-- What the document asks of an instruction. -/
def insB (op a b : Int) : Bool :=
  if op = 0 then btw a 0 90 && b == 0
  else if op = 1 ∨ op = 2 ∨ op = 9 then btw a (-1) 59 && b == 0
  else if op = 3 then btw a (-1) 59 && btw b 0 1000
  else if op = 4 then btw a (-1) 59 && btw b 0 999
  else if op = 5 then btw a 0 12 && b == 0
  else if op = 6 ∨ op = 7 then btw a 0 7 && btw b 0 7
  else if op = 8 then btw a 0 7 && b == 0
  else if op = 10 then btw a (-1) 59 && btw b 1 9
  else false
theorem spec_ins (k : Nat) (op a b : Int) : spec_InsOk.f (k + 3) op a b = some (insB op a b) := by
  by_cases h0 : op = 0
  · subst h0
    cases hA : btw a 0 90 <;> simp [spec_InsOk.f, l1In_eq, insB, hA] <;> simp_all
  by_cases h1 : op = 1
  · subst h1
    cases hA : btw a (-1) 59 <;> simp_all [spec_InsOk.f, spec_InsOk.j0, spec_l9Leash.f, l1In_eq, insB]
  by_cases h2 : op = 2
  · subst h2
    cases hA : btw a (-1) 59 <;> simp_all [spec_InsOk.f, spec_InsOk.j0, spec_l9Leash.f, l1In_eq, insB]
  by_cases h9 : op = 9
  · subst h9
    cases hA : btw a (-1) 59 <;> simp_all [spec_InsOk.f, spec_InsOk.j0, spec_l9Leash.f, l1In_eq, insB]
  by_cases h3 : op = 3
  · subst h3
    cases hA : btw a (-1) 59 <;> simp_all [spec_InsOk.f, spec_InsOk.j0, spec_l9Leash.f, l1In_eq, insB]
  by_cases h4 : op = 4
  · subst h4
    cases hA : btw a (-1) 59 <;> simp_all [spec_InsOk.f, spec_InsOk.j0, spec_l9Leash.f, l1In_eq, insB]
  by_cases h5 : op = 5
  · subst h5
    cases hA : btw a 0 12 <;> simp_all [spec_InsOk.f, spec_InsOk.j0, l1In_eq, insB]
  by_cases h6 : op = 6
  · subst h6
    cases hA : btw a 0 7 <;> simp_all [spec_InsOk.f, spec_InsOk.j0, spec_InsOk.j1, l1In_eq, insB]
  by_cases h7 : op = 7
  · subst h7
    cases hA : btw a 0 7 <;> simp_all [spec_InsOk.f, spec_InsOk.j0, spec_InsOk.j1, l1In_eq, insB]
  by_cases h8 : op = 8
  · subst h8
    cases hA : btw a 0 7 <;> simp_all [spec_InsOk.f, spec_InsOk.j0, spec_InsOk.j1, l1In_eq, insB]
  by_cases h10 : op = 10
  · subst h10
    cases hA : btw a (-1) 59 <;> simp_all [spec_InsOk.f, spec_InsOk.j0, spec_InsOk.j1, spec_l9Leash.f, l1In_eq, insB]
  simp [spec_InsOk.f, spec_InsOk.j0, spec_InsOk.j1, insB, *]
theorem impl_ins (k : Nat) (op a b : Int) : impl_InsOk.f (k + 3) op a b = some (insB op a b) := by
  by_cases h0 : op = 0
  · subst h0
    have hn : impl_hasNode.f 0 = some false := by decide
    cases hA : btw a 0 90 <;> by_cases hb : b = 0 <;> simp_all [impl_InsOk.f, impl_InsOk.j0, impl_hasB.f, within_eq, insB]
  by_cases h1 : op = 1
  · subst h1
    have hn : impl_hasNode.f 1 = some true := by decide
    cases hA : btw a (-1) 59 <;> by_cases hb : b = 0 <;> simp_all [impl_InsOk.f, impl_InsOk.j0, impl_InsOk.j1, impl_hasB.f, within_eq, insB]
  by_cases h2 : op = 2
  · subst h2
    have hn : impl_hasNode.f 2 = some true := by decide
    cases hA : btw a (-1) 59 <;> by_cases hb : b = 0 <;> simp_all [impl_InsOk.f, impl_InsOk.j0, impl_InsOk.j1, impl_hasB.f, within_eq, insB]
  by_cases h9 : op = 9
  · subst h9
    have hn : impl_hasNode.f 9 = some true := by decide
    cases hA : btw a (-1) 59 <;> by_cases hb : b = 0 <;> simp_all [impl_InsOk.f, impl_InsOk.j0, impl_InsOk.j1, impl_hasB.f, within_eq, insB]
  by_cases h3 : op = 3
  · subst h3
    have hn : impl_hasNode.f 3 = some true := by decide
    cases hA : btw a (-1) 59 <;> simp_all [impl_InsOk.f, impl_InsOk.j0, impl_InsOk.j1, impl_hasB.f, within_eq, insB]
  by_cases h4 : op = 4
  · subst h4
    have hn : impl_hasNode.f 4 = some true := by decide
    cases hA : btw a (-1) 59 <;> simp_all [impl_InsOk.f, impl_InsOk.j0, impl_InsOk.j1, impl_hasB.f, within_eq, insB]
  by_cases h5 : op = 5
  · subst h5
    have hn : impl_hasNode.f 5 = some false := by decide
    by_cases hb : b = 0 <;> simp_all [impl_InsOk.f, impl_InsOk.j0, impl_InsOk.j1, impl_hasB.f, within_eq, insB]
  by_cases h6 : op = 6
  · subst h6
    have hn : impl_hasNode.f 6 = some false := by decide
    cases hA : btw a 0 7 <;> simp_all [impl_InsOk.f, impl_InsOk.j0, impl_InsOk.j1, impl_InsOk.j2, impl_hasB.f, within_eq, insB]
  by_cases h7 : op = 7
  · subst h7
    have hn : impl_hasNode.f 7 = some false := by decide
    cases hA : btw a 0 7 <;> simp_all [impl_InsOk.f, impl_InsOk.j0, impl_InsOk.j1, impl_InsOk.j2, impl_hasB.f, within_eq, insB]
  by_cases h8 : op = 8
  · subst h8
    have hn : impl_hasNode.f 8 = some false := by decide
    by_cases hb : b = 0 <;> simp_all [impl_InsOk.f, impl_InsOk.j0, impl_InsOk.j1, impl_InsOk.j2, impl_hasB.f, within_eq, insB]
  by_cases h10 : op = 10
  · subst h10
    have hn : impl_hasNode.f 10 = some true := by decide
    cases hA : btw a (-1) 59 <;> simp_all [impl_InsOk.f, impl_InsOk.j0, impl_InsOk.j1, impl_InsOk.j2, impl_hasB.f, within_eq, insB]
  have hn : impl_hasNode.f op = some false := by
    unfold impl_hasNode.f
    rw [within_eq]
    have : btw op 1 4 = false := by
      rw [Bool.eq_false_iff]
      intro h
      have := btw_iff.1 h
      omega
    simp [h9, h10, this]
  have hb : impl_hasB.f op = some false := by simp [impl_hasB.f, *]
  by_cases hb0 : b = 0 <;> simp [impl_InsOk.f, hn, hb, impl_InsOk.j0, impl_InsOk.j1, impl_InsOk.j2, insB, *]
theorem FnExactInsOk : ∀ (a0_0 : Int) (a0_1 : Int) (a0_2 : Int), (wf64 a0_0 ∧ wf64 a0_1 ∧ wf64 a0_2) → ∃ k, laws_FnExactInsOk.f k a0_0 a0_1 a0_2 = some true := by
  intro op a b _
  refine ⟨3, ?_⟩
  unfold laws_FnExactInsOk.f laws_toIns.f
  simp only [Option.bind_some]
  rw [spec_ins 0, impl_ins 0]
  simp

end Go.Proofs.Ytbkoifghabnmeaa.Pure
