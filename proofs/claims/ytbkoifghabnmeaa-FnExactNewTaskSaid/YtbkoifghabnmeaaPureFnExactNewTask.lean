/- NewTask of the program and of the reference return the same for every two numbers; no condition. -/
import Derived.Test.YtbkoifghabnmeaaPLib
import Derived.Test.YtbkoifghabnmeaaPFnExactNewTaskx3
namespace Go.Proofs.Ytbkoifghabnmeaa.Pure
open Go.RowKit Go.Proofs.YtbkoifghabnmeaaPLib Go.Proofs.Ytbkoifghabnmeaa.PFnExactNewTask Go.Proofs.YtbkoifghabnmeaaW.PrintWords Go.Proofs.YtbkoifghabnmeaaW.PrintLast
set_option linter.unusedVariables false
set_option linter.unusedSimpArgs false

theorem xin_spec (a b c : Int) : spec_l1In.f a b c = some (decide (b ≤ a ∧ a ≤ c)) := by
  unfold spec_l1In.f
  by_cases h : a ≥ b
  · rw [if_pos h]
    congr 1
    by_cases h2 : a ≤ c <;> simp [h2] <;> omega
  · rw [if_neg h]
    congr 1
    symm
    rw [decide_eq_false_iff_not]
    omega
theorem xin_impl (a b c : Int) : impl_within.f a b c = some (decide (b ≤ a ∧ a ≤ c)) := by
  unfold impl_within.f
  by_cases h : a ≥ b
  · rw [if_pos h]
    congr 1
    by_cases h2 : a ≤ c <;> simp [h2] <;> omega
  · rw [if_neg h]
    congr 1
    symm
    rw [decide_eq_false_iff_not]
    omega
def taskP (p pc st why what tm reg g er : Int) : Prop :=
  (0 ≤ p ∧ p ≤ 7) ∧ (0 ≤ pc ∧ pc ≤ 12) ∧ (0 ≤ reg ∧ reg ≤ 999) ∧ (-1 ≤ g ∧ g ≤ 7) ∧ (0 ≤ er ∧ er ≤ 99) ∧
  ((st = 1 ∧ er = 0 ∧ ((why = 1 ∧ 0 ≤ what ∧ what ≤ 59 ∧ tm = -1) ∨ (why = 2 ∧ 0 ≤ what ∧ what ≤ 59 ∧ 0 ≤ tm ∧ tm ≤ 1000000) ∨ ((why = 3 ∨ why = 4) ∧ 0 ≤ what ∧ what ≤ 7 ∧ tm = -1)))
    ∨ (st ≠ 1 ∧ 0 ≤ st ∧ st ≤ 2 ∧ why = 0 ∧ what = 0 ∧ tm = -1 ∧ (st = 2 ∨ er = 0)))
instance (p pc st why what tm reg g er : Int) : Decidable (taskP p pc st why what tm reg g er) := by unfold taskP; infer_instance
def waitsP (why what tm : Int) : Prop := (why = 1 ∧ 0 ≤ what ∧ what ≤ 59 ∧ tm = -1) ∨ (why = 2 ∧ 0 ≤ what ∧ what ≤ 59 ∧ 0 ≤ tm ∧ tm ≤ 1000000) ∨ ((why = 3 ∨ why = 4) ∧ 0 ≤ what ∧ what ≤ 7 ∧ tm = -1)
instance (why what tm : Int) : Decidable (waitsP why what tm) := by unfold waitsP; infer_instance
theorem some_false_of {P : Prop} [Decidable P] (h : ¬ P) : some false = some (decide P) := by rw [decide_eq_false h]
theorem some_true_of {P : Prop} [Decidable P] (h : P) : some true = some (decide P) := by rw [decide_eq_true h]
theorem some_dec_of {P Q : Prop} [Decidable P] [Decidable Q] (h : P ↔ Q) : some (decide P) = some (decide Q) := by simp only [h]
theorem some_beq_of {a b : Int} {Q : Prop} [Decidable Q] (h : a = b ↔ Q) : some (a == b) = some (decide Q) := by
  by_cases q : a = b
  · rw [decide_eq_true (h.mp q), beq_iff_eq.mpr q]
  · rw [decide_eq_false (fun x => q (h.mpr x)), beq_eq_false_iff_ne.mpr q]
theorem spec_waits (p pc st why what tm reg g er : Int) : spec_l10Waits.f p pc st why what tm reg g er = some (decide (waitsP why what tm)) := by
  unfold spec_l10Waits.f
  simp only [xin_spec, Option.bind_some, decide_eq_true_eq]
  repeat' split
  all_goals first
    | (refine some_beq_of ?_; unfold waitsP; omega)
    | (refine some_dec_of ?_; unfold waitsP; omega)
    | (refine some_false_of ?_; unfold waitsP; omega)
set_option maxHeartbeats 4000000 in
theorem spec_task (p pc st why what tm reg g er : Int) (k : Nat) : spec_TaskOk.f (k + 1) p pc st why what tm reg g er = some (decide (taskP p pc st why what tm reg g er)) := by
  unfold spec_TaskOk.f
  simp only [xin_spec, spec_waits, Option.bind_some, decide_eq_true_eq, spec_TaskOk.j0]
  repeat' split
  all_goals (try simp only [Bool.not_eq_true', decide_eq_false_iff_not, Decidable.not_not, waitsP, Bool.not_eq_false'] at *)
  all_goals first
    | (refine some_false_of ?_; unfold taskP; first | omega | simp_all)
    | (refine some_true_of ?_; unfold taskP; omega)
    | (refine some_beq_of ?_; unfold taskP; omega)
    | (exfalso; first | omega | simp_all)
theorem bne_dec (a : Int) (Q : Prop) [Decidable Q] : (((a == 1) != decide Q) = true) ↔ ¬ (a = 1 ↔ Q) := by
  by_cases h : a = 1 <;> by_cases q : Q <;> simp [h, q]
set_option maxHeartbeats 4000000 in
theorem impl_task0 (p pc st why what tm reg g er : Int) (k : Nat) (x : Bool) (hx : x = true → ¬ taskP p pc st why what tm reg g er) (hy : x = false → (0 ≤ p ∧ p ≤ 7) ∧ (0 ≤ pc ∧ pc ≤ 12) ∧ (0 ≤ reg ∧ reg ≤ 999) ∧ (-1 ≤ g ∧ g ≤ 7) ∧ (0 ≤ st ∧ st ≤ 2)) : impl_TaskOk.j0 (k + 5) x p pc st why what tm reg g er = some (decide (taskP p pc st why what tm reg g er)) := by
  rw [impl_TaskOk.j0]
  by_cases h : x = true
  · rw [if_pos h]
    exact some_false_of (hx h)
  · rw [if_neg h]
    obtain ⟨h1, h2, h3, h4, h5⟩ := hy (by simpa using h)
    simp only [xin_impl, Option.bind_some, bne_dec]
    have key : ∀ b : Bool, (b = true ↔ st ≠ 1 ∧ why ≠ 0) → ((st = 1 ↔ (1 ≤ why ∧ why ≤ 4))) → impl_TaskOk.j1 (k + 4) b p pc st why what tm reg g er = some (decide (taskP p pc st why what tm reg g er)) := by
      intro b hb hq
      rw [impl_TaskOk.j1]
      by_cases hb' : b = true
      · rw [if_pos hb']
        have := hb.mp hb'
        refine some_false_of ?_
        unfold taskP
        omega
      · rw [if_neg hb']
        have : ¬ (st ≠ 1 ∧ why ≠ 0) := fun x => hb' (hb.mpr x)
        have w : why = 0 ∨ why = 1 ∨ why = 2 ∨ why = 3 ∨ why = 4 := by omega
        have s : st = 0 ∨ st = 1 ∨ st = 2 := by omega
        rcases w with w | w | w | w | w <;> rcases s with s | s | s <;> first | (exfalso; omega) | skip
        all_goals (subst w; subst s; simp only [impl_TaskOk.j2, impl_TaskOk.j3, impl_TaskOk.j4, xin_impl, Option.bind_some, decide_eq_true_eq, beq_self_eq_true, if_true, Int.reduceEq, Int.reduceBEq, Bool.false_eq_true, if_false])
        all_goals repeat' split
        all_goals first
          | (refine some_false_of ?_; unfold taskP; omega)
          | (refine some_dec_of ?_; unfold taskP; omega)
          | (refine some_beq_of ?_; unfold taskP; omega)
    split
    · refine some_false_of ?_
      unfold taskP
      omega
    · rename_i hh
      have hq : st = 1 ↔ (1 ≤ why ∧ why ≤ 4) := Decidable.not_not.mp hh
      split
      · exact key false (by simp; omega) hq
      · exact key (why != 0) (by simp; omega) hq
set_option maxHeartbeats 4000000 in
theorem impl_task (p pc st why what tm reg g er : Int) (k : Nat) : impl_TaskOk.f (k + 5) p pc st why what tm reg g er = some (decide (taskP p pc st why what tm reg g er)) := by
  unfold impl_TaskOk.f
  simp only [xin_impl, Option.bind_some, decide_eq_true_eq]
  repeat' split
  all_goals refine impl_task0 p pc st why what tm reg g er k _ ?_ ?_
  all_goals (intro hx; simp only [Bool.not_eq_true', decide_eq_false_iff_not, Bool.not_eq_false', decide_eq_true_eq, Bool.true_eq_false, reduceCtorEq] at hx)
  all_goals (try unfold taskP)
  all_goals omega
theorem FnExactNewTask : laws_FnExactNewTask.Pure := by
  intro a0 a1 _ _
  refine ⟨5, ?_⟩
  unfold laws_FnExactNewTask.f spec_NewTask.f impl_NewTask.f
  simp only [Option.bind_some, spec_task a0 0 0 0 0 (-1) 0 a1 0 4, impl_task a0 0 0 0 0 (-1) 0 a1 0 0]
  by_cases h : taskP a0 0 0 0 0 (-1) 0 a1 0
  · simp [h, laws_eqTask.f]
  · simp [h, laws_eqTask.f]

end Go.Proofs.Ytbkoifghabnmeaa.Pure
