/- Between of the program and of the reference return the same for all arguments; no condition. -/
import Derived.Test.YtbkoifghabnmeaaPFnExactBetweenx1
namespace Go.Proofs.Ytbkoifghabnmeaa.Pure
open Go.RowKit Go.Proofs.Ytbkoifghabnmeaa.PFnExactBetween Go.Proofs.YtbkoifghabnmeaaW.PrintWords Go.Proofs.YtbkoifghabnmeaaW.PrintLast

/-- The whole number of 64 bits that is nearest. -/
def sat64 (x : Int) : Int := if x > 9223372036854775807 then 9223372036854775807 else if x < -9223372036854775808 then -9223372036854775808 else x
theorem wf_span {x : Int} (h : (Lit.int .i64 x).wf = true) : -9223372036854775808 ≤ x ∧ x ≤ 9223372036854775807 := by
  have h2 : (decide (IntKind.i64.min ≤ x) && decide (x ≤ IntKind.i64.max)) = true := h
  rw [Bool.and_eq_true, decide_eq_true_eq, decide_eq_true_eq] at h2
  have e1 : IntKind.i64.min = -9223372036854775808 := by decide
  have e2 : IntKind.i64.max = 9223372036854775807 := by decide
  omega
theorem spec_later {a b : Int} (ha : -9223372036854775808 ≤ a ∧ a ≤ 9223372036854775807) (hb : -9223372036854775808 ≤ b ∧ b ≤ 9223372036854775807) : spec_Later.f a b = some (sat64 (a + b)) := by
  unfold spec_Later.f spec_l2Least.f
  simp only [Option.bind_some]
  unfold wrap64
  repeat' split
  all_goals
    rw [Option.some.injEq]
    unfold sat64
    repeat' split
    all_goals omega
theorem spec_between {a b : Int} (ha : -9223372036854775808 ≤ a ∧ a ≤ 9223372036854775807) (hb : -9223372036854775808 ≤ b ∧ b ≤ 9223372036854775807) : spec_Between.f a b = some (sat64 (b - a)) := by
  unfold spec_Between.f spec_l2Least.f
  simp only [Option.bind_some]
  split
  · rename_i h
    subst h
    unfold wrap64
    repeat' split
    all_goals
      rw [Option.some.injEq]
      unfold sat64
      repeat' split
      all_goals omega
  · rename_i h
    have e : wrap64 (-a) = -a := by unfold wrap64; omega
    rw [e, spec_later hb (by omega)]
    simp only [Option.bind_some, Option.some.injEq]
    rw [Int.sub_eq_add_neg]
theorem impl_between {a b : Int} (k : Nat) (ha : -9223372036854775808 ≤ a ∧ a ≤ 9223372036854775807) (hb : -9223372036854775808 ≤ b ∧ b ≤ 9223372036854775807) : impl_Between.f (k + 1) a b = some (sat64 (b - a)) := by
  unfold impl_Between.f
  simp only [impl_Between.j0, decide_eq_true_eq, Bool.false_eq_true, if_false]
  unfold wrap64
  repeat' split
  all_goals
    rw [Option.some.injEq]
    unfold sat64
    repeat' split
    all_goals omega
theorem FnExactBetween : laws_FnExactBetween.Pure := by
  intro a0 a1 h0 h1
  refine ⟨1, ?_⟩
  unfold laws_FnExactBetween.f
  rw [spec_between (wf_span h0) (wf_span h1), impl_between 0 (wf_span h0) (wf_span h1)]
  simp


end Go.Proofs.Ytbkoifghabnmeaa.Pure
