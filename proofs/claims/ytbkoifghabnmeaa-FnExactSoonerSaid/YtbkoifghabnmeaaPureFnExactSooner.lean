/- Sooner of the program and of the reference return the same for all arguments; no condition. -/
import Derived.Test.YtbkoifghabnmeaaPFnExactSoonerx1
namespace Go.Proofs.Ytbkoifghabnmeaa.Pure
open Go.RowKit Go.Proofs.Ytbkoifghabnmeaa.PFnExactSooner Go.Proofs.YtbkoifghabnmeaaW.PrintWords Go.Proofs.YtbkoifghabnmeaaW.PrintLast

theorem FnExactSooner : laws_FnExactSooner.Pure := by
  intro a0 a1 _ _
  unfold laws_FnExactSooner.f spec_Sooner.f impl_Sooner.f spec_l1Min.f mn
  by_cases h : a0 < a1
  · rw [if_pos h]
    simp only [Option.bind_some]
    rw [if_pos (by split <;> omega)]
  · rw [if_neg h]
    simp only [Option.bind_some]
    rw [if_pos (by split <;> omega)]


end Go.Proofs.Ytbkoifghabnmeaa.Pure
