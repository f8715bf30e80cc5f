/- IsDue of the program and of the reference return the same for all arguments; no condition. -/
import Derived.Test.YtbkoifghabnmeaaPFnExactIsDuex1
namespace Go.Proofs.Ytbkoifghabnmeaa.Pure
open Go.RowKit Go.Proofs.Ytbkoifghabnmeaa.PFnExactIsDue Go.Proofs.YtbkoifghabnmeaaW.PrintWords Go.Proofs.YtbkoifghabnmeaaW.PrintLast

theorem FnExactIsDue : laws_FnExactIsDue.Pure := by
  intro a0 a1 _ _
  unfold laws_FnExactIsDue.f spec_IsDue.f impl_IsDue.f
  split <;> simp


end Go.Proofs.Ytbkoifghabnmeaa.Pure
