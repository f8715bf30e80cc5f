/- Each constant of the program has the value that the document gives; no condition. -/
import Derived.Test.YtbkoifghabnmeaaPFnExactConstantsx1
namespace Go.Proofs.Ytbkoifghabnmeaa.Pure
open Go.RowKit Go.Proofs.Ytbkoifghabnmeaa.PFnExactConstants Go.Proofs.YtbkoifghabnmeaaW.PrintWords Go.Proofs.YtbkoifghabnmeaaW.PrintLast

theorem FnExactConstants : laws_FnExactConstants.Pure := by
  rfl


end Go.Proofs.Ytbkoifghabnmeaa.Pure
