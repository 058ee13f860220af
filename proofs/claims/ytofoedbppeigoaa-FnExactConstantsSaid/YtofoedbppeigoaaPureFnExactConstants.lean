/- Every exported constant of the program has the number that the reference's text gives it. -/
import Derived.Test.YtofoedbppeigoaaPFnExactConstantsx1
namespace Go.Proofs.Ytofoedbppeigoaa.Pure
open Go.RowKit Go.Proofs.Ytofoedbppeigoaa.PFnExactConstants Go.Proofs.YtofoedbppeigoaaW.PrintWords Go.Proofs.YtofoedbppeigoaaW.PrintLast

theorem FnExactConstants : laws_FnExactConstants.Pure := by
  rfl
end Go.Proofs.Ytofoedbppeigoaa.Pure
