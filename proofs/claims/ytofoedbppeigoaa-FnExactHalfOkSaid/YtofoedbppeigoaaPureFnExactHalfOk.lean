/- For every whole number the program's HalfOk answers what the reference's HalfOk answers. -/
import Derived.Test.YtofoedbppeigoaaPFnExactHalfOkx1
namespace Go.Proofs.Ytofoedbppeigoaa.Pure
open Go.RowKit Go.Proofs.Ytofoedbppeigoaa.PFnExactHalfOk Go.Proofs.YtofoedbppeigoaaW.PrintWords Go.Proofs.YtofoedbppeigoaaW.PrintLast

theorem FnExactHalfOk : laws_FnExactHalfOk.Pure := by
  intro a _
  unfold laws_FnExactHalfOk.f spec_HalfOk.f impl_HalfOk.f spec_l01In.f impl_within.f
  split <;> simp
end Go.Proofs.Ytofoedbppeigoaa.Pure
