/- For every whole number the program's ActionIn answers what the reference's ActionIn answers. -/
import Derived.Test.YtofoedbppeigoaaPFnExactActionInx1
namespace Go.Proofs.Ytofoedbppeigoaa.Pure
open Go.RowKit Go.Proofs.Ytofoedbppeigoaa.PFnExactActionIn Go.Proofs.YtofoedbppeigoaaW.PrintWords Go.Proofs.YtofoedbppeigoaaW.PrintLast

theorem FnExactActionIn : laws_FnExactActionIn.Pure := by
  intro a _
  have e : impl_ActionIn.f a = spec_ActionIn.f a := rfl
  have s : ∃ r, spec_ActionIn.f a = some r := by
    unfold spec_ActionIn.f spec_l01In.f
    split <;> simp only [Option.bind_some] <;> split <;> exact ⟨_, rfl⟩
  obtain ⟨r, hr⟩ := s
  unfold laws_FnExactActionIn.f
  rw [e, hr]
  simp
end Go.Proofs.Ytofoedbppeigoaa.Pure
