/- For every two whole numbers the program's ResultOf answers what the reference's ResultOf answers. -/
import Derived.Test.YtofoedbppeigoaaPFnExactResultOfx1
namespace Go.Proofs.Ytofoedbppeigoaa.Pure
open Go.RowKit Go.Proofs.Ytofoedbppeigoaa.PFnExactResultOf Go.Proofs.YtofoedbppeigoaaW.PrintWords Go.Proofs.YtofoedbppeigoaaW.PrintLast

theorem FnExactResultOf : laws_FnExactResultOf.Pure := by
  intro a b _ _
  have e : impl_ResultOf.f a b = spec_ResultOf.f a b := rfl
  have w : ∀ x y z, ∃ r, spec_l01In.f x y z = some r := by
    intro x y z
    unfold spec_l01In.f
    split <;> exact ⟨_, rfl⟩
  have s : ∃ r, spec_ResultOf.f a b = some r := by
    unfold spec_ResultOf.f
    obtain ⟨r1, h1⟩ := w a 0 5
    obtain ⟨r2, h2⟩ := w b 0 65535
    rw [h1, h2]
    simp only [Option.bind_some]
    split <;> (try split) <;> exact ⟨_, rfl⟩
  obtain ⟨r, hr⟩ := s
  unfold laws_FnExactResultOf.f
  rw [e, hr]
  simp
end Go.Proofs.Ytofoedbppeigoaa.Pure
