/- For every two whole numbers the program's Stricter answers what the reference's Stricter answers. -/
import Derived.Test.YtofoedbppeigoaaPFnExactStricterx1
namespace Go.Proofs.Ytofoedbppeigoaa.Pure
open Go.RowKit Go.Proofs.Ytofoedbppeigoaa.PFnExactStricter Go.Proofs.YtofoedbppeigoaaW.PrintWords Go.Proofs.YtofoedbppeigoaaW.PrintLast

theorem FnExactStricter : laws_FnExactStricter.Pure := by
  intro a b _ _
  have e : impl_Stricter.f a b = spec_Stricter.f a b := rfl
  have w : ∀ x y z, ∃ r, spec_l01In.f x y z = some r := by
    intro x y z
    unfold spec_l01In.f
    split <;> exact ⟨_, rfl⟩
  have v : ∀ x, ∃ r, spec_ActionIn.f x = some r := by
    intro x
    unfold spec_ActionIn.f
    obtain ⟨r1, h1⟩ := w x 0 393215
    rw [h1]
    simp only [Option.bind_some]
    split <;> exact ⟨_, rfl⟩
  have s : ∃ r, spec_Stricter.f a b = some r := by
    unfold spec_Stricter.f
    obtain ⟨r1, h1⟩ := v a
    obtain ⟨r2, h2⟩ := v b
    rw [h1, h2]
    simp only [Option.bind_some]
    split <;> exact ⟨_, rfl⟩
  obtain ⟨r, hr⟩ := s
  unfold laws_FnExactStricter.f
  rw [e, hr]
  simp
end Go.Proofs.Ytofoedbppeigoaa.Pure
