/- For every whole number the program's ActionName answers what the reference's ActionName answers. -/
import Derived.Test.YtofoedbppeigoaaPFnExactActionNamex1
namespace Go.Proofs.Ytofoedbppeigoaa.Pure
open Go.RowKit Go.Proofs.Ytofoedbppeigoaa.PFnExactActionName Go.Proofs.YtofoedbppeigoaaW.PrintWords Go.Proofs.YtofoedbppeigoaaW.PrintLast

theorem FnExactActionName : laws_FnExactActionName.Pure := by
  intro a _
  have e : impl_ActionName.f a = spec_ActionName.f a := rfl
  have s : ∃ r, spec_ActionName.f a = some r := by
    unfold spec_ActionName.f spec_l01In.f spec_l05Names.f
    by_cases h : a ≥ 0
    · rw [if_pos h]
      simp only [Option.bind_some, decide_eq_true_eq]
      by_cases h2 : a ≤ 5
      · rw [if_pos h2, if_pos h, if_pos (by simp; omega)]
        exact ⟨_, rfl⟩
      · rw [if_neg h2]
        exact ⟨_, rfl⟩
    · rw [if_neg h]
      exact ⟨_, rfl⟩
  obtain ⟨r, hr⟩ := s
  unfold laws_FnExactActionName.f
  rw [e, hr]
  simp
end Go.Proofs.Ytofoedbppeigoaa.Pure
