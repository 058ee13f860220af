/- For every pair of whole numbers the program's WideOk answers what the reference's WideOk answers. -/
import Derived.Test.YtofoedbppeigoaaPFnExactWideOkx1
import Derived.Test.YtofoedbppeigoaaMath
import Derived.Test.YtofoedbppeigoaaOpen
namespace Go.Proofs.Ytofoedbppeigoaa.Pure
open Go.RowKit Go.Proofs.Ytofoedbppeigoaa.PFnExactWideOk Go.Proofs.YtofoedbppeigoaaW.PrintWords Go.Proofs.YtofoedbppeigoaaW.PrintLast Go.Proofs.YtofoedbppeigoaaW.PrintMore
set_option linter.unusedVariables false

theorem spec_l01In_is (a lo hi : Int) : spec_l01In.f a lo hi = some (decide (lo ≤ a ∧ a ≤ hi)) := by
  unfold spec_l01In.f
  by_cases h : a ≥ lo
  · rw [if_pos h]
    by_cases h2 : a ≤ hi
    · simp [h, h2]
    · simp [h2]
  · rw [if_neg h]
    have : ¬ lo ≤ a := h
    simp [this]
theorem impl_within_is (a lo hi : Int) : impl_within.f a lo hi = some (decide (lo ≤ a ∧ a ≤ hi)) := by
  unfold impl_within.f
  by_cases h : a ≥ lo
  · rw [if_pos h]
    by_cases h2 : a ≤ hi
    · simp [h, h2]
    · simp [h2]
  · rw [if_neg h]
    have : ¬ lo ≤ a := h
    simp [this]
theorem spec_HalfOk_is (a : Int) : spec_HalfOk.f a = some (decide (0 ≤ a ∧ a ≤ 4294967295)) := by unfold spec_HalfOk.f; rw [spec_l01In_is]; rfl
theorem impl_HalfOk_is (a : Int) : impl_HalfOk.f a = some (decide (0 ≤ a ∧ a ≤ 4294967295)) := by unfold impl_HalfOk.f; rw [impl_within_is]; rfl
def wideOk (a b : Int) : Bool := decide (0 ≤ a ∧ a ≤ 4294967295) && decide (0 ≤ b ∧ b ≤ 4294967295)
theorem spec_WideOk_is (a b : Int) : spec_WideOk.f a b = some (wideOk a b) := by
  unfold spec_WideOk.f wideOk
  rw [spec_HalfOk_is, spec_HalfOk_is]
  by_cases h : 0 ≤ a ∧ a ≤ 4294967295 <;> simp [h]
theorem impl_WideOk_is (a b : Int) : impl_WideOk.f a b = some (wideOk a b) := by
  unfold impl_WideOk.f wideOk
  rw [impl_HalfOk_is, impl_HalfOk_is]
  by_cases h : 0 ≤ a ∧ a ≤ 4294967295 <;> simp [h]
theorem FnExactWideOk : ∀ a b : Int, Open.i64ok a → Open.i64ok b → laws_FnExactWideOk.f a b = some true := by
  intro a b _ _
  unfold laws_FnExactWideOk.f laws_toWide.f
  simp [spec_WideOk_is, impl_WideOk_is]
end Go.Proofs.Ytofoedbppeigoaa.Pure
