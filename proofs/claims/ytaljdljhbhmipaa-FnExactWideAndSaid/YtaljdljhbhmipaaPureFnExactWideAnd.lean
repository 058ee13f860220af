/- For every two pairs of whole numbers the program's WideAnd answers what the reference's WideAnd answers. -/
import Derived.Test.YtaljdljhbhmipaaPFnExactWideAndx2
import Derived.Test.YtaljdljhbhmipaaMath
import Derived.Test.YtaljdljhbhmipaaOpen
namespace Go.Proofs.Ytaljdljhbhmipaa.Pure
open Go.RowKit Go.Proofs.Ytaljdljhbhmipaa.PFnExactWideAnd Go.Proofs.YtaljdljhbhmipaaW.PrintWords Go.Proofs.YtaljdljhbhmipaaW.PrintLast Go.Proofs.YtaljdljhbhmipaaW.PrintMore
set_option linter.unusedVariables false

theorem spec_l01In_is (a lo hi : Int) : spec_l01In.f a lo hi = some (decide (lo ≤ a ∧ a ≤ hi)) := by
  unfold spec_l01In.f
  by_cases h : a ≥ lo
  · rw [if_pos h]
    by_cases h2 : a ≤ hi
    · simp [h, h2]
    · simp [h2]
  · rw [if_neg h]
    have : ¬ lo ≤ a := h
    simp [this]
theorem impl_within_is (a lo hi : Int) : impl_within.f a lo hi = some (decide (lo ≤ a ∧ a ≤ hi)) := by
  unfold impl_within.f
  by_cases h : a ≥ lo
  · rw [if_pos h]
    by_cases h2 : a ≤ hi
    · simp [h, h2]
    · simp [h2]
  · rw [if_neg h]
    have : ¬ lo ≤ a := h
    simp [this]
theorem spec_HalfOk_is (a : Int) : spec_HalfOk.f a = some (decide (0 ≤ a ∧ a ≤ 4294967295)) := by unfold spec_HalfOk.f; rw [spec_l01In_is]; rfl
theorem impl_HalfOk_is (a : Int) : impl_HalfOk.f a = some (decide (0 ≤ a ∧ a ≤ 4294967295)) := by unfold impl_HalfOk.f; rw [impl_within_is]; rfl
def wideOk (a b : Int) : Bool := decide (0 ≤ a ∧ a ≤ 4294967295) && decide (0 ≤ b ∧ b ≤ 4294967295)
theorem spec_WideOk_is (a b : Int) : spec_WideOk.f a b = some (wideOk a b) := by
  unfold spec_WideOk.f wideOk
  rw [spec_HalfOk_is, spec_HalfOk_is]
  by_cases h : 0 ≤ a ∧ a ≤ 4294967295 <;> simp [h]
theorem impl_WideOk_is (a b : Int) : impl_WideOk.f a b = some (wideOk a b) := by
  unfold impl_WideOk.f wideOk
  rw [impl_HalfOk_is, impl_HalfOk_is]
  by_cases h : 0 ≤ a ∧ a ≤ 4294967295 <;> simp [h]
def wand (a b c d : Int) : Int × Int := if wideOk a b = true ∧ wideOk c d = true then (Go.bits .and .i64 a c, Go.bits .and .i64 b d) else (0, 0)
theorem spec_WideAnd_is (a b c d : Int) : spec_WideAnd.f a b c d = some (wand a b c d) := by
  unfold spec_WideAnd.f wand
  rw [spec_WideOk_is, spec_WideOk_is]
  simp only [Option.bind_some]
  by_cases h : wideOk a b = true
  · by_cases h2 : wideOk c d = true
    · rw [if_pos h, if_pos h2, if_pos ⟨h, h2⟩]
    · rw [if_pos h, if_neg h2, if_neg (fun e => h2 e.2)]
  · rw [if_neg h, if_neg (fun e => h e.1)]
theorem impl_WideAnd_is (a b c d : Int) : impl_WideAnd.f a b c d = some (wand a b c d) := by
  unfold impl_WideAnd.f wand
  rw [impl_WideOk_is, impl_WideOk_is]
  simp only [Option.bind_some]
  by_cases h : wideOk a b = true
  · by_cases h2 : wideOk c d = true
    · rw [if_pos h, if_pos h2, if_pos ⟨h, h2⟩]
    · rw [if_pos h, if_neg h2, if_neg (fun e => h2 e.2)]
  · rw [if_neg h, if_neg (fun e => h e.1)]
theorem FnExactWideAnd : ∀ a b c d : Int, Open.i64ok a → Open.i64ok b → Open.i64ok c → Open.i64ok d → laws_FnExactWideAnd.f a b c d = some true := by
  intro a b c d _ _ _ _
  unfold laws_FnExactWideAnd.f laws_toWide.f laws_eqWide.f
  simp [spec_WideAnd_is, impl_WideAnd_is]
end Go.Proofs.Ytaljdljhbhmipaa.Pure
