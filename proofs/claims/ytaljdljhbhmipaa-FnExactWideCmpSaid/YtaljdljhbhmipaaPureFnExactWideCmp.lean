/- For every two pairs of whole numbers the program's WideCmp answers what the reference's WideCmp answers. -/
import Derived.Test.YtaljdljhbhmipaaPFnExactWideCmpx1
import Derived.Test.YtaljdljhbhmipaaMath
import Derived.Test.YtaljdljhbhmipaaOpen
namespace Go.Proofs.Ytaljdljhbhmipaa.Pure
open Go.RowKit Go.Proofs.Ytaljdljhbhmipaa.PFnExactWideCmp Go.Proofs.YtaljdljhbhmipaaW.PrintWords Go.Proofs.YtaljdljhbhmipaaW.PrintLast Go.Proofs.YtaljdljhbhmipaaW.PrintMore
set_option linter.unusedVariables false

def cmp (a b : Int) : Int := if a < b then -1 else if a > b then 1 else 0
theorem spec_l04Cmp_is (a b : Int) : spec_l04Cmp.f a b = some (cmp a b) := by
  unfold spec_l04Cmp.f cmp
  split
  · rfl
  · split <;> rfl
theorem impl_compare_is (a b : Int) : impl_compare.f a b = some (cmp a b) := by
  unfold impl_compare.f cmp
  split
  · rfl
  · split <;> rfl
def wcmp (a b c d : Int) : Int := if a = c then cmp b d else cmp a c
theorem spec_WideCmp_is (a b c d : Int) : spec_WideCmp.f a b c d = some (wcmp a b c d) := by
  unfold spec_WideCmp.f wcmp
  rw [spec_l04Cmp_is, spec_l04Cmp_is]
  simp only [Option.bind_some]
  by_cases h : a = c
  · have : cmp a c = 0 := by unfold cmp; rw [if_neg (by omega), if_neg (by omega)]
    rw [if_pos this, if_pos h]
  · have : ¬ cmp a c = 0 := by
      unfold cmp
      split
      · decide
      · rw [if_pos (by omega)]
        decide
    rw [if_neg this, if_neg h]
theorem impl_WideCmp_is (a b c d : Int) : impl_WideCmp.f a b c d = some (wcmp a b c d) := by
  unfold impl_WideCmp.f wcmp
  rw [impl_compare_is, impl_compare_is]
  simp only [Option.bind_some]
  split <;> rfl
theorem FnExactWideCmp : ∀ a b c d : Int, Open.i64ok a → Open.i64ok b → Open.i64ok c → Open.i64ok d → laws_FnExactWideCmp.f a b c d = some true := by
  intro a b c d _ _ _ _
  unfold laws_FnExactWideCmp.f laws_toWide.f
  simp [spec_WideCmp_is, impl_WideCmp_is]
end Go.Proofs.Ytaljdljhbhmipaa.Pure
