/- What the kit's print wrote of the functions of FnExactShaStart, with make([]T, 0, c) added to it by this session (Kd.R_makecap of YtfjhfmfeblcnhaaCap). -/
import Derived.Test.YtfjhfmfeblcnhaaCap
import Derived.Test.YtfjhfmfeblcnhaaProg
import Derived.Test.YtfjhfmfeblcnhaaWWords
import Derived.Test.YtfjhfmfeblcnhaaWLast
import Derived.Test.YtfjhfmfeblcnhaaWTab
import Derived.Test.YtfjhfmfeblcnhaaWFour
import Derived.Test.YtfjhfmfeblcnhaaWQPut
import Derived.Test.YtfjhfmfeblcnhaaWApart
import Derived.Test.YtfjhfmfeblcnhaaWArr
import Derived.Test.YtfjhfmfeblcnhaaWZeros
import Derived.Test.YtfjhfmfeblcnhaaWFoot
import Derived.Test.YtfjhfmfeblcnhaaWKept
import Derived.Test.YtfjhfmfeblcnhaaWShare
import Derived.Test.YtfjhfmfeblcnhaaWN
import Derived.Test.YtfjhfmfeblcnhaaWFootNe
import Derived.Test.YtfjhfmfeblcnhaaWAt
import Derived.Test.YtfjhfmfeblcnhaaWEqStruct
import Derived.Test.YtfjhfmfeblcnhaaWRepsOne
import Derived.Test.YtfjhfmfeblcnhaaWInv
import Derived.Test.YtfjhfmfeblcnhaaWInvWords
import Derived.Test.YtfjhfmfeblcnhaaWGuard
import Derived.Test.YtfjhfmfeblcnhaaWNEv
import Derived.Test.YtfjhfmfeblcnhaaWMore
namespace Go.Proofs.Ytfjhfmfeblcnhaa.PFnExactShaStart
open Go.RowKit Go.Proofs.YtfjhfmfeblcnhaaW.PrintWords Go.Proofs.YtfjhfmfeblcnhaaW.PrintLast Go.Proofs.YtfjhfmfeblcnhaaW.PrintMore
attribute [local go_sem] max2_int min2_int max_two min_two max_three min_three max_four min_four   -- for this text's walks alone
set_option linter.unusedVariables false
set_option linter.unusedSimpArgs false



def errW : Option Int → Value
  | none => .nilIface
  | some c => .iface 0 (.int .i64 c)
theorem errW_none : errW none = .nilIface := rfl
theorem errW_some (c : Int) : errW (some c) = .iface 0 (.int .i64 c) := rfl

theorem info3 : (Try.prog.info? 3).map (fun i => (i.zero, i.size, i.bytes)) = some (some (.int .i64 0), 1, 8) := by kernel_rfl
-- the values' own types

end Go.Proofs.Ytfjhfmfeblcnhaa.PFnExactShaStart
