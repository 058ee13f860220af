/- What the kit's print wrote of the functions of FnExactUnhex, with make([]T, 0, c) added to it by this session (Kd.R_makecap of YtaljdljhbhmipaaCap). -/
import Derived.Test.YtaljdljhbhmipaaCap
import Derived.Test.YtaljdljhbhmipaaProg
import Derived.Test.YtaljdljhbhmipaaWWords
import Derived.Test.YtaljdljhbhmipaaWLast
import Derived.Test.YtaljdljhbhmipaaWTab
import Derived.Test.YtaljdljhbhmipaaWFour
import Derived.Test.YtaljdljhbhmipaaWQPut
import Derived.Test.YtaljdljhbhmipaaWApart
import Derived.Test.YtaljdljhbhmipaaWArr
import Derived.Test.YtaljdljhbhmipaaWZeros
import Derived.Test.YtaljdljhbhmipaaWFoot
import Derived.Test.YtaljdljhbhmipaaWKept
import Derived.Test.YtaljdljhbhmipaaWShare
import Derived.Test.YtaljdljhbhmipaaWN
import Derived.Test.YtaljdljhbhmipaaWFootNe
import Derived.Test.YtaljdljhbhmipaaWAt
import Derived.Test.YtaljdljhbhmipaaWEqStruct
import Derived.Test.YtaljdljhbhmipaaWRepsOne
import Derived.Test.YtaljdljhbhmipaaWInv
import Derived.Test.YtaljdljhbhmipaaWInvWords
import Derived.Test.YtaljdljhbhmipaaWGuard
import Derived.Test.YtaljdljhbhmipaaWNEv
import Derived.Test.YtaljdljhbhmipaaWMore
namespace Go.Proofs.Ytaljdljhbhmipaa.PFnExactUnhex
open Go.RowKit Go.Proofs.YtaljdljhbhmipaaW.PrintWords Go.Proofs.YtaljdljhbhmipaaW.PrintLast Go.Proofs.YtaljdljhbhmipaaW.PrintMore
attribute [local go_sem] max2_int min2_int max_two min_two max_three min_three max_four min_four   -- for this text's walks alone
set_option linter.unusedVariables false
set_option linter.unusedSimpArgs false



def errW : Option Int → Value
  | none => .nilIface
  | some c => .iface 0 (.int .i64 c)
theorem errW_none : errW none = .nilIface := rfl
theorem errW_some (c : Int) : errW (some c) = .iface 0 (.int .i64 c) := rfl

theorem info5 : (Try.prog.info? 5).map (fun i => (i.zero, i.size, i.bytes)) = some (some (.int .u8 0), 1, 1) := by kernel_rfl
-- the values' own types

end Go.Proofs.Ytaljdljhbhmipaa.PFnExactUnhex
