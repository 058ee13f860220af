/- What the kit's print wrote of the functions of FnExactPadText, with make([]T, 0, c) added to it by this session (Kd.R_makecap of YtofoedbppeigoaaCap). -/
import Derived.Test.YtofoedbppeigoaaCap
import Derived.Test.YtofoedbppeigoaaProg
import Derived.Test.YtofoedbppeigoaaWWords
import Derived.Test.YtofoedbppeigoaaWLast
import Derived.Test.YtofoedbppeigoaaWTab
import Derived.Test.YtofoedbppeigoaaWFour
import Derived.Test.YtofoedbppeigoaaWQPut
import Derived.Test.YtofoedbppeigoaaWApart
import Derived.Test.YtofoedbppeigoaaWArr
import Derived.Test.YtofoedbppeigoaaWZeros
import Derived.Test.YtofoedbppeigoaaWFoot
import Derived.Test.YtofoedbppeigoaaWKept
import Derived.Test.YtofoedbppeigoaaWShare
import Derived.Test.YtofoedbppeigoaaWN
import Derived.Test.YtofoedbppeigoaaWFootNe
import Derived.Test.YtofoedbppeigoaaWAt
import Derived.Test.YtofoedbppeigoaaWEqStruct
import Derived.Test.YtofoedbppeigoaaWRepsOne
import Derived.Test.YtofoedbppeigoaaWInv
import Derived.Test.YtofoedbppeigoaaWInvWords
import Derived.Test.YtofoedbppeigoaaWGuard
import Derived.Test.YtofoedbppeigoaaWNEv
import Derived.Test.YtofoedbppeigoaaWMore
namespace Go.Proofs.Ytofoedbppeigoaa.PFnExactPadText
open Go.RowKit Go.Proofs.YtofoedbppeigoaaW.PrintWords Go.Proofs.YtofoedbppeigoaaW.PrintLast Go.Proofs.YtofoedbppeigoaaW.PrintMore
attribute [local go_sem] max2_int min2_int max_two min_two max_three min_three max_four min_four   -- for this text's walks alone
set_option linter.unusedVariables false
set_option linter.unusedSimpArgs false



def errW : Option Int → Value
  | none => .nilIface
  | some c => .iface 0 (.int .i64 c)
theorem errW_none : errW none = .nilIface := rfl
theorem errW_some (c : Int) : errW (some c) = .iface 0 (.int .i64 c) := rfl

theorem info5 : (Try.prog.info? 5).map (fun i => (i.zero, i.size, i.bytes)) = some (some (.int .u8 0), 1, 1) := by kernel_rfl
-- the values' own types

end Go.Proofs.Ytofoedbppeigoaa.PFnExactPadText
