/- What the kit's print wrote of the functions of FnDigestTurned, with make([]T, 0, c) added to it by this session (Kd.R_makecap of YtfjhfmfeblcnhaaDoorCap). -/
import Derived.Test.YtfjhfmfeblcnhaaDoorCap
import Derived.Test.YtfjhfmfeblcnhaaDoorProg
import Derived.Test.YtfjhfmfeblcnhaaDoorWWords
import Derived.Test.YtfjhfmfeblcnhaaDoorWLast
import Derived.Test.YtfjhfmfeblcnhaaDoorWTab
import Derived.Test.YtfjhfmfeblcnhaaDoorWFour
import Derived.Test.YtfjhfmfeblcnhaaDoorWQPut
import Derived.Test.YtfjhfmfeblcnhaaDoorWApart
import Derived.Test.YtfjhfmfeblcnhaaDoorWArr
import Derived.Test.YtfjhfmfeblcnhaaDoorWZeros
import Derived.Test.YtfjhfmfeblcnhaaDoorWFoot
import Derived.Test.YtfjhfmfeblcnhaaDoorWKept
import Derived.Test.YtfjhfmfeblcnhaaDoorWShare
import Derived.Test.YtfjhfmfeblcnhaaDoorWN
import Derived.Test.YtfjhfmfeblcnhaaDoorWFootNe
import Derived.Test.YtfjhfmfeblcnhaaDoorWAt
import Derived.Test.YtfjhfmfeblcnhaaDoorWEqStruct
import Derived.Test.YtfjhfmfeblcnhaaDoorWRepsOne
import Derived.Test.YtfjhfmfeblcnhaaDoorWInv
import Derived.Test.YtfjhfmfeblcnhaaDoorWInvWords
import Derived.Test.YtfjhfmfeblcnhaaDoorWGuard
import Derived.Test.YtfjhfmfeblcnhaaDoorWNEv
import Derived.Test.YtfjhfmfeblcnhaaDoorWMore
namespace Go.Proofs.YtfjhfmfeblcnhaaDoor.PFnDigestTurned
open Go.RowKit Go.Proofs.YtfjhfmfeblcnhaaDoorW.PrintWords Go.Proofs.YtfjhfmfeblcnhaaDoorW.PrintLast Go.Proofs.YtfjhfmfeblcnhaaDoorW.PrintMore
attribute [local go_sem] max2_int min2_int max_two min_two max_three min_three max_four min_four   -- for this text's walks alone
set_option linter.unusedVariables false
set_option linter.unusedSimpArgs false



def errW : Option Int → Value
  | none => .nilIface
  | some c => .iface 0 (.int .i64 c)
theorem errW_none : errW none = .nilIface := rfl
theorem errW_some (c : Int) : errW (some c) = .iface 0 (.int .i64 c) := rfl

theorem info3 : (Tryd.prog.info? 3).map (fun i => (i.zero, i.size, i.bytes)) = some (some (.int .i64 0), 1, 8) := by kernel_rfl
theorem info5 : (Tryd.prog.info? 5).map (fun i => (i.zero, i.size, i.bytes)) = some (some (.int .u8 0), 1, 1) := by kernel_rfl
-- the values' own types

end Go.Proofs.YtfjhfmfeblcnhaaDoor.PFnDigestTurned
