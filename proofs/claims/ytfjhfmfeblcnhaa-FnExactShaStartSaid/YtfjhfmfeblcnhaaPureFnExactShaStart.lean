/- ShaStart: the program's and the reference's tell the same eight words, in memory of their own. -/
import Derived.Test.YtfjhfmfeblcnhaaOFnExactShaStartx1
namespace Go.Proofs.Ytfjhfmfeblcnhaa.Pure
open Go.RowKit Go.Proofs.Ytfjhfmfeblcnhaa.PFnExactShaStart
theorem FnExactShaStart : laws_FnExactShaStart.Pure := ⟨20, by kernel_rfl⟩
end Go.Proofs.Ytfjhfmfeblcnhaa.Pure
