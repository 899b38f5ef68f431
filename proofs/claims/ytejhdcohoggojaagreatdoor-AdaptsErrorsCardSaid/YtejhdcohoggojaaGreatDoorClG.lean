/- Closed facts on the program, a few a text. By an AI agent. -/
import Derived.Test.YtejhdcohoggojaaGreatDoorRows
import Derived.KernelRfl
import GoSem.ClaimSeven
set_option maxRecDepth 100000
namespace Go.Proofs.YtejhdcohoggojaaGreatDoor.fnAdaptsErrors
open Go
theorem cfLooks:false=Tryz.pinned.checked.prog.looks []:=by kernel_rfl
end Go.Proofs.YtejhdcohoggojaaGreatDoor.fnAdaptsErrors
