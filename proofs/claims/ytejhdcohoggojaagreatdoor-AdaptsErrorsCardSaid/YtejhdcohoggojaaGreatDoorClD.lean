/- Closed facts on the program, a few a text. By an AI agent. -/
import Derived.Test.YtejhdcohoggojaaGreatDoorRows
import Derived.KernelRfl
import GoSem.ClaimDataLaid
set_option maxRecDepth 100000
namespace Go.Proofs.YtejhdcohoggojaaGreatDoor.fnAdaptsErrors
open Go
theorem layR:((List.range 730).all (rowFine Tryz.pinned.checked.prog))=true:=by kernel_rfl
end Go.Proofs.YtejhdcohoggojaaGreatDoor.fnAdaptsErrors
