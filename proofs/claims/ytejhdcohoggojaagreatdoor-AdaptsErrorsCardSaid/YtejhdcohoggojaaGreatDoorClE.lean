/- Closed facts on the program, a few a text. By an AI agent. -/
import Derived.Test.YtejhdcohoggojaaGreatDoorRows
import Derived.KernelRfl
import GoSem.ClaimDataLaid
set_option maxRecDepth 100000
namespace Go.Proofs.YtejhdcohoggojaaGreatDoor.fnAdaptsErrors
open Go
theorem layS:Tryz.pinned.checked.prog.types.size=730:=by kernel_rfl
theorem layG:(Tryz.pinned.checked.prog.globals.all (fun g=>decide (g.type<Tryz.pinned.checked.prog.types.size)))=true:=by kernel_rfl
theorem layF:(Tryz.pinned.checked.prog.funcs.all (fun f=>f.params.all fun t=>decide (t<Tryz.pinned.checked.prog.types.size)))=true:=by kernel_rfl
end Go.Proofs.YtejhdcohoggojaaGreatDoor.fnAdaptsErrors
