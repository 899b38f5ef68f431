/- Closed facts on the program, a few a text. By an AI agent. -/
import Derived.Test.YtejhdcohoggojaaGreatDoorRows
import Derived.KernelRfl
import GoSem.ClaimSeven
import Derived.OpenShut
set_option maxRecDepth 100000
namespace Go.Proofs.YtejhdcohoggojaaGreatDoor.fnAdaptsErrors
open Go
theorem cfNamed : Tryz.pinned.checked.prog.funcNamed "gusset/gussetlaw44.AdaptsErrors" = some 3 := by kernel_rfl
theorem cfStand3:Tryz.pinned.checked.prog.wantsStandIn 3=false:=by kernel_rfl
theorem cfStand33:Tryz.pinned.checked.prog.wantsStandIn 33=false:=by kernel_rfl
theorem cfStand36:Tryz.pinned.checked.prog.wantsStandIn 36=false:=by kernel_rfl
theorem own:ownKnob Tryz.prog.godebug=none:=by kernel_rfl
end Go.Proofs.YtejhdcohoggojaaGreatDoor.fnAdaptsErrors
