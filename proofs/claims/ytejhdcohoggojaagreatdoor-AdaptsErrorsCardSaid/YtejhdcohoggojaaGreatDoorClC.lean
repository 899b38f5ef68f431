/- Closed facts on the program, a few a text. By an AI agent. -/
import Derived.Test.YtejhdcohoggojaaGreatDoorClA
set_option maxRecDepth 100000
namespace Go.Proofs.YtejhdcohoggojaaGreatDoor.fnAdaptsErrors
open Go
theorem k13:(Rows.adaptsErrorsRow.named == Tryz.pinned.checked.prog.varsNamed 3)=true:=by
  unfold Program.varsNamed
  rw[clo]
  kernel_rfl
end Go.Proofs.YtejhdcohoggojaaGreatDoor.fnAdaptsErrors
