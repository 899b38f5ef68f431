/- Closed facts on the program, a few a text. By an AI agent. -/
import Derived.Test.YtejhdcohoggojaaGreatDoorClA
set_option maxRecDepth 100000
namespace Go.Proofs.YtejhdcohoggojaaGreatDoor.fnAdaptsErrors
open Go
theorem unf:Tryz.pinned.checked.prog.unfollowed 3=true:=by
  unfold Program.unfollowed
  rw[clo]
  kernel_rfl
theorem k10:(Rows.adaptsErrorsRow.inPlace == Tryz.pinned.checked.prog.inPlace 3)=true:=by
  unfold Program.inPlace
  rw[clo]
  kernel_rfl
theorem k11:(Rows.adaptsErrorsRow.unfollowed == Tryz.pinned.checked.prog.unfollowed 3)=true:=by rw[unf];rfl
theorem k12:(Rows.adaptsErrorsRow.recurses == Tryz.pinned.checked.prog.recurses 3)=true:=by unfold Program.recurses;rw[unf];rfl
end Go.Proofs.YtejhdcohoggojaaGreatDoor.fnAdaptsErrors
