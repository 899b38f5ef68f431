/- Closed facts on the program. By an AI agent. -/
import Derived.Test.YtdadideknhmbbaaGreatDoorRows
import Derived.KernelRfl
import Derived.JoinedOf
set_option maxRecDepth 100000
namespace Go.Proofs.YtdadideknhmbbaaGreatDoor.fnAdaptsStep
open Go
noncomputable abbrev P:=Tryz.pinned.checked.prog
abbrev R:=Rows.adaptsStepRow
theorem k2:(laidOutB P)=true:=by kernel_rfl
theorem k10:(R.inPlace==P.inPlace 3)=true:=by kernel_rfl
theorem k11:(R.unfollowed==P.unfollowed 3)=true:=by kernel_rfl
theorem k12:(R.recurses==P.recurses 3)=true:=by kernel_rfl
theorem k13:(R.named==P.varsNamed 3)=true:=by kernel_rfl
theorem at2{a b:Bool}(h:a=true)(g:b=true): (a&&b)=true:=by rw[h,g];rfl
theorem joined:joinedFacts P 3 Tryz.f3 (OpenSpec.ofChange Rows.adaptsStepSpec).bare R=true:=by
 unfold joinedFacts;refine at2 (at2 (at2 (at2 (at2 (at2 (at2 (at2 (at2 (at2 (at2 (at2 (at2 (at2 (at2 (at2 (at2 (at2 (at2 (at2 (at2 (at2 (at2 (at2 (at2 (at2 (at2 (at2 (at2 (at2 (at2 ?_ k2) ?_) ?_) ?_) ?_) ?_) ?_) ?_) k10) k11) k12) k13) ?_) ?_) ?_) ?_) ?_) ?_) ?_) ?_) ?_) ?_) ?_) ?_) ?_) ?_) ?_) ?_) ?_) ?_) ?_
 all_goals kernel_rfl
end Go.Proofs.YtdadideknhmbbaaGreatDoor.fnAdaptsStep
