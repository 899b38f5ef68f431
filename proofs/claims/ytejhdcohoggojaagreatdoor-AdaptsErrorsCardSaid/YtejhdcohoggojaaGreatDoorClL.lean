/- Closed facts on the program, a few a text. By an AI agent. -/
import Derived.Test.YtejhdcohoggojaaGreatDoorClB
import Derived.Test.YtejhdcohoggojaaGreatDoorClC
import Derived.Test.YtejhdcohoggojaaGreatDoorClD
import Derived.Test.YtejhdcohoggojaaGreatDoorClE
import Derived.Test.YtejhdcohoggojaaGreatDoorClF
import Derived.Test.YtejhdcohoggojaaGreatDoorClG
import Derived.Test.YtejhdcohoggojaaGreatDoorClH
import Derived.Test.YtejhdcohoggojaaGreatDoorClI
import Derived.Test.YtejhdcohoggojaaGreatDoorClJ
import Derived.Test.YtejhdcohoggojaaGreatDoorClK
set_option maxRecDepth 100000
namespace Go.Proofs.YtejhdcohoggojaaGreatDoor.fnAdaptsErrors
open Go
theorem laidOut:laidOutB Tryz.pinned.checked.prog=true:=by
  unfold laidOutB
  rw[layS] at *
  exact Bool.and_eq_true_iff.2 ⟨Bool.and_eq_true_iff.2 ⟨layR,by have:=layG;rw[layS] at this;exact this⟩,by have:=layF;rw[layS] at this;exact this⟩
theorem goes_of{P:Program}(h:P.funcs.any Func.goes=false)(f:FuncId): P.goes f=false:=by
  unfold Program.goes
  rw[h,Bool.and_false,Bool.or_false,List.any_eq_false]
  intro g _
  cases hg:P.funcs[g]? with
  | none=>simp
  | some fn =>
    rw[Option.any_some]
    intro e
    obtain ⟨hl,he⟩:=Array.getElem?_eq_some_iff.1 hg
    rw[Array.any_eq_false] at h
    exact h _ hl (by rw[he];exact e)
theorem cfGoes:false=Rows.adaptsErrorsRow.goesBy Tryz.pinned.checked.prog:=by
  unfold OpenClaim.goesBy Program.goesAt Program.goesFrom
  rw[show Tryz.pinned.checked.prog.funcNamed Rows.adaptsErrorsRow.func=some 3 from cfNamed,Option.any_some,goes_of noGo]
  rfl
theorem at2{a b:Bool}(h:a=true)(g:b=true): (a && b)=true:=by rw[h,g];rfl
theorem k1:(Rows.adaptsErrorsRow.wf (OpenSpec.ofChange (OpenSpec.ofChange Rows.adaptsErrorsSpec).bare))=true:=by kernel_rfl
theorem k4:(Tryz.f3.params.all (Tryz.pinned.checked.prog.readableRec ·))=true:=by kernel_rfl
theorem k5:(namedTie Tryz.pinned.checked.prog Rows.adaptsErrorsRow.named (OpenSpec.ofChange Rows.adaptsErrorsSpec).bare.vars)=true:=by kernel_rfl
theorem k6:((Rows.adaptsErrorsRow.stops == []))=true:=by kernel_rfl
theorem k7:((Tryz.pinned.checked.prog.stops == []))=true:=by kernel_rfl
theorem k8:((Rows.adaptsErrorsRow.knobs == []))=true:=by kernel_rfl
theorem k9:((Tryz.pinned.checked.prog.stopKnobs == []))=true:=by kernel_rfl
theorem k14:((Rows.adaptsErrorsRow.maps == (Tryz.f3.params.toList++(OpenSpec.ofChange Rows.adaptsErrorsSpec).bare.plain.varTypes Tryz.pinned.checked.prog).any (Tryz.pinned.checked.prog.mapsRec ·)))=true:=by kernel_rfl
theorem k15:((Rows.adaptsErrorsRow.ifaces == (Tryz.f3.params.toList++(OpenSpec.ofChange Rows.adaptsErrorsSpec).bare.plain.varTypes Tryz.pinned.checked.prog).any (Tryz.pinned.checked.prog.ifacesRec ·)))=true:=by kernel_rfl
theorem k16:((Rows.adaptsErrorsRow.mapsOut == Tryz.pinned.checked.prog.mapsAmong Tryz.f3.resultTypes.toList))=true:=by kernel_rfl
theorem k17:((Rows.adaptsErrorsRow.loops == (Tryz.f3.params.toList++(OpenSpec.ofChange Rows.adaptsErrorsSpec).bare.plain.varTypes Tryz.pinned.checked.prog).any (Tryz.pinned.checked.prog.loopsFrom ·)))=true:=by kernel_rfl
theorem k18:((Rows.adaptsErrorsRow.wideKeys == (Tryz.f3.params.toList++(OpenSpec.ofChange Rows.adaptsErrorsSpec).bare.plain.varTypes Tryz.pinned.checked.prog++Tryz.f3.resultTypes.toList).any (Tryz.pinned.checked.prog.wideKeysFrom ·)))=true:=by kernel_rfl
theorem k19:((OpenSpec.ofChange Rows.adaptsErrorsSpec).bare.vars.all (Tryz.pinned.checked.prog.varReadable ·))=true:=by kernel_rfl
theorem k20:(Tryz.f3.resultTypes.all (fun t=>Tryz.pinned.checked.prog.readableRec t && decide (t<Tryz.pinned.checked.prog.types.size)))=true:=by kernel_rfl
theorem k21:((Rows.adaptsErrorsRow.ifacesOut == Tryz.f3.resultTypes.toList.any (Tryz.pinned.checked.prog.ifacesRec ·)))=true:=by kernel_rfl
theorem k22:((Rows.adaptsErrorsRow.loopsOut == Tryz.f3.resultTypes.toList.any (Tryz.pinned.checked.prog.loopsFrom ·)))=true:=by kernel_rfl
theorem k23:((Rows.adaptsErrorsRow.plainKeys == Tryz.pinned.checked.prog.plainKeys))=true:=by kernel_rfl
theorem k24:(Rows.adaptsErrorsRow.shortTexts.isNone)=true:=by kernel_rfl
theorem k27:((Rows.adaptsErrorsRow.lifted == Tryz.pinned.checked.prog.liftsFinal))=true:=by kernel_rfl
theorem k28:((Tryz.pinned.checked.prog.make == some Rows.adaptsErrorsRow.make))=true:=by kernel_rfl
theorem k29:((Rows.adaptsErrorsRow.kinds == (if Rows.adaptsErrorsRow.domain.isEmpty then [] else Tryz.f3.params.toList.map fun t=>match Tryz.pinned.checked.prog.underlying t with|some (.int k)=>some k|_=>none)))=true:=by kernel_rfl
theorem k30:((Rows.adaptsErrorsRow.pinned == Rows.adaptsErrorsRow.pinnedBy))=true:=by kernel_rfl
theorem k31:((Rows.adaptsErrorsRow.veiled == (Tryz.f3.params.toList++(OpenSpec.ofChange Rows.adaptsErrorsSpec).bare.plain.varTypes Tryz.pinned.checked.prog++Tryz.f3.resultTypes.toList).any (Tryz.pinned.checked.prog.veiledRec ·)))=true:=by kernel_rfl
theorem k32:(Rows.adaptsErrorsRow.veiledFits Tryz.pinned.checked.prog Tryz.f3.params.toList (Tryz.f3.params.toList++(OpenSpec.ofChange Rows.adaptsErrorsSpec).bare.plain.varTypes Tryz.pinned.checked.prog++Tryz.f3.resultTypes.toList))=true:=by kernel_rfl
theorem joined:joinedFacts Tryz.pinned.checked.prog 3 Tryz.f3 (OpenSpec.ofChange Rows.adaptsErrorsSpec).bare Rows.adaptsErrorsRow=true:=at2 (at2 (at2 (at2 (at2 (at2 (at2 (at2 (at2 (at2 (at2 (at2 (at2 (at2 (at2 (at2 (at2 (at2 (at2 (at2 (at2 (at2 (at2 (at2 (at2 (at2 (at2 (at2 (at2 (at2 (at2 k1 laidOut) k3) k4) k5) k6) k7) k8) k9) k10) k11) k12) k13) k14) k15) k16) k17) k18) k19) k20) k21) k22) k23) k24) k25) k26) k27) k28) k29) k30) k31) k32
end Go.Proofs.YtejhdcohoggojaaGreatDoor.fnAdaptsErrors
