/- A part of the proof. -/
import Derived.Test.YtllodfoldffonaaGreatDoorQ25
import Derived.Test.YtllodfoldffonaaGreatDoorQ26
import Derived.Test.YtllodfoldffonaaGreatDoorQ27
namespace Go.Proofs.YtllodfoldffonaaGreatDoor
open Go.RowKit Go.ChangeShapes Go.WideShapes Go.ChangeAt
set_option linter.unusedSimpArgs false
set_option linter.unusedVariables false
set_option linter.defProp false
set_option maxRecDepth 100000
set_option maxHeartbeats 16000000
theorem ga:((Rows.explainStepsRow.ifacesOut==Tryz.f4.resultTypes.toList.any (Tryz.prog.ifacesRec ·)))=true:=by kernel_rfl
theorem gc:((Rows.explainStepsRow.loopsOut==Tryz.f4.resultTypes.toList.any (Tryz.prog.loopsFrom ·)))=true:=by kernel_rfl
theorem gg:((Rows.explainStepsRow.plainKeys==Tryz.prog.plainKeys))=true:=by kernel_rfl
theorem gh:(Rows.explainStepsRow.shortTexts.isNone)=true:=by kernel_rfl
theorem gi:(Tryz.prog.stopsHeard)=true:=by kernel_rfl
theorem gj:(Tryz.prog.mayEnter)=true:=by kernel_rfl
theorem gm:((Rows.explainStepsRow.lifted==Tryz.prog.liftsFinal))=true:=by kernel_rfl
theorem gn:((Tryz.prog.make==some Rows.explainStepsRow.make))=true:=by kernel_rfl
theorem gq:((Rows.explainStepsRow.kinds==(if Rows.explainStepsRow.domain.isEmpty then [] else Tryz.f4.params.toList.map λt=>match Tryz.prog.underlying t with|some (.int k)=>some k|_=>none)))=true:=by kernel_rfl
theorem gr:((Rows.explainStepsRow.pinned==Rows.explainStepsRow.pinnedBy))=true:=by kernel_rfl
theorem gw:((Rows.explainStepsRow.veiled==(Tryz.f4.params.toList++Rows.explainStepsSpec.plain.varTypes Tryz.prog++Tryz.f4.resultTypes.toList).any (Tryz.prog.veiledRec ·)))=true:=by kernel_rfl
theorem gy:(Rows.explainStepsRow.veiledFits Tryz.prog Tryz.f4.params.toList (Tryz.f4.params.toList++Rows.explainStepsSpec.plain.varTypes Tryz.prog++Tryz.f4.resultTypes.toList))=true:=by kernel_rfl
theorem kH:joinedFacts Tryz.prog 4 Tryz.f4 Rows.explainStepsSpec Rows.explainStepsRow=true:=by
 unfold joinedFacts;simp only[Bool.and_eq_true];exact⟨⟨⟨⟨⟨⟨⟨⟨⟨⟨⟨⟨⟨⟨⟨⟨⟨⟨⟨⟨⟨⟨⟨⟨⟨⟨⟨⟨⟨⟨⟨fU,fV⟩,fW⟩,fX⟩,fY⟩,fZ⟩,eb⟩,ec⟩,ed⟩,ef⟩,iQ⟩,iR⟩,iS⟩,iT⟩,EF⟩,iV⟩,iW⟩,iX⟩,iY⟩,iZ⟩,ga⟩,gc⟩,gg⟩,gh⟩,gi⟩,gj⟩,gm⟩,gn⟩,gq⟩,gr⟩,gw⟩,gy⟩
end Go.Proofs.YtllodfoldffonaaGreatDoor
