/- A part of the proof. -/
import Derived.Test.YtllodfoldffonaaGreatDoorRows
import Derived.JoinedOf
import Derived.ProofKit
namespace Go.Proofs.YtllodfoldffonaaGreatDoor
open Go.RowKit Go.ChangeShapes Go.WideShapes Go.ChangeAt
set_option linter.unusedSimpArgs false
set_option linter.unusedVariables false
set_option linter.defProp false
set_option maxRecDepth 100000
set_option maxHeartbeats 16000000
theorem iS:((Rows.explainStepsRow.named==Tryz.prog.varsNamed 4))=true:=by kernel_rfl
theorem iT:((Rows.explainStepsRow.maps==(Tryz.f4.params.toList++Rows.explainStepsSpec.plain.varTypes Tryz.prog).any (Tryz.prog.mapsRec ·)))=true:=by kernel_rfl
theorem EF:((Rows.explainStepsRow.ifaces==(Tryz.f4.params.toList++Rows.explainStepsSpec.plain.varTypes Tryz.prog).any (Tryz.prog.ifacesRec ·)))=true:=by kernel_rfl
theorem iV:((Rows.explainStepsRow.mapsOut==Tryz.prog.mapsAmong Tryz.f4.resultTypes.toList))=true:=by kernel_rfl
theorem iW:((Rows.explainStepsRow.loops==(Tryz.f4.params.toList++Rows.explainStepsSpec.plain.varTypes Tryz.prog).any (Tryz.prog.loopsFrom ·)))=true:=by kernel_rfl
theorem iX:((Rows.explainStepsRow.wideKeys==(Tryz.f4.params.toList++Rows.explainStepsSpec.plain.varTypes Tryz.prog++Tryz.f4.resultTypes.toList).any (Tryz.prog.wideKeysFrom ·)))=true:=by kernel_rfl
theorem iY:(Rows.explainStepsSpec.vars.all (Tryz.prog.varReadable ·))=true:=by kernel_rfl
theorem iZ:(Tryz.f4.resultTypes.all (λt=>Tryz.prog.readableRec t&&decide (t<Tryz.prog.types.size)))=true:=by kernel_rfl
end Go.Proofs.YtllodfoldffonaaGreatDoor
