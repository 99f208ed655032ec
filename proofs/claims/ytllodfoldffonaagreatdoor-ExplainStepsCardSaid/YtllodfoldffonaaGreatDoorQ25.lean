/- A part of the proof. -/
import Derived.Test.YtllodfoldffonaaGreatDoorRows
import Derived.JoinedOf
import Derived.ProofKit
namespace Go.Proofs.YtllodfoldffonaaGreatDoor
open Go.RowKit Go.ChangeShapes Go.WideShapes Go.ChangeAt
set_option linter.unusedSimpArgs false
set_option linter.unusedVariables false
set_option linter.defProp false
set_option maxRecDepth 100000
set_option maxHeartbeats 16000000
theorem fU:(Rows.explainStepsRow.wf (OpenSpec.ofChange Rows.explainStepsSpec))=true:=by kernel_rfl
theorem fV:(laidOutB Tryz.prog)=true:=by kernel_rfl
theorem fW:(mapsRowed Tryz.prog)=true:=by kernel_rfl
theorem fX:(Tryz.f4.params.all (Tryz.prog.readableRec ·))=true:=by kernel_rfl
theorem fY:(namedTie Tryz.prog Rows.explainStepsRow.named Rows.explainStepsSpec.vars)=true:=by kernel_rfl
theorem fZ:((Rows.explainStepsRow.stops==[]))=true:=by kernel_rfl
theorem eb:((Tryz.prog.stops==[]))=true:=by kernel_rfl
theorem ec:((Rows.explainStepsRow.knobs==[]))=true:=by kernel_rfl
theorem ed:((Tryz.prog.stopKnobs==[]))=true:=by kernel_rfl
theorem ef:((Rows.explainStepsRow.inPlace==Tryz.prog.inPlace 4))=true:=by kernel_rfl
end Go.Proofs.YtllodfoldffonaaGreatDoor
