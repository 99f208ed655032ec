/- A part of the proof. -/
import Derived.Test.YtllodfoldffonaaGreatDoorRows
import Derived.JoinedOf
import Derived.ProofKit
namespace Go.Proofs.YtllodfoldffonaaGreatDoor
open Go.RowKit Go.ChangeShapes Go.WideShapes Go.ChangeAt
set_option linter.unusedSimpArgs false
set_option linter.unusedVariables false
set_option linter.defProp false
set_option maxRecDepth 100000
set_option maxHeartbeats 16000000
theorem iQ:((Rows.explainStepsRow.unfollowed==Tryz.prog.unfollowed 4))=true:=by kernel_rfl
theorem iR:((Rows.explainStepsRow.recurses==Tryz.prog.recurses 4))=true:=by kernel_rfl
end Go.Proofs.YtllodfoldffonaaGreatDoor
