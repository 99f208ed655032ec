/- A part of the proof. -/
import Derived.Test.YtllodfoldffonaaGreatDoorRows
import Derived.JoinedOf
import Derived.ProofKit
import Derived.SevenTiedAt
namespace Go.Proofs.YtllodfoldffonaaGreatDoor
open Go.RowKit Go.ChangeShapes Go.WideShapes Go.ChangeAt
set_option linter.unusedSimpArgs false
set_option linter.unusedVariables false
set_option linter.defProp false
set_option maxRecDepth 100000
set_option maxHeartbeats 16000000
theorem eh:Rows.explainStepsRow.wfByText (OpenSpec.ofChange Rows.explainStepsSpec)=true:=by kernel_rfl
theorem es : Tryz.prog.mainIs=some (true,"49c5a961c9de1053067c317d6bfc9ddab14011b0a5d59849221f06a63127a229".toList):=by kernel_rfl
theorem et:false=Tryz.prog.looks []:=by kernel_rfl
theorem eu:(([24,35]:List Nat).all λu=>!Tryz.prog.wantsStandIn u)=true:=by kernel_rfl
theorem rE : Tryz.prog.funcNamed "pawnshop/pawnshoplaw43.ExplainSteps"=some 4:=by kernel_rfl
theorem S3 {P:Program}(h:P.funcs.any Func.goes=false)(f:FuncId): P.goes f=false:=by
 have k:∀g:FuncId,(P.funcs[g]?).any Func.goes=false:=λg=>by
  cases e:P.funcs[g]? with
  |none=>rfl
  |some fn =>
   obtain⟨a,b⟩:=Array.getElem?_eq_some_iff.1 e;have:=Array.any_eq_false.1 h g a
   rw[b] at this;simpa using this
 unfold Program.goes;rw[h,Bool.and_false,Bool.or_false];simp[k]
theorem ez:false=Rows.explainStepsRow.goesBy Tryz.prog:=by
 have h:Tryz.prog.funcs.any Func.goes=false:=by kernel_rfl
 unfold OpenClaim.goesBy Program.goesAt Program.goesFrom;rw [show Rows.explainStepsRow.func = "pawnshop/pawnshoplaw43.ExplainSteps" from rfl,rE];simp only [Option.any_some,S3 h,Bool.false_or];rfl
end Go.Proofs.YtllodfoldffonaaGreatDoor
