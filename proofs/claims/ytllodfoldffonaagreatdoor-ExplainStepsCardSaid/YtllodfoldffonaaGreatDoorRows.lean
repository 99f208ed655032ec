/-
  NARROWER THAN 'FOR EVERY INPUT', by the rows' own cells (each row's printed sentence says how): ExplainLists: laid · ExplainSteps: laid.
  DERIVED. THE GIVEN ROWS OF THIS SEAT. 2 by the template 'for every input the law returns true; each argument reads behind the call as it read before'; 0 by the template 'total and deterministic' (their statements: YtllodfoldffonaaGreatDoorTotals.lean).
  GIVEN WITH THE SEED: the statements are not yours to turn. If you find one false, say at which input.
  Laid BY PROGRAM, IN A SANDBOX (cutbox-rows.mjs): the forced cells as the released guide's own fill.sh prints them over the translation cff18d875e5ae18c… (all of the seat's roots in one cut). By AI agents, Wed Nov 11 2026. No macro, syntax, notation, axiom, sorry.
-/
import Derived.Test.YtllodfoldffonaaGreatDoorChecked
import GoSem.Claim
import GoSem.ClaimJoined
import GoSem.ClaimMapViews
import Derived.JoinedTies
import Derived.KernelRfl
namespace Go.Proofs.YtllodfoldffonaaGreatDoor
/- THE CELL 'sum', in the pinned program and in every row, IS THE sha256 OF THE DUMP (.gsa) THAT YtllodfoldffonaaGreatDoorProg.lean LOADS. Nothing in Lean hashes anything: it is a label: what it is worth is what the hold of that sum in a sandbox is worth. -/
noncomputable def Tryz.pinned : Pinned := { name := "ytllodfoldffonaagreatdoor", sum := "cff18d875e5ae18cdc60f880c1e2849a752a20e4cd0c5c0afd1d76db469f64a5", checked := Tryz.checked }
namespace Rows
def none {H : Type} : Left H := { results := [], args := [] }

/- WHAT THE LISTED PACKAGE-LEVEL VARIABLES READ AS WHEN THE CALL BEGINS. Each datum BY PROGRAM (the guide's laid-datum.mjs) off the statement by which the dump's own 'gosem.cut.vars' lays the variable. In a bare row this is a premise. The card (YtllodfoldffonaaGreatDoorCards.lean) ties it to the program's text. -/
def laid_pawnshop_grant_perms {H : Type} : DataW H := .agg [.lit (.int .u8 0), .lit (.int .u8 4), .lit (.int .u8 1), .lit (.int .u8 2), .lit (.int .u8 3)]

/-- 'pawnshoplaw43.ExplainLists': WHATEVER THE INPUT: true; the input reads as it did. -/
def explainListsSpec : ChangeSpec := { name := "explainLists", fn := fun _ => fun
  | [d1, d2] => { results := [.lit (.bool true)], args := [d1, d2] }
  | _ => none }
def explainListsRow : OpenClaim := { program := "ytllodfoldffonaagreatdoor", sum := "cff18d875e5ae18cdc60f880c1e2849a752a20e4cd0c5c0afd1d76db469f64a5", func := "pawnshop/pawnshoplaw43.ExplainLists", spec := "explainLists", unfollowed := true, recurses := true, named := ["pawnshop/grant.perms"], apart := false, laid := [("pawnshop/grant.perms", laid_pawnshop_grant_perms)] }
def ExplainListsSaid : Prop := explainListsRow.holds Tryz.pinned (OpenSpec.ofChange explainListsSpec)

/-- ITS FALSE NEIGHBOUR: 'it returns false'. Refute it at one input. -/
def explainListsWrong : ChangeSpec := { name := "explainLists", fn := fun _ => fun
  | [d1, d2] => { results := [.lit (.bool false)], args := [d1, d2] }
  | _ => none }
def ExplainListsWrongFalsely : Prop := explainListsRow.holds Tryz.pinned (OpenSpec.ofChange explainListsWrong)

/-- 'pawnshoplaw43.ExplainSteps': WHATEVER THE INPUT: true; the input reads as it did. -/
def explainStepsSpec : ChangeSpec := { name := "explainSteps", fn := fun _ => fun
  | [d1, d2] => { results := [.lit (.bool true)], args := [d1, d2] }
  | _ => none }
def explainStepsRow : OpenClaim := { program := "ytllodfoldffonaagreatdoor", sum := "cff18d875e5ae18cdc60f880c1e2849a752a20e4cd0c5c0afd1d76db469f64a5", func := "pawnshop/pawnshoplaw43.ExplainSteps", spec := "explainSteps", unfollowed := true, recurses := true, named := ["pawnshop/grant.perms"], apart := false, laid := [("pawnshop/grant.perms", laid_pawnshop_grant_perms)] }
def ExplainStepsSaid : Prop := explainStepsRow.holds Tryz.pinned (OpenSpec.ofChange explainStepsSpec)

/-- ITS FALSE NEIGHBOUR: 'it returns false'. Refute it at one input. -/
def explainStepsWrong : ChangeSpec := { name := "explainSteps", fn := fun _ => fun
  | [d1, d2] => { results := [.lit (.bool false)], args := [d1, d2] }
  | _ => none }
def ExplainStepsWrongFalsely : Prop := explainStepsRow.holds Tryz.pinned (OpenSpec.ofChange explainStepsWrong)

/- THE SECOND FORM. 'bulk': how many values and letters a reading holds, each counted each time it is reached (what is shared counts as often as it is met; a slice's spare places count too). A statement '..UptoSaid' is the law's where the arguments, and the package variables that the reading takes, are together of bulk at most 1048576: NARROWER than '..Said'. Prove '..Said' where nothing that the law and all that it calls make is longer than what came in: it says more and counts as full. Else prove '..UptoSaid'. A law counts once. -/
mutual
def uptoBulk {H : Type} : DataW H → Nat
  | .lit (.string bytes) => bytes.length + 1
  | .lit _ => 1
  | .nil => 1
  | .ptr d => uptoBulk d + 1
  | .slice elems spare => uptoBulkAll elems + uptoBulkAll spare + 1
  | .agg parts => uptoBulkAll parts + 1
  | .iface _ d => uptoBulk d + 1
  | .map entries => uptoBulkEntries entries + 1
  | .held _ => 1
def uptoBulkAll {H : Type} : List (DataW H) → Nat
  | [] => 0
  | d :: r => uptoBulk d + uptoBulkAll r
def uptoBulkEntries {H : Type} : List (Lit × DataW H) → Nat
  | [] => 0
  | x :: r => uptoBulkEntry x + uptoBulkEntries r
def uptoBulkEntry {H : Type} : Lit × DataW H → Nat
  | (.string bytes, d) => bytes.length + uptoBulk d + 1
  | (_, d) => uptoBulk d + 1
 end
def uptoSmall : (H : Type) → List (DataW H) → Bool := fun _ ds => decide (uptoBulkAll ds ≤ 1048576)
def OpenSpec.upto (s : _root_.Go.ChangeSpec) : _root_.Go.OpenSpec := { _root_.Go.OpenSpec.ofChange s with cond := some uptoSmall }

/-- 'pawnshoplaw43.ExplainLists', WHERE WHAT IT READS IS OF BULK AT MOST 1048576: true; the input reads as it did. -/
def explainListsUptoRow : OpenClaim := { program := "ytllodfoldffonaagreatdoor", sum := "cff18d875e5ae18cdc60f880c1e2849a752a20e4cd0c5c0afd1d76db469f64a5", func := "pawnshop/pawnshoplaw43.ExplainLists", spec := "explainLists", unfollowed := true, recurses := true, named := ["pawnshop/grant.perms"], apart := false, laid := [("pawnshop/grant.perms", laid_pawnshop_grant_perms)], narrowed := true }
def ExplainListsUptoSaid : Prop := explainListsUptoRow.holds Tryz.pinned (OpenSpec.upto explainListsSpec)

/-- 'pawnshoplaw43.ExplainSteps', WHERE WHAT IT READS IS OF BULK AT MOST 1048576: true; the input reads as it did. -/
def explainStepsUptoRow : OpenClaim := { program := "ytllodfoldffonaagreatdoor", sum := "cff18d875e5ae18cdc60f880c1e2849a752a20e4cd0c5c0afd1d76db469f64a5", func := "pawnshop/pawnshoplaw43.ExplainSteps", spec := "explainSteps", unfollowed := true, recurses := true, named := ["pawnshop/grant.perms"], apart := false, laid := [("pawnshop/grant.perms", laid_pawnshop_grant_perms)], narrowed := true }
def ExplainStepsUptoSaid : Prop := explainStepsUptoRow.holds Tryz.pinned (OpenSpec.upto explainStepsSpec)

end Rows
end Go.Proofs.YtllodfoldffonaaGreatDoor
