/-
  No cell of these rows narrows 'for every input' (looked for: loops, veiled, ifaces, maps, wideKeys, modest, calm, conditions, laid).
  DERIVED. THE GIVEN ROWS OF THIS SEAT. 12 by the template 'for every input the law returns true; each argument reads behind the call as it read before'; 0 by the template 'total and deterministic' (their statements: YtiikhfjdpaofdaaTotals.lean).
  GIVEN WITH THE SEED: the statements are not yours to turn. If you find one false, say at which input.
  Laid BY PROGRAM, IN A SANDBOX (cutbox-rows.mjs): the forced cells as the released guide's own fill.sh prints them over the translation 0f44ef869f815401… (all of the seat's roots in one cut). By AI agents, Wed Nov 11 2026. No macro, syntax, notation, axiom, sorry.
-/
import Derived.Test.YtiikhfjdpaofdaaChecked
import GoSem.Claim
import GoSem.ClaimJoined
import GoSem.ClaimMapViews
import Derived.JoinedTies
import Derived.KernelRfl
namespace Go.Proofs.Ytiikhfjdpaofdaa
/- THE CELL 'sum', in the pinned program and in every row, IS THE sha256 OF THE DUMP (.gsa) THAT YtiikhfjdpaofdaaProg.lean LOADS. Nothing in Lean hashes anything: it is a label: what it is worth is what the hold of that sum in a sandbox is worth. -/
noncomputable def Try.pinned : Pinned := { name := "ytiikhfjdpaofdaa", sum := "0f44ef869f815401f0ed4ca848b81747a073a25812deba7063e0b7a322c00cc4", checked := Try.checked }
namespace Rows
def none {H : Type} : Left H := { results := [], args := [] }

/-- 'pawnshoplaw08.ProgramTells': WHATEVER THE INPUT: true; the input reads as it did. -/
def programTellsSpec : ChangeSpec := { name := "programTells", fn := fun _ => fun
  | [d1, d2] => { results := [.lit (.bool true)], args := [d1, d2] }
  | _ => none }
def programTellsRow : OpenClaim := { program := "ytiikhfjdpaofdaa", sum := "0f44ef869f815401f0ed4ca848b81747a073a25812deba7063e0b7a322c00cc4", func := "pawnshop/pawnshoplaw08.ProgramTells", spec := "programTells", unfollowed := true, recurses := true, apart := false }
def ProgramTellsSaid : Prop := programTellsRow.holds Try.pinned (OpenSpec.ofChange programTellsSpec)

/-- ITS FALSE NEIGHBOUR: 'it returns false'. Refute it at one input. -/
def programTellsWrong : ChangeSpec := { name := "programTells", fn := fun _ => fun
  | [d1, d2] => { results := [.lit (.bool false)], args := [d1, d2] }
  | _ => none }
def ProgramTellsWrongFalsely : Prop := programTellsRow.holds Try.pinned (OpenSpec.ofChange programTellsWrong)

/-- 'pawnshoplaw08.ProgramNames': WHATEVER THE INPUT: true; the input reads as it did. -/
def programNamesSpec : ChangeSpec := { name := "programNames", fn := fun _ => fun
  | [] => { results := [.lit (.bool true)], args := [] }
  | _ => none }
def programNamesRow : OpenClaim := { program := "ytiikhfjdpaofdaa", sum := "0f44ef869f815401f0ed4ca848b81747a073a25812deba7063e0b7a322c00cc4", func := "pawnshop/pawnshoplaw08.ProgramNames", spec := "programNames", unfollowed := true, recurses := true, apart := false }
def ProgramNamesSaid : Prop := programNamesRow.holds Try.pinned (OpenSpec.ofChange programNamesSpec)

/-- ITS FALSE NEIGHBOUR: 'it returns false'. Refute it at one input. -/
def programNamesWrong : ChangeSpec := { name := "programNames", fn := fun _ => fun
  | [] => { results := [.lit (.bool false)], args := [] }
  | _ => none }
def ProgramNamesWrongFalsely : Prop := programNamesRow.holds Try.pinned (OpenSpec.ofChange programNamesWrong)

/-- 'pawnshoplaw08.ProgramArity': WHATEVER THE INPUT: true; the input reads as it did. -/
def programAritySpec : ChangeSpec := { name := "programArity", fn := fun _ => fun
  | [d1, d2, d3, d4] => { results := [.lit (.bool true)], args := [d1, d2, d3, d4] }
  | _ => none }
def programArityRow : OpenClaim := { program := "ytiikhfjdpaofdaa", sum := "0f44ef869f815401f0ed4ca848b81747a073a25812deba7063e0b7a322c00cc4", func := "pawnshop/pawnshoplaw08.ProgramArity", spec := "programArity", unfollowed := true, recurses := true, apart := false }
def ProgramAritySaid : Prop := programArityRow.holds Try.pinned (OpenSpec.ofChange programAritySpec)

/-- ITS FALSE NEIGHBOUR: 'it returns false'. Refute it at one input. -/
def programArityWrong : ChangeSpec := { name := "programArity", fn := fun _ => fun
  | [d1, d2, d3, d4] => { results := [.lit (.bool false)], args := [d1, d2, d3, d4] }
  | _ => none }
def ProgramArityWrongFalsely : Prop := programArityRow.holds Try.pinned (OpenSpec.ofChange programArityWrong)

/-- 'pawnshoplaw08.ProgramReached': WHATEVER THE INPUT: true; the input reads as it did. -/
def programReachedSpec : ChangeSpec := { name := "programReached", fn := fun _ => fun
  | [d] => { results := [.lit (.bool true)], args := [d] }
  | _ => none }
def programReachedRow : OpenClaim := { program := "ytiikhfjdpaofdaa", sum := "0f44ef869f815401f0ed4ca848b81747a073a25812deba7063e0b7a322c00cc4", func := "pawnshop/pawnshoplaw08.ProgramReached", spec := "programReached", unfollowed := true, recurses := true, apart := false }
def ProgramReachedSaid : Prop := programReachedRow.holds Try.pinned (OpenSpec.ofChange programReachedSpec)

/-- ITS FALSE NEIGHBOUR: 'it returns false'. Refute it at one input. -/
def programReachedWrong : ChangeSpec := { name := "programReached", fn := fun _ => fun
  | [d] => { results := [.lit (.bool false)], args := [d] }
  | _ => none }
def ProgramReachedWrongFalsely : Prop := programReachedRow.holds Try.pinned (OpenSpec.ofChange programReachedWrong)

/-- 'pawnshoplaw08.ProgramRecursive': WHATEVER THE INPUT: true; the input reads as it did. -/
def programRecursiveSpec : ChangeSpec := { name := "programRecursive", fn := fun _ => fun
  | [d1, d2] => { results := [.lit (.bool true)], args := [d1, d2] }
  | _ => none }
def programRecursiveRow : OpenClaim := { program := "ytiikhfjdpaofdaa", sum := "0f44ef869f815401f0ed4ca848b81747a073a25812deba7063e0b7a322c00cc4", func := "pawnshop/pawnshoplaw08.ProgramRecursive", spec := "programRecursive", unfollowed := true, recurses := true, apart := false }
def ProgramRecursiveSaid : Prop := programRecursiveRow.holds Try.pinned (OpenSpec.ofChange programRecursiveSpec)

/-- ITS FALSE NEIGHBOUR: 'it returns false'. Refute it at one input. -/
def programRecursiveWrong : ChangeSpec := { name := "programRecursive", fn := fun _ => fun
  | [d1, d2] => { results := [.lit (.bool false)], args := [d1, d2] }
  | _ => none }
def ProgramRecursiveWrongFalsely : Prop := programRecursiveRow.holds Try.pinned (OpenSpec.ofChange programRecursiveWrong)

/-- 'pawnshoplaw08.ProgramSizes': WHATEVER THE INPUT: true; the input reads as it did. -/
def programSizesSpec : ChangeSpec := { name := "programSizes", fn := fun _ => fun
  | [d] => { results := [.lit (.bool true)], args := [d] }
  | _ => none }
def programSizesRow : OpenClaim := { program := "ytiikhfjdpaofdaa", sum := "0f44ef869f815401f0ed4ca848b81747a073a25812deba7063e0b7a322c00cc4", func := "pawnshop/pawnshoplaw08.ProgramSizes", spec := "programSizes", unfollowed := true, recurses := true, apart := false }
def ProgramSizesSaid : Prop := programSizesRow.holds Try.pinned (OpenSpec.ofChange programSizesSpec)

/-- ITS FALSE NEIGHBOUR: 'it returns false'. Refute it at one input. -/
def programSizesWrong : ChangeSpec := { name := "programSizes", fn := fun _ => fun
  | [d] => { results := [.lit (.bool false)], args := [d] }
  | _ => none }
def ProgramSizesWrongFalsely : Prop := programSizesRow.holds Try.pinned (OpenSpec.ofChange programSizesWrong)

/-- 'pawnshoplaw17.SafetyTells': WHATEVER THE INPUT: true; the input reads as it did. -/
def safetyTellsSpec : ChangeSpec := { name := "safetyTells", fn := fun _ => fun
  | [d1, d2] => { results := [.lit (.bool true)], args := [d1, d2] }
  | _ => none }
def safetyTellsRow : OpenClaim := { program := "ytiikhfjdpaofdaa", sum := "0f44ef869f815401f0ed4ca848b81747a073a25812deba7063e0b7a322c00cc4", func := "pawnshop/pawnshoplaw17.SafetyTells", spec := "safetyTells", unfollowed := true, recurses := true, apart := false }
def SafetyTellsSaid : Prop := safetyTellsRow.holds Try.pinned (OpenSpec.ofChange safetyTellsSpec)

/-- ITS FALSE NEIGHBOUR: 'it returns false'. Refute it at one input. -/
def safetyTellsWrong : ChangeSpec := { name := "safetyTells", fn := fun _ => fun
  | [d1, d2] => { results := [.lit (.bool false)], args := [d1, d2] }
  | _ => none }
def SafetyTellsWrongFalsely : Prop := safetyTellsRow.holds Try.pinned (OpenSpec.ofChange safetyTellsWrong)

/-- 'pawnshoplaw17.SafetyNames': WHATEVER THE INPUT: true; the input reads as it did. -/
def safetyNamesSpec : ChangeSpec := { name := "safetyNames", fn := fun _ => fun
  | [] => { results := [.lit (.bool true)], args := [] }
  | _ => none }
def safetyNamesRow : OpenClaim := { program := "ytiikhfjdpaofdaa", sum := "0f44ef869f815401f0ed4ca848b81747a073a25812deba7063e0b7a322c00cc4", func := "pawnshop/pawnshoplaw17.SafetyNames", spec := "safetyNames", unfollowed := true, recurses := true, apart := false }
def SafetyNamesSaid : Prop := safetyNamesRow.holds Try.pinned (OpenSpec.ofChange safetyNamesSpec)

/-- ITS FALSE NEIGHBOUR: 'it returns false'. Refute it at one input. -/
def safetyNamesWrong : ChangeSpec := { name := "safetyNames", fn := fun _ => fun
  | [] => { results := [.lit (.bool false)], args := [] }
  | _ => none }
def SafetyNamesWrongFalsely : Prop := safetyNamesRow.holds Try.pinned (OpenSpec.ofChange safetyNamesWrong)

/-- 'pawnshoplaw17.SafetyRaw': WHATEVER THE INPUT: true; the input reads as it did. -/
def safetyRawSpec : ChangeSpec := { name := "safetyRaw", fn := fun _ => fun
  | [d] => { results := [.lit (.bool true)], args := [d] }
  | _ => none }
def safetyRawRow : OpenClaim := { program := "ytiikhfjdpaofdaa", sum := "0f44ef869f815401f0ed4ca848b81747a073a25812deba7063e0b7a322c00cc4", func := "pawnshop/pawnshoplaw17.SafetyRaw", spec := "safetyRaw", unfollowed := true, recurses := true, apart := false }
def SafetyRawSaid : Prop := safetyRawRow.holds Try.pinned (OpenSpec.ofChange safetyRawSpec)

/-- ITS FALSE NEIGHBOUR: 'it returns false'. Refute it at one input. -/
def safetyRawWrong : ChangeSpec := { name := "safetyRaw", fn := fun _ => fun
  | [d] => { results := [.lit (.bool false)], args := [d] }
  | _ => none }
def SafetyRawWrongFalsely : Prop := safetyRawRow.holds Try.pinned (OpenSpec.ofChange safetyRawWrong)

/-- 'pawnshoplaw17.SafetyAll': WHATEVER THE INPUT: true; the input reads as it did. -/
def safetyAllSpec : ChangeSpec := { name := "safetyAll", fn := fun _ => fun
  | [d] => { results := [.lit (.bool true)], args := [d] }
  | _ => none }
def safetyAllRow : OpenClaim := { program := "ytiikhfjdpaofdaa", sum := "0f44ef869f815401f0ed4ca848b81747a073a25812deba7063e0b7a322c00cc4", func := "pawnshop/pawnshoplaw17.SafetyAll", spec := "safetyAll", unfollowed := true, recurses := true, apart := false }
def SafetyAllSaid : Prop := safetyAllRow.holds Try.pinned (OpenSpec.ofChange safetyAllSpec)

/-- ITS FALSE NEIGHBOUR: 'it returns false'. Refute it at one input. -/
def safetyAllWrong : ChangeSpec := { name := "safetyAll", fn := fun _ => fun
  | [d] => { results := [.lit (.bool false)], args := [d] }
  | _ => none }
def SafetyAllWrongFalsely : Prop := safetyAllRow.holds Try.pinned (OpenSpec.ofChange safetyAllWrong)

/-- 'pawnshoplaw17.SafetyCalls': WHATEVER THE INPUT: true; the input reads as it did. -/
def safetyCallsSpec : ChangeSpec := { name := "safetyCalls", fn := fun _ => fun
  | [d1, d2, d3] => { results := [.lit (.bool true)], args := [d1, d2, d3] }
  | _ => none }
def safetyCallsRow : OpenClaim := { program := "ytiikhfjdpaofdaa", sum := "0f44ef869f815401f0ed4ca848b81747a073a25812deba7063e0b7a322c00cc4", func := "pawnshop/pawnshoplaw17.SafetyCalls", spec := "safetyCalls", unfollowed := true, recurses := true, apart := false }
def SafetyCallsSaid : Prop := safetyCallsRow.holds Try.pinned (OpenSpec.ofChange safetyCallsSpec)

/-- ITS FALSE NEIGHBOUR: 'it returns false'. Refute it at one input. -/
def safetyCallsWrong : ChangeSpec := { name := "safetyCalls", fn := fun _ => fun
  | [d1, d2, d3] => { results := [.lit (.bool false)], args := [d1, d2, d3] }
  | _ => none }
def SafetyCallsWrongFalsely : Prop := safetyCallsRow.holds Try.pinned (OpenSpec.ofChange safetyCallsWrong)

/-- 'pawnshoplaw17.SafetyDead': WHATEVER THE INPUT: true; the input reads as it did. -/
def safetyDeadSpec : ChangeSpec := { name := "safetyDead", fn := fun _ => fun
  | [d1, d2] => { results := [.lit (.bool true)], args := [d1, d2] }
  | _ => none }
def safetyDeadRow : OpenClaim := { program := "ytiikhfjdpaofdaa", sum := "0f44ef869f815401f0ed4ca848b81747a073a25812deba7063e0b7a322c00cc4", func := "pawnshop/pawnshoplaw17.SafetyDead", spec := "safetyDead", unfollowed := true, recurses := true, apart := false }
def SafetyDeadSaid : Prop := safetyDeadRow.holds Try.pinned (OpenSpec.ofChange safetyDeadSpec)

/-- ITS FALSE NEIGHBOUR: 'it returns false'. Refute it at one input. -/
def safetyDeadWrong : ChangeSpec := { name := "safetyDead", fn := fun _ => fun
  | [d1, d2] => { results := [.lit (.bool false)], args := [d1, d2] }
  | _ => none }
def SafetyDeadWrongFalsely : Prop := safetyDeadRow.holds Try.pinned (OpenSpec.ofChange safetyDeadWrong)

/- THE SECOND FORM. 'bulk': how many values and letters a reading holds, each counted each time it is reached (what is shared counts as often as it is met; a slice's spare places count too). A statement '..UptoSaid' is the law's where the arguments, and the package variables that the reading takes, are together of bulk at most 1048576: NARROWER than '..Said'. Prove '..Said' where nothing that the law and all that it calls make is longer than what came in: it says more and counts as full. Else prove '..UptoSaid'. A law counts once. -/
mutual
def uptoBulk {H : Type} : DataW H → Nat
  | .lit (.string bytes) => bytes.length + 1
  | .lit _ => 1
  | .nil => 1
  | .ptr d => uptoBulk d + 1
  | .slice elems spare => uptoBulkAll elems + uptoBulkAll spare + 1
  | .agg parts => uptoBulkAll parts + 1
  | .iface _ d => uptoBulk d + 1
  | .map entries => uptoBulkEntries entries + 1
  | .held _ => 1
def uptoBulkAll {H : Type} : List (DataW H) → Nat
  | [] => 0
  | d :: r => uptoBulk d + uptoBulkAll r
def uptoBulkEntries {H : Type} : List (Lit × DataW H) → Nat
  | [] => 0
  | x :: r => uptoBulkEntry x + uptoBulkEntries r
def uptoBulkEntry {H : Type} : Lit × DataW H → Nat
  | (.string bytes, d) => bytes.length + uptoBulk d + 1
  | (_, d) => uptoBulk d + 1
 end
def uptoSmall : (H : Type) → List (DataW H) → Bool := fun _ ds => decide (uptoBulkAll ds ≤ 1048576)
def OpenSpec.upto (s : _root_.Go.ChangeSpec) : _root_.Go.OpenSpec := { _root_.Go.OpenSpec.ofChange s with cond := some uptoSmall }

/-- 'pawnshoplaw08.ProgramTells', WHERE WHAT IT READS IS OF BULK AT MOST 1048576: true; the input reads as it did. -/
def programTellsUptoRow : OpenClaim := { program := "ytiikhfjdpaofdaa", sum := "0f44ef869f815401f0ed4ca848b81747a073a25812deba7063e0b7a322c00cc4", func := "pawnshop/pawnshoplaw08.ProgramTells", spec := "programTells", unfollowed := true, recurses := true, apart := false, narrowed := true }
def ProgramTellsUptoSaid : Prop := programTellsUptoRow.holds Try.pinned (OpenSpec.upto programTellsSpec)

/-- 'pawnshoplaw08.ProgramNames', WHERE WHAT IT READS IS OF BULK AT MOST 1048576: true; the input reads as it did. -/
def programNamesUptoRow : OpenClaim := { program := "ytiikhfjdpaofdaa", sum := "0f44ef869f815401f0ed4ca848b81747a073a25812deba7063e0b7a322c00cc4", func := "pawnshop/pawnshoplaw08.ProgramNames", spec := "programNames", unfollowed := true, recurses := true, apart := false, narrowed := true }
def ProgramNamesUptoSaid : Prop := programNamesUptoRow.holds Try.pinned (OpenSpec.upto programNamesSpec)

/-- 'pawnshoplaw08.ProgramArity', WHERE WHAT IT READS IS OF BULK AT MOST 1048576: true; the input reads as it did. -/
def programArityUptoRow : OpenClaim := { program := "ytiikhfjdpaofdaa", sum := "0f44ef869f815401f0ed4ca848b81747a073a25812deba7063e0b7a322c00cc4", func := "pawnshop/pawnshoplaw08.ProgramArity", spec := "programArity", unfollowed := true, recurses := true, apart := false, narrowed := true }
def ProgramArityUptoSaid : Prop := programArityUptoRow.holds Try.pinned (OpenSpec.upto programAritySpec)

/-- 'pawnshoplaw08.ProgramReached', WHERE WHAT IT READS IS OF BULK AT MOST 1048576: true; the input reads as it did. -/
def programReachedUptoRow : OpenClaim := { program := "ytiikhfjdpaofdaa", sum := "0f44ef869f815401f0ed4ca848b81747a073a25812deba7063e0b7a322c00cc4", func := "pawnshop/pawnshoplaw08.ProgramReached", spec := "programReached", unfollowed := true, recurses := true, apart := false, narrowed := true }
def ProgramReachedUptoSaid : Prop := programReachedUptoRow.holds Try.pinned (OpenSpec.upto programReachedSpec)

/-- 'pawnshoplaw08.ProgramRecursive', WHERE WHAT IT READS IS OF BULK AT MOST 1048576: true; the input reads as it did. -/
def programRecursiveUptoRow : OpenClaim := { program := "ytiikhfjdpaofdaa", sum := "0f44ef869f815401f0ed4ca848b81747a073a25812deba7063e0b7a322c00cc4", func := "pawnshop/pawnshoplaw08.ProgramRecursive", spec := "programRecursive", unfollowed := true, recurses := true, apart := false, narrowed := true }
def ProgramRecursiveUptoSaid : Prop := programRecursiveUptoRow.holds Try.pinned (OpenSpec.upto programRecursiveSpec)

/-- 'pawnshoplaw08.ProgramSizes', WHERE WHAT IT READS IS OF BULK AT MOST 1048576: true; the input reads as it did. -/
def programSizesUptoRow : OpenClaim := { program := "ytiikhfjdpaofdaa", sum := "0f44ef869f815401f0ed4ca848b81747a073a25812deba7063e0b7a322c00cc4", func := "pawnshop/pawnshoplaw08.ProgramSizes", spec := "programSizes", unfollowed := true, recurses := true, apart := false, narrowed := true }
def ProgramSizesUptoSaid : Prop := programSizesUptoRow.holds Try.pinned (OpenSpec.upto programSizesSpec)

/-- 'pawnshoplaw17.SafetyTells', WHERE WHAT IT READS IS OF BULK AT MOST 1048576: true; the input reads as it did. -/
def safetyTellsUptoRow : OpenClaim := { program := "ytiikhfjdpaofdaa", sum := "0f44ef869f815401f0ed4ca848b81747a073a25812deba7063e0b7a322c00cc4", func := "pawnshop/pawnshoplaw17.SafetyTells", spec := "safetyTells", unfollowed := true, recurses := true, apart := false, narrowed := true }
def SafetyTellsUptoSaid : Prop := safetyTellsUptoRow.holds Try.pinned (OpenSpec.upto safetyTellsSpec)

/-- 'pawnshoplaw17.SafetyNames', WHERE WHAT IT READS IS OF BULK AT MOST 1048576: true; the input reads as it did. -/
def safetyNamesUptoRow : OpenClaim := { program := "ytiikhfjdpaofdaa", sum := "0f44ef869f815401f0ed4ca848b81747a073a25812deba7063e0b7a322c00cc4", func := "pawnshop/pawnshoplaw17.SafetyNames", spec := "safetyNames", unfollowed := true, recurses := true, apart := false, narrowed := true }
def SafetyNamesUptoSaid : Prop := safetyNamesUptoRow.holds Try.pinned (OpenSpec.upto safetyNamesSpec)

/-- 'pawnshoplaw17.SafetyRaw', WHERE WHAT IT READS IS OF BULK AT MOST 1048576: true; the input reads as it did. -/
def safetyRawUptoRow : OpenClaim := { program := "ytiikhfjdpaofdaa", sum := "0f44ef869f815401f0ed4ca848b81747a073a25812deba7063e0b7a322c00cc4", func := "pawnshop/pawnshoplaw17.SafetyRaw", spec := "safetyRaw", unfollowed := true, recurses := true, apart := false, narrowed := true }
def SafetyRawUptoSaid : Prop := safetyRawUptoRow.holds Try.pinned (OpenSpec.upto safetyRawSpec)

/-- 'pawnshoplaw17.SafetyAll', WHERE WHAT IT READS IS OF BULK AT MOST 1048576: true; the input reads as it did. -/
def safetyAllUptoRow : OpenClaim := { program := "ytiikhfjdpaofdaa", sum := "0f44ef869f815401f0ed4ca848b81747a073a25812deba7063e0b7a322c00cc4", func := "pawnshop/pawnshoplaw17.SafetyAll", spec := "safetyAll", unfollowed := true, recurses := true, apart := false, narrowed := true }
def SafetyAllUptoSaid : Prop := safetyAllUptoRow.holds Try.pinned (OpenSpec.upto safetyAllSpec)

/-- 'pawnshoplaw17.SafetyCalls', WHERE WHAT IT READS IS OF BULK AT MOST 1048576: true; the input reads as it did. -/
def safetyCallsUptoRow : OpenClaim := { program := "ytiikhfjdpaofdaa", sum := "0f44ef869f815401f0ed4ca848b81747a073a25812deba7063e0b7a322c00cc4", func := "pawnshop/pawnshoplaw17.SafetyCalls", spec := "safetyCalls", unfollowed := true, recurses := true, apart := false, narrowed := true }
def SafetyCallsUptoSaid : Prop := safetyCallsUptoRow.holds Try.pinned (OpenSpec.upto safetyCallsSpec)

/-- 'pawnshoplaw17.SafetyDead', WHERE WHAT IT READS IS OF BULK AT MOST 1048576: true; the input reads as it did. -/
def safetyDeadUptoRow : OpenClaim := { program := "ytiikhfjdpaofdaa", sum := "0f44ef869f815401f0ed4ca848b81747a073a25812deba7063e0b7a322c00cc4", func := "pawnshop/pawnshoplaw17.SafetyDead", spec := "safetyDead", unfollowed := true, recurses := true, apart := false, narrowed := true }
def SafetyDeadUptoSaid : Prop := safetyDeadUptoRow.holds Try.pinned (OpenSpec.upto safetyDeadSpec)

end Rows
end Go.Proofs.Ytiikhfjdpaofdaa
