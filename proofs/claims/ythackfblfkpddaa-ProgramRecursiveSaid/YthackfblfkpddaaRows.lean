/-
  No cell of these rows narrows 'for every input' (looked for: loops, veiled, ifaces, maps, wideKeys, modest, calm, conditions, laid).
  DERIVED. THE GIVEN ROWS OF THIS SEAT. 3 by the template 'for every input the law returns true; each argument reads behind the call as it read before'; 0 by the template 'total and deterministic' (their statements: YthackfblfkpddaaTotals.lean).
  GIVEN WITH THE SEED: the statements are not yours to turn. If you find one false, say at which input.
  Laid BY PROGRAM, IN A SANDBOX (cutbox-rows.mjs): the forced cells as the released guide's own fill.sh prints them over the translation c95332183aefdbdd… (all of the seat's roots in one cut). By AI agents, Wed Nov 11 2026. No macro, syntax, notation, axiom, sorry.
-/
import Derived.Test.YthackfblfkpddaaChecked
import GoSem.Claim
import GoSem.ClaimJoined
import GoSem.ClaimMapViews
import Derived.JoinedTies
import Derived.KernelRfl
namespace Go.Proofs.Ythackfblfkpddaa
/- THE CELL 'sum', in the pinned program and in every row, IS THE sha256 OF THE DUMP (.gsa) THAT YthackfblfkpddaaProg.lean LOADS. Nothing in Lean hashes anything: it is a label: what it is worth is what the hold of that sum in a sandbox is worth. -/
noncomputable def Try.pinned : Pinned := { name := "ythackfblfkpddaa", sum := "c95332183aefdbdd0241fab55c0376e596d5ba5e434a8fd8fa8878a25a1268f7", checked := Try.checked }
namespace Rows
def none {H : Type} : Left H := { results := [], args := [] }

/-- 'pawnshoplaw14.TypingNames': WHATEVER THE INPUT: true; the input reads as it did. -/
def typingNamesSpec : ChangeSpec := { name := "typingNames", fn := fun _ => fun
  | [] => { results := [.lit (.bool true)], args := [] }
  | _ => none }
def typingNamesRow : OpenClaim := { program := "ythackfblfkpddaa", sum := "c95332183aefdbdd0241fab55c0376e596d5ba5e434a8fd8fa8878a25a1268f7", func := "pawnshop/pawnshoplaw14.TypingNames", spec := "typingNames", unfollowed := true, recurses := true, apart := false }
def TypingNamesSaid : Prop := typingNamesRow.holds Try.pinned (OpenSpec.ofChange typingNamesSpec)

/-- ITS FALSE NEIGHBOUR: 'it returns false'. Refute it at one input. -/
def typingNamesWrong : ChangeSpec := { name := "typingNames", fn := fun _ => fun
  | [] => { results := [.lit (.bool false)], args := [] }
  | _ => none }
def TypingNamesWrongFalsely : Prop := typingNamesRow.holds Try.pinned (OpenSpec.ofChange typingNamesWrong)

/-- 'pawnshoplaw08.ProgramRecursive': WHATEVER THE INPUT: true; the input reads as it did. -/
def programRecursiveSpec : ChangeSpec := { name := "programRecursive", fn := fun _ => fun
  | [d1, d2] => { results := [.lit (.bool true)], args := [d1, d2] }
  | _ => none }
def programRecursiveRow : OpenClaim := { program := "ythackfblfkpddaa", sum := "c95332183aefdbdd0241fab55c0376e596d5ba5e434a8fd8fa8878a25a1268f7", func := "pawnshop/pawnshoplaw08.ProgramRecursive", spec := "programRecursive", unfollowed := true, recurses := true, apart := false }
def ProgramRecursiveSaid : Prop := programRecursiveRow.holds Try.pinned (OpenSpec.ofChange programRecursiveSpec)

/-- ITS FALSE NEIGHBOUR: 'it returns false'. Refute it at one input. -/
def programRecursiveWrong : ChangeSpec := { name := "programRecursive", fn := fun _ => fun
  | [d1, d2] => { results := [.lit (.bool false)], args := [d1, d2] }
  | _ => none }
def ProgramRecursiveWrongFalsely : Prop := programRecursiveRow.holds Try.pinned (OpenSpec.ofChange programRecursiveWrong)

/-- 'pawnshoplaw08.ProgramNames': WHATEVER THE INPUT: true; the input reads as it did. -/
def programNamesSpec : ChangeSpec := { name := "programNames", fn := fun _ => fun
  | [] => { results := [.lit (.bool true)], args := [] }
  | _ => none }
def programNamesRow : OpenClaim := { program := "ythackfblfkpddaa", sum := "c95332183aefdbdd0241fab55c0376e596d5ba5e434a8fd8fa8878a25a1268f7", func := "pawnshop/pawnshoplaw08.ProgramNames", spec := "programNames", unfollowed := true, recurses := true, apart := false }
def ProgramNamesSaid : Prop := programNamesRow.holds Try.pinned (OpenSpec.ofChange programNamesSpec)

/-- ITS FALSE NEIGHBOUR: 'it returns false'. Refute it at one input. -/
def programNamesWrong : ChangeSpec := { name := "programNames", fn := fun _ => fun
  | [] => { results := [.lit (.bool false)], args := [] }
  | _ => none }
def ProgramNamesWrongFalsely : Prop := programNamesRow.holds Try.pinned (OpenSpec.ofChange programNamesWrong)

/- THE SECOND FORM. 'bulk': how many values and letters a reading holds, each counted each time it is reached (what is shared counts as often as it is met; a slice's spare places count too). A statement '..UptoSaid' is the law's where the arguments, and the package variables that the reading takes, are together of bulk at most 1048576: NARROWER than '..Said'. Prove '..Said' where nothing that the law and all that it calls make is longer than what came in: it says more and counts as full. Else prove '..UptoSaid'. A law counts once. -/
mutual
def uptoBulk {H : Type} : DataW H → Nat
  | .lit (.string bytes) => bytes.length + 1
  | .lit _ => 1
  | .nil => 1
  | .ptr d => uptoBulk d + 1
  | .slice elems spare => uptoBulkAll elems + uptoBulkAll spare + 1
  | .agg parts => uptoBulkAll parts + 1
  | .iface _ d => uptoBulk d + 1
  | .map entries => uptoBulkEntries entries + 1
  | .held _ => 1
def uptoBulkAll {H : Type} : List (DataW H) → Nat
  | [] => 0
  | d :: r => uptoBulk d + uptoBulkAll r
def uptoBulkEntries {H : Type} : List (Lit × DataW H) → Nat
  | [] => 0
  | x :: r => uptoBulkEntry x + uptoBulkEntries r
def uptoBulkEntry {H : Type} : Lit × DataW H → Nat
  | (.string bytes, d) => bytes.length + uptoBulk d + 1
  | (_, d) => uptoBulk d + 1
 end
def uptoSmall : (H : Type) → List (DataW H) → Bool := fun _ ds => decide (uptoBulkAll ds ≤ 1048576)
def OpenSpec.upto (s : _root_.Go.ChangeSpec) : _root_.Go.OpenSpec := { _root_.Go.OpenSpec.ofChange s with cond := some uptoSmall }

/-- 'pawnshoplaw14.TypingNames', WHERE WHAT IT READS IS OF BULK AT MOST 1048576: true; the input reads as it did. -/
def typingNamesUptoRow : OpenClaim := { program := "ythackfblfkpddaa", sum := "c95332183aefdbdd0241fab55c0376e596d5ba5e434a8fd8fa8878a25a1268f7", func := "pawnshop/pawnshoplaw14.TypingNames", spec := "typingNames", unfollowed := true, recurses := true, apart := false, narrowed := true }
def TypingNamesUptoSaid : Prop := typingNamesUptoRow.holds Try.pinned (OpenSpec.upto typingNamesSpec)

/-- 'pawnshoplaw08.ProgramRecursive', WHERE WHAT IT READS IS OF BULK AT MOST 1048576: true; the input reads as it did. -/
def programRecursiveUptoRow : OpenClaim := { program := "ythackfblfkpddaa", sum := "c95332183aefdbdd0241fab55c0376e596d5ba5e434a8fd8fa8878a25a1268f7", func := "pawnshop/pawnshoplaw08.ProgramRecursive", spec := "programRecursive", unfollowed := true, recurses := true, apart := false, narrowed := true }
def ProgramRecursiveUptoSaid : Prop := programRecursiveUptoRow.holds Try.pinned (OpenSpec.upto programRecursiveSpec)

/-- 'pawnshoplaw08.ProgramNames', WHERE WHAT IT READS IS OF BULK AT MOST 1048576: true; the input reads as it did. -/
def programNamesUptoRow : OpenClaim := { program := "ythackfblfkpddaa", sum := "c95332183aefdbdd0241fab55c0376e596d5ba5e434a8fd8fa8878a25a1268f7", func := "pawnshop/pawnshoplaw08.ProgramNames", spec := "programNames", unfollowed := true, recurses := true, apart := false, narrowed := true }
def ProgramNamesUptoSaid : Prop := programNamesUptoRow.holds Try.pinned (OpenSpec.upto programNamesSpec)

end Rows
end Go.Proofs.Ythackfblfkpddaa
