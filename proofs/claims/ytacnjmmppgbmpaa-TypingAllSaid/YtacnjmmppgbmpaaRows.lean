/-
  No cell of these rows narrows 'for every input' (looked for: loops, veiled, ifaces, maps, wideKeys, modest, calm, conditions, laid).
  DERIVED. THE GIVEN ROWS OF THIS SEAT. 6 by the template 'for every input the law returns true; each argument reads behind the call as it read before'; 0 by the template 'total and deterministic' (their statements: YtacnjmmppgbmpaaTotals.lean).
  GIVEN WITH THE SEED: the statements are not yours to turn. If you find one false, say at which input.
  Laid BY PROGRAM, IN A SANDBOX (cutbox-rows.mjs): the forced cells as the released guide's own fill.sh prints them over the translation 940ed50798d98c29… (all of the seat's roots in one cut). By AI agents, Wed Nov 11 2026. No macro, syntax, notation, axiom, sorry.
-/
import Derived.Test.YtacnjmmppgbmpaaChecked
import GoSem.Claim
import GoSem.ClaimJoined
import GoSem.ClaimMapViews
import Derived.JoinedTies
import Derived.KernelRfl
namespace Go.Proofs.Ytacnjmmppgbmpaa
/- THE CELL 'sum', in the pinned program and in every row, IS THE sha256 OF THE DUMP (.gsa) THAT YtacnjmmppgbmpaaProg.lean LOADS. Nothing in Lean hashes anything: it is a label: what it is worth is what the hold of that sum in a sandbox is worth. -/
noncomputable def Try.pinned : Pinned := { name := "ytacnjmmppgbmpaa", sum := "940ed50798d98c295ab18fa18f1e55c1c607cc0169a017b8cb003b283daa3168", checked := Try.checked }
namespace Rows
def none {H : Type} : Left H := { results := [], args := [] }

/-- 'pawnshoplaw14.TypingRvalues': WHATEVER THE INPUT: true; the input reads as it did. -/
def typingRvaluesSpec : ChangeSpec := { name := "typingRvalues", fn := fun _ => fun
  | [d1, d2, d3] => { results := [.lit (.bool true)], args := [d1, d2, d3] }
  | _ => none }
def typingRvaluesRow : OpenClaim := { program := "ytacnjmmppgbmpaa", sum := "940ed50798d98c295ab18fa18f1e55c1c607cc0169a017b8cb003b283daa3168", func := "pawnshop/pawnshoplaw14.TypingRvalues", spec := "typingRvalues", apart := false }
def TypingRvaluesSaid : Prop := typingRvaluesRow.holds Try.pinned (OpenSpec.ofChange typingRvaluesSpec)

/-- ITS FALSE NEIGHBOUR: 'it returns false'. Refute it at one input. -/
def typingRvaluesWrong : ChangeSpec := { name := "typingRvalues", fn := fun _ => fun
  | [d1, d2, d3] => { results := [.lit (.bool false)], args := [d1, d2, d3] }
  | _ => none }
def TypingRvaluesWrongFalsely : Prop := typingRvaluesRow.holds Try.pinned (OpenSpec.ofChange typingRvaluesWrong)

/-- 'pawnshoplaw14.TypingOne': WHATEVER THE INPUT: true; the input reads as it did. -/
def typingOneSpec : ChangeSpec := { name := "typingOne", fn := fun _ => fun
  | [d1, d2, d3, d4, d5] => { results := [.lit (.bool true)], args := [d1, d2, d3, d4, d5] }
  | _ => none }
def typingOneRow : OpenClaim := { program := "ytacnjmmppgbmpaa", sum := "940ed50798d98c295ab18fa18f1e55c1c607cc0169a017b8cb003b283daa3168", func := "pawnshop/pawnshoplaw14.TypingOne", spec := "typingOne", apart := false }
def TypingOneSaid : Prop := typingOneRow.holds Try.pinned (OpenSpec.ofChange typingOneSpec)

/-- ITS FALSE NEIGHBOUR: 'it returns false'. Refute it at one input. -/
def typingOneWrong : ChangeSpec := { name := "typingOne", fn := fun _ => fun
  | [d1, d2, d3, d4, d5] => { results := [.lit (.bool false)], args := [d1, d2, d3, d4, d5] }
  | _ => none }
def TypingOneWrongFalsely : Prop := typingOneRow.holds Try.pinned (OpenSpec.ofChange typingOneWrong)

/-- 'pawnshoplaw14.TypingRefs': WHATEVER THE INPUT: true; the input reads as it did. -/
def typingRefsSpec : ChangeSpec := { name := "typingRefs", fn := fun _ => fun
  | [d1, d2] => { results := [.lit (.bool true)], args := [d1, d2] }
  | _ => none }
def typingRefsRow : OpenClaim := { program := "ytacnjmmppgbmpaa", sum := "940ed50798d98c295ab18fa18f1e55c1c607cc0169a017b8cb003b283daa3168", func := "pawnshop/pawnshoplaw14.TypingRefs", spec := "typingRefs", apart := false }
def TypingRefsSaid : Prop := typingRefsRow.holds Try.pinned (OpenSpec.ofChange typingRefsSpec)

/-- ITS FALSE NEIGHBOUR: 'it returns false'. Refute it at one input. -/
def typingRefsWrong : ChangeSpec := { name := "typingRefs", fn := fun _ => fun
  | [d1, d2] => { results := [.lit (.bool false)], args := [d1, d2] }
  | _ => none }
def TypingRefsWrongFalsely : Prop := typingRefsRow.holds Try.pinned (OpenSpec.ofChange typingRefsWrong)

/-- 'pawnshoplaw14.TypingStmts': WHATEVER THE INPUT: true; the input reads as it did. -/
def typingStmtsSpec : ChangeSpec := { name := "typingStmts", fn := fun _ => fun
  | [d1, d2, d3, d4, d5] => { results := [.lit (.bool true)], args := [d1, d2, d3, d4, d5] }
  | _ => none }
def typingStmtsRow : OpenClaim := { program := "ytacnjmmppgbmpaa", sum := "940ed50798d98c295ab18fa18f1e55c1c607cc0169a017b8cb003b283daa3168", func := "pawnshop/pawnshoplaw14.TypingStmts", spec := "typingStmts", unfollowed := true, recurses := true, apart := false }
def TypingStmtsSaid : Prop := typingStmtsRow.holds Try.pinned (OpenSpec.ofChange typingStmtsSpec)

/-- ITS FALSE NEIGHBOUR: 'it returns false'. Refute it at one input. -/
def typingStmtsWrong : ChangeSpec := { name := "typingStmts", fn := fun _ => fun
  | [d1, d2, d3, d4, d5] => { results := [.lit (.bool false)], args := [d1, d2, d3, d4, d5] }
  | _ => none }
def TypingStmtsWrongFalsely : Prop := typingStmtsRow.holds Try.pinned (OpenSpec.ofChange typingStmtsWrong)

/-- 'pawnshoplaw14.TypingNames': WHATEVER THE INPUT: true; the input reads as it did. -/
def typingNamesSpec : ChangeSpec := { name := "typingNames", fn := fun _ => fun
  | [] => { results := [.lit (.bool true)], args := [] }
  | _ => none }
def typingNamesRow : OpenClaim := { program := "ytacnjmmppgbmpaa", sum := "940ed50798d98c295ab18fa18f1e55c1c607cc0169a017b8cb003b283daa3168", func := "pawnshop/pawnshoplaw14.TypingNames", spec := "typingNames", unfollowed := true, recurses := true, apart := false }
def TypingNamesSaid : Prop := typingNamesRow.holds Try.pinned (OpenSpec.ofChange typingNamesSpec)

/-- ITS FALSE NEIGHBOUR: 'it returns false'. Refute it at one input. -/
def typingNamesWrong : ChangeSpec := { name := "typingNames", fn := fun _ => fun
  | [] => { results := [.lit (.bool false)], args := [] }
  | _ => none }
def TypingNamesWrongFalsely : Prop := typingNamesRow.holds Try.pinned (OpenSpec.ofChange typingNamesWrong)

/-- 'pawnshoplaw14.TypingAll': WHATEVER THE INPUT: true; the input reads as it did. -/
def typingAllSpec : ChangeSpec := { name := "typingAll", fn := fun _ => fun
  | [d] => { results := [.lit (.bool true)], args := [d] }
  | _ => none }
def typingAllRow : OpenClaim := { program := "ytacnjmmppgbmpaa", sum := "940ed50798d98c295ab18fa18f1e55c1c607cc0169a017b8cb003b283daa3168", func := "pawnshop/pawnshoplaw14.TypingAll", spec := "typingAll", unfollowed := true, recurses := true, apart := false }
def TypingAllSaid : Prop := typingAllRow.holds Try.pinned (OpenSpec.ofChange typingAllSpec)

/-- ITS FALSE NEIGHBOUR: 'it returns false'. Refute it at one input. -/
def typingAllWrong : ChangeSpec := { name := "typingAll", fn := fun _ => fun
  | [d] => { results := [.lit (.bool false)], args := [d] }
  | _ => none }
def TypingAllWrongFalsely : Prop := typingAllRow.holds Try.pinned (OpenSpec.ofChange typingAllWrong)

/- THE SECOND FORM. 'bulk': how many values and letters a reading holds, each counted each time it is reached (what is shared counts as often as it is met; a slice's spare places count too). A statement '..UptoSaid' is the law's where the arguments, and the package variables that the reading takes, are together of bulk at most 1048576: NARROWER than '..Said'. Prove '..Said' where nothing that the law and all that it calls make is longer than what came in: it says more and counts as full. Else prove '..UptoSaid'. A law counts once. -/
mutual
def uptoBulk {H : Type} : DataW H → Nat
  | .lit (.string bytes) => bytes.length + 1
  | .lit _ => 1
  | .nil => 1
  | .ptr d => uptoBulk d + 1
  | .slice elems spare => uptoBulkAll elems + uptoBulkAll spare + 1
  | .agg parts => uptoBulkAll parts + 1
  | .iface _ d => uptoBulk d + 1
  | .map entries => uptoBulkEntries entries + 1
  | .held _ => 1
def uptoBulkAll {H : Type} : List (DataW H) → Nat
  | [] => 0
  | d :: r => uptoBulk d + uptoBulkAll r
def uptoBulkEntries {H : Type} : List (Lit × DataW H) → Nat
  | [] => 0
  | x :: r => uptoBulkEntry x + uptoBulkEntries r
def uptoBulkEntry {H : Type} : Lit × DataW H → Nat
  | (.string bytes, d) => bytes.length + uptoBulk d + 1
  | (_, d) => uptoBulk d + 1
 end
def uptoSmall : (H : Type) → List (DataW H) → Bool := fun _ ds => decide (uptoBulkAll ds ≤ 1048576)
def OpenSpec.upto (s : _root_.Go.ChangeSpec) : _root_.Go.OpenSpec := { _root_.Go.OpenSpec.ofChange s with cond := some uptoSmall }

/-- 'pawnshoplaw14.TypingRvalues', WHERE WHAT IT READS IS OF BULK AT MOST 1048576: true; the input reads as it did. -/
def typingRvaluesUptoRow : OpenClaim := { program := "ytacnjmmppgbmpaa", sum := "940ed50798d98c295ab18fa18f1e55c1c607cc0169a017b8cb003b283daa3168", func := "pawnshop/pawnshoplaw14.TypingRvalues", spec := "typingRvalues", apart := false, narrowed := true }
def TypingRvaluesUptoSaid : Prop := typingRvaluesUptoRow.holds Try.pinned (OpenSpec.upto typingRvaluesSpec)

/-- 'pawnshoplaw14.TypingOne', WHERE WHAT IT READS IS OF BULK AT MOST 1048576: true; the input reads as it did. -/
def typingOneUptoRow : OpenClaim := { program := "ytacnjmmppgbmpaa", sum := "940ed50798d98c295ab18fa18f1e55c1c607cc0169a017b8cb003b283daa3168", func := "pawnshop/pawnshoplaw14.TypingOne", spec := "typingOne", apart := false, narrowed := true }
def TypingOneUptoSaid : Prop := typingOneUptoRow.holds Try.pinned (OpenSpec.upto typingOneSpec)

/-- 'pawnshoplaw14.TypingRefs', WHERE WHAT IT READS IS OF BULK AT MOST 1048576: true; the input reads as it did. -/
def typingRefsUptoRow : OpenClaim := { program := "ytacnjmmppgbmpaa", sum := "940ed50798d98c295ab18fa18f1e55c1c607cc0169a017b8cb003b283daa3168", func := "pawnshop/pawnshoplaw14.TypingRefs", spec := "typingRefs", apart := false, narrowed := true }
def TypingRefsUptoSaid : Prop := typingRefsUptoRow.holds Try.pinned (OpenSpec.upto typingRefsSpec)

/-- 'pawnshoplaw14.TypingStmts', WHERE WHAT IT READS IS OF BULK AT MOST 1048576: true; the input reads as it did. -/
def typingStmtsUptoRow : OpenClaim := { program := "ytacnjmmppgbmpaa", sum := "940ed50798d98c295ab18fa18f1e55c1c607cc0169a017b8cb003b283daa3168", func := "pawnshop/pawnshoplaw14.TypingStmts", spec := "typingStmts", unfollowed := true, recurses := true, apart := false, narrowed := true }
def TypingStmtsUptoSaid : Prop := typingStmtsUptoRow.holds Try.pinned (OpenSpec.upto typingStmtsSpec)

/-- 'pawnshoplaw14.TypingNames', WHERE WHAT IT READS IS OF BULK AT MOST 1048576: true; the input reads as it did. -/
def typingNamesUptoRow : OpenClaim := { program := "ytacnjmmppgbmpaa", sum := "940ed50798d98c295ab18fa18f1e55c1c607cc0169a017b8cb003b283daa3168", func := "pawnshop/pawnshoplaw14.TypingNames", spec := "typingNames", unfollowed := true, recurses := true, apart := false, narrowed := true }
def TypingNamesUptoSaid : Prop := typingNamesUptoRow.holds Try.pinned (OpenSpec.upto typingNamesSpec)

/-- 'pawnshoplaw14.TypingAll', WHERE WHAT IT READS IS OF BULK AT MOST 1048576: true; the input reads as it did. -/
def typingAllUptoRow : OpenClaim := { program := "ytacnjmmppgbmpaa", sum := "940ed50798d98c295ab18fa18f1e55c1c607cc0169a017b8cb003b283daa3168", func := "pawnshop/pawnshoplaw14.TypingAll", spec := "typingAll", unfollowed := true, recurses := true, apart := false, narrowed := true }
def TypingAllUptoSaid : Prop := typingAllUptoRow.holds Try.pinned (OpenSpec.upto typingAllSpec)

end Rows
end Go.Proofs.Ytacnjmmppgbmpaa
