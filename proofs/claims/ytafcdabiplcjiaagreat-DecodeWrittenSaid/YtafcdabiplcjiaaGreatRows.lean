/-
  No cell of these rows narrows 'for every input' (looked for: loops, veiled, ifaces, maps, wideKeys, modest, calm, conditions, laid).
  DERIVED. THE GIVEN ROWS OF THIS SEAT. 5 by the template 'for every input the law returns true; each argument reads behind the call as it read before'; 0 by the template 'total and deterministic' (their statements: YtafcdabiplcjiaaGreatTotals.lean).
  GIVEN WITH THE SEED: the statements are not yours to turn. If you find one false, say at which input.
  Laid BY PROGRAM, IN A SANDBOX (cutbox-rows.mjs): the forced cells as the released guide's own fill.sh prints them over the translation a4bba86b10c658ce… (all of the seat's roots in one cut). By AI agents, Wed Nov 11 2026. No macro, syntax, notation, axiom, sorry.
-/
import Derived.Test.YtafcdabiplcjiaaGreatChecked
import GoSem.Claim
import GoSem.ClaimJoined
import GoSem.ClaimMapViews
import Derived.JoinedTies
import Derived.KernelRfl
namespace Go.Proofs.YtafcdabiplcjiaaGreat
/- THE CELL 'sum', in the pinned program and in every row, IS THE sha256 OF THE DUMP (.gsa) THAT YtafcdabiplcjiaaGreatProg.lean LOADS. Nothing in Lean hashes anything: it is a label: what it is worth is what the hold of that sum in a sandbox is worth. -/
noncomputable def Tryz.pinned : Pinned := { name := "ytafcdabiplcjiaagreat", sum := "a4bba86b10c658ce514b6a79ac746fc7adbb44e96726533746352f28f2b2ff8a", checked := Tryz.checked }
namespace Rows
def none {H : Type} : Left H := { results := [], args := [] }

/-- 'pawnshoplaw09.EncodePrograms': WHATEVER THE INPUT: true; the input reads as it did. -/
def encodeProgramsSpec : ChangeSpec := { name := "encodePrograms", fn := fun _ => fun
  | [d] => { results := [.lit (.bool true)], args := [d] }
  | _ => none }
def encodeProgramsRow : OpenClaim := { program := "ytafcdabiplcjiaagreat", sum := "a4bba86b10c658ce514b6a79ac746fc7adbb44e96726533746352f28f2b2ff8a", func := "pawnshop/pawnshoplaw09.EncodePrograms", spec := "encodePrograms", unfollowed := true, recurses := true, apart := false }
def EncodeProgramsSaid : Prop := encodeProgramsRow.holds Tryz.pinned (OpenSpec.ofChange encodeProgramsSpec)

/-- ITS FALSE NEIGHBOUR: 'it returns false'. Refute it at one input. -/
def encodeProgramsWrong : ChangeSpec := { name := "encodePrograms", fn := fun _ => fun
  | [d] => { results := [.lit (.bool false)], args := [d] }
  | _ => none }
def EncodeProgramsWrongFalsely : Prop := encodeProgramsRow.holds Tryz.pinned (OpenSpec.ofChange encodeProgramsWrong)

/-- 'pawnshoplaw10.DecodeOne': WHATEVER THE INPUT: true; the input reads as it did. -/
def decodeOneSpec : ChangeSpec := { name := "decodeOne", fn := fun _ => fun
  | [d1, d2, d3] => { results := [.lit (.bool true)], args := [d1, d2, d3] }
  | _ => none }
def decodeOneRow : OpenClaim := { program := "ytafcdabiplcjiaagreat", sum := "a4bba86b10c658ce514b6a79ac746fc7adbb44e96726533746352f28f2b2ff8a", func := "pawnshop/pawnshoplaw10.DecodeOne", spec := "decodeOne", unfollowed := true, recurses := true, apart := false }
def DecodeOneSaid : Prop := decodeOneRow.holds Tryz.pinned (OpenSpec.ofChange decodeOneSpec)

/-- ITS FALSE NEIGHBOUR: 'it returns false'. Refute it at one input. -/
def decodeOneWrong : ChangeSpec := { name := "decodeOne", fn := fun _ => fun
  | [d1, d2, d3] => { results := [.lit (.bool false)], args := [d1, d2, d3] }
  | _ => none }
def DecodeOneWrongFalsely : Prop := decodeOneRow.holds Tryz.pinned (OpenSpec.ofChange decodeOneWrong)

/-- 'pawnshoplaw10.DecodeReads': WHATEVER THE INPUT: true; the input reads as it did. -/
def decodeReadsSpec : ChangeSpec := { name := "decodeReads", fn := fun _ => fun
  | [d] => { results := [.lit (.bool true)], args := [d] }
  | _ => none }
def decodeReadsRow : OpenClaim := { program := "ytafcdabiplcjiaagreat", sum := "a4bba86b10c658ce514b6a79ac746fc7adbb44e96726533746352f28f2b2ff8a", func := "pawnshop/pawnshoplaw10.DecodeReads", spec := "decodeReads", unfollowed := true, recurses := true, apart := false }
def DecodeReadsSaid : Prop := decodeReadsRow.holds Tryz.pinned (OpenSpec.ofChange decodeReadsSpec)

/-- ITS FALSE NEIGHBOUR: 'it returns false'. Refute it at one input. -/
def decodeReadsWrong : ChangeSpec := { name := "decodeReads", fn := fun _ => fun
  | [d] => { results := [.lit (.bool false)], args := [d] }
  | _ => none }
def DecodeReadsWrongFalsely : Prop := decodeReadsRow.holds Tryz.pinned (OpenSpec.ofChange decodeReadsWrong)

/-- 'pawnshoplaw10.DecodeBack': WHATEVER THE INPUT: true; the input reads as it did. -/
def decodeBackSpec : ChangeSpec := { name := "decodeBack", fn := fun _ => fun
  | [d] => { results := [.lit (.bool true)], args := [d] }
  | _ => none }
def decodeBackRow : OpenClaim := { program := "ytafcdabiplcjiaagreat", sum := "a4bba86b10c658ce514b6a79ac746fc7adbb44e96726533746352f28f2b2ff8a", func := "pawnshop/pawnshoplaw10.DecodeBack", spec := "decodeBack", unfollowed := true, recurses := true, apart := false }
def DecodeBackSaid : Prop := decodeBackRow.holds Tryz.pinned (OpenSpec.ofChange decodeBackSpec)

/-- ITS FALSE NEIGHBOUR: 'it returns false'. Refute it at one input. -/
def decodeBackWrong : ChangeSpec := { name := "decodeBack", fn := fun _ => fun
  | [d] => { results := [.lit (.bool false)], args := [d] }
  | _ => none }
def DecodeBackWrongFalsely : Prop := decodeBackRow.holds Tryz.pinned (OpenSpec.ofChange decodeBackWrong)

/-- 'pawnshoplaw10.DecodeWritten': WHATEVER THE INPUT: true; the input reads as it did. -/
def decodeWrittenSpec : ChangeSpec := { name := "decodeWritten", fn := fun _ => fun
  | [d1, d2, d3] => { results := [.lit (.bool true)], args := [d1, d2, d3] }
  | _ => none }
def decodeWrittenRow : OpenClaim := { program := "ytafcdabiplcjiaagreat", sum := "a4bba86b10c658ce514b6a79ac746fc7adbb44e96726533746352f28f2b2ff8a", func := "pawnshop/pawnshoplaw10.DecodeWritten", spec := "decodeWritten", unfollowed := true, recurses := true, apart := false }
def DecodeWrittenSaid : Prop := decodeWrittenRow.holds Tryz.pinned (OpenSpec.ofChange decodeWrittenSpec)

/-- ITS FALSE NEIGHBOUR: 'it returns false'. Refute it at one input. -/
def decodeWrittenWrong : ChangeSpec := { name := "decodeWritten", fn := fun _ => fun
  | [d1, d2, d3] => { results := [.lit (.bool false)], args := [d1, d2, d3] }
  | _ => none }
def DecodeWrittenWrongFalsely : Prop := decodeWrittenRow.holds Tryz.pinned (OpenSpec.ofChange decodeWrittenWrong)

/- THE SECOND FORM. 'bulk': how many values and letters a reading holds, each counted each time it is reached (what is shared counts as often as it is met; a slice's spare places count too). A statement '..UptoSaid' is the law's where the arguments, and the package variables that the reading takes, are together of bulk at most 1048576: NARROWER than '..Said'. Prove '..Said' where nothing that the law and all that it calls make is longer than what came in: it says more and counts as full. Else prove '..UptoSaid'. A law counts once. -/
mutual
def uptoBulk {H : Type} : DataW H → Nat
  | .lit (.string bytes) => bytes.length + 1
  | .lit _ => 1
  | .nil => 1
  | .ptr d => uptoBulk d + 1
  | .slice elems spare => uptoBulkAll elems + uptoBulkAll spare + 1
  | .agg parts => uptoBulkAll parts + 1
  | .iface _ d => uptoBulk d + 1
  | .map entries => uptoBulkEntries entries + 1
  | .held _ => 1
def uptoBulkAll {H : Type} : List (DataW H) → Nat
  | [] => 0
  | d :: r => uptoBulk d + uptoBulkAll r
def uptoBulkEntries {H : Type} : List (Lit × DataW H) → Nat
  | [] => 0
  | x :: r => uptoBulkEntry x + uptoBulkEntries r
def uptoBulkEntry {H : Type} : Lit × DataW H → Nat
  | (.string bytes, d) => bytes.length + uptoBulk d + 1
  | (_, d) => uptoBulk d + 1
 end
def uptoSmall : (H : Type) → List (DataW H) → Bool := fun _ ds => decide (uptoBulkAll ds ≤ 1048576)
def OpenSpec.upto (s : _root_.Go.ChangeSpec) : _root_.Go.OpenSpec := { _root_.Go.OpenSpec.ofChange s with cond := some uptoSmall }

/-- 'pawnshoplaw09.EncodePrograms', WHERE WHAT IT READS IS OF BULK AT MOST 1048576: true; the input reads as it did. -/
def encodeProgramsUptoRow : OpenClaim := { program := "ytafcdabiplcjiaagreat", sum := "a4bba86b10c658ce514b6a79ac746fc7adbb44e96726533746352f28f2b2ff8a", func := "pawnshop/pawnshoplaw09.EncodePrograms", spec := "encodePrograms", unfollowed := true, recurses := true, apart := false, narrowed := true }
def EncodeProgramsUptoSaid : Prop := encodeProgramsUptoRow.holds Tryz.pinned (OpenSpec.upto encodeProgramsSpec)

/-- 'pawnshoplaw10.DecodeOne', WHERE WHAT IT READS IS OF BULK AT MOST 1048576: true; the input reads as it did. -/
def decodeOneUptoRow : OpenClaim := { program := "ytafcdabiplcjiaagreat", sum := "a4bba86b10c658ce514b6a79ac746fc7adbb44e96726533746352f28f2b2ff8a", func := "pawnshop/pawnshoplaw10.DecodeOne", spec := "decodeOne", unfollowed := true, recurses := true, apart := false, narrowed := true }
def DecodeOneUptoSaid : Prop := decodeOneUptoRow.holds Tryz.pinned (OpenSpec.upto decodeOneSpec)

/-- 'pawnshoplaw10.DecodeReads', WHERE WHAT IT READS IS OF BULK AT MOST 1048576: true; the input reads as it did. -/
def decodeReadsUptoRow : OpenClaim := { program := "ytafcdabiplcjiaagreat", sum := "a4bba86b10c658ce514b6a79ac746fc7adbb44e96726533746352f28f2b2ff8a", func := "pawnshop/pawnshoplaw10.DecodeReads", spec := "decodeReads", unfollowed := true, recurses := true, apart := false, narrowed := true }
def DecodeReadsUptoSaid : Prop := decodeReadsUptoRow.holds Tryz.pinned (OpenSpec.upto decodeReadsSpec)

/-- 'pawnshoplaw10.DecodeBack', WHERE WHAT IT READS IS OF BULK AT MOST 1048576: true; the input reads as it did. -/
def decodeBackUptoRow : OpenClaim := { program := "ytafcdabiplcjiaagreat", sum := "a4bba86b10c658ce514b6a79ac746fc7adbb44e96726533746352f28f2b2ff8a", func := "pawnshop/pawnshoplaw10.DecodeBack", spec := "decodeBack", unfollowed := true, recurses := true, apart := false, narrowed := true }
def DecodeBackUptoSaid : Prop := decodeBackUptoRow.holds Tryz.pinned (OpenSpec.upto decodeBackSpec)

/-- 'pawnshoplaw10.DecodeWritten', WHERE WHAT IT READS IS OF BULK AT MOST 1048576: true; the input reads as it did. -/
def decodeWrittenUptoRow : OpenClaim := { program := "ytafcdabiplcjiaagreat", sum := "a4bba86b10c658ce514b6a79ac746fc7adbb44e96726533746352f28f2b2ff8a", func := "pawnshop/pawnshoplaw10.DecodeWritten", spec := "decodeWritten", unfollowed := true, recurses := true, apart := false, narrowed := true }
def DecodeWrittenUptoSaid : Prop := decodeWrittenUptoRow.holds Tryz.pinned (OpenSpec.upto decodeWrittenSpec)

end Rows
end Go.Proofs.YtafcdabiplcjiaaGreat
