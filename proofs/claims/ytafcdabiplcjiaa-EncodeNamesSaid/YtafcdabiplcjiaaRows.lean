/-
  No cell of these rows narrows 'for every input' (looked for: loops, veiled, ifaces, maps, wideKeys, modest, calm, conditions, laid).
  DERIVED. THE GIVEN ROWS OF THIS SEAT. 7 by the template 'for every input the law returns true; each argument reads behind the call as it read before'; 0 by the template 'total and deterministic' (their statements: YtafcdabiplcjiaaTotals.lean).
  GIVEN WITH THE SEED: the statements are not yours to turn. If you find one false, say at which input.
  Laid BY PROGRAM, IN A SANDBOX (cutbox-rows.mjs): the forced cells as the released guide's own fill.sh prints them over the translation 2361f09e37ffc9d4… (all of the seat's roots in one cut). By AI agents, Wed Nov 11 2026. No macro, syntax, notation, axiom, sorry.
-/
import Derived.Test.YtafcdabiplcjiaaChecked
import GoSem.Claim
import GoSem.ClaimJoined
import GoSem.ClaimMapViews
import Derived.JoinedTies
import Derived.KernelRfl
namespace Go.Proofs.Ytafcdabiplcjiaa
/- THE CELL 'sum', in the pinned program and in every row, IS THE sha256 OF THE DUMP (.gsa) THAT YtafcdabiplcjiaaProg.lean LOADS. Nothing in Lean hashes anything: it is a label: what it is worth is what the hold of that sum in a sandbox is worth. -/
noncomputable def Try.pinned : Pinned := { name := "ytafcdabiplcjiaa", sum := "2361f09e37ffc9d4f949d9da0b3204e5c9bf1206a5a5b053e02c62cef581fcfb", checked := Try.checked }
namespace Rows
def none {H : Type} : Left H := { results := [], args := [] }

/-- 'pawnshoplaw09.EncodeFuncs': WHATEVER THE INPUT: true; the input reads as it did. -/
def encodeFuncsSpec : ChangeSpec := { name := "encodeFuncs", fn := fun _ => fun
  | [d] => { results := [.lit (.bool true)], args := [d] }
  | _ => none }
def encodeFuncsRow : OpenClaim := { program := "ytafcdabiplcjiaa", sum := "2361f09e37ffc9d4f949d9da0b3204e5c9bf1206a5a5b053e02c62cef581fcfb", func := "pawnshop/pawnshoplaw09.EncodeFuncs", spec := "encodeFuncs", unfollowed := true, recurses := true, apart := false }
def EncodeFuncsSaid : Prop := encodeFuncsRow.holds Try.pinned (OpenSpec.ofChange encodeFuncsSpec)

/-- ITS FALSE NEIGHBOUR: 'it returns false'. Refute it at one input. -/
def encodeFuncsWrong : ChangeSpec := { name := "encodeFuncs", fn := fun _ => fun
  | [d] => { results := [.lit (.bool false)], args := [d] }
  | _ => none }
def EncodeFuncsWrongFalsely : Prop := encodeFuncsRow.holds Try.pinned (OpenSpec.ofChange encodeFuncsWrong)

/-- 'pawnshoplaw09.EncodeApart': WHATEVER THE INPUT: true; the input reads as it did. -/
def encodeApartSpec : ChangeSpec := { name := "encodeApart", fn := fun _ => fun
  | [d1, d2] => { results := [.lit (.bool true)], args := [d1, d2] }
  | _ => none }
def encodeApartRow : OpenClaim := { program := "ytafcdabiplcjiaa", sum := "2361f09e37ffc9d4f949d9da0b3204e5c9bf1206a5a5b053e02c62cef581fcfb", func := "pawnshop/pawnshoplaw09.EncodeApart", spec := "encodeApart", unfollowed := true, recurses := true, apart := false }
def EncodeApartSaid : Prop := encodeApartRow.holds Try.pinned (OpenSpec.ofChange encodeApartSpec)

/-- ITS FALSE NEIGHBOUR: 'it returns false'. Refute it at one input. -/
def encodeApartWrong : ChangeSpec := { name := "encodeApart", fn := fun _ => fun
  | [d1, d2] => { results := [.lit (.bool false)], args := [d1, d2] }
  | _ => none }
def EncodeApartWrongFalsely : Prop := encodeApartRow.holds Try.pinned (OpenSpec.ofChange encodeApartWrong)

/-- 'pawnshoplaw09.EncodeNames': WHATEVER THE INPUT: true; the input reads as it did. -/
def encodeNamesSpec : ChangeSpec := { name := "encodeNames", fn := fun _ => fun
  | [] => { results := [.lit (.bool true)], args := [] }
  | _ => none }
def encodeNamesRow : OpenClaim := { program := "ytafcdabiplcjiaa", sum := "2361f09e37ffc9d4f949d9da0b3204e5c9bf1206a5a5b053e02c62cef581fcfb", func := "pawnshop/pawnshoplaw09.EncodeNames", spec := "encodeNames", unfollowed := true, recurses := true, apart := false }
def EncodeNamesSaid : Prop := encodeNamesRow.holds Try.pinned (OpenSpec.ofChange encodeNamesSpec)

/-- ITS FALSE NEIGHBOUR: 'it returns false'. Refute it at one input. -/
def encodeNamesWrong : ChangeSpec := { name := "encodeNames", fn := fun _ => fun
  | [] => { results := [.lit (.bool false)], args := [] }
  | _ => none }
def EncodeNamesWrongFalsely : Prop := encodeNamesRow.holds Try.pinned (OpenSpec.ofChange encodeNamesWrong)

/-- 'pawnshoplaw09.EncodeParts': WHATEVER THE INPUT: true; the input reads as it did. -/
def encodePartsSpec : ChangeSpec := { name := "encodeParts", fn := fun _ => fun
  | [d] => { results := [.lit (.bool true)], args := [d] }
  | _ => none }
def encodePartsRow : OpenClaim := { program := "ytafcdabiplcjiaa", sum := "2361f09e37ffc9d4f949d9da0b3204e5c9bf1206a5a5b053e02c62cef581fcfb", func := "pawnshop/pawnshoplaw09.EncodeParts", spec := "encodeParts", unfollowed := true, recurses := true, apart := false }
def EncodePartsSaid : Prop := encodePartsRow.holds Try.pinned (OpenSpec.ofChange encodePartsSpec)

/-- ITS FALSE NEIGHBOUR: 'it returns false'. Refute it at one input. -/
def encodePartsWrong : ChangeSpec := { name := "encodeParts", fn := fun _ => fun
  | [d] => { results := [.lit (.bool false)], args := [d] }
  | _ => none }
def EncodePartsWrongFalsely : Prop := encodePartsRow.holds Try.pinned (OpenSpec.ofChange encodePartsWrong)

/-- 'pawnshoplaw09.EncodeHead': WHATEVER THE INPUT: true; the input reads as it did. -/
def encodeHeadSpec : ChangeSpec := { name := "encodeHead", fn := fun _ => fun
  | [d] => { results := [.lit (.bool true)], args := [d] }
  | _ => none }
def encodeHeadRow : OpenClaim := { program := "ytafcdabiplcjiaa", sum := "2361f09e37ffc9d4f949d9da0b3204e5c9bf1206a5a5b053e02c62cef581fcfb", func := "pawnshop/pawnshoplaw09.EncodeHead", spec := "encodeHead", unfollowed := true, recurses := true, apart := false }
def EncodeHeadSaid : Prop := encodeHeadRow.holds Try.pinned (OpenSpec.ofChange encodeHeadSpec)

/-- ITS FALSE NEIGHBOUR: 'it returns false'. Refute it at one input. -/
def encodeHeadWrong : ChangeSpec := { name := "encodeHead", fn := fun _ => fun
  | [d] => { results := [.lit (.bool false)], args := [d] }
  | _ => none }
def EncodeHeadWrongFalsely : Prop := encodeHeadRow.holds Try.pinned (OpenSpec.ofChange encodeHeadWrong)

/-- 'pawnshoplaw10.DecodeNames': WHATEVER THE INPUT: true; the input reads as it did. -/
def decodeNamesSpec : ChangeSpec := { name := "decodeNames", fn := fun _ => fun
  | [] => { results := [.lit (.bool true)], args := [] }
  | _ => none }
def decodeNamesRow : OpenClaim := { program := "ytafcdabiplcjiaa", sum := "2361f09e37ffc9d4f949d9da0b3204e5c9bf1206a5a5b053e02c62cef581fcfb", func := "pawnshop/pawnshoplaw10.DecodeNames", spec := "decodeNames", unfollowed := true, recurses := true, apart := false }
def DecodeNamesSaid : Prop := decodeNamesRow.holds Try.pinned (OpenSpec.ofChange decodeNamesSpec)

/-- ITS FALSE NEIGHBOUR: 'it returns false'. Refute it at one input. -/
def decodeNamesWrong : ChangeSpec := { name := "decodeNames", fn := fun _ => fun
  | [] => { results := [.lit (.bool false)], args := [] }
  | _ => none }
def DecodeNamesWrongFalsely : Prop := decodeNamesRow.holds Try.pinned (OpenSpec.ofChange decodeNamesWrong)

/-- 'pawnshoplaw10.DecodeFuncs': WHATEVER THE INPUT: true; the input reads as it did. -/
def decodeFuncsSpec : ChangeSpec := { name := "decodeFuncs", fn := fun _ => fun
  | [d] => { results := [.lit (.bool true)], args := [d] }
  | _ => none }
def decodeFuncsRow : OpenClaim := { program := "ytafcdabiplcjiaa", sum := "2361f09e37ffc9d4f949d9da0b3204e5c9bf1206a5a5b053e02c62cef581fcfb", func := "pawnshop/pawnshoplaw10.DecodeFuncs", spec := "decodeFuncs", unfollowed := true, recurses := true, apart := false }
def DecodeFuncsSaid : Prop := decodeFuncsRow.holds Try.pinned (OpenSpec.ofChange decodeFuncsSpec)

/-- ITS FALSE NEIGHBOUR: 'it returns false'. Refute it at one input. -/
def decodeFuncsWrong : ChangeSpec := { name := "decodeFuncs", fn := fun _ => fun
  | [d] => { results := [.lit (.bool false)], args := [d] }
  | _ => none }
def DecodeFuncsWrongFalsely : Prop := decodeFuncsRow.holds Try.pinned (OpenSpec.ofChange decodeFuncsWrong)

/- THE SECOND FORM. 'bulk': how many values and letters a reading holds, each counted each time it is reached (what is shared counts as often as it is met; a slice's spare places count too). A statement '..UptoSaid' is the law's where the arguments, and the package variables that the reading takes, are together of bulk at most 1048576: NARROWER than '..Said'. Prove '..Said' where nothing that the law and all that it calls make is longer than what came in: it says more and counts as full. Else prove '..UptoSaid'. A law counts once. -/
mutual
def uptoBulk {H : Type} : DataW H → Nat
  | .lit (.string bytes) => bytes.length + 1
  | .lit _ => 1
  | .nil => 1
  | .ptr d => uptoBulk d + 1
  | .slice elems spare => uptoBulkAll elems + uptoBulkAll spare + 1
  | .agg parts => uptoBulkAll parts + 1
  | .iface _ d => uptoBulk d + 1
  | .map entries => uptoBulkEntries entries + 1
  | .held _ => 1
def uptoBulkAll {H : Type} : List (DataW H) → Nat
  | [] => 0
  | d :: r => uptoBulk d + uptoBulkAll r
def uptoBulkEntries {H : Type} : List (Lit × DataW H) → Nat
  | [] => 0
  | x :: r => uptoBulkEntry x + uptoBulkEntries r
def uptoBulkEntry {H : Type} : Lit × DataW H → Nat
  | (.string bytes, d) => bytes.length + uptoBulk d + 1
  | (_, d) => uptoBulk d + 1
 end
def uptoSmall : (H : Type) → List (DataW H) → Bool := fun _ ds => decide (uptoBulkAll ds ≤ 1048576)
def OpenSpec.upto (s : _root_.Go.ChangeSpec) : _root_.Go.OpenSpec := { _root_.Go.OpenSpec.ofChange s with cond := some uptoSmall }

/-- 'pawnshoplaw09.EncodeFuncs', WHERE WHAT IT READS IS OF BULK AT MOST 1048576: true; the input reads as it did. -/
def encodeFuncsUptoRow : OpenClaim := { program := "ytafcdabiplcjiaa", sum := "2361f09e37ffc9d4f949d9da0b3204e5c9bf1206a5a5b053e02c62cef581fcfb", func := "pawnshop/pawnshoplaw09.EncodeFuncs", spec := "encodeFuncs", unfollowed := true, recurses := true, apart := false, narrowed := true }
def EncodeFuncsUptoSaid : Prop := encodeFuncsUptoRow.holds Try.pinned (OpenSpec.upto encodeFuncsSpec)

/-- 'pawnshoplaw09.EncodeApart', WHERE WHAT IT READS IS OF BULK AT MOST 1048576: true; the input reads as it did. -/
def encodeApartUptoRow : OpenClaim := { program := "ytafcdabiplcjiaa", sum := "2361f09e37ffc9d4f949d9da0b3204e5c9bf1206a5a5b053e02c62cef581fcfb", func := "pawnshop/pawnshoplaw09.EncodeApart", spec := "encodeApart", unfollowed := true, recurses := true, apart := false, narrowed := true }
def EncodeApartUptoSaid : Prop := encodeApartUptoRow.holds Try.pinned (OpenSpec.upto encodeApartSpec)

/-- 'pawnshoplaw09.EncodeNames', WHERE WHAT IT READS IS OF BULK AT MOST 1048576: true; the input reads as it did. -/
def encodeNamesUptoRow : OpenClaim := { program := "ytafcdabiplcjiaa", sum := "2361f09e37ffc9d4f949d9da0b3204e5c9bf1206a5a5b053e02c62cef581fcfb", func := "pawnshop/pawnshoplaw09.EncodeNames", spec := "encodeNames", unfollowed := true, recurses := true, apart := false, narrowed := true }
def EncodeNamesUptoSaid : Prop := encodeNamesUptoRow.holds Try.pinned (OpenSpec.upto encodeNamesSpec)

/-- 'pawnshoplaw09.EncodeParts', WHERE WHAT IT READS IS OF BULK AT MOST 1048576: true; the input reads as it did. -/
def encodePartsUptoRow : OpenClaim := { program := "ytafcdabiplcjiaa", sum := "2361f09e37ffc9d4f949d9da0b3204e5c9bf1206a5a5b053e02c62cef581fcfb", func := "pawnshop/pawnshoplaw09.EncodeParts", spec := "encodeParts", unfollowed := true, recurses := true, apart := false, narrowed := true }
def EncodePartsUptoSaid : Prop := encodePartsUptoRow.holds Try.pinned (OpenSpec.upto encodePartsSpec)

/-- 'pawnshoplaw09.EncodeHead', WHERE WHAT IT READS IS OF BULK AT MOST 1048576: true; the input reads as it did. -/
def encodeHeadUptoRow : OpenClaim := { program := "ytafcdabiplcjiaa", sum := "2361f09e37ffc9d4f949d9da0b3204e5c9bf1206a5a5b053e02c62cef581fcfb", func := "pawnshop/pawnshoplaw09.EncodeHead", spec := "encodeHead", unfollowed := true, recurses := true, apart := false, narrowed := true }
def EncodeHeadUptoSaid : Prop := encodeHeadUptoRow.holds Try.pinned (OpenSpec.upto encodeHeadSpec)

/-- 'pawnshoplaw10.DecodeNames', WHERE WHAT IT READS IS OF BULK AT MOST 1048576: true; the input reads as it did. -/
def decodeNamesUptoRow : OpenClaim := { program := "ytafcdabiplcjiaa", sum := "2361f09e37ffc9d4f949d9da0b3204e5c9bf1206a5a5b053e02c62cef581fcfb", func := "pawnshop/pawnshoplaw10.DecodeNames", spec := "decodeNames", unfollowed := true, recurses := true, apart := false, narrowed := true }
def DecodeNamesUptoSaid : Prop := decodeNamesUptoRow.holds Try.pinned (OpenSpec.upto decodeNamesSpec)

/-- 'pawnshoplaw10.DecodeFuncs', WHERE WHAT IT READS IS OF BULK AT MOST 1048576: true; the input reads as it did. -/
def decodeFuncsUptoRow : OpenClaim := { program := "ytafcdabiplcjiaa", sum := "2361f09e37ffc9d4f949d9da0b3204e5c9bf1206a5a5b053e02c62cef581fcfb", func := "pawnshop/pawnshoplaw10.DecodeFuncs", spec := "decodeFuncs", unfollowed := true, recurses := true, apart := false, narrowed := true }
def DecodeFuncsUptoSaid : Prop := decodeFuncsUptoRow.holds Try.pinned (OpenSpec.upto decodeFuncsSpec)

end Rows
end Go.Proofs.Ytafcdabiplcjiaa
