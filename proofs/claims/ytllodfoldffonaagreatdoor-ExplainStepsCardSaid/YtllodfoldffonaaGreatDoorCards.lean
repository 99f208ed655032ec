/-
  DERIVED. GIVEN WITH THE SEED: THE CARDS: each row of YtllodfoldffonaaGreatDoorRows.lean that lists a variable, with what it lists TIED to the program's text (the seventh form; the later family's looks); each row that meets fmt, with fmt's text TOLD by the authors' own Lean function (tested against real Go, not proved from fmt's source: count such statements apart). THE CARD IS WHAT COUNTS. Prove the row's statement (the work); the ties are given (YtllodfoldffonaaGreatDoorTie.lean); close each card by the builder's one call (the guide's Derived/Test/ToyasCard.lean, 'card_holds'). Laid BY PROGRAM, IN A SANDBOX (cutbox-door.mjs). By AI agents, Wed Nov 11 2026. No macro, syntax, notation, axiom, sorry.
-/
import Derived.Test.YtllodfoldffonaaGreatDoorRows
import GoSem.ClaimSeven
namespace Go.Proofs.YtllodfoldffonaaGreatDoor
namespace Rows

/-- THE TIED CARD OF 'pawnshoplaw43.ExplainLists'. -/
def explainListsCard : Claim7 := { stood := { row := explainListsRow, standIns := [], harness := (true, "49c5a961c9de1053067c317d6bfc9ddab14011b0a5d59849221f06a63127a229"), looks := false }, kinds := [], alts := [], laidByText := true, laidKinds := [.data], laidTests := true, laidLooks := .later }
def ExplainListsCardSaid : Prop := Claim7.holds Tryz.pinned (.plain (OpenSpec.ofChange explainListsSpec)) explainListsCard

/-- THE TIED CARD OF 'pawnshoplaw43.ExplainSteps'. -/
def explainStepsCard : Claim7 := { stood := { row := explainStepsRow, standIns := [], harness := (true, "49c5a961c9de1053067c317d6bfc9ddab14011b0a5d59849221f06a63127a229"), looks := false }, kinds := [], alts := [], laidByText := true, laidKinds := [.data], laidTests := true, laidLooks := .later }
def ExplainStepsCardSaid : Prop := Claim7.holds Tryz.pinned (.plain (OpenSpec.ofChange explainStepsSpec)) explainStepsCard

/-- THE SECOND FORM's CARD OF 'pawnshoplaw43.ExplainLists'. -/
def explainListsUptoCard : Claim7 := { stood := { row := explainListsUptoRow, standIns := [], harness := (true, "49c5a961c9de1053067c317d6bfc9ddab14011b0a5d59849221f06a63127a229"), looks := false }, kinds := [], alts := [], laidByText := true, laidKinds := [.data], laidTests := true, laidLooks := .later }
def ExplainListsUptoCardSaid : Prop := Claim7.holds Tryz.pinned (.plain (OpenSpec.upto explainListsSpec)) explainListsUptoCard

/-- THE SECOND FORM's CARD OF 'pawnshoplaw43.ExplainSteps'. -/
def explainStepsUptoCard : Claim7 := { stood := { row := explainStepsUptoRow, standIns := [], harness := (true, "49c5a961c9de1053067c317d6bfc9ddab14011b0a5d59849221f06a63127a229"), looks := false }, kinds := [], alts := [], laidByText := true, laidKinds := [.data], laidTests := true, laidLooks := .later }
def ExplainStepsUptoCardSaid : Prop := Claim7.holds Tryz.pinned (.plain (OpenSpec.upto explainStepsSpec)) explainStepsUptoCard
end Rows
end Go.Proofs.YtllodfoldffonaaGreatDoor
