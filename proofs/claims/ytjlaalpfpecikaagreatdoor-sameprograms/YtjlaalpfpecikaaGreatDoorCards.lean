/-
  DERIVED. GIVEN WITH THE SEED: THE CARDS: each row of YtjlaalpfpecikaaGreatDoorRows.lean that lists a variable, with what it lists TIED to the program's text (the seventh form; the later family's looks); each row that meets fmt, with fmt's text TOLD by the authors' own Lean function (tested against real Go, not proved from fmt's source: count such statements apart). THE CARD IS WHAT COUNTS. Prove the row's statement (the work); the ties are given (YtjlaalpfpecikaaGreatDoorTie.lean); close each card by the builder's one call (the guide's Derived/Test/ToyasCard.lean, 'card_holds'). Laid BY PROGRAM, IN A SANDBOX (cutbox-door.mjs). By AI agents, Wed Nov 11 2026. No macro, syntax, notation, axiom, sorry.
-/
import Derived.Test.YtjlaalpfpecikaaGreatDoorRows
import GoSem.ClaimSeven
namespace Go.Proofs.YtjlaalpfpecikaaGreatDoor
namespace Rows

/-- THE TIED CARD OF 'boxhedgelaw13.SamePrograms'. -/
def sameProgramsCard : Claim7 := { stood := { row := sameProgramsRow, standIns := [], harness := (true, "244c884938960747ccae1b2fb6e9b94bfeaaa023d621776261fad47c01e442b2"), looks := true }, kinds := [], alts := [], laidByText := true, laidKinds := [.data, .data, .data], laidTests := true, laidLooks := .later }
def SameProgramsCardSaid : Prop := Claim7.holds Tryz.pinned (.plain (OpenSpec.ofChange sameProgramsSpec)) sameProgramsCard

/-- THE TIED CARD OF 'boxhedgelaw13.SameLoops'. -/
def sameLoopsCard : Claim7 := { stood := { row := sameLoopsRow, standIns := [], harness := (true, "244c884938960747ccae1b2fb6e9b94bfeaaa023d621776261fad47c01e442b2"), looks := true }, kinds := [], alts := [], laidByText := true, laidKinds := [.data, .data, .data], laidTests := true, laidLooks := .later }
def SameLoopsCardSaid : Prop := Claim7.holds Tryz.pinned (.plain (OpenSpec.ofChange sameLoopsSpec)) sameLoopsCard

/-- THE TIED CARD OF 'boxhedgelaw13.SameArrays'. -/
def sameArraysCard : Claim7 := { stood := { row := sameArraysRow, standIns := [], harness := (true, "244c884938960747ccae1b2fb6e9b94bfeaaa023d621776261fad47c01e442b2"), looks := true }, kinds := [], alts := [], laidByText := true, laidKinds := [.data, .data, .data], laidTests := true, laidLooks := .later }
def SameArraysCardSaid : Prop := Claim7.holds Tryz.pinned (.plain (OpenSpec.ofChange sameArraysSpec)) sameArraysCard

/-- THE SECOND FORM's CARD OF 'boxhedgelaw13.SamePrograms'. -/
def sameProgramsUptoCard : Claim7 := { stood := { row := sameProgramsUptoRow, standIns := [], harness := (true, "244c884938960747ccae1b2fb6e9b94bfeaaa023d621776261fad47c01e442b2"), looks := true }, kinds := [], alts := [], laidByText := true, laidKinds := [.data, .data, .data], laidTests := true, laidLooks := .later }
def SameProgramsUptoCardSaid : Prop := Claim7.holds Tryz.pinned (.plain (OpenSpec.upto sameProgramsSpec)) sameProgramsUptoCard

/-- THE SECOND FORM's CARD OF 'boxhedgelaw13.SameLoops'. -/
def sameLoopsUptoCard : Claim7 := { stood := { row := sameLoopsUptoRow, standIns := [], harness := (true, "244c884938960747ccae1b2fb6e9b94bfeaaa023d621776261fad47c01e442b2"), looks := true }, kinds := [], alts := [], laidByText := true, laidKinds := [.data, .data, .data], laidTests := true, laidLooks := .later }
def SameLoopsUptoCardSaid : Prop := Claim7.holds Tryz.pinned (.plain (OpenSpec.upto sameLoopsSpec)) sameLoopsUptoCard

/-- THE SECOND FORM's CARD OF 'boxhedgelaw13.SameArrays'. -/
def sameArraysUptoCard : Claim7 := { stood := { row := sameArraysUptoRow, standIns := [], harness := (true, "244c884938960747ccae1b2fb6e9b94bfeaaa023d621776261fad47c01e442b2"), looks := true }, kinds := [], alts := [], laidByText := true, laidKinds := [.data, .data, .data], laidTests := true, laidLooks := .later }
def SameArraysUptoCardSaid : Prop := Claim7.holds Tryz.pinned (.plain (OpenSpec.upto sameArraysSpec)) sameArraysUptoCard
end Rows
end Go.Proofs.YtjlaalpfpecikaaGreatDoor
