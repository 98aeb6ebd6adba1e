/-
  DERIVED. GIVEN WITH THE SEED: THE CARDS: each row of YtdhllinkobindaaGreatDoorRows.lean that lists a variable, with what it lists TIED to the program's text (the seventh form; the later family's looks); each row that meets fmt, with fmt's text TOLD by the authors' own Lean function (tested against real Go, not proved from fmt's source: count such statements apart). THE CARD IS WHAT COUNTS. Prove the row's statement (the work); the ties are given (YtdhllinkobindaaGreatDoorTie.lean); close each card by the builder's one call (the guide's Derived/Test/ToyasCard.lean, 'card_holds'). Laid BY PROGRAM, IN A SANDBOX (cutbox-door.mjs). By AI agents, Wed Nov 11 2026. No macro, syntax, notation, axiom, sorry.
-/
import Derived.Test.YtdhllinkobindaaGreatDoorRows
import GoSem.ClaimSeven
namespace Go.Proofs.YtdhllinkobindaaGreatDoor
namespace Rows

/-- THE TIED CARD OF 'boxhedgelaw14.WantPrograms'. -/
def wantProgramsCard : Claim7 := { stood := { row := wantProgramsRow, standIns := [], harness := (true, "29187893dd20036e86bc286b5dd1dfc9730c07e84ede232c38d7005ec1b4bf48"), looks := true }, kinds := [], alts := [], laidByText := true, laidKinds := [.data, .data, .data], laidTests := true, laidLooks := .later }
def WantProgramsCardSaid : Prop := Claim7.holds Tryz.pinned (.plain (OpenSpec.ofChange wantProgramsSpec)) wantProgramsCard

/-- THE TIED CARD OF 'boxhedgelaw14.WantLoops'. -/
def wantLoopsCard : Claim7 := { stood := { row := wantLoopsRow, standIns := [], harness := (true, "29187893dd20036e86bc286b5dd1dfc9730c07e84ede232c38d7005ec1b4bf48"), looks := true }, kinds := [], alts := [], laidByText := true, laidKinds := [.data, .data, .data], laidTests := true, laidLooks := .later }
def WantLoopsCardSaid : Prop := Claim7.holds Tryz.pinned (.plain (OpenSpec.ofChange wantLoopsSpec)) wantLoopsCard

/-- THE TIED CARD OF 'boxhedgelaw14.WantArrays'. -/
def wantArraysCard : Claim7 := { stood := { row := wantArraysRow, standIns := [], harness := (true, "29187893dd20036e86bc286b5dd1dfc9730c07e84ede232c38d7005ec1b4bf48"), looks := true }, kinds := [], alts := [], laidByText := true, laidKinds := [.data, .data, .data], laidTests := true, laidLooks := .later }
def WantArraysCardSaid : Prop := Claim7.holds Tryz.pinned (.plain (OpenSpec.ofChange wantArraysSpec)) wantArraysCard

/-- THE SECOND FORM's CARD OF 'boxhedgelaw14.WantPrograms'. -/
def wantProgramsUptoCard : Claim7 := { stood := { row := wantProgramsUptoRow, standIns := [], harness := (true, "29187893dd20036e86bc286b5dd1dfc9730c07e84ede232c38d7005ec1b4bf48"), looks := true }, kinds := [], alts := [], laidByText := true, laidKinds := [.data, .data, .data], laidTests := true, laidLooks := .later }
def WantProgramsUptoCardSaid : Prop := Claim7.holds Tryz.pinned (.plain (OpenSpec.upto wantProgramsSpec)) wantProgramsUptoCard

/-- THE SECOND FORM's CARD OF 'boxhedgelaw14.WantLoops'. -/
def wantLoopsUptoCard : Claim7 := { stood := { row := wantLoopsUptoRow, standIns := [], harness := (true, "29187893dd20036e86bc286b5dd1dfc9730c07e84ede232c38d7005ec1b4bf48"), looks := true }, kinds := [], alts := [], laidByText := true, laidKinds := [.data, .data, .data], laidTests := true, laidLooks := .later }
def WantLoopsUptoCardSaid : Prop := Claim7.holds Tryz.pinned (.plain (OpenSpec.upto wantLoopsSpec)) wantLoopsUptoCard

/-- THE SECOND FORM's CARD OF 'boxhedgelaw14.WantArrays'. -/
def wantArraysUptoCard : Claim7 := { stood := { row := wantArraysUptoRow, standIns := [], harness := (true, "29187893dd20036e86bc286b5dd1dfc9730c07e84ede232c38d7005ec1b4bf48"), looks := true }, kinds := [], alts := [], laidByText := true, laidKinds := [.data, .data, .data], laidTests := true, laidLooks := .later }
def WantArraysUptoCardSaid : Prop := Claim7.holds Tryz.pinned (.plain (OpenSpec.upto wantArraysSpec)) wantArraysUptoCard
end Rows
end Go.Proofs.YtdhllinkobindaaGreatDoor
