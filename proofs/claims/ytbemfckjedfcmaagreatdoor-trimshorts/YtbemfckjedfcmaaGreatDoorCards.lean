/-
  DERIVED. GIVEN WITH THE SEED: THE CARDS: each row of YtbemfckjedfcmaaGreatDoorRows.lean that lists a variable, with what it lists TIED to the program's text (the seventh form; the later family's looks); each row that meets fmt, with fmt's text TOLD by the authors' own Lean function (tested against real Go, not proved from fmt's source: count such statements apart). THE CARD IS WHAT COUNTS. Prove the row's statement (the work); the ties are given (YtbemfckjedfcmaaGreatDoorTie.lean); close each card by the builder's one call (the guide's Derived/Test/ToyasCard.lean, 'card_holds'). Laid BY PROGRAM, IN A SANDBOX (cutbox-door.mjs). By AI agents, Wed Nov 11 2026. No macro, syntax, notation, axiom, sorry.
-/
import Derived.Test.YtbemfckjedfcmaaGreatDoorRows
import GoSem.ClaimSeven
namespace Go.Proofs.YtbemfckjedfcmaaGreatDoor
namespace Rows

/-- THE TIED CARD OF 'boxhedgelaw16.TrimPrograms'. -/
def trimProgramsCard : Claim7 := { stood := { row := trimProgramsRow, standIns := [], harness := (true, "08a47f62ca23f28c74a3d57f1336d5f2d2203110172275273ea506d8bf1cb483"), looks := true }, kinds := [], alts := [], laidByText := true, laidKinds := [.data, .data, .data], laidTests := true, laidLooks := .later }
def TrimProgramsCardSaid : Prop := Claim7.holds Tryz.pinned (.plain (OpenSpec.ofChange trimProgramsSpec)) trimProgramsCard

/-- THE TIED CARD OF 'boxhedgelaw16.TrimLoops'. -/
def trimLoopsCard : Claim7 := { stood := { row := trimLoopsRow, standIns := [], harness := (true, "08a47f62ca23f28c74a3d57f1336d5f2d2203110172275273ea506d8bf1cb483"), looks := true }, kinds := [], alts := [], laidByText := true, laidKinds := [.data, .data, .data], laidTests := true, laidLooks := .later }
def TrimLoopsCardSaid : Prop := Claim7.holds Tryz.pinned (.plain (OpenSpec.ofChange trimLoopsSpec)) trimLoopsCard

/-- THE TIED CARD OF 'boxhedgelaw16.TrimShorts'. -/
def trimShortsCard : Claim7 := { stood := { row := trimShortsRow, standIns := [], harness := (true, "08a47f62ca23f28c74a3d57f1336d5f2d2203110172275273ea506d8bf1cb483"), looks := true }, kinds := [], alts := [], laidByText := true, laidKinds := [.data, .data, .data], laidTests := true, laidLooks := .later }
def TrimShortsCardSaid : Prop := Claim7.holds Tryz.pinned (.plain (OpenSpec.ofChange trimShortsSpec)) trimShortsCard

/-- THE SECOND FORM's CARD OF 'boxhedgelaw16.TrimPrograms'. -/
def trimProgramsUptoCard : Claim7 := { stood := { row := trimProgramsUptoRow, standIns := [], harness := (true, "08a47f62ca23f28c74a3d57f1336d5f2d2203110172275273ea506d8bf1cb483"), looks := true }, kinds := [], alts := [], laidByText := true, laidKinds := [.data, .data, .data], laidTests := true, laidLooks := .later }
def TrimProgramsUptoCardSaid : Prop := Claim7.holds Tryz.pinned (.plain (OpenSpec.upto trimProgramsSpec)) trimProgramsUptoCard

/-- THE SECOND FORM's CARD OF 'boxhedgelaw16.TrimLoops'. -/
def trimLoopsUptoCard : Claim7 := { stood := { row := trimLoopsUptoRow, standIns := [], harness := (true, "08a47f62ca23f28c74a3d57f1336d5f2d2203110172275273ea506d8bf1cb483"), looks := true }, kinds := [], alts := [], laidByText := true, laidKinds := [.data, .data, .data], laidTests := true, laidLooks := .later }
def TrimLoopsUptoCardSaid : Prop := Claim7.holds Tryz.pinned (.plain (OpenSpec.upto trimLoopsSpec)) trimLoopsUptoCard

/-- THE SECOND FORM's CARD OF 'boxhedgelaw16.TrimShorts'. -/
def trimShortsUptoCard : Claim7 := { stood := { row := trimShortsUptoRow, standIns := [], harness := (true, "08a47f62ca23f28c74a3d57f1336d5f2d2203110172275273ea506d8bf1cb483"), looks := true }, kinds := [], alts := [], laidByText := true, laidKinds := [.data, .data, .data], laidTests := true, laidLooks := .later }
def TrimShortsUptoCardSaid : Prop := Claim7.holds Tryz.pinned (.plain (OpenSpec.upto trimShortsSpec)) trimShortsUptoCard
end Rows
end Go.Proofs.YtbemfckjedfcmaaGreatDoor
