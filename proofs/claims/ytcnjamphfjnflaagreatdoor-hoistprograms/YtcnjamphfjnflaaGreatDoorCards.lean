/-
  DERIVED. GIVEN WITH THE SEED: THE CARDS: each row of YtcnjamphfjnflaaGreatDoorRows.lean that lists a variable, with what it lists TIED to the program's text (the seventh form; the later family's looks); each row that meets fmt, with fmt's text TOLD by the authors' own Lean function (tested against real Go, not proved from fmt's source: count such statements apart). THE CARD IS WHAT COUNTS. Prove the row's statement (the work); the ties are given (YtcnjamphfjnflaaGreatDoorTie.lean); close each card by the builder's one call (the guide's Derived/Test/ToyasCard.lean, 'card_holds'). Laid BY PROGRAM, IN A SANDBOX (cutbox-door.mjs). By AI agents, Wed Nov 11 2026. No macro, syntax, notation, axiom, sorry.
-/
import Derived.Test.YtcnjamphfjnflaaGreatDoorRows
import GoSem.ClaimSeven
namespace Go.Proofs.YtcnjamphfjnflaaGreatDoor
namespace Rows

/-- THE TIED CARD OF 'boxhedgelaw15.HoistPrograms'. -/
def hoistProgramsCard : Claim7 := { stood := { row := hoistProgramsRow, standIns := [], harness := (true, "ea26a07a0b81ccf61db220fc5ee7147de8d1c0f692f3043dfd9089a7b1ab5796"), looks := true }, kinds := [], alts := [], laidByText := true, laidKinds := [.data, .data, .data], laidTests := true, laidLooks := .later }
def HoistProgramsCardSaid : Prop := Claim7.holds Tryz.pinned (.plain (OpenSpec.ofChange hoistProgramsSpec)) hoistProgramsCard

/-- THE TIED CARD OF 'boxhedgelaw15.HoistLoops'. -/
def hoistLoopsCard : Claim7 := { stood := { row := hoistLoopsRow, standIns := [], harness := (true, "ea26a07a0b81ccf61db220fc5ee7147de8d1c0f692f3043dfd9089a7b1ab5796"), looks := true }, kinds := [], alts := [], laidByText := true, laidKinds := [.data, .data, .data], laidTests := true, laidLooks := .later }
def HoistLoopsCardSaid : Prop := Claim7.holds Tryz.pinned (.plain (OpenSpec.ofChange hoistLoopsSpec)) hoistLoopsCard

/-- THE TIED CARD OF 'boxhedgelaw15.HoistShorts'. -/
def hoistShortsCard : Claim7 := { stood := { row := hoistShortsRow, standIns := [], harness := (true, "ea26a07a0b81ccf61db220fc5ee7147de8d1c0f692f3043dfd9089a7b1ab5796"), looks := true }, kinds := [], alts := [], laidByText := true, laidKinds := [.data, .data, .data], laidTests := true, laidLooks := .later }
def HoistShortsCardSaid : Prop := Claim7.holds Tryz.pinned (.plain (OpenSpec.ofChange hoistShortsSpec)) hoistShortsCard

/-- THE SECOND FORM's CARD OF 'boxhedgelaw15.HoistPrograms'. -/
def hoistProgramsUptoCard : Claim7 := { stood := { row := hoistProgramsUptoRow, standIns := [], harness := (true, "ea26a07a0b81ccf61db220fc5ee7147de8d1c0f692f3043dfd9089a7b1ab5796"), looks := true }, kinds := [], alts := [], laidByText := true, laidKinds := [.data, .data, .data], laidTests := true, laidLooks := .later }
def HoistProgramsUptoCardSaid : Prop := Claim7.holds Tryz.pinned (.plain (OpenSpec.upto hoistProgramsSpec)) hoistProgramsUptoCard

/-- THE SECOND FORM's CARD OF 'boxhedgelaw15.HoistLoops'. -/
def hoistLoopsUptoCard : Claim7 := { stood := { row := hoistLoopsUptoRow, standIns := [], harness := (true, "ea26a07a0b81ccf61db220fc5ee7147de8d1c0f692f3043dfd9089a7b1ab5796"), looks := true }, kinds := [], alts := [], laidByText := true, laidKinds := [.data, .data, .data], laidTests := true, laidLooks := .later }
def HoistLoopsUptoCardSaid : Prop := Claim7.holds Tryz.pinned (.plain (OpenSpec.upto hoistLoopsSpec)) hoistLoopsUptoCard

/-- THE SECOND FORM's CARD OF 'boxhedgelaw15.HoistShorts'. -/
def hoistShortsUptoCard : Claim7 := { stood := { row := hoistShortsUptoRow, standIns := [], harness := (true, "ea26a07a0b81ccf61db220fc5ee7147de8d1c0f692f3043dfd9089a7b1ab5796"), looks := true }, kinds := [], alts := [], laidByText := true, laidKinds := [.data, .data, .data], laidTests := true, laidLooks := .later }
def HoistShortsUptoCardSaid : Prop := Claim7.holds Tryz.pinned (.plain (OpenSpec.upto hoistShortsSpec)) hoistShortsUptoCard
end Rows
end Go.Proofs.YtcnjamphfjnflaaGreatDoor
