/-
  DERIVED. GIVEN WITH THE SEED: THE CARDS: each row of YtahpinmlgnfklaaGreatDoorRows.lean that lists a variable, with what it lists TIED to the program's text (the seventh form; the later family's looks); each row that meets fmt, with fmt's text TOLD by the authors' own Lean function (tested against real Go, not proved from fmt's source: count such statements apart). THE CARD IS WHAT COUNTS. Prove the row's statement (the work); the ties are given (YtahpinmlgnfklaaGreatDoorTie.lean); close each card by the builder's one call (the guide's Derived/Test/ToyasCard.lean, 'card_holds'). Laid BY PROGRAM, IN A SANDBOX (cutbox-door.mjs). By AI agents, Wed Nov 11 2026. No macro, syntax, notation, axiom, sorry.
-/
import Derived.Test.YtahpinmlgnfklaaGreatDoorRows
import GoSem.ClaimSeven
namespace Go.Proofs.YtahpinmlgnfklaaGreatDoor
namespace Rows

/-- THE TIED CARD OF 'boxhedgelaw09.ShowAny'. -/
def showAnyCard : Claim7 := { stood := { row := showAnyRow, standIns := [], harness := (true, "84563aa7610ad8d083a9852d4a05201b6768f8dd70055e04f99e7581d59bc703"), looks := false }, kinds := [], alts := [], laidByText := true, laidKinds := [.data, .data, .data], laidTests := true, laidLooks := .later }
def ShowAnyCardSaid : Prop := Claim7.holds Tryz.pinned (.plain (OpenSpec.ofChange showAnySpec)) showAnyCard

/-- THE TIED CARD OF 'boxhedgelaw09.ShowGood'. -/
def showGoodCard : Claim7 := { stood := { row := showGoodRow, standIns := [], harness := (true, "84563aa7610ad8d083a9852d4a05201b6768f8dd70055e04f99e7581d59bc703"), looks := false }, kinds := [], alts := [], laidByText := true, laidKinds := [.data, .data, .data], laidTests := true, laidLooks := .later }
def ShowGoodCardSaid : Prop := Claim7.holds Tryz.pinned (.plain (OpenSpec.ofChange showGoodSpec)) showGoodCard

/-- THE TIED CARD OF 'boxhedgelaw09.ShowNums'. -/
def showNumsCard : Claim7 := { stood := { row := showNumsRow, standIns := [], harness := (true, "84563aa7610ad8d083a9852d4a05201b6768f8dd70055e04f99e7581d59bc703"), looks := false }, kinds := [], alts := [], laidByText := true, laidKinds := [.data, .data, .data], laidTests := true, laidLooks := .later }
def ShowNumsCardSaid : Prop := Claim7.holds Tryz.pinned (.plain (OpenSpec.ofChange showNumsSpec)) showNumsCard

/-- THE TIED CARD OF 'boxhedgelaw09.ShowApart'. -/
def showApartCard : Claim7 := { stood := { row := showApartRow, standIns := [], harness := (true, "84563aa7610ad8d083a9852d4a05201b6768f8dd70055e04f99e7581d59bc703"), looks := false }, kinds := [], alts := [], laidByText := true, laidKinds := [.data, .data, .data], laidTests := true, laidLooks := .later }
def ShowApartCardSaid : Prop := Claim7.holds Tryz.pinned (.plain (OpenSpec.ofChange showApartSpec)) showApartCard

/-- THE SECOND FORM's CARD OF 'boxhedgelaw09.ShowAny'. -/
def showAnyUptoCard : Claim7 := { stood := { row := showAnyUptoRow, standIns := [], harness := (true, "84563aa7610ad8d083a9852d4a05201b6768f8dd70055e04f99e7581d59bc703"), looks := false }, kinds := [], alts := [], laidByText := true, laidKinds := [.data, .data, .data], laidTests := true, laidLooks := .later }
def ShowAnyUptoCardSaid : Prop := Claim7.holds Tryz.pinned (.plain (OpenSpec.upto showAnySpec)) showAnyUptoCard

/-- THE SECOND FORM's CARD OF 'boxhedgelaw09.ShowGood'. -/
def showGoodUptoCard : Claim7 := { stood := { row := showGoodUptoRow, standIns := [], harness := (true, "84563aa7610ad8d083a9852d4a05201b6768f8dd70055e04f99e7581d59bc703"), looks := false }, kinds := [], alts := [], laidByText := true, laidKinds := [.data, .data, .data], laidTests := true, laidLooks := .later }
def ShowGoodUptoCardSaid : Prop := Claim7.holds Tryz.pinned (.plain (OpenSpec.upto showGoodSpec)) showGoodUptoCard

/-- THE SECOND FORM's CARD OF 'boxhedgelaw09.ShowNums'. -/
def showNumsUptoCard : Claim7 := { stood := { row := showNumsUptoRow, standIns := [], harness := (true, "84563aa7610ad8d083a9852d4a05201b6768f8dd70055e04f99e7581d59bc703"), looks := false }, kinds := [], alts := [], laidByText := true, laidKinds := [.data, .data, .data], laidTests := true, laidLooks := .later }
def ShowNumsUptoCardSaid : Prop := Claim7.holds Tryz.pinned (.plain (OpenSpec.upto showNumsSpec)) showNumsUptoCard

/-- THE SECOND FORM's CARD OF 'boxhedgelaw09.ShowApart'. -/
def showApartUptoCard : Claim7 := { stood := { row := showApartUptoRow, standIns := [], harness := (true, "84563aa7610ad8d083a9852d4a05201b6768f8dd70055e04f99e7581d59bc703"), looks := false }, kinds := [], alts := [], laidByText := true, laidKinds := [.data, .data, .data], laidTests := true, laidLooks := .later }
def ShowApartUptoCardSaid : Prop := Claim7.holds Tryz.pinned (.plain (OpenSpec.upto showApartSpec)) showApartUptoCard
end Rows
end Go.Proofs.YtahpinmlgnfklaaGreatDoor
