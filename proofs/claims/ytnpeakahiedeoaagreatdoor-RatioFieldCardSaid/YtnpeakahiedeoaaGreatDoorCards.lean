/-
  DERIVED. GIVEN WITH THE SEED: THE CARDS: each row of YtnpeakahiedeoaaGreatDoorRows.lean that lists a variable, with what it lists TIED to the program's text (the seventh form; the later family's looks); each row that meets fmt, with fmt's text TOLD by the authors' own Lean function (tested against real Go, not proved from fmt's source: count such statements apart). THE CARD IS WHAT COUNTS. Prove the row's statement (the work); the ties are given (YtnpeakahiedeoaaGreatDoorTie.lean); close each card by the builder's one call (the guide's Derived/Test/ToyasCard.lean, 'card_holds'). Laid BY PROGRAM, IN A SANDBOX (cutbox-door.mjs). By AI agents, Wed Nov 11 2026. No macro, syntax, notation, axiom, sorry.
-/
import Derived.Test.YtnpeakahiedeoaaGreatDoorRows
import GoSem.ClaimSeven
namespace Go.Proofs.YtnpeakahiedeoaaGreatDoor
namespace Rows

/-- THE TIED CARD OF 'podiumlaw10.RatioMakeSpec'. -/
def ratioMakeSpecCard : Claim7 := { stood := { row := ratioMakeSpecRow, standIns := [], harness := (true, "c9699e65e6934fe35cd3ec2aff4e45b52a3c715e77c50a88570d36f2513a0942"), looks := true }, kinds := [], alts := [], laidByText := true, laidKinds := [.data, .pinned], laidTests := true, laidLooks := .later }
def RatioMakeSpecCardSaid : Prop := Claim7.holds Tryz.pinned (.plain (OpenSpec.ofChange ratioMakeSpecSpec)) ratioMakeSpecCard

/-- THE TIED CARD OF 'podiumlaw10.RatioTextSpec'. -/
def ratioTextSpecCard : Claim7 := { stood := { row := ratioTextSpecRow, standIns := [], harness := (true, "c9699e65e6934fe35cd3ec2aff4e45b52a3c715e77c50a88570d36f2513a0942"), looks := true }, kinds := [], alts := [], laidByText := true, laidKinds := [.data, .pinned], laidTests := true, laidLooks := .later }
def RatioTextSpecCardSaid : Prop := Claim7.holds Tryz.pinned (.plain (OpenSpec.ofChange ratioTextSpecSpec)) ratioTextSpecCard

/-- THE TIED CARD OF 'podiumlaw10.RatioFloor'. -/
def ratioFloorCard : Claim7 := { stood := { row := ratioFloorRow, standIns := [], harness := (true, "c9699e65e6934fe35cd3ec2aff4e45b52a3c715e77c50a88570d36f2513a0942"), looks := true }, kinds := [], alts := [], laidByText := true, laidKinds := [.data, .pinned], laidTests := true, laidLooks := .later }
def RatioFloorCardSaid : Prop := Claim7.holds Tryz.pinned (.plain (OpenSpec.ofChange ratioFloorSpec)) ratioFloorCard

/-- THE TIED CARD OF 'podiumlaw10.RatioBack'. -/
def ratioBackCard : Claim7 := { stood := { row := ratioBackRow, standIns := [], harness := (true, "c9699e65e6934fe35cd3ec2aff4e45b52a3c715e77c50a88570d36f2513a0942"), looks := true }, kinds := [], alts := [], laidByText := true, laidKinds := [.data, .pinned], laidTests := true, laidLooks := .later }
def RatioBackCardSaid : Prop := Claim7.holds Tryz.pinned (.plain (OpenSpec.ofChange ratioBackSpec)) ratioBackCard

/-- THE TIED CARD OF 'podiumlaw10.RatioSpec'. -/
def ratioSpecCard : Claim7 := { stood := { row := ratioSpecRow, standIns := [], harness := (true, "c9699e65e6934fe35cd3ec2aff4e45b52a3c715e77c50a88570d36f2513a0942"), looks := true }, kinds := [], alts := [], laidByText := true, laidKinds := [.data, .pinned], laidTests := true, laidLooks := .later }
def RatioSpecCardSaid : Prop := Claim7.holds Tryz.pinned (.plain (OpenSpec.ofChange ratioSpecSpec)) ratioSpecCard

/-- THE TIED CARD OF 'podiumlaw10.RatioField'. -/
def ratioFieldCard : Claim7 := { stood := { row := ratioFieldRow, standIns := [], harness := (true, "c9699e65e6934fe35cd3ec2aff4e45b52a3c715e77c50a88570d36f2513a0942"), looks := true }, kinds := [], alts := [], laidByText := true, laidKinds := [.data, .pinned], laidTests := true, laidLooks := .later }
def RatioFieldCardSaid : Prop := Claim7.holds Tryz.pinned (.plain (OpenSpec.ofChange ratioFieldSpec)) ratioFieldCard

/-- THE TIED CARD OF 'podiumlaw10.RatioLowest'. -/
def ratioLowestCard : Claim7 := { stood := { row := ratioLowestRow, standIns := [], harness := (true, "c9699e65e6934fe35cd3ec2aff4e45b52a3c715e77c50a88570d36f2513a0942"), looks := true }, kinds := [], alts := [], laidByText := true, laidKinds := [.data, .pinned], laidTests := true, laidLooks := .later }
def RatioLowestCardSaid : Prop := Claim7.holds Tryz.pinned (.plain (OpenSpec.ofChange ratioLowestSpec)) ratioLowestCard

/-- THE SECOND FORM's CARD OF 'podiumlaw10.RatioMakeSpec'. -/
def ratioMakeSpecUptoCard : Claim7 := { stood := { row := ratioMakeSpecUptoRow, standIns := [], harness := (true, "c9699e65e6934fe35cd3ec2aff4e45b52a3c715e77c50a88570d36f2513a0942"), looks := true }, kinds := [], alts := [], laidByText := true, laidKinds := [.data, .pinned], laidTests := true, laidLooks := .later }
def RatioMakeSpecUptoCardSaid : Prop := Claim7.holds Tryz.pinned (.plain (OpenSpec.upto ratioMakeSpecSpec)) ratioMakeSpecUptoCard

/-- THE SECOND FORM's CARD OF 'podiumlaw10.RatioTextSpec'. -/
def ratioTextSpecUptoCard : Claim7 := { stood := { row := ratioTextSpecUptoRow, standIns := [], harness := (true, "c9699e65e6934fe35cd3ec2aff4e45b52a3c715e77c50a88570d36f2513a0942"), looks := true }, kinds := [], alts := [], laidByText := true, laidKinds := [.data, .pinned], laidTests := true, laidLooks := .later }
def RatioTextSpecUptoCardSaid : Prop := Claim7.holds Tryz.pinned (.plain (OpenSpec.upto ratioTextSpecSpec)) ratioTextSpecUptoCard

/-- THE SECOND FORM's CARD OF 'podiumlaw10.RatioFloor'. -/
def ratioFloorUptoCard : Claim7 := { stood := { row := ratioFloorUptoRow, standIns := [], harness := (true, "c9699e65e6934fe35cd3ec2aff4e45b52a3c715e77c50a88570d36f2513a0942"), looks := true }, kinds := [], alts := [], laidByText := true, laidKinds := [.data, .pinned], laidTests := true, laidLooks := .later }
def RatioFloorUptoCardSaid : Prop := Claim7.holds Tryz.pinned (.plain (OpenSpec.upto ratioFloorSpec)) ratioFloorUptoCard

/-- THE SECOND FORM's CARD OF 'podiumlaw10.RatioBack'. -/
def ratioBackUptoCard : Claim7 := { stood := { row := ratioBackUptoRow, standIns := [], harness := (true, "c9699e65e6934fe35cd3ec2aff4e45b52a3c715e77c50a88570d36f2513a0942"), looks := true }, kinds := [], alts := [], laidByText := true, laidKinds := [.data, .pinned], laidTests := true, laidLooks := .later }
def RatioBackUptoCardSaid : Prop := Claim7.holds Tryz.pinned (.plain (OpenSpec.upto ratioBackSpec)) ratioBackUptoCard

/-- THE SECOND FORM's CARD OF 'podiumlaw10.RatioSpec'. -/
def ratioSpecUptoCard : Claim7 := { stood := { row := ratioSpecUptoRow, standIns := [], harness := (true, "c9699e65e6934fe35cd3ec2aff4e45b52a3c715e77c50a88570d36f2513a0942"), looks := true }, kinds := [], alts := [], laidByText := true, laidKinds := [.data, .pinned], laidTests := true, laidLooks := .later }
def RatioSpecUptoCardSaid : Prop := Claim7.holds Tryz.pinned (.plain (OpenSpec.upto ratioSpecSpec)) ratioSpecUptoCard

/-- THE SECOND FORM's CARD OF 'podiumlaw10.RatioField'. -/
def ratioFieldUptoCard : Claim7 := { stood := { row := ratioFieldUptoRow, standIns := [], harness := (true, "c9699e65e6934fe35cd3ec2aff4e45b52a3c715e77c50a88570d36f2513a0942"), looks := true }, kinds := [], alts := [], laidByText := true, laidKinds := [.data, .pinned], laidTests := true, laidLooks := .later }
def RatioFieldUptoCardSaid : Prop := Claim7.holds Tryz.pinned (.plain (OpenSpec.upto ratioFieldSpec)) ratioFieldUptoCard

/-- THE SECOND FORM's CARD OF 'podiumlaw10.RatioLowest'. -/
def ratioLowestUptoCard : Claim7 := { stood := { row := ratioLowestUptoRow, standIns := [], harness := (true, "c9699e65e6934fe35cd3ec2aff4e45b52a3c715e77c50a88570d36f2513a0942"), looks := true }, kinds := [], alts := [], laidByText := true, laidKinds := [.data, .pinned], laidTests := true, laidLooks := .later }
def RatioLowestUptoCardSaid : Prop := Claim7.holds Tryz.pinned (.plain (OpenSpec.upto ratioLowestSpec)) ratioLowestUptoCard
end Rows
end Go.Proofs.YtnpeakahiedeoaaGreatDoor
