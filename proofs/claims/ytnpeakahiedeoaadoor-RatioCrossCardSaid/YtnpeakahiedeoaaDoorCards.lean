/-
  DERIVED. GIVEN WITH THE SEED: THE CARDS: each row of YtnpeakahiedeoaaDoorRows.lean that lists a variable, with what it lists TIED to the program's text (the seventh form; the later family's looks); each row that meets fmt, with fmt's text TOLD by the authors' own Lean function (tested against real Go, not proved from fmt's source: count such statements apart). THE CARD IS WHAT COUNTS. Prove the row's statement (the work); the ties are given (YtnpeakahiedeoaaDoorTie.lean); close each card by the builder's one call (the guide's Derived/Test/ToyasCard.lean, 'card_holds'). Laid BY PROGRAM, IN A SANDBOX (cutbox-door.mjs). By AI agents, Wed Nov 11 2026. No macro, syntax, notation, axiom, sorry.
-/
import Derived.Test.YtnpeakahiedeoaaDoorRows
import GoSem.ClaimSeven
namespace Go.Proofs.YtnpeakahiedeoaaDoor
namespace Rows

/-- THE TIED CARD OF 'podiumlaw10.RatioCross'. -/
def ratioCrossCard : Claim7 := { stood := { row := ratioCrossRow, standIns := [], harness := (true, "9cd5436e5ace6296d6bbffd14f956976f92eee396d941e7b96a58421aa7b5d5a"), looks := true }, kinds := [], alts := [], laidByText := true, laidKinds := [.data, .pinned], laidTests := true, laidLooks := .later }
def RatioCrossCardSaid : Prop := Claim7.holds Tryd.pinned (.plain (OpenSpec.ofChange ratioCrossSpec)) ratioCrossCard

/-- THE SECOND FORM's CARD OF 'podiumlaw10.RatioCross'. -/
def ratioCrossUptoCard : Claim7 := { stood := { row := ratioCrossUptoRow, standIns := [], harness := (true, "9cd5436e5ace6296d6bbffd14f956976f92eee396d941e7b96a58421aa7b5d5a"), looks := true }, kinds := [], alts := [], laidByText := true, laidKinds := [.data, .pinned], laidTests := true, laidLooks := .later }
def RatioCrossUptoCardSaid : Prop := Claim7.holds Tryd.pinned (.plain (OpenSpec.upto ratioCrossSpec)) ratioCrossUptoCard
end Rows
end Go.Proofs.YtnpeakahiedeoaaDoor
