/-
  DERIVED. GIVEN WITH THE SEED: THE CARDS: each row of YtpaaanbcadlhiaaDoorRows.lean that lists a variable, with what it lists TIED to the program's text (the seventh form; the later family's looks); each row that meets fmt, with fmt's text TOLD by the authors' own Lean function (tested against real Go, not proved from fmt's source: count such statements apart). THE CARD IS WHAT COUNTS. Prove the row's statement (the work); the ties are given (YtpaaanbcadlhiaaDoorTie.lean); close each card by the builder's one call (the guide's Derived/Test/ToyasCard.lean, 'card_holds'). Laid BY PROGRAM, IN A SANDBOX (cutbox-door.mjs). By AI agents, Wed Nov 11 2026. No macro, syntax, notation, axiom, sorry.
-/
import Derived.Test.YtpaaanbcadlhiaaDoorRows
import GoSem.ClaimSeven
namespace Go.Proofs.YtpaaanbcadlhiaaDoor
namespace Rows

/-- THE TIED CARD OF 'podiumlaw09.NatDivSpec'. -/
def natDivSpecCard : Claim7 := { stood := { row := natDivSpecRow, standIns := [], harness := (true, "9913942337905ac0d49c4c26c95aabce6d7b5e4cb5d39d9593d3b1193a280593"), looks := true }, kinds := [], alts := [], laidByText := true, laidKinds := [.data, .pinned], laidTests := true, laidLooks := .later }
def NatDivSpecCardSaid : Prop := Claim7.holds Tryd.pinned (.plain (OpenSpec.ofChange natDivSpecSpec)) natDivSpecCard

/-- THE TIED CARD OF 'podiumlaw09.NatTextSpec'. -/
def natTextSpecCard : Claim7 := { stood := { row := natTextSpecRow, standIns := [], harness := (true, "9913942337905ac0d49c4c26c95aabce6d7b5e4cb5d39d9593d3b1193a280593"), looks := true }, kinds := [], alts := [], laidByText := true, laidKinds := [.data, .pinned], laidTests := true, laidLooks := .later }
def NatTextSpecCardSaid : Prop := Claim7.holds Tryd.pinned (.plain (OpenSpec.ofChange natTextSpecSpec)) natTextSpecCard

/-- THE TIED CARD OF 'podiumlaw09.NatBack'. -/
def natBackCard : Claim7 := { stood := { row := natBackRow, standIns := [], harness := (true, "9913942337905ac0d49c4c26c95aabce6d7b5e4cb5d39d9593d3b1193a280593"), looks := true }, kinds := [], alts := [], laidByText := true, laidKinds := [.data, .pinned], laidTests := true, laidLooks := .later }
def NatBackCardSaid : Prop := Claim7.holds Tryd.pinned (.plain (OpenSpec.ofChange natBackSpec)) natBackCard

/-- THE TIED CARD OF 'podiumlaw09.NatSpec'. -/
def natSpecCard : Claim7 := { stood := { row := natSpecRow, standIns := [], harness := (true, "9913942337905ac0d49c4c26c95aabce6d7b5e4cb5d39d9593d3b1193a280593"), looks := true }, kinds := [], alts := [], laidByText := true, laidKinds := [.data, .pinned], laidTests := true, laidLooks := .later }
def NatSpecCardSaid : Prop := Claim7.holds Tryd.pinned (.plain (OpenSpec.ofChange natSpecSpec)) natSpecCard

/-- THE TIED CARD OF 'podiumlaw09.NatGcd'. -/
def natGcdCard : Claim7 := { stood := { row := natGcdRow, standIns := [], harness := (true, "9913942337905ac0d49c4c26c95aabce6d7b5e4cb5d39d9593d3b1193a280593"), looks := true }, kinds := [], alts := [], laidByText := true, laidKinds := [.data, .pinned], laidTests := true, laidLooks := .later }
def NatGcdCardSaid : Prop := Claim7.holds Tryd.pinned (.plain (OpenSpec.ofChange natGcdSpec)) natGcdCard

/-- THE TIED CARD OF 'podiumlaw09.NatChoose'. -/
def natChooseCard : Claim7 := { stood := { row := natChooseRow, standIns := [], harness := (true, "9913942337905ac0d49c4c26c95aabce6d7b5e4cb5d39d9593d3b1193a280593"), looks := true }, kinds := [], alts := [], laidByText := true, laidKinds := [.data, .pinned], laidTests := true, laidLooks := .later }
def NatChooseCardSaid : Prop := Claim7.holds Tryd.pinned (.plain (OpenSpec.ofChange natChooseSpec)) natChooseCard

/-- THE TIED CARD OF 'podiumlaw09.NatSumSpec'. -/
def natSumSpecCard : Claim7 := { stood := { row := natSumSpecRow, standIns := [], harness := (true, "9913942337905ac0d49c4c26c95aabce6d7b5e4cb5d39d9593d3b1193a280593"), looks := true }, kinds := [], alts := [], laidByText := true, laidKinds := [.data, .pinned], laidTests := true, laidLooks := .later }
def NatSumSpecCardSaid : Prop := Claim7.holds Tryd.pinned (.plain (OpenSpec.ofChange natSumSpecSpec)) natSumSpecCard

/-- THE TIED CARD OF 'podiumlaw09.NatDivide'. -/
def natDivideCard : Claim7 := { stood := { row := natDivideRow, standIns := [], harness := (true, "9913942337905ac0d49c4c26c95aabce6d7b5e4cb5d39d9593d3b1193a280593"), looks := true }, kinds := [], alts := [], laidByText := true, laidKinds := [.data, .pinned], laidTests := true, laidLooks := .later }
def NatDivideCardSaid : Prop := Claim7.holds Tryd.pinned (.plain (OpenSpec.ofChange natDivideSpec)) natDivideCard

/-- THE TIED CARD OF 'podiumlaw09.NatLaws'. -/
def natLawsCard : Claim7 := { stood := { row := natLawsRow, standIns := [], harness := (true, "9913942337905ac0d49c4c26c95aabce6d7b5e4cb5d39d9593d3b1193a280593"), looks := true }, kinds := [], alts := [], laidByText := true, laidKinds := [.data, .pinned], laidTests := true, laidLooks := .later }
def NatLawsCardSaid : Prop := Claim7.holds Tryd.pinned (.plain (OpenSpec.ofChange natLawsSpec)) natLawsCard

/-- THE SECOND FORM's CARD OF 'podiumlaw09.NatDivSpec'. -/
def natDivSpecUptoCard : Claim7 := { stood := { row := natDivSpecUptoRow, standIns := [], harness := (true, "9913942337905ac0d49c4c26c95aabce6d7b5e4cb5d39d9593d3b1193a280593"), looks := true }, kinds := [], alts := [], laidByText := true, laidKinds := [.data, .pinned], laidTests := true, laidLooks := .later }
def NatDivSpecUptoCardSaid : Prop := Claim7.holds Tryd.pinned (.plain (OpenSpec.upto natDivSpecSpec)) natDivSpecUptoCard

/-- THE SECOND FORM's CARD OF 'podiumlaw09.NatTextSpec'. -/
def natTextSpecUptoCard : Claim7 := { stood := { row := natTextSpecUptoRow, standIns := [], harness := (true, "9913942337905ac0d49c4c26c95aabce6d7b5e4cb5d39d9593d3b1193a280593"), looks := true }, kinds := [], alts := [], laidByText := true, laidKinds := [.data, .pinned], laidTests := true, laidLooks := .later }
def NatTextSpecUptoCardSaid : Prop := Claim7.holds Tryd.pinned (.plain (OpenSpec.upto natTextSpecSpec)) natTextSpecUptoCard

/-- THE SECOND FORM's CARD OF 'podiumlaw09.NatBack'. -/
def natBackUptoCard : Claim7 := { stood := { row := natBackUptoRow, standIns := [], harness := (true, "9913942337905ac0d49c4c26c95aabce6d7b5e4cb5d39d9593d3b1193a280593"), looks := true }, kinds := [], alts := [], laidByText := true, laidKinds := [.data, .pinned], laidTests := true, laidLooks := .later }
def NatBackUptoCardSaid : Prop := Claim7.holds Tryd.pinned (.plain (OpenSpec.upto natBackSpec)) natBackUptoCard

/-- THE SECOND FORM's CARD OF 'podiumlaw09.NatSpec'. -/
def natSpecUptoCard : Claim7 := { stood := { row := natSpecUptoRow, standIns := [], harness := (true, "9913942337905ac0d49c4c26c95aabce6d7b5e4cb5d39d9593d3b1193a280593"), looks := true }, kinds := [], alts := [], laidByText := true, laidKinds := [.data, .pinned], laidTests := true, laidLooks := .later }
def NatSpecUptoCardSaid : Prop := Claim7.holds Tryd.pinned (.plain (OpenSpec.upto natSpecSpec)) natSpecUptoCard

/-- THE SECOND FORM's CARD OF 'podiumlaw09.NatGcd'. -/
def natGcdUptoCard : Claim7 := { stood := { row := natGcdUptoRow, standIns := [], harness := (true, "9913942337905ac0d49c4c26c95aabce6d7b5e4cb5d39d9593d3b1193a280593"), looks := true }, kinds := [], alts := [], laidByText := true, laidKinds := [.data, .pinned], laidTests := true, laidLooks := .later }
def NatGcdUptoCardSaid : Prop := Claim7.holds Tryd.pinned (.plain (OpenSpec.upto natGcdSpec)) natGcdUptoCard

/-- THE SECOND FORM's CARD OF 'podiumlaw09.NatChoose'. -/
def natChooseUptoCard : Claim7 := { stood := { row := natChooseUptoRow, standIns := [], harness := (true, "9913942337905ac0d49c4c26c95aabce6d7b5e4cb5d39d9593d3b1193a280593"), looks := true }, kinds := [], alts := [], laidByText := true, laidKinds := [.data, .pinned], laidTests := true, laidLooks := .later }
def NatChooseUptoCardSaid : Prop := Claim7.holds Tryd.pinned (.plain (OpenSpec.upto natChooseSpec)) natChooseUptoCard

/-- THE SECOND FORM's CARD OF 'podiumlaw09.NatSumSpec'. -/
def natSumSpecUptoCard : Claim7 := { stood := { row := natSumSpecUptoRow, standIns := [], harness := (true, "9913942337905ac0d49c4c26c95aabce6d7b5e4cb5d39d9593d3b1193a280593"), looks := true }, kinds := [], alts := [], laidByText := true, laidKinds := [.data, .pinned], laidTests := true, laidLooks := .later }
def NatSumSpecUptoCardSaid : Prop := Claim7.holds Tryd.pinned (.plain (OpenSpec.upto natSumSpecSpec)) natSumSpecUptoCard

/-- THE SECOND FORM's CARD OF 'podiumlaw09.NatDivide'. -/
def natDivideUptoCard : Claim7 := { stood := { row := natDivideUptoRow, standIns := [], harness := (true, "9913942337905ac0d49c4c26c95aabce6d7b5e4cb5d39d9593d3b1193a280593"), looks := true }, kinds := [], alts := [], laidByText := true, laidKinds := [.data, .pinned], laidTests := true, laidLooks := .later }
def NatDivideUptoCardSaid : Prop := Claim7.holds Tryd.pinned (.plain (OpenSpec.upto natDivideSpec)) natDivideUptoCard

/-- THE SECOND FORM's CARD OF 'podiumlaw09.NatLaws'. -/
def natLawsUptoCard : Claim7 := { stood := { row := natLawsUptoRow, standIns := [], harness := (true, "9913942337905ac0d49c4c26c95aabce6d7b5e4cb5d39d9593d3b1193a280593"), looks := true }, kinds := [], alts := [], laidByText := true, laidKinds := [.data, .pinned], laidTests := true, laidLooks := .later }
def NatLawsUptoCardSaid : Prop := Claim7.holds Tryd.pinned (.plain (OpenSpec.upto natLawsSpec)) natLawsUptoCard
end Rows
end Go.Proofs.YtpaaanbcadlhiaaDoor
