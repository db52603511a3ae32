/-
  NARROWER THAN 'FOR EVERY INPUT', by the rows' own cells (each row's printed sentence says how): NatDivSpec: laid · NatTextSpec: laid · NatBack: laid · NatSpec: laid · NatGcd: laid · NatChoose: laid · NatSumSpec: laid · NatDivide: laid · NatLaws: laid.
  DERIVED. THE GIVEN ROWS OF THIS SEAT. 9 by the template 'for every input the law returns true; each argument reads behind the call as it read before'; 0 by the template 'total and deterministic' (their statements: YtpaaanbcadlhiaaDoorTotals.lean).
  GIVEN WITH THE SEED: the statements are not yours to turn. If you find one false, say at which input.
  Laid BY PROGRAM, IN A SANDBOX (cutbox-rows.mjs): the forced cells as the released guide's own fill.sh prints them over the translation f28749674eb3432a… (all of the seat's roots in one cut). By AI agents, Wed Nov 11 2026. No macro, syntax, notation, axiom, sorry.
-/
import Derived.Test.YtpaaanbcadlhiaaDoorChecked
import GoSem.PinnedTables
import GoSem.Claim
import GoSem.ClaimJoined
import GoSem.ClaimMapViews
import Derived.JoinedTies
import Derived.KernelRfl
namespace Go.Proofs.YtpaaanbcadlhiaaDoor
/- THE CELL 'sum', in the pinned program and in every row, IS THE sha256 OF THE DUMP (.gsa) THAT YtpaaanbcadlhiaaDoorProg.lean LOADS. Nothing in Lean hashes anything: it is a label: what it is worth is what the hold of that sum in a sandbox is worth. -/
noncomputable def Tryd.pinned : Pinned := { name := "ytpaaanbcadlhiaadoor", sum := "f28749674eb3432a5dfa55c8b22de1514b3cc290b2d2402f1454cf0e5ed6760e", checked := Tryd.checked }
namespace Rows
def none {H : Type} : Left H := { results := [], args := [] }

/- WHAT THE LISTED PACKAGE-LEVEL VARIABLES READ AS WHEN THE CALL BEGINS. Each datum BY PROGRAM (the guide's laid-datum.mjs) off the statement by which the dump's own 'gosem.cut.vars' lays the variable. In a bare row this is a premise. The card (YtpaaanbcadlhiaaDoorCards.lean) ties it to the program's text. -/
def laid_unicode_utf8_acceptRanges {H : Type} : DataW H := .agg [.agg [.lit (.int .u8 128), .lit (.int .u8 191)], .agg [.lit (.int .u8 160), .lit (.int .u8 191)], .agg [.lit (.int .u8 128), .lit (.int .u8 159)], .agg [.lit (.int .u8 144), .lit (.int .u8 191)], .agg [.lit (.int .u8 128), .lit (.int .u8 143)], .agg [.lit (.int .u8 0), .lit (.int .u8 0)], .agg [.lit (.int .u8 0), .lit (.int .u8 0)], .agg [.lit (.int .u8 0), .lit (.int .u8 0)], .agg [.lit (.int .u8 0), .lit (.int .u8 0)], .agg [.lit (.int .u8 0), .lit (.int .u8 0)], .agg [.lit (.int .u8 0), .lit (.int .u8 0)], .agg [.lit (.int .u8 0), .lit (.int .u8 0)], .agg [.lit (.int .u8 0), .lit (.int .u8 0)], .agg [.lit (.int .u8 0), .lit (.int .u8 0)], .agg [.lit (.int .u8 0), .lit (.int .u8 0)], .agg [.lit (.int .u8 0), .lit (.int .u8 0)]]
/-- One of Go's own tables, pinned by name: the form's constant. -/
def laid_unicode_utf8_first : DataW Unit := Go.Pinned.utf8First

/-- 'podiumlaw09.NatDivSpec': WHATEVER THE INPUT: true; the input reads as it did. -/
def natDivSpecSpec : ChangeSpec := { name := "natDivSpec", fn := fun _ => fun
  | [d1, d2, d3, d4] => { results := [.lit (.bool true)], args := [d1, d2, d3, d4] }
  | _ => none }
def natDivSpecRow : OpenClaim := { program := "ytpaaanbcadlhiaadoor", sum := "f28749674eb3432a5dfa55c8b22de1514b3cc290b2d2402f1454cf0e5ed6760e", func := "podium/podiumlaw09.NatDivSpec", spec := "natDivSpec", inPlace := ["internal/bytealg.IndexByteString", "internal/bytealg.IndexString"], unfollowed := true, recurses := true, named := ["unicode/utf8.first", "unicode/utf8.acceptRanges", "internal/bytealg.MaxLen"], apart := false, laid := [("unicode/utf8.acceptRanges", laid_unicode_utf8_acceptRanges), ("unicode/utf8.first", laid_unicode_utf8_first)] }
def NatDivSpecSaid : Prop := natDivSpecRow.holds Tryd.pinned (OpenSpec.ofChange natDivSpecSpec)

/-- ITS FALSE NEIGHBOUR: 'it returns false'. Refute it at one input. -/
def natDivSpecWrong : ChangeSpec := { name := "natDivSpec", fn := fun _ => fun
  | [d1, d2, d3, d4] => { results := [.lit (.bool false)], args := [d1, d2, d3, d4] }
  | _ => none }
def NatDivSpecWrongFalsely : Prop := natDivSpecRow.holds Tryd.pinned (OpenSpec.ofChange natDivSpecWrong)

/-- 'podiumlaw09.NatTextSpec': WHATEVER THE INPUT: true; the input reads as it did. -/
def natTextSpecSpec : ChangeSpec := { name := "natTextSpec", fn := fun _ => fun
  | [d1, d2] => { results := [.lit (.bool true)], args := [d1, d2] }
  | _ => none }
def natTextSpecRow : OpenClaim := { program := "ytpaaanbcadlhiaadoor", sum := "f28749674eb3432a5dfa55c8b22de1514b3cc290b2d2402f1454cf0e5ed6760e", func := "podium/podiumlaw09.NatTextSpec", spec := "natTextSpec", inPlace := ["internal/bytealg.IndexByteString", "internal/bytealg.IndexString"], unfollowed := true, recurses := true, named := ["unicode/utf8.first", "unicode/utf8.acceptRanges", "internal/bytealg.MaxLen"], apart := false, laid := [("unicode/utf8.acceptRanges", laid_unicode_utf8_acceptRanges), ("unicode/utf8.first", laid_unicode_utf8_first)] }
def NatTextSpecSaid : Prop := natTextSpecRow.holds Tryd.pinned (OpenSpec.ofChange natTextSpecSpec)

/-- ITS FALSE NEIGHBOUR: 'it returns false'. Refute it at one input. -/
def natTextSpecWrong : ChangeSpec := { name := "natTextSpec", fn := fun _ => fun
  | [d1, d2] => { results := [.lit (.bool false)], args := [d1, d2] }
  | _ => none }
def NatTextSpecWrongFalsely : Prop := natTextSpecRow.holds Tryd.pinned (OpenSpec.ofChange natTextSpecWrong)

/-- 'podiumlaw09.NatBack': WHATEVER THE INPUT: true; the input reads as it did. -/
def natBackSpec : ChangeSpec := { name := "natBack", fn := fun _ => fun
  | [d1, d2, d3, d4] => { results := [.lit (.bool true)], args := [d1, d2, d3, d4] }
  | _ => none }
def natBackRow : OpenClaim := { program := "ytpaaanbcadlhiaadoor", sum := "f28749674eb3432a5dfa55c8b22de1514b3cc290b2d2402f1454cf0e5ed6760e", func := "podium/podiumlaw09.NatBack", spec := "natBack", inPlace := ["internal/bytealg.IndexByteString", "internal/bytealg.IndexString"], unfollowed := true, recurses := true, named := ["unicode/utf8.first", "unicode/utf8.acceptRanges", "internal/bytealg.MaxLen"], apart := false, laid := [("unicode/utf8.acceptRanges", laid_unicode_utf8_acceptRanges), ("unicode/utf8.first", laid_unicode_utf8_first)] }
def NatBackSaid : Prop := natBackRow.holds Tryd.pinned (OpenSpec.ofChange natBackSpec)

/-- ITS FALSE NEIGHBOUR: 'it returns false'. Refute it at one input. -/
def natBackWrong : ChangeSpec := { name := "natBack", fn := fun _ => fun
  | [d1, d2, d3, d4] => { results := [.lit (.bool false)], args := [d1, d2, d3, d4] }
  | _ => none }
def NatBackWrongFalsely : Prop := natBackRow.holds Tryd.pinned (OpenSpec.ofChange natBackWrong)

/-- 'podiumlaw09.NatSpec': WHATEVER THE INPUT: true; the input reads as it did. -/
def natSpecSpec : ChangeSpec := { name := "natSpec", fn := fun _ => fun
  | [d1, d2, d3] => { results := [.lit (.bool true)], args := [d1, d2, d3] }
  | _ => none }
def natSpecRow : OpenClaim := { program := "ytpaaanbcadlhiaadoor", sum := "f28749674eb3432a5dfa55c8b22de1514b3cc290b2d2402f1454cf0e5ed6760e", func := "podium/podiumlaw09.NatSpec", spec := "natSpec", inPlace := ["internal/bytealg.IndexByteString", "internal/bytealg.IndexString"], unfollowed := true, recurses := true, named := ["unicode/utf8.first", "unicode/utf8.acceptRanges", "internal/bytealg.MaxLen"], apart := false, laid := [("unicode/utf8.acceptRanges", laid_unicode_utf8_acceptRanges), ("unicode/utf8.first", laid_unicode_utf8_first)] }
def NatSpecSaid : Prop := natSpecRow.holds Tryd.pinned (OpenSpec.ofChange natSpecSpec)

/-- ITS FALSE NEIGHBOUR: 'it returns false'. Refute it at one input. -/
def natSpecWrong : ChangeSpec := { name := "natSpec", fn := fun _ => fun
  | [d1, d2, d3] => { results := [.lit (.bool false)], args := [d1, d2, d3] }
  | _ => none }
def NatSpecWrongFalsely : Prop := natSpecRow.holds Tryd.pinned (OpenSpec.ofChange natSpecWrong)

/-- 'podiumlaw09.NatGcd': WHATEVER THE INPUT: true; the input reads as it did. -/
def natGcdSpec : ChangeSpec := { name := "natGcd", fn := fun _ => fun
  | [d1, d2, d3] => { results := [.lit (.bool true)], args := [d1, d2, d3] }
  | _ => none }
def natGcdRow : OpenClaim := { program := "ytpaaanbcadlhiaadoor", sum := "f28749674eb3432a5dfa55c8b22de1514b3cc290b2d2402f1454cf0e5ed6760e", func := "podium/podiumlaw09.NatGcd", spec := "natGcd", inPlace := ["internal/bytealg.IndexByteString", "internal/bytealg.IndexString"], unfollowed := true, recurses := true, named := ["unicode/utf8.first", "unicode/utf8.acceptRanges", "internal/bytealg.MaxLen"], apart := false, laid := [("unicode/utf8.acceptRanges", laid_unicode_utf8_acceptRanges), ("unicode/utf8.first", laid_unicode_utf8_first)] }
def NatGcdSaid : Prop := natGcdRow.holds Tryd.pinned (OpenSpec.ofChange natGcdSpec)

/-- ITS FALSE NEIGHBOUR: 'it returns false'. Refute it at one input. -/
def natGcdWrong : ChangeSpec := { name := "natGcd", fn := fun _ => fun
  | [d1, d2, d3] => { results := [.lit (.bool false)], args := [d1, d2, d3] }
  | _ => none }
def NatGcdWrongFalsely : Prop := natGcdRow.holds Tryd.pinned (OpenSpec.ofChange natGcdWrong)

/-- 'podiumlaw09.NatChoose': WHATEVER THE INPUT: true; the input reads as it did. -/
def natChooseSpec : ChangeSpec := { name := "natChoose", fn := fun _ => fun
  | [d1, d2] => { results := [.lit (.bool true)], args := [d1, d2] }
  | _ => none }
def natChooseRow : OpenClaim := { program := "ytpaaanbcadlhiaadoor", sum := "f28749674eb3432a5dfa55c8b22de1514b3cc290b2d2402f1454cf0e5ed6760e", func := "podium/podiumlaw09.NatChoose", spec := "natChoose", inPlace := ["internal/bytealg.IndexByteString", "internal/bytealg.IndexString"], unfollowed := true, recurses := true, named := ["unicode/utf8.first", "unicode/utf8.acceptRanges", "internal/bytealg.MaxLen"], apart := false, laid := [("unicode/utf8.acceptRanges", laid_unicode_utf8_acceptRanges), ("unicode/utf8.first", laid_unicode_utf8_first)] }
def NatChooseSaid : Prop := natChooseRow.holds Tryd.pinned (OpenSpec.ofChange natChooseSpec)

/-- ITS FALSE NEIGHBOUR: 'it returns false'. Refute it at one input. -/
def natChooseWrong : ChangeSpec := { name := "natChoose", fn := fun _ => fun
  | [d1, d2] => { results := [.lit (.bool false)], args := [d1, d2] }
  | _ => none }
def NatChooseWrongFalsely : Prop := natChooseRow.holds Tryd.pinned (OpenSpec.ofChange natChooseWrong)

/-- 'podiumlaw09.NatSumSpec': WHATEVER THE INPUT: true; the input reads as it did. -/
def natSumSpecSpec : ChangeSpec := { name := "natSumSpec", fn := fun _ => fun
  | [d1, d2] => { results := [.lit (.bool true)], args := [d1, d2] }
  | _ => none }
def natSumSpecRow : OpenClaim := { program := "ytpaaanbcadlhiaadoor", sum := "f28749674eb3432a5dfa55c8b22de1514b3cc290b2d2402f1454cf0e5ed6760e", func := "podium/podiumlaw09.NatSumSpec", spec := "natSumSpec", inPlace := ["internal/bytealg.IndexByteString", "internal/bytealg.IndexString"], unfollowed := true, recurses := true, named := ["unicode/utf8.first", "unicode/utf8.acceptRanges", "internal/bytealg.MaxLen"], apart := false, laid := [("unicode/utf8.acceptRanges", laid_unicode_utf8_acceptRanges), ("unicode/utf8.first", laid_unicode_utf8_first)] }
def NatSumSpecSaid : Prop := natSumSpecRow.holds Tryd.pinned (OpenSpec.ofChange natSumSpecSpec)

/-- ITS FALSE NEIGHBOUR: 'it returns false'. Refute it at one input. -/
def natSumSpecWrong : ChangeSpec := { name := "natSumSpec", fn := fun _ => fun
  | [d1, d2] => { results := [.lit (.bool false)], args := [d1, d2] }
  | _ => none }
def NatSumSpecWrongFalsely : Prop := natSumSpecRow.holds Tryd.pinned (OpenSpec.ofChange natSumSpecWrong)

/-- 'podiumlaw09.NatDivide': WHATEVER THE INPUT: true; the input reads as it did. -/
def natDivideSpec : ChangeSpec := { name := "natDivide", fn := fun _ => fun
  | [d1, d2, d3, d4] => { results := [.lit (.bool true)], args := [d1, d2, d3, d4] }
  | _ => none }
def natDivideRow : OpenClaim := { program := "ytpaaanbcadlhiaadoor", sum := "f28749674eb3432a5dfa55c8b22de1514b3cc290b2d2402f1454cf0e5ed6760e", func := "podium/podiumlaw09.NatDivide", spec := "natDivide", inPlace := ["internal/bytealg.IndexByteString", "internal/bytealg.IndexString"], unfollowed := true, recurses := true, named := ["unicode/utf8.first", "unicode/utf8.acceptRanges", "internal/bytealg.MaxLen"], apart := false, laid := [("unicode/utf8.acceptRanges", laid_unicode_utf8_acceptRanges), ("unicode/utf8.first", laid_unicode_utf8_first)] }
def NatDivideSaid : Prop := natDivideRow.holds Tryd.pinned (OpenSpec.ofChange natDivideSpec)

/-- ITS FALSE NEIGHBOUR: 'it returns false'. Refute it at one input. -/
def natDivideWrong : ChangeSpec := { name := "natDivide", fn := fun _ => fun
  | [d1, d2, d3, d4] => { results := [.lit (.bool false)], args := [d1, d2, d3, d4] }
  | _ => none }
def NatDivideWrongFalsely : Prop := natDivideRow.holds Tryd.pinned (OpenSpec.ofChange natDivideWrong)

/-- 'podiumlaw09.NatLaws': WHATEVER THE INPUT: true; the input reads as it did. -/
def natLawsSpec : ChangeSpec := { name := "natLaws", fn := fun _ => fun
  | [d1, d2, d3] => { results := [.lit (.bool true)], args := [d1, d2, d3] }
  | _ => none }
def natLawsRow : OpenClaim := { program := "ytpaaanbcadlhiaadoor", sum := "f28749674eb3432a5dfa55c8b22de1514b3cc290b2d2402f1454cf0e5ed6760e", func := "podium/podiumlaw09.NatLaws", spec := "natLaws", inPlace := ["internal/bytealg.IndexByteString", "internal/bytealg.IndexString"], unfollowed := true, recurses := true, named := ["unicode/utf8.first", "unicode/utf8.acceptRanges", "internal/bytealg.MaxLen"], apart := false, laid := [("unicode/utf8.acceptRanges", laid_unicode_utf8_acceptRanges), ("unicode/utf8.first", laid_unicode_utf8_first)] }
def NatLawsSaid : Prop := natLawsRow.holds Tryd.pinned (OpenSpec.ofChange natLawsSpec)

/-- ITS FALSE NEIGHBOUR: 'it returns false'. Refute it at one input. -/
def natLawsWrong : ChangeSpec := { name := "natLaws", fn := fun _ => fun
  | [d1, d2, d3] => { results := [.lit (.bool false)], args := [d1, d2, d3] }
  | _ => none }
def NatLawsWrongFalsely : Prop := natLawsRow.holds Tryd.pinned (OpenSpec.ofChange natLawsWrong)

/- THE SECOND FORM. 'bulk': how many values and letters a reading holds, each counted each time it is reached (what is shared counts as often as it is met; a slice's spare places count too). A statement '..UptoSaid' is the law's where the arguments, and the package variables that the reading takes, are together of bulk at most 1048576: NARROWER than '..Said'. Prove '..Said' where nothing that the law and all that it calls make is longer than what came in: it says more and counts as full. Else prove '..UptoSaid'. A law counts once. -/
mutual
def uptoBulk {H : Type} : DataW H → Nat
  | .lit (.string bytes) => bytes.length + 1
  | .lit _ => 1
  | .nil => 1
  | .ptr d => uptoBulk d + 1
  | .slice elems spare => uptoBulkAll elems + uptoBulkAll spare + 1
  | .agg parts => uptoBulkAll parts + 1
  | .iface _ d => uptoBulk d + 1
  | .map entries => uptoBulkEntries entries + 1
  | .held _ => 1
def uptoBulkAll {H : Type} : List (DataW H) → Nat
  | [] => 0
  | d :: r => uptoBulk d + uptoBulkAll r
def uptoBulkEntries {H : Type} : List (Lit × DataW H) → Nat
  | [] => 0
  | x :: r => uptoBulkEntry x + uptoBulkEntries r
def uptoBulkEntry {H : Type} : Lit × DataW H → Nat
  | (.string bytes, d) => bytes.length + uptoBulk d + 1
  | (_, d) => uptoBulk d + 1
 end
def uptoSmall : (H : Type) → List (DataW H) → Bool := fun _ ds => decide (uptoBulkAll ds ≤ 1048576)
def OpenSpec.upto (s : _root_.Go.ChangeSpec) : _root_.Go.OpenSpec := { _root_.Go.OpenSpec.ofChange s with cond := some uptoSmall }

/-- 'podiumlaw09.NatDivSpec', WHERE WHAT IT READS IS OF BULK AT MOST 1048576: true; the input reads as it did. -/
def natDivSpecUptoRow : OpenClaim := { program := "ytpaaanbcadlhiaadoor", sum := "f28749674eb3432a5dfa55c8b22de1514b3cc290b2d2402f1454cf0e5ed6760e", func := "podium/podiumlaw09.NatDivSpec", spec := "natDivSpec", inPlace := ["internal/bytealg.IndexByteString", "internal/bytealg.IndexString"], unfollowed := true, recurses := true, named := ["unicode/utf8.first", "unicode/utf8.acceptRanges", "internal/bytealg.MaxLen"], apart := false, laid := [("unicode/utf8.acceptRanges", laid_unicode_utf8_acceptRanges), ("unicode/utf8.first", laid_unicode_utf8_first)], narrowed := true }
def NatDivSpecUptoSaid : Prop := natDivSpecUptoRow.holds Tryd.pinned (OpenSpec.upto natDivSpecSpec)

/-- 'podiumlaw09.NatTextSpec', WHERE WHAT IT READS IS OF BULK AT MOST 1048576: true; the input reads as it did. -/
def natTextSpecUptoRow : OpenClaim := { program := "ytpaaanbcadlhiaadoor", sum := "f28749674eb3432a5dfa55c8b22de1514b3cc290b2d2402f1454cf0e5ed6760e", func := "podium/podiumlaw09.NatTextSpec", spec := "natTextSpec", inPlace := ["internal/bytealg.IndexByteString", "internal/bytealg.IndexString"], unfollowed := true, recurses := true, named := ["unicode/utf8.first", "unicode/utf8.acceptRanges", "internal/bytealg.MaxLen"], apart := false, laid := [("unicode/utf8.acceptRanges", laid_unicode_utf8_acceptRanges), ("unicode/utf8.first", laid_unicode_utf8_first)], narrowed := true }
def NatTextSpecUptoSaid : Prop := natTextSpecUptoRow.holds Tryd.pinned (OpenSpec.upto natTextSpecSpec)

/-- 'podiumlaw09.NatBack', WHERE WHAT IT READS IS OF BULK AT MOST 1048576: true; the input reads as it did. -/
def natBackUptoRow : OpenClaim := { program := "ytpaaanbcadlhiaadoor", sum := "f28749674eb3432a5dfa55c8b22de1514b3cc290b2d2402f1454cf0e5ed6760e", func := "podium/podiumlaw09.NatBack", spec := "natBack", inPlace := ["internal/bytealg.IndexByteString", "internal/bytealg.IndexString"], unfollowed := true, recurses := true, named := ["unicode/utf8.first", "unicode/utf8.acceptRanges", "internal/bytealg.MaxLen"], apart := false, laid := [("unicode/utf8.acceptRanges", laid_unicode_utf8_acceptRanges), ("unicode/utf8.first", laid_unicode_utf8_first)], narrowed := true }
def NatBackUptoSaid : Prop := natBackUptoRow.holds Tryd.pinned (OpenSpec.upto natBackSpec)

/-- 'podiumlaw09.NatSpec', WHERE WHAT IT READS IS OF BULK AT MOST 1048576: true; the input reads as it did. -/
def natSpecUptoRow : OpenClaim := { program := "ytpaaanbcadlhiaadoor", sum := "f28749674eb3432a5dfa55c8b22de1514b3cc290b2d2402f1454cf0e5ed6760e", func := "podium/podiumlaw09.NatSpec", spec := "natSpec", inPlace := ["internal/bytealg.IndexByteString", "internal/bytealg.IndexString"], unfollowed := true, recurses := true, named := ["unicode/utf8.first", "unicode/utf8.acceptRanges", "internal/bytealg.MaxLen"], apart := false, laid := [("unicode/utf8.acceptRanges", laid_unicode_utf8_acceptRanges), ("unicode/utf8.first", laid_unicode_utf8_first)], narrowed := true }
def NatSpecUptoSaid : Prop := natSpecUptoRow.holds Tryd.pinned (OpenSpec.upto natSpecSpec)

/-- 'podiumlaw09.NatGcd', WHERE WHAT IT READS IS OF BULK AT MOST 1048576: true; the input reads as it did. -/
def natGcdUptoRow : OpenClaim := { program := "ytpaaanbcadlhiaadoor", sum := "f28749674eb3432a5dfa55c8b22de1514b3cc290b2d2402f1454cf0e5ed6760e", func := "podium/podiumlaw09.NatGcd", spec := "natGcd", inPlace := ["internal/bytealg.IndexByteString", "internal/bytealg.IndexString"], unfollowed := true, recurses := true, named := ["unicode/utf8.first", "unicode/utf8.acceptRanges", "internal/bytealg.MaxLen"], apart := false, laid := [("unicode/utf8.acceptRanges", laid_unicode_utf8_acceptRanges), ("unicode/utf8.first", laid_unicode_utf8_first)], narrowed := true }
def NatGcdUptoSaid : Prop := natGcdUptoRow.holds Tryd.pinned (OpenSpec.upto natGcdSpec)

/-- 'podiumlaw09.NatChoose', WHERE WHAT IT READS IS OF BULK AT MOST 1048576: true; the input reads as it did. -/
def natChooseUptoRow : OpenClaim := { program := "ytpaaanbcadlhiaadoor", sum := "f28749674eb3432a5dfa55c8b22de1514b3cc290b2d2402f1454cf0e5ed6760e", func := "podium/podiumlaw09.NatChoose", spec := "natChoose", inPlace := ["internal/bytealg.IndexByteString", "internal/bytealg.IndexString"], unfollowed := true, recurses := true, named := ["unicode/utf8.first", "unicode/utf8.acceptRanges", "internal/bytealg.MaxLen"], apart := false, laid := [("unicode/utf8.acceptRanges", laid_unicode_utf8_acceptRanges), ("unicode/utf8.first", laid_unicode_utf8_first)], narrowed := true }
def NatChooseUptoSaid : Prop := natChooseUptoRow.holds Tryd.pinned (OpenSpec.upto natChooseSpec)

/-- 'podiumlaw09.NatSumSpec', WHERE WHAT IT READS IS OF BULK AT MOST 1048576: true; the input reads as it did. -/
def natSumSpecUptoRow : OpenClaim := { program := "ytpaaanbcadlhiaadoor", sum := "f28749674eb3432a5dfa55c8b22de1514b3cc290b2d2402f1454cf0e5ed6760e", func := "podium/podiumlaw09.NatSumSpec", spec := "natSumSpec", inPlace := ["internal/bytealg.IndexByteString", "internal/bytealg.IndexString"], unfollowed := true, recurses := true, named := ["unicode/utf8.first", "unicode/utf8.acceptRanges", "internal/bytealg.MaxLen"], apart := false, laid := [("unicode/utf8.acceptRanges", laid_unicode_utf8_acceptRanges), ("unicode/utf8.first", laid_unicode_utf8_first)], narrowed := true }
def NatSumSpecUptoSaid : Prop := natSumSpecUptoRow.holds Tryd.pinned (OpenSpec.upto natSumSpecSpec)

/-- 'podiumlaw09.NatDivide', WHERE WHAT IT READS IS OF BULK AT MOST 1048576: true; the input reads as it did. -/
def natDivideUptoRow : OpenClaim := { program := "ytpaaanbcadlhiaadoor", sum := "f28749674eb3432a5dfa55c8b22de1514b3cc290b2d2402f1454cf0e5ed6760e", func := "podium/podiumlaw09.NatDivide", spec := "natDivide", inPlace := ["internal/bytealg.IndexByteString", "internal/bytealg.IndexString"], unfollowed := true, recurses := true, named := ["unicode/utf8.first", "unicode/utf8.acceptRanges", "internal/bytealg.MaxLen"], apart := false, laid := [("unicode/utf8.acceptRanges", laid_unicode_utf8_acceptRanges), ("unicode/utf8.first", laid_unicode_utf8_first)], narrowed := true }
def NatDivideUptoSaid : Prop := natDivideUptoRow.holds Tryd.pinned (OpenSpec.upto natDivideSpec)

/-- 'podiumlaw09.NatLaws', WHERE WHAT IT READS IS OF BULK AT MOST 1048576: true; the input reads as it did. -/
def natLawsUptoRow : OpenClaim := { program := "ytpaaanbcadlhiaadoor", sum := "f28749674eb3432a5dfa55c8b22de1514b3cc290b2d2402f1454cf0e5ed6760e", func := "podium/podiumlaw09.NatLaws", spec := "natLaws", inPlace := ["internal/bytealg.IndexByteString", "internal/bytealg.IndexString"], unfollowed := true, recurses := true, named := ["unicode/utf8.first", "unicode/utf8.acceptRanges", "internal/bytealg.MaxLen"], apart := false, laid := [("unicode/utf8.acceptRanges", laid_unicode_utf8_acceptRanges), ("unicode/utf8.first", laid_unicode_utf8_first)], narrowed := true }
def NatLawsUptoSaid : Prop := natLawsUptoRow.holds Tryd.pinned (OpenSpec.upto natLawsSpec)

end Rows
end Go.Proofs.YtpaaanbcadlhiaaDoor
