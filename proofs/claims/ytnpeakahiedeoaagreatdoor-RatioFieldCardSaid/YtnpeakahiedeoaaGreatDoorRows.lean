/-
  NARROWER THAN 'FOR EVERY INPUT', by the rows' own cells (each row's printed sentence says how): RatioMakeSpec: laid · RatioTextSpec: laid · RatioFloor: laid · RatioBack: laid · RatioSpec: laid · RatioField: laid · RatioLowest: laid.
  DERIVED. THE GIVEN ROWS OF THIS SEAT. 7 by the template 'for every input the law returns true; each argument reads behind the call as it read before'; 0 by the template 'total and deterministic' (their statements: YtnpeakahiedeoaaGreatDoorTotals.lean).
  GIVEN WITH THE SEED: the statements are not yours to turn. If you find one false, say at which input.
  Laid BY PROGRAM, IN A SANDBOX (cutbox-rows.mjs): the forced cells as the released guide's own fill.sh prints them over the translation 8391f89d9987e8a3… (all of the seat's roots in one cut). By AI agents, Wed Nov 11 2026. No macro, syntax, notation, axiom, sorry.
-/
import Derived.Test.YtnpeakahiedeoaaGreatDoorChecked
import GoSem.PinnedTables
import GoSem.Claim
import GoSem.ClaimJoined
import GoSem.ClaimMapViews
import Derived.JoinedTies
import Derived.KernelRfl
namespace Go.Proofs.YtnpeakahiedeoaaGreatDoor
/- THE CELL 'sum', in the pinned program and in every row, IS THE sha256 OF THE DUMP (.gsa) THAT YtnpeakahiedeoaaGreatDoorProg.lean LOADS. Nothing in Lean hashes anything: it is a label: what it is worth is what the hold of that sum in a sandbox is worth. -/
noncomputable def Tryz.pinned : Pinned := { name := "ytnpeakahiedeoaagreatdoor", sum := "8391f89d9987e8a387445199a952f5a273237b7c2da0ac85d5823e7a79dd065f", checked := Tryz.checked }
namespace Rows
def none {H : Type} : Left H := { results := [], args := [] }

/- WHAT THE LISTED PACKAGE-LEVEL VARIABLES READ AS WHEN THE CALL BEGINS. Each datum BY PROGRAM (the guide's laid-datum.mjs) off the statement by which the dump's own 'gosem.cut.vars' lays the variable. In a bare row this is a premise. The card (YtnpeakahiedeoaaGreatDoorCards.lean) ties it to the program's text. -/
def laid_unicode_utf8_acceptRanges {H : Type} : DataW H := .agg [.agg [.lit (.int .u8 128), .lit (.int .u8 191)], .agg [.lit (.int .u8 160), .lit (.int .u8 191)], .agg [.lit (.int .u8 128), .lit (.int .u8 159)], .agg [.lit (.int .u8 144), .lit (.int .u8 191)], .agg [.lit (.int .u8 128), .lit (.int .u8 143)], .agg [.lit (.int .u8 0), .lit (.int .u8 0)], .agg [.lit (.int .u8 0), .lit (.int .u8 0)], .agg [.lit (.int .u8 0), .lit (.int .u8 0)], .agg [.lit (.int .u8 0), .lit (.int .u8 0)], .agg [.lit (.int .u8 0), .lit (.int .u8 0)], .agg [.lit (.int .u8 0), .lit (.int .u8 0)], .agg [.lit (.int .u8 0), .lit (.int .u8 0)], .agg [.lit (.int .u8 0), .lit (.int .u8 0)], .agg [.lit (.int .u8 0), .lit (.int .u8 0)], .agg [.lit (.int .u8 0), .lit (.int .u8 0)], .agg [.lit (.int .u8 0), .lit (.int .u8 0)]]
/-- One of Go's own tables, pinned by name: the form's constant. -/
def laid_unicode_utf8_first : DataW Unit := Go.Pinned.utf8First

/-- 'podiumlaw10.RatioMakeSpec': WHATEVER THE INPUT: true; the input reads as it did. -/
def ratioMakeSpecSpec : ChangeSpec := { name := "ratioMakeSpec", fn := fun _ => fun
  | [d1, d2, d3, d4, d5] => { results := [.lit (.bool true)], args := [d1, d2, d3, d4, d5] }
  | _ => none }
def ratioMakeSpecRow : OpenClaim := { program := "ytnpeakahiedeoaagreatdoor", sum := "8391f89d9987e8a387445199a952f5a273237b7c2da0ac85d5823e7a79dd065f", func := "podium/podiumlaw10.RatioMakeSpec", spec := "ratioMakeSpec", inPlace := ["internal/bytealg.IndexByteString", "internal/bytealg.IndexString"], unfollowed := true, recurses := true, named := ["unicode/utf8.first", "unicode/utf8.acceptRanges", "internal/bytealg.MaxLen"], apart := false, laid := [("unicode/utf8.acceptRanges", laid_unicode_utf8_acceptRanges), ("unicode/utf8.first", laid_unicode_utf8_first)] }
def RatioMakeSpecSaid : Prop := ratioMakeSpecRow.holds Tryz.pinned (OpenSpec.ofChange ratioMakeSpecSpec)

/-- ITS FALSE NEIGHBOUR: 'it returns false'. Refute it at one input. -/
def ratioMakeSpecWrong : ChangeSpec := { name := "ratioMakeSpec", fn := fun _ => fun
  | [d1, d2, d3, d4, d5] => { results := [.lit (.bool false)], args := [d1, d2, d3, d4, d5] }
  | _ => none }
def RatioMakeSpecWrongFalsely : Prop := ratioMakeSpecRow.holds Tryz.pinned (OpenSpec.ofChange ratioMakeSpecWrong)

/-- 'podiumlaw10.RatioTextSpec': WHATEVER THE INPUT: true; the input reads as it did. -/
def ratioTextSpecSpec : ChangeSpec := { name := "ratioTextSpec", fn := fun _ => fun
  | [d1, d2] => { results := [.lit (.bool true)], args := [d1, d2] }
  | _ => none }
def ratioTextSpecRow : OpenClaim := { program := "ytnpeakahiedeoaagreatdoor", sum := "8391f89d9987e8a387445199a952f5a273237b7c2da0ac85d5823e7a79dd065f", func := "podium/podiumlaw10.RatioTextSpec", spec := "ratioTextSpec", inPlace := ["internal/bytealg.IndexByteString", "internal/bytealg.IndexString"], unfollowed := true, recurses := true, named := ["unicode/utf8.first", "unicode/utf8.acceptRanges", "internal/bytealg.MaxLen"], apart := false, laid := [("unicode/utf8.acceptRanges", laid_unicode_utf8_acceptRanges), ("unicode/utf8.first", laid_unicode_utf8_first)] }
def RatioTextSpecSaid : Prop := ratioTextSpecRow.holds Tryz.pinned (OpenSpec.ofChange ratioTextSpecSpec)

/-- ITS FALSE NEIGHBOUR: 'it returns false'. Refute it at one input. -/
def ratioTextSpecWrong : ChangeSpec := { name := "ratioTextSpec", fn := fun _ => fun
  | [d1, d2] => { results := [.lit (.bool false)], args := [d1, d2] }
  | _ => none }
def RatioTextSpecWrongFalsely : Prop := ratioTextSpecRow.holds Tryz.pinned (OpenSpec.ofChange ratioTextSpecWrong)

/-- 'podiumlaw10.RatioFloor': WHATEVER THE INPUT: true; the input reads as it did. -/
def ratioFloorSpec : ChangeSpec := { name := "ratioFloor", fn := fun _ => fun
  | [d] => { results := [.lit (.bool true)], args := [d] }
  | _ => none }
def ratioFloorRow : OpenClaim := { program := "ytnpeakahiedeoaagreatdoor", sum := "8391f89d9987e8a387445199a952f5a273237b7c2da0ac85d5823e7a79dd065f", func := "podium/podiumlaw10.RatioFloor", spec := "ratioFloor", inPlace := ["internal/bytealg.IndexByteString", "internal/bytealg.IndexString"], unfollowed := true, recurses := true, named := ["unicode/utf8.first", "unicode/utf8.acceptRanges", "internal/bytealg.MaxLen"], apart := false, laid := [("unicode/utf8.acceptRanges", laid_unicode_utf8_acceptRanges), ("unicode/utf8.first", laid_unicode_utf8_first)] }
def RatioFloorSaid : Prop := ratioFloorRow.holds Tryz.pinned (OpenSpec.ofChange ratioFloorSpec)

/-- ITS FALSE NEIGHBOUR: 'it returns false'. Refute it at one input. -/
def ratioFloorWrong : ChangeSpec := { name := "ratioFloor", fn := fun _ => fun
  | [d] => { results := [.lit (.bool false)], args := [d] }
  | _ => none }
def RatioFloorWrongFalsely : Prop := ratioFloorRow.holds Tryz.pinned (OpenSpec.ofChange ratioFloorWrong)

/-- 'podiumlaw10.RatioBack': WHATEVER THE INPUT: true; the input reads as it did. -/
def ratioBackSpec : ChangeSpec := { name := "ratioBack", fn := fun _ => fun
  | [d1, d2] => { results := [.lit (.bool true)], args := [d1, d2] }
  | _ => none }
def ratioBackRow : OpenClaim := { program := "ytnpeakahiedeoaagreatdoor", sum := "8391f89d9987e8a387445199a952f5a273237b7c2da0ac85d5823e7a79dd065f", func := "podium/podiumlaw10.RatioBack", spec := "ratioBack", inPlace := ["internal/bytealg.IndexByteString", "internal/bytealg.IndexString"], unfollowed := true, recurses := true, named := ["unicode/utf8.first", "unicode/utf8.acceptRanges", "internal/bytealg.MaxLen"], apart := false, laid := [("unicode/utf8.acceptRanges", laid_unicode_utf8_acceptRanges), ("unicode/utf8.first", laid_unicode_utf8_first)] }
def RatioBackSaid : Prop := ratioBackRow.holds Tryz.pinned (OpenSpec.ofChange ratioBackSpec)

/-- ITS FALSE NEIGHBOUR: 'it returns false'. Refute it at one input. -/
def ratioBackWrong : ChangeSpec := { name := "ratioBack", fn := fun _ => fun
  | [d1, d2] => { results := [.lit (.bool false)], args := [d1, d2] }
  | _ => none }
def RatioBackWrongFalsely : Prop := ratioBackRow.holds Tryz.pinned (OpenSpec.ofChange ratioBackWrong)

/-- 'podiumlaw10.RatioSpec': WHATEVER THE INPUT: true; the input reads as it did. -/
def ratioSpecSpec : ChangeSpec := { name := "ratioSpec", fn := fun _ => fun
  | [d1, d2] => { results := [.lit (.bool true)], args := [d1, d2] }
  | _ => none }
def ratioSpecRow : OpenClaim := { program := "ytnpeakahiedeoaagreatdoor", sum := "8391f89d9987e8a387445199a952f5a273237b7c2da0ac85d5823e7a79dd065f", func := "podium/podiumlaw10.RatioSpec", spec := "ratioSpec", inPlace := ["internal/bytealg.IndexByteString", "internal/bytealg.IndexString"], unfollowed := true, recurses := true, named := ["unicode/utf8.first", "unicode/utf8.acceptRanges", "internal/bytealg.MaxLen"], apart := false, laid := [("unicode/utf8.acceptRanges", laid_unicode_utf8_acceptRanges), ("unicode/utf8.first", laid_unicode_utf8_first)] }
def RatioSpecSaid : Prop := ratioSpecRow.holds Tryz.pinned (OpenSpec.ofChange ratioSpecSpec)

/-- ITS FALSE NEIGHBOUR: 'it returns false'. Refute it at one input. -/
def ratioSpecWrong : ChangeSpec := { name := "ratioSpec", fn := fun _ => fun
  | [d1, d2] => { results := [.lit (.bool false)], args := [d1, d2] }
  | _ => none }
def RatioSpecWrongFalsely : Prop := ratioSpecRow.holds Tryz.pinned (OpenSpec.ofChange ratioSpecWrong)

/-- 'podiumlaw10.RatioField': WHATEVER THE INPUT: true; the input reads as it did. -/
def ratioFieldSpec : ChangeSpec := { name := "ratioField", fn := fun _ => fun
  | [d1, d2, d3] => { results := [.lit (.bool true)], args := [d1, d2, d3] }
  | _ => none }
def ratioFieldRow : OpenClaim := { program := "ytnpeakahiedeoaagreatdoor", sum := "8391f89d9987e8a387445199a952f5a273237b7c2da0ac85d5823e7a79dd065f", func := "podium/podiumlaw10.RatioField", spec := "ratioField", inPlace := ["internal/bytealg.IndexByteString", "internal/bytealg.IndexString"], unfollowed := true, recurses := true, named := ["unicode/utf8.first", "unicode/utf8.acceptRanges", "internal/bytealg.MaxLen"], apart := false, laid := [("unicode/utf8.acceptRanges", laid_unicode_utf8_acceptRanges), ("unicode/utf8.first", laid_unicode_utf8_first)] }
def RatioFieldSaid : Prop := ratioFieldRow.holds Tryz.pinned (OpenSpec.ofChange ratioFieldSpec)

/-- ITS FALSE NEIGHBOUR: 'it returns false'. Refute it at one input. -/
def ratioFieldWrong : ChangeSpec := { name := "ratioField", fn := fun _ => fun
  | [d1, d2, d3] => { results := [.lit (.bool false)], args := [d1, d2, d3] }
  | _ => none }
def RatioFieldWrongFalsely : Prop := ratioFieldRow.holds Tryz.pinned (OpenSpec.ofChange ratioFieldWrong)

/-- 'podiumlaw10.RatioLowest': WHATEVER THE INPUT: true; the input reads as it did. -/
def ratioLowestSpec : ChangeSpec := { name := "ratioLowest", fn := fun _ => fun
  | [d1, d2, d3, d4, d5] => { results := [.lit (.bool true)], args := [d1, d2, d3, d4, d5] }
  | _ => none }
def ratioLowestRow : OpenClaim := { program := "ytnpeakahiedeoaagreatdoor", sum := "8391f89d9987e8a387445199a952f5a273237b7c2da0ac85d5823e7a79dd065f", func := "podium/podiumlaw10.RatioLowest", spec := "ratioLowest", inPlace := ["internal/bytealg.IndexByteString", "internal/bytealg.IndexString"], unfollowed := true, recurses := true, named := ["unicode/utf8.first", "unicode/utf8.acceptRanges", "internal/bytealg.MaxLen"], apart := false, laid := [("unicode/utf8.acceptRanges", laid_unicode_utf8_acceptRanges), ("unicode/utf8.first", laid_unicode_utf8_first)] }
def RatioLowestSaid : Prop := ratioLowestRow.holds Tryz.pinned (OpenSpec.ofChange ratioLowestSpec)

/-- ITS FALSE NEIGHBOUR: 'it returns false'. Refute it at one input. -/
def ratioLowestWrong : ChangeSpec := { name := "ratioLowest", fn := fun _ => fun
  | [d1, d2, d3, d4, d5] => { results := [.lit (.bool false)], args := [d1, d2, d3, d4, d5] }
  | _ => none }
def RatioLowestWrongFalsely : Prop := ratioLowestRow.holds Tryz.pinned (OpenSpec.ofChange ratioLowestWrong)

/- THE SECOND FORM. 'bulk': how many values and letters a reading holds, each counted each time it is reached (what is shared counts as often as it is met; a slice's spare places count too). A statement '..UptoSaid' is the law's where the arguments, and the package variables that the reading takes, are together of bulk at most 1048576: NARROWER than '..Said'. Prove '..Said' where nothing that the law and all that it calls make is longer than what came in: it says more and counts as full. Else prove '..UptoSaid'. A law counts once. -/
mutual
def uptoBulk {H : Type} : DataW H → Nat
  | .lit (.string bytes) => bytes.length + 1
  | .lit _ => 1
  | .nil => 1
  | .ptr d => uptoBulk d + 1
  | .slice elems spare => uptoBulkAll elems + uptoBulkAll spare + 1
  | .agg parts => uptoBulkAll parts + 1
  | .iface _ d => uptoBulk d + 1
  | .map entries => uptoBulkEntries entries + 1
  | .held _ => 1
def uptoBulkAll {H : Type} : List (DataW H) → Nat
  | [] => 0
  | d :: r => uptoBulk d + uptoBulkAll r
def uptoBulkEntries {H : Type} : List (Lit × DataW H) → Nat
  | [] => 0
  | x :: r => uptoBulkEntry x + uptoBulkEntries r
def uptoBulkEntry {H : Type} : Lit × DataW H → Nat
  | (.string bytes, d) => bytes.length + uptoBulk d + 1
  | (_, d) => uptoBulk d + 1
 end
def uptoSmall : (H : Type) → List (DataW H) → Bool := fun _ ds => decide (uptoBulkAll ds ≤ 1048576)
def OpenSpec.upto (s : _root_.Go.ChangeSpec) : _root_.Go.OpenSpec := { _root_.Go.OpenSpec.ofChange s with cond := some uptoSmall }

/-- 'podiumlaw10.RatioMakeSpec', WHERE WHAT IT READS IS OF BULK AT MOST 1048576: true; the input reads as it did. -/
def ratioMakeSpecUptoRow : OpenClaim := { program := "ytnpeakahiedeoaagreatdoor", sum := "8391f89d9987e8a387445199a952f5a273237b7c2da0ac85d5823e7a79dd065f", func := "podium/podiumlaw10.RatioMakeSpec", spec := "ratioMakeSpec", inPlace := ["internal/bytealg.IndexByteString", "internal/bytealg.IndexString"], unfollowed := true, recurses := true, named := ["unicode/utf8.first", "unicode/utf8.acceptRanges", "internal/bytealg.MaxLen"], apart := false, laid := [("unicode/utf8.acceptRanges", laid_unicode_utf8_acceptRanges), ("unicode/utf8.first", laid_unicode_utf8_first)], narrowed := true }
def RatioMakeSpecUptoSaid : Prop := ratioMakeSpecUptoRow.holds Tryz.pinned (OpenSpec.upto ratioMakeSpecSpec)

/-- 'podiumlaw10.RatioTextSpec', WHERE WHAT IT READS IS OF BULK AT MOST 1048576: true; the input reads as it did. -/
def ratioTextSpecUptoRow : OpenClaim := { program := "ytnpeakahiedeoaagreatdoor", sum := "8391f89d9987e8a387445199a952f5a273237b7c2da0ac85d5823e7a79dd065f", func := "podium/podiumlaw10.RatioTextSpec", spec := "ratioTextSpec", inPlace := ["internal/bytealg.IndexByteString", "internal/bytealg.IndexString"], unfollowed := true, recurses := true, named := ["unicode/utf8.first", "unicode/utf8.acceptRanges", "internal/bytealg.MaxLen"], apart := false, laid := [("unicode/utf8.acceptRanges", laid_unicode_utf8_acceptRanges), ("unicode/utf8.first", laid_unicode_utf8_first)], narrowed := true }
def RatioTextSpecUptoSaid : Prop := ratioTextSpecUptoRow.holds Tryz.pinned (OpenSpec.upto ratioTextSpecSpec)

/-- 'podiumlaw10.RatioFloor', WHERE WHAT IT READS IS OF BULK AT MOST 1048576: true; the input reads as it did. -/
def ratioFloorUptoRow : OpenClaim := { program := "ytnpeakahiedeoaagreatdoor", sum := "8391f89d9987e8a387445199a952f5a273237b7c2da0ac85d5823e7a79dd065f", func := "podium/podiumlaw10.RatioFloor", spec := "ratioFloor", inPlace := ["internal/bytealg.IndexByteString", "internal/bytealg.IndexString"], unfollowed := true, recurses := true, named := ["unicode/utf8.first", "unicode/utf8.acceptRanges", "internal/bytealg.MaxLen"], apart := false, laid := [("unicode/utf8.acceptRanges", laid_unicode_utf8_acceptRanges), ("unicode/utf8.first", laid_unicode_utf8_first)], narrowed := true }
def RatioFloorUptoSaid : Prop := ratioFloorUptoRow.holds Tryz.pinned (OpenSpec.upto ratioFloorSpec)

/-- 'podiumlaw10.RatioBack', WHERE WHAT IT READS IS OF BULK AT MOST 1048576: true; the input reads as it did. -/
def ratioBackUptoRow : OpenClaim := { program := "ytnpeakahiedeoaagreatdoor", sum := "8391f89d9987e8a387445199a952f5a273237b7c2da0ac85d5823e7a79dd065f", func := "podium/podiumlaw10.RatioBack", spec := "ratioBack", inPlace := ["internal/bytealg.IndexByteString", "internal/bytealg.IndexString"], unfollowed := true, recurses := true, named := ["unicode/utf8.first", "unicode/utf8.acceptRanges", "internal/bytealg.MaxLen"], apart := false, laid := [("unicode/utf8.acceptRanges", laid_unicode_utf8_acceptRanges), ("unicode/utf8.first", laid_unicode_utf8_first)], narrowed := true }
def RatioBackUptoSaid : Prop := ratioBackUptoRow.holds Tryz.pinned (OpenSpec.upto ratioBackSpec)

/-- 'podiumlaw10.RatioSpec', WHERE WHAT IT READS IS OF BULK AT MOST 1048576: true; the input reads as it did. -/
def ratioSpecUptoRow : OpenClaim := { program := "ytnpeakahiedeoaagreatdoor", sum := "8391f89d9987e8a387445199a952f5a273237b7c2da0ac85d5823e7a79dd065f", func := "podium/podiumlaw10.RatioSpec", spec := "ratioSpec", inPlace := ["internal/bytealg.IndexByteString", "internal/bytealg.IndexString"], unfollowed := true, recurses := true, named := ["unicode/utf8.first", "unicode/utf8.acceptRanges", "internal/bytealg.MaxLen"], apart := false, laid := [("unicode/utf8.acceptRanges", laid_unicode_utf8_acceptRanges), ("unicode/utf8.first", laid_unicode_utf8_first)], narrowed := true }
def RatioSpecUptoSaid : Prop := ratioSpecUptoRow.holds Tryz.pinned (OpenSpec.upto ratioSpecSpec)

/-- 'podiumlaw10.RatioField', WHERE WHAT IT READS IS OF BULK AT MOST 1048576: true; the input reads as it did. -/
def ratioFieldUptoRow : OpenClaim := { program := "ytnpeakahiedeoaagreatdoor", sum := "8391f89d9987e8a387445199a952f5a273237b7c2da0ac85d5823e7a79dd065f", func := "podium/podiumlaw10.RatioField", spec := "ratioField", inPlace := ["internal/bytealg.IndexByteString", "internal/bytealg.IndexString"], unfollowed := true, recurses := true, named := ["unicode/utf8.first", "unicode/utf8.acceptRanges", "internal/bytealg.MaxLen"], apart := false, laid := [("unicode/utf8.acceptRanges", laid_unicode_utf8_acceptRanges), ("unicode/utf8.first", laid_unicode_utf8_first)], narrowed := true }
def RatioFieldUptoSaid : Prop := ratioFieldUptoRow.holds Tryz.pinned (OpenSpec.upto ratioFieldSpec)

/-- 'podiumlaw10.RatioLowest', WHERE WHAT IT READS IS OF BULK AT MOST 1048576: true; the input reads as it did. -/
def ratioLowestUptoRow : OpenClaim := { program := "ytnpeakahiedeoaagreatdoor", sum := "8391f89d9987e8a387445199a952f5a273237b7c2da0ac85d5823e7a79dd065f", func := "podium/podiumlaw10.RatioLowest", spec := "ratioLowest", inPlace := ["internal/bytealg.IndexByteString", "internal/bytealg.IndexString"], unfollowed := true, recurses := true, named := ["unicode/utf8.first", "unicode/utf8.acceptRanges", "internal/bytealg.MaxLen"], apart := false, laid := [("unicode/utf8.acceptRanges", laid_unicode_utf8_acceptRanges), ("unicode/utf8.first", laid_unicode_utf8_first)], narrowed := true }
def RatioLowestUptoSaid : Prop := ratioLowestUptoRow.holds Tryz.pinned (OpenSpec.upto ratioLowestSpec)

end Rows
end Go.Proofs.YtnpeakahiedeoaaGreatDoor
