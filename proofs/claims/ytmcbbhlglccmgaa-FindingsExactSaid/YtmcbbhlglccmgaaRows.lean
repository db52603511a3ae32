/-
  No cell of these rows narrows 'for every input' (looked for: loops, veiled, ifaces, maps, wideKeys, modest, calm, conditions, laid).
  DERIVED. THE GIVEN ROWS OF THIS SEAT. 7 by the template 'for every input the law returns true; each argument reads behind the call as it read before'; 0 by the template 'total and deterministic' (their statements: YtmcbbhlglccmgaaTotals.lean).
  GIVEN WITH THE SEED: the statements are not yours to turn. If you find one false, say at which input.
  Laid BY PROGRAM, IN A SANDBOX (cutbox-rows.mjs): the forced cells as the released guide's own fill.sh prints them over the translation cdcf8eaa0d1c1426… (all of the seat's roots in one cut). By AI agents, Wed Nov 11 2026. No macro, syntax, notation, axiom, sorry.
-/
import Derived.Test.YtmcbbhlglccmgaaChecked
import GoSem.Claim
import GoSem.ClaimJoined
import GoSem.ClaimMapViews
import Derived.JoinedTies
import Derived.KernelRfl
namespace Go.Proofs.Ytmcbbhlglccmgaa
/- THE CELL 'sum', in the pinned program and in every row, IS THE sha256 OF THE DUMP (.gsa) THAT YtmcbbhlglccmgaaProg.lean LOADS. Nothing in Lean hashes anything: it is a label: what it is worth is what the hold of that sum in a sandbox is worth. -/
noncomputable def Try.pinned : Pinned := { name := "ytmcbbhlglccmgaa", sum := "cdcf8eaa0d1c1426e5c7d587e340a6c80e34d0ed92dec467421723abcac56862", checked := Try.checked }
namespace Rows
def none {H : Type} : Left H := { results := [], args := [] }

/-- 'podiumlaw42.FindingsExact': WHATEVER THE INPUT: true; the input reads as it did. -/
def findingsExactSpec : ChangeSpec := { name := "findingsExact", fn := fun _ => fun
  | [d1, d2, d3, d4] => { results := [.lit (.bool true)], args := [d1, d2, d3, d4] }
  | _ => none }
def findingsExactRow : OpenClaim := { program := "ytmcbbhlglccmgaa", sum := "cdcf8eaa0d1c1426e5c7d587e340a6c80e34d0ed92dec467421723abcac56862", func := "podium/podiumlaw42.FindingsExact", spec := "findingsExact", unfollowed := true, recurses := true, plainKeys := false, apart := false }
def FindingsExactSaid : Prop := findingsExactRow.holds Try.pinned (OpenSpec.ofChange findingsExactSpec)

/-- ITS FALSE NEIGHBOUR: 'it returns false'. Refute it at one input. -/
def findingsExactWrong : ChangeSpec := { name := "findingsExact", fn := fun _ => fun
  | [d1, d2, d3, d4] => { results := [.lit (.bool false)], args := [d1, d2, d3, d4] }
  | _ => none }
def FindingsExactWrongFalsely : Prop := findingsExactRow.holds Try.pinned (OpenSpec.ofChange findingsExactWrong)

/-- 'podiumlaw42.FindingsShift': WHATEVER THE INPUT: true; the input reads as it did. -/
def findingsShiftSpec : ChangeSpec := { name := "findingsShift", fn := fun _ => fun
  | [d1, d2, d3, d4, d5] => { results := [.lit (.bool true)], args := [d1, d2, d3, d4, d5] }
  | _ => none }
def findingsShiftRow : OpenClaim := { program := "ytmcbbhlglccmgaa", sum := "cdcf8eaa0d1c1426e5c7d587e340a6c80e34d0ed92dec467421723abcac56862", func := "podium/podiumlaw42.FindingsShift", spec := "findingsShift", unfollowed := true, recurses := true, plainKeys := false, apart := false }
def FindingsShiftSaid : Prop := findingsShiftRow.holds Try.pinned (OpenSpec.ofChange findingsShiftSpec)

/-- ITS FALSE NEIGHBOUR: 'it returns false'. Refute it at one input. -/
def findingsShiftWrong : ChangeSpec := { name := "findingsShift", fn := fun _ => fun
  | [d1, d2, d3, d4, d5] => { results := [.lit (.bool false)], args := [d1, d2, d3, d4, d5] }
  | _ => none }
def FindingsShiftWrongFalsely : Prop := findingsShiftRow.holds Try.pinned (OpenSpec.ofChange findingsShiftWrong)

/-- 'podiumlaw16.CombineSpec': WHATEVER THE INPUT: true; the input reads as it did. -/
def combineSpecSpec : ChangeSpec := { name := "combineSpec", fn := fun _ => fun
  | [d1, d2, d3] => { results := [.lit (.bool true)], args := [d1, d2, d3] }
  | _ => none }
def combineSpecRow : OpenClaim := { program := "ytmcbbhlglccmgaa", sum := "cdcf8eaa0d1c1426e5c7d587e340a6c80e34d0ed92dec467421723abcac56862", func := "podium/podiumlaw16.CombineSpec", spec := "combineSpec", unfollowed := true, recurses := true, plainKeys := false, apart := false }
def CombineSpecSaid : Prop := combineSpecRow.holds Try.pinned (OpenSpec.ofChange combineSpecSpec)

/-- ITS FALSE NEIGHBOUR: 'it returns false'. Refute it at one input. -/
def combineSpecWrong : ChangeSpec := { name := "combineSpec", fn := fun _ => fun
  | [d1, d2, d3] => { results := [.lit (.bool false)], args := [d1, d2, d3] }
  | _ => none }
def CombineSpecWrongFalsely : Prop := combineSpecRow.holds Try.pinned (OpenSpec.ofChange combineSpecWrong)

/-- 'podiumlaw16.CombineTurned': WHATEVER THE INPUT: true; the input reads as it did. -/
def combineTurnedSpec : ChangeSpec := { name := "combineTurned", fn := fun _ => fun
  | [d1, d2] => { results := [.lit (.bool true)], args := [d1, d2] }
  | _ => none }
def combineTurnedRow : OpenClaim := { program := "ytmcbbhlglccmgaa", sum := "cdcf8eaa0d1c1426e5c7d587e340a6c80e34d0ed92dec467421723abcac56862", func := "podium/podiumlaw16.CombineTurned", spec := "combineTurned", unfollowed := true, recurses := true, plainKeys := false, apart := false }
def CombineTurnedSaid : Prop := combineTurnedRow.holds Try.pinned (OpenSpec.ofChange combineTurnedSpec)

/-- ITS FALSE NEIGHBOUR: 'it returns false'. Refute it at one input. -/
def combineTurnedWrong : ChangeSpec := { name := "combineTurned", fn := fun _ => fun
  | [d1, d2] => { results := [.lit (.bool false)], args := [d1, d2] }
  | _ => none }
def CombineTurnedWrongFalsely : Prop := combineTurnedRow.holds Try.pinned (OpenSpec.ofChange combineTurnedWrong)

/-- 'podiumlaw16.CombineOrder': WHATEVER THE INPUT: true; the input reads as it did. -/
def combineOrderSpec : ChangeSpec := { name := "combineOrder", fn := fun _ => fun
  | [d1, d2, d3] => { results := [.lit (.bool true)], args := [d1, d2, d3] }
  | _ => none }
def combineOrderRow : OpenClaim := { program := "ytmcbbhlglccmgaa", sum := "cdcf8eaa0d1c1426e5c7d587e340a6c80e34d0ed92dec467421723abcac56862", func := "podium/podiumlaw16.CombineOrder", spec := "combineOrder", unfollowed := true, recurses := true, plainKeys := false, apart := false }
def CombineOrderSaid : Prop := combineOrderRow.holds Try.pinned (OpenSpec.ofChange combineOrderSpec)

/-- ITS FALSE NEIGHBOUR: 'it returns false'. Refute it at one input. -/
def combineOrderWrong : ChangeSpec := { name := "combineOrder", fn := fun _ => fun
  | [d1, d2, d3] => { results := [.lit (.bool false)], args := [d1, d2, d3] }
  | _ => none }
def CombineOrderWrongFalsely : Prop := combineOrderRow.holds Try.pinned (OpenSpec.ofChange combineOrderWrong)

/-- 'podiumlaw16.CombineUp': WHATEVER THE INPUT: true; the input reads as it did. -/
def combineUpSpec : ChangeSpec := { name := "combineUp", fn := fun _ => fun
  | [d1, d2, d3, d4] => { results := [.lit (.bool true)], args := [d1, d2, d3, d4] }
  | _ => none }
def combineUpRow : OpenClaim := { program := "ytmcbbhlglccmgaa", sum := "cdcf8eaa0d1c1426e5c7d587e340a6c80e34d0ed92dec467421723abcac56862", func := "podium/podiumlaw16.CombineUp", spec := "combineUp", unfollowed := true, recurses := true, plainKeys := false, apart := false }
def CombineUpSaid : Prop := combineUpRow.holds Try.pinned (OpenSpec.ofChange combineUpSpec)

/-- ITS FALSE NEIGHBOUR: 'it returns false'. Refute it at one input. -/
def combineUpWrong : ChangeSpec := { name := "combineUp", fn := fun _ => fun
  | [d1, d2, d3, d4] => { results := [.lit (.bool false)], args := [d1, d2, d3, d4] }
  | _ => none }
def CombineUpWrongFalsely : Prop := combineUpRow.holds Try.pinned (OpenSpec.ofChange combineUpWrong)

/-- 'podiumlaw16.CombineTrimmed': WHATEVER THE INPUT: true; the input reads as it did. -/
def combineTrimmedSpec : ChangeSpec := { name := "combineTrimmed", fn := fun _ => fun
  | [d1, d2] => { results := [.lit (.bool true)], args := [d1, d2] }
  | _ => none }
def combineTrimmedRow : OpenClaim := { program := "ytmcbbhlglccmgaa", sum := "cdcf8eaa0d1c1426e5c7d587e340a6c80e34d0ed92dec467421723abcac56862", func := "podium/podiumlaw16.CombineTrimmed", spec := "combineTrimmed", unfollowed := true, recurses := true, plainKeys := false, apart := false }
def CombineTrimmedSaid : Prop := combineTrimmedRow.holds Try.pinned (OpenSpec.ofChange combineTrimmedSpec)

/-- ITS FALSE NEIGHBOUR: 'it returns false'. Refute it at one input. -/
def combineTrimmedWrong : ChangeSpec := { name := "combineTrimmed", fn := fun _ => fun
  | [d1, d2] => { results := [.lit (.bool false)], args := [d1, d2] }
  | _ => none }
def CombineTrimmedWrongFalsely : Prop := combineTrimmedRow.holds Try.pinned (OpenSpec.ofChange combineTrimmedWrong)

/- THE SECOND FORM. 'bulk': how many values and letters a reading holds, each counted each time it is reached (what is shared counts as often as it is met; a slice's spare places count too). A statement '..UptoSaid' is the law's where the arguments, and the package variables that the reading takes, are together of bulk at most 1048576: NARROWER than '..Said'. Prove '..Said' where nothing that the law and all that it calls make is longer than what came in: it says more and counts as full. Else prove '..UptoSaid'. A law counts once. -/
mutual
def uptoBulk {H : Type} : DataW H → Nat
  | .lit (.string bytes) => bytes.length + 1
  | .lit _ => 1
  | .nil => 1
  | .ptr d => uptoBulk d + 1
  | .slice elems spare => uptoBulkAll elems + uptoBulkAll spare + 1
  | .agg parts => uptoBulkAll parts + 1
  | .iface _ d => uptoBulk d + 1
  | .map entries => uptoBulkEntries entries + 1
  | .held _ => 1
def uptoBulkAll {H : Type} : List (DataW H) → Nat
  | [] => 0
  | d :: r => uptoBulk d + uptoBulkAll r
def uptoBulkEntries {H : Type} : List (Lit × DataW H) → Nat
  | [] => 0
  | x :: r => uptoBulkEntry x + uptoBulkEntries r
def uptoBulkEntry {H : Type} : Lit × DataW H → Nat
  | (.string bytes, d) => bytes.length + uptoBulk d + 1
  | (_, d) => uptoBulk d + 1
 end
def uptoSmall : (H : Type) → List (DataW H) → Bool := fun _ ds => decide (uptoBulkAll ds ≤ 1048576)
def OpenSpec.upto (s : _root_.Go.ChangeSpec) : _root_.Go.OpenSpec := { _root_.Go.OpenSpec.ofChange s with cond := some uptoSmall }

/-- 'podiumlaw42.FindingsExact', WHERE WHAT IT READS IS OF BULK AT MOST 1048576: true; the input reads as it did. -/
def findingsExactUptoRow : OpenClaim := { program := "ytmcbbhlglccmgaa", sum := "cdcf8eaa0d1c1426e5c7d587e340a6c80e34d0ed92dec467421723abcac56862", func := "podium/podiumlaw42.FindingsExact", spec := "findingsExact", unfollowed := true, recurses := true, plainKeys := false, apart := false, narrowed := true }
def FindingsExactUptoSaid : Prop := findingsExactUptoRow.holds Try.pinned (OpenSpec.upto findingsExactSpec)

/-- 'podiumlaw42.FindingsShift', WHERE WHAT IT READS IS OF BULK AT MOST 1048576: true; the input reads as it did. -/
def findingsShiftUptoRow : OpenClaim := { program := "ytmcbbhlglccmgaa", sum := "cdcf8eaa0d1c1426e5c7d587e340a6c80e34d0ed92dec467421723abcac56862", func := "podium/podiumlaw42.FindingsShift", spec := "findingsShift", unfollowed := true, recurses := true, plainKeys := false, apart := false, narrowed := true }
def FindingsShiftUptoSaid : Prop := findingsShiftUptoRow.holds Try.pinned (OpenSpec.upto findingsShiftSpec)

/-- 'podiumlaw16.CombineSpec', WHERE WHAT IT READS IS OF BULK AT MOST 1048576: true; the input reads as it did. -/
def combineSpecUptoRow : OpenClaim := { program := "ytmcbbhlglccmgaa", sum := "cdcf8eaa0d1c1426e5c7d587e340a6c80e34d0ed92dec467421723abcac56862", func := "podium/podiumlaw16.CombineSpec", spec := "combineSpec", unfollowed := true, recurses := true, plainKeys := false, apart := false, narrowed := true }
def CombineSpecUptoSaid : Prop := combineSpecUptoRow.holds Try.pinned (OpenSpec.upto combineSpecSpec)

/-- 'podiumlaw16.CombineTurned', WHERE WHAT IT READS IS OF BULK AT MOST 1048576: true; the input reads as it did. -/
def combineTurnedUptoRow : OpenClaim := { program := "ytmcbbhlglccmgaa", sum := "cdcf8eaa0d1c1426e5c7d587e340a6c80e34d0ed92dec467421723abcac56862", func := "podium/podiumlaw16.CombineTurned", spec := "combineTurned", unfollowed := true, recurses := true, plainKeys := false, apart := false, narrowed := true }
def CombineTurnedUptoSaid : Prop := combineTurnedUptoRow.holds Try.pinned (OpenSpec.upto combineTurnedSpec)

/-- 'podiumlaw16.CombineOrder', WHERE WHAT IT READS IS OF BULK AT MOST 1048576: true; the input reads as it did. -/
def combineOrderUptoRow : OpenClaim := { program := "ytmcbbhlglccmgaa", sum := "cdcf8eaa0d1c1426e5c7d587e340a6c80e34d0ed92dec467421723abcac56862", func := "podium/podiumlaw16.CombineOrder", spec := "combineOrder", unfollowed := true, recurses := true, plainKeys := false, apart := false, narrowed := true }
def CombineOrderUptoSaid : Prop := combineOrderUptoRow.holds Try.pinned (OpenSpec.upto combineOrderSpec)

/-- 'podiumlaw16.CombineUp', WHERE WHAT IT READS IS OF BULK AT MOST 1048576: true; the input reads as it did. -/
def combineUpUptoRow : OpenClaim := { program := "ytmcbbhlglccmgaa", sum := "cdcf8eaa0d1c1426e5c7d587e340a6c80e34d0ed92dec467421723abcac56862", func := "podium/podiumlaw16.CombineUp", spec := "combineUp", unfollowed := true, recurses := true, plainKeys := false, apart := false, narrowed := true }
def CombineUpUptoSaid : Prop := combineUpUptoRow.holds Try.pinned (OpenSpec.upto combineUpSpec)

/-- 'podiumlaw16.CombineTrimmed', WHERE WHAT IT READS IS OF BULK AT MOST 1048576: true; the input reads as it did. -/
def combineTrimmedUptoRow : OpenClaim := { program := "ytmcbbhlglccmgaa", sum := "cdcf8eaa0d1c1426e5c7d587e340a6c80e34d0ed92dec467421723abcac56862", func := "podium/podiumlaw16.CombineTrimmed", spec := "combineTrimmed", unfollowed := true, recurses := true, plainKeys := false, apart := false, narrowed := true }
def CombineTrimmedUptoSaid : Prop := combineTrimmedUptoRow.holds Try.pinned (OpenSpec.upto combineTrimmedSpec)

end Rows
end Go.Proofs.Ytmcbbhlglccmgaa
