/-
  No cell of these rows narrows 'for every input' (looked for: loops, veiled, ifaces, maps, wideKeys, modest, calm, conditions, laid).
  DERIVED. THE GIVEN ROWS OF THIS SEAT. 3 by the template 'for every input the law returns true; each argument reads behind the call as it read before'; 0 by the template 'total and deterministic' (their statements: YtmcbbhlglccmgaaGreatTotals.lean).
  GIVEN WITH THE SEED: the statements are not yours to turn. If you find one false, say at which input.
  Laid BY PROGRAM, IN A SANDBOX (cutbox-rows.mjs): the forced cells as the released guide's own fill.sh prints them over the translation c31b564d7a8546f8… (all of the seat's roots in one cut). By AI agents, Wed Nov 11 2026. No macro, syntax, notation, axiom, sorry.
-/
import Derived.Test.YtmcbbhlglccmgaaGreatChecked
import GoSem.Claim
import GoSem.ClaimJoined
import GoSem.ClaimMapViews
import Derived.JoinedTies
import Derived.KernelRfl
namespace Go.Proofs.YtmcbbhlglccmgaaGreat
/- THE CELL 'sum', in the pinned program and in every row, IS THE sha256 OF THE DUMP (.gsa) THAT YtmcbbhlglccmgaaGreatProg.lean LOADS. Nothing in Lean hashes anything: it is a label: what it is worth is what the hold of that sum in a sandbox is worth. -/
noncomputable def Tryz.pinned : Pinned := { name := "ytmcbbhlglccmgaagreat", sum := "c31b564d7a8546f816bb72e141fb619864abfa7ab3afb36b25c149d0b6edeb80", checked := Tryz.checked }
namespace Rows
def none {H : Type} : Left H := { results := [], args := [] }

/-- 'podiumlaw42.FindingsSpec': WHATEVER THE INPUT: true; the input reads as it did. -/
def findingsSpecSpec : ChangeSpec := { name := "findingsSpec", fn := fun _ => fun
  | [d1, d2, d3, d4] => { results := [.lit (.bool true)], args := [d1, d2, d3, d4] }
  | _ => none }
def findingsSpecRow : OpenClaim := { program := "ytmcbbhlglccmgaagreat", sum := "c31b564d7a8546f816bb72e141fb619864abfa7ab3afb36b25c149d0b6edeb80", func := "podium/podiumlaw42.FindingsSpec", spec := "findingsSpec", unfollowed := true, recurses := true, plainKeys := false, apart := false }
def FindingsSpecSaid : Prop := findingsSpecRow.holds Tryz.pinned (OpenSpec.ofChange findingsSpecSpec)

/-- ITS FALSE NEIGHBOUR: 'it returns false'. Refute it at one input. -/
def findingsSpecWrong : ChangeSpec := { name := "findingsSpec", fn := fun _ => fun
  | [d1, d2, d3, d4] => { results := [.lit (.bool false)], args := [d1, d2, d3, d4] }
  | _ => none }
def FindingsSpecWrongFalsely : Prop := findingsSpecRow.holds Tryz.pinned (OpenSpec.ofChange findingsSpecWrong)

/-- 'podiumlaw42.FindingsFair': WHATEVER THE INPUT: true; the input reads as it did. -/
def findingsFairSpec : ChangeSpec := { name := "findingsFair", fn := fun _ => fun
  | [d1, d2, d3] => { results := [.lit (.bool true)], args := [d1, d2, d3] }
  | _ => none }
def findingsFairRow : OpenClaim := { program := "ytmcbbhlglccmgaagreat", sum := "c31b564d7a8546f816bb72e141fb619864abfa7ab3afb36b25c149d0b6edeb80", func := "podium/podiumlaw42.FindingsFair", spec := "findingsFair", unfollowed := true, recurses := true, plainKeys := false, apart := false }
def FindingsFairSaid : Prop := findingsFairRow.holds Tryz.pinned (OpenSpec.ofChange findingsFairSpec)

/-- ITS FALSE NEIGHBOUR: 'it returns false'. Refute it at one input. -/
def findingsFairWrong : ChangeSpec := { name := "findingsFair", fn := fun _ => fun
  | [d1, d2, d3] => { results := [.lit (.bool false)], args := [d1, d2, d3] }
  | _ => none }
def FindingsFairWrongFalsely : Prop := findingsFairRow.holds Tryz.pinned (OpenSpec.ofChange findingsFairWrong)

/-- 'podiumlaw42.FindingsOrders': WHATEVER THE INPUT: true; the input reads as it did. -/
def findingsOrdersSpec : ChangeSpec := { name := "findingsOrders", fn := fun _ => fun
  | [d1, d2, d3] => { results := [.lit (.bool true)], args := [d1, d2, d3] }
  | _ => none }
def findingsOrdersRow : OpenClaim := { program := "ytmcbbhlglccmgaagreat", sum := "c31b564d7a8546f816bb72e141fb619864abfa7ab3afb36b25c149d0b6edeb80", func := "podium/podiumlaw42.FindingsOrders", spec := "findingsOrders", unfollowed := true, recurses := true, plainKeys := false, apart := false }
def FindingsOrdersSaid : Prop := findingsOrdersRow.holds Tryz.pinned (OpenSpec.ofChange findingsOrdersSpec)

/-- ITS FALSE NEIGHBOUR: 'it returns false'. Refute it at one input. -/
def findingsOrdersWrong : ChangeSpec := { name := "findingsOrders", fn := fun _ => fun
  | [d1, d2, d3] => { results := [.lit (.bool false)], args := [d1, d2, d3] }
  | _ => none }
def FindingsOrdersWrongFalsely : Prop := findingsOrdersRow.holds Tryz.pinned (OpenSpec.ofChange findingsOrdersWrong)

/- THE SECOND FORM. 'bulk': how many values and letters a reading holds, each counted each time it is reached (what is shared counts as often as it is met; a slice's spare places count too). A statement '..UptoSaid' is the law's where the arguments, and the package variables that the reading takes, are together of bulk at most 1048576: NARROWER than '..Said'. Prove '..Said' where nothing that the law and all that it calls make is longer than what came in: it says more and counts as full. Else prove '..UptoSaid'. A law counts once. -/
mutual
def uptoBulk {H : Type} : DataW H → Nat
  | .lit (.string bytes) => bytes.length + 1
  | .lit _ => 1
  | .nil => 1
  | .ptr d => uptoBulk d + 1
  | .slice elems spare => uptoBulkAll elems + uptoBulkAll spare + 1
  | .agg parts => uptoBulkAll parts + 1
  | .iface _ d => uptoBulk d + 1
  | .map entries => uptoBulkEntries entries + 1
  | .held _ => 1
def uptoBulkAll {H : Type} : List (DataW H) → Nat
  | [] => 0
  | d :: r => uptoBulk d + uptoBulkAll r
def uptoBulkEntries {H : Type} : List (Lit × DataW H) → Nat
  | [] => 0
  | x :: r => uptoBulkEntry x + uptoBulkEntries r
def uptoBulkEntry {H : Type} : Lit × DataW H → Nat
  | (.string bytes, d) => bytes.length + uptoBulk d + 1
  | (_, d) => uptoBulk d + 1
 end
def uptoSmall : (H : Type) → List (DataW H) → Bool := fun _ ds => decide (uptoBulkAll ds ≤ 1048576)
def OpenSpec.upto (s : _root_.Go.ChangeSpec) : _root_.Go.OpenSpec := { _root_.Go.OpenSpec.ofChange s with cond := some uptoSmall }

/-- 'podiumlaw42.FindingsSpec', WHERE WHAT IT READS IS OF BULK AT MOST 1048576: true; the input reads as it did. -/
def findingsSpecUptoRow : OpenClaim := { program := "ytmcbbhlglccmgaagreat", sum := "c31b564d7a8546f816bb72e141fb619864abfa7ab3afb36b25c149d0b6edeb80", func := "podium/podiumlaw42.FindingsSpec", spec := "findingsSpec", unfollowed := true, recurses := true, plainKeys := false, apart := false, narrowed := true }
def FindingsSpecUptoSaid : Prop := findingsSpecUptoRow.holds Tryz.pinned (OpenSpec.upto findingsSpecSpec)

/-- 'podiumlaw42.FindingsFair', WHERE WHAT IT READS IS OF BULK AT MOST 1048576: true; the input reads as it did. -/
def findingsFairUptoRow : OpenClaim := { program := "ytmcbbhlglccmgaagreat", sum := "c31b564d7a8546f816bb72e141fb619864abfa7ab3afb36b25c149d0b6edeb80", func := "podium/podiumlaw42.FindingsFair", spec := "findingsFair", unfollowed := true, recurses := true, plainKeys := false, apart := false, narrowed := true }
def FindingsFairUptoSaid : Prop := findingsFairUptoRow.holds Tryz.pinned (OpenSpec.upto findingsFairSpec)

/-- 'podiumlaw42.FindingsOrders', WHERE WHAT IT READS IS OF BULK AT MOST 1048576: true; the input reads as it did. -/
def findingsOrdersUptoRow : OpenClaim := { program := "ytmcbbhlglccmgaagreat", sum := "c31b564d7a8546f816bb72e141fb619864abfa7ab3afb36b25c149d0b6edeb80", func := "podium/podiumlaw42.FindingsOrders", spec := "findingsOrders", unfollowed := true, recurses := true, plainKeys := false, apart := false, narrowed := true }
def FindingsOrdersUptoSaid : Prop := findingsOrdersUptoRow.holds Tryz.pinned (OpenSpec.upto findingsOrdersSpec)

end Rows
end Go.Proofs.YtmcbbhlglccmgaaGreat
