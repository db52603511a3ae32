/-
  No cell of these rows narrows 'for every input' (looked for: loops, veiled, ifaces, maps, wideKeys, modest, calm, conditions, laid).
  DERIVED. THE GIVEN ROWS OF THIS SEAT. 11 by the template 'for every input the law returns true; each argument reads behind the call as it read before'; 0 by the template 'total and deterministic' (their statements: YtonkhcdmchidjaaGreatTotals.lean).
  GIVEN WITH THE SEED: the statements are not yours to turn. If you find one false, say at which input.
  Laid BY PROGRAM, IN A SANDBOX (cutbox-rows.mjs): the forced cells as the released guide's own fill.sh prints them over the translation 2e720a6febc14c7b… (all of the seat's roots in one cut). By AI agents, Wed Nov 11 2026. No macro, syntax, notation, axiom, sorry.
-/
import Derived.Test.YtonkhcdmchidjaaGreatChecked
import GoSem.Claim
import GoSem.ClaimJoined
import GoSem.ClaimMapViews
import Derived.JoinedTies
import Derived.KernelRfl
namespace Go.Proofs.YtonkhcdmchidjaaGreat
/- THE CELL 'sum', in the pinned program and in every row, IS THE sha256 OF THE DUMP (.gsa) THAT YtonkhcdmchidjaaGreatProg.lean LOADS. Nothing in Lean hashes anything: it is a label: what it is worth is what the hold of that sum in a sandbox is worth. -/
noncomputable def Tryz.pinned : Pinned := { name := "ytonkhcdmchidjaagreat", sum := "2e720a6febc14c7bbdc5f1bf97c97d5fe1ecaf8d9f7106ec946f71511c3c0b9a", checked := Tryz.checked }
namespace Rows
def none {H : Type} : Left H := { results := [], args := [] }

/-- 'podiumlaw38.SeveritySpec': WHATEVER THE INPUT: true; the input reads as it did. -/
def severitySpecSpec : ChangeSpec := { name := "severitySpec", fn := fun _ => fun
  | [d1, d2] => { results := [.lit (.bool true)], args := [d1, d2] }
  | _ => none }
def severitySpecRow : OpenClaim := { program := "ytonkhcdmchidjaagreat", sum := "2e720a6febc14c7bbdc5f1bf97c97d5fe1ecaf8d9f7106ec946f71511c3c0b9a", func := "podium/podiumlaw38.SeveritySpec", spec := "severitySpec", unfollowed := true, recurses := true, apart := false }
def SeveritySpecSaid : Prop := severitySpecRow.holds Tryz.pinned (OpenSpec.ofChange severitySpecSpec)

/-- ITS FALSE NEIGHBOUR: 'it returns false'. Refute it at one input. -/
def severitySpecWrong : ChangeSpec := { name := "severitySpec", fn := fun _ => fun
  | [d1, d2] => { results := [.lit (.bool false)], args := [d1, d2] }
  | _ => none }
def SeveritySpecWrongFalsely : Prop := severitySpecRow.holds Tryz.pinned (OpenSpec.ofChange severitySpecWrong)

/-- 'podiumlaw38.SeverityShift': WHATEVER THE INPUT: true; the input reads as it did. -/
def severityShiftSpec : ChangeSpec := { name := "severityShift", fn := fun _ => fun
  | [d1, d2, d3] => { results := [.lit (.bool true)], args := [d1, d2, d3] }
  | _ => none }
def severityShiftRow : OpenClaim := { program := "ytonkhcdmchidjaagreat", sum := "2e720a6febc14c7bbdc5f1bf97c97d5fe1ecaf8d9f7106ec946f71511c3c0b9a", func := "podium/podiumlaw38.SeverityShift", spec := "severityShift", unfollowed := true, recurses := true, apart := false }
def SeverityShiftSaid : Prop := severityShiftRow.holds Tryz.pinned (OpenSpec.ofChange severityShiftSpec)

/-- ITS FALSE NEIGHBOUR: 'it returns false'. Refute it at one input. -/
def severityShiftWrong : ChangeSpec := { name := "severityShift", fn := fun _ => fun
  | [d1, d2, d3] => { results := [.lit (.bool false)], args := [d1, d2, d3] }
  | _ => none }
def SeverityShiftWrongFalsely : Prop := severityShiftRow.holds Tryz.pinned (OpenSpec.ofChange severityShiftWrong)

/-- 'podiumlaw38.SeverityExact': WHATEVER THE INPUT: true; the input reads as it did. -/
def severityExactSpec : ChangeSpec := { name := "severityExact", fn := fun _ => fun
  | [d1, d2, d3] => { results := [.lit (.bool true)], args := [d1, d2, d3] }
  | _ => none }
def severityExactRow : OpenClaim := { program := "ytonkhcdmchidjaagreat", sum := "2e720a6febc14c7bbdc5f1bf97c97d5fe1ecaf8d9f7106ec946f71511c3c0b9a", func := "podium/podiumlaw38.SeverityExact", spec := "severityExact", unfollowed := true, recurses := true, apart := false }
def SeverityExactSaid : Prop := severityExactRow.holds Tryz.pinned (OpenSpec.ofChange severityExactSpec)

/-- ITS FALSE NEIGHBOUR: 'it returns false'. Refute it at one input. -/
def severityExactWrong : ChangeSpec := { name := "severityExact", fn := fun _ => fun
  | [d1, d2, d3] => { results := [.lit (.bool false)], args := [d1, d2, d3] }
  | _ => none }
def SeverityExactWrongFalsely : Prop := severityExactRow.holds Tryz.pinned (OpenSpec.ofChange severityExactWrong)

/-- 'podiumlaw38.SeverityOrder': WHATEVER THE INPUT: true; the input reads as it did. -/
def severityOrderSpec : ChangeSpec := { name := "severityOrder", fn := fun _ => fun
  | [d1, d2, d3] => { results := [.lit (.bool true)], args := [d1, d2, d3] }
  | _ => none }
def severityOrderRow : OpenClaim := { program := "ytonkhcdmchidjaagreat", sum := "2e720a6febc14c7bbdc5f1bf97c97d5fe1ecaf8d9f7106ec946f71511c3c0b9a", func := "podium/podiumlaw38.SeverityOrder", spec := "severityOrder", unfollowed := true, recurses := true, apart := false }
def SeverityOrderSaid : Prop := severityOrderRow.holds Tryz.pinned (OpenSpec.ofChange severityOrderSpec)

/-- ITS FALSE NEIGHBOUR: 'it returns false'. Refute it at one input. -/
def severityOrderWrong : ChangeSpec := { name := "severityOrder", fn := fun _ => fun
  | [d1, d2, d3] => { results := [.lit (.bool false)], args := [d1, d2, d3] }
  | _ => none }
def SeverityOrderWrongFalsely : Prop := severityOrderRow.holds Tryz.pinned (OpenSpec.ofChange severityOrderWrong)

/-- 'podiumlaw38.SeverityLeast': WHATEVER THE INPUT: true; the input reads as it did. -/
def severityLeastSpec : ChangeSpec := { name := "severityLeast", fn := fun _ => fun
  | [d1, d2] => { results := [.lit (.bool true)], args := [d1, d2] }
  | _ => none }
def severityLeastRow : OpenClaim := { program := "ytonkhcdmchidjaagreat", sum := "2e720a6febc14c7bbdc5f1bf97c97d5fe1ecaf8d9f7106ec946f71511c3c0b9a", func := "podium/podiumlaw38.SeverityLeast", spec := "severityLeast", unfollowed := true, recurses := true, apart := false }
def SeverityLeastSaid : Prop := severityLeastRow.holds Tryz.pinned (OpenSpec.ofChange severityLeastSpec)

/-- ITS FALSE NEIGHBOUR: 'it returns false'. Refute it at one input. -/
def severityLeastWrong : ChangeSpec := { name := "severityLeast", fn := fun _ => fun
  | [d1, d2] => { results := [.lit (.bool false)], args := [d1, d2] }
  | _ => none }
def SeverityLeastWrongFalsely : Prop := severityLeastRow.holds Tryz.pinned (OpenSpec.ofChange severityLeastWrong)

/-- 'podiumlaw40.CorrectedFit': WHATEVER THE INPUT: true; the input reads as it did. -/
def correctedFitSpec : ChangeSpec := { name := "correctedFit", fn := fun _ => fun
  | [d] => { results := [.lit (.bool true)], args := [d] }
  | _ => none }
def correctedFitRow : OpenClaim := { program := "ytonkhcdmchidjaagreat", sum := "2e720a6febc14c7bbdc5f1bf97c97d5fe1ecaf8d9f7106ec946f71511c3c0b9a", func := "podium/podiumlaw40.CorrectedFit", spec := "correctedFit", unfollowed := true, recurses := true, apart := false }
def CorrectedFitSaid : Prop := correctedFitRow.holds Tryz.pinned (OpenSpec.ofChange correctedFitSpec)

/-- ITS FALSE NEIGHBOUR: 'it returns false'. Refute it at one input. -/
def correctedFitWrong : ChangeSpec := { name := "correctedFit", fn := fun _ => fun
  | [d] => { results := [.lit (.bool false)], args := [d] }
  | _ => none }
def CorrectedFitWrongFalsely : Prop := correctedFitRow.holds Tryz.pinned (OpenSpec.ofChange correctedFitWrong)

/-- 'podiumlaw39.BlindSpec': WHATEVER THE INPUT: true; the input reads as it did. -/
def blindSpecSpec : ChangeSpec := { name := "blindSpec", fn := fun _ => fun
  | [d1, d2, d3] => { results := [.lit (.bool true)], args := [d1, d2, d3] }
  | _ => none }
def blindSpecRow : OpenClaim := { program := "ytonkhcdmchidjaagreat", sum := "2e720a6febc14c7bbdc5f1bf97c97d5fe1ecaf8d9f7106ec946f71511c3c0b9a", func := "podium/podiumlaw39.BlindSpec", spec := "blindSpec", unfollowed := true, recurses := true, apart := false }
def BlindSpecSaid : Prop := blindSpecRow.holds Tryz.pinned (OpenSpec.ofChange blindSpecSpec)

/-- ITS FALSE NEIGHBOUR: 'it returns false'. Refute it at one input. -/
def blindSpecWrong : ChangeSpec := { name := "blindSpec", fn := fun _ => fun
  | [d1, d2, d3] => { results := [.lit (.bool false)], args := [d1, d2, d3] }
  | _ => none }
def BlindSpecWrongFalsely : Prop := blindSpecRow.holds Tryz.pinned (OpenSpec.ofChange blindSpecWrong)

/-- 'podiumlaw39.BlindSame': WHATEVER THE INPUT: true; the input reads as it did. -/
def blindSameSpec : ChangeSpec := { name := "blindSame", fn := fun _ => fun
  | [d1, d2, d3, d4] => { results := [.lit (.bool true)], args := [d1, d2, d3, d4] }
  | _ => none }
def blindSameRow : OpenClaim := { program := "ytonkhcdmchidjaagreat", sum := "2e720a6febc14c7bbdc5f1bf97c97d5fe1ecaf8d9f7106ec946f71511c3c0b9a", func := "podium/podiumlaw39.BlindSame", spec := "blindSame", unfollowed := true, recurses := true, apart := false }
def BlindSameSaid : Prop := blindSameRow.holds Tryz.pinned (OpenSpec.ofChange blindSameSpec)

/-- ITS FALSE NEIGHBOUR: 'it returns false'. Refute it at one input. -/
def blindSameWrong : ChangeSpec := { name := "blindSame", fn := fun _ => fun
  | [d1, d2, d3, d4] => { results := [.lit (.bool false)], args := [d1, d2, d3, d4] }
  | _ => none }
def BlindSameWrongFalsely : Prop := blindSameRow.holds Tryz.pinned (OpenSpec.ofChange blindSameWrong)

/-- 'podiumlaw39.BlindResists': WHATEVER THE INPUT: true; the input reads as it did. -/
def blindResistsSpec : ChangeSpec := { name := "blindResists", fn := fun _ => fun
  | [d1, d2, d3] => { results := [.lit (.bool true)], args := [d1, d2, d3] }
  | _ => none }
def blindResistsRow : OpenClaim := { program := "ytonkhcdmchidjaagreat", sum := "2e720a6febc14c7bbdc5f1bf97c97d5fe1ecaf8d9f7106ec946f71511c3c0b9a", func := "podium/podiumlaw39.BlindResists", spec := "blindResists", unfollowed := true, recurses := true, apart := false }
def BlindResistsSaid : Prop := blindResistsRow.holds Tryz.pinned (OpenSpec.ofChange blindResistsSpec)

/-- ITS FALSE NEIGHBOUR: 'it returns false'. Refute it at one input. -/
def blindResistsWrong : ChangeSpec := { name := "blindResists", fn := fun _ => fun
  | [d1, d2, d3] => { results := [.lit (.bool false)], args := [d1, d2, d3] }
  | _ => none }
def BlindResistsWrongFalsely : Prop := blindResistsRow.holds Tryz.pinned (OpenSpec.ofChange blindResistsWrong)

/-- 'podiumlaw39.BlindLeast': WHATEVER THE INPUT: true; the input reads as it did. -/
def blindLeastSpec : ChangeSpec := { name := "blindLeast", fn := fun _ => fun
  | [d1, d2, d3] => { results := [.lit (.bool true)], args := [d1, d2, d3] }
  | _ => none }
def blindLeastRow : OpenClaim := { program := "ytonkhcdmchidjaagreat", sum := "2e720a6febc14c7bbdc5f1bf97c97d5fe1ecaf8d9f7106ec946f71511c3c0b9a", func := "podium/podiumlaw39.BlindLeast", spec := "blindLeast", unfollowed := true, recurses := true, apart := false }
def BlindLeastSaid : Prop := blindLeastRow.holds Tryz.pinned (OpenSpec.ofChange blindLeastSpec)

/-- ITS FALSE NEIGHBOUR: 'it returns false'. Refute it at one input. -/
def blindLeastWrong : ChangeSpec := { name := "blindLeast", fn := fun _ => fun
  | [d1, d2, d3] => { results := [.lit (.bool false)], args := [d1, d2, d3] }
  | _ => none }
def BlindLeastWrongFalsely : Prop := blindLeastRow.holds Tryz.pinned (OpenSpec.ofChange blindLeastWrong)

/-- 'podiumlaw39.BlindFewer': WHATEVER THE INPUT: true; the input reads as it did. -/
def blindFewerSpec : ChangeSpec := { name := "blindFewer", fn := fun _ => fun
  | [d1, d2, d3, d4, d5] => { results := [.lit (.bool true)], args := [d1, d2, d3, d4, d5] }
  | _ => none }
def blindFewerRow : OpenClaim := { program := "ytonkhcdmchidjaagreat", sum := "2e720a6febc14c7bbdc5f1bf97c97d5fe1ecaf8d9f7106ec946f71511c3c0b9a", func := "podium/podiumlaw39.BlindFewer", spec := "blindFewer", unfollowed := true, recurses := true, apart := false }
def BlindFewerSaid : Prop := blindFewerRow.holds Tryz.pinned (OpenSpec.ofChange blindFewerSpec)

/-- ITS FALSE NEIGHBOUR: 'it returns false'. Refute it at one input. -/
def blindFewerWrong : ChangeSpec := { name := "blindFewer", fn := fun _ => fun
  | [d1, d2, d3, d4, d5] => { results := [.lit (.bool false)], args := [d1, d2, d3, d4, d5] }
  | _ => none }
def BlindFewerWrongFalsely : Prop := blindFewerRow.holds Tryz.pinned (OpenSpec.ofChange blindFewerWrong)

/- THE SECOND FORM. 'bulk': how many values and letters a reading holds, each counted each time it is reached (what is shared counts as often as it is met; a slice's spare places count too). A statement '..UptoSaid' is the law's where the arguments, and the package variables that the reading takes, are together of bulk at most 1048576: NARROWER than '..Said'. Prove '..Said' where nothing that the law and all that it calls make is longer than what came in: it says more and counts as full. Else prove '..UptoSaid'. A law counts once. -/
mutual
def uptoBulk {H : Type} : DataW H → Nat
  | .lit (.string bytes) => bytes.length + 1
  | .lit _ => 1
  | .nil => 1
  | .ptr d => uptoBulk d + 1
  | .slice elems spare => uptoBulkAll elems + uptoBulkAll spare + 1
  | .agg parts => uptoBulkAll parts + 1
  | .iface _ d => uptoBulk d + 1
  | .map entries => uptoBulkEntries entries + 1
  | .held _ => 1
def uptoBulkAll {H : Type} : List (DataW H) → Nat
  | [] => 0
  | d :: r => uptoBulk d + uptoBulkAll r
def uptoBulkEntries {H : Type} : List (Lit × DataW H) → Nat
  | [] => 0
  | x :: r => uptoBulkEntry x + uptoBulkEntries r
def uptoBulkEntry {H : Type} : Lit × DataW H → Nat
  | (.string bytes, d) => bytes.length + uptoBulk d + 1
  | (_, d) => uptoBulk d + 1
 end
def uptoSmall : (H : Type) → List (DataW H) → Bool := fun _ ds => decide (uptoBulkAll ds ≤ 1048576)
def OpenSpec.upto (s : _root_.Go.ChangeSpec) : _root_.Go.OpenSpec := { _root_.Go.OpenSpec.ofChange s with cond := some uptoSmall }

/-- 'podiumlaw38.SeveritySpec', WHERE WHAT IT READS IS OF BULK AT MOST 1048576: true; the input reads as it did. -/
def severitySpecUptoRow : OpenClaim := { program := "ytonkhcdmchidjaagreat", sum := "2e720a6febc14c7bbdc5f1bf97c97d5fe1ecaf8d9f7106ec946f71511c3c0b9a", func := "podium/podiumlaw38.SeveritySpec", spec := "severitySpec", unfollowed := true, recurses := true, apart := false, narrowed := true }
def SeveritySpecUptoSaid : Prop := severitySpecUptoRow.holds Tryz.pinned (OpenSpec.upto severitySpecSpec)

/-- 'podiumlaw38.SeverityShift', WHERE WHAT IT READS IS OF BULK AT MOST 1048576: true; the input reads as it did. -/
def severityShiftUptoRow : OpenClaim := { program := "ytonkhcdmchidjaagreat", sum := "2e720a6febc14c7bbdc5f1bf97c97d5fe1ecaf8d9f7106ec946f71511c3c0b9a", func := "podium/podiumlaw38.SeverityShift", spec := "severityShift", unfollowed := true, recurses := true, apart := false, narrowed := true }
def SeverityShiftUptoSaid : Prop := severityShiftUptoRow.holds Tryz.pinned (OpenSpec.upto severityShiftSpec)

/-- 'podiumlaw38.SeverityExact', WHERE WHAT IT READS IS OF BULK AT MOST 1048576: true; the input reads as it did. -/
def severityExactUptoRow : OpenClaim := { program := "ytonkhcdmchidjaagreat", sum := "2e720a6febc14c7bbdc5f1bf97c97d5fe1ecaf8d9f7106ec946f71511c3c0b9a", func := "podium/podiumlaw38.SeverityExact", spec := "severityExact", unfollowed := true, recurses := true, apart := false, narrowed := true }
def SeverityExactUptoSaid : Prop := severityExactUptoRow.holds Tryz.pinned (OpenSpec.upto severityExactSpec)

/-- 'podiumlaw38.SeverityOrder', WHERE WHAT IT READS IS OF BULK AT MOST 1048576: true; the input reads as it did. -/
def severityOrderUptoRow : OpenClaim := { program := "ytonkhcdmchidjaagreat", sum := "2e720a6febc14c7bbdc5f1bf97c97d5fe1ecaf8d9f7106ec946f71511c3c0b9a", func := "podium/podiumlaw38.SeverityOrder", spec := "severityOrder", unfollowed := true, recurses := true, apart := false, narrowed := true }
def SeverityOrderUptoSaid : Prop := severityOrderUptoRow.holds Tryz.pinned (OpenSpec.upto severityOrderSpec)

/-- 'podiumlaw38.SeverityLeast', WHERE WHAT IT READS IS OF BULK AT MOST 1048576: true; the input reads as it did. -/
def severityLeastUptoRow : OpenClaim := { program := "ytonkhcdmchidjaagreat", sum := "2e720a6febc14c7bbdc5f1bf97c97d5fe1ecaf8d9f7106ec946f71511c3c0b9a", func := "podium/podiumlaw38.SeverityLeast", spec := "severityLeast", unfollowed := true, recurses := true, apart := false, narrowed := true }
def SeverityLeastUptoSaid : Prop := severityLeastUptoRow.holds Tryz.pinned (OpenSpec.upto severityLeastSpec)

/-- 'podiumlaw40.CorrectedFit', WHERE WHAT IT READS IS OF BULK AT MOST 1048576: true; the input reads as it did. -/
def correctedFitUptoRow : OpenClaim := { program := "ytonkhcdmchidjaagreat", sum := "2e720a6febc14c7bbdc5f1bf97c97d5fe1ecaf8d9f7106ec946f71511c3c0b9a", func := "podium/podiumlaw40.CorrectedFit", spec := "correctedFit", unfollowed := true, recurses := true, apart := false, narrowed := true }
def CorrectedFitUptoSaid : Prop := correctedFitUptoRow.holds Tryz.pinned (OpenSpec.upto correctedFitSpec)

/-- 'podiumlaw39.BlindSpec', WHERE WHAT IT READS IS OF BULK AT MOST 1048576: true; the input reads as it did. -/
def blindSpecUptoRow : OpenClaim := { program := "ytonkhcdmchidjaagreat", sum := "2e720a6febc14c7bbdc5f1bf97c97d5fe1ecaf8d9f7106ec946f71511c3c0b9a", func := "podium/podiumlaw39.BlindSpec", spec := "blindSpec", unfollowed := true, recurses := true, apart := false, narrowed := true }
def BlindSpecUptoSaid : Prop := blindSpecUptoRow.holds Tryz.pinned (OpenSpec.upto blindSpecSpec)

/-- 'podiumlaw39.BlindSame', WHERE WHAT IT READS IS OF BULK AT MOST 1048576: true; the input reads as it did. -/
def blindSameUptoRow : OpenClaim := { program := "ytonkhcdmchidjaagreat", sum := "2e720a6febc14c7bbdc5f1bf97c97d5fe1ecaf8d9f7106ec946f71511c3c0b9a", func := "podium/podiumlaw39.BlindSame", spec := "blindSame", unfollowed := true, recurses := true, apart := false, narrowed := true }
def BlindSameUptoSaid : Prop := blindSameUptoRow.holds Tryz.pinned (OpenSpec.upto blindSameSpec)

/-- 'podiumlaw39.BlindResists', WHERE WHAT IT READS IS OF BULK AT MOST 1048576: true; the input reads as it did. -/
def blindResistsUptoRow : OpenClaim := { program := "ytonkhcdmchidjaagreat", sum := "2e720a6febc14c7bbdc5f1bf97c97d5fe1ecaf8d9f7106ec946f71511c3c0b9a", func := "podium/podiumlaw39.BlindResists", spec := "blindResists", unfollowed := true, recurses := true, apart := false, narrowed := true }
def BlindResistsUptoSaid : Prop := blindResistsUptoRow.holds Tryz.pinned (OpenSpec.upto blindResistsSpec)

/-- 'podiumlaw39.BlindLeast', WHERE WHAT IT READS IS OF BULK AT MOST 1048576: true; the input reads as it did. -/
def blindLeastUptoRow : OpenClaim := { program := "ytonkhcdmchidjaagreat", sum := "2e720a6febc14c7bbdc5f1bf97c97d5fe1ecaf8d9f7106ec946f71511c3c0b9a", func := "podium/podiumlaw39.BlindLeast", spec := "blindLeast", unfollowed := true, recurses := true, apart := false, narrowed := true }
def BlindLeastUptoSaid : Prop := blindLeastUptoRow.holds Tryz.pinned (OpenSpec.upto blindLeastSpec)

/-- 'podiumlaw39.BlindFewer', WHERE WHAT IT READS IS OF BULK AT MOST 1048576: true; the input reads as it did. -/
def blindFewerUptoRow : OpenClaim := { program := "ytonkhcdmchidjaagreat", sum := "2e720a6febc14c7bbdc5f1bf97c97d5fe1ecaf8d9f7106ec946f71511c3c0b9a", func := "podium/podiumlaw39.BlindFewer", spec := "blindFewer", unfollowed := true, recurses := true, apart := false, narrowed := true }
def BlindFewerUptoSaid : Prop := blindFewerUptoRow.holds Tryz.pinned (OpenSpec.upto blindFewerSpec)

end Rows
end Go.Proofs.YtonkhcdmchidjaaGreat
