/-
  No cell of these rows narrows 'for every input' (looked for: loops, veiled, ifaces, maps, wideKeys, modest, calm, conditions, laid).
  DERIVED. THE GIVEN ROWS OF THIS SEAT. 3 by the template 'for every input the law returns true; each argument reads behind the call as it read before'; 0 by the template 'total and deterministic' (their statements: YtokffagbdfhnnaaTotals.lean).
  GIVEN WITH THE SEED: the statements are not yours to turn. If you find one false, say at which input.
  Laid BY PROGRAM, IN A SANDBOX (cutbox-rows.mjs): the forced cells as the released guide's own fill.sh prints them over the translation 453593e41931e284… (all of the seat's roots in one cut). By AI agents, Wed Nov 11 2026. No macro, syntax, notation, axiom, sorry.
-/
import Derived.Test.YtokffagbdfhnnaaChecked
import GoSem.Claim
import GoSem.ClaimJoined
import GoSem.ClaimMapViews
import Derived.JoinedTies
import Derived.KernelRfl
namespace Go.Proofs.Ytokffagbdfhnnaa
/- THE CELL 'sum', in the pinned program and in every row, IS THE sha256 OF THE DUMP (.gsa) THAT YtokffagbdfhnnaaProg.lean LOADS. Nothing in Lean hashes anything: it is a label: what it is worth is what the hold of that sum in a sandbox is worth. -/
noncomputable def Try.pinned : Pinned := { name := "ytokffagbdfhnnaa", sum := "453593e41931e2843ed55c75dcfe4345c000929ad562ab910a5c04c12387a2a3", checked := Try.checked }
namespace Rows
def none {H : Type} : Left H := { results := [], args := [] }

/-- 'podiumlaw11.MatrixTurned': WHATEVER THE INPUT: true; the input reads as it did. -/
def matrixTurnedSpec : ChangeSpec := { name := "matrixTurned", fn := fun _ => fun
  | [d1, d2, d3, d4] => { results := [.lit (.bool true)], args := [d1, d2, d3, d4] }
  | _ => none }
def matrixTurnedRow : OpenClaim := { program := "ytokffagbdfhnnaa", sum := "453593e41931e2843ed55c75dcfe4345c000929ad562ab910a5c04c12387a2a3", func := "podium/podiumlaw11.MatrixTurned", spec := "matrixTurned", unfollowed := true, recurses := true, apart := false }
def MatrixTurnedSaid : Prop := matrixTurnedRow.holds Try.pinned (OpenSpec.ofChange matrixTurnedSpec)

/-- ITS FALSE NEIGHBOUR: 'it returns false'. Refute it at one input. -/
def matrixTurnedWrong : ChangeSpec := { name := "matrixTurned", fn := fun _ => fun
  | [d1, d2, d3, d4] => { results := [.lit (.bool false)], args := [d1, d2, d3, d4] }
  | _ => none }
def MatrixTurnedWrongFalsely : Prop := matrixTurnedRow.holds Try.pinned (OpenSpec.ofChange matrixTurnedWrong)

/-- 'podiumlaw11.MatrixEither': WHATEVER THE INPUT: true; the input reads as it did. -/
def matrixEitherSpec : ChangeSpec := { name := "matrixEither", fn := fun _ => fun
  | [d1, d2] => { results := [.lit (.bool true)], args := [d1, d2] }
  | _ => none }
def matrixEitherRow : OpenClaim := { program := "ytokffagbdfhnnaa", sum := "453593e41931e2843ed55c75dcfe4345c000929ad562ab910a5c04c12387a2a3", func := "podium/podiumlaw11.MatrixEither", spec := "matrixEither", unfollowed := true, recurses := true, apart := false }
def MatrixEitherSaid : Prop := matrixEitherRow.holds Try.pinned (OpenSpec.ofChange matrixEitherSpec)

/-- ITS FALSE NEIGHBOUR: 'it returns false'. Refute it at one input. -/
def matrixEitherWrong : ChangeSpec := { name := "matrixEither", fn := fun _ => fun
  | [d1, d2] => { results := [.lit (.bool false)], args := [d1, d2] }
  | _ => none }
def MatrixEitherWrongFalsely : Prop := matrixEitherRow.holds Try.pinned (OpenSpec.ofChange matrixEitherWrong)

/-- 'podiumlaw11.MatrixOnly': WHATEVER THE INPUT: true; the input reads as it did. -/
def matrixOnlySpec : ChangeSpec := { name := "matrixOnly", fn := fun _ => fun
  | [d1, d2] => { results := [.lit (.bool true)], args := [d1, d2] }
  | _ => none }
def matrixOnlyRow : OpenClaim := { program := "ytokffagbdfhnnaa", sum := "453593e41931e2843ed55c75dcfe4345c000929ad562ab910a5c04c12387a2a3", func := "podium/podiumlaw11.MatrixOnly", spec := "matrixOnly", unfollowed := true, recurses := true, apart := false }
def MatrixOnlySaid : Prop := matrixOnlyRow.holds Try.pinned (OpenSpec.ofChange matrixOnlySpec)

/-- ITS FALSE NEIGHBOUR: 'it returns false'. Refute it at one input. -/
def matrixOnlyWrong : ChangeSpec := { name := "matrixOnly", fn := fun _ => fun
  | [d1, d2] => { results := [.lit (.bool false)], args := [d1, d2] }
  | _ => none }
def MatrixOnlyWrongFalsely : Prop := matrixOnlyRow.holds Try.pinned (OpenSpec.ofChange matrixOnlyWrong)

/- THE SECOND FORM. 'bulk': how many values and letters a reading holds, each counted each time it is reached (what is shared counts as often as it is met; a slice's spare places count too). A statement '..UptoSaid' is the law's where the arguments, and the package variables that the reading takes, are together of bulk at most 1048576: NARROWER than '..Said'. Prove '..Said' where nothing that the law and all that it calls make is longer than what came in: it says more and counts as full. Else prove '..UptoSaid'. A law counts once. -/
mutual
def uptoBulk {H : Type} : DataW H → Nat
  | .lit (.string bytes) => bytes.length + 1
  | .lit _ => 1
  | .nil => 1
  | .ptr d => uptoBulk d + 1
  | .slice elems spare => uptoBulkAll elems + uptoBulkAll spare + 1
  | .agg parts => uptoBulkAll parts + 1
  | .iface _ d => uptoBulk d + 1
  | .map entries => uptoBulkEntries entries + 1
  | .held _ => 1
def uptoBulkAll {H : Type} : List (DataW H) → Nat
  | [] => 0
  | d :: r => uptoBulk d + uptoBulkAll r
def uptoBulkEntries {H : Type} : List (Lit × DataW H) → Nat
  | [] => 0
  | x :: r => uptoBulkEntry x + uptoBulkEntries r
def uptoBulkEntry {H : Type} : Lit × DataW H → Nat
  | (.string bytes, d) => bytes.length + uptoBulk d + 1
  | (_, d) => uptoBulk d + 1
 end
def uptoSmall : (H : Type) → List (DataW H) → Bool := fun _ ds => decide (uptoBulkAll ds ≤ 1048576)
def OpenSpec.upto (s : _root_.Go.ChangeSpec) : _root_.Go.OpenSpec := { _root_.Go.OpenSpec.ofChange s with cond := some uptoSmall }

/-- 'podiumlaw11.MatrixTurned', WHERE WHAT IT READS IS OF BULK AT MOST 1048576: true; the input reads as it did. -/
def matrixTurnedUptoRow : OpenClaim := { program := "ytokffagbdfhnnaa", sum := "453593e41931e2843ed55c75dcfe4345c000929ad562ab910a5c04c12387a2a3", func := "podium/podiumlaw11.MatrixTurned", spec := "matrixTurned", unfollowed := true, recurses := true, apart := false, narrowed := true }
def MatrixTurnedUptoSaid : Prop := matrixTurnedUptoRow.holds Try.pinned (OpenSpec.upto matrixTurnedSpec)

/-- 'podiumlaw11.MatrixEither', WHERE WHAT IT READS IS OF BULK AT MOST 1048576: true; the input reads as it did. -/
def matrixEitherUptoRow : OpenClaim := { program := "ytokffagbdfhnnaa", sum := "453593e41931e2843ed55c75dcfe4345c000929ad562ab910a5c04c12387a2a3", func := "podium/podiumlaw11.MatrixEither", spec := "matrixEither", unfollowed := true, recurses := true, apart := false, narrowed := true }
def MatrixEitherUptoSaid : Prop := matrixEitherUptoRow.holds Try.pinned (OpenSpec.upto matrixEitherSpec)

/-- 'podiumlaw11.MatrixOnly', WHERE WHAT IT READS IS OF BULK AT MOST 1048576: true; the input reads as it did. -/
def matrixOnlyUptoRow : OpenClaim := { program := "ytokffagbdfhnnaa", sum := "453593e41931e2843ed55c75dcfe4345c000929ad562ab910a5c04c12387a2a3", func := "podium/podiumlaw11.MatrixOnly", spec := "matrixOnly", unfollowed := true, recurses := true, apart := false, narrowed := true }
def MatrixOnlyUptoSaid : Prop := matrixOnlyUptoRow.holds Try.pinned (OpenSpec.upto matrixOnlySpec)

end Rows
end Go.Proofs.Ytokffagbdfhnnaa
