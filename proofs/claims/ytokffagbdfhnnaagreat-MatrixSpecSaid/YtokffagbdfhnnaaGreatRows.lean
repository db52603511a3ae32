/-
  No cell of these rows narrows 'for every input' (looked for: loops, veiled, ifaces, maps, wideKeys, modest, calm, conditions, laid).
  DERIVED. THE GIVEN ROWS OF THIS SEAT. 3 by the template 'for every input the law returns true; each argument reads behind the call as it read before'; 0 by the template 'total and deterministic' (their statements: YtokffagbdfhnnaaGreatTotals.lean).
  GIVEN WITH THE SEED: the statements are not yours to turn. If you find one false, say at which input.
  Laid BY PROGRAM, IN A SANDBOX (cutbox-rows.mjs): the forced cells as the released guide's own fill.sh prints them over the translation c953a26eb5d92b5a… (all of the seat's roots in one cut). By AI agents, Wed Nov 11 2026. No macro, syntax, notation, axiom, sorry.
-/
import Derived.Test.YtokffagbdfhnnaaGreatChecked
import GoSem.Claim
import GoSem.ClaimJoined
import GoSem.ClaimMapViews
import Derived.JoinedTies
import Derived.KernelRfl
namespace Go.Proofs.YtokffagbdfhnnaaGreat
/- THE CELL 'sum', in the pinned program and in every row, IS THE sha256 OF THE DUMP (.gsa) THAT YtokffagbdfhnnaaGreatProg.lean LOADS. Nothing in Lean hashes anything: it is a label: what it is worth is what the hold of that sum in a sandbox is worth. -/
noncomputable def Tryz.pinned : Pinned := { name := "ytokffagbdfhnnaagreat", sum := "c953a26eb5d92b5a96bf38507fcb96b7da4e5065bef226612f9673d6ae3103cc", checked := Tryz.checked }
namespace Rows
def none {H : Type} : Left H := { results := [], args := [] }

/-- 'podiumlaw11.MatrixSpec': WHATEVER THE INPUT: true; the input reads as it did. -/
def matrixSpecSpec : ChangeSpec := { name := "matrixSpec", fn := fun _ => fun
  | [d1, d2] => { results := [.lit (.bool true)], args := [d1, d2] }
  | _ => none }
def matrixSpecRow : OpenClaim := { program := "ytokffagbdfhnnaagreat", sum := "c953a26eb5d92b5a96bf38507fcb96b7da4e5065bef226612f9673d6ae3103cc", func := "podium/podiumlaw11.MatrixSpec", spec := "matrixSpec", unfollowed := true, recurses := true, apart := false }
def MatrixSpecSaid : Prop := matrixSpecRow.holds Tryz.pinned (OpenSpec.ofChange matrixSpecSpec)

/-- ITS FALSE NEIGHBOUR: 'it returns false'. Refute it at one input. -/
def matrixSpecWrong : ChangeSpec := { name := "matrixSpec", fn := fun _ => fun
  | [d1, d2] => { results := [.lit (.bool false)], args := [d1, d2] }
  | _ => none }
def MatrixSpecWrongFalsely : Prop := matrixSpecRow.holds Tryz.pinned (OpenSpec.ofChange matrixSpecWrong)

/-- 'podiumlaw11.MatrixRefuteSpec': WHATEVER THE INPUT: true; the input reads as it did. -/
def matrixRefuteSpecSpec : ChangeSpec := { name := "matrixRefuteSpec", fn := fun _ => fun
  | [d1, d2, d3] => { results := [.lit (.bool true)], args := [d1, d2, d3] }
  | _ => none }
def matrixRefuteSpecRow : OpenClaim := { program := "ytokffagbdfhnnaagreat", sum := "c953a26eb5d92b5a96bf38507fcb96b7da4e5065bef226612f9673d6ae3103cc", func := "podium/podiumlaw11.MatrixRefuteSpec", spec := "matrixRefuteSpec", unfollowed := true, recurses := true, apart := false }
def MatrixRefuteSpecSaid : Prop := matrixRefuteSpecRow.holds Tryz.pinned (OpenSpec.ofChange matrixRefuteSpecSpec)

/-- ITS FALSE NEIGHBOUR: 'it returns false'. Refute it at one input. -/
def matrixRefuteSpecWrong : ChangeSpec := { name := "matrixRefuteSpec", fn := fun _ => fun
  | [d1, d2, d3] => { results := [.lit (.bool false)], args := [d1, d2, d3] }
  | _ => none }
def MatrixRefuteSpecWrongFalsely : Prop := matrixRefuteSpecRow.holds Tryz.pinned (OpenSpec.ofChange matrixRefuteSpecWrong)

/-- 'podiumlaw11.MatrixNever': WHATEVER THE INPUT: true; the input reads as it did. -/
def matrixNeverSpec : ChangeSpec := { name := "matrixNever", fn := fun _ => fun
  | [d1, d2, d3, d4] => { results := [.lit (.bool true)], args := [d1, d2, d3, d4] }
  | _ => none }
def matrixNeverRow : OpenClaim := { program := "ytokffagbdfhnnaagreat", sum := "c953a26eb5d92b5a96bf38507fcb96b7da4e5065bef226612f9673d6ae3103cc", func := "podium/podiumlaw11.MatrixNever", spec := "matrixNever", unfollowed := true, recurses := true, apart := false }
def MatrixNeverSaid : Prop := matrixNeverRow.holds Tryz.pinned (OpenSpec.ofChange matrixNeverSpec)

/-- ITS FALSE NEIGHBOUR: 'it returns false'. Refute it at one input. -/
def matrixNeverWrong : ChangeSpec := { name := "matrixNever", fn := fun _ => fun
  | [d1, d2, d3, d4] => { results := [.lit (.bool false)], args := [d1, d2, d3, d4] }
  | _ => none }
def MatrixNeverWrongFalsely : Prop := matrixNeverRow.holds Tryz.pinned (OpenSpec.ofChange matrixNeverWrong)

/- THE SECOND FORM. 'bulk': how many values and letters a reading holds, each counted each time it is reached (what is shared counts as often as it is met; a slice's spare places count too). A statement '..UptoSaid' is the law's where the arguments, and the package variables that the reading takes, are together of bulk at most 1048576: NARROWER than '..Said'. Prove '..Said' where nothing that the law and all that it calls make is longer than what came in: it says more and counts as full. Else prove '..UptoSaid'. A law counts once. -/
mutual
def uptoBulk {H : Type} : DataW H → Nat
  | .lit (.string bytes) => bytes.length + 1
  | .lit _ => 1
  | .nil => 1
  | .ptr d => uptoBulk d + 1
  | .slice elems spare => uptoBulkAll elems + uptoBulkAll spare + 1
  | .agg parts => uptoBulkAll parts + 1
  | .iface _ d => uptoBulk d + 1
  | .map entries => uptoBulkEntries entries + 1
  | .held _ => 1
def uptoBulkAll {H : Type} : List (DataW H) → Nat
  | [] => 0
  | d :: r => uptoBulk d + uptoBulkAll r
def uptoBulkEntries {H : Type} : List (Lit × DataW H) → Nat
  | [] => 0
  | x :: r => uptoBulkEntry x + uptoBulkEntries r
def uptoBulkEntry {H : Type} : Lit × DataW H → Nat
  | (.string bytes, d) => bytes.length + uptoBulk d + 1
  | (_, d) => uptoBulk d + 1
 end
def uptoSmall : (H : Type) → List (DataW H) → Bool := fun _ ds => decide (uptoBulkAll ds ≤ 1048576)
def OpenSpec.upto (s : _root_.Go.ChangeSpec) : _root_.Go.OpenSpec := { _root_.Go.OpenSpec.ofChange s with cond := some uptoSmall }

/-- 'podiumlaw11.MatrixSpec', WHERE WHAT IT READS IS OF BULK AT MOST 1048576: true; the input reads as it did. -/
def matrixSpecUptoRow : OpenClaim := { program := "ytokffagbdfhnnaagreat", sum := "c953a26eb5d92b5a96bf38507fcb96b7da4e5065bef226612f9673d6ae3103cc", func := "podium/podiumlaw11.MatrixSpec", spec := "matrixSpec", unfollowed := true, recurses := true, apart := false, narrowed := true }
def MatrixSpecUptoSaid : Prop := matrixSpecUptoRow.holds Tryz.pinned (OpenSpec.upto matrixSpecSpec)

/-- 'podiumlaw11.MatrixRefuteSpec', WHERE WHAT IT READS IS OF BULK AT MOST 1048576: true; the input reads as it did. -/
def matrixRefuteSpecUptoRow : OpenClaim := { program := "ytokffagbdfhnnaagreat", sum := "c953a26eb5d92b5a96bf38507fcb96b7da4e5065bef226612f9673d6ae3103cc", func := "podium/podiumlaw11.MatrixRefuteSpec", spec := "matrixRefuteSpec", unfollowed := true, recurses := true, apart := false, narrowed := true }
def MatrixRefuteSpecUptoSaid : Prop := matrixRefuteSpecUptoRow.holds Tryz.pinned (OpenSpec.upto matrixRefuteSpecSpec)

/-- 'podiumlaw11.MatrixNever', WHERE WHAT IT READS IS OF BULK AT MOST 1048576: true; the input reads as it did. -/
def matrixNeverUptoRow : OpenClaim := { program := "ytokffagbdfhnnaagreat", sum := "c953a26eb5d92b5a96bf38507fcb96b7da4e5065bef226612f9673d6ae3103cc", func := "podium/podiumlaw11.MatrixNever", spec := "matrixNever", unfollowed := true, recurses := true, apart := false, narrowed := true }
def MatrixNeverUptoSaid : Prop := matrixNeverUptoRow.holds Tryz.pinned (OpenSpec.upto matrixNeverSpec)

end Rows
end Go.Proofs.YtokffagbdfhnnaaGreat
