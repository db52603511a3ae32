/-
  No cell of these rows narrows 'for every input' (looked for: loops, veiled, ifaces, maps, wideKeys, modest, calm, conditions, laid).
  DERIVED. THE GIVEN ROWS OF THIS SEAT. 4 by the template 'for every input the law returns true; each argument reads behind the call as it read before'; 0 by the template 'total and deterministic' (their statements: YtolffmmkjnhkkaaGreatTotals.lean).
  GIVEN WITH THE SEED: the statements are not yours to turn. If you find one false, say at which input.
  Laid BY PROGRAM, IN A SANDBOX (cutbox-rows.mjs): the forced cells as the released guide's own fill.sh prints them over the translation 82332bcc059f92a0… (all of the seat's roots in one cut). By AI agents, Wed Nov 11 2026. No macro, syntax, notation, axiom, sorry.
-/
import Derived.Test.YtolffmmkjnhkkaaGreatChecked
import GoSem.Claim
import GoSem.ClaimJoined
import GoSem.ClaimMapViews
import Derived.JoinedTies
import Derived.KernelRfl
namespace Go.Proofs.YtolffmmkjnhkkaaGreat
/- THE CELL 'sum', in the pinned program and in every row, IS THE sha256 OF THE DUMP (.gsa) THAT YtolffmmkjnhkkaaGreatProg.lean LOADS. Nothing in Lean hashes anything: it is a label: what it is worth is what the hold of that sum in a sandbox is worth. -/
noncomputable def Tryz.pinned : Pinned := { name := "ytolffmmkjnhkkaagreat", sum := "82332bcc059f92a0a2dbc14f0991e6ec8bd98bdab2778dc928c30adae52a8a7f", checked := Tryz.checked }
namespace Rows
def none {H : Type} : Left H := { results := [], args := [] }

/-- 'podiumlaw40.CorrectedSpec': WHATEVER THE INPUT: true; the input reads as it did. -/
def correctedSpecSpec : ChangeSpec := { name := "correctedSpec", fn := fun _ => fun
  | [d1, d2] => { results := [.lit (.bool true)], args := [d1, d2] }
  | _ => none }
def correctedSpecRow : OpenClaim := { program := "ytolffmmkjnhkkaagreat", sum := "82332bcc059f92a0a2dbc14f0991e6ec8bd98bdab2778dc928c30adae52a8a7f", func := "podium/podiumlaw40.CorrectedSpec", spec := "correctedSpec", unfollowed := true, recurses := true, apart := false }
def CorrectedSpecSaid : Prop := correctedSpecRow.holds Tryz.pinned (OpenSpec.ofChange correctedSpecSpec)

/-- ITS FALSE NEIGHBOUR: 'it returns false'. Refute it at one input. -/
def correctedSpecWrong : ChangeSpec := { name := "correctedSpec", fn := fun _ => fun
  | [d1, d2] => { results := [.lit (.bool false)], args := [d1, d2] }
  | _ => none }
def CorrectedSpecWrongFalsely : Prop := correctedSpecRow.holds Tryz.pinned (OpenSpec.ofChange correctedSpecWrong)

/-- 'podiumlaw40.CorrectedShift': WHATEVER THE INPUT: true; the input reads as it did. -/
def correctedShiftSpec : ChangeSpec := { name := "correctedShift", fn := fun _ => fun
  | [d1, d2, d3, d4] => { results := [.lit (.bool true)], args := [d1, d2, d3, d4] }
  | _ => none }
def correctedShiftRow : OpenClaim := { program := "ytolffmmkjnhkkaagreat", sum := "82332bcc059f92a0a2dbc14f0991e6ec8bd98bdab2778dc928c30adae52a8a7f", func := "podium/podiumlaw40.CorrectedShift", spec := "correctedShift", unfollowed := true, recurses := true, apart := false }
def CorrectedShiftSaid : Prop := correctedShiftRow.holds Tryz.pinned (OpenSpec.ofChange correctedShiftSpec)

/-- ITS FALSE NEIGHBOUR: 'it returns false'. Refute it at one input. -/
def correctedShiftWrong : ChangeSpec := { name := "correctedShift", fn := fun _ => fun
  | [d1, d2, d3, d4] => { results := [.lit (.bool false)], args := [d1, d2, d3, d4] }
  | _ => none }
def CorrectedShiftWrongFalsely : Prop := correctedShiftRow.holds Tryz.pinned (OpenSpec.ofChange correctedShiftWrong)

/-- 'podiumlaw40.CorrectedOne': WHATEVER THE INPUT: true; the input reads as it did. -/
def correctedOneSpec : ChangeSpec := { name := "correctedOne", fn := fun _ => fun
  | [d1, d2, d3, d4, d5, d6] => { results := [.lit (.bool true)], args := [d1, d2, d3, d4, d5, d6] }
  | _ => none }
def correctedOneRow : OpenClaim := { program := "ytolffmmkjnhkkaagreat", sum := "82332bcc059f92a0a2dbc14f0991e6ec8bd98bdab2778dc928c30adae52a8a7f", func := "podium/podiumlaw40.CorrectedOne", spec := "correctedOne", unfollowed := true, recurses := true, apart := false }
def CorrectedOneSaid : Prop := correctedOneRow.holds Tryz.pinned (OpenSpec.ofChange correctedOneSpec)

/-- ITS FALSE NEIGHBOUR: 'it returns false'. Refute it at one input. -/
def correctedOneWrong : ChangeSpec := { name := "correctedOne", fn := fun _ => fun
  | [d1, d2, d3, d4, d5, d6] => { results := [.lit (.bool false)], args := [d1, d2, d3, d4, d5, d6] }
  | _ => none }
def CorrectedOneWrongFalsely : Prop := correctedOneRow.holds Tryz.pinned (OpenSpec.ofChange correctedOneWrong)

/-- 'podiumlaw40.CorrectedPlain': WHATEVER THE INPUT: true; the input reads as it did. -/
def correctedPlainSpec : ChangeSpec := { name := "correctedPlain", fn := fun _ => fun
  | [d1, d2] => { results := [.lit (.bool true)], args := [d1, d2] }
  | _ => none }
def correctedPlainRow : OpenClaim := { program := "ytolffmmkjnhkkaagreat", sum := "82332bcc059f92a0a2dbc14f0991e6ec8bd98bdab2778dc928c30adae52a8a7f", func := "podium/podiumlaw40.CorrectedPlain", spec := "correctedPlain", unfollowed := true, recurses := true, apart := false }
def CorrectedPlainSaid : Prop := correctedPlainRow.holds Tryz.pinned (OpenSpec.ofChange correctedPlainSpec)

/-- ITS FALSE NEIGHBOUR: 'it returns false'. Refute it at one input. -/
def correctedPlainWrong : ChangeSpec := { name := "correctedPlain", fn := fun _ => fun
  | [d1, d2] => { results := [.lit (.bool false)], args := [d1, d2] }
  | _ => none }
def CorrectedPlainWrongFalsely : Prop := correctedPlainRow.holds Tryz.pinned (OpenSpec.ofChange correctedPlainWrong)

/- THE SECOND FORM. 'bulk': how many values and letters a reading holds, each counted each time it is reached (what is shared counts as often as it is met; a slice's spare places count too). A statement '..UptoSaid' is the law's where the arguments, and the package variables that the reading takes, are together of bulk at most 1048576: NARROWER than '..Said'. Prove '..Said' where nothing that the law and all that it calls make is longer than what came in: it says more and counts as full. Else prove '..UptoSaid'. A law counts once. -/
mutual
def uptoBulk {H : Type} : DataW H → Nat
  | .lit (.string bytes) => bytes.length + 1
  | .lit _ => 1
  | .nil => 1
  | .ptr d => uptoBulk d + 1
  | .slice elems spare => uptoBulkAll elems + uptoBulkAll spare + 1
  | .agg parts => uptoBulkAll parts + 1
  | .iface _ d => uptoBulk d + 1
  | .map entries => uptoBulkEntries entries + 1
  | .held _ => 1
def uptoBulkAll {H : Type} : List (DataW H) → Nat
  | [] => 0
  | d :: r => uptoBulk d + uptoBulkAll r
def uptoBulkEntries {H : Type} : List (Lit × DataW H) → Nat
  | [] => 0
  | x :: r => uptoBulkEntry x + uptoBulkEntries r
def uptoBulkEntry {H : Type} : Lit × DataW H → Nat
  | (.string bytes, d) => bytes.length + uptoBulk d + 1
  | (_, d) => uptoBulk d + 1
 end
def uptoSmall : (H : Type) → List (DataW H) → Bool := fun _ ds => decide (uptoBulkAll ds ≤ 1048576)
def OpenSpec.upto (s : _root_.Go.ChangeSpec) : _root_.Go.OpenSpec := { _root_.Go.OpenSpec.ofChange s with cond := some uptoSmall }

/-- 'podiumlaw40.CorrectedSpec', WHERE WHAT IT READS IS OF BULK AT MOST 1048576: true; the input reads as it did. -/
def correctedSpecUptoRow : OpenClaim := { program := "ytolffmmkjnhkkaagreat", sum := "82332bcc059f92a0a2dbc14f0991e6ec8bd98bdab2778dc928c30adae52a8a7f", func := "podium/podiumlaw40.CorrectedSpec", spec := "correctedSpec", unfollowed := true, recurses := true, apart := false, narrowed := true }
def CorrectedSpecUptoSaid : Prop := correctedSpecUptoRow.holds Tryz.pinned (OpenSpec.upto correctedSpecSpec)

/-- 'podiumlaw40.CorrectedShift', WHERE WHAT IT READS IS OF BULK AT MOST 1048576: true; the input reads as it did. -/
def correctedShiftUptoRow : OpenClaim := { program := "ytolffmmkjnhkkaagreat", sum := "82332bcc059f92a0a2dbc14f0991e6ec8bd98bdab2778dc928c30adae52a8a7f", func := "podium/podiumlaw40.CorrectedShift", spec := "correctedShift", unfollowed := true, recurses := true, apart := false, narrowed := true }
def CorrectedShiftUptoSaid : Prop := correctedShiftUptoRow.holds Tryz.pinned (OpenSpec.upto correctedShiftSpec)

/-- 'podiumlaw40.CorrectedOne', WHERE WHAT IT READS IS OF BULK AT MOST 1048576: true; the input reads as it did. -/
def correctedOneUptoRow : OpenClaim := { program := "ytolffmmkjnhkkaagreat", sum := "82332bcc059f92a0a2dbc14f0991e6ec8bd98bdab2778dc928c30adae52a8a7f", func := "podium/podiumlaw40.CorrectedOne", spec := "correctedOne", unfollowed := true, recurses := true, apart := false, narrowed := true }
def CorrectedOneUptoSaid : Prop := correctedOneUptoRow.holds Tryz.pinned (OpenSpec.upto correctedOneSpec)

/-- 'podiumlaw40.CorrectedPlain', WHERE WHAT IT READS IS OF BULK AT MOST 1048576: true; the input reads as it did. -/
def correctedPlainUptoRow : OpenClaim := { program := "ytolffmmkjnhkkaagreat", sum := "82332bcc059f92a0a2dbc14f0991e6ec8bd98bdab2778dc928c30adae52a8a7f", func := "podium/podiumlaw40.CorrectedPlain", spec := "correctedPlain", unfollowed := true, recurses := true, apart := false, narrowed := true }
def CorrectedPlainUptoSaid : Prop := correctedPlainUptoRow.holds Tryz.pinned (OpenSpec.upto correctedPlainSpec)

end Rows
end Go.Proofs.YtolffmmkjnhkkaaGreat
