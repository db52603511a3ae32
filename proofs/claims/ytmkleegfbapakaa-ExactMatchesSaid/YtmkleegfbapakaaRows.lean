/-
  No cell of these rows narrows 'for every input' (looked for: loops, veiled, ifaces, maps, wideKeys, modest, calm, conditions, laid).
  DERIVED. THE GIVEN ROWS OF THIS SEAT. 12 by the template 'for every input the law returns true; each argument reads behind the call as it read before'; 0 by the template 'total and deterministic' (their statements: YtmkleegfbapakaaTotals.lean).
  GIVEN WITH THE SEED: the statements are not yours to turn. If you find one false, say at which input.
  Laid BY PROGRAM, IN A SANDBOX (cutbox-rows.mjs): the forced cells as the released guide's own fill.sh prints them over the translation b405582f8ab45f54… (all of the seat's roots in one cut). By AI agents, Wed Nov 11 2026. No macro, syntax, notation, axiom, sorry.
-/
import Derived.Test.YtmkleegfbapakaaChecked
import GoSem.Claim
import GoSem.ClaimJoined
import GoSem.ClaimMapViews
import Derived.JoinedTies
import Derived.KernelRfl
namespace Go.Proofs.Ytmkleegfbapakaa
/- THE CELL 'sum', in the pinned program and in every row, IS THE sha256 OF THE DUMP (.gsa) THAT YtmkleegfbapakaaProg.lean LOADS. Nothing in Lean hashes anything: it is a label: what it is worth is what the hold of that sum in a sandbox is worth. -/
noncomputable def Try.pinned : Pinned := { name := "ytmkleegfbapakaa", sum := "b405582f8ab45f54ea2cc5e9c6d0b19ff467927c0f64e49795a23b7287f11b32", checked := Try.checked }
namespace Rows
def none {H : Type} : Left H := { results := [], args := [] }

/-- 'podiumlaw28.DesignSpec': WHATEVER THE INPUT: true; the input reads as it did. -/
def designSpecSpec : ChangeSpec := { name := "designSpec", fn := fun _ => fun
  | [d1, d2, d3] => { results := [.lit (.bool true)], args := [d1, d2, d3] }
  | _ => none }
def designSpecRow : OpenClaim := { program := "ytmkleegfbapakaa", sum := "b405582f8ab45f54ea2cc5e9c6d0b19ff467927c0f64e49795a23b7287f11b32", func := "podium/podiumlaw28.DesignSpec", spec := "designSpec", unfollowed := true, recurses := true, plainKeys := false, apart := false }
def DesignSpecSaid : Prop := designSpecRow.holds Try.pinned (OpenSpec.ofChange designSpecSpec)

/-- ITS FALSE NEIGHBOUR: 'it returns false'. Refute it at one input. -/
def designSpecWrong : ChangeSpec := { name := "designSpec", fn := fun _ => fun
  | [d1, d2, d3] => { results := [.lit (.bool false)], args := [d1, d2, d3] }
  | _ => none }
def DesignSpecWrongFalsely : Prop := designSpecRow.holds Try.pinned (OpenSpec.ofChange designSpecWrong)

/-- 'podiumlaw28.DesignBoundSpec': WHATEVER THE INPUT: true; the input reads as it did. -/
def designBoundSpecSpec : ChangeSpec := { name := "designBoundSpec", fn := fun _ => fun
  | [d] => { results := [.lit (.bool true)], args := [d] }
  | _ => none }
def designBoundSpecRow : OpenClaim := { program := "ytmkleegfbapakaa", sum := "b405582f8ab45f54ea2cc5e9c6d0b19ff467927c0f64e49795a23b7287f11b32", func := "podium/podiumlaw28.DesignBoundSpec", spec := "designBoundSpec", unfollowed := true, recurses := true, plainKeys := false, apart := false }
def DesignBoundSpecSaid : Prop := designBoundSpecRow.holds Try.pinned (OpenSpec.ofChange designBoundSpecSpec)

/-- ITS FALSE NEIGHBOUR: 'it returns false'. Refute it at one input. -/
def designBoundSpecWrong : ChangeSpec := { name := "designBoundSpec", fn := fun _ => fun
  | [d] => { results := [.lit (.bool false)], args := [d] }
  | _ => none }
def DesignBoundSpecWrongFalsely : Prop := designBoundSpecRow.holds Try.pinned (OpenSpec.ofChange designBoundSpecWrong)

/-- 'podiumlaw28.DesignCounts': WHATEVER THE INPUT: true; the input reads as it did. -/
def designCountsSpec : ChangeSpec := { name := "designCounts", fn := fun _ => fun
  | [d1, d2] => { results := [.lit (.bool true)], args := [d1, d2] }
  | _ => none }
def designCountsRow : OpenClaim := { program := "ytmkleegfbapakaa", sum := "b405582f8ab45f54ea2cc5e9c6d0b19ff467927c0f64e49795a23b7287f11b32", func := "podium/podiumlaw28.DesignCounts", spec := "designCounts", unfollowed := true, recurses := true, plainKeys := false, apart := false }
def DesignCountsSaid : Prop := designCountsRow.holds Try.pinned (OpenSpec.ofChange designCountsSpec)

/-- ITS FALSE NEIGHBOUR: 'it returns false'. Refute it at one input. -/
def designCountsWrong : ChangeSpec := { name := "designCounts", fn := fun _ => fun
  | [d1, d2] => { results := [.lit (.bool false)], args := [d1, d2] }
  | _ => none }
def DesignCountsWrongFalsely : Prop := designCountsRow.holds Try.pinned (OpenSpec.ofChange designCountsWrong)

/-- 'podiumlaw28.DesignBest': WHATEVER THE INPUT: true; the input reads as it did. -/
def designBestSpec : ChangeSpec := { name := "designBest", fn := fun _ => fun
  | [d1, d2] => { results := [.lit (.bool true)], args := [d1, d2] }
  | _ => none }
def designBestRow : OpenClaim := { program := "ytmkleegfbapakaa", sum := "b405582f8ab45f54ea2cc5e9c6d0b19ff467927c0f64e49795a23b7287f11b32", func := "podium/podiumlaw28.DesignBest", spec := "designBest", unfollowed := true, recurses := true, plainKeys := false, apart := false }
def DesignBestSaid : Prop := designBestRow.holds Try.pinned (OpenSpec.ofChange designBestSpec)

/-- ITS FALSE NEIGHBOUR: 'it returns false'. Refute it at one input. -/
def designBestWrong : ChangeSpec := { name := "designBest", fn := fun _ => fun
  | [d1, d2] => { results := [.lit (.bool false)], args := [d1, d2] }
  | _ => none }
def DesignBestWrongFalsely : Prop := designBestRow.holds Try.pinned (OpenSpec.ofChange designBestWrong)

/-- 'podiumlaw28.DesignSlots': WHATEVER THE INPUT: true; the input reads as it did. -/
def designSlotsSpec : ChangeSpec := { name := "designSlots", fn := fun _ => fun
  | [d1, d2] => { results := [.lit (.bool true)], args := [d1, d2] }
  | _ => none }
def designSlotsRow : OpenClaim := { program := "ytmkleegfbapakaa", sum := "b405582f8ab45f54ea2cc5e9c6d0b19ff467927c0f64e49795a23b7287f11b32", func := "podium/podiumlaw28.DesignSlots", spec := "designSlots", unfollowed := true, recurses := true, plainKeys := false, apart := false }
def DesignSlotsSaid : Prop := designSlotsRow.holds Try.pinned (OpenSpec.ofChange designSlotsSpec)

/-- ITS FALSE NEIGHBOUR: 'it returns false'. Refute it at one input. -/
def designSlotsWrong : ChangeSpec := { name := "designSlots", fn := fun _ => fun
  | [d1, d2] => { results := [.lit (.bool false)], args := [d1, d2] }
  | _ => none }
def DesignSlotsWrongFalsely : Prop := designSlotsRow.holds Try.pinned (OpenSpec.ofChange designSlotsWrong)

/-- 'podiumlaw41.ExactSpec': WHATEVER THE INPUT: true; the input reads as it did. -/
def exactSpecSpec : ChangeSpec := { name := "exactSpec", fn := fun _ => fun
  | [d1, d2, d3] => { results := [.lit (.bool true)], args := [d1, d2, d3] }
  | _ => none }
def exactSpecRow : OpenClaim := { program := "ytmkleegfbapakaa", sum := "b405582f8ab45f54ea2cc5e9c6d0b19ff467927c0f64e49795a23b7287f11b32", func := "podium/podiumlaw41.ExactSpec", spec := "exactSpec", unfollowed := true, recurses := true, plainKeys := false, apart := false }
def ExactSpecSaid : Prop := exactSpecRow.holds Try.pinned (OpenSpec.ofChange exactSpecSpec)

/-- ITS FALSE NEIGHBOUR: 'it returns false'. Refute it at one input. -/
def exactSpecWrong : ChangeSpec := { name := "exactSpec", fn := fun _ => fun
  | [d1, d2, d3] => { results := [.lit (.bool false)], args := [d1, d2, d3] }
  | _ => none }
def ExactSpecWrongFalsely : Prop := exactSpecRow.holds Try.pinned (OpenSpec.ofChange exactSpecWrong)

/-- 'podiumlaw41.ExactOrdersSpec': WHATEVER THE INPUT: true; the input reads as it did. -/
def exactOrdersSpecSpec : ChangeSpec := { name := "exactOrdersSpec", fn := fun _ => fun
  | [d1, d2, d3] => { results := [.lit (.bool true)], args := [d1, d2, d3] }
  | _ => none }
def exactOrdersSpecRow : OpenClaim := { program := "ytmkleegfbapakaa", sum := "b405582f8ab45f54ea2cc5e9c6d0b19ff467927c0f64e49795a23b7287f11b32", func := "podium/podiumlaw41.ExactOrdersSpec", spec := "exactOrdersSpec", unfollowed := true, recurses := true, plainKeys := false, apart := false }
def ExactOrdersSpecSaid : Prop := exactOrdersSpecRow.holds Try.pinned (OpenSpec.ofChange exactOrdersSpecSpec)

/-- ITS FALSE NEIGHBOUR: 'it returns false'. Refute it at one input. -/
def exactOrdersSpecWrong : ChangeSpec := { name := "exactOrdersSpec", fn := fun _ => fun
  | [d1, d2, d3] => { results := [.lit (.bool false)], args := [d1, d2, d3] }
  | _ => none }
def ExactOrdersSpecWrongFalsely : Prop := exactOrdersSpecRow.holds Try.pinned (OpenSpec.ofChange exactOrdersSpecWrong)

/-- 'podiumlaw41.ExactOrders': WHATEVER THE INPUT: true; the input reads as it did. -/
def exactOrdersSpec : ChangeSpec := { name := "exactOrders", fn := fun _ => fun
  | [d1, d2, d3, d4, d5, d6] => { results := [.lit (.bool true)], args := [d1, d2, d3, d4, d5, d6] }
  | _ => none }
def exactOrdersRow : OpenClaim := { program := "ytmkleegfbapakaa", sum := "b405582f8ab45f54ea2cc5e9c6d0b19ff467927c0f64e49795a23b7287f11b32", func := "podium/podiumlaw41.ExactOrders", spec := "exactOrders", unfollowed := true, recurses := true, plainKeys := false, apart := false }
def ExactOrdersSaid : Prop := exactOrdersRow.holds Try.pinned (OpenSpec.ofChange exactOrdersSpec)

/-- ITS FALSE NEIGHBOUR: 'it returns false'. Refute it at one input. -/
def exactOrdersWrong : ChangeSpec := { name := "exactOrders", fn := fun _ => fun
  | [d1, d2, d3, d4, d5, d6] => { results := [.lit (.bool false)], args := [d1, d2, d3, d4, d5, d6] }
  | _ => none }
def ExactOrdersWrongFalsely : Prop := exactOrdersRow.holds Try.pinned (OpenSpec.ofChange exactOrdersWrong)

/-- 'podiumlaw41.ExactMatches': WHATEVER THE INPUT: true; the input reads as it did. -/
def exactMatchesSpec : ChangeSpec := { name := "exactMatches", fn := fun _ => fun
  | [d1, d2, d3, d4, d5] => { results := [.lit (.bool true)], args := [d1, d2, d3, d4, d5] }
  | _ => none }
def exactMatchesRow : OpenClaim := { program := "ytmkleegfbapakaa", sum := "b405582f8ab45f54ea2cc5e9c6d0b19ff467927c0f64e49795a23b7287f11b32", func := "podium/podiumlaw41.ExactMatches", spec := "exactMatches", unfollowed := true, recurses := true, plainKeys := false, apart := false }
def ExactMatchesSaid : Prop := exactMatchesRow.holds Try.pinned (OpenSpec.ofChange exactMatchesSpec)

/-- ITS FALSE NEIGHBOUR: 'it returns false'. Refute it at one input. -/
def exactMatchesWrong : ChangeSpec := { name := "exactMatches", fn := fun _ => fun
  | [d1, d2, d3, d4, d5] => { results := [.lit (.bool false)], args := [d1, d2, d3, d4, d5] }
  | _ => none }
def ExactMatchesWrongFalsely : Prop := exactMatchesRow.holds Try.pinned (OpenSpec.ofChange exactMatchesWrong)

/-- 'podiumlaw41.ExactFirst': WHATEVER THE INPUT: true; the input reads as it did. -/
def exactFirstSpec : ChangeSpec := { name := "exactFirst", fn := fun _ => fun
  | [d1, d2, d3, d4, d5, d6] => { results := [.lit (.bool true)], args := [d1, d2, d3, d4, d5, d6] }
  | _ => none }
def exactFirstRow : OpenClaim := { program := "ytmkleegfbapakaa", sum := "b405582f8ab45f54ea2cc5e9c6d0b19ff467927c0f64e49795a23b7287f11b32", func := "podium/podiumlaw41.ExactFirst", spec := "exactFirst", unfollowed := true, recurses := true, plainKeys := false, apart := false }
def ExactFirstSaid : Prop := exactFirstRow.holds Try.pinned (OpenSpec.ofChange exactFirstSpec)

/-- ITS FALSE NEIGHBOUR: 'it returns false'. Refute it at one input. -/
def exactFirstWrong : ChangeSpec := { name := "exactFirst", fn := fun _ => fun
  | [d1, d2, d3, d4, d5, d6] => { results := [.lit (.bool false)], args := [d1, d2, d3, d4, d5, d6] }
  | _ => none }
def ExactFirstWrongFalsely : Prop := exactFirstRow.holds Try.pinned (OpenSpec.ofChange exactFirstWrong)

/-- 'podiumlaw41.ExactAll': WHATEVER THE INPUT: true; the input reads as it did. -/
def exactAllSpec : ChangeSpec := { name := "exactAll", fn := fun _ => fun
  | [d1, d2, d3] => { results := [.lit (.bool true)], args := [d1, d2, d3] }
  | _ => none }
def exactAllRow : OpenClaim := { program := "ytmkleegfbapakaa", sum := "b405582f8ab45f54ea2cc5e9c6d0b19ff467927c0f64e49795a23b7287f11b32", func := "podium/podiumlaw41.ExactAll", spec := "exactAll", unfollowed := true, recurses := true, plainKeys := false, apart := false }
def ExactAllSaid : Prop := exactAllRow.holds Try.pinned (OpenSpec.ofChange exactAllSpec)

/-- ITS FALSE NEIGHBOUR: 'it returns false'. Refute it at one input. -/
def exactAllWrong : ChangeSpec := { name := "exactAll", fn := fun _ => fun
  | [d1, d2, d3] => { results := [.lit (.bool false)], args := [d1, d2, d3] }
  | _ => none }
def ExactAllWrongFalsely : Prop := exactAllRow.holds Try.pinned (OpenSpec.ofChange exactAllWrong)

/-- 'podiumlaw28.DesignRenamed': WHATEVER THE INPUT: true; the input reads as it did. -/
def designRenamedSpec : ChangeSpec := { name := "designRenamed", fn := fun _ => fun
  | [d1, d2, d3, d4, d5, d6] => { results := [.lit (.bool true)], args := [d1, d2, d3, d4, d5, d6] }
  | _ => none }
def designRenamedRow : OpenClaim := { program := "ytmkleegfbapakaa", sum := "b405582f8ab45f54ea2cc5e9c6d0b19ff467927c0f64e49795a23b7287f11b32", func := "podium/podiumlaw28.DesignRenamed", spec := "designRenamed", unfollowed := true, recurses := true, plainKeys := false, apart := false }
def DesignRenamedSaid : Prop := designRenamedRow.holds Try.pinned (OpenSpec.ofChange designRenamedSpec)

/-- ITS FALSE NEIGHBOUR: 'it returns false'. Refute it at one input. -/
def designRenamedWrong : ChangeSpec := { name := "designRenamed", fn := fun _ => fun
  | [d1, d2, d3, d4, d5, d6] => { results := [.lit (.bool false)], args := [d1, d2, d3, d4, d5, d6] }
  | _ => none }
def DesignRenamedWrongFalsely : Prop := designRenamedRow.holds Try.pinned (OpenSpec.ofChange designRenamedWrong)

/- THE SECOND FORM. 'bulk': how many values and letters a reading holds, each counted each time it is reached (what is shared counts as often as it is met; a slice's spare places count too). A statement '..UptoSaid' is the law's where the arguments, and the package variables that the reading takes, are together of bulk at most 1048576: NARROWER than '..Said'. Prove '..Said' where nothing that the law and all that it calls make is longer than what came in: it says more and counts as full. Else prove '..UptoSaid'. A law counts once. -/
mutual
def uptoBulk {H : Type} : DataW H → Nat
  | .lit (.string bytes) => bytes.length + 1
  | .lit _ => 1
  | .nil => 1
  | .ptr d => uptoBulk d + 1
  | .slice elems spare => uptoBulkAll elems + uptoBulkAll spare + 1
  | .agg parts => uptoBulkAll parts + 1
  | .iface _ d => uptoBulk d + 1
  | .map entries => uptoBulkEntries entries + 1
  | .held _ => 1
def uptoBulkAll {H : Type} : List (DataW H) → Nat
  | [] => 0
  | d :: r => uptoBulk d + uptoBulkAll r
def uptoBulkEntries {H : Type} : List (Lit × DataW H) → Nat
  | [] => 0
  | x :: r => uptoBulkEntry x + uptoBulkEntries r
def uptoBulkEntry {H : Type} : Lit × DataW H → Nat
  | (.string bytes, d) => bytes.length + uptoBulk d + 1
  | (_, d) => uptoBulk d + 1
 end
def uptoSmall : (H : Type) → List (DataW H) → Bool := fun _ ds => decide (uptoBulkAll ds ≤ 1048576)
def OpenSpec.upto (s : _root_.Go.ChangeSpec) : _root_.Go.OpenSpec := { _root_.Go.OpenSpec.ofChange s with cond := some uptoSmall }

/-- 'podiumlaw28.DesignSpec', WHERE WHAT IT READS IS OF BULK AT MOST 1048576: true; the input reads as it did. -/
def designSpecUptoRow : OpenClaim := { program := "ytmkleegfbapakaa", sum := "b405582f8ab45f54ea2cc5e9c6d0b19ff467927c0f64e49795a23b7287f11b32", func := "podium/podiumlaw28.DesignSpec", spec := "designSpec", unfollowed := true, recurses := true, plainKeys := false, apart := false, narrowed := true }
def DesignSpecUptoSaid : Prop := designSpecUptoRow.holds Try.pinned (OpenSpec.upto designSpecSpec)

/-- 'podiumlaw28.DesignBoundSpec', WHERE WHAT IT READS IS OF BULK AT MOST 1048576: true; the input reads as it did. -/
def designBoundSpecUptoRow : OpenClaim := { program := "ytmkleegfbapakaa", sum := "b405582f8ab45f54ea2cc5e9c6d0b19ff467927c0f64e49795a23b7287f11b32", func := "podium/podiumlaw28.DesignBoundSpec", spec := "designBoundSpec", unfollowed := true, recurses := true, plainKeys := false, apart := false, narrowed := true }
def DesignBoundSpecUptoSaid : Prop := designBoundSpecUptoRow.holds Try.pinned (OpenSpec.upto designBoundSpecSpec)

/-- 'podiumlaw28.DesignCounts', WHERE WHAT IT READS IS OF BULK AT MOST 1048576: true; the input reads as it did. -/
def designCountsUptoRow : OpenClaim := { program := "ytmkleegfbapakaa", sum := "b405582f8ab45f54ea2cc5e9c6d0b19ff467927c0f64e49795a23b7287f11b32", func := "podium/podiumlaw28.DesignCounts", spec := "designCounts", unfollowed := true, recurses := true, plainKeys := false, apart := false, narrowed := true }
def DesignCountsUptoSaid : Prop := designCountsUptoRow.holds Try.pinned (OpenSpec.upto designCountsSpec)

/-- 'podiumlaw28.DesignBest', WHERE WHAT IT READS IS OF BULK AT MOST 1048576: true; the input reads as it did. -/
def designBestUptoRow : OpenClaim := { program := "ytmkleegfbapakaa", sum := "b405582f8ab45f54ea2cc5e9c6d0b19ff467927c0f64e49795a23b7287f11b32", func := "podium/podiumlaw28.DesignBest", spec := "designBest", unfollowed := true, recurses := true, plainKeys := false, apart := false, narrowed := true }
def DesignBestUptoSaid : Prop := designBestUptoRow.holds Try.pinned (OpenSpec.upto designBestSpec)

/-- 'podiumlaw28.DesignSlots', WHERE WHAT IT READS IS OF BULK AT MOST 1048576: true; the input reads as it did. -/
def designSlotsUptoRow : OpenClaim := { program := "ytmkleegfbapakaa", sum := "b405582f8ab45f54ea2cc5e9c6d0b19ff467927c0f64e49795a23b7287f11b32", func := "podium/podiumlaw28.DesignSlots", spec := "designSlots", unfollowed := true, recurses := true, plainKeys := false, apart := false, narrowed := true }
def DesignSlotsUptoSaid : Prop := designSlotsUptoRow.holds Try.pinned (OpenSpec.upto designSlotsSpec)

/-- 'podiumlaw41.ExactSpec', WHERE WHAT IT READS IS OF BULK AT MOST 1048576: true; the input reads as it did. -/
def exactSpecUptoRow : OpenClaim := { program := "ytmkleegfbapakaa", sum := "b405582f8ab45f54ea2cc5e9c6d0b19ff467927c0f64e49795a23b7287f11b32", func := "podium/podiumlaw41.ExactSpec", spec := "exactSpec", unfollowed := true, recurses := true, plainKeys := false, apart := false, narrowed := true }
def ExactSpecUptoSaid : Prop := exactSpecUptoRow.holds Try.pinned (OpenSpec.upto exactSpecSpec)

/-- 'podiumlaw41.ExactOrdersSpec', WHERE WHAT IT READS IS OF BULK AT MOST 1048576: true; the input reads as it did. -/
def exactOrdersSpecUptoRow : OpenClaim := { program := "ytmkleegfbapakaa", sum := "b405582f8ab45f54ea2cc5e9c6d0b19ff467927c0f64e49795a23b7287f11b32", func := "podium/podiumlaw41.ExactOrdersSpec", spec := "exactOrdersSpec", unfollowed := true, recurses := true, plainKeys := false, apart := false, narrowed := true }
def ExactOrdersSpecUptoSaid : Prop := exactOrdersSpecUptoRow.holds Try.pinned (OpenSpec.upto exactOrdersSpecSpec)

/-- 'podiumlaw41.ExactOrders', WHERE WHAT IT READS IS OF BULK AT MOST 1048576: true; the input reads as it did. -/
def exactOrdersUptoRow : OpenClaim := { program := "ytmkleegfbapakaa", sum := "b405582f8ab45f54ea2cc5e9c6d0b19ff467927c0f64e49795a23b7287f11b32", func := "podium/podiumlaw41.ExactOrders", spec := "exactOrders", unfollowed := true, recurses := true, plainKeys := false, apart := false, narrowed := true }
def ExactOrdersUptoSaid : Prop := exactOrdersUptoRow.holds Try.pinned (OpenSpec.upto exactOrdersSpec)

/-- 'podiumlaw41.ExactMatches', WHERE WHAT IT READS IS OF BULK AT MOST 1048576: true; the input reads as it did. -/
def exactMatchesUptoRow : OpenClaim := { program := "ytmkleegfbapakaa", sum := "b405582f8ab45f54ea2cc5e9c6d0b19ff467927c0f64e49795a23b7287f11b32", func := "podium/podiumlaw41.ExactMatches", spec := "exactMatches", unfollowed := true, recurses := true, plainKeys := false, apart := false, narrowed := true }
def ExactMatchesUptoSaid : Prop := exactMatchesUptoRow.holds Try.pinned (OpenSpec.upto exactMatchesSpec)

/-- 'podiumlaw41.ExactFirst', WHERE WHAT IT READS IS OF BULK AT MOST 1048576: true; the input reads as it did. -/
def exactFirstUptoRow : OpenClaim := { program := "ytmkleegfbapakaa", sum := "b405582f8ab45f54ea2cc5e9c6d0b19ff467927c0f64e49795a23b7287f11b32", func := "podium/podiumlaw41.ExactFirst", spec := "exactFirst", unfollowed := true, recurses := true, plainKeys := false, apart := false, narrowed := true }
def ExactFirstUptoSaid : Prop := exactFirstUptoRow.holds Try.pinned (OpenSpec.upto exactFirstSpec)

/-- 'podiumlaw41.ExactAll', WHERE WHAT IT READS IS OF BULK AT MOST 1048576: true; the input reads as it did. -/
def exactAllUptoRow : OpenClaim := { program := "ytmkleegfbapakaa", sum := "b405582f8ab45f54ea2cc5e9c6d0b19ff467927c0f64e49795a23b7287f11b32", func := "podium/podiumlaw41.ExactAll", spec := "exactAll", unfollowed := true, recurses := true, plainKeys := false, apart := false, narrowed := true }
def ExactAllUptoSaid : Prop := exactAllUptoRow.holds Try.pinned (OpenSpec.upto exactAllSpec)

/-- 'podiumlaw28.DesignRenamed', WHERE WHAT IT READS IS OF BULK AT MOST 1048576: true; the input reads as it did. -/
def designRenamedUptoRow : OpenClaim := { program := "ytmkleegfbapakaa", sum := "b405582f8ab45f54ea2cc5e9c6d0b19ff467927c0f64e49795a23b7287f11b32", func := "podium/podiumlaw28.DesignRenamed", spec := "designRenamed", unfollowed := true, recurses := true, plainKeys := false, apart := false, narrowed := true }
def DesignRenamedUptoSaid : Prop := designRenamedUptoRow.holds Try.pinned (OpenSpec.upto designRenamedSpec)

end Rows
end Go.Proofs.Ytmkleegfbapakaa
