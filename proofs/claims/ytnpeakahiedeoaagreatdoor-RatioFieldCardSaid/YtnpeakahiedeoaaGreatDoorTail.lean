import Derived.Test.YtnpeakahiedeoaaGreatDoorBase
import Derived.StillTail
namespace Go.Proofs.YtnpeakahiedeoaaGreatDoor
open Go.RowKit Go

/-! A region that draws its order: a head of quiet operations (in a class of worlds), then a forced tail. -/
section
variable {P : Program} {ops : Array Oper} {md : Region.Mode} {C : World → Prop}

/-- The head is under way: only its operations may come up, each one quiet. -/
def headQ (P : Program) (md : Region.Mode) (ops : Array Oper) (C : World → Prop) (n : Nat) (L : Array Bool → Act → Prop) : Nat → Array Bool → Act → Prop
  | 0, done, a => L done a
  | f + 1, done, a => Region.ready md ops done ≠ [] ∧ ∀ i ∈ Region.ready md ops done, i < n ∧ qOp P ops C i (headQ P md ops C n L f (done.setIfInBounds i true)) a

end
end Go.Proofs.YtnpeakahiedeoaaGreatDoor
