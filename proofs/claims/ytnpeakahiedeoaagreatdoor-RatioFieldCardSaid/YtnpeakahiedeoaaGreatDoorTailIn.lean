import Derived.Test.YtnpeakahiedeoaaGreatDoorBlk
import Derived.RangeFuncNested
import Derived.RangeFuncBound
import Derived.RangeFuncCalls
import Derived.RangeFuncLeaves
import Derived.OwnWalkIn
import Derived.TacticsInMore
import Derived.LoopNIn
import Derived.LoopIn
namespace Go.Proofs.YtnpeakahiedeoaaGreatDoor
open Go.RowKit Go

/-! The same as Tail, inside a round of a range over a function (the wide fence). -/
section
variable {P : Program} {ops : Array Oper} {md : Region.Mode} {C : World → Prop} {lp n : Nat}

/-- The fence of a round. -/
abbrev Rd (lp : Nat) : Fence := Fence.wide.inRound lp
theorem calls_round {f : FuncId} {args : Array Value} {w : World} {R : Ending → World → Prop} (h : Calls P f args w R) : CallsIn (Rd lp) n P f args w R := CallsIn.inRound lp (callsIn_wide.2 h)

end
end Go.Proofs.YtnpeakahiedeoaaGreatDoor
