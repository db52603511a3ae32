import Derived.Test.YtokffagbdfhnnaaGreatUH
import Derived.OwnWalk
import Derived.Deep.QuietTactic
import Derived.Deep.Cut
namespace Go.Proofs.YtokffagbdfhnnaaGreat
open Go.RowKit Go BigFrame Go.Shelf
set_option maxRecDepth 100000
set_option linter.unusedSimpArgs false
set_option linter.unusedVariables false
attribute [local go_sem] Oper.semAt_some
def solvesB (m N:Nat) (M:Mx) (x:Nat→Option Rat) (b:Nat→Rat):Bool:=(List.range m).all fun r=>decide (dotM (fun c=>some (M r c)) x N=some (b r))
def refutesB (m N L:Nat) (M:Mx) (y:Nat→Option Rat) (b:Nat→Rat):Bool:=
 decide (L=m) && ((List.range N).all (fun k=>decide (dotM (fun r=>some (M r k)) y m=some 0)) && decide (dotM (fun r=>some (b r)) y m=some 1))
end Go.Proofs.YtokffagbdfhnnaaGreat
