import Derived.Test.YtnpeakahiedeoaaDoorPMul
namespace Go.Proofs.YtnpeakahiedeoaaDoor
open Go.RowKit Go BigFrame Go.Shelf
set_option maxRecDepth 100000
set_option linter.unusedSimpArgs false

end Go.Proofs.YtnpeakahiedeoaaDoor

namespace Go.Proofs.YtnpeakahiedeoaaDoor
open Go.RowKit Go BigFrame Go.Shelf
set_option maxRecDepth 100000
set_option linter.unusedSimpArgs false

end Go.Proofs.YtnpeakahiedeoaaDoor

namespace Go.Proofs.YtnpeakahiedeoaaDoor
open Go.RowKit Go BigFrame Go.Shelf
set_option maxRecDepth 100000
set_option linter.unusedSimpArgs false

/-- Digits of one's own, of the value z, at most L of them. -/
def ValP (z : Int) (L : Nat) (w : World) (e : Ending) (w' : World) : Prop := ∃ v R, e = .returned v ∧ OwnI w' w.heap.size v R ∧ Digs R ∧ dval R = z ∧ R.length ≤ L ∧ Ext w w'
/-! A less b. -/
def subS (l m : List Int) (i : Nat) : Int := l.getD i 0 - m.getD i 0
end Go.Proofs.YtnpeakahiedeoaaDoor

namespace Go.Proofs.YtnpeakahiedeoaaDoor
open Go.RowKit Go BigFrame Go.Shelf
set_option maxRecDepth 100000
set_option linter.unusedSimpArgs false

end Go.Proofs.YtnpeakahiedeoaaDoor

