import Derived.Test.YtnpeakahiedeoaaDoorPRefB
namespace Go.Proofs.YtnpeakahiedeoaaDoor
open Go.RowKit Go BigFrame Go.Shelf
set_option maxRecDepth 100000
set_option linter.unusedSimpArgs false
set_option linter.unusedVariables false

/-! ref09.Cmp. -/
end Go.Proofs.YtnpeakahiedeoaaDoor
