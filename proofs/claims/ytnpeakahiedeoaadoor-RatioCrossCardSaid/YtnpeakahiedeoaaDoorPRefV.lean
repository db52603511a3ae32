import Derived.Test.YtnpeakahiedeoaaDoorPRefD
import Derived.Test.YtnpeakahiedeoaaDoorPRefB
import Derived.Test.YtnpeakahiedeoaaDoorPDivA
import Derived.Outline
namespace Go.Proofs.YtnpeakahiedeoaaDoor
open Go.RowKit Go BigFrame Go.Shelf
set_option maxRecDepth 100000
set_option linter.unusedSimpArgs false

/-! ref.Div. -/
end Go.Proofs.YtnpeakahiedeoaaDoor
