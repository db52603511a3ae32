import Derived.Test.YtnpeakahiedeoaaGreatDoorPRefD
import Derived.Test.YtnpeakahiedeoaaGreatDoorPRefB
import Derived.Test.YtnpeakahiedeoaaGreatDoorPDivA
import Derived.Outline
namespace Go.Proofs.YtnpeakahiedeoaaGreatDoor
open Go.RowKit Go BigFrame Go.Shelf
set_option maxRecDepth 100000
set_option linter.unusedSimpArgs false

/-! ref.Div. -/
end Go.Proofs.YtnpeakahiedeoaaGreatDoor
