import Derived.Test.YtnpeakahiedeoaaDoorQ3
import Derived.Test.YtnpeakahiedeoaaDoorPRefG
import Derived.Test.YtnpeakahiedeoaaDoorPRefV
import Derived.Test.YtnpeakahiedeoaaDoorPRef9
import Derived.Test.YtnpeakahiedeoaaDoorPRefB
import Derived.Test.YtnpeakahiedeoaaDoorNMake2
import Derived.Test.YtnpeakahiedeoaaDoorHeldIn
namespace Go.Proofs.YtnpeakahiedeoaaDoor
open Go.RowKit Go BigFrame
set_option maxRecDepth 100000
set_option linter.unusedSimpArgs false
set_option linter.unusedVariables false

/-! ref10.zero, Check, valid, Of, Make. -/
end Go.Proofs.YtnpeakahiedeoaaDoor
