import Derived.Test.YtnpeakahiedeoaaGreatDoorQR1
namespace Go.Proofs.YtnpeakahiedeoaaGreatDoor
open Go.RowKit Go BigFrame
set_option maxRecDepth 100000
set_option linter.unusedSimpArgs false
set_option linter.unusedVariables false

/-! ref10: Make, cross, over, Cmp, Add, Sub, Mul, Quo, Floor. -/
end Go.Proofs.YtnpeakahiedeoaaGreatDoor

namespace Go.Proofs.YtnpeakahiedeoaaGreatDoor
open Go.RowKit Go BigFrame
set_option maxRecDepth 100000
set_option linter.unusedSimpArgs false
set_option linter.unusedVariables false

/-! The reference's functions on arguments that are not valid. -/
end Go.Proofs.YtnpeakahiedeoaaGreatDoor

