import Derived.Test.YtnpeakahiedeoaaDoorNMake
namespace Go.Proofs.YtnpeakahiedeoaaDoor
open Go.RowKit Go BigFrame
set_option maxRecDepth 100000
set_option linter.unusedSimpArgs false

end Go.Proofs.YtnpeakahiedeoaaDoor
