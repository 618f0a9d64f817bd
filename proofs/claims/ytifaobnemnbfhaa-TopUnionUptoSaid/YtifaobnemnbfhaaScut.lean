/- The program's series: Cut, Delete, Range. -/
import Derived.Test.YtifaobnemnbfhaaSput
set_option linter.unusedVariables false
set_option linter.unusedSimpArgs false
set_option maxRecDepth 100000
namespace Go.Proofs.Ytifaobnemnbfhaa
open Go

end Go.Proofs.Ytifaobnemnbfhaa
