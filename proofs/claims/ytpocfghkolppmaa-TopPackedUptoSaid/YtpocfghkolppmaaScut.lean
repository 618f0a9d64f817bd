/- The program's series: Cut, Delete, Range. -/
import Derived.Test.YtpocfghkolppmaaSput
set_option linter.unusedVariables false
set_option linter.unusedSimpArgs false
set_option maxRecDepth 100000
namespace Go.Proofs.Ytpocfghkolppmaa
open Go

end Go.Proofs.Ytpocfghkolppmaa
