/- The block laws' comparisons: times, values. -/
import Derived.Test.YtmgiichlccdcfaaLive9
set_option linter.unusedVariables false
set_option linter.unusedSimpArgs false
set_option maxRecDepth 100000
namespace Go.Proofs.Ytmgiichlccdcfaa
open Go

end Go.Proofs.Ytmgiichlccdcfaa
