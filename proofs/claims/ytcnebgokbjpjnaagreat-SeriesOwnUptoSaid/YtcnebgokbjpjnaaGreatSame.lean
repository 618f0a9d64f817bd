/- weirmem.Same: two rows of bytes are the same just when the lists are. -/
import Derived.Test.YtcnebgokbjpjnaaGreatTab
import Derived.Test.YtcnebgokbjpjnaaGreatMem
import Derived.Test.YtcnebgokbjpjnaaGreatArith
set_option linter.unusedVariables false
set_option linter.unusedSimpArgs false
set_option maxRecDepth 100000
namespace Go.Proofs.YtcnebgokbjpjnaaGreat
open Go

def envInt (v : Value) : Int := match v with | .int _ n => n | _ => 0
theorem envInt_int (k : IntKind) (n : Int) : envInt (.int k n) = n := rfl

end Go.Proofs.YtcnebgokbjpjnaaGreat
