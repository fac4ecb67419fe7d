/- package ip: Turn. -/
import Derived.Test.YtljbfnabnkkfeaaWIpHop
namespace Go.Proofs.Ytljbfnabnkkfeaa
open Go.RowKit
set_option linter.unusedVariables false

def turnB (zs : List Int) : List Int := if faultR zs = 7 then putB (putB (zs.take (totalR zs)) 12 4 (longAt zs 16)) 16 4 (longAt zs 12) else []

end Go.Proofs.Ytljbfnabnkkfeaa
