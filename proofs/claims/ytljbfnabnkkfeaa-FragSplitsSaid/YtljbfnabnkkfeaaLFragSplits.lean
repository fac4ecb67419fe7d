import Derived.Test.YtljbfnabnkkfeaaFgR2
/- bafflelaw07.FragSplits returns true: its walk is fragSplits_walk of YtljbfnabnkkfeaaFgR2. -/
namespace Go.Proofs.Ytljbfnabnkkfeaa
set_option linter.unusedVariables false
set_option linter.unusedSimpArgs false
end Go.Proofs.Ytljbfnabnkkfeaa
