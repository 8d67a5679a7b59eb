/- What the functions of scan's reference answer, in plain Lean. No conditions. -/
import Derived.Test.YtgboamdacnigmaaLmScan
namespace Go.Proofs.Ytgboamdacnigmaa.Lm
open Go.RowKit Go.Proofs.YtgboamdacnigmaaW.PrintWords Go.Proofs.Ytgboamdacnigmaa.PF
end Go.Proofs.Ytgboamdacnigmaa.Lm
