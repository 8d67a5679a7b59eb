/- Whether the reference of alias tells tables the same, in plain Lean. No conditions. -/
import Derived.Test.YtbafkkbbjacekaaPBx4
import Derived.Test.YtbafkkbbjacekaaLmAlias
namespace Go.Proofs.Ytbafkkbbjacekaa.Lm
open Go.RowKit Go.Proofs.YtbafkkbbjacekaaW.PrintWords Go.Proofs.Ytbafkkbbjacekaa.PB
end Go.Proofs.Ytbafkkbbjacekaa.Lm
