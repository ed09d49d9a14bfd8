import Derived.SizedLaws
import Derived.ChangeSlices
namespace Go.Proofs.YtadehdkmggpehaaW.PrintWords
open Go.ChangeShapes Go.WideShapes
end Go.Proofs.YtadehdkmggpehaaW.PrintWords

