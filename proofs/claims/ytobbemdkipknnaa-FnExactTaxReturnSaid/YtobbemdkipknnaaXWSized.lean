import Derived.SizedLaws
import Derived.ChangeSlices
namespace Go.Proofs.YtobbemdkipknnaaW.PrintWords
open Go.ChangeShapes Go.WideShapes
end Go.Proofs.YtobbemdkipknnaaW.PrintWords

