import Derived.SizedLaws
import Derived.ChangeSlices
namespace Go.Proofs.YtmpknbdbichdiaaW.PrintWords
open Go.ChangeShapes Go.WideShapes
end Go.Proofs.YtmpknbdbichdiaaW.PrintWords

