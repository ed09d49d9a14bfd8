import Derived.SizedLaws
import Derived.ChangeSlices
namespace Go.Proofs.YtifkchkjpbpolaaW.PrintWords
open Go.ChangeShapes Go.WideShapes
end Go.Proofs.YtifkchkjpbpolaaW.PrintWords

