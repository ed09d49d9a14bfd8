import Derived.SizedLaws
import Derived.ChangeSlices
namespace Go.Proofs.YtnbecbgpefmcoaaW.PrintWords
open Go.ChangeShapes Go.WideShapes
end Go.Proofs.YtnbecbgpefmcoaaW.PrintWords

