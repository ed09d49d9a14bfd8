import Derived.SizedLaws
import Derived.ChangeSlices
namespace Go.Proofs.YtjnmfadnkbflfaaW.PrintWords
open Go.ChangeShapes Go.WideShapes
end Go.Proofs.YtjnmfadnkbflfaaW.PrintWords

