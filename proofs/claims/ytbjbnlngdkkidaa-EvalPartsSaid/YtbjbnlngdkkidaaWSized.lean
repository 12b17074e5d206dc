import Derived.SizedLaws
import Derived.ChangeSlices
namespace Go.Proofs.YtbjbnlngdkkidaaW.PrintWords
open Go.ChangeShapes Go.WideShapes
end Go.Proofs.YtbjbnlngdkkidaaW.PrintWords

