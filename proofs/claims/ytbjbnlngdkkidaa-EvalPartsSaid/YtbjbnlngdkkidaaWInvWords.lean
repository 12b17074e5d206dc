import Derived.Test.YtbjbnlngdkkidaaWInv
import Derived.Test.YtbjbnlngdkkidaaWFootNe
namespace Go.Proofs.YtbjbnlngdkkidaaW.PrintWords
open Go.RowKit
end Go.Proofs.YtbjbnlngdkkidaaW.PrintWords
namespace Go.Proofs.YtbjbnlngdkkidaaW.PrintLast
section
variable {ops : Array Oper} {a : Act} {o og : Oper} {g : Nat} {t : Tmp} {u : Bool}
end
end Go.Proofs.YtbjbnlngdkkidaaW.PrintLast

