import Derived.Test.YtbjbnlngdkkidaaPEvx
import Derived.Test.YtbjbnlngdkkidaaPEpx0
namespace Go.Proofs.Ytbjbnlngdkkidaa.PEp
open Go.Proofs.Ytbjbnlngdkkidaa.PEv
open Go.RowKit Go.Proofs.YtbjbnlngdkkidaaW.PrintWords Go.Proofs.YtbjbnlngdkkidaaW.PrintLast Go.Proofs.YtbjbnlngdkkidaaW.PrintMore
attribute [local go_sem] max2_int min2_int max_two min_two max_three min_three max_four min_four
set_option linter.unusedVariables false
set_option linter.unusedSimpArgs false
end Go.Proofs.Ytbjbnlngdkkidaa.PEp
