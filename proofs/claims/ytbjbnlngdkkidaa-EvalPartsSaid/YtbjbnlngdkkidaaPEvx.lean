import Derived.Test.YtbjbnlngdkkidaaPEvx0
import Derived.Test.YtbjbnlngdkkidaaPEvx1
import Derived.Test.YtbjbnlngdkkidaaPEvx2
import Derived.Test.YtbjbnlngdkkidaaPEvx3
import Derived.Test.YtbjbnlngdkkidaaPEvx4
import Derived.Test.YtbjbnlngdkkidaaPEvx5
import Derived.Test.YtbjbnlngdkkidaaPEvx6
import Derived.Test.YtbjbnlngdkkidaaPEvx7
import Derived.Test.YtbjbnlngdkkidaaPEvx8
import Derived.Test.YtbjbnlngdkkidaaPEvx9
import Derived.Test.YtbjbnlngdkkidaaPEvx10
namespace Go.Proofs.Ytbjbnlngdkkidaa.PEv
open Go.RowKit Go.Proofs.YtbjbnlngdkkidaaW.PrintWords Go.Proofs.YtbjbnlngdkkidaaW.PrintLast Go.Proofs.YtbjbnlngdkkidaaW.PrintMore
attribute [local go_sem] max2_int min2_int max_two min_two max_three min_three max_four min_four
set_option linter.unusedVariables false
set_option linter.unusedSimpArgs false
end Go.Proofs.Ytbjbnlngdkkidaa.PEv
