-- PRINTED by print.py (a twelfth state) out of the translation. Not trusted: Lean checks it.
import Derived.Test.YtdnlcbkocnionaaRRRPNumx0
import Derived.Test.YtdnlcbkocnionaaRRRPNumx1
import Derived.Test.YtdnlcbkocnionaaRRRPNumx2
import Derived.Test.YtdnlcbkocnionaaRRRPNumx3
import Derived.Test.YtdnlcbkocnionaaRRRPNumx4
import Derived.Test.YtdnlcbkocnionaaRRRPNumx5
namespace Go.Proofs.YtdnlcbkocnionaaRRR.PNum
open Go.RowKit Go.Proofs.YtdnlcbkocnionaaRRRW.PrintWords Go.Proofs.YtdnlcbkocnionaaRRRW.PrintLast Go.Proofs.YtdnlcbkocnionaaRRRW.PrintMore
attribute [local go_sem] max2_int min2_int max_two min_two max_three min_three max_four min_four   -- for this text's walks alone
set_option linter.unusedVariables false
set_option linter.unusedSimpArgs false

end Go.Proofs.YtdnlcbkocnionaaRRR.PNum
