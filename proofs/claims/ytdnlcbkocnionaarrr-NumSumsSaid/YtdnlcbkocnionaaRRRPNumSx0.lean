-- PRINTED by print.py (a twelfth state) out of the translation. Not trusted: Lean checks it.
import Derived.Test.YtdnlcbkocnionaaRRRProg
import Derived.Below
import Derived.Deep.Draws
import Derived.Deep.AppendLies
import Derived.Maps.AppendAt
import Derived.OwnWalk
import Derived.Laws.BytesArg
import Derived.Laws.MakeOwn
import Derived.Laws.OwnMore
import Derived.Deep.OwnRows
import Derived.Tactics
import Derived.Lib.ConvBytes
import Derived.Laws.Slices
import Derived.WalkKit
import Derived.KernelRfl
import Derived.RowKit3
import Derived.Deep.LoopGhost
import Derived.Deep.QuietTactic
import Derived.BigQuiet
import Derived.WideLaws
import Derived.Deep.DeepCutAuto
import Derived.Deep.CutBlock
import Derived.Deep.RegionHeld3
import Derived.Laws.Rows
import Derived.Lib.AppendStr
import Derived.ArgAppend
import Derived.Laws.IdiomCopy
import Derived.OrdersHeld
import Derived.Laws.BitsLemmas
import Derived.RowKit
import Derived.Lib.Hide
import Derived.Laws.NewBlocks
import Derived.Laws.Externs
import Derived.Test.YtdnlcbkocnionaaRRRWWords
import Derived.Test.YtdnlcbkocnionaaRRRWLast
import Derived.Test.YtdnlcbkocnionaaRRRWTab
import Derived.Test.YtdnlcbkocnionaaRRRWFour
import Derived.Test.YtdnlcbkocnionaaRRRWQPut
import Derived.Test.YtdnlcbkocnionaaRRRWApart
import Derived.Test.YtdnlcbkocnionaaRRRWArr
import Derived.Test.YtdnlcbkocnionaaRRRWZeros
import Derived.Test.YtdnlcbkocnionaaRRRWFoot
import Derived.Test.YtdnlcbkocnionaaRRRWKept
import Derived.Test.YtdnlcbkocnionaaRRRWShare
import Derived.Test.YtdnlcbkocnionaaRRRWN
import Derived.Test.YtdnlcbkocnionaaRRRWFootNe
import Derived.Test.YtdnlcbkocnionaaRRRWAt
import Derived.Test.YtdnlcbkocnionaaRRRWEqStruct
import Derived.Test.YtdnlcbkocnionaaRRRWRepsOne
import Derived.Test.YtdnlcbkocnionaaRRRWInv
import Derived.Test.YtdnlcbkocnionaaRRRWInvWords
import Derived.Test.YtdnlcbkocnionaaRRRWGuard
import Derived.Test.YtdnlcbkocnionaaRRRWNEv
import Derived.Test.YtdnlcbkocnionaaRRRWMore
namespace Go.Proofs.YtdnlcbkocnionaaRRR.PNumS
open Go.RowKit Go.Proofs.YtdnlcbkocnionaaRRRW.PrintWords Go.Proofs.YtdnlcbkocnionaaRRRW.PrintLast Go.Proofs.YtdnlcbkocnionaaRRRW.PrintMore
attribute [local go_sem] max2_int min2_int max_two min_two max_three min_three max_four min_four   -- for this text's walks alone
set_option linter.unusedVariables false
set_option linter.unusedSimpArgs false



def errW : Option Int → Value
  | none => .nilIface
  | some c => .iface 0 (.int .i64 c)
theorem errW_none : errW none = .nilIface := rfl
theorem errW_some (c : Int) : errW (some c) = .iface 0 (.int .i64 c) := rfl

theorem info3 : (Try.prog.info? 3).map (fun i => (i.zero, i.size, i.bytes)) = some (some (.int .i64 0), 1, 8) := by kernel_rfl
-- the values' own types

end Go.Proofs.YtdnlcbkocnionaaRRR.PNumS
