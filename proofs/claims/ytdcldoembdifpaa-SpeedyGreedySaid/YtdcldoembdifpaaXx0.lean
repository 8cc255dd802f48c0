-- printed by xprint.py, a program of this session's own over the kit's print
import Derived.Test.YtdcldoembdifpaaProg
import Derived.Below
import Derived.Deep.Draws
import Derived.Deep.AppendLies
import Derived.Maps.AppendAt
import Derived.OwnWalk
import Derived.Laws.BytesArg
import Derived.Laws.MakeOwn
import Derived.Laws.OwnMore
import Derived.Deep.OwnRows
import Derived.Tactics
import Derived.Lib.ConvBytes
import Derived.Laws.Slices
import Derived.WalkKit
import Derived.KernelRfl
import Derived.RowKit3
import Derived.Deep.LoopGhost
import Derived.Deep.QuietTactic
import Derived.BigQuiet
import Derived.WideLaws
import Derived.Deep.DeepCutAuto
import Derived.Deep.CutBlock
import Derived.Deep.RegionHeld3
import Derived.Laws.Rows
import Derived.Lib.AppendStr
import Derived.ArgAppend
import Derived.Laws.IdiomCopy
import Derived.OrdersHeld
import Derived.Laws.BitsLemmas
import Derived.RowKit
import Derived.Test.YtdcldoembdifpaaWWords
import Derived.Test.YtdcldoembdifpaaWLast
import Derived.Test.YtdcldoembdifpaaWTab
import Derived.Test.YtdcldoembdifpaaWFour
import Derived.Test.YtdcldoembdifpaaWQPut
import Derived.Test.YtdcldoembdifpaaWApart
import Derived.Test.YtdcldoembdifpaaWArr
import Derived.Test.YtdcldoembdifpaaWZeros
import Derived.Test.YtdcldoembdifpaaWFoot
import Derived.Test.YtdcldoembdifpaaWKept
import Derived.Test.YtdcldoembdifpaaWShare
import Derived.Test.YtdcldoembdifpaaWN
import Derived.Test.YtdcldoembdifpaaWFootNe
import Derived.Test.YtdcldoembdifpaaWAt
import Derived.Test.YtdcldoembdifpaaWEqStruct
import Derived.Test.YtdcldoembdifpaaWRepsOne
import Derived.Test.YtdcldoembdifpaaWInv
import Derived.Test.YtdcldoembdifpaaWInvWords
import Derived.Test.YtdcldoembdifpaaWGuard
import Derived.Test.YtdcldoembdifpaaWNEv
import Derived.Test.YtdcldoembdifpaaWMore
namespace Go.Proofs.Ytdcldoembdifpaa.X
open Go.RowKit Go.Proofs.YtdcldoembdifpaaW.PrintWords Go.Proofs.YtdcldoembdifpaaW.PrintLast Go.Proofs.YtdcldoembdifpaaW.PrintMore
attribute [local go_sem] max2_int min2_int max_two min_two max_three min_three max_four min_four   -- for this text's walks alone
set_option linter.unusedVariables false
set_option linter.unusedSimpArgs false



def errW : Option Int → Value
  | none => .nilIface
  | some c => .iface 0 (.int .i64 c)
theorem errW_none : errW none = .nilIface := rfl
theorem errW_some (c : Int) : errW (some c) = .iface 0 (.int .i64 c) := rfl

theorem info3 : (Try.prog.info? 3).map (fun i => (i.zero, i.size, i.bytes)) = some (some (.int .i64 0), 1, 8) := by kernel_rfl
-- the values' own types

end Go.Proofs.Ytdcldoembdifpaa.X
