-- PRINTED BY print.sh 35421559b90ae4d0a3588c463048766b98c2df88dd9212a6774a882060cdf62d: not written by this session
import Derived.Test.YtlodhcmbonljgaaProg
import Derived.Below
import Derived.Deep.Draws
import Derived.Deep.AppendLies
import Derived.Maps.AppendAt
import Derived.OwnWalk
import Derived.Laws.BytesArg
import Derived.Laws.MakeOwn
import Derived.Laws.OwnMore
import Derived.Deep.OwnRows
import Derived.Tactics
import Derived.Lib.ConvBytes
import Derived.Laws.Slices
import Derived.WalkKit
import Derived.KernelRfl
import Derived.RowKit3
import Derived.Deep.LoopGhost
import Derived.Deep.QuietTactic
import Derived.BigQuiet
import Derived.WideLaws
import Derived.Deep.DeepCutAuto
import Derived.Deep.CutBlock
import Derived.Deep.RegionHeld3
import Derived.Laws.Rows
import Derived.Lib.AppendStr
import Derived.ArgAppend
import Derived.Laws.IdiomCopy
import Derived.OrdersHeld
import Derived.Laws.BitsLemmas
import Derived.RowKit
import Derived.Test.YtlodhcmbonljgaaWWords
import Derived.Test.YtlodhcmbonljgaaWLast
import Derived.Test.YtlodhcmbonljgaaWTab
import Derived.Test.YtlodhcmbonljgaaWFour
import Derived.Test.YtlodhcmbonljgaaWQPut
import Derived.Test.YtlodhcmbonljgaaWApart
import Derived.Test.YtlodhcmbonljgaaWArr
import Derived.Test.YtlodhcmbonljgaaWZeros
import Derived.Test.YtlodhcmbonljgaaWFoot
import Derived.Test.YtlodhcmbonljgaaWKept
import Derived.Test.YtlodhcmbonljgaaWShare
import Derived.Test.YtlodhcmbonljgaaWN
import Derived.Test.YtlodhcmbonljgaaWFootNe
import Derived.Test.YtlodhcmbonljgaaWAt
import Derived.Test.YtlodhcmbonljgaaWEqStruct
import Derived.Test.YtlodhcmbonljgaaWRepsOne
import Derived.Test.YtlodhcmbonljgaaWInv
import Derived.Test.YtlodhcmbonljgaaWInvWords
import Derived.Test.YtlodhcmbonljgaaWGuard
import Derived.Test.YtlodhcmbonljgaaWNEv
import Derived.Test.YtlodhcmbonljgaaWMore
namespace Go.Proofs.Ytlodhcmbonljgaa.PFnRotated
open Go.RowKit Go.Proofs.YtlodhcmbonljgaaW.PrintWords Go.Proofs.YtlodhcmbonljgaaW.PrintLast Go.Proofs.YtlodhcmbonljgaaW.PrintMore
attribute [local go_sem] max2_int min2_int max_two min_two max_three min_three max_four min_four   -- for this text's walks alone
set_option linter.unusedVariables false
set_option linter.unusedSimpArgs false



def errW : Option Int → Value
  | none => .nilIface
  | some c => .iface 0 (.int .i64 c)
theorem errW_none : errW none = .nilIface := rfl
theorem errW_some (c : Int) : errW (some c) = .iface 0 (.int .i64 c) := rfl

theorem info2 : (Try.prog.info? 2).map (fun i => (i.zero, i.size, i.bytes)) = some (some (.int .i64 0), 1, 8) := by kernel_rfl
-- the values' own types

end Go.Proofs.Ytlodhcmbonljgaa.PFnRotated
