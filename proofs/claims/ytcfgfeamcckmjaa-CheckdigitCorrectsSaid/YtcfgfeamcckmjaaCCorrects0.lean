-- Written by a program of ours around the kit's print, functions of ours put in.
import Derived.Test.YtcfgfeamcckmjaaProg
import Derived.Below
import Derived.Deep.Draws
import Derived.Deep.AppendLies
import Derived.Maps.AppendAt
import Derived.OwnWalk
import Derived.Laws.BytesArg
import Derived.Laws.MakeOwn
import Derived.Laws.OwnMore
import Derived.Deep.OwnRows
import Derived.Tactics
import Derived.Lib.ConvBytes
import Derived.Laws.Slices
import Derived.WalkKit
import Derived.KernelRfl
import Derived.RowKit3
import Derived.Deep.LoopGhost
import Derived.Deep.QuietTactic
import Derived.BigQuiet
import Derived.WideLaws
import Derived.Deep.DeepCutAuto
import Derived.Deep.CutBlock
import Derived.Deep.RegionHeld3
import Derived.Laws.Rows
import Derived.Lib.AppendStr
import Derived.ArgAppend
import Derived.Laws.IdiomCopy
import Derived.OrdersHeld
import Derived.Laws.BitsLemmas
import Derived.RowKit
import Derived.Test.YtcfgfeamcckmjaaChkZ
import Derived.Test.YtcfgfeamcckmjaaWWords
import Derived.Test.YtcfgfeamcckmjaaWLast
import Derived.Test.YtcfgfeamcckmjaaWTab
import Derived.Test.YtcfgfeamcckmjaaWFour
import Derived.Test.YtcfgfeamcckmjaaWQPut
import Derived.Test.YtcfgfeamcckmjaaWApart
import Derived.Test.YtcfgfeamcckmjaaWArr
import Derived.Test.YtcfgfeamcckmjaaWZeros
import Derived.Test.YtcfgfeamcckmjaaWFoot
import Derived.Test.YtcfgfeamcckmjaaWKept
import Derived.Test.YtcfgfeamcckmjaaWShare
import Derived.Test.YtcfgfeamcckmjaaWN
import Derived.Test.YtcfgfeamcckmjaaWFootNe
import Derived.Test.YtcfgfeamcckmjaaWAt
import Derived.Test.YtcfgfeamcckmjaaWEqStruct
import Derived.Test.YtcfgfeamcckmjaaWRepsOne
import Derived.Test.YtcfgfeamcckmjaaWInv
import Derived.Test.YtcfgfeamcckmjaaWInvWords
import Derived.Test.YtcfgfeamcckmjaaWGuard
import Derived.Test.YtcfgfeamcckmjaaWNEv
import Derived.Test.YtcfgfeamcckmjaaWMore
namespace Go.Proofs.Ytcfgfeamcckmjaa.CCorrects
open Go.RowKit Go.Proofs.YtcfgfeamcckmjaaW.PrintWords Go.Proofs.YtcfgfeamcckmjaaW.PrintLast Go.Proofs.YtcfgfeamcckmjaaW.PrintMore
attribute [local go_sem] max2_int min2_int max_two min_two max_three min_three max_four min_four   -- for this text's walks alone
open Go.Proofs.Ytcfgfeamcckmjaa.Chk
set_option linter.unusedVariables false
set_option linter.unusedSimpArgs false



def errW : Option Int → Value
  | none => .nilIface
  | some c => .iface 0 (.int .i64 c)
theorem errW_none : errW none = .nilIface := rfl
theorem errW_some (c : Int) : errW (some c) = .iface 0 (.int .i64 c) := rfl

theorem info3 : (Try.prog.info? 3).map (fun i => (i.zero, i.size, i.bytes)) = some (some (.int .i64 0), 1, 8) := by kernel_rfl
-- the values' own types

end Go.Proofs.Ytcfgfeamcckmjaa.CCorrects
