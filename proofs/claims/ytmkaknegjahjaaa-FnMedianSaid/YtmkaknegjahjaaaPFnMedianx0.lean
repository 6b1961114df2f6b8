-- laid by this session's program myprint.py over the kit's printer
import Derived.Test.YtmkaknegjahjaaaProg
import Derived.Below
import Derived.Deep.Draws
import Derived.Deep.AppendLies
import Derived.Maps.AppendAt
import Derived.OwnWalk
import Derived.Laws.BytesArg
import Derived.Laws.MakeOwn
import Derived.Laws.OwnMore
import Derived.Deep.OwnRows
import Derived.Tactics
import Derived.Lib.ConvBytes
import Derived.Laws.Slices
import Derived.WalkKit
import Derived.KernelRfl
import Derived.RowKit3
import Derived.Deep.LoopGhost
import Derived.Deep.QuietTactic
import Derived.BigQuiet
import Derived.WideLaws
import Derived.Deep.DeepCutAuto
import Derived.Deep.CutBlock
import Derived.Deep.RegionHeld3
import Derived.Laws.Rows
import Derived.Lib.AppendStr
import Derived.ArgAppend
import Derived.Laws.IdiomCopy
import Derived.OrdersHeld
import Derived.Laws.BitsLemmas
import Derived.RowKit
import Derived.Test.YtmkaknegjahjaaaAddsB
import Derived.Test.YtmkaknegjahjaaaMedian
import Derived.Test.YtmkaknegjahjaaaVWords
import Derived.Test.YtmkaknegjahjaaaVLast
import Derived.Test.YtmkaknegjahjaaaVTab
import Derived.Test.YtmkaknegjahjaaaVFour
import Derived.Test.YtmkaknegjahjaaaVQPut
import Derived.Test.YtmkaknegjahjaaaVApart
import Derived.Test.YtmkaknegjahjaaaVArr
import Derived.Test.YtmkaknegjahjaaaVZeros
import Derived.Test.YtmkaknegjahjaaaVFoot
import Derived.Test.YtmkaknegjahjaaaVKept
import Derived.Test.YtmkaknegjahjaaaVShare
import Derived.Test.YtmkaknegjahjaaaVN
import Derived.Test.YtmkaknegjahjaaaVFootNe
import Derived.Test.YtmkaknegjahjaaaVAt
import Derived.Test.YtmkaknegjahjaaaVEqStruct
import Derived.Test.YtmkaknegjahjaaaVRepsOne
import Derived.Test.YtmkaknegjahjaaaVInv
import Derived.Test.YtmkaknegjahjaaaVInvWords
import Derived.Test.YtmkaknegjahjaaaVGuard
import Derived.Test.YtmkaknegjahjaaaVNEv
import Derived.Test.YtmkaknegjahjaaaVMore
namespace Go.Proofs.Ytmkaknegjahjaaa.PFnMedian
open Go.RowKit Go.Proofs.YtmkaknegjahjaaaV.PrintWords Go.Proofs.YtmkaknegjahjaaaV.PrintLast Go.Proofs.YtmkaknegjahjaaaV.PrintMore
attribute [local go_sem] max2_int min2_int max_two min_two max_three min_three max_four min_four u8_wm u32_wm   -- for this text's walks alone
set_option linter.unusedVariables false
set_option linter.unusedSimpArgs false



theorem isEmpty_ne_ (l : List UInt8) : (!l.isEmpty) = (l != []) := by cases l <;> rfl
theorem isEmpty_eq_ (l : List UInt8) : l.isEmpty = (l == []) := by cases l <;> rfl
def errW : Option Int → Value
  | none => .nilIface
  | some c => .iface 0 (.int .i64 c)
theorem errW_none : errW none = .nilIface := rfl
theorem errW_some (c : Int) : errW (some c) = .iface 0 (.int .i64 c) := rfl

theorem info3 : (Try.prog.info? 3).map (fun i => (i.zero, i.size, i.bytes)) = some (some (.int .i64 0), 1, 8) := by kernel_rfl
-- the values' own types

end Go.Proofs.Ytmkaknegjahjaaa.PFnMedian
