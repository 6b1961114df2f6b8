-- laid by this session's program myprint.py over the kit's printer
import Derived.Test.YtjkanhjapddhnaaDoorProg
import Derived.Below
import Derived.Deep.Draws
import Derived.Deep.AppendLies
import Derived.Maps.AppendAt
import Derived.OwnWalk
import Derived.Laws.BytesArg
import Derived.Laws.MakeOwn
import Derived.Laws.OwnMore
import Derived.Deep.OwnRows
import Derived.Tactics
import Derived.Lib.ConvBytes
import Derived.Laws.Slices
import Derived.WalkKit
import Derived.KernelRfl
import Derived.RowKit3
import Derived.Deep.LoopGhost
import Derived.Deep.QuietTactic
import Derived.BigQuiet
import Derived.WideLaws
import Derived.Deep.DeepCutAuto
import Derived.Deep.CutBlock
import Derived.Deep.RegionHeld3
import Derived.Laws.Rows
import Derived.Lib.AppendStr
import Derived.ArgAppend
import Derived.Laws.IdiomCopy
import Derived.OrdersHeld
import Derived.Laws.BitsLemmas
import Derived.RowKit
import Derived.Test.YtjkanhjapddhnaaDoorAddsB
import Derived.Test.YtjkanhjapddhnaaDoorVWords
import Derived.Test.YtjkanhjapddhnaaDoorVLast
import Derived.Test.YtjkanhjapddhnaaDoorVTab
import Derived.Test.YtjkanhjapddhnaaDoorVQPut
import Derived.Test.YtjkanhjapddhnaaDoorVApart
import Derived.Test.YtjkanhjapddhnaaDoorVFoot
import Derived.Test.YtjkanhjapddhnaaDoorVKept
import Derived.Test.YtjkanhjapddhnaaDoorVShare
import Derived.Test.YtjkanhjapddhnaaDoorVN
import Derived.Laws.StructEq
import Derived.Test.YtjkanhjapddhnaaDoorVRepsOne
import Derived.Test.YtjkanhjapddhnaaDoorVInv
import Derived.Test.YtjkanhjapddhnaaDoorVMore
namespace Go.Proofs.YtjkanhjapddhnaaDoor.PNum
open Go.RowKit Go.Proofs.YtjkanhjapddhnaaDoorV.PrintWords Go.Proofs.YtjkanhjapddhnaaDoorV.PrintLast Go.Proofs.YtjkanhjapddhnaaDoorV.PrintMore
attribute [local go_sem] max2_int min2_int max_two min_two max_three min_three max_four min_four u8_wm u32_wm   -- for this text's walks alone
set_option linter.unusedVariables false
set_option linter.unusedSimpArgs false



theorem isEmpty_ne_ (l : List UInt8) : (!l.isEmpty) = (l != []) := by cases l <;> rfl
theorem isEmpty_eq_ (l : List UInt8) : l.isEmpty = (l == []) := by cases l <;> rfl
def errW : Option Int → Value
  | none => .nilIface
  | some c => .iface 0 (.int .i64 c)
theorem errW_none : errW none = .nilIface := rfl
theorem errW_some (c : Int) : errW (some c) = .iface 0 (.int .i64 c) := rfl

theorem info5 : (Tryd.prog.info? 5).map (fun i => (i.zero, i.size, i.bytes)) = some (some (.int .u8 0), 1, 1) := by kernel_rfl
-- the values' own types

end Go.Proofs.YtjkanhjapddhnaaDoor.PNum
