-- laid by this session's program myprint.py over the kit's printer
import Derived.Test.YtngeekijgphnjaaProg
import Derived.Below
import Derived.Deep.Draws
import Derived.Deep.AppendLies
import Derived.Maps.AppendAt
import Derived.OwnWalk
import Derived.Laws.BytesArg
import Derived.Laws.MakeOwn
import Derived.Laws.OwnMore
import Derived.Deep.OwnRows
import Derived.Tactics
import Derived.Lib.ConvBytes
import Derived.Laws.Slices
import Derived.WalkKit
import Derived.KernelRfl
import Derived.RowKit3
import Derived.Deep.LoopGhost
import Derived.Deep.QuietTactic
import Derived.BigQuiet
import Derived.WideLaws
import Derived.Deep.DeepCutAuto
import Derived.Deep.CutBlock
import Derived.Deep.RegionHeld3
import Derived.Laws.Rows
import Derived.Lib.AppendStr
import Derived.ArgAppend
import Derived.Laws.IdiomCopy
import Derived.OrdersHeld
import Derived.Laws.BitsLemmas
import Derived.RowKit
import Derived.Test.YtngeekijgphnjaaWWords
import Derived.Test.YtngeekijgphnjaaWLast
import Derived.Test.YtngeekijgphnjaaWTab
import Derived.Test.YtngeekijgphnjaaWFour
import Derived.Test.YtngeekijgphnjaaWQPut
import Derived.Test.YtngeekijgphnjaaWApart
import Derived.Test.YtngeekijgphnjaaWArr
import Derived.Test.YtngeekijgphnjaaWZeros
import Derived.Test.YtngeekijgphnjaaWFoot
import Derived.Test.YtngeekijgphnjaaWKept
import Derived.Test.YtngeekijgphnjaaWShare
import Derived.Test.YtngeekijgphnjaaWN
import Derived.Test.YtngeekijgphnjaaWFootNe
import Derived.Test.YtngeekijgphnjaaWAt
import Derived.Test.YtngeekijgphnjaaWEqStruct
import Derived.Test.YtngeekijgphnjaaWRepsOne
import Derived.Test.YtngeekijgphnjaaWInv
import Derived.Test.YtngeekijgphnjaaWInvWords
import Derived.Test.YtngeekijgphnjaaWGuard
import Derived.Test.YtngeekijgphnjaaWNEv
import Derived.Test.YtngeekijgphnjaaWMore
namespace Go.Proofs.Ytngeekijgphnjaa.PFnExactMessageOK
open Go.RowKit Go.Proofs.YtngeekijgphnjaaW.PrintWords Go.Proofs.YtngeekijgphnjaaW.PrintLast Go.Proofs.YtngeekijgphnjaaW.PrintMore
attribute [local go_sem] max2_int min2_int max_two min_two max_three min_three max_four min_four   -- for this text's walks alone
set_option linter.unusedVariables false
set_option linter.unusedSimpArgs false



theorem isEmpty_ne_ (l : List UInt8) : (!l.isEmpty) = (l != []) := by cases l <;> rfl
theorem isEmpty_eq_ (l : List UInt8) : l.isEmpty = (l == []) := by cases l <;> rfl
def errW : Option Int → Value
  | none => .nilIface
  | some c => .iface 0 (.int .i64 c)
theorem errW_none : errW none = .nilIface := rfl
theorem errW_some (c : Int) : errW (some c) = .iface 0 (.int .i64 c) := rfl

-- the values' own types

end Go.Proofs.Ytngeekijgphnjaa.PFnExactMessageOK
