/- The table of the round words: what the row's list gives the walks, and a heap that meets it; no condition. -/
import Derived.Test.YtjkanhjapddhnaaDoorRows
import Derived.Test.YtjkanhjapddhnaaDoorShaI
import Derived.Lib.LaidTab
import Derived.LaidMore
import Derived.ProofKit
import Derived.OpenShut
import Derived.Stop.Joined
namespace Go.Proofs.YtjkanhjapddhnaaDoor.Glob
open Go.ChangeShapes Go.WideShapes Go.ChangeAt Go.RowKit Go.Proofs.YtjkanhjapddhnaaDoor.Sha
def L : List (String × DataW Unit) := [("loop.example/g00292/impl.roundWords", Rows.laid_loop_example_g00292_impl_roundWords)]
theorem gW : Tryd.prog.globalNamed "loop.example/g00292/impl.roundWords" = some 0 := by kernel_rfl
theorem tW : (Tryd.prog.globals[0]?).map (·.type) = some 88 := by kernel_rfl
theorem glob_of {W : World} (h : laidMetH Tryd.prog L W) : GlobA W := by
  rw [MakeChecks.laidMetH_plain _ _ _ (by kernel_rfl)] at h
  have h2 : laidMet Tryd.prog [("loop.example/g00292/impl.roundWords", Lib.tabData .u32 roundK)] W := h
  have ht := Lib.tabIs_of_head (P := Tryd.prog) gW tW Tryd.underlying88 Tryd.underlying64 (by kernel_rfl) (by kernel_rfl) h2
  exact fun i hi => ht.cell gW i hi
theorem door_met (os : Os) (args : Array Value) : laidMetH Tryd.prog L ((World.doorLaid Tryd.prog 14 os).forCall (fun _ _ => 0) ⟨#[], args, []⟩).memory :=
  laidMetH_of_parts3 (fuel := 8) (laidMet_of_run' 8 (by kernel_rfl) (by kernel_rfl)) (by kernel_rfl) (by kernel_rfl)
end Go.Proofs.YtjkanhjapddhnaaDoor.Glob
