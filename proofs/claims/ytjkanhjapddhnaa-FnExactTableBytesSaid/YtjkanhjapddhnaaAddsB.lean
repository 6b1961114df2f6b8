/- One law more beside the print's own words: a constant's bytes, made and marked; no condition. -/
import Derived.Test.YtjkanhjapddhnaaAdds
namespace Go.Proofs.YtjkanhjapddhnaaV.PrintMore
open Go.RowKit Go.Proofs.YtjkanhjapddhnaaV.PrintWords Go.Lib
set_option linter.unusedVariables false
section
variable {P : Program} {ops : Array Oper} {rest : List Oper} {o : Oper} {a : Act} {Q : Exit → Act → World → Prop}
end
/-- A value that is a row is stored as one cell. -/
theorem store_R_ {P : Program} {α : Type} {d : Kd α} {e base : Nat} {ok : Nat → Prop} {w : World} {v : Value} {xs : List α} (h : d.R e w base ok v xs) : ∀ (W : World) (a : Addr), (store a v).run P W = stored P W a v .plain := by
  obtain ⟨A, c, rfl⟩ := Kd.R_slice h
  exact fun W a => run_store P W a _ _ rfl
end Go.Proofs.YtjkanhjapddhnaaV.PrintMore
