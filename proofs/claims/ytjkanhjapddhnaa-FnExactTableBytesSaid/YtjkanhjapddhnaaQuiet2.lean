/- A region that draws its order, whose operations read old memory and whose calls make new memory alone, walked once: the class of worlds is 'as W below W's heap'. No condition. -/
import Derived.BigQuiet
import Derived.Below
import Derived.KernelRfl
namespace Go.Proofs.Ytjkanhjapddhnaa.Quiet2
open Go.RowKit
set_option linter.unusedVariables false
/-- A world that is as W was, below W's heap. -/
structure Blw (W : World) where
  w : World
  h : Below W.heap.size W w
instance {W : World} : Nonempty (Blw W) := ⟨⟨W, Below.refl _ W⟩⟩
theorem Blw.cell {W : World} {a : Addr} {v : Value} (h : W.cell? a = some v) : ∀ x : Blw W, x.w.cell? a = some v := fun x => (x.h.cell (World.block_lt_of_cell? W a h)).trans h
theorem Blw.trans {W : World} (x : Blw W) {w1 : World} (h : Below x.w.heap.size x.w w1) : Below W.heap.size W w1 :=
  x.h.trans ⟨h.os, h.tape, h.output, h.size, fun k hk => h.block k (Nat.lt_of_lt_of_le hk x.h.size)⟩
theorem Calls.blw {P : Program} {f : FuncId} {args : Array Value} {W : World} {x : Blw W} {v : Value}
    (h : Calls P f args x.w fun e w' => e = .returned v ∧ Below x.w.heap.size x.w w') : Calls P f args x.w fun e w'' => e = .returned v ∧ ∃ y : Blw W, w'' = y.w :=
  h.mono fun _ w' ⟨he, hm⟩ => ⟨he, ⟨w', x.trans hm⟩, rfl⟩
theorem Calls.blw_same {P : Program} {f : FuncId} {args : Array Value} {W : World} {x : Blw W} {v : Value}
    (h : Calls P f args x.w fun e w' => e = .returned v ∧ x.w = w') : Calls P f args x.w fun e w'' => e = .returned v ∧ ∃ y : Blw W, w'' = y.w :=
  h.mono fun _ w' ⟨he, hm⟩ => ⟨he, x, hm.symm⟩
theorem wp_region_blw {P : Program} {id : Nat} {Q : Exit → Act → World → Prop} {a : Act} {w : World} {l : List Oper} (hm : P.follows .mixedOrders = true) (hB : Region.lexB .any l.toArray = true)
    (h : wpQuiet P l.toArray (fun w' => ∃ x : Blw w, w' = x.w) (fun a' => ∀ w', (∃ x : Blw w, w' = x.w) → Q .normal a' w') l a) : (Code.region id l.toArray true).wp P Q a w :=
  wp_region_quiet (C := fun w' => ∃ x : Blw w, w' = x.w) hm hB ⟨⟨_, (Below.refl _ w).drew⟩, rfl⟩ (by simpa using h)
end Go.Proofs.Ytjkanhjapddhnaa.Quiet2
