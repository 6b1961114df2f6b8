/- One law more beside the print's own words: a constant's bytes, made and marked; no condition. -/
import Derived.Test.YtjkanhjapddhnaaDoorAdds
namespace Go.Proofs.YtjkanhjapddhnaaDoorV.PrintMore
open Go.RowKit Go.Proofs.YtjkanhjapddhnaaDoorV.PrintWords Go.Lib
set_option linter.unusedVariables false
def markedWorld (W : World) (cs : Array Value) (e : TypeId) : World := (W.alloc (.cells cs e)).freeze ⟨W.heap.size, cs.size, none⟩ 1
theorem run_convert_mark {P : Program} (W : World) (t e : TypeId) (cs : Array Value) (n c : Nat) (ht : P.underlying t = some (.slice e)) (he : P.underlying e = some (.int .u8)) :
    (convert t t (.slice (some ⟨W.heap.size, 0, none⟩) n c)).run P (W.alloc (.cells cs e)) = .ok (.slice (some ⟨W.heap.size, 0, none⟩) n c) (markedWorld W cs e) := by
  have hsh : (W.alloc (.cells cs e)).shape? W.heap.size = some (e, cs.size) := by
    simp [World.shape?, World.alloc, -World.alloc_eq]
  simp [convert, run_underlying ht, run_underlying he, markStringish, hsh, markedWorld, Result.andThen]
theorem marked_new (W : World) (cs : Array Value) (e : TypeId) : (markedWorld W cs e).heap[W.heap.size]? = some (.cells cs e (cs.size, cs.size + 1)) := by
  simp [markedWorld, World.freeze, World.alloc, -World.alloc_eq]
  rw [Array.getElem_modify_self]
  simp
theorem marked_old (W : World) (cs : Array Value) (e : TypeId) (j : Nat) (hj : j < W.heap.size) : (markedWorld W cs e).heap[j]? = W.heap[j]? := by
  have h1 : W.heap.size ≠ j := by omega
  simp [markedWorld, World.freeze, World.alloc, -World.alloc_eq, Array.getElem?_modify, Array.getElem?_push, h1, Ne.symm h1]
theorem marked_size (W : World) (cs : Array Value) (e : TypeId) : (markedWorld W cs e).heap.size = W.heap.size + 1 := by
  simp [markedWorld, World.freeze, World.alloc, -World.alloc_eq]
theorem marked_grown (W : World) (cs : Array Value) (e : TypeId) : W.grownBy (markedWorld W cs e) none :=
  ⟨rfl, rfl, rfl, by rw [marked_size]; omega, fun i hi _ => marked_old W cs e i hi⟩
section
variable {P : Program} {ops : Array Oper} {rest : List Oper} {o : Oper} {a : Act} {Q : Exit → Act → World → Prop}
/-- '[]byte("constant")': the bytes that were just laid, as a row of the call's own. -/
theorem R_litbytes {w0 W : World} (base e : Nat) (hgd : o.guard = none) {N : Tmp} (hd : o.dst = some N) (t : TypeId) (x : Operand) (ho : o.op = .convert t t x) (cs : Array Value) (xs : List Int) (hcs : cs.toList = encs (Value.int .u8) xs) (hx : a.eval x = .slice (some ⟨W.heap.size, 0, none⟩) xs.length xs.length)
    (ht : P.underlying t = some (.slice e)) (he : P.underlying e = some (.int .u8)) {ok : Nat → Prop} (hl : xs.length ≤ 65536)
    (hfresh : ok W.heap.size) (HB : Below base w0 W) (hbase : base ≤ W.heap.size)
    (h : ∀ v1 w1, (Kd.int .u8).R e w1 base ok v1 xs → Below base w0 w1 → W.grownBy w1 none → (∃ b, v1.ownBlock = some b ∧ W.heap.size ≤ b) → wpList P ops Q rest (a.put o.dst v1) w1) : wpList P ops Q (o :: rest) a (W.alloc (.cells cs e)) := by
  have hr := run_convert_mark (P := P) W t e cs xs.length xs.length ht he
  have hsz : cs.size = xs.length := by rw [← Array.length_toList, hcs, encs_length]
  refine wpList_plain hgd fun K hK => ?_
  unfold Oper.wp
  simp only [execOp, ho, hx, hr, Sem.run_bind, Sem.run_pure, Result.andThen_ok]
  refine hK _ _ (h _ _ (Kd.R_of_own ?_ (fun k hk => ?_)) (HB.grown (marked_grown W cs e) hbase (by simp)) (marked_grown W cs e) ⟨W.heap.size, rfl, Nat.le_refl _⟩)
  · refine ⟨by rw [encs_length, Nat.mul_one], .inr ⟨W.heap.size, xs.length, (cs, (cs.size, cs.size + 1)), rfl, hbase, marked_new W cs e, Nat.le_refl _, by simp only [maxLen]; omega, ⟨by rw [Nat.mul_one]; exact hsz, Free.behind _⟩, ?_⟩⟩
    rw [Nat.mul_one, ← hcs, ← hsz, ← Array.length_toList]
    exact List.take_length
  · have : W.heap.size = k := by simpa [Value.ownBlock] using hk
    subst this
    exact hfresh
end
/-- A value that is a row is stored as one cell. -/
theorem store_R_ {P : Program} {α : Type} {d : Kd α} {e base : Nat} {ok : Nat → Prop} {w : World} {v : Value} {xs : List α} (h : d.R e w base ok v xs) : ∀ (W : World) (a : Addr), (store a v).run P W = stored P W a v .plain := by
  obtain ⟨A, c, rfl⟩ := Kd.R_slice h
  exact fun W a => run_store P W a _ _ rfl
end Go.Proofs.YtjkanhjapddhnaaDoorV.PrintMore
