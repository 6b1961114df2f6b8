/- Two laws beside the print's own words: a string's bytes appended to a row of bytes of the call's own (in order, and as a step of a region that draws), and a make of length nought with a capacity; no condition. -/
import Derived.Test.YtjkanhjapddhnaaVMore
import Derived.Lib.AppendStr
import Derived.Laws.MakeOwn
import Derived.Lib.ConvBytes
import Derived.Lib.FrozenHead
namespace Go.Proofs.YtjkanhjapddhnaaV.PrintMore
open Go.RowKit Go.Proofs.YtjkanhjapddhnaaV.PrintWords Go.Lib
set_option linter.unusedVariables false

/-- Wraps of unsigned kinds, as the print spells them. -/
theorem u8_wm (n : Int) : IntKind.u8.wrap n = n % 256 := by
  simp only [IntKind.wrap, IntKind.bits, IntKind.signed]
  simp
theorem u32_wm (n : Int) : IntKind.u32.wrap n = n % 4294967296 := by
  simp only [IntKind.wrap, IntKind.bits, IntKind.signed]
  simp
theorem nums_str (xs : List Int) (y : ByteArray) : encs (Value.int .u8) (xs ++ bytesOf y) = encs (Value.int .u8) xs ++ strCells y := by
  simp [encs, bytesOf, strCells]
theorem run_str_at {P : Program} {W : World} {base : Nat} {t u e ty : TypeId} {i : TypeInfo} (ht : P.underlying t = some (.slice e)) (hu : P.underlying u = some .string) (hi : P.info? e = some i) (hz0 : i.zero = some (.int .u8 0)) (hz1 : i.size = 1) (hz2 : i.bytes = 1)
    {v : Value} {n : Nat} {cs : List Value} {y : ByteArray} (hown : ownsRowM W base e 1 v n cs) (hbase : base ≤ W.heap.size) (hl : n + y.size ≤ 140737488355328) :
    ∃ v1 w1, (Builtin.append_ #[t, u] ty #[v, .string y]).run P W = .ok v1 w1 ∧ ownsRowM w1 base e 1 v1 (n + y.size) (cs ++ strCells y) ∧ W.grownBy w1 v.ownBlock ∧ (v1.ownBlock = v.ownBlock ∨ ∃ b, v1.ownBlock = some b ∧ W.heap.size ≤ b) := by
  obtain ⟨v1, w1, hrun, h2, hg, _, hat⟩ := run_append_ownM_string (P := P) W base t u ty e i ht hu hi hz0 hz1 hz2 v n cs hown y (by simp only [maxLen]; omega) hl hbase
  exact ⟨v1, w1, hrun, h2, hg, hat⟩
section
variable {P : Program} {ops : Array Oper} {rest : List Oper} {o : Oper} {a : Act} {Q : Exit → Act → World → Prop}
end
section
variable {P : Program} {ops : Array Oper} {o : Oper} {a : Act} {Q : Exit → Act → World → Prop} {Kc : Act → World → Prop}
theorem R_append_str_step {w0 W : World} (base : Nat) (hw : Region.wanted o (yielded ops a.tmps) = true) (s x : Operand) (t u e : TypeId)
    (ho : o.op = .call { callee := .builtin .append, args := #[s, x], argTypes := #[t, u] })
    (ht : P.underlying t = some (.slice e)) (hu : P.underlying u = some .string) (hinfo : (P.info? e).map (fun i => (i.zero, i.size, i.bytes)) = some (some (.int .u8 0), 1, 1))
    (v : Value) (xs : List Int) (y : ByteArray) (ok : Nat → Prop) (hs : a.eval s = v) (hx : a.eval x = .string y)
    (HO : (Kd.int .u8).R e W base ok v xs) (hfresh : ∀ k, W.heap.size ≤ k → ok k) (HB : Below base w0 W) (hbase : base ≤ W.heap.size) (hl : xs.length + y.size ≤ 140737488355328)
    (h : ∀ v1 w1, (Kd.int .u8).R e w1 base ok v1 (xs ++ bytesOf y) → Below base w0 w1 → W.grownBy w1 v.ownBlock → (v1.ownBlock = v.ownBlock ∨ ∃ b, v1.ownBlock = some b ∧ W.heap.size ≤ b) → Kc (a.put o.dst v1) w1) :
    if Region.wanted o (yielded ops a.tmps) = true then Oper.wp P o a W Kc Q else Kc (a.put o.dst undef) W := by
  obtain ⟨i0, hi, hzz⟩ := Option.map_eq_some_iff.1 hinfo
  simp only [Prod.mk.injEq] at hzz
  obtain ⟨hz0, hz1, hz2⟩ := hzz
  have hown := Kd.own_of_R HO
  obtain ⟨v1, w1, hrun, h2, hg, hat⟩ := run_str_at (ty := o.type) ht hu hi hz0 hz1 hz2 hown hbase hl
  rw [if_pos hw]
  unfold Oper.wp execOp
  simp only [ho, resolve, invoke, builtin, Sem.run_bind, Sem.run_pure, Result.andThen_ok, List.map_toArray, List.map_cons, List.map_nil, hs, hx, hrun]
  have hl2 : (xs ++ bytesOf y).length = xs.length + y.size := by rw [List.length_append, bytesOf_length]
  refine h v1 w1 (Kd.R_of_own (by rw [hl2, nums_str]; exact h2) (fun k hk => ?_)) (HB.grown hg hbase (own_base hown)) hg hat
  rcases hat with hat | ⟨b, hb, hle⟩
  · exact HO.1 k (hat ▸ hk)
  · rw [hb] at hk
    injection hk with hk
    exact hfresh k (by omega)
end
section
variable {P : Program} {ops : Array Oper} {rest : List Oper} {o : Oper} {a : Act} {Q : Exit → Act → World → Prop} {α : Type}
end
theorem R_conv {W : World} (base e : Nat) (s : ByteArray) (ok : Nat → Prop) (hfresh : ok W.heap.size) (hl : s.size ≤ 9223372036854775807) (hbase : base ≤ W.heap.size) :
    (Kd.int .u8).R e (bytesWorld W e s) base ok (.slice (some ⟨W.heap.size, 0, none⟩) s.size (grownCap W s.size 0 e)) (bytesOf s) := by
  refine Kd.R_of_own ?_ (fun k hk => ?_)
  · have h1 : encs (Value.int .u8) (bytesOf s) = strCells s := by simp [encs, bytesOf, strCells]
    rw [bytesOf_length, h1]
    exact ownsRowM_conv W base e s hbase (by simpa [maxLen] using hl)
  · have : W.heap.size = k := by simpa [Value.ownBlock] using hk
    subst this
    exact hfresh
theorem grown_conv (W : World) (e : Nat) (s : ByteArray) : W.grownBy (bytesWorld W e s) none :=
  ⟨rfl, rfl, rfl, by rw [bytesWorld_size]; omega, fun i hi _ => bytesWorld_at_old W e s i hi⟩
section
variable {P : Program} {ops : Array Oper} {rest : List Oper} {o : Oper} {a : Act} {Q : Exit → Act → World → Prop}
/-- '[]byte(s)': the bytes as a row of the call's own. -/
theorem R_bytes {w0 W : World} (base e : Nat) (hgd : o.guard = none) {N : Tmp} (hd : o.dst = some N) (src dst : TypeId) (x : Operand) (ho : o.op = .convert src dst x) (s : ByteArray) (hx : a.eval x = .string s)
    (hs : P.underlying src = some .string) (ht : P.underlying dst = some (.slice e)) (he : P.underlying e = some (.int .u8)) {ok : Nat → Prop}
    (hfresh : ok W.heap.size) (hl : s.size ≤ 9223372036854775807) (HB : Below base w0 W) (hbase : base ≤ W.heap.size)
    (h : ∀ v1 w1, (Kd.int .u8).R e w1 base ok v1 (bytesOf s) → Below base w0 w1 → W.grownBy w1 none → (∃ b, v1.ownBlock = some b ∧ W.heap.size ≤ b) → wpList P ops Q rest (a.put o.dst v1) w1) : wpList P ops Q (o :: rest) a W := by
  have hr := print_bytes (P := P) src dst e hs ht he s W
  refine wpList_plain hgd fun K hK => ?_
  unfold Oper.wp
  simp [execOp, ho, hx, hr, Result.andThen]
  exact hK _ _ (h _ _ (R_conv base e s ok hfresh hl hbase) (HB.grown (grown_conv W e s) hbase (by simp)) (grown_conv W e s) ⟨W.heap.size, rfl, Nat.le_refl _⟩)
end
section
variable {P : Program} {ops : Array Oper} {o : Oper} {a : Act} {Q : Exit → Act → World → Prop} {Kc : Act → World → Prop}
end
end Go.Proofs.YtjkanhjapddhnaaV.PrintMore
