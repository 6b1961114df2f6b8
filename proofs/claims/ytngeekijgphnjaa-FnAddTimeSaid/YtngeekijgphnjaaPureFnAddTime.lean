/- The statement FnAddTime: what the given program's printed functions answer, as the law asks; no condition. -/
import Derived.Test.YtngeekijgphnjaaPFnAddTimex1
set_option linter.unusedVariables false
set_option linter.unusedSimpArgs false
namespace Go.Proofs.Ytngeekijgphnjaa.Pure
open Go.RowKit Go.Proofs.Ytngeekijgphnjaa.PFnAddTime Go.Proofs.YtngeekijgphnjaaW.PrintWords Go.Proofs.YtngeekijgphnjaaW.PrintLast Go.Proofs.YtngeekijgphnjaaW.PrintMore
/-! snippet base -/
theorem wrap_id {x : Int} (h1 : -9223372036854775808 ≤ x) (h2 : x ≤ 9223372036854775807) : wrap64 x = x := by
  unfold wrap64
  omega
theorem nat_pos_succ {k d : Nat} (h : d < k) : ∃ m, k = m + 1 := ⟨k - 1, by omega⟩
theorem u8_of_wf {l : List Int} (h : ∀ x ∈ l, (Lit.int .u8 x).wf = true) (i : Int) : 0 ≤ rd l i ∧ rd l i ≤ 255 := by
  unfold rd
  rw [List.getD_eq_getElem?_getD]
  by_cases hi : i.toNat < l.length
  · rw [List.getElem?_eq_getElem hi, Option.getD_some]
    have := h _ (List.getElem_mem hi)
    simp only [Lit.wf, Bool.and_eq_true, decide_eq_true_eq] at this
    have e1 : IntKind.u8.min = 0 := rfl
    have e2 : IntKind.u8.max = 255 := rfl
    omega
  · rw [List.getElem?_eq_none (by omega)]
    simp
theorem i64_of_wf {x : Int} (h : (Lit.int .i64 x).wf = true) : -9223372036854775808 ≤ x ∧ x ≤ 9223372036854775807 := by
  simp only [Lit.wf, Bool.and_eq_true, decide_eq_true_eq] at h
  have e1 : IntKind.i64.min = -9223372036854775808 := rfl
  have e2 : IntKind.i64.max = 9223372036854775807 := rfl
  omega

/-! snippet at -/
theorem at_tells (l : List Int) (hl : l.length ≤ 1048576) (hw : ∀ x ∈ l, (Lit.int .u8 x).wf = true) (i n : Int) (hi : 0 ≤ i) (hi2 : i ≤ 1000) (hn : 1 < n) : ∃ r, laws_at.f l i n = some r ∧ 0 ≤ r ∧ r < n := by
  unfold laws_at.f
  rw [if_neg (by omega)]
  by_cases h0 : (l.length : Int) = 0
  · rw [if_pos h0, if_neg (by omega)]
    refine ⟨_, rfl, ?_⟩
    rw [wrap_id (by omega) (by omega), Int.tmod_eq_emod_of_nonneg (by omega)]
    exact ⟨Int.emod_nonneg _ (by omega), Int.emod_lt_of_pos _ (by omega)⟩
  · have hp : (0 : Int) < l.length := by omega
    have m1 : Int.tmod i (l.length : Int) = i % (l.length : Int) := Int.tmod_eq_emod_of_nonneg hi
    have e1 : wrap64 (i + 1) = i + 1 := wrap_id (by omega) (by omega)
    have m2 : Int.tmod (i + 1) (l.length : Int) = (i + 1) % (l.length : Int) := Int.tmod_eq_emod_of_nonneg (by omega)
    have d1 : Int.tdiv i (l.length : Int) = i / (l.length : Int) := Int.tdiv_eq_ediv_of_nonneg hi
    rw [if_neg h0, e1, m1, m2, d1]
    have a1 := Int.emod_nonneg i (show (l.length : Int) ≠ 0 by omega)
    have a2 := Int.emod_lt_of_pos i hp
    have b1 := Int.emod_nonneg (i + 1) (show (l.length : Int) ≠ 0 by omega)
    have b2 := Int.emod_lt_of_pos (i + 1) hp
    rw [if_pos a1, if_pos a2, if_pos b1, if_pos b2, if_neg (by omega)]
    have r1 := u8_of_wf hw (i % (l.length : Int))
    have r2 := u8_of_wf hw ((i + 1) % (l.length : Int))
    have q1 : 0 ≤ i / (l.length : Int) := Int.ediv_nonneg hi (by omega)
    have q2 : i / (l.length : Int) ≤ i := Int.ediv_le_self _ hi
    refine ⟨_, rfl, ?_⟩
    generalize rd l (i % (l.length : Int)) = x at *
    generalize rd l ((i + 1) % (l.length : Int)) = y at *
    generalize i / (l.length : Int) = q at *
    rw [wrap_id (x := x) (by omega) (by omega), wrap_id (x := y) (by omega) (by omega), wrap_id (x := x * 31) (by omega) (by omega), wrap_id (x := q) (by omega) (by omega), wrap_id (x := x * 31 + y) (by omega) (by omega), wrap_id (x := x * 31 + y + q) (by omega) (by omega), Int.tmod_eq_emod_of_nonneg (by omega)]
    exact ⟨Int.emod_nonneg _ (by omega), Int.emod_lt_of_pos _ (by omega)⟩

/-! snippet FnAddTime -/
theorem add_tells (a b : Int) (ha : -9223372036854775808 ≤ a) (ha2 : a ≤ 9223372036854775807) (hb : -9223372036854775808 ≤ b) (hb2 : b ≤ 9223372036854775807) :
    impl_AddTime.f a b = some (mn (mx a 0 + mx b 0) 9223372036854775807) := by
  unfold impl_AddTime.f
  have x1 : 0 ≤ mx a 0 ∧ mx a 0 ≤ 9223372036854775807 := by unfold mx; split <;> omega
  have x2 : 0 ≤ mx b 0 ∧ mx b 0 ≤ 9223372036854775807 := by unfold mx; split <;> omega
  generalize mx a 0 = x at *
  generalize mx b 0 = y at *
  rw [wrap_id (x := 9223372036854775807 - y) (by omega) (by omega)]
  by_cases h : x > 9223372036854775807 - y
  · rw [if_pos h]
    congr 1
    unfold mn
    rw [if_pos (by omega)]
  · rw [if_neg h, wrap_id (by omega) (by omega)]
    congr 1
    unfold mn
    rw [if_neg (by omega)]
theorem FnAddTime (l0 : List Int) (l1 : List Int) (g0 : (l0.length ≤ 9223372036854775807 ∧ ∀ y ∈ l0, (Lit.int .u8 y).wf = true)) (g1 : (l1.length ≤ 9223372036854775807 ∧ ∀ y ∈ l1, (Lit.int .u8 y).wf = true)) : ∃ k, laws_FnAddTime.f k l0 l1 = some true := by
  obtain ⟨hm0, hw0⟩ := g0
  obtain ⟨hm1, hw1⟩ := g1
  refine ⟨2, ?_⟩
  unfold laws_FnAddTime.f
  by_cases c0 : (l0.length : Int) > 1048576
  · rw [if_pos c0]; rfl
  rw [if_neg c0]
  by_cases c1 : (l1.length : Int) > 1048576
  · rw [decide_eq_true c1]; rfl
  rw [decide_eq_false c1]
  obtain ⟨p, hp, p0, p1⟩ := at_tells l0 (by omega) hw0 0 1000 (by omega) (by omega) (by omega)
  obtain ⟨q, hq, q0, q1⟩ := at_tells l0 (by omega) hw0 1 1000000 (by omega) (by omega) (by omega)
  obtain ⟨b, hb, b0, b1⟩ := at_tells l1 (by omega) hw1 0 1000 (by omega) (by omega) (by omega)
  have z0 : 0 ≤ p * q := Int.mul_nonneg p0 q0
  have z1 : p * q ≤ 1000 * 1000000 := Int.mul_le_mul (by omega) (by omega) q0 (by omega)
  simp only [laws_FnAddTime.j0, laws_FnAddTime.j1, hp, hq, hb, Option.bind_some]
  generalize p * q = a at *
  have wa : wrap64 a = a := wrap_id (by omega) (by omega)
  simp only [wa]
  rw [wrap_id (x := a + b) (by omega) (by omega), wrap_id (x := 9223372036854775807 - a) (by omega) (by omega), wrap_id (x := 9223372036854775807 - b) (by omega) (by omega), wrap_id (x := b + 1) (by omega) (by omega)]
  rw [add_tells a b (by omega) (by omega) (by omega) (by omega), add_tells 9223372036854775807 b (by omega) (by omega) (by omega) (by omega), add_tells (9223372036854775807 - a) a (by omega) (by omega) (by omega) (by omega), add_tells (9223372036854775807 - b) (b + 1) (by omega) (by omega) (by omega) (by omega), add_tells (-1) b (by omega) (by omega) (by omega) (by omega), add_tells b a (by omega) (by omega) (by omega) (by omega)]
  have ea : mx a 0 = a := by unfold mx; split <;> omega
  have eb : mx b 0 = b := by unfold mx; split <;> omega
  have e1 : mx 9223372036854775807 0 = 9223372036854775807 := by unfold mx; split <;> omega
  have e2 : mx (9223372036854775807 - a) 0 = 9223372036854775807 - a := by unfold mx; split <;> omega
  have e3 : mx (9223372036854775807 - b) 0 = 9223372036854775807 - b := by unfold mx; split <;> omega
  have e4 : mx (b + 1) 0 = b + 1 := by unfold mx; split <;> omega
  have e5 : mx (-1) 0 = 0 := by unfold mx; split <;> omega
  have f1 : mn (a + b) 9223372036854775807 = a + b := by unfold mn; split <;> omega
  have f2 : mn (9223372036854775807 + b) 9223372036854775807 = 9223372036854775807 := by unfold mn; split <;> omega
  have f3 : mn (9223372036854775807 - a + a) 9223372036854775807 = 9223372036854775807 := by unfold mn; split <;> omega
  have f4 : mn (9223372036854775807 - b + (b + 1)) 9223372036854775807 = 9223372036854775807 := by unfold mn; split <;> omega
  have f5 : mn (0 + b) 9223372036854775807 = b := by unfold mn; split <;> omega
  have f6 : mn (b + a) 9223372036854775807 = a + b := by unfold mn; split <;> omega
  rw [ea, eb, e1, e2, e3, e4, e5, f1, f2, f3, f4, f5, f6]
  simp

end Go.Proofs.Ytngeekijgphnjaa.Pure
