/- The statement FnExactPrimaryOf: what the given program's printed functions answer, as the law asks; no condition. -/
import Derived.Test.YtngeekijgphnjaaPFnExactPrimaryOfx1
set_option linter.unusedVariables false
set_option linter.unusedSimpArgs false
namespace Go.Proofs.Ytngeekijgphnjaa.Pure
open Go.RowKit Go.Proofs.Ytngeekijgphnjaa.PFnExactPrimaryOf Go.Proofs.YtngeekijgphnjaaW.PrintWords Go.Proofs.YtngeekijgphnjaaW.PrintLast Go.Proofs.YtngeekijgphnjaaW.PrintMore
/-! snippet base -/
theorem wrap_id {x : Int} (h1 : -9223372036854775808 ≤ x) (h2 : x ≤ 9223372036854775807) : wrap64 x = x := by
  unfold wrap64
  omega
theorem nat_pos_succ {k d : Nat} (h : d < k) : ∃ m, k = m + 1 := ⟨k - 1, by omega⟩
theorem u8_of_wf {l : List Int} (h : ∀ x ∈ l, (Lit.int .u8 x).wf = true) (i : Int) : 0 ≤ rd l i ∧ rd l i ≤ 255 := by
  unfold rd
  rw [List.getD_eq_getElem?_getD]
  by_cases hi : i.toNat < l.length
  · rw [List.getElem?_eq_getElem hi, Option.getD_some]
    have := h _ (List.getElem_mem hi)
    simp only [Lit.wf, Bool.and_eq_true, decide_eq_true_eq] at this
    have e1 : IntKind.u8.min = 0 := rfl
    have e2 : IntKind.u8.max = 255 := rfl
    omega
  · rw [List.getElem?_eq_none (by omega)]
    simp
theorem i64_of_wf {x : Int} (h : (Lit.int .i64 x).wf = true) : -9223372036854775808 ≤ x ∧ x ≤ 9223372036854775807 := by
  simp only [Lit.wf, Bool.and_eq_true, decide_eq_true_eq] at h
  have e1 : IntKind.i64.min = -9223372036854775808 := rfl
  have e2 : IntKind.i64.max = 9223372036854775807 := rfl
  omega

/-! snippet quorum -/
theorem areNodes_tells (a0 : Int) : impl_areNodes.f a0 = some (decide (a0 = 1) || decide (a0 = 4) || decide (a0 = 7)) := by
  unfold impl_areNodes.f impl_FaultsOf.f
  by_cases h1 : a0 = 1
  · subst h1; rfl
  by_cases h4 : a0 = 4
  · subst h4; rfl
  by_cases h7 : a0 = 7
  · subst h7; rfl
  simp [h1, h4, h7]

/-! snippet specNodes -/
theorem specNodes_tells (a0 : Int) : spec_l04Nodes.f a0 = some (decide (a0 = 1) || decide (a0 = 4) || decide (a0 = 7)) := by
  unfold spec_l04Nodes.f
  by_cases h1 : a0 = 1
  · subst h1; rfl
  by_cases h4 : a0 = 4
  · subst h4; rfl
  by_cases h7 : a0 = 7
  · subst h7; rfl
  simp [h1, h4, h7]

/-! snippet within -/
theorem within_tells (n low high : Int) : impl_within.f n low high = some (decide (low ≤ n) && decide (n ≤ high)) := by
  unfold impl_within.f
  by_cases h : n ≥ low
  · rw [if_pos h, decide_eq_true h]; rfl
  · rw [if_neg h, decide_eq_false h]; rfl

/-! snippet specIn -/
theorem specIn_tells (n low high : Int) : spec_l01In.f n low high = some (decide (low ≤ n) && decide (n ≤ high)) := by
  unfold spec_l01In.f
  by_cases h : n ≥ low
  · rw [if_pos h, decide_eq_true h]; rfl
  · rw [if_neg h, decide_eq_false h]; rfl

/-! snippet FnExactPrimaryOf -/
theorem FnExactPrimaryOf : laws_FnExactPrimaryOf.Pure := by
  intro a0 a1 w0 w1
  unfold laws_FnExactPrimaryOf.f spec_PrimaryOf.f impl_PrimaryOf.f
  rw [specNodes_tells, areNodes_tells, within_tells, specIn_tells]
  by_cases h1 : a1 = 1
  · subst h1; cases (decide (0 ≤ a0) && decide (a0 ≤ 20)) <;> simp
  by_cases h4 : a1 = 4
  · subst h4; cases (decide (0 ≤ a0) && decide (a0 ≤ 20)) <;> simp
  by_cases h7 : a1 = 7
  · subst h7; cases (decide (0 ≤ a0) && decide (a0 ≤ 20)) <;> simp
  simp [h1, h4, h7]

end Go.Proofs.Ytngeekijgphnjaa.Pure
