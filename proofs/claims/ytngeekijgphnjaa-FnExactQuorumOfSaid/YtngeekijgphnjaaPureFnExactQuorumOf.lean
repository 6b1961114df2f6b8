/- The statement FnExactQuorumOf: what the given program's printed functions answer, as the law asks; no condition. -/
import Derived.Test.YtngeekijgphnjaaPFnExactQuorumOfx1
set_option linter.unusedVariables false
set_option linter.unusedSimpArgs false
namespace Go.Proofs.Ytngeekijgphnjaa.Pure
open Go.RowKit Go.Proofs.Ytngeekijgphnjaa.PFnExactQuorumOf Go.Proofs.YtngeekijgphnjaaW.PrintWords Go.Proofs.YtngeekijgphnjaaW.PrintLast Go.Proofs.YtngeekijgphnjaaW.PrintMore
/-! snippet base -/
theorem wrap_id {x : Int} (h1 : -9223372036854775808 ≤ x) (h2 : x ≤ 9223372036854775807) : wrap64 x = x := by
  unfold wrap64
  omega
theorem nat_pos_succ {k d : Nat} (h : d < k) : ∃ m, k = m + 1 := ⟨k - 1, by omega⟩
theorem u8_of_wf {l : List Int} (h : ∀ x ∈ l, (Lit.int .u8 x).wf = true) (i : Int) : 0 ≤ rd l i ∧ rd l i ≤ 255 := by
  unfold rd
  rw [List.getD_eq_getElem?_getD]
  by_cases hi : i.toNat < l.length
  · rw [List.getElem?_eq_getElem hi, Option.getD_some]
    have := h _ (List.getElem_mem hi)
    simp only [Lit.wf, Bool.and_eq_true, decide_eq_true_eq] at this
    have e1 : IntKind.u8.min = 0 := rfl
    have e2 : IntKind.u8.max = 255 := rfl
    omega
  · rw [List.getElem?_eq_none (by omega)]
    simp
theorem i64_of_wf {x : Int} (h : (Lit.int .i64 x).wf = true) : -9223372036854775808 ≤ x ∧ x ≤ 9223372036854775807 := by
  simp only [Lit.wf, Bool.and_eq_true, decide_eq_true_eq] at h
  have e1 : IntKind.i64.min = -9223372036854775808 := rfl
  have e2 : IntKind.i64.max = 9223372036854775807 := rfl
  omega

/-! snippet quorum -/
theorem areNodes_tells (a0 : Int) : impl_areNodes.f a0 = some (decide (a0 = 1) || decide (a0 = 4) || decide (a0 = 7)) := by
  unfold impl_areNodes.f impl_FaultsOf.f
  by_cases h1 : a0 = 1
  · subst h1; decide +kernel
  by_cases h4 : a0 = 4
  · subst h4; decide +kernel
  by_cases h7 : a0 = 7
  · subst h7; decide +kernel
  simp [h1, h4, h7]

/-! snippet specNodes -/
theorem specNodes_tells (a0 : Int) : spec_l04Nodes.f a0 = some (decide (a0 = 1) || decide (a0 = 4) || decide (a0 = 7)) := by
  unfold spec_l04Nodes.f
  by_cases h1 : a0 = 1
  · subst h1; decide +kernel
  by_cases h4 : a0 = 4
  · subst h4; decide +kernel
  by_cases h7 : a0 = 7
  · subst h7; decide +kernel
  simp [h1, h4, h7]

/-! snippet FnExactQuorumOf -/
theorem FnExactQuorumOf : laws_FnExactQuorumOf.Pure := by
  intro a0 w0
  unfold laws_FnExactQuorumOf.f spec_QuorumOf.f impl_QuorumOf.f
  rw [specNodes_tells, areNodes_tells]
  by_cases h1 : a0 = 1
  · subst h1; decide +kernel
  by_cases h4 : a0 = 4
  · subst h4; decide +kernel
  by_cases h7 : a0 = 7
  · subst h7; decide +kernel
  simp [h1, h4, h7]

end Go.Proofs.Ytngeekijgphnjaa.Pure
