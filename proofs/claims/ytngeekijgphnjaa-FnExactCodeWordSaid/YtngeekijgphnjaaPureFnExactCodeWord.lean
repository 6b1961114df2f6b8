/- The statement FnExactCodeWord: what the given program's printed functions answer, as the law asks; no condition. -/
import Derived.Test.YtngeekijgphnjaaPFnExactCodeWordx1
set_option linter.unusedVariables false
set_option linter.unusedSimpArgs false
namespace Go.Proofs.Ytngeekijgphnjaa.Pure
open Go.RowKit Go.Proofs.Ytngeekijgphnjaa.PFnExactCodeWord Go.Proofs.YtngeekijgphnjaaW.PrintWords Go.Proofs.YtngeekijgphnjaaW.PrintLast Go.Proofs.YtngeekijgphnjaaW.PrintMore
/-! snippet base -/
theorem wrap_id {x : Int} (h1 : -9223372036854775808 ≤ x) (h2 : x ≤ 9223372036854775807) : wrap64 x = x := by
  unfold wrap64
  omega
theorem nat_pos_succ {k d : Nat} (h : d < k) : ∃ m, k = m + 1 := ⟨k - 1, by omega⟩
theorem u8_of_wf {l : List Int} (h : ∀ x ∈ l, (Lit.int .u8 x).wf = true) (i : Int) : 0 ≤ rd l i ∧ rd l i ≤ 255 := by
  unfold rd
  rw [List.getD_eq_getElem?_getD]
  by_cases hi : i.toNat < l.length
  · rw [List.getElem?_eq_getElem hi, Option.getD_some]
    have := h _ (List.getElem_mem hi)
    simp only [Lit.wf, Bool.and_eq_true, decide_eq_true_eq] at this
    have e1 : IntKind.u8.min = 0 := rfl
    have e2 : IntKind.u8.max = 255 := rfl
    omega
  · rw [List.getElem?_eq_none (by omega)]
    simp
theorem i64_of_wf {x : Int} (h : (Lit.int .i64 x).wf = true) : -9223372036854775808 ≤ x ∧ x ≤ 9223372036854775807 := by
  simp only [Lit.wf, Bool.and_eq_true, decide_eq_true_eq] at h
  have e1 : IntKind.i64.min = -9223372036854775808 := rfl
  have e2 : IntKind.i64.max = 9223372036854775807 := rfl
  omega

/-! snippet FnExactCodeWord -/
theorem FnExactCodeWord : laws_FnExactCodeWord.Pure := by
  intro a0 w0
  have h : ∃ r, spec_CodeWord.f a0 = some r := by
    unfold spec_CodeWord.f
    simp only [Option.bind_some]
    by_cases h0 : a0 < 0
    · rw [if_pos h0]; exact ⟨_, rfl⟩
    rw [if_neg h0]
    split
    · exact ⟨_, rfl⟩
    · rw [if_pos (by omega)]
      rw [if_pos (by omega)]
      exact ⟨_, rfl⟩
  have e : impl_CodeWord.f a0 = spec_CodeWord.f a0 := rfl
  obtain ⟨r, hr⟩ := h
  unfold laws_FnExactCodeWord.f
  rw [e, hr]
  simp

end Go.Proofs.Ytngeekijgphnjaa.Pure
