/- The statement FnExactKeyChainOK: what the given program's printed functions answer, as the law asks; no condition. -/
import Derived.Test.YtngeekijgphnjaaPFnExactKeyChainOKx1
set_option linter.unusedVariables false
set_option linter.unusedSimpArgs false
namespace Go.Proofs.Ytngeekijgphnjaa.Pure
open Go.RowKit Go.Proofs.Ytngeekijgphnjaa.PFnExactKeyChainOK Go.Proofs.YtngeekijgphnjaaW.PrintWords Go.Proofs.YtngeekijgphnjaaW.PrintLast Go.Proofs.YtngeekijgphnjaaW.PrintMore
/-! snippet base -/
theorem wrap_id {x : Int} (h1 : -9223372036854775808 ≤ x) (h2 : x ≤ 9223372036854775807) : wrap64 x = x := by
  unfold wrap64
  omega
theorem nat_pos_succ {k d : Nat} (h : d < k) : ∃ m, k = m + 1 := ⟨k - 1, by omega⟩
theorem u8_of_wf {l : List Int} (h : ∀ x ∈ l, (Lit.int .u8 x).wf = true) (i : Int) : 0 ≤ rd l i ∧ rd l i ≤ 255 := by
  unfold rd
  rw [List.getD_eq_getElem?_getD]
  by_cases hi : i.toNat < l.length
  · rw [List.getElem?_eq_getElem hi, Option.getD_some]
    have := h _ (List.getElem_mem hi)
    simp only [Lit.wf, Bool.and_eq_true, decide_eq_true_eq] at this
    have e1 : IntKind.u8.min = 0 := rfl
    have e2 : IntKind.u8.max = 255 := rfl
    omega
  · rw [List.getElem?_eq_none (by omega)]
    simp
theorem i64_of_wf {x : Int} (h : (Lit.int .i64 x).wf = true) : -9223372036854775808 ≤ x ∧ x ≤ 9223372036854775807 := by
  simp only [Lit.wf, Bool.and_eq_true, decide_eq_true_eq] at h
  have e1 : IntKind.i64.min = -9223372036854775808 := rfl
  have e2 : IntKind.i64.max = 9223372036854775807 := rfl
  omega

/-! snippet within -/
theorem within_tells (n low high : Int) : impl_within.f n low high = some (decide (low ≤ n) && decide (n ≤ high)) := by
  unfold impl_within.f
  by_cases h : n ≥ low
  · rw [if_pos h, decide_eq_true h]; rfl
  · rw [if_neg h, decide_eq_false h]; rfl

/-! snippet specIn -/
theorem specIn_tells (n low high : Int) : spec_l01In.f n low high = some (decide (low ≤ n) && decide (n ≤ high)) := by
  unfold spec_l01In.f
  by_cases h : n ≥ low
  · rw [if_pos h, decide_eq_true h]; rfl
  · rw [if_neg h, decide_eq_false h]; rfl

/-! snippet FnExactKeyChainOK -/
theorem FnExactKeyChainOK (a0 : ByteArray) (a1 : Int) (h0 : a0.size ≤ 9223372036854775807) (h1 : (Lit.int .i64 a1).wf = true) : laws_FnExactKeyChainOK.f a0 a1 = some true := by
  unfold laws_FnExactKeyChainOK.f laws_szKeyChain.f laws_toKeyChain.f
  rw [wrap_id (by omega) (by omega)]
  by_cases h : (1048576 - (a0.size : Int)) < 0
  · rw [if_pos h]; rfl
  rw [if_neg h]
  simp only [Option.bind_some]
  rw [if_neg h]
  have e : ∀ b : Bool, impl_KeyChainOK.f a0 a1 = some b → spec_KeyChainOK.f a0 a1 = some b := by
    intro b hb
    unfold impl_KeyChainOK.f impl_isHash.f at hb
    unfold spec_KeyChainOK.f
    rw [specIn_tells]
    rw [within_tells] at hb
    by_cases h32 : (a0.size : Int) = 32
    · simpa [h32] using hb
    · simpa [h32] using hb
  have f : ∃ b, impl_KeyChainOK.f a0 a1 = some b := by
    unfold impl_KeyChainOK.f impl_isHash.f
    rw [within_tells]
    simp only [Option.bind_some]
    split <;> exact ⟨_, rfl⟩
  obtain ⟨b, hb⟩ := f
  rw [hb, e b hb]
  simp

end Go.Proofs.Ytngeekijgphnjaa.Pure
