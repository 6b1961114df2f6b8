/- The statement FnExactBodyDigest: what the given program's printed functions answer, as the law asks; no condition. -/
import Derived.Test.YtgknilganicofaaDoorPFnExactBodyDigestx1
import Derived.Test.YtgknilganicofaaDoorShaE
set_option linter.unusedVariables false
set_option linter.unusedSimpArgs false
namespace Go.Proofs.YtgknilganicofaaDoor.Pure
open Go.RowKit Go.Proofs.YtgknilganicofaaDoor.PFnExactBodyDigest Go.Proofs.YtgknilganicofaaDoorV.PrintWords Go.Proofs.YtgknilganicofaaDoorV.PrintLast Go.Proofs.YtgknilganicofaaDoorV.PrintMore
/-! snippet base -/
theorem wrap_id {x : Int} (h1 : -9223372036854775808 ≤ x) (h2 : x ≤ 9223372036854775807) : wrap64 x = x := by
  unfold wrap64
  omega
theorem nat_pos_succ {k d : Nat} (h : d < k) : ∃ m, k = m + 1 := ⟨k - 1, by omega⟩
theorem u8_of_wf {l : List Int} (h : ∀ x ∈ l, (Lit.int .u8 x).wf = true) (i : Int) : 0 ≤ rd l i ∧ rd l i ≤ 255 := by
  unfold rd
  rw [List.getD_eq_getElem?_getD]
  by_cases hi : i.toNat < l.length
  · rw [List.getElem?_eq_getElem hi, Option.getD_some]
    have := h _ (List.getElem_mem hi)
    simp only [Lit.wf, Bool.and_eq_true, decide_eq_true_eq] at this
    have e1 : IntKind.u8.min = 0 := rfl
    have e2 : IntKind.u8.max = 255 := rfl
    omega
  · rw [List.getElem?_eq_none (by omega)]
    simp
theorem i64_of_wf {x : Int} (h : (Lit.int .i64 x).wf = true) : -9223372036854775808 ≤ x ∧ x ≤ 9223372036854775807 := by
  simp only [Lit.wf, Bool.and_eq_true, decide_eq_true_eq] at h
  have e1 : IntKind.i64.min = -9223372036854775808 := rfl
  have e2 : IntKind.i64.max = 9223372036854775807 := rfl
  omega
theorem toList_len (s : ByteArray) : s.toList.length = s.size := by
  rw [ByteArray.toList_eq]
  exact data_length s
theorem toList_inj {a b : ByteArray} (h : a.toList = b.toList) : a = b := by
  rw [ByteArray.toList_eq, ByteArray.toList_eq] at h
  exact Go.WideShapes.bytes_inj h

/-! snippet FnExactBodyDigest -/
theorem FnExactBodyDigest (x0 : ByteArray) (gx0 : x0.size ≤ 9223372036854775807) : laws_FnExactBodyDigest.f x0 = some true := by
  unfold laws_FnExactBodyDigest.f
  by_cases h : (x0.size : Int) > 1048576
  · rw [if_pos h]
  rw [if_neg h]
  unfold spec_BodyDigest.f impl_BodyDigest.f
  by_cases h2 : (x0.size : Int) > 65531
  · rw [if_pos h2, if_pos h2]; simp
  rw [if_neg h2, if_neg h2]
  unfold spec_l06Digest.f impl_bodyDigest.f spec_l01Hash.f impl_hash.f
  have hs : ((⟨#[98, 97, 116, 99, 104]⟩ : ByteArray) ++ x0).size = 5 + x0.size := by rw [ByteArray.size_append]; rfl
  rw [if_pos (by omega), if_pos (by rw [hs]; omega), if_pos (by rw [bytesOf_length, hs]; omega), if_pos (by omega), if_pos (by rw [hs]; omega), Sha.sha_eq]
  simp

end Go.Proofs.YtgknilganicofaaDoor.Pure
