/- The statement FnExactHash: what the given program's printed functions answer, as the law asks; no condition. -/
import Derived.Test.YtgknilganicofaaDoorPFnExactHashx1
import Derived.Test.YtgknilganicofaaDoorShaE
set_option linter.unusedVariables false
set_option linter.unusedSimpArgs false
namespace Go.Proofs.YtgknilganicofaaDoor.Pure
open Go.RowKit Go.Proofs.YtgknilganicofaaDoor.PFnExactHash Go.Proofs.YtgknilganicofaaDoorV.PrintWords Go.Proofs.YtgknilganicofaaDoorV.PrintLast Go.Proofs.YtgknilganicofaaDoorV.PrintMore
/-! snippet base -/
theorem wrap_id {x : Int} (h1 : -9223372036854775808 ≤ x) (h2 : x ≤ 9223372036854775807) : wrap64 x = x := by
  unfold wrap64
  omega
theorem nat_pos_succ {k d : Nat} (h : d < k) : ∃ m, k = m + 1 := ⟨k - 1, by omega⟩
theorem u8_of_wf {l : List Int} (h : ∀ x ∈ l, (Lit.int .u8 x).wf = true) (i : Int) : 0 ≤ rd l i ∧ rd l i ≤ 255 := by
  unfold rd
  rw [List.getD_eq_getElem?_getD]
  by_cases hi : i.toNat < l.length
  · rw [List.getElem?_eq_getElem hi, Option.getD_some]
    have := h _ (List.getElem_mem hi)
    simp only [Lit.wf, Bool.and_eq_true, decide_eq_true_eq] at this
    have e1 : IntKind.u8.min = 0 := rfl
    have e2 : IntKind.u8.max = 255 := rfl
    omega
  · rw [List.getElem?_eq_none (by omega)]
    simp
theorem i64_of_wf {x : Int} (h : (Lit.int .i64 x).wf = true) : -9223372036854775808 ≤ x ∧ x ≤ 9223372036854775807 := by
  simp only [Lit.wf, Bool.and_eq_true, decide_eq_true_eq] at h
  have e1 : IntKind.i64.min = -9223372036854775808 := rfl
  have e2 : IntKind.i64.max = 9223372036854775807 := rfl
  omega
theorem toList_len (s : ByteArray) : s.toList.length = s.size := by
  rw [ByteArray.toList_eq]
  exact data_length s
theorem toList_inj {a b : ByteArray} (h : a.toList = b.toList) : a = b := by
  rw [ByteArray.toList_eq, ByteArray.toList_eq] at h
  exact Go.WideShapes.bytes_inj h

/-! snippet byteS -/
theorem set_take {xs ys : List Int} {i : Nat} (h : ys.take i = xs.take i) (hi : i < xs.length) (hl : ys.length = xs.length) : (ys.set i (rd xs i)).take (i + 1) = xs.take (i + 1) := by
  have e : rd xs i = xs[i] := by unfold rd; simp [List.getD_eq_getElem?_getD, hi]
  rw [List.take_succ_eq_append_getElem (by rw [List.length_set]; omega), List.take_succ_eq_append_getElem hi, List.getElem_set_self, e, List.take_set_of_le (Nat.le_refl _), h]
theorem toByteS_l0 (xs : List Int) (hx : xs.length ≤ 1048576) (d : Nat) : ∀ (k : Nat) (ys : List Int) (i : Nat), xs.length - i = d → i ≤ xs.length → ys.length = xs.length → ys.take i = xs.take i → d < k → laws_toByteS.l0 k xs ys i = some xs := by
  induction d with
  | zero =>
    intro k ys i hd hi hl ht hk
    obtain ⟨k, rfl⟩ := nat_pos_succ hk
    rw [laws_toByteS.l0, if_neg (by omega)]
    rw [List.take_of_length_le (by omega), List.take_of_length_le (by omega)] at ht
    rw [ht]
  | succ d ih =>
    intro k ys i hd hi hl ht hk
    obtain ⟨k, rfl⟩ := nat_pos_succ hk
    rw [laws_toByteS.l0, if_pos (by omega), if_pos (by omega), if_pos (by omega), wrap_id (by omega) (by omega), show ((i : Int) + 1) = ((i + 1 : Nat) : Int) by omega, show ((i : Int)).toNat = i by omega]
    exact ih k _ (i + 1) (by omega) (by omega) (by rw [List.length_set]; exact hl) (set_take ht (by omega) hl) (by omega)
theorem toByteS_tells (xs : List Int) (hx : xs.length ≤ 1048576) (k : Nat) (hk : xs.length < k) : laws_toByteS.f k xs = some xs := by
  unfold laws_toByteS.f
  rw [if_pos (by omega), if_pos (by omega)]
  exact toByteS_l0 xs hx xs.length k _ 0 (by omega) (by omega) (by rw [List.length_replicate]; omega) (by simp) hk
theorem eqByteS_l0 (xs : List Int) (hx : xs.length ≤ 1048576) (d : Nat) : ∀ (k : Nat) (i : Nat), xs.length - i = d → i ≤ xs.length → d < k → laws_eqByteS.l0 k xs xs i = some true := by
  induction d with
  | zero =>
    intro k i hd hi hk
    obtain ⟨k, rfl⟩ := nat_pos_succ hk
    rw [laws_eqByteS.l0, if_neg (by omega)]
  | succ d ih =>
    intro k i hd hi hk
    obtain ⟨k, rfl⟩ := nat_pos_succ hk
    rw [laws_eqByteS.l0, if_pos (by omega), if_pos (by omega), if_pos (by omega), if_pos rfl, wrap_id (by omega) (by omega), show ((i : Int) + 1) = ((i + 1 : Nat) : Int) by omega]
    exact ih k (i + 1) (by omega) (by omega) (by omega)
theorem eqByteS_same (xs : List Int) (hx : xs.length ≤ 1048576) (k : Nat) (hk : xs.length < k) : laws_eqByteS.f k xs xs = some true := by
  unfold laws_eqByteS.f
  rw [if_pos rfl]
  exact eqByteS_l0 xs hx xs.length k 0 (by omega) (by omega) hk

/-! snippet FnExactHash -/
theorem u8_range {xs : List Int} (hw : ∀ x ∈ xs, (Lit.int .u8 x).wf = true) : ∀ x ∈ xs, 0 ≤ x ∧ x < 256 := by
  intro x hx
  have := hw x hx
  simp only [Lit.wf, Bool.and_eq_true, decide_eq_true_eq] at this
  have e1 : IntKind.u8.min = 0 := rfl
  have e2 : IntKind.u8.max = 255 := rfl
  omega
theorem FnExactHash (xs : List Int) (g : (xs.length ≤ 9223372036854775807 ∧ ∀ y ∈ xs, (Lit.int .u8 y).wf = true)) : ∃ k, laws_FnExactHash.f k xs = some true := by
  obtain ⟨hm, hw⟩ := g
  refine ⟨xs.length + 1, ?_⟩
  unfold laws_FnExactHash.f
  by_cases h : (xs.length : Int) > 1048576
  · rw [if_pos h]
  rw [if_neg h, toByteS_tells xs (by omega) _ (by omega)]
  simp only [Option.bind_some]
  have e : spec_Hash.f xs = impl_Hash.f xs ∧ ∃ r, spec_Hash.f xs = some r := by
    unfold spec_Hash.f impl_Hash.f spec_l01Hash.f impl_hash.f
    by_cases h2 : (xs.length : Int) > 65536
    · rw [if_pos h2, if_pos h2]; exact ⟨rfl, _, rfl⟩
    rw [if_neg h2, if_neg h2, if_pos (by omega), if_pos (by rw [strOfNums_size]; omega), Sha.sha_of xs (u8_range hw)]
    exact ⟨rfl, _, rfl⟩
  obtain ⟨e1, r, e2⟩ := e
  rw [← e1, e2]
  simp only [Option.bind_some, if_true]
  rw [eqByteS_same xs (by omega) _ (by omega)]
  simp

end Go.Proofs.YtgknilganicofaaDoor.Pure
