/- The statement FnExactHashText: what the given program's printed functions answer, as the law asks; no condition. -/
import Derived.Test.YtgekkfgljjbikaaPFnExactHashTextx2
set_option linter.unusedVariables false
set_option linter.unusedSimpArgs false
namespace Go.Proofs.Ytgekkfgljjbikaa.Pure
open Go.RowKit Go.Proofs.Ytgekkfgljjbikaa.PFnExactHashText Go.Proofs.YtgekkfgljjbikaaW.PrintWords Go.Proofs.YtgekkfgljjbikaaW.PrintLast Go.Proofs.YtgekkfgljjbikaaW.PrintMore
/-! snippet base -/
theorem wrap_id {x : Int} (h1 : -9223372036854775808 ≤ x) (h2 : x ≤ 9223372036854775807) : wrap64 x = x := by
  unfold wrap64
  omega
theorem nat_pos_succ {k d : Nat} (h : d < k) : ∃ m, k = m + 1 := ⟨k - 1, by omega⟩
theorem u8_of_wf {l : List Int} (h : ∀ x ∈ l, (Lit.int .u8 x).wf = true) (i : Int) : 0 ≤ rd l i ∧ rd l i ≤ 255 := by
  unfold rd
  rw [List.getD_eq_getElem?_getD]
  by_cases hi : i.toNat < l.length
  · rw [List.getElem?_eq_getElem hi, Option.getD_some]
    have := h _ (List.getElem_mem hi)
    simp only [Lit.wf, Bool.and_eq_true, decide_eq_true_eq] at this
    have e1 : IntKind.u8.min = 0 := rfl
    have e2 : IntKind.u8.max = 255 := rfl
    omega
  · rw [List.getElem?_eq_none (by omega)]
    simp
theorem i64_of_wf {x : Int} (h : (Lit.int .i64 x).wf = true) : -9223372036854775808 ≤ x ∧ x ≤ 9223372036854775807 := by
  simp only [Lit.wf, Bool.and_eq_true, decide_eq_true_eq] at h
  have e1 : IntKind.i64.min = -9223372036854775808 := rfl
  have e2 : IntKind.i64.max = 9223372036854775807 := rfl
  omega
theorem toList_len (s : ByteArray) : s.toList.length = s.size := by
  rw [ByteArray.toList_eq]
  exact data_length s
theorem toList_inj {a b : ByteArray} (h : a.toList = b.toList) : a = b := by
  rw [ByteArray.toList_eq, ByteArray.toList_eq] at h
  exact Go.WideShapes.bytes_inj h

/-! snippet hexD -/
theorem areLong_one (s : ByteArray) : impl_areLong.f [s] = some (decide ((65536 : Int) < s.size)) := by
  unfold impl_areLong.f
  simp

/-! snippet FnExactHashText -/
def hexD : ByteArray := ⟨#[48, 49, 50, 51, 52, 53, 54, 55, 56, 57, 97, 98, 99, 100, 101, 102]⟩
/-- The digits of d bytes from place i on. -/
def hexFrom (s : ByteArray) : Nat → Int → List Int
  | 0, _ => []
  | d + 1, i => [bt hexD ((Int.tdiv (bt s i) 16) % 256), bt hexD (Int.tmod (bt s i) 16)] ++ hexFrom s d (i + 1)
theorem halves (s : ByteArray) (i : Int) : 0 ≤ (Int.tdiv (bt s i) 16) % 256 ∧ (Int.tdiv (bt s i) 16) % 256 < 16 ∧ 0 ≤ Int.tmod (bt s i) 16 ∧ Int.tmod (bt s i) 16 < 16 := by
  have h := bt_range s i
  rw [Int.tdiv_eq_ediv_of_nonneg h.1, Int.tmod_eq_emod_of_nonneg h.1]
  omega
theorem hex_spec (s : ByteArray) (hs : s.size ≤ 65536) (d : Nat) : ∀ (k : Nat) (xs : List Int) (i : Int), 0 ≤ i → (s.size : Int) - i = d → xs.length ≤ 2 * i → d < k → spec_l01Hex.l0 k s xs i = some (strOfNums (xs ++ hexFrom s d i)) := by
  induction d with
  | zero =>
    intro k xs i h0 hd hx hk
    obtain ⟨k, rfl⟩ := nat_pos_succ hk
    rw [spec_l01Hex.l0, if_neg (by omega), hexFrom, List.append_nil]
  | succ d ih =>
    intro k xs i h0 hd hx hk
    obtain ⟨k, rfl⟩ := nat_pos_succ hk
    obtain ⟨a, b, c, e⟩ := halves s i
    rw [spec_l01Hex.l0, if_pos (by omega), if_pos h0, if_pos a, if_pos b, if_pos c, if_pos e, Option.bind_some, if_pos (by simp only [List.length_cons, List.length_nil]; omega), wrap_id (by omega) (by omega), ih k _ (i + 1) (by omega) (by omega) (by simp only [List.length_append, List.length_cons, List.length_nil]; omega) (by omega), hexFrom, List.append_assoc]
    rfl
theorem hex_impl (s : ByteArray) (hs : s.size ≤ 65536) (d : Nat) : ∀ (k : Nat) (xs : List Int) (i : Int), 0 ≤ i → (s.size : Int) - i = d → xs.length ≤ 2 * i → d < k → impl_HashText.l0 k s xs s.size i = some (strOfNums (xs ++ hexFrom s d i), 0) := by
  induction d with
  | zero =>
    intro k xs i h0 hd hx hk
    obtain ⟨k, rfl⟩ := nat_pos_succ hk
    rw [impl_HashText.l0, if_neg (by omega), hexFrom, List.append_nil]
  | succ d ih =>
    intro k xs i h0 hd hx hk
    obtain ⟨k, rfl⟩ := nat_pos_succ hk
    obtain ⟨a, b, c, e⟩ := halves s i
    rw [impl_HashText.l0, if_pos (by omega), if_pos h0, if_pos (by omega), if_pos a, if_pos b, if_pos c, if_pos e, Option.bind_some, if_pos (by simp only [List.length_cons, List.length_nil]; omega), wrap_id (by omega) (by omega), ih k _ (i + 1) (by omega) (by omega) (by simp only [List.length_append, List.length_cons, List.length_nil]; omega) (by omega), hexFrom, List.append_assoc]
    rfl
theorem FnExactHashText (s : ByteArray) (hs : s.size ≤ 9223372036854775807) : ∃ k, laws_FnExactHashText.f k s = some true := by
  refine ⟨s.size + 1, ?_⟩
  unfold laws_FnExactHashText.f
  by_cases h : (s.size : Int) > 1048576
  · rw [if_pos h]
  rw [if_neg h]
  unfold spec_HashText.f impl_HashText.f impl_isHash.f spec_l01Hex.f
  rw [areLong_one]
  by_cases h2 : (s.size : Int) > 65536
  · rw [if_pos h2, decide_eq_true (show (65536 : Int) < s.size by omega)]; simp
  rw [if_neg h2, decide_eq_false (show ¬ (65536 : Int) < s.size by omega)]
  simp only [Option.bind_some, Bool.false_eq_true, if_false]
  by_cases h3 : (s.size : Int) = 32
  · rw [if_pos h3, if_pos (by rw [h3]; rfl), if_pos (by omega), hex_spec s (by omega) s.size (s.size + 1) [] 0 (by omega) (by omega) (by simp) (by omega), hex_impl s (by omega) s.size (s.size + 1) [] 0 (by omega) (by omega) (by simp) (by omega)]
    simp
  · rw [if_neg h3, if_neg (by simpa using h3)]
    simp

end Go.Proofs.Ytgekkfgljjbikaa.Pure
