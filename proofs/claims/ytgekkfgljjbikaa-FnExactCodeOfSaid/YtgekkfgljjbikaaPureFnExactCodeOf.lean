/- The statement FnExactCodeOf: what the given program's printed functions answer, as the law asks; no condition. -/
import Derived.Test.YtgekkfgljjbikaaPFnExactCodeOfx1
set_option linter.unusedVariables false
set_option linter.unusedSimpArgs false
namespace Go.Proofs.Ytgekkfgljjbikaa.Pure
open Go.RowKit Go.Proofs.Ytgekkfgljjbikaa.PFnExactCodeOf Go.Proofs.YtgekkfgljjbikaaW.PrintWords Go.Proofs.YtgekkfgljjbikaaW.PrintLast Go.Proofs.YtgekkfgljjbikaaW.PrintMore
/-! snippet base -/
theorem wrap_id {x : Int} (h1 : -9223372036854775808 ≤ x) (h2 : x ≤ 9223372036854775807) : wrap64 x = x := by
  unfold wrap64
  omega
theorem nat_pos_succ {k d : Nat} (h : d < k) : ∃ m, k = m + 1 := ⟨k - 1, by omega⟩
theorem u8_of_wf {l : List Int} (h : ∀ x ∈ l, (Lit.int .u8 x).wf = true) (i : Int) : 0 ≤ rd l i ∧ rd l i ≤ 255 := by
  unfold rd
  rw [List.getD_eq_getElem?_getD]
  by_cases hi : i.toNat < l.length
  · rw [List.getElem?_eq_getElem hi, Option.getD_some]
    have := h _ (List.getElem_mem hi)
    simp only [Lit.wf, Bool.and_eq_true, decide_eq_true_eq] at this
    have e1 : IntKind.u8.min = 0 := rfl
    have e2 : IntKind.u8.max = 255 := rfl
    omega
  · rw [List.getElem?_eq_none (by omega)]
    simp
theorem i64_of_wf {x : Int} (h : (Lit.int .i64 x).wf = true) : -9223372036854775808 ≤ x ∧ x ≤ 9223372036854775807 := by
  simp only [Lit.wf, Bool.and_eq_true, decide_eq_true_eq] at h
  have e1 : IntKind.i64.min = -9223372036854775808 := rfl
  have e2 : IntKind.i64.max = 9223372036854775807 := rfl
  omega

/-! snippet FnExactCodeOf -/
def wordsL : List ByteArray := [(⟨#[111, 107]⟩ : ByteArray), (⟨#[98, 97, 100]⟩ : ByteArray), (⟨#[108, 111, 110, 103]⟩ : ByteArray), (⟨#[102, 111, 114, 109]⟩ : ByteArray), (⟨#[114, 97, 110, 103, 101]⟩ : ByteArray), (⟨#[110, 111, 110, 101]⟩ : ByteArray), (⟨#[109, 97, 110, 121]⟩ : ByteArray), (⟨#[102, 117, 108, 108]⟩ : ByteArray), (⟨#[115, 117, 109]⟩ : ByteArray), (⟨#[116, 119, 105, 99, 101]⟩ : ByteArray), (⟨#[112, 114, 111, 111, 102]⟩ : ByteArray), (⟨#[114, 111, 111, 116]⟩ : ByteArray), (⟨#[115, 105, 103, 110, 101, 100]⟩ : ByteArray), (⟨#[117, 115, 101, 100]⟩ : ByteArray), (⟨#[112, 114, 105, 109, 97, 114, 121]⟩ : ByteArray), (⟨#[97, 103, 97, 105, 110]⟩ : ByteArray), (⟨#[108, 97, 116, 101]⟩ : ByteArray), (⟨#[118, 105, 101, 119]⟩ : ByteArray), (⟨#[104, 101, 108, 100]⟩ : ByteArray), (⟨#[113, 117, 111, 114, 117, 109]⟩ : ByteArray)]
theorem words_tells : impl_words.f = some wordsL := rfl
theorem wordsL_length : wordsL.length = 20 := rfl
theorem word_tells (i : Int) (h0 : 0 ≤ i) (h1 : i < 20) : spec_CodeWord.f i = some (rdOf ByteArray.empty wordsL i) := by
  have h : spec_CodeWord.f i = (if i < 0 then (some (⟨#[]⟩ : ByteArray)) else (if i ≥ (wordsL.length : Int) then (some (⟨#[]⟩ : ByteArray)) else (if 0 ≤ i then (if i < (wordsL.length : Int) then (some (rdOf ByteArray.empty wordsL i)) else (none)) else (none)))) := rfl
  rw [h, wordsL_length, if_neg (by omega), if_neg (by omega), if_pos h0, if_pos (by omega)]
/-- The first place from i on at which a word stands, of d places; else -1. -/
def placeP (s : ByteArray) : Nat → Int → Int
  | 0, _ => -1
  | d + 1, i => if s.toList = (rdOf ByteArray.empty wordsL i).toList then i else placeP s d (i + 1)
theorem codeOf_spec (s : ByteArray) (d : Nat) : ∀ (k : Nat) (i : Int), 0 ≤ i → 20 - i = d → d < k → spec_CodeOf.l0 k s i = some (placeP s d i) := by
  induction d with
  | zero =>
    intro k i h0 hd hk
    obtain ⟨k, rfl⟩ := nat_pos_succ hk
    rw [spec_CodeOf.l0, if_neg (by omega)]
    rfl
  | succ d ih =>
    intro k i h0 hd hk
    obtain ⟨k, rfl⟩ := nat_pos_succ hk
    rw [spec_CodeOf.l0, if_pos (by omega), word_tells i h0 (by omega), wrap_id (by omega) (by omega), ih k (i + 1) (by omega) (by omega) (by omega), Option.bind_some, placeP]
    by_cases h : s.toList = (rdOf ByteArray.empty wordsL i).toList
    · rw [if_pos h, if_pos h.symm]
    · rw [if_neg h, if_neg (fun e => h e.symm)]
theorem codeOf_impl (s : ByteArray) (d : Nat) : ∀ (k : Nat) (i : Int), 0 ≤ i → 20 - i = d → d < k → slices_Index_string_string.l0 k wordsL s 20 i = some (placeP s d i) := by
  induction d with
  | zero =>
    intro k i h0 hd hk
    obtain ⟨k, rfl⟩ := nat_pos_succ hk
    rw [slices_Index_string_string.l0, if_neg (by omega)]
    rfl
  | succ d ih =>
    intro k i h0 hd hk
    obtain ⟨k, rfl⟩ := nat_pos_succ hk
    rw [slices_Index_string_string.l0, if_pos (by omega), if_pos h0, wordsL_length, if_pos (by omega), wrap_id (by omega) (by omega), ih k (i + 1) (by omega) (by omega) (by omega), placeP]
    by_cases h : s.toList = (rdOf ByteArray.empty wordsL i).toList
    · rw [if_pos h, if_pos h]
    · rw [if_neg h, if_neg h]
theorem FnExactCodeOf : laws_FnExactCodeOf.Pure := by
  intro s hs
  refine ⟨21, ?_⟩
  unfold laws_FnExactCodeOf.f
  by_cases h : (s.size : Int) > 1048576
  · rw [if_pos h]
  rw [if_neg h]
  unfold spec_CodeOf.f impl_CodeOf.f slices_Index_string_string.f
  rw [codeOf_spec s 20 21 0 (by omega) (by omega) (by omega), words_tells, Option.bind_some, Option.bind_some, wordsL_length, show ((20 : Nat) : Int) = 20 from rfl, codeOf_impl s 20 21 0 (by omega) (by omega) (by omega)]
  simp

end Go.Proofs.Ytgekkfgljjbikaa.Pure
