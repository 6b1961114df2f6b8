/- The statement FnExactReadHash: what the given program's printed functions answer, as the law asks; no condition. -/
import Derived.Test.YtgekkfgljjbikaaPFnExactReadHashx1
set_option linter.unusedVariables false
set_option linter.unusedSimpArgs false
namespace Go.Proofs.Ytgekkfgljjbikaa.Pure
open Go.RowKit Go.Proofs.Ytgekkfgljjbikaa.PFnExactReadHash Go.Proofs.YtgekkfgljjbikaaW.PrintWords Go.Proofs.YtgekkfgljjbikaaW.PrintLast Go.Proofs.YtgekkfgljjbikaaW.PrintMore
/-! snippet base -/
theorem wrap_id {x : Int} (h1 : -9223372036854775808 ≤ x) (h2 : x ≤ 9223372036854775807) : wrap64 x = x := by
  unfold wrap64
  omega
theorem nat_pos_succ {k d : Nat} (h : d < k) : ∃ m, k = m + 1 := ⟨k - 1, by omega⟩
theorem u8_of_wf {l : List Int} (h : ∀ x ∈ l, (Lit.int .u8 x).wf = true) (i : Int) : 0 ≤ rd l i ∧ rd l i ≤ 255 := by
  unfold rd
  rw [List.getD_eq_getElem?_getD]
  by_cases hi : i.toNat < l.length
  · rw [List.getElem?_eq_getElem hi, Option.getD_some]
    have := h _ (List.getElem_mem hi)
    simp only [Lit.wf, Bool.and_eq_true, decide_eq_true_eq] at this
    have e1 : IntKind.u8.min = 0 := rfl
    have e2 : IntKind.u8.max = 255 := rfl
    omega
  · rw [List.getElem?_eq_none (by omega)]
    simp
theorem i64_of_wf {x : Int} (h : (Lit.int .i64 x).wf = true) : -9223372036854775808 ≤ x ∧ x ≤ 9223372036854775807 := by
  simp only [Lit.wf, Bool.and_eq_true, decide_eq_true_eq] at h
  have e1 : IntKind.i64.min = -9223372036854775808 := rfl
  have e2 : IntKind.i64.max = 9223372036854775807 := rfl
  omega
theorem toList_len (s : ByteArray) : s.toList.length = s.size := by
  rw [ByteArray.toList_eq]
  exact data_length s
theorem toList_inj {a b : ByteArray} (h : a.toList = b.toList) : a = b := by
  rw [ByteArray.toList_eq, ByteArray.toList_eq] at h
  exact Go.WideShapes.bytes_inj h

/-! snippet hexD -/
theorem areLong_one (s : ByteArray) : impl_areLong.f [s] = some (decide ((65536 : Int) < s.size)) := by
  unfold impl_areLong.f
  simp

/-! snippet readHashP -/
def nibV (c : Int) : Int := if 48 ≤ c ∧ c ≤ 57 then c - 48 else if 97 ≤ c ∧ c ≤ 102 then c - 87 else -1
theorem nibV_range (c : Int) : -1 ≤ nibV c ∧ nibV c ≤ 15 := by
  unfold nibV
  split
  · omega
  split <;> omega
theorem nib_spec (c : Int) (h0 : 0 ≤ c) (h1 : c ≤ 255) (k : Nat) (hk : 1 ≤ k) : spec_l01Nibble.f k c = some (nibV c) := by
  obtain ⟨k, rfl⟩ := nat_pos_succ hk
  unfold spec_l01Nibble.f nibV
  have e : ∀ x, spec_l01Nibble.j0 (k + 1) c x = if x = true then (some (wrap64 ((wrap64 (c)) - 48))) else (if c ≥ 97 then (if c ≤ 102 then (some (wrap64 ((wrap64 ((wrap64 (c)) - 97)) + 10))) else (some (-1))) else (some (-1))) := fun x => by rw [spec_l01Nibble.j0]
  rw [e, e, wrap_id (x := c) (by omega) (by omega), wrap_id (x := c - 48) (by omega) (by omega), wrap_id (x := c - 97) (by omega) (by omega), wrap_id (x := c - 97 + 10) (by omega) (by omega)]
  by_cases a : 48 ≤ c ∧ c ≤ 57
  · rw [if_pos a, if_pos a.1, decide_eq_true a.2]; rfl
  · rw [if_neg a]
    have hf : (if c ≥ 97 then (if c ≤ 102 then (some (c - 97 + 10)) else (some (-1))) else (some (-1))) = some (if 97 ≤ c ∧ c ≤ 102 then c - 87 else -1) := by
      by_cases b : c ≥ 97
      · by_cases d : c ≤ 102
        · rw [if_pos b, if_pos d, if_pos ⟨b, d⟩]; congr 1; omega
        · rw [if_pos b, if_neg d, if_neg (fun h => d h.2)]
      · rw [if_neg b, if_neg (fun h => b h.1)]
    by_cases b : c ≥ 48
    · rw [if_pos b, decide_eq_false (fun h => a ⟨b, h⟩), if_neg Bool.false_ne_true, hf]
    · rw [if_neg b, if_neg Bool.false_ne_true, hf]
theorem nib_all : ∀ c : Fin 256, impl_digit.f 17 (c.val : Int) = some (nibV c.val) := by decide +kernel
theorem nib_impl (c : Int) (h0 : 0 ≤ c) (h1 : c ≤ 255) (k : Nat) (hk : 17 ≤ k) : impl_digit.f k c = some (nibV c) := by
  have h := nib_all ⟨c.toNat, by omega⟩
  rw [show ((c.toNat : Nat) : Int) = c by omega] at h
  exact at_rounds (impl_digit.mono c) hk h
/-- The bytes that d pairs of digits are, from pair i on, behind xs; none where one is no digit. -/
def pairs (s : ByteArray) : Nat → Nat → List Int → Option (List Int)
  | 0, _, xs => some xs
  | d + 1, i, xs => if nibV (bt s (2 * i)) < 0 then none else if nibV (bt s (2 * i + 1)) < 0 then none else pairs s d (i + 1) (xs ++ [(16 * nibV (bt s (2 * i)) + nibV (bt s (2 * i + 1))) % 256])
def pairsR (o : Option (List Int)) : ByteArray × Int := match o with
  | none => (⟨#[]⟩, 3)
  | some l => (strOfNums l, 0)
theorem readHash_spec (s : ByteArray) (hs : s.size = 64) (d : Nat) : ∀ (k : Nat) (xs : List Int) (i : Nat), 32 - i = d ∧ i ≤ 32 → xs.length = i → d + 20 < k → spec_ReadHash.l0 k s xs ((2 * i : Nat) : Int) = some (pairsR (pairs s d i xs)) := by
  induction d with
  | zero =>
    intro k xs i hd hx hk
    obtain ⟨k, rfl⟩ : ∃ m, k = m + 1 := ⟨k - 1, by omega⟩
    rw [spec_ReadHash.l0, if_neg (by omega), pairs, pairsR]
  | succ d ih =>
    intro k xs i hd hx hk
    obtain ⟨k, rfl⟩ : ∃ m, k = m + 1 := ⟨k - 1, by omega⟩
    have r1 := bt_range s ((2 * i : Nat) : Int)
    have r2 := bt_range s (((2 * i : Nat) : Int) + 1)
    rw [spec_ReadHash.l0, if_pos (by omega), if_pos (by omega), wrap_id (x := ((2 * i : Nat) : Int) + 1) (by omega) (by omega), nib_spec _ r1.1 r1.2 k (by omega), nib_spec _ r2.1 r2.2 k (by omega), Option.bind_some, if_pos (by omega), if_pos (by omega), Option.bind_some, wrap_id (x := ((2 * i : Nat) : Int) + 2) (by omega) (by omega), pairs]
    rw [show ((2 * i : Nat) : Int) = 2 * (i : Int) by omega] at *
    have b1 := nibV_range (bt s (2 * (i : Int)))
    have b2 := nibV_range (bt s (2 * (i : Int) + 1))
    by_cases c1 : nibV (bt s (2 * (i : Int))) < 0
    · rw [if_pos c1, if_pos c1, pairsR]
    rw [if_neg c1, if_neg c1]
    by_cases c2 : nibV (bt s (2 * (i : Int) + 1)) < 0
    · rw [if_pos c2, if_pos c2, pairsR]
    rw [if_neg c2, if_neg c2, if_pos (by omega), wrap_id (x := 16 * nibV (bt s (2 * (i : Int)))) (by omega) (by omega), wrap_id (by omega) (by omega), show 2 * (i : Int) + 2 = ((2 * (i + 1) : Nat) : Int) by omega]
    exact ih k _ (i + 1) (by omega) (by rw [List.length_append, hx]; rfl) (by omega)
theorem readHash_impl (s : ByteArray) (hs : s.size = 64) (d : Nat) : ∀ (k : Nat) (ys : List Int) (i : Nat), 32 - i = d ∧ i ≤ 32 → ys.length = 32 → d + 20 < k → impl_ReadHash.l0 k s ys 32 i = some (pairsR (pairs s d i (ys.take i))) := by
  induction d with
  | zero =>
    intro k ys i hd hx hk
    obtain ⟨k, rfl⟩ : ∃ m, k = m + 1 := ⟨k - 1, by omega⟩
    rw [impl_ReadHash.l0, if_neg (by omega), pairs, pairsR, List.take_of_length_le (by omega)]
  | succ d ih =>
    intro k ys i hd hx hk
    obtain ⟨k, rfl⟩ : ∃ m, k = m + 1 := ⟨k - 1, by omega⟩
    have r1 := bt_range s (2 * (i : Int))
    have r2 := bt_range s (2 * (i : Int) + 1)
    have b1 := nibV_range (bt s (2 * (i : Int)))
    have b2 := nibV_range (bt s (2 * (i : Int) + 1))
    rw [impl_ReadHash.l0, if_pos (by omega), wrap_id (x := 2 * (i : Int)) (by omega) (by omega), if_pos (by omega), if_pos (by omega), nib_impl _ r1.1 r1.2 k (by omega), Option.bind_some, wrap_id (x := 2 * (i : Int) + 1) (by omega) (by omega), if_pos (by omega), if_pos (by omega), nib_impl _ r2.1 r2.2 k (by omega), Option.bind_some, pairs]
    by_cases c1 : nibV (bt s (2 * (i : Int))) < 0
    · rw [if_pos c1, if_pos c1, pairsR]
    rw [if_neg c1, if_neg c1]
    by_cases c2 : nibV (bt s (2 * (i : Int) + 1)) < 0
    · rw [if_pos c2, if_pos c2, pairsR]
    rw [if_neg c2, if_neg c2, if_pos (by omega), if_pos (by omega), wrap_id (x := 16 * nibV (bt s (2 * (i : Int)))) (by omega) (by omega), wrap_id (x := 16 * nibV (bt s (2 * (i : Int))) + nibV (bt s (2 * (i : Int) + 1))) (by omega) (by omega), wrap_id (x := (i : Int) + 1) (by omega) (by omega), show ((i : Int)).toNat = i by omega, show (i : Int) + 1 = ((i + 1 : Nat) : Int) by omega]
    rw [ih k _ (i + 1) (by omega) (by rw [List.length_set]; exact hx) (by omega), List.take_succ_eq_append_getElem (by rw [List.length_set]; omega), List.getElem_set_self, List.take_set_of_le (Nat.le_refl _)]

/-! snippet FnExactReadHash -/
theorem FnExactReadHash (s : ByteArray) (hs : s.size ≤ 9223372036854775807) : ∃ k, laws_FnExactReadHash.f k s = some true := by
  refine ⟨100, ?_⟩
  unfold laws_FnExactReadHash.f
  by_cases h : (s.size : Int) > 1048576
  · rw [if_pos h]
  rw [if_neg h]
  unfold spec_ReadHash.f impl_ReadHash.f
  rw [areLong_one]
  by_cases h2 : (s.size : Int) > 65536
  · rw [if_pos h2, decide_eq_true (show (65536 : Int) < s.size by omega)]; simp
  rw [if_neg h2, decide_eq_false (show ¬ (65536 : Int) < s.size by omega)]
  simp only [Option.bind_some, Bool.false_eq_true, if_false]
  by_cases h3 : (s.size : Int) = 64
  · rw [if_pos h3, if_pos h3, if_pos (by omega)]
    have a := readHash_spec s (by omega) 32 100 [] 0 (by omega) (by simp) (by omega)
    have b := readHash_impl s (by omega) 32 100 (List.replicate 32 0) 0 (by omega) (by simp) (by omega)
    rw [List.length_replicate]
    rw [show ((2 * (0 : Nat) : Nat) : Int) = 0 from rfl] at a
    rw [show ((0 : Nat) : Int) = 0 from rfl, List.take_zero] at b
    rw [a, show ((32 : Nat) : Int) = 32 from rfl, b]
    simp
  · rw [if_neg h3, if_neg h3]
    simp

end Go.Proofs.Ytgekkfgljjbikaa.Pure
