/- The statement FnExactCheck32: what the given program's printed functions answer, as the law asks; no condition. -/
import Derived.Test.YtgekkfgljjbikaaPFnExactCheck32x1
import Derived.Laws.BitsAllLaws
set_option linter.unusedVariables false
set_option linter.unusedSimpArgs false
namespace Go.Proofs.Ytgekkfgljjbikaa.Pure
open Go.RowKit Go.Proofs.Ytgekkfgljjbikaa.PFnExactCheck32 Go.Proofs.YtgekkfgljjbikaaW.PrintWords Go.Proofs.YtgekkfgljjbikaaW.PrintLast Go.Proofs.YtgekkfgljjbikaaW.PrintMore
/-! snippet base -/
theorem wrap_id {x : Int} (h1 : -9223372036854775808 ≤ x) (h2 : x ≤ 9223372036854775807) : wrap64 x = x := by
  unfold wrap64
  omega
theorem nat_pos_succ {k d : Nat} (h : d < k) : ∃ m, k = m + 1 := ⟨k - 1, by omega⟩
theorem u8_of_wf {l : List Int} (h : ∀ x ∈ l, (Lit.int .u8 x).wf = true) (i : Int) : 0 ≤ rd l i ∧ rd l i ≤ 255 := by
  unfold rd
  rw [List.getD_eq_getElem?_getD]
  by_cases hi : i.toNat < l.length
  · rw [List.getElem?_eq_getElem hi, Option.getD_some]
    have := h _ (List.getElem_mem hi)
    simp only [Lit.wf, Bool.and_eq_true, decide_eq_true_eq] at this
    have e1 : IntKind.u8.min = 0 := rfl
    have e2 : IntKind.u8.max = 255 := rfl
    omega
  · rw [List.getElem?_eq_none (by omega)]
    simp
theorem i64_of_wf {x : Int} (h : (Lit.int .i64 x).wf = true) : -9223372036854775808 ≤ x ∧ x ≤ 9223372036854775807 := by
  simp only [Lit.wf, Bool.and_eq_true, decide_eq_true_eq] at h
  have e1 : IntKind.i64.min = -9223372036854775808 := rfl
  have e2 : IntKind.i64.max = 9223372036854775807 := rfl
  omega
theorem toList_len (s : ByteArray) : s.toList.length = s.size := by
  rw [ByteArray.toList_eq]
  exact data_length s
theorem toList_inj {a b : ByteArray} (h : a.toList = b.toList) : a = b := by
  rw [ByteArray.toList_eq, ByteArray.toList_eq] at h
  exact Go.WideShapes.bytes_inj h

/-! snippet byteS -/
theorem set_take {xs ys : List Int} {i : Nat} (h : ys.take i = xs.take i) (hi : i < xs.length) (hl : ys.length = xs.length) : (ys.set i (rd xs i)).take (i + 1) = xs.take (i + 1) := by
  have e : rd xs i = xs[i] := by unfold rd; simp [List.getD_eq_getElem?_getD, hi]
  rw [List.take_succ_eq_append_getElem (by rw [List.length_set]; omega), List.take_succ_eq_append_getElem hi, List.getElem_set_self, e, List.take_set_of_le (Nat.le_refl _), h]
theorem toByteS_l0 (xs : List Int) (hx : xs.length ≤ 1048576) (d : Nat) : ∀ (k : Nat) (ys : List Int) (i : Nat), xs.length - i = d → i ≤ xs.length → ys.length = xs.length → ys.take i = xs.take i → d < k → laws_toByteS.l0 k xs ys i = some xs := by
  induction d with
  | zero =>
    intro k ys i hd hi hl ht hk
    obtain ⟨k, rfl⟩ := nat_pos_succ hk
    rw [laws_toByteS.l0, if_neg (by omega)]
    rw [List.take_of_length_le (by omega), List.take_of_length_le (by omega)] at ht
    rw [ht]
  | succ d ih =>
    intro k ys i hd hi hl ht hk
    obtain ⟨k, rfl⟩ := nat_pos_succ hk
    rw [laws_toByteS.l0, if_pos (by omega), if_pos (by omega), if_pos (by omega), wrap_id (by omega) (by omega), show ((i : Int) + 1) = ((i + 1 : Nat) : Int) by omega, show ((i : Int)).toNat = i by omega]
    exact ih k _ (i + 1) (by omega) (by omega) (by rw [List.length_set]; exact hl) (set_take ht (by omega) hl) (by omega)
theorem toByteS_tells (xs : List Int) (hx : xs.length ≤ 1048576) (k : Nat) (hk : xs.length < k) : laws_toByteS.f k xs = some xs := by
  unfold laws_toByteS.f
  rw [if_pos (by omega), if_pos (by omega)]
  exact toByteS_l0 xs hx xs.length k _ 0 (by omega) (by omega) (by rw [List.length_replicate]; omega) (by simp) hk
theorem eqByteS_l0 (xs : List Int) (hx : xs.length ≤ 1048576) (d : Nat) : ∀ (k : Nat) (i : Nat), xs.length - i = d → i ≤ xs.length → d < k → laws_eqByteS.l0 k xs xs i = some true := by
  induction d with
  | zero =>
    intro k i hd hi hk
    obtain ⟨k, rfl⟩ := nat_pos_succ hk
    rw [laws_eqByteS.l0, if_neg (by omega)]
  | succ d ih =>
    intro k i hd hi hk
    obtain ⟨k, rfl⟩ := nat_pos_succ hk
    rw [laws_eqByteS.l0, if_pos (by omega), if_pos (by omega), if_pos (by omega), if_pos rfl, wrap_id (by omega) (by omega), show ((i : Int) + 1) = ((i + 1 : Nat) : Int) by omega]
    exact ih k (i + 1) (by omega) (by omega) (by omega)
theorem eqByteS_same (xs : List Int) (hx : xs.length ≤ 1048576) (k : Nat) (hk : xs.length < k) : laws_eqByteS.f k xs xs = some true := by
  unfold laws_eqByteS.f
  rw [if_pos rfl]
  exact eqByteS_l0 xs hx xs.length k 0 (by omega) (by omega) hk

/-! snippet FnExactCheck32 -/
def crcBit (n : Nat) : Nat := if n % 2 = 1 then n / 2 ^^^ 3988292384 else n / 2
def crcBits : Nat → Nat → Nat
  | 0, n => n
  | d + 1, n => crcBits d (crcBit n)
def crcAll : List Int → Nat → Nat
  | [], n => n
  | c :: l, n => crcAll l (crcBits 8 (n ^^^ c.toNat))
theorem xor_lt32 {a b : Nat} (ha : a < 4294967296) (hb : b < 4294967296) : a ^^^ b < 4294967296 := Nat.xor_lt_two_pow (n := 32) ha hb
theorem crcBit_lt {n : Nat} (h : n < 4294967296) : crcBit n < 4294967296 := by
  unfold crcBit
  split
  · exact xor_lt32 (by omega) (by omega)
  · omega
theorem crcBits_lt (d : Nat) : ∀ {n : Nat}, n < 4294967296 → crcBits d n < 4294967296 := by
  induction d with
  | zero => exact fun h => h
  | succ d ih => exact fun h => ih (crcBit_lt h)
theorem i64_xor (a b : Nat) (ha : a < 4294967296) (hb : b < 4294967296) : Go.bits .xor .i64 (a : Int) (b : Int) = ((a ^^^ b : Nat) : Int) := by
  have h := xor_lt32 ha hb
  show IntKind.i64.wrap ((BitVec.ofInt 64 (a : Int) ^^^ BitVec.ofInt 64 (b : Int)).toNat : Int) = _
  rw [BitVec.toNat_xor, ofInt_u64 a (by omega), ofInt_u64 b (by omega), i64_w, wrap_id (by omega) (by omega)]
theorem crc_spec1 (xs : List Int) (i : Int) (d : Nat) : ∀ (k n : Nat), d ≤ 8 → n < 4294967296 → spec_l01Check.l1 (k + d + 1) xs n i (8 - d) = spec_l01Check.l0 k xs (crcBits d n) (wrap64 (i + 1)) := by
  induction d with
  | zero =>
    intro k n hd hn
    rw [spec_l01Check.l1, if_neg (by omega), crcBits]
  | succ d ih =>
    intro k n hd hn
    have e1 : Int.tmod (n : Int) 2 = ((n % 2 : Nat) : Int) := by rw [Int.tmod_eq_emod_of_nonneg (by omega)]; omega
    have e2 : wrap64 (Int.tdiv (n : Int) 2) = ((n / 2 : Nat) : Int) := by rw [Int.tdiv_eq_ediv_of_nonneg (by omega), wrap_id (by omega) (by omega)]; omega
    rw [show k + (d + 1) + 1 = (k + d + 1) + 1 by omega, spec_l01Check.l1, if_pos (by omega), e1, e2, show (3988292384 : Int) = ((3988292384 : Nat) : Int) from rfl, i64_xor _ _ (by omega) (by omega), wrap_id (by omega) (by omega), show ((8 : Int) - ((d + 1 : Nat) : Int)) + 1 = 8 - d by omega, ih k _ (by omega) (xor_lt32 (by omega) (by omega)), ih k _ (by omega) (by omega), crcBits, crcBit]
    by_cases h : n % 2 = 1
    · rw [if_pos (by omega), if_pos h]
    · rw [if_neg (by omega), if_neg h]
theorem crc_impl1 (xs : List Int) (m i : Int) (d : Nat) : ∀ (k n : Nat), d ≤ 8 → n < 4294967296 → impl_Check32.l1 (k + d + 1) n xs m i (8 - d) = impl_Check32.l0 k (crcBits d n) xs m (wrap64 (i + 1)) := by
  induction d with
  | zero =>
    intro k n hd hn
    rw [impl_Check32.l1, if_neg (by omega), crcBits]
  | succ d ih =>
    intro k n hd hn
    have e1 : Go.bits .and .u32 (n : Int) 1 = ((n % 2 : Nat) : Int) := by rw [show (1 : Int) = ((1 : Nat) : Int) from rfl, u32_and_nat n 1 hn (by omega), nat_mask1]
    have e2 : (n : Int) / 2 = ((n / 2 : Nat) : Int) := by omega
    rw [show k + (d + 1) + 1 = (k + d + 1) + 1 by omega, impl_Check32.l1, if_pos (by omega), e1, e2, show (3988292384 : Int) = ((3988292384 : Nat) : Int) from rfl, u32_xor_nat _ _ (by omega) (by omega), wrap_id (by omega) (by omega), show ((8 : Int) - ((d + 1 : Nat) : Int)) + 1 = 8 - d by omega, ih k _ (by omega) (xor_lt32 (by omega) (by omega)), ih k _ (by omega) (by omega), crcBits, crcBit]
    by_cases h : n % 2 = 1
    · rw [if_pos (by omega), if_pos h]
    · rw [if_neg (by omega), if_neg h]
theorem rd_at (xs : List Int) (i : Nat) (h : i < xs.length) : rd xs i = xs[i] := by unfold rd; simp [List.getD_eq_getElem?_getD, h]
theorem crc_spec (xs : List Int) (hx : xs.length ≤ 65536) (hw : ∀ x ∈ xs, (Lit.int .u8 x).wf = true) (d : Nat) : ∀ (k n i : Nat), xs.length - i = d → i ≤ xs.length → n < 4294967296 → 10 * d < k → spec_l01Check.l0 k xs n i = some ((crcAll (xs.drop i) n ^^^ 4294967295 : Nat) : Int) ∧ crcAll (xs.drop i) n < 4294967296 := by
  induction d with
  | zero =>
    intro k n i hd hi hn hk
    obtain ⟨k, rfl⟩ := nat_pos_succ hk
    rw [spec_l01Check.l0, if_neg (by omega), List.drop_eq_nil_of_le (by omega), crcAll, show (4294967295 : Int) = ((4294967295 : Nat) : Int) from rfl, i64_xor _ _ hn (by omega)]
    exact ⟨rfl, hn⟩
  | succ d ih =>
    intro k n i hd hi hn hk
    obtain ⟨k, rfl⟩ : ∃ m, k = (m + 8 + 1) + 1 := ⟨k - 10, by omega⟩
    have hlt : i < xs.length := by omega
    have hb := u8_of_wf hw (i : Int)
    have ec : rd xs i = (((xs[i]).toNat : Nat) : Int) := by rw [rd_at xs i hlt] at hb ⊢; omega
    have hc : xs[i].toNat < 256 := by rw [rd_at xs i hlt] at hb; omega
    rw [spec_l01Check.l0, if_pos (by omega), if_pos (by omega), ec, wrap_id (by omega) (by omega), i64_xor _ _ hn (by omega), List.drop_eq_getElem_cons hlt, crcAll]
    have := crc_spec1 xs i 8 k (n ^^^ xs[i].toNat) (by omega) (xor_lt32 hn (by omega))
    rw [show (8 : Int) - ((8 : Nat) : Int) = 0 from rfl] at this
    rw [this, wrap_id (by omega) (by omega), show ((i : Int) + 1) = ((i + 1 : Nat) : Int) by omega]
    exact ih k _ (i + 1) (by omega) (by omega) (crcBits_lt 8 (xor_lt32 hn (by omega))) (by omega)
theorem crc_impl (xs : List Int) (hx : xs.length ≤ 65536) (hw : ∀ x ∈ xs, (Lit.int .u8 x).wf = true) (d : Nat) : ∀ (k n i : Nat), xs.length - i = d → i ≤ xs.length → n < 4294967296 → 10 * d < k → impl_Check32.l0 k n xs xs.length i = some ((crcAll (xs.drop i) n ^^^ 4294967295 : Nat) : Int) := by
  induction d with
  | zero =>
    intro k n i hd hi hn hk
    obtain ⟨k, rfl⟩ := nat_pos_succ hk
    have h1 := xor_lt32 (a := 4294967295) (by omega) hn
    rw [impl_Check32.l0, if_neg (by omega), List.drop_eq_nil_of_le (by omega), crcAll, show (4294967295 : Int) = ((4294967295 : Nat) : Int) from rfl, u32_xor_nat _ _ (by omega) hn, wrap_id (by omega) (by omega), Nat.xor_comm]
  | succ d ih =>
    intro k n i hd hi hn hk
    obtain ⟨k, rfl⟩ : ∃ m, k = (m + 8 + 1) + 1 := ⟨k - 10, by omega⟩
    have hlt : i < xs.length := by omega
    have hb := u8_of_wf hw (i : Int)
    have ec : rd xs i % 4294967296 = (((xs[i]).toNat : Nat) : Int) := by rw [rd_at xs i hlt] at hb ⊢; omega
    have hc : xs[i].toNat < 256 := by rw [rd_at xs i hlt] at hb; omega
    rw [impl_Check32.l0, if_pos (by omega), if_pos (by omega), if_pos (by omega), ec, u32_xor_nat _ _ hn (by omega), List.drop_eq_getElem_cons hlt, crcAll]
    have := crc_impl1 xs xs.length i 8 k (n ^^^ xs[i].toNat) (by omega) (xor_lt32 hn (by omega))
    rw [show (8 : Int) - ((8 : Nat) : Int) = 0 from rfl] at this
    rw [this, wrap_id (by omega) (by omega), show ((i : Int) + 1) = ((i + 1 : Nat) : Int) by omega]
    exact ih k _ (i + 1) (by omega) (by omega) (crcBits_lt 8 (xor_lt32 hn (by omega))) (by omega)
theorem FnExactCheck32 (xs : List Int) (g : (xs.length ≤ 9223372036854775807 ∧ ∀ y ∈ xs, (Lit.int .u8 y).wf = true)) : ∃ k, laws_FnExactCheck32.f k xs = some true := by
  obtain ⟨hm, hw⟩ := g
  refine ⟨10 * xs.length + 1, ?_⟩
  unfold laws_FnExactCheck32.f
  by_cases h : (xs.length : Int) > 1048576
  · rw [if_pos h]
  rw [if_neg h, toByteS_tells xs (by omega) _ (by omega)]
  simp only [Option.bind_some]
  have e : ∃ r, spec_Check32.f (10 * xs.length + 1) xs = some r ∧ impl_Check32.f (10 * xs.length + 1) xs = some r := by
    unfold spec_Check32.f impl_Check32.f spec_l01Check.f
    by_cases h2 : (xs.length : Int) > 65536
    · rw [if_pos h2, if_pos h2]; exact ⟨0, rfl, rfl⟩
    rw [if_neg h2, if_neg h2]
    have h3 := (crc_spec xs (by omega) hw xs.length (10 * xs.length + 1) 4294967295 0 (by omega) (by omega) (by omega) (by omega)).1
    have h4 := crc_impl xs (by omega) hw xs.length (10 * xs.length + 1) 4294967295 0 (by omega) (by omega) (by omega) (by omega)
    exact ⟨_, by rw [show (4294967295 : Int) = ((4294967295 : Nat) : Int) from rfl, show (0 : Int) = ((0 : Nat) : Int) from rfl, h3]; rfl, h4⟩
  obtain ⟨r, h1, h2⟩ := e
  rw [h1, h2]
  simp only [Option.bind_some, if_true]
  rw [eqByteS_same xs (by omega) _ (by omega)]
  simp

end Go.Proofs.Ytgekkfgljjbikaa.Pure
