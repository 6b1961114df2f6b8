/- The statement FnHash: what the given program's printed functions answer, as the law asks; no condition. -/
import Derived.Test.YtmkaknegjahjaaaDoorPFnHashx3
import Derived.Laws.BitsAllLaws
import Derived.Test.YtmkaknegjahjaaaDoorShaE
set_option linter.unusedVariables false
set_option linter.unusedSimpArgs false
namespace Go.Proofs.YtmkaknegjahjaaaDoor.Pure
open Go.RowKit Go.Proofs.YtmkaknegjahjaaaDoor.PFnHash Go.Proofs.YtmkaknegjahjaaaDoorV.PrintWords Go.Proofs.YtmkaknegjahjaaaDoorV.PrintLast Go.Proofs.YtmkaknegjahjaaaDoorV.PrintMore
/-! snippet base -/
theorem wrap_id {x : Int} (h1 : -9223372036854775808 ≤ x) (h2 : x ≤ 9223372036854775807) : wrap64 x = x := by
  unfold wrap64
  omega
theorem nat_pos_succ {k d : Nat} (h : d < k) : ∃ m, k = m + 1 := ⟨k - 1, by omega⟩
theorem u8_of_wf {l : List Int} (h : ∀ x ∈ l, (Lit.int .u8 x).wf = true) (i : Int) : 0 ≤ rd l i ∧ rd l i ≤ 255 := by
  unfold rd
  rw [List.getD_eq_getElem?_getD]
  by_cases hi : i.toNat < l.length
  · rw [List.getElem?_eq_getElem hi, Option.getD_some]
    have := h _ (List.getElem_mem hi)
    simp only [Lit.wf, Bool.and_eq_true, decide_eq_true_eq] at this
    have e1 : IntKind.u8.min = 0 := rfl
    have e2 : IntKind.u8.max = 255 := rfl
    omega
  · rw [List.getElem?_eq_none (by omega)]
    simp
theorem i64_of_wf {x : Int} (h : (Lit.int .i64 x).wf = true) : -9223372036854775808 ≤ x ∧ x ≤ 9223372036854775807 := by
  simp only [Lit.wf, Bool.and_eq_true, decide_eq_true_eq] at h
  have e1 : IntKind.i64.min = -9223372036854775808 := rfl
  have e2 : IntKind.i64.max = 9223372036854775807 := rfl
  omega
theorem toList_len (s : ByteArray) : s.toList.length = s.size := by
  rw [ByteArray.toList_eq]
  exact data_length s
theorem toList_inj {a b : ByteArray} (h : a.toList = b.toList) : a = b := by
  rw [ByteArray.toList_eq, ByteArray.toList_eq] at h
  exact Go.WideShapes.bytes_inj h

/-! snippet hexD1 -/
theorem areLong_one (s : ByteArray) : impl_areLong.f [s] = some (decide ((65536 : Int) < s.size)) := by
  unfold impl_areLong.f
  simp

/-! snippet hexI -/
def hexD : ByteArray := ⟨#[48, 49, 50, 51, 52, 53, 54, 55, 56, 57, 97, 98, 99, 100, 101, 102]⟩
/-- The digits of d bytes from place i on. -/
def hexFrom (s : ByteArray) : Nat → Int → List Int
  | 0, _ => []
  | d + 1, i => [bt hexD ((Int.tdiv (bt s i) 16) % 256), bt hexD (Int.tmod (bt s i) 16)] ++ hexFrom s d (i + 1)
theorem halves (s : ByteArray) (i : Int) : 0 ≤ (Int.tdiv (bt s i) 16) % 256 ∧ (Int.tdiv (bt s i) 16) % 256 < 16 ∧ 0 ≤ Int.tmod (bt s i) 16 ∧ Int.tmod (bt s i) 16 < 16 := by
  have h := bt_range s i
  rw [Int.tdiv_eq_ediv_of_nonneg h.1, Int.tmod_eq_emod_of_nonneg h.1]
  omega
theorem hex_impl (s : ByteArray) (hs : s.size ≤ 65536) (d : Nat) : ∀ (k : Nat) (xs : List Int) (i : Int), 0 ≤ i → (s.size : Int) - i = d → xs.length ≤ 2 * i → d < k → impl_HashText.l0 k s xs s.size i = some (strOfNums (xs ++ hexFrom s d i), 0) := by
  induction d with
  | zero =>
    intro k xs i h0 hd hx hk
    obtain ⟨k, rfl⟩ := nat_pos_succ hk
    rw [impl_HashText.l0, if_neg (by omega), hexFrom, List.append_nil]
  | succ d ih =>
    intro k xs i h0 hd hx hk
    obtain ⟨k, rfl⟩ := nat_pos_succ hk
    obtain ⟨a, b, c, e⟩ := halves s i
    rw [impl_HashText.l0, if_pos (by omega), if_pos h0, if_pos (by omega), if_pos a, if_pos b, if_pos c, if_pos e, Option.bind_some, if_pos (by simp only [List.length_cons, List.length_nil]; omega), wrap_id (by omega) (by omega), ih k _ (i + 1) (by omega) (by omega) (by simp only [List.length_append, List.length_cons, List.length_nil]; omega) (by omega), hexFrom, List.append_assoc]
    rfl

/-! snippet readHashI -/
def nibV (c : Int) : Int := if 48 ≤ c ∧ c ≤ 57 then c - 48 else if 97 ≤ c ∧ c ≤ 102 then c - 87 else -1
theorem nibV_range (c : Int) : -1 ≤ nibV c ∧ nibV c ≤ 15 := by
  unfold nibV
  split
  · omega
  split <;> omega
theorem nib_all : ∀ c : Fin 256, impl_digit.f 17 (c.val : Int) = some (nibV c.val) := by decide +kernel
theorem nib_impl (c : Int) (h0 : 0 ≤ c) (h1 : c ≤ 255) (k : Nat) (hk : 17 ≤ k) : impl_digit.f k c = some (nibV c) := by
  have h := nib_all ⟨c.toNat, by omega⟩
  rw [show ((c.toNat : Nat) : Int) = c by omega] at h
  exact at_rounds (impl_digit.mono c) hk h
/-- The bytes that d pairs of digits are, from pair i on, behind xs; none where one is no digit. -/
def pairs (s : ByteArray) : Nat → Nat → List Int → Option (List Int)
  | 0, _, xs => some xs
  | d + 1, i, xs => if nibV (bt s (2 * i)) < 0 then none else if nibV (bt s (2 * i + 1)) < 0 then none else pairs s d (i + 1) (xs ++ [(16 * nibV (bt s (2 * i)) + nibV (bt s (2 * i + 1))) % 256])
def pairsR (o : Option (List Int)) : ByteArray × Int := match o with
  | none => (⟨#[]⟩, 3)
  | some l => (strOfNums l, 0)
theorem readHash_impl (s : ByteArray) (hs : s.size = 64) (d : Nat) : ∀ (k : Nat) (ys : List Int) (i : Nat), 32 - i = d ∧ i ≤ 32 → ys.length = 32 → d + 20 < k → impl_ReadHash.l0 k s ys 32 i = some (pairsR (pairs s d i (ys.take i))) := by
  induction d with
  | zero =>
    intro k ys i hd hx hk
    obtain ⟨k, rfl⟩ : ∃ m, k = m + 1 := ⟨k - 1, by omega⟩
    rw [impl_ReadHash.l0, if_neg (by omega), pairs, pairsR, List.take_of_length_le (by omega)]
  | succ d ih =>
    intro k ys i hd hx hk
    obtain ⟨k, rfl⟩ : ∃ m, k = m + 1 := ⟨k - 1, by omega⟩
    have r1 := bt_range s (2 * (i : Int))
    have r2 := bt_range s (2 * (i : Int) + 1)
    have b1 := nibV_range (bt s (2 * (i : Int)))
    have b2 := nibV_range (bt s (2 * (i : Int) + 1))
    rw [impl_ReadHash.l0, if_pos (by omega), wrap_id (x := 2 * (i : Int)) (by omega) (by omega), if_pos (by omega), if_pos (by omega), nib_impl _ r1.1 r1.2 k (by omega), Option.bind_some, wrap_id (x := 2 * (i : Int) + 1) (by omega) (by omega), if_pos (by omega), if_pos (by omega), nib_impl _ r2.1 r2.2 k (by omega), Option.bind_some, pairs]
    by_cases c1 : nibV (bt s (2 * (i : Int))) < 0
    · rw [if_pos c1, if_pos c1, pairsR]
    rw [if_neg c1, if_neg c1]
    by_cases c2 : nibV (bt s (2 * (i : Int) + 1)) < 0
    · rw [if_pos c2, if_pos c2, pairsR]
    rw [if_neg c2, if_neg c2, if_pos (by omega), if_pos (by omega), wrap_id (x := 16 * nibV (bt s (2 * (i : Int)))) (by omega) (by omega), wrap_id (x := 16 * nibV (bt s (2 * (i : Int))) + nibV (bt s (2 * (i : Int) + 1))) (by omega) (by omega), wrap_id (x := (i : Int) + 1) (by omega) (by omega), show ((i : Int)).toNat = i by omega, show (i : Int) + 1 = ((i + 1 : Nat) : Int) by omega]
    rw [ih k _ (i + 1) (by omega) (by rw [List.length_set]; exact hx) (by omega), List.take_succ_eq_append_getElem (by rw [List.length_set]; omega), List.getElem_set_self, List.take_set_of_le (Nat.le_refl _)]

/-! snippet u64 -/
theorem u64_small (x : Int) (h0 : 0 ≤ x) (h1 : x ≤ 100) : IntKind.u64.wrap x = x := by
  simp only [IntKind.wrap, IntKind.bits, IntKind.signed]
  simp
  omega

/-! snippet bitsI -/
def bitAt (s : ByteArray) (i j : Int) : Int := (48 + (Go.bits .and .u8 (shr .u8 (bt s i) j) 1)) % 256
/-- The bits d - 1 to 0 of a byte. -/
def byteBits (s : ByteArray) (i : Int) : Nat → List Int
  | 0 => []
  | d + 1 => bitAt s i d :: byteBits s i d
theorem byteBits_length (s : ByteArray) (i : Int) (d : Nat) : (byteBits s i d).length = d := by
  induction d with
  | zero => rfl
  | succ d ih => rw [byteBits, List.length_cons, ih]
/-- The bits of d bytes from place i on. -/
def bitsFrom (s : ByteArray) : Nat → Int → List Int
  | 0, _ => []
  | d + 1, i => byteBits s i 8 ++ bitsFrom s d (i + 1)
theorem bits_impl1 (s : ByteArray) (n i : Int) (h0 : 0 ≤ i) (h1 : i < s.size) (d : Nat) : ∀ (k : Nat) (xs : List Int), d ≤ 8 → xs.length ≤ 1000000 - d → impl_hashBits.l1 (k + d + 1) s xs i ((d : Int) - 1) n i = impl_hashBits.l0 k s (xs ++ byteBits s i d) n (wrap64 (i + 1)) := by
  induction d with
  | zero =>
    intro k xs hd hx
    rw [impl_hashBits.l1, if_neg (by omega), byteBits, List.append_nil]
  | succ d ih =>
    intro k xs hd hx
    rw [show k + (d + 1) + 1 = (k + d + 1) + 1 by omega, impl_hashBits.l1, if_pos (by omega), if_pos h0, if_pos h1, show ((d + 1 : Nat) : Int) - 1 = d by omega, if_pos (by omega), if_pos (by omega), wrap_id (by omega) (by omega), ih k _ (by omega) (by simp only [List.length_append, List.length_cons, List.length_nil]; omega), byteBits, List.append_assoc]
    rfl
theorem bits_impl (s : ByteArray) (hs : s.size ≤ 65536) (d : Nat) : ∀ (k : Nat) (xs : List Int) (i : Int), 0 ≤ i → (s.size : Int) - i = d → xs.length ≤ 8 * i → 10 * d < k → impl_hashBits.l0 k s xs s.size i = some (strOfNums (xs ++ bitsFrom s d i)) := by
  induction d with
  | zero =>
    intro k xs i h0 hd hx hk
    obtain ⟨k, rfl⟩ := nat_pos_succ hk
    rw [impl_hashBits.l0, if_neg (by omega), bitsFrom, List.append_nil]
  | succ d ih =>
    intro k xs i h0 hd hx hk
    obtain ⟨k, rfl⟩ : ∃ m, k = (m + 8 + 1) + 1 := ⟨k - 10, by omega⟩
    rw [impl_hashBits.l0, if_pos (by omega)]
    have := bits_impl1 s s.size i h0 (by omega) 8 k xs (by omega) (by omega)
    rw [show ((8 : Nat) : Int) - 1 = 7 from rfl] at this
    rw [this, wrap_id (by omega) (by omega), ih k _ (i + 1) (by omega) (by omega) (by rw [List.length_append, byteBits_length]; omega) (by omega), bitsFrom, List.append_assoc]
theorem impl_hashBits_tells (s : ByteArray) (hs : s.size ≤ 65536) (k : Nat) (hk : 10 * s.size + 1 ≤ k) : impl_hashBits.f k s = some (strOfNums (bitsFrom s s.size 0)) := by
  unfold impl_hashBits.f
  rw [wrap_id (by omega) (by omega), if_pos (by omega), if_pos (by omega), bits_impl s hs s.size k [] 0 (by omega) (by omega) (by simp) (by omega)]
  rfl

/-! snippet crc -/
def crcBit (n : Nat) : Nat := if n % 2 = 1 then n / 2 ^^^ 3988292384 else n / 2
def crcBits : Nat → Nat → Nat
  | 0, n => n
  | d + 1, n => crcBits d (crcBit n)
def crcAll : List Int → Nat → Nat
  | [], n => n
  | c :: l, n => crcAll l (crcBits 8 (n ^^^ c.toNat))
theorem xor_lt32 {a b : Nat} (ha : a < 4294967296) (hb : b < 4294967296) : a ^^^ b < 4294967296 := Nat.xor_lt_two_pow (n := 32) ha hb
theorem crcBit_lt {n : Nat} (h : n < 4294967296) : crcBit n < 4294967296 := by
  unfold crcBit
  split
  · exact xor_lt32 (by omega) (by omega)
  · omega
theorem crcBits_lt (d : Nat) : ∀ {n : Nat}, n < 4294967296 → crcBits d n < 4294967296 := by
  induction d with
  | zero => exact fun h => h
  | succ d ih => exact fun h => ih (crcBit_lt h)
theorem i64_xor (a b : Nat) (ha : a < 4294967296) (hb : b < 4294967296) : Go.bits .xor .i64 (a : Int) (b : Int) = ((a ^^^ b : Nat) : Int) := by
  have h := xor_lt32 ha hb
  show IntKind.i64.wrap ((BitVec.ofInt 64 (a : Int) ^^^ BitVec.ofInt 64 (b : Int)).toNat : Int) = _
  rw [BitVec.toNat_xor, ofInt_u64 a (by omega), ofInt_u64 b (by omega), i64_w, wrap_id (by omega) (by omega)]
theorem crc_spec1 (xs : List Int) (i : Int) (d : Nat) : ∀ (k n : Nat), d ≤ 8 → n < 4294967296 → spec_l01Check.l1 (k + d + 1) xs n i (8 - d) = spec_l01Check.l0 k xs (crcBits d n) (wrap64 (i + 1)) := by
  induction d with
  | zero =>
    intro k n hd hn
    rw [spec_l01Check.l1, if_neg (by omega), crcBits]
  | succ d ih =>
    intro k n hd hn
    have e1 : Int.tmod (n : Int) 2 = ((n % 2 : Nat) : Int) := by rw [Int.tmod_eq_emod_of_nonneg (by omega)]; omega
    have e2 : wrap64 (Int.tdiv (n : Int) 2) = ((n / 2 : Nat) : Int) := by rw [Int.tdiv_eq_ediv_of_nonneg (by omega), wrap_id (by omega) (by omega)]; omega
    rw [show k + (d + 1) + 1 = (k + d + 1) + 1 by omega, spec_l01Check.l1, if_pos (by omega), e1, e2, show (3988292384 : Int) = ((3988292384 : Nat) : Int) from rfl, i64_xor _ _ (by omega) (by omega), wrap_id (by omega) (by omega), show ((8 : Int) - ((d + 1 : Nat) : Int)) + 1 = 8 - d by omega, ih k _ (by omega) (xor_lt32 (by omega) (by omega)), ih k _ (by omega) (by omega), crcBits, crcBit]
    by_cases h : n % 2 = 1
    · rw [if_pos (by omega), if_pos h]
    · rw [if_neg (by omega), if_neg h]
theorem crc_impl1 (xs : List Int) (m i : Int) (d : Nat) : ∀ (k n : Nat), d ≤ 8 → n < 4294967296 → impl_Check32.l1 (k + d + 1) n xs m i (8 - d) = impl_Check32.l0 k (crcBits d n) xs m (wrap64 (i + 1)) := by
  induction d with
  | zero =>
    intro k n hd hn
    rw [impl_Check32.l1, if_neg (by omega), crcBits]
  | succ d ih =>
    intro k n hd hn
    have e1 : Go.bits .and .u32 (n : Int) 1 = ((n % 2 : Nat) : Int) := by rw [show (1 : Int) = ((1 : Nat) : Int) from rfl, u32_and_nat n 1 hn (by omega), nat_mask1]
    have e2 : (n : Int) / 2 = ((n / 2 : Nat) : Int) := by omega
    rw [show k + (d + 1) + 1 = (k + d + 1) + 1 by omega, impl_Check32.l1, if_pos (by omega), e1, e2, show (3988292384 : Int) = ((3988292384 : Nat) : Int) from rfl, u32_xor_nat _ _ (by omega) (by omega), wrap_id (by omega) (by omega), show ((8 : Int) - ((d + 1 : Nat) : Int)) + 1 = 8 - d by omega, ih k _ (by omega) (xor_lt32 (by omega) (by omega)), ih k _ (by omega) (by omega), crcBits, crcBit]
    by_cases h : n % 2 = 1
    · rw [if_pos (by omega), if_pos h]
    · rw [if_neg (by omega), if_neg h]
theorem rd_at (xs : List Int) (i : Nat) (h : i < xs.length) : rd xs i = xs[i] := by unfold rd; simp [List.getD_eq_getElem?_getD, h]
theorem crc_spec (xs : List Int) (hx : xs.length ≤ 65536) (hw : ∀ x ∈ xs, (Lit.int .u8 x).wf = true) (d : Nat) : ∀ (k n i : Nat), xs.length - i = d → i ≤ xs.length → n < 4294967296 → 10 * d < k → spec_l01Check.l0 k xs n i = some ((crcAll (xs.drop i) n ^^^ 4294967295 : Nat) : Int) ∧ crcAll (xs.drop i) n < 4294967296 := by
  induction d with
  | zero =>
    intro k n i hd hi hn hk
    obtain ⟨k, rfl⟩ := nat_pos_succ hk
    rw [spec_l01Check.l0, if_neg (by omega), List.drop_eq_nil_of_le (by omega), crcAll, show (4294967295 : Int) = ((4294967295 : Nat) : Int) from rfl, i64_xor _ _ hn (by omega)]
    exact ⟨rfl, hn⟩
  | succ d ih =>
    intro k n i hd hi hn hk
    obtain ⟨k, rfl⟩ : ∃ m, k = (m + 8 + 1) + 1 := ⟨k - 10, by omega⟩
    have hlt : i < xs.length := by omega
    have hb := u8_of_wf hw (i : Int)
    have ec : rd xs i = (((xs[i]).toNat : Nat) : Int) := by rw [rd_at xs i hlt] at hb ⊢; omega
    have hc : xs[i].toNat < 256 := by rw [rd_at xs i hlt] at hb; omega
    rw [spec_l01Check.l0, if_pos (by omega), if_pos (by omega), ec, wrap_id (by omega) (by omega), i64_xor _ _ hn (by omega), List.drop_eq_getElem_cons hlt, crcAll]
    have := crc_spec1 xs i 8 k (n ^^^ xs[i].toNat) (by omega) (xor_lt32 hn (by omega))
    rw [show (8 : Int) - ((8 : Nat) : Int) = 0 from rfl] at this
    rw [this, wrap_id (by omega) (by omega), show ((i : Int) + 1) = ((i + 1 : Nat) : Int) by omega]
    exact ih k _ (i + 1) (by omega) (by omega) (crcBits_lt 8 (xor_lt32 hn (by omega))) (by omega)
theorem crc_impl (xs : List Int) (hx : xs.length ≤ 65536) (hw : ∀ x ∈ xs, (Lit.int .u8 x).wf = true) (d : Nat) : ∀ (k n i : Nat), xs.length - i = d → i ≤ xs.length → n < 4294967296 → 10 * d < k → impl_Check32.l0 k n xs xs.length i = some ((crcAll (xs.drop i) n ^^^ 4294967295 : Nat) : Int) := by
  induction d with
  | zero =>
    intro k n i hd hi hn hk
    obtain ⟨k, rfl⟩ := nat_pos_succ hk
    have h1 := xor_lt32 (a := 4294967295) (by omega) hn
    rw [impl_Check32.l0, if_neg (by omega), List.drop_eq_nil_of_le (by omega), crcAll, show (4294967295 : Int) = ((4294967295 : Nat) : Int) from rfl, u32_xor_nat _ _ (by omega) hn, wrap_id (by omega) (by omega), Nat.xor_comm]
  | succ d ih =>
    intro k n i hd hi hn hk
    obtain ⟨k, rfl⟩ : ∃ m, k = (m + 8 + 1) + 1 := ⟨k - 10, by omega⟩
    have hlt : i < xs.length := by omega
    have hb := u8_of_wf hw (i : Int)
    have ec : rd xs i % 4294967296 = (((xs[i]).toNat : Nat) : Int) := by rw [rd_at xs i hlt] at hb ⊢; omega
    have hc : xs[i].toNat < 256 := by rw [rd_at xs i hlt] at hb; omega
    rw [impl_Check32.l0, if_pos (by omega), if_pos (by omega), if_pos (by omega), ec, u32_xor_nat _ _ hn (by omega), List.drop_eq_getElem_cons hlt, crcAll]
    have := crc_impl1 xs xs.length i 8 k (n ^^^ xs[i].toNat) (by omega) (xor_lt32 hn (by omega))
    rw [show (8 : Int) - ((8 : Nat) : Int) = 0 from rfl] at this
    rw [this, wrap_id (by omega) (by omega), show ((i : Int) + 1) = ((i + 1 : Nat) : Int) by omega]
    exact ih k _ (i + 1) (by omega) (by omega) (crcBits_lt 8 (xor_lt32 hn (by omega))) (by omega)

/-! snippet u8r -/
theorem u8_range {xs : List Int} (hw : ∀ x ∈ xs, (Lit.int .u8 x).wf = true) : ∀ x ∈ xs, 0 ≤ x ∧ x < 256 := by
  intro x hx
  have := hw x hx
  simp only [Lit.wf, Bool.and_eq_true, decide_eq_true_eq] at this
  have e1 : IntKind.u8.min = 0 := rfl
  have e2 : IntKind.u8.max = 255 := rfl
  omega

/-! snippet FnHash -/
theorem bt_nums (pre rest : List Int) (a : Int) (h0 : 0 ≤ a) (h1 : a ≤ 255) (i : Int) (hi : i = (pre.length : Int)) : bt (strOfNums (pre ++ a :: rest)) i = a := by
  subst hi
  unfold bt
  have hz : (strOfNums (pre ++ a :: rest)).size = pre.length + (rest.length + 1) := by rw [strOfNums_size, List.length_append, List.length_cons]
  rw [dif_pos (by omega)]
  unfold strOfNums
  simp only [ByteArray.getElem_eq_getElem_data, List.getElem_toArray, List.getElem_map, Int.toNat_natCast]
  rw [List.getElem_append_right (by omega)]
  simp
  omega
def bytesFrom (h : ByteArray) : Nat → Int → List Int
  | 0, _ => []
  | d + 1, i => bt h i :: bytesFrom h d (i + 1)
theorem bytesFrom_eq (h : ByteArray) (d : Nat) : ∀ i : Nat, h.size = i + d → bytesFrom h d i = (bytesOf h).drop i := by
  have hl := bytesOf_length h
  induction d with
  | zero => intro i hi; rw [bytesFrom, List.drop_eq_nil_of_le (by omega)]
  | succ d ih =>
    intro i hi
    have hlt : i < (bytesOf h).length := by omega
    rw [List.drop_eq_getElem_cons hlt, bytesFrom, show (i : Int) + 1 = ((i + 1 : Nat) : Int) by omega, ih (i + 1) (by omega), ← rd_bytesOf, rd_at _ i hlt]
theorem hexFrom_length (h : ByteArray) (d : Nat) : ∀ i : Int, (hexFrom h d i).length = 2 * d := by
  induction d with
  | zero => intro i; rfl
  | succ d ih => intro i; rw [hexFrom, List.length_append, ih]; simp only [List.length_cons, List.length_nil]; omega
theorem hexD_nib (v : Int) (h0 : 0 ≤ v) (h1 : v < 16) : nibV (bt hexD v) = v := by
  have h : ∀ v : Fin 16, nibV (bt hexD (v.val : Int)) = v.val := by decide +kernel
  have := h ⟨v.toNat, by omega⟩
  rw [show ((v.toNat : Nat) : Int) = v by omega] at this
  exact this
theorem pairs_hex (h : ByteArray) (d : Nat) : ∀ (i : Nat) (pre xs : List Int), pre.length = 2 * i → pairs (strOfNums (pre ++ hexFrom h d i)) d i xs = some (xs ++ bytesFrom h d i) := by
  induction d with
  | zero => intro i pre xs hp; rw [pairs, bytesFrom, List.append_nil]
  | succ d ih =>
    intro i pre xs hp
    obtain ⟨a, b, c, e⟩ := halves h i
    have r := bt_range h i
    have n1 := hexD_nib _ a b
    have n2 := hexD_nib _ c e
    have q1 := bt_range hexD ((Int.tdiv (bt h i) 16) % 256)
    have q2 := bt_range hexD (Int.tmod (bt h i) 16)
    have e1 : bt (strOfNums (pre ++ hexFrom h (d + 1) i)) (2 * (i : Int)) = bt hexD ((Int.tdiv (bt h i) 16) % 256) := by
      rw [hexFrom]
      exact bt_nums pre _ _ q1.1 q1.2 _ (by omega)
    have e2 : bt (strOfNums (pre ++ hexFrom h (d + 1) i)) (2 * (i : Int) + 1) = bt hexD (Int.tmod (bt h i) 16) := by
      rw [hexFrom]
      have := bt_nums (pre ++ [bt hexD ((Int.tdiv (bt h i) 16) % 256)]) (hexFrom h d (i + 1)) _ q2.1 q2.2 (2 * (i : Int) + 1) (by rw [List.length_append]; simp only [List.length_cons, List.length_nil]; omega)
      rw [List.append_assoc] at this
      exact this
    rw [pairs, e1, e2, n1, n2, if_neg (by omega), if_neg (by omega)]
    have e3 : (16 * ((Int.tdiv (bt h i) 16) % 256) + Int.tmod (bt h i) 16) % 256 = bt h i := by
      rw [Int.tdiv_eq_ediv_of_nonneg r.1, Int.tmod_eq_emod_of_nonneg r.1]
      omega
    rw [e3, hexFrom, ← List.append_assoc, show (i : Int) + 1 = ((i + 1 : Nat) : Int) by omega, ih (i + 1) _ _ (by rw [List.length_append]; simp only [List.length_cons, List.length_nil]; omega), bytesFrom, List.append_assoc]
    rfl
def hexText (h : ByteArray) : ByteArray := strOfNums (hexFrom h 32 0)
theorem hexText_size (h : ByteArray) : (hexText h).size = 64 := by unfold hexText; rw [strOfNums_size, hexFrom_length]
theorem hashText_tells (h : ByteArray) (hz : h.size = 32) (k : Nat) (hk : 33 ≤ k) : impl_HashText.f k h = some (hexText h, 0) := by
  unfold impl_HashText.f impl_isHash.f
  rw [areLong_one, Option.bind_some, if_neg (by rw [decide_eq_true_eq]; omega), Option.bind_some, if_pos (by rw [hz]; rfl), if_pos (by omega), hex_impl h (by omega) 32 k [] 0 (by omega) (by omega) (by simp) (by omega)]
  rfl
theorem readHash_tells (h : ByteArray) (hz : h.size = 32) (k : Nat) (hk : 53 ≤ k) : impl_ReadHash.f k (hexText h) = some (h, 0) := by
  have hs := hexText_size h
  unfold impl_ReadHash.f
  rw [areLong_one, Option.bind_some, if_neg (by rw [decide_eq_true_eq]; omega), if_pos (by omega), if_pos (by omega), Option.bind_some, List.length_replicate]
  have b := readHash_impl (hexText h) hs 32 k (List.replicate 32 0) 0 (by omega) (by simp) (by omega)
  have p := pairs_hex h 32 0 [] [] rfl
  rw [List.nil_append, List.nil_append, bytesFrom_eq h 32 0 (by omega), List.drop_zero] at p
  rw [show ((0 : Nat) : Int) = 0 from rfl, List.take_zero] at b
  rw [show ((0 : Nat) : Int) = 0 from rfl] at p
  rw [show ((32 : Nat) : Int) = 32 from rfl, b]
  unfold hexText
  rw [p, pairsR, Sha.nums_bytesOf]
def bitB (b j : Int) : Int := (48 + (Go.bits .and .u8 (shr .u8 b j) 1)) % 256
def addBit (n b j : Int) : Int := wrap64 (wrap64 (n * 2) + (bitB b j - 48) % 256)
theorem all_bits : ∀ b : Fin 256, addBit (addBit (addBit (addBit (addBit (addBit (addBit (addBit 0 b.val 7) b.val 6) b.val 5) b.val 4) b.val 3) b.val 2) b.val 1) b.val 0 = (b.val : Int) := by decide +kernel
theorem bits_sum (b : Int) (h0 : 0 ≤ b) (h1 : b ≤ 255) : addBit (addBit (addBit (addBit (addBit (addBit (addBit (addBit 0 b 7) b 6) b 5) b 4) b 3) b 2) b 1) b 0 = b := by
  have := all_bits ⟨b.toNat, by omega⟩
  rw [show ((b.toNat : Nat) : Int) = b by omega] at this
  exact this
theorem bitAt_range (s : ByteArray) (i j : Int) : 0 ≤ bitAt s i j ∧ bitAt s i j ≤ 255 := by unfold bitAt; omega
theorem bitsFrom_len (s : ByteArray) (d : Nat) : ∀ i : Int, (bitsFrom s d i).length = 8 * d := by
  induction d with
  | zero => intro i; rfl
  | succ d ih => intro i; rw [bitsFrom, List.length_append, byteBits_length, ih]; omega
def bitsText (h : ByteArray) : ByteArray := strOfNums (bitsFrom h 32 0)
theorem bitsFrom_split (s : ByteArray) (i : Nat) : ∀ (d : Nat) (j : Int), i < d → ∃ pre rest, bitsFrom s d j = pre ++ byteBits s (j + i) 8 ++ rest ∧ pre.length = 8 * i := by
  induction i with
  | zero =>
    intro d j hd
    obtain ⟨d, rfl⟩ := nat_pos_succ hd
    exact ⟨[], bitsFrom s d (j + 1), by rw [bitsFrom, List.nil_append, show j + ((0 : Nat) : Int) = j by omega], rfl⟩
  | succ i ih =>
    intro d j hd
    obtain ⟨d, rfl⟩ := nat_pos_succ hd
    obtain ⟨pre, rest, e, hl⟩ := ih d (j + 1) (by omega)
    exact ⟨byteBits s j 8 ++ pre, rest, by rw [bitsFrom, e, show j + 1 + (i : Int) = j + ((i + 1 : Nat) : Int) by omega]; simp only [List.append_assoc], by rw [List.length_append, byteBits_length, hl]; omega⟩
theorem byteBits_split (s : ByteArray) (i : Int) (j : Nat) : ∀ d : Nat, j < d → ∃ pre rest, byteBits s i d = pre ++ bitAt s i ((d : Int) - 1 - j) :: rest ∧ pre.length = j := by
  induction j with
  | zero =>
    intro d hd
    obtain ⟨d, rfl⟩ := nat_pos_succ hd
    exact ⟨[], byteBits s i d, by rw [byteBits, List.nil_append, show ((d + 1 : Nat) : Int) - 1 - ((0 : Nat) : Int) = d by omega], rfl⟩
  | succ j ih =>
    intro d hd
    obtain ⟨d, rfl⟩ := nat_pos_succ hd
    obtain ⟨pre, rest, e, hl⟩ := ih d (by omega)
    exact ⟨bitAt s i d :: pre, rest, by rw [byteBits, e, show ((d + 1 : Nat) : Int) - 1 - ((j + 1 : Nat) : Int) = (d : Int) - 1 - j by omega]; rfl, by rw [List.length_cons, hl]⟩
theorem bt_bits (h : ByteArray) (i j : Nat) (hi : i < 32) (hj : j < 8) : bt (bitsText h) (8 * (i : Int) + j) = bitB (bt h i) (7 - j) := by
  obtain ⟨p1, r1, e1, l1⟩ := bitsFrom_split h i 32 0 hi
  obtain ⟨p2, r2, e2, l2⟩ := byteBits_split h (0 + i) j 8 hj
  have hb := bitAt_range h (0 + i) (((8 : Nat) : Int) - 1 - j)
  have := bt_nums (p1 ++ p2) (r2 ++ r1) _ hb.1 hb.2 (8 * (i : Int) + j) (by rw [List.length_append, l1, l2]; omega)
  unfold bitsText
  rw [e1, e2]
  rw [show p1 ++ (p2 ++ bitAt h (0 + i) (((8 : Nat) : Int) - 1 - j) :: r2) ++ r1 = p1 ++ p2 ++ bitAt h (0 + i) (((8 : Nat) : Int) - 1 - j) :: (r2 ++ r1) by simp only [List.append_assoc, List.cons_append]]
  rw [this]
  unfold bitAt bitB
  rw [show (0 : Int) + i = i by omega, show ((8 : Nat) : Int) - 1 - (j : Int) = 7 - j by omega]
theorem l1_step (xs : List Int) (h : ByteArray) (i j : Nat) (hi : i < 32) (hj : j < 8) (n : Int) (k : Nat) : laws_FnHash.l1 (k + 1) xs h (bitsText h) i n j = laws_FnHash.l1 k xs h (bitsText h) i (addBit n (bt h i) (7 - j)) ((j + 1 : Nat) : Int) := by
  have hz : (bitsText h).size = 256 := by unfold bitsText; rw [strOfNums_size, bitsFrom_len]
  rw [laws_FnHash.l1, if_pos (by omega), wrap_id (x := 8 * (i : Int)) (by omega) (by omega), wrap_id (x := 8 * (i : Int) + j) (by omega) (by omega), if_pos (by omega), if_pos (by omega), bt_bits h i j hi hj, wrap_id (x := (j : Int) + 1) (by omega) (by omega), show (j : Int) + 1 = ((j + 1 : Nat) : Int) by omega]
  rfl
theorem l1_all (xs : List Int) (h : ByteArray) (hz : h.size = 32) (i : Nat) (hi : i < 32) (k : Nat) : laws_FnHash.l1 (k + 9) xs h (bitsText h) i 0 0 = laws_FnHash.l0 k xs h (bitsText h) ((i + 1 : Nat) : Int) := by
  have hb := bt_range h i
  have s := fun (j : Nat) (hj : j < 8) n k => l1_step xs h i j hi hj n k
  rw [show (0 : Int) = ((0 : Nat) : Int) from rfl, s 0 (by omega), s (0 + 1) (by omega), s (0 + 1 + 1) (by omega), s (0 + 1 + 1 + 1) (by omega), s (0 + 1 + 1 + 1 + 1) (by omega), s (0 + 1 + 1 + 1 + 1 + 1) (by omega), s (0 + 1 + 1 + 1 + 1 + 1 + 1) (by omega), s (0 + 1 + 1 + 1 + 1 + 1 + 1 + 1) (by omega), laws_FnHash.l1, if_neg (by omega), if_pos (by omega), if_pos (by omega)]
  refine (if_pos (bits_sum _ hb.1 hb.2)).trans ?_
  rw [wrap_id (by omega) (by omega)]
  rfl
theorem crc_same (xs : List Int) (hx : xs.length ≤ 65536) (hw : ∀ x ∈ xs, (Lit.int .u8 x).wf = true) (k : Nat) (hk : 10 * xs.length < k) : ∃ r, spec_Check32.f k xs = some r ∧ impl_Check32.f k xs = some r := by
  unfold spec_Check32.f impl_Check32.f spec_l01Check.f
  rw [if_neg (by omega), if_neg (by omega)]
  have h3 := (crc_spec xs (by omega) hw xs.length k 4294967295 0 (by omega) (by omega) (by omega) (by omega)).1
  have h4 := crc_impl xs (by omega) hw xs.length k 4294967295 0 (by omega) (by omega) (by omega) (by omega)
  exact ⟨_, by rw [show (4294967295 : Int) = ((4294967295 : Nat) : Int) from rfl, show (0 : Int) = ((0 : Nat) : Int) from rfl, h3]; rfl, h4⟩
theorem hash_l0 (xs : List Int) (hx : xs.length ≤ 65536) (hw : ∀ x ∈ xs, (Lit.int .u8 x).wf = true) (h : ByteArray) (hz : h.size = 32) (d : Nat) : ∀ (k : Nat) (i : Nat), i + d = 32 → 10 * d + 10 * xs.length + 1 < k → laws_FnHash.l0 k xs h (bitsText h) i = some true := by
  induction d with
  | zero =>
    intro k i hd hk
    obtain ⟨k, rfl⟩ : ∃ m, k = m + 1 := ⟨k - 1, by omega⟩
    obtain ⟨r, e1, e2⟩ := crc_same xs hx hw k (by omega)
    rw [laws_FnHash.l0, if_neg (by omega), e2, Option.bind_some, e1, Option.bind_some]
    simp
  | succ d ih =>
    intro k i hd hk
    obtain ⟨k, rfl⟩ : ∃ m, k = m + 9 + 1 := ⟨k - 10, by omega⟩
    rw [laws_FnHash.l0, if_pos (by omega), l1_all xs h hz i (by omega) k]
    exact ih k (i + 1) (by omega) (by omega)
theorem FnHash (x0 : List Int) (gx0 : (x0.length ≤ 9223372036854775807 ∧ ∀ y ∈ x0, (Lit.int .u8 y).wf = true)) : ∃ k, laws_FnHash.f k x0 = some true := by
  obtain ⟨hm, hw⟩ := gx0
  obtain ⟨k, hk⟩ : ∃ k : Nat, 10 * x0.length + 1000 ≤ k := ⟨_, Nat.le_refl _⟩
  refine ⟨k + 1 + 1, ?_⟩
  unfold laws_FnHash.f
  by_cases h : (x0.length : Int) > 1048576
  · rw [if_pos h]
  rw [if_neg h]
  by_cases h2 : (x0.length : Int) > 65536
  · rw [if_pos h2]
    unfold impl_Hash.f
    rw [if_pos h2, Option.bind_some, ByteArray.toList_eq]
    rfl
  rw [if_neg h2]
  obtain ⟨H, e1, e2, hz⟩ : ∃ H : ByteArray, impl_Hash.f x0 = some H ∧ spec_Hash.f x0 = some H ∧ H.size = 32 := by
    refine ⟨Sha.sha (strOfNums x0), ?_, ?_, Sha.sha_size _⟩
    · unfold impl_Hash.f impl_hash.f
      rw [if_neg h2, if_pos (by rw [strOfNums_size]; omega), Option.bind_some]
    · unfold spec_Hash.f spec_l01Hash.f
      rw [if_neg h2, if_pos (by omega), Option.bind_some, Sha.sha_of x0 (u8_range hw)]
  have hs := hexText_size H
  rw [e1, Option.bind_some, hashText_tells H hz _ (by omega), Option.bind_some]
  dsimp only
  rw [readHash_tells H hz _ (by omega), Option.bind_some, if_pos (by omega), e2, Option.bind_some]
  dsimp only
  rw [if_pos rfl, if_pos rfl, if_pos (by omega), if_pos rfl, laws_FnHash.j0, if_neg (by simp)]
  have hb : impl_HashBits.f (k + 1) H = some (bitsText H, 0) := by
    unfold impl_HashBits.f impl_isHash.f
    rw [areLong_one, Option.bind_some, if_neg (by rw [decide_eq_true_eq]; omega), Option.bind_some, if_pos (by rw [hz]; rfl), impl_hashBits_tells H (by omega) _ (by omega), Option.bind_some, hz]
    rfl
  have hz2 : (bitsText H).size = 256 := by unfold bitsText; rw [strOfNums_size, bitsFrom_len]
  rw [hb, Option.bind_some]
  dsimp only
  rw [if_pos rfl, hz2, laws_FnHash.j1, if_neg (by decide)]
  exact hash_l0 x0 (by omega) hw H hz 32 k 0 (by omega) (by omega)

end Go.Proofs.YtmkaknegjahjaaaDoor.Pure
