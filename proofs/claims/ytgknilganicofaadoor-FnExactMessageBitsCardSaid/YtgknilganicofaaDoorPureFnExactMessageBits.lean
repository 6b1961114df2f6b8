/- The statement FnExactMessageBits: what the given program's printed functions answer, as the law asks; no condition. -/
import Derived.Test.YtgknilganicofaaDoorPFnExactMessageBitsx1
import Derived.Test.YtgknilganicofaaDoorShaE
set_option linter.unusedVariables false
set_option linter.unusedSimpArgs false
namespace Go.Proofs.YtgknilganicofaaDoor.Pure
open Go.RowKit Go.Proofs.YtgknilganicofaaDoor.PFnExactMessageBits Go.Proofs.YtgknilganicofaaDoorV.PrintWords Go.Proofs.YtgknilganicofaaDoorV.PrintLast Go.Proofs.YtgknilganicofaaDoorV.PrintMore
/-! snippet base -/
theorem wrap_id {x : Int} (h1 : -9223372036854775808 ≤ x) (h2 : x ≤ 9223372036854775807) : wrap64 x = x := by
  unfold wrap64
  omega
theorem nat_pos_succ {k d : Nat} (h : d < k) : ∃ m, k = m + 1 := ⟨k - 1, by omega⟩
theorem u8_of_wf {l : List Int} (h : ∀ x ∈ l, (Lit.int .u8 x).wf = true) (i : Int) : 0 ≤ rd l i ∧ rd l i ≤ 255 := by
  unfold rd
  rw [List.getD_eq_getElem?_getD]
  by_cases hi : i.toNat < l.length
  · rw [List.getElem?_eq_getElem hi, Option.getD_some]
    have := h _ (List.getElem_mem hi)
    simp only [Lit.wf, Bool.and_eq_true, decide_eq_true_eq] at this
    have e1 : IntKind.u8.min = 0 := rfl
    have e2 : IntKind.u8.max = 255 := rfl
    omega
  · rw [List.getElem?_eq_none (by omega)]
    simp
theorem i64_of_wf {x : Int} (h : (Lit.int .i64 x).wf = true) : -9223372036854775808 ≤ x ∧ x ≤ 9223372036854775807 := by
  simp only [Lit.wf, Bool.and_eq_true, decide_eq_true_eq] at h
  have e1 : IntKind.i64.min = -9223372036854775808 := rfl
  have e2 : IntKind.i64.max = 9223372036854775807 := rfl
  omega
theorem toList_len (s : ByteArray) : s.toList.length = s.size := by
  rw [ByteArray.toList_eq]
  exact data_length s
theorem toList_inj {a b : ByteArray} (h : a.toList = b.toList) : a = b := by
  rw [ByteArray.toList_eq, ByteArray.toList_eq] at h
  exact Go.WideShapes.bytes_inj h

/-! snippet bitsI -/
def bitAt (s : ByteArray) (i j : Int) : Int := (48 + (Go.bits .and .u8 (shr .u8 (bt s i) j) 1)) % 256
/-- The bits d - 1 to 0 of a byte. -/
def byteBits (s : ByteArray) (i : Int) : Nat → List Int
  | 0 => []
  | d + 1 => bitAt s i d :: byteBits s i d
theorem byteBits_length (s : ByteArray) (i : Int) (d : Nat) : (byteBits s i d).length = d := by
  induction d with
  | zero => rfl
  | succ d ih => rw [byteBits, List.length_cons, ih]
/-- The bits of d bytes from place i on. -/
def bitsFrom (s : ByteArray) : Nat → Int → List Int
  | 0, _ => []
  | d + 1, i => byteBits s i 8 ++ bitsFrom s d (i + 1)
theorem u64_small (x : Int) (h0 : 0 ≤ x) (h1 : x ≤ 100) : IntKind.u64.wrap x = x := by
  simp only [IntKind.wrap, IntKind.bits, IntKind.signed]
  simp
  omega
theorem bits_impl1 (s : ByteArray) (n i : Int) (h0 : 0 ≤ i) (h1 : i < s.size) (d : Nat) : ∀ (k : Nat) (xs : List Int), d ≤ 8 → xs.length ≤ 1000000 - d → impl_hashBits.l1 (k + d + 1) s xs i ((d : Int) - 1) n i = impl_hashBits.l0 k s (xs ++ byteBits s i d) n (wrap64 (i + 1)) := by
  induction d with
  | zero =>
    intro k xs hd hx
    rw [impl_hashBits.l1, if_neg (by omega), byteBits, List.append_nil]
  | succ d ih =>
    intro k xs hd hx
    rw [show k + (d + 1) + 1 = (k + d + 1) + 1 by omega, impl_hashBits.l1, if_pos (by omega), if_pos h0, if_pos h1, show ((d + 1 : Nat) : Int) - 1 = d by omega, if_pos (by omega), if_pos (by omega), wrap_id (by omega) (by omega), ih k _ (by omega) (by simp only [List.length_append, List.length_cons, List.length_nil]; omega), byteBits, List.append_assoc]
    rfl
theorem bits_impl (s : ByteArray) (hs : s.size ≤ 65536) (d : Nat) : ∀ (k : Nat) (xs : List Int) (i : Int), 0 ≤ i → (s.size : Int) - i = d → xs.length ≤ 8 * i → 10 * d < k → impl_hashBits.l0 k s xs s.size i = some (strOfNums (xs ++ bitsFrom s d i)) := by
  induction d with
  | zero =>
    intro k xs i h0 hd hx hk
    obtain ⟨k, rfl⟩ := nat_pos_succ hk
    rw [impl_hashBits.l0, if_neg (by omega), bitsFrom, List.append_nil]
  | succ d ih =>
    intro k xs i h0 hd hx hk
    obtain ⟨k, rfl⟩ : ∃ m, k = (m + 8 + 1) + 1 := ⟨k - 10, by omega⟩
    rw [impl_hashBits.l0, if_pos (by omega)]
    have := bits_impl1 s s.size i h0 (by omega) 8 k xs (by omega) (by omega)
    rw [show ((8 : Nat) : Int) - 1 = 7 from rfl] at this
    rw [this, wrap_id (by omega) (by omega), ih k _ (i + 1) (by omega) (by omega) (by rw [List.length_append, byteBits_length]; omega) (by omega), bitsFrom, List.append_assoc]
theorem impl_hashBits_tells (s : ByteArray) (hs : s.size ≤ 65536) (k : Nat) (hk : 10 * s.size + 1 ≤ k) : impl_hashBits.f k s = some (strOfNums (bitsFrom s s.size 0)) := by
  unfold impl_hashBits.f
  rw [wrap_id (by omega) (by omega), if_pos (by omega), if_pos (by omega), bits_impl s hs s.size k [] 0 (by omega) (by omega) (by simp) (by omega)]
  rfl

/-! snippet bits03 -/
def bits32 (s : ByteArray) : Nat → Int → List Int
  | 0, _ => []
  | d + 1, i => bitAt s (i / 8) (7 - i % 8) :: bits32 s d (i + 1)
theorem bits32_eq (s : ByteArray) : (bitsFrom s 32 0).take 32 = bits32 s 32 0 := by rfl
theorem bits03_l0 (s : ByteArray) (hs : s.size = 32) (d : Nat) : ∀ (k : Nat) (xs : List Int) (i : Int), 0 ≤ i → 32 - i = d → xs.length ≤ i → d < k → spec_l03Bits.l0 k s xs i = some (strOfNums (xs ++ bits32 s d i)) := by
  induction d with
  | zero =>
    intro k xs i h0 hd hx hk
    obtain ⟨k, rfl⟩ := nat_pos_succ hk
    rw [spec_l03Bits.l0, if_neg (by omega), bits32, List.append_nil]
  | succ d ih =>
    intro k xs i h0 hd hx hk
    obtain ⟨k, rfl⟩ := nat_pos_succ hk
    rw [spec_l03Bits.l0, if_pos (by omega), Int.tdiv_eq_ediv_of_nonneg h0, Int.tmod_eq_emod_of_nonneg h0, wrap_id (x := i / 8) (by omega) (by omega), wrap_id (x := 7 - i % 8) (by omega) (by omega), u64_small _ (by omega) (by omega), if_pos (by omega), if_pos (by omega), if_pos (by omega), if_pos (by omega), wrap_id (by omega) (by omega), ih k _ (i + 1) (by omega) (by omega) (by rw [List.length_append]; simp only [List.length_cons, List.length_nil]; omega) (by omega), bits32, List.append_assoc]
    rfl
theorem nums_take (l : List Int) (n : Nat) (h : n ≤ l.length) : (strOfNums l).extract 0 n = strOfNums (l.take n) := by
  apply Sha.ba_ext
  simp [strOfNums, List.map_take]
theorem bitsFrom_length (s : ByteArray) (d : Nat) : ∀ i : Int, (bitsFrom s d i).length = 8 * d := by
  induction d with
  | zero => intro i; rfl
  | succ d ih => intro i; rw [bitsFrom, List.length_append, byteBits_length, ih]; omega
/-- What the bits of a text are. -/
def msgBits (t : ByteArray) : ByteArray := strOfNums (bits32 (Sha.sha ((⟨#[100, 105, 103, 101, 115, 116]⟩ : ByteArray) ++ t)) 32 0)
theorem dig_size (t : ByteArray) : ((⟨#[100, 105, 103, 101, 115, 116]⟩ : ByteArray) ++ t).size = 6 + t.size := by rw [ByteArray.size_append]; rfl
theorem spec_l03Bits_tells (t : ByteArray) (ht : t.size ≤ 1048577) (k : Nat) (hk : 33 ≤ k) : spec_l03Bits.f k t = some (msgBits t) := by
  unfold spec_l03Bits.f spec_l01Hash.f
  rw [if_pos (by omega), if_pos (by rw [dig_size]; omega), if_pos (by rw [bytesOf_length, dig_size]; omega), Option.bind_some, Sha.sha_eq, bits03_l0 _ (Sha.sha_size _) 32 k [] 0 (by omega) (by omega) (by simp) (by omega)]
  rfl
theorem impl_messageBits_tells (t : ByteArray) (ht : t.size ≤ 1048577) (k : Nat) (hk : 321 ≤ k) : impl_messageBits.f k t = some (msgBits t) := by
  unfold impl_messageBits.f impl_hash.f
  have hz := Sha.sha_size ((⟨#[100, 105, 103, 101, 115, 116]⟩ : ByteArray) ++ t)
  rw [if_pos (by omega), if_pos (by rw [dig_size]; omega), Option.bind_some, impl_hashBits_tells _ (by omega) k (by omega), Option.bind_some, if_pos (by decide), if_pos (by rw [strOfNums_size, bitsFrom_length]; omega), nums_take _ _ (by rw [bitsFrom_length]; omega), hz, bits32_eq]
  rfl

/-! snippet FnExactMessageBits -/
theorem FnExactMessageBits (x0 : ByteArray) (gx0 : x0.size ≤ 9223372036854775807) : ∃ k, laws_FnExactMessageBits.f k x0 = some true := by
  refine ⟨321, ?_⟩
  unfold laws_FnExactMessageBits.f
  by_cases h : (x0.size : Int) > 1048576
  · rw [if_pos h]
  rw [if_neg h]
  unfold spec_MessageBits.f impl_MessageBits.f
  by_cases h2 : (x0.size : Int) > 65530
  · rw [if_pos h2, if_pos h2]; simp
  rw [if_neg h2, if_neg h2, spec_l03Bits_tells x0 (by omega) _ (by omega), impl_messageBits_tells x0 (by omega) _ (by omega)]
  simp

end Go.Proofs.YtgknilganicofaaDoor.Pure
