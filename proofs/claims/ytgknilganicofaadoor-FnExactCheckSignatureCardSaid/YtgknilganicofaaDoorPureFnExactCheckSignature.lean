/- The statement FnExactCheckSignature: what the given program's printed functions answer, as the law asks; no condition. -/
import Derived.Test.YtgknilganicofaaDoorPFnExactCheckSignaturex6
import Derived.Test.YtgknilganicofaaDoorShaE
set_option linter.unusedVariables false
set_option linter.unusedSimpArgs false
namespace Go.Proofs.YtgknilganicofaaDoor.Pure
open Go.RowKit Go.Proofs.YtgknilganicofaaDoor.PFnExactCheckSignature Go.Proofs.YtgknilganicofaaDoorV.PrintWords Go.Proofs.YtgknilganicofaaDoorV.PrintLast Go.Proofs.YtgknilganicofaaDoorV.PrintMore
/-! snippet base -/
theorem wrap_id {x : Int} (h1 : -9223372036854775808 ≤ x) (h2 : x ≤ 9223372036854775807) : wrap64 x = x := by
  unfold wrap64
  omega
theorem nat_pos_succ {k d : Nat} (h : d < k) : ∃ m, k = m + 1 := ⟨k - 1, by omega⟩
theorem u8_of_wf {l : List Int} (h : ∀ x ∈ l, (Lit.int .u8 x).wf = true) (i : Int) : 0 ≤ rd l i ∧ rd l i ≤ 255 := by
  unfold rd
  rw [List.getD_eq_getElem?_getD]
  by_cases hi : i.toNat < l.length
  · rw [List.getElem?_eq_getElem hi, Option.getD_some]
    have := h _ (List.getElem_mem hi)
    simp only [Lit.wf, Bool.and_eq_true, decide_eq_true_eq] at this
    have e1 : IntKind.u8.min = 0 := rfl
    have e2 : IntKind.u8.max = 255 := rfl
    omega
  · rw [List.getElem?_eq_none (by omega)]
    simp
theorem i64_of_wf {x : Int} (h : (Lit.int .i64 x).wf = true) : -9223372036854775808 ≤ x ∧ x ≤ 9223372036854775807 := by
  simp only [Lit.wf, Bool.and_eq_true, decide_eq_true_eq] at h
  have e1 : IntKind.i64.min = -9223372036854775808 := rfl
  have e2 : IntKind.i64.max = 9223372036854775807 := rfl
  omega
theorem toList_len (s : ByteArray) : s.toList.length = s.size := by
  rw [ByteArray.toList_eq]
  exact data_length s
theorem toList_inj {a b : ByteArray} (h : a.toList = b.toList) : a = b := by
  rw [ByteArray.toList_eq, ByteArray.toList_eq] at h
  exact Go.WideShapes.bytes_inj h

/-! snippet hexD1 -/
theorem areLong_one (s : ByteArray) : impl_areLong.f [s] = some (decide ((65536 : Int) < s.size)) := by
  unfold impl_areLong.f
  simp

/-! snippet rdat -/
theorem rdOf_at (l : List ByteArray) (i : Nat) (hi : i < l.length) : rdOf ByteArray.empty l (i : Int) = l[i] := by
  unfold rdOf
  simp [List.getD_eq_getElem?_getD, hi]

/-! snippet strs -/
theorem rdOf_nth (l : List ByteArray) (i : Int) (h0 : 0 ≤ i) (n : Nat) (e : i = (n : Int)) (hn : n < l.length) : rdOf ByteArray.empty l i = l[n] := by
  subst e
  exact rdOf_at l n hn
theorem szS_l0 (l : List ByteArray) (hl : l.length ≤ 1048576) (hy : ∀ y ∈ l, y.size ≤ 9223372036854775807) (d : Nat) : ∀ (k : Nat) (x : Int) (i : Nat), l.length = i + d → 0 ≤ x → x ≤ 1048576 → d < k → ∃ v, laws_szStringS.l0 k l x i = some v ∧ (v < 0 ∨ (0 ≤ v ∧ v ≤ 1048576 ∧ ∀ y ∈ l.drop i, y.size ≤ 1048576)) := by
  induction d with
  | zero =>
    intro k x i hd h0 h1 hk
    obtain ⟨k, rfl⟩ : ∃ m, k = m + 1 := ⟨k - 1, by omega⟩
    refine ⟨x, ?_, Or.inr ⟨h0, h1, ?_⟩⟩
    · rw [laws_szStringS.l0, if_neg (by omega)]
    · rw [List.drop_eq_nil_of_le (by omega)]
      intro y h
      cases h
  | succ d ih =>
    intro k x i hd h0 h1 hk
    obtain ⟨k, rfl⟩ : ∃ m, k = m + 1 := ⟨k - 1, by omega⟩
    have hi : i < l.length := by omega
    have hz := hy _ (List.getElem_mem hi)
    rw [laws_szStringS.l0, if_pos (by omega), if_pos (by omega), rdOf_at l i hi, wrap_id (x := x - _) (by omega) (by omega)]
    by_cases hn : x - (l[i].size : Int) < 0
    · rw [if_pos hn]
      exact ⟨-1, rfl, Or.inl (by decide)⟩
    · rw [if_neg hn, wrap_id (x := (i : Int) + 1) (by omega) (by omega)]
      obtain ⟨v, e, hv⟩ := ih k (x - (l[i].size : Int)) (i + 1) (by omega) (by omega) (by omega) (by omega)
      refine ⟨v, e, hv.imp id fun ⟨a, b, c⟩ => ⟨a, b, fun y h => ?_⟩⟩
      rw [List.drop_eq_getElem_cons hi] at h
      rcases List.mem_cons.1 h with rfl | h
      · omega
      · exact c y h
theorem szS_tells (l : List ByteArray) (hl : l.length ≤ 9223372036854775807) (hy : ∀ y ∈ l, y.size ≤ 9223372036854775807) (x : Int) (h0 : 0 ≤ x) (h1 : x ≤ 1048576) (k : Nat) (hk : 1048577 ≤ k) : ∃ v, laws_szStringS.f k l x = some v ∧ (v < 0 ∨ (0 ≤ v ∧ v ≤ 1048576 ∧ l.length ≤ 1048576 ∧ ∀ y ∈ l, y.size ≤ 1048576)) := by
  unfold laws_szStringS.f
  rw [wrap_id (x := x - _) (by omega) (by omega)]
  by_cases hn : x - (l.length : Int) < 0
  · rw [if_pos hn]
    exact ⟨-1, rfl, Or.inl (by decide)⟩
  · rw [if_neg hn]
    obtain ⟨v, e, hv⟩ := szS_l0 l (by omega) hy l.length k (x - (l.length : Int)) 0 (by omega) (by omega) (by omega) (by omega)
    exact ⟨v, e, hv.imp id fun ⟨a, b, c⟩ => ⟨a, b, by omega, fun y h => c y h⟩⟩
theorem toS_l0 (l : List ByteArray) (hl : l.length ≤ 1048576) (d : Nat) : ∀ (k : Nat) (x : List ByteArray) (i : Nat), l.length = i + d → x.length = l.length → x.take i = l.take i → d < k → laws_toStringS.l0 k l x i = some l := by
  induction d with
  | zero =>
    intro k x i hd hx ht hk
    obtain ⟨k, rfl⟩ : ∃ m, k = m + 1 := ⟨k - 1, by omega⟩
    rw [laws_toStringS.l0, if_neg (by omega)]
    rw [List.take_of_length_le (by omega), List.take_of_length_le (by omega)] at ht
    rw [ht]
  | succ d ih =>
    intro k x i hd hx ht hk
    obtain ⟨k, rfl⟩ : ∃ m, k = m + 1 := ⟨k - 1, by omega⟩
    have hi : i < l.length := by omega
    rw [laws_toStringS.l0, if_pos (by omega), if_pos (by omega), if_pos (by omega), rdOf_at l i hi, wrap_id (x := (i : Int) + 1) (by omega) (by omega)]
    refine ih k _ (i + 1) (by omega) (by rw [List.length_set, hx]) ?_ (by omega)
    rw [Int.toNat_natCast, List.take_succ_eq_append_getElem (by rw [List.length_set]; omega), List.take_succ_eq_append_getElem hi, List.getElem_set_self, List.take_set_of_le (Nat.le_refl i), ht]
theorem toS_tells (l : List ByteArray) (hl : l.length ≤ 1048576) (k : Nat) (hk : 1048577 ≤ k) : laws_toStringS.f k l = some l := by
  unfold laws_toStringS.f
  rw [if_pos (by omega), if_pos (by omega)]
  exact toS_l0 l hl l.length k _ 0 (by omega) (by simp) (by simp) (by omega)
theorem eqS_l0 (l : List ByteArray) (hl : l.length ≤ 1048576) (d : Nat) : ∀ (k : Nat) (i : Nat), l.length = i + d → d < k → laws_eqStringS.l0 k l l i = some true := by
  induction d with
  | zero =>
    intro k i hd hk
    obtain ⟨k, rfl⟩ : ∃ m, k = m + 1 := ⟨k - 1, by omega⟩
    rw [laws_eqStringS.l0, if_neg (by omega)]
  | succ d ih =>
    intro k i hd hk
    obtain ⟨k, rfl⟩ : ∃ m, k = m + 1 := ⟨k - 1, by omega⟩
    rw [laws_eqStringS.l0, if_pos (by omega), if_pos (by omega), if_pos (by omega), if_pos rfl, wrap_id (x := (i : Int) + 1) (by omega) (by omega)]
    exact ih k (i + 1) (by omega) (by omega)
theorem eqS_tells (l : List ByteArray) (hl : l.length ≤ 1048576) (k : Nat) (hk : 1048577 ≤ k) : laws_eqStringS.f k l l = some true := by
  unfold laws_eqStringS.f
  rw [if_pos rfl]
  exact eqS_l0 l hl l.length k 0 (by omega) (by omega)

/-! snippet node -/
def nodeOf (a b : ByteArray) : ByteArray := Sha.sha ((⟨#[110, 111, 100, 101]⟩ : ByteArray) ++ a ++ b)
theorem node_size (a : ByteArray) : ((⟨#[110, 111, 100, 101]⟩ : ByteArray) ++ a).size = 4 + a.size := by rw [ByteArray.size_append]; rfl
theorem nodeOf_size (a b : ByteArray) : (nodeOf a b).size = 32 := Sha.sha_size _
theorem spec_l03Node_tells (a b : ByteArray) (ha : a.size ≤ 1048576) (hb : b.size ≤ 1048576) : spec_l03Node.f a b = some (nodeOf a b) := by
  unfold spec_l03Node.f spec_l01Hash.f
  have h1 := node_size a
  rw [if_pos (by omega), if_pos (by rw [h1]; omega), if_pos (by rw [ByteArray.size_append, h1]; omega), if_pos (by rw [bytesOf_length, ByteArray.size_append, h1]; omega), Option.bind_some, Sha.sha_eq]
  rfl
theorem impl_node_tells (a b : ByteArray) (ha : a.size ≤ 1048576) (hb : b.size ≤ 1048576) : impl_node.f a b = some (nodeOf a b) := by
  unfold impl_node.f impl_hash.f
  have h1 := node_size a
  rw [if_pos (by omega), if_pos (by rw [h1]; omega), if_pos (by rw [ByteArray.size_append, h1]; omega), Option.bind_some]
  rfl

/-! snippet u64 -/
theorem u64_small (x : Int) (h0 : 0 ≤ x) (h1 : x ≤ 100) : IntKind.u64.wrap x = x := by
  simp only [IntKind.wrap, IntKind.bits, IntKind.signed]
  simp
  omega

/-! snippet bitsI -/
def bitAt (s : ByteArray) (i j : Int) : Int := (48 + (Go.bits .and .u8 (shr .u8 (bt s i) j) 1)) % 256
/-- The bits d - 1 to 0 of a byte. -/
def byteBits (s : ByteArray) (i : Int) : Nat → List Int
  | 0 => []
  | d + 1 => bitAt s i d :: byteBits s i d
theorem byteBits_length (s : ByteArray) (i : Int) (d : Nat) : (byteBits s i d).length = d := by
  induction d with
  | zero => rfl
  | succ d ih => rw [byteBits, List.length_cons, ih]
/-- The bits of d bytes from place i on. -/
def bitsFrom (s : ByteArray) : Nat → Int → List Int
  | 0, _ => []
  | d + 1, i => byteBits s i 8 ++ bitsFrom s d (i + 1)
theorem bits_impl1 (s : ByteArray) (n i : Int) (h0 : 0 ≤ i) (h1 : i < s.size) (d : Nat) : ∀ (k : Nat) (xs : List Int), d ≤ 8 → xs.length ≤ 1000000 - d → impl_hashBits.l1 (k + d + 1) s xs i ((d : Int) - 1) n i = impl_hashBits.l0 k s (xs ++ byteBits s i d) n (wrap64 (i + 1)) := by
  induction d with
  | zero =>
    intro k xs hd hx
    rw [impl_hashBits.l1, if_neg (by omega), byteBits, List.append_nil]
  | succ d ih =>
    intro k xs hd hx
    rw [show k + (d + 1) + 1 = (k + d + 1) + 1 by omega, impl_hashBits.l1, if_pos (by omega), if_pos h0, if_pos h1, show ((d + 1 : Nat) : Int) - 1 = d by omega, if_pos (by omega), if_pos (by omega), wrap_id (by omega) (by omega), ih k _ (by omega) (by simp only [List.length_append, List.length_cons, List.length_nil]; omega), byteBits, List.append_assoc]
    rfl
theorem bits_impl (s : ByteArray) (hs : s.size ≤ 65536) (d : Nat) : ∀ (k : Nat) (xs : List Int) (i : Int), 0 ≤ i → (s.size : Int) - i = d → xs.length ≤ 8 * i → 10 * d < k → impl_hashBits.l0 k s xs s.size i = some (strOfNums (xs ++ bitsFrom s d i)) := by
  induction d with
  | zero =>
    intro k xs i h0 hd hx hk
    obtain ⟨k, rfl⟩ := nat_pos_succ hk
    rw [impl_hashBits.l0, if_neg (by omega), bitsFrom, List.append_nil]
  | succ d ih =>
    intro k xs i h0 hd hx hk
    obtain ⟨k, rfl⟩ : ∃ m, k = (m + 8 + 1) + 1 := ⟨k - 10, by omega⟩
    rw [impl_hashBits.l0, if_pos (by omega)]
    have := bits_impl1 s s.size i h0 (by omega) 8 k xs (by omega) (by omega)
    rw [show ((8 : Nat) : Int) - 1 = 7 from rfl] at this
    rw [this, wrap_id (by omega) (by omega), ih k _ (i + 1) (by omega) (by omega) (by rw [List.length_append, byteBits_length]; omega) (by omega), bitsFrom, List.append_assoc]
theorem impl_hashBits_tells (s : ByteArray) (hs : s.size ≤ 65536) (k : Nat) (hk : 10 * s.size + 1 ≤ k) : impl_hashBits.f k s = some (strOfNums (bitsFrom s s.size 0)) := by
  unfold impl_hashBits.f
  rw [wrap_id (by omega) (by omega), if_pos (by omega), if_pos (by omega), bits_impl s hs s.size k [] 0 (by omega) (by omega) (by simp) (by omega)]
  rfl

/-! snippet bits03 -/
def bits32 (s : ByteArray) : Nat → Int → List Int
  | 0, _ => []
  | d + 1, i => bitAt s (i / 8) (7 - i % 8) :: bits32 s d (i + 1)
theorem bits32_eq (s : ByteArray) : (bitsFrom s 32 0).take 32 = bits32 s 32 0 := by rfl
theorem bits03_l0 (s : ByteArray) (hs : s.size = 32) (d : Nat) : ∀ (k : Nat) (xs : List Int) (i : Int), 0 ≤ i → 32 - i = d → xs.length ≤ i → d < k → spec_l03Bits.l0 k s xs i = some (strOfNums (xs ++ bits32 s d i)) := by
  induction d with
  | zero =>
    intro k xs i h0 hd hx hk
    obtain ⟨k, rfl⟩ := nat_pos_succ hk
    rw [spec_l03Bits.l0, if_neg (by omega), bits32, List.append_nil]
  | succ d ih =>
    intro k xs i h0 hd hx hk
    obtain ⟨k, rfl⟩ := nat_pos_succ hk
    rw [spec_l03Bits.l0, if_pos (by omega), Int.tdiv_eq_ediv_of_nonneg h0, Int.tmod_eq_emod_of_nonneg h0, wrap_id (x := i / 8) (by omega) (by omega), wrap_id (x := 7 - i % 8) (by omega) (by omega), u64_small _ (by omega) (by omega), if_pos (by omega), if_pos (by omega), if_pos (by omega), if_pos (by omega), wrap_id (by omega) (by omega), ih k _ (i + 1) (by omega) (by omega) (by rw [List.length_append]; simp only [List.length_cons, List.length_nil]; omega) (by omega), bits32, List.append_assoc]
    rfl
theorem nums_take (l : List Int) (n : Nat) (h : n ≤ l.length) : (strOfNums l).extract 0 n = strOfNums (l.take n) := by
  apply Sha.ba_ext
  simp [strOfNums, List.map_take]
theorem bitsFrom_length (s : ByteArray) (d : Nat) : ∀ i : Int, (bitsFrom s d i).length = 8 * d := by
  induction d with
  | zero => intro i; rfl
  | succ d ih => intro i; rw [bitsFrom, List.length_append, byteBits_length, ih]; omega
/-- What the bits of a text are. -/
def msgBits (t : ByteArray) : ByteArray := strOfNums (bits32 (Sha.sha ((⟨#[100, 105, 103, 101, 115, 116]⟩ : ByteArray) ++ t)) 32 0)
theorem dig_size (t : ByteArray) : ((⟨#[100, 105, 103, 101, 115, 116]⟩ : ByteArray) ++ t).size = 6 + t.size := by rw [ByteArray.size_append]; rfl
theorem spec_l03Bits_tells (t : ByteArray) (ht : t.size ≤ 1048577) (k : Nat) (hk : 33 ≤ k) : spec_l03Bits.f k t = some (msgBits t) := by
  unfold spec_l03Bits.f spec_l01Hash.f
  rw [if_pos (by omega), if_pos (by rw [dig_size]; omega), if_pos (by rw [bytesOf_length, dig_size]; omega), Option.bind_some, Sha.sha_eq, bits03_l0 _ (Sha.sha_size _) 32 k [] 0 (by omega) (by omega) (by simp) (by omega)]
  rfl
theorem impl_messageBits_tells (t : ByteArray) (ht : t.size ≤ 1048577) (k : Nat) (hk : 321 ≤ k) : impl_messageBits.f k t = some (msgBits t) := by
  unfold impl_messageBits.f impl_hash.f
  have hz := Sha.sha_size ((⟨#[100, 105, 103, 101, 115, 116]⟩ : ByteArray) ++ t)
  rw [if_pos (by omega), if_pos (by rw [dig_size]; omega), Option.bind_some, impl_hashBits_tells _ (by omega) k (by omega), Option.bind_some, if_pos (by decide), if_pos (by rw [strOfNums_size, bitsFrom_length]; omega), nums_take _ _ (by rw [bitsFrom_length]; omega), hz, bits32_eq]
  rfl

/-! snippet specIn -/
theorem specIn_tells (n low high : Int) : spec_l01In.f n low high = some (decide (low ≤ n) && decide (n ≤ high)) := by
  unfold spec_l01In.f
  by_cases h : n ≥ low
  · rw [if_pos h, decide_eq_true h]; rfl
  · rw [if_neg h, decide_eq_false h]; rfl

/-! snippet within -/
theorem within_tells (n low high : Int) : impl_within.f n low high = some (decide (low ≤ n) && decide (n ≤ high)) := by
  unfold impl_within.f
  by_cases h : n ≥ low
  · rw [if_pos h, decide_eq_true h]; rfl
  · rw [if_neg h, decide_eq_false h]; rfl

/-! snippet leads -/
def hashesB (l : List ByteArray) (n : Int) : Bool := decide ((l.length : Int) = n) && l.all fun s => decide ((s.size : Int) = 32)
theorem impl_areHashes_tells (l : List ByteArray) (n : Int) : impl_areHashes.f l n = some (hashesB l n) := rfl
theorem hashes_l0 (l : List ByteArray) (hl : l.length ≤ 1000) (d : Nat) : ∀ (k : Nat) (i : Nat), l.length = i + d → d < k → spec_l03Hashes.l0 k l (l.length : Int) i = some ((l.drop i).all fun s => decide ((s.size : Int) = 32)) := by
  induction d with
  | zero =>
    intro k i hd hk
    obtain ⟨k, rfl⟩ : ∃ m, k = m + 1 := ⟨k - 1, by omega⟩
    rw [spec_l03Hashes.l0, if_neg (by omega), List.drop_eq_nil_of_le (by omega)]
    rfl
  | succ d ih =>
    intro k i hd hk
    obtain ⟨k, rfl⟩ : ∃ m, k = m + 1 := ⟨k - 1, by omega⟩
    have hi : i < l.length := by omega
    rw [spec_l03Hashes.l0, if_pos (by omega), if_pos (by omega), if_pos (by omega), rdOf_at l i hi, List.drop_eq_getElem_cons hi, List.all_cons]
    by_cases h : ((l[i]).size : Int) = 32
    · rw [if_pos h, decide_eq_true h, Bool.true_and, wrap_id (x := (i : Int) + 1) (by omega) (by omega)]
      exact ih k (i + 1) (by omega) (by omega)
    · rw [if_neg h, decide_eq_false h, Bool.false_and]
theorem spec_hashes_tells (l : List ByteArray) (n : Int) (hn : n ≤ 1000) (k : Nat) (hk : 1001 ≤ k) : spec_l03Hashes.f k l n = some (hashesB l n) := by
  unfold spec_l03Hashes.f hashesB
  by_cases h : (l.length : Int) = n
  · rw [if_pos h, decide_eq_true h, Bool.true_and, ← h]
    exact hashes_l0 l (by omega) l.length k 0 (by omega) (by omega)
  · rw [if_neg h, decide_eq_false h, Bool.false_and]
theorem hashesB_true {l : List ByteArray} {n : Int} (h : hashesB l n = true) : (l.length : Int) = n ∧ ∀ i : Int, 0 ≤ i → i < n → (rdOf ByteArray.empty l i).size = 32 := by
  unfold hashesB at h
  rw [Bool.and_eq_true, decide_eq_true_eq, List.all_eq_true] at h
  refine ⟨h.1, fun i h0 h1 => ?_⟩
  have hi : i.toNat < l.length := by omega
  have e : rdOf ByteArray.empty l i = l[i.toNat] := by
    have := rdOf_at l i.toNat hi
    rwa [Int.toNat_of_nonneg h0] at this
  have := h.2 _ (List.getElem_mem hi)
  rw [decide_eq_true_eq] at this
  rw [e]
  omega
def pairOf (b : ByteArray) (o r : List ByteArray) (i : Int) : ByteArray := if bt b i = 48 then Sha.sha (rdOf ByteArray.empty o i) ++ rdOf ByteArray.empty r i else rdOf ByteArray.empty r i ++ Sha.sha (rdOf ByteArray.empty o i)
def leadText (b : ByteArray) (o r : List ByteArray) : Nat → Int → ByteArray → ByteArray
  | 0, _, t => t
  | d + 1, i, t => leadText b o r d (i + 1) (t ++ pairOf b o r i)
def climb (p : List ByteArray) : Nat → Int → Int → ByteArray → ByteArray
  | 0, _, _, h => h
  | d + 1, j, x, h => climb p d (j + 1) (x / 2) (if x % 2 = 0 then nodeOf h (rdOf ByteArray.empty p j) else nodeOf (rdOf ByteArray.empty p j) h)
def leadsOf (b : ByteArray) (x : Int) (o r p : List ByteArray) : ByteArray := climb p 3 0 x (Sha.sha (leadText b o r 32 0 (⟨#[107, 101, 121]⟩ : ByteArray)))
theorem msgBits_size (t : ByteArray) : (msgBits t).size = 32 := by
  unfold msgBits
  rw [strOfNums_size]
  rfl
theorem climb_spec (a0 : ByteArray) (n : Int) (o r p : List ByteArray) (hp : (p.length : Int) = 3) (hs : ∀ i : Int, 0 ≤ i → i < 3 → (rdOf ByteArray.empty p i).size = 32) (d : Nat) : ∀ (k : Nat) (j x : Int) (h : ByteArray), 0 ≤ j → 3 - j = d → 0 ≤ x → x ≤ 7 → h.size = 32 → d < k → spec_CheckSignature.l1 k a0 h x j n o r p = (if (climb p d j x h).toList = a0.toList then some 0 else some 12) := by
  induction d with
  | zero =>
    intro k j x h h0 hd hx0 hx7 hh hk
    obtain ⟨k, rfl⟩ : ∃ m, k = m + 1 := ⟨k - 1, by omega⟩
    rw [spec_CheckSignature.l1, if_neg (by omega), climb]
  | succ d ih =>
    intro k j x h h0 hd hx0 hx7 hh hk
    obtain ⟨k, rfl⟩ : ∃ m, k = m + 1 := ⟨k - 1, by omega⟩
    have hz := hs j h0 (by omega)
    rw [spec_CheckSignature.l1, if_pos (by omega), Int.tmod_eq_emod_of_nonneg hx0, climb]
    by_cases h2 : x % 2 = 0
    · rw [if_pos h2, if_pos h2, if_pos (by omega), if_pos (by omega), spec_l03Node_tells _ _ (by omega) (by omega), Option.bind_some, Int.tdiv_eq_ediv_of_nonneg hx0, wrap_id (x := x / 2) (by omega) (by omega), wrap_id (x := j + 1) (by omega) (by omega)]
      exact ih k (j + 1) (x / 2) _ (by omega) (by omega) (by omega) (by omega) (nodeOf_size _ _) (by omega)
    · rw [if_neg h2, if_neg h2, if_pos (by omega), if_pos (by omega), spec_l03Node_tells _ _ (by omega) (by omega), Option.bind_some, Int.tdiv_eq_ediv_of_nonneg hx0, wrap_id (x := x / 2) (by omega) (by omega), wrap_id (x := j + 1) (by omega) (by omega)]
      exact ih k (j + 1) (x / 2) _ (by omega) (by omega) (by omega) (by omega) (nodeOf_size _ _) (by omega)
theorem climb_impl (p : List ByteArray) (hp : (p.length : Int) = 3) (hs : ∀ i : Int, 0 ≤ i → i < 3 → (rdOf ByteArray.empty p i).size = 32) (d : Nat) : ∀ (k : Nat) (j x : Int) (h : ByteArray), 0 ≤ j → 3 - j = d → 0 ≤ x → x ≤ 7 → h.size = 32 → d < k → impl_KeySignature_leads.l1 k h x p (p.length : Int) j = some (climb p d j x h) := by
  induction d with
  | zero =>
    intro k j x h h0 hd hx0 hx7 hh hk
    obtain ⟨k, rfl⟩ : ∃ m, k = m + 1 := ⟨k - 1, by omega⟩
    rw [impl_KeySignature_leads.l1, if_neg (by omega), climb]
  | succ d ih =>
    intro k j x h h0 hd hx0 hx7 hh hk
    obtain ⟨k, rfl⟩ : ∃ m, k = m + 1 := ⟨k - 1, by omega⟩
    have hz := hs j h0 (by omega)
    rw [impl_KeySignature_leads.l1, if_pos (by omega), if_pos (by omega), if_pos (by omega), Int.tmod_eq_emod_of_nonneg hx0, climb]
    by_cases h2 : x % 2 = 0
    · rw [if_pos h2, if_pos h2, impl_node_tells _ _ (by omega) (by omega), Option.bind_some, Int.tdiv_eq_ediv_of_nonneg hx0, wrap_id (x := x / 2) (by omega) (by omega), wrap_id (x := j + 1) (by omega) (by omega)]
      exact ih k (j + 1) (x / 2) _ (by omega) (by omega) (by omega) (by omega) (nodeOf_size _ _) (by omega)
    · rw [if_neg h2, if_neg h2, impl_node_tells _ _ (by omega) (by omega), Option.bind_some, Int.tdiv_eq_ediv_of_nonneg hx0, wrap_id (x := x / 2) (by omega) (by omega), wrap_id (x := j + 1) (by omega) (by omega)]
      exact ih k (j + 1) (x / 2) _ (by omega) (by omega) (by omega) (by omega) (nodeOf_size _ _) (by omega)
theorem pair_size (b : ByteArray) (o r : List ByteArray) (i : Int) (hr : (rdOf ByteArray.empty r i).size = 32) : (pairOf b o r i).size = 64 := by
  unfold pairOf
  have := Sha.sha_size (rdOf ByteArray.empty o i)
  by_cases h : bt b i = 48
  · rw [if_pos h, ByteArray.size_append]; omega
  · rw [if_neg h, ByteArray.size_append]; omega
theorem leads_spec (a0 b : ByteArray) (hb : b.size = 32) (n : Int) (hn0 : 0 ≤ n) (hn7 : n ≤ 7) (o r p : List ByteArray) (ho : (o.length : Int) = 32) (hr : (r.length : Int) = 32) (hp : (p.length : Int) = 3) (hos : ∀ i : Int, 0 ≤ i → i < 32 → (rdOf ByteArray.empty o i).size = 32) (hrs : ∀ i : Int, 0 ≤ i → i < 32 → (rdOf ByteArray.empty r i).size = 32) (hps : ∀ i : Int, 0 ≤ i → i < 3 → (rdOf ByteArray.empty p i).size = 32) (d : Nat) : ∀ (k : Nat) (i : Int) (t : ByteArray), 0 ≤ i → 32 - i = d → (t.size : Int) = 3 + 64 * i → d + 10 < k →
    spec_CheckSignature.l0 k a0 b (bytesOf t) i n o r p = (if (climb p 3 0 n (Sha.sha (leadText b o r d i t))).toList = a0.toList then some 0 else some 12) := by
  induction d with
  | zero =>
    intro k i t h0 hd ht hk
    obtain ⟨k, rfl⟩ : ∃ m, k = m + 1 := ⟨k - 1, by omega⟩
    unfold spec_CheckSignature.l0 spec_l01Hash.f
    rw [if_neg (by omega), if_pos (by rw [bytesOf_length]; omega), Option.bind_some, Sha.sha_eq, climb_spec a0 n o r p hp hps 3 k 0 n _ (by omega) (by omega) hn0 hn7 (Sha.sha_size _) (by omega)]
    rfl
  | succ d ih =>
    intro k i t h0 hd ht hk
    obtain ⟨k, rfl⟩ : ∃ m, k = m + 1 := ⟨k - 1, by omega⟩
    have zo := hos i h0 (by omega)
    have zr := hrs i h0 (by omega)
    have zs := Sha.sha_size (rdOf ByteArray.empty o i)
    have zp := pair_size b o r i zr
    have e : spec_l01Hash.f (bytesOf (rdOf ByteArray.empty o i)) = some (Sha.sha (rdOf ByteArray.empty o i)) := by unfold spec_l01Hash.f; rw [if_pos (by rw [bytesOf_length]; omega), Sha.sha_eq]
    rw [spec_CheckSignature.l0, if_pos (by omega), if_pos (by omega), if_pos (by omega), if_pos (by omega), e, Option.bind_some, if_pos (by omega), leadText]
    by_cases h : bt b i = 48
    · rw [if_pos h, if_pos (by rw [bytesOf_length]; omega), Option.bind_some, if_pos (by omega), if_pos (by rw [List.length_append, bytesOf_length, bytesOf_length]; omega), wrap_id (by omega) (by omega), List.append_assoc, ← Sha.bytes_app, ← Sha.bytes_app]
      have hp : Sha.sha (rdOf ByteArray.empty o i) ++ rdOf ByteArray.empty r i = pairOf b o r i := by unfold pairOf; rw [if_pos h]
      rw [hp]
      exact ih k (i + 1) _ (by omega) (by omega) (by rw [ByteArray.size_append]; omega) (by omega)
    · rw [if_neg h, if_pos (by omega), if_pos (by rw [bytesOf_length]; omega), Option.bind_some, if_pos (by rw [List.length_append, bytesOf_length, bytesOf_length]; omega), wrap_id (by omega) (by omega), List.append_assoc, ← Sha.bytes_app, ← Sha.bytes_app]
      have hp : rdOf ByteArray.empty r i ++ Sha.sha (rdOf ByteArray.empty o i) = pairOf b o r i := by unfold pairOf; rw [if_neg h]
      rw [hp]
      exact ih k (i + 1) _ (by omega) (by omega) (by rw [ByteArray.size_append]; omega) (by omega)
theorem leads_impl (b : ByteArray) (hb : b.size = 32) (n : Int) (hn0 : 0 ≤ n) (hn7 : n ≤ 7) (o r p : List ByteArray) (ho : (o.length : Int) = 32) (hr : (r.length : Int) = 32) (hp : (p.length : Int) = 3) (hos : ∀ i : Int, 0 ≤ i → i < 32 → (rdOf ByteArray.empty o i).size = 32) (hrs : ∀ i : Int, 0 ≤ i → i < 32 → (rdOf ByteArray.empty r i).size = 32) (hps : ∀ i : Int, 0 ≤ i → i < 3 → (rdOf ByteArray.empty p i).size = 32) (d : Nat) : ∀ (k : Nat) (i : Int) (t : ByteArray), 0 ≤ i → 32 - i = d → (t.size : Int) = 3 + 64 * i → d + 10 < k →
    impl_KeySignature_leads.l0 k t (bytesOf b) 32 i n o r p = some (climb p 3 0 n (Sha.sha (leadText b o r d i t))) := by
  have hl := bytesOf_length b
  induction d with
  | zero =>
    intro k i t h0 hd ht hk
    obtain ⟨k, rfl⟩ : ∃ m, k = m + 1 := ⟨k - 1, by omega⟩
    unfold impl_KeySignature_leads.l0 impl_hash.f
    rw [if_neg (by omega), if_pos (by omega), Option.bind_some, climb_impl p hp hps 3 k 0 n _ (by omega) (by omega) hn0 hn7 (Sha.sha_size _) (by omega)]
    rfl
  | succ d ih =>
    intro k i t h0 hd ht hk
    obtain ⟨k, rfl⟩ : ∃ m, k = m + 1 := ⟨k - 1, by omega⟩
    have zo := hos i h0 (by omega)
    have zr := hrs i h0 (by omega)
    have zs := Sha.sha_size (rdOf ByteArray.empty o i)
    have zp := pair_size b o r i zr
    have e : impl_hash.f (rdOf ByteArray.empty o i) = some (Sha.sha (rdOf ByteArray.empty o i)) := by unfold impl_hash.f; rw [if_pos (by omega)]
    rw [impl_KeySignature_leads.l0, if_pos (by omega), if_pos (by omega), if_pos (by omega), rd_bytesOf, leadText]
    by_cases h : bt b i = 48
    · rw [if_pos h, if_pos (by omega), e, Option.bind_some, if_pos (by omega), if_pos (by omega), if_pos (by rw [ByteArray.size_append]; omega), wrap_id (by omega) (by omega)]
      have hp : Sha.sha (rdOf ByteArray.empty o i) ++ rdOf ByteArray.empty r i = pairOf b o r i := by unfold pairOf; rw [if_pos h]
      rw [hp]
      exact ih k (i + 1) _ (by omega) (by omega) (by rw [ByteArray.size_append]; omega) (by omega)
    · rw [if_neg h, if_pos (by omega), if_pos (by omega), e, Option.bind_some, if_pos (by omega), if_pos (by rw [ByteArray.size_append]; omega), wrap_id (by omega) (by omega)]
      have hp : rdOf ByteArray.empty r i ++ Sha.sha (rdOf ByteArray.empty o i) = pairOf b o r i := by unfold pairOf; rw [if_neg h]
      rw [hp]
      exact ih k (i + 1) _ (by omega) (by omega) (by rw [ByteArray.size_append]; omega) (by omega)
theorem check_both (a0 a1 : ByteArray) (n : Int) (o r p : List ByteArray) (h1 : a1.size ≤ 1048576) (k : Nat) (hk : 1010 ≤ k) : ∃ v, spec_CheckSignature.f k a0 a1 n o r p = some v ∧ impl_CheckSignature.f k a0 a1 n o r p = some v := by
  obtain ⟨k, rfl⟩ : ∃ m, k = m + 1 + 1 := ⟨k - 2, by omega⟩
  unfold spec_CheckSignature.f impl_CheckSignature.f
  rw [areLong_one, Option.bind_some]
  by_cases hl : 65536 < a0.size ∨ 65530 < a1.size
  · refine ⟨2, ?_, ?_⟩
    · by_cases h2 : (a1.size : Int) > 65530
      · rw [if_pos h2, spec_CheckSignature.j0, if_pos rfl]
      · rw [if_neg h2, spec_CheckSignature.j0, if_pos (by rw [decide_eq_true_eq]; omega)]
    · by_cases h2 : (65536 : Int) < a0.size
      · rw [if_pos (by rw [decide_eq_true_eq]; omega), impl_CheckSignature.j0, if_pos rfl]
      · rw [if_neg (by rw [decide_eq_true_eq]; omega), impl_CheckSignature.j0, if_pos (by rw [decide_eq_true_eq]; omega)]
  rw [if_neg (by omega), if_neg (by rw [decide_eq_true_eq]; omega), spec_CheckSignature.j0, impl_CheckSignature.j0, if_neg (c := decide ((a0.size : Int) > 65536) = true) (by rw [decide_eq_true_eq]; omega), if_neg (c := decide ((a1.size : Int) > 65530) = true) (by rw [decide_eq_true_eq]; omega)]
  unfold impl_isHash.f
  rw [spec_hashes_tells o 32 (by omega) _ (by omega), spec_hashes_tells r 32 (by omega) _ (by omega), spec_hashes_tells p 3 (by omega) _ (by omega), impl_areHashes_tells, impl_areHashes_tells, impl_areHashes_tells]
  simp only [Option.bind_some]
  by_cases hA : (a0.size : Int) = 32
  rotate_left
  · refine ⟨1, ?_, ?_⟩
    · rw [if_neg hA, spec_CheckSignature.j1, if_pos rfl]
    · rw [if_neg (by simpa using hA), impl_CheckSignature.j1, if_pos rfl]
  have hA' : ((a0.size : Int) == 32) = true := by simpa using hA
  rw [if_pos hA, if_pos hA']
  cases hB : hashesB o 32
  · refine ⟨1, ?_, ?_⟩
    · rw [if_neg (by simp), spec_CheckSignature.j1, if_pos rfl]
    · rw [if_neg (by simp), impl_CheckSignature.j1, if_pos rfl]
  rw [if_pos rfl, if_pos rfl]
  cases hC : hashesB r 32
  · refine ⟨1, ?_, ?_⟩
    · rw [if_neg (by simp), spec_CheckSignature.j1, if_pos rfl]
    · rw [if_neg (by simp), impl_CheckSignature.j1, if_pos rfl]
  rw [if_pos rfl, if_pos rfl]
  cases hD : hashesB p 3
  · refine ⟨1, ?_, ?_⟩
    · rw [spec_CheckSignature.j1, if_pos (by simp)]
    · rw [impl_CheckSignature.j1, if_pos (by simp)]
  rw [spec_CheckSignature.j1, impl_CheckSignature.j1, if_neg (by simp), if_neg (by simp)]
  unfold impl_isIndex.f
  rw [specIn_tells, within_tells, Option.bind_some, Option.bind_some, Option.bind_some]
  cases hE : (decide ((0 : Int) ≤ n) && decide (n ≤ 7))
  · exact ⟨4, by rw [if_neg (by simp)], by rw [if_neg (by simp)]⟩
  rw [if_pos rfl, if_pos rfl, spec_l03Bits_tells a1 (by omega) _ (by omega), Option.bind_some]
  rw [Bool.and_eq_true, decide_eq_true_eq, decide_eq_true_eq] at hE
  obtain ⟨o1, o2⟩ := hashesB_true hB
  obtain ⟨r1, r2⟩ := hashesB_true hC
  obtain ⟨p1, p2⟩ := hashesB_true hD
  have hz := msgBits_size a1
  obtain ⟨L, e1, e2⟩ : ∃ L : ByteArray, spec_CheckSignature.l0 k a0 (msgBits a1) [107, 101, 121] 0 n o r p = (if L.toList = a0.toList then some 0 else some 12) ∧ impl_KeySignature_leads.f k n o r p a1 = some L := by
    refine ⟨leadsOf (msgBits a1) n o r p, leads_spec a0 (msgBits a1) hz n hE.1 hE.2 o r p o1 r1 p1 o2 r2 p2 32 k 0 (⟨#[107, 101, 121]⟩ : ByteArray) (by omega) (by omega) rfl (by omega), ?_⟩
    unfold impl_KeySignature_leads.f
    rw [impl_messageBits_tells a1 (by omega) k (by omega), Option.bind_some, if_pos (by omega), Option.bind_some, bytesOf_length, hz]
    exact leads_impl (msgBits a1) hz n hE.1 hE.2 o r p o1 r1 p1 o2 r2 p2 32 k 0 (⟨#[107, 101, 121]⟩ : ByteArray) (by omega) (by omega) rfl (by omega)
  rw [e1, e2, Option.bind_some]
  by_cases hL : L.toList = a0.toList
  · exact ⟨0, by rw [if_pos hL], by rw [if_pos hL]⟩
  · exact ⟨12, by rw [if_neg hL], by rw [if_neg hL]⟩

/-! snippet FnExactCheckSignature -/
theorem FnExactCheckSignature (x0 : ByteArray) (x1 : ByteArray) (x2_0 : Int) (x2_1 : List ByteArray) (x2_2 : List ByteArray) (x2_3 : List ByteArray) (gx0 : x0.size ≤ 9223372036854775807) (gx1 : x1.size ≤ 9223372036854775807) (gx2_0 : (Lit.int .i64 x2_0).wf = true) (gx2_1 : (x2_1.length ≤ 9223372036854775807 ∧ ∀ y ∈ x2_1, y.size ≤ 9223372036854775807)) (gx2_2 : (x2_2.length ≤ 9223372036854775807 ∧ ∀ y ∈ x2_2, y.size ≤ 9223372036854775807)) (gx2_3 : (x2_3.length ≤ 9223372036854775807 ∧ ∀ y ∈ x2_3, y.size ≤ 9223372036854775807)) : ∃ k, laws_FnExactCheckSignature.f k x0 x1 x2_0 x2_1 x2_2 x2_3 = some true := by
  obtain ⟨k, hk⟩ : ∃ k : Nat, 1048577 ≤ k := ⟨1048577, Nat.le_refl _⟩
  refine ⟨k, ?_⟩
  unfold laws_FnExactCheckSignature.f
  by_cases h : (x0.size : Int) > 1048576
  · rw [if_pos h]
  rw [if_neg h]
  by_cases h' : (x1.size : Int) > 1048576
  · rw [if_pos h']
  rw [if_neg h']
  unfold laws_szKeySignature.f
  obtain ⟨v1, e1, c1⟩ := szS_tells x2_1 gx2_1.1 gx2_1.2 1048576 (by omega) (by omega) k hk
  rw [e1, Option.bind_some]
  by_cases n1 : v1 < 0
  · rw [if_pos n1]; rfl
  rw [if_neg n1]
  obtain ⟨a1, b1, l1, m1⟩ := c1.resolve_left n1
  obtain ⟨v2, e2, c2⟩ := szS_tells x2_2 gx2_2.1 gx2_2.2 v1 (by omega) (by omega) k hk
  rw [e2, Option.bind_some]
  by_cases n2 : v2 < 0
  · rw [if_pos n2]; rfl
  rw [if_neg n2]
  obtain ⟨a2, b2, l2, m2⟩ := c2.resolve_left n2
  obtain ⟨v3, e3, c3⟩ := szS_tells x2_3 gx2_3.1 gx2_3.2 v2 (by omega) (by omega) k hk
  rw [e3, Option.bind_some]
  by_cases n3 : v3 < 0
  · rw [if_pos n3]; rfl
  obtain ⟨a3, b3, l3, m3⟩ := c3.resolve_left n3
  obtain ⟨v, w1, w2⟩ := check_both x0 x1 x2_0 x2_1 x2_2 x2_3 (by omega) k (by omega)
  have et : laws_toKeySignature.f k x2_0 x2_1 x2_2 x2_3 = some (x2_0, x2_1, x2_2, x2_3) := by
    unfold laws_toKeySignature.f
    rw [toS_tells _ l1 k hk, toS_tells _ l2 k hk, toS_tells _ l3 k hk]
    rfl
  have ee : laws_eqKeySignature.f k x2_0 x2_1 x2_2 x2_3 x2_0 x2_1 x2_2 x2_3 = some true := by
    unfold laws_eqKeySignature.f
    rw [eqS_tells _ l1 k hk, eqS_tells _ l2 k hk, eqS_tells _ l3 k hk]
    simp
  rw [if_neg n3, Option.bind_some, if_neg n3, et]
  simp only [Option.bind_some]
  rw [w1, Option.bind_some, w2, Option.bind_some, if_pos rfl, ee]
  rfl

end Go.Proofs.YtgknilganicofaaDoor.Pure
