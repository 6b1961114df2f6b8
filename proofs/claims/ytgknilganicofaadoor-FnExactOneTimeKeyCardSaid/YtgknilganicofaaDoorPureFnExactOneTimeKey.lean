/- The statement FnExactOneTimeKey: what the given program's printed functions answer, as the law asks; no condition. -/
import Derived.Test.YtgknilganicofaaDoorPFnExactOneTimeKeyx2
import Derived.Test.YtgknilganicofaaDoorShaE
set_option linter.unusedVariables false
set_option linter.unusedSimpArgs false
namespace Go.Proofs.YtgknilganicofaaDoor.Pure
open Go.RowKit Go.Proofs.YtgknilganicofaaDoor.PFnExactOneTimeKey Go.Proofs.YtgknilganicofaaDoorV.PrintWords Go.Proofs.YtgknilganicofaaDoorV.PrintLast Go.Proofs.YtgknilganicofaaDoorV.PrintMore
/-! snippet base -/
theorem wrap_id {x : Int} (h1 : -9223372036854775808 ≤ x) (h2 : x ≤ 9223372036854775807) : wrap64 x = x := by
  unfold wrap64
  omega
theorem nat_pos_succ {k d : Nat} (h : d < k) : ∃ m, k = m + 1 := ⟨k - 1, by omega⟩
theorem u8_of_wf {l : List Int} (h : ∀ x ∈ l, (Lit.int .u8 x).wf = true) (i : Int) : 0 ≤ rd l i ∧ rd l i ≤ 255 := by
  unfold rd
  rw [List.getD_eq_getElem?_getD]
  by_cases hi : i.toNat < l.length
  · rw [List.getElem?_eq_getElem hi, Option.getD_some]
    have := h _ (List.getElem_mem hi)
    simp only [Lit.wf, Bool.and_eq_true, decide_eq_true_eq] at this
    have e1 : IntKind.u8.min = 0 := rfl
    have e2 : IntKind.u8.max = 255 := rfl
    omega
  · rw [List.getElem?_eq_none (by omega)]
    simp
theorem i64_of_wf {x : Int} (h : (Lit.int .i64 x).wf = true) : -9223372036854775808 ≤ x ∧ x ≤ 9223372036854775807 := by
  simp only [Lit.wf, Bool.and_eq_true, decide_eq_true_eq] at h
  have e1 : IntKind.i64.min = -9223372036854775808 := rfl
  have e2 : IntKind.i64.max = 9223372036854775807 := rfl
  omega
theorem toList_len (s : ByteArray) : s.toList.length = s.size := by
  rw [ByteArray.toList_eq]
  exact data_length s
theorem toList_inj {a b : ByteArray} (h : a.toList = b.toList) : a = b := by
  rw [ByteArray.toList_eq, ByteArray.toList_eq] at h
  exact Go.WideShapes.bytes_inj h

/-! snippet hexD1 -/
theorem areLong_one (s : ByteArray) : impl_areLong.f [s] = some (decide ((65536 : Int) < s.size)) := by
  unfold impl_areLong.f
  simp

/-! snippet number -/
theorem number_l0 (d : Nat) : ∀ (k : Nat) (x : Int) (l : List Int), d ≤ l.length → l.length ≤ 65536 → d < k → impl_number.l0 k x l ((d : Int) - 1) = some (strOfNums (Sha.num x d l)) := by
  induction d with
  | zero =>
    intro k x l _ _ hk
    obtain ⟨k, rfl⟩ := nat_pos_succ hk
    rw [impl_number.l0, if_neg (by omega)]
    rfl
  | succ d ih =>
    intro k x l hd hl hk
    obtain ⟨k, rfl⟩ := nat_pos_succ hk
    rw [impl_number.l0, if_pos (by omega), if_pos (by omega), if_pos (by omega)]
    have h1 : wrap64 (((d + 1 : Nat) : Int) - 1 - 1) = (d : Int) - 1 := by rw [wrap_id (by omega) (by omega)]; omega
    have h2 : (((d + 1 : Nat) : Int) - 1).toNat = d := by omega
    rw [h1, h2, ih _ _ _ (by rw [List.length_set]; omega) (by rw [List.length_set]; exact hl) (by omega)]
    rfl
theorem number_tells (n : Nat) (x : Int) (h0 : n ≤ 65536) (k : Nat) (hk : n < k) : impl_number.f k x n = some (strOfNums (Sha.num x n (List.replicate n 0))) := by
  rw [impl_number.f, if_pos (by omega), if_pos (by omega), wrap_id (by omega) (by omega), Int.toNat_natCast]
  exact number_l0 n k x _ (by simp) (by simp; omega) hk
theorem number1 (x : Int) (k : Nat) (hk : 1 < k) : impl_number.f k x 1 = some (strOfNums [x % 256]) := number_tells 1 x (by omega) k hk
theorem number2 (x : Int) (k : Nat) (hk : 2 < k) : impl_number.f k x 2 = some (strOfNums [x / 256 % 256, x % 256]) := number_tells 2 x (by omega) k hk
theorem number4 (x : Int) (k : Nat) (hk : 4 < k) : impl_number.f k x 4 = some (strOfNums [x / 16777216 % 256, x / 65536 % 256, x / 256 % 256, x % 256]) := by
  rw [← Sha.num4]
  exact number_tells 4 x (by omega) k hk
theorem ba_assoc (a b c : ByteArray) : a ++ b ++ c = a ++ (b ++ c) := by
  apply Sha.ba_ext
  simp
theorem nums_size1 (x : Int) : (strOfNums [x]).size = 1 := rfl

/-! snippet secret -/
def secText (s : ByteArray) (i b v : Int) : ByteArray := (⟨#[115, 101, 99, 114, 101, 116]⟩ : ByteArray) ++ s ++ strOfNums [i % 256, b % 256, v % 256]
def secretOf (s : ByteArray) (i b v : Int) : ByteArray := Sha.sha (secText s i b v)
theorem sec_size (s : ByteArray) : ((⟨#[115, 101, 99, 114, 101, 116]⟩ : ByteArray) ++ s).size = 6 + s.size := by rw [ByteArray.size_append]; rfl
theorem secretOf_size (s : ByteArray) (i b v : Int) : (secretOf s i b v).size = 32 := Sha.sha_size _
theorem spec_l03Secret_tells (s : ByteArray) (hs : s.size ≤ 1048576) (i b v : Int) : spec_l03Secret.f s i b v = some (secretOf s i b v) := by
  unfold spec_l03Secret.f spec_l01Hash.f
  have h3 : (strOfNums [i % 256, b % 256, v % 256]).size = 3 := rfl
  rw [if_pos (by omega), Option.bind_some, if_pos (by rw [sec_size, h3]; omega), if_pos (by rw [ByteArray.size_append, sec_size, h3]; omega), if_pos (by rw [bytesOf_length, ByteArray.size_append, sec_size, h3]; omega), Sha.sha_eq, Option.bind_some]
  rfl
theorem impl_secret_tells (s : ByteArray) (hs : s.size ≤ 1048576) (i b v : Int) (k : Nat) (hk : 1 < k) : impl_secret.f k s i b v = some (secretOf s i b v) := by
  unfold impl_secret.f impl_hash.f
  have h1 := nums_size1 (i % 256)
  have h2 := nums_size1 (b % 256)
  have h3 := nums_size1 (v % 256)
  have z1 := sec_size s
  have z2 : ((⟨#[115, 101, 99, 114, 101, 116]⟩ : ByteArray) ++ s ++ strOfNums [i % 256]).size = 7 + s.size := by rw [ByteArray.size_append, z1, h1]; omega
  have z3 : ((⟨#[115, 101, 99, 114, 101, 116]⟩ : ByteArray) ++ s ++ strOfNums [i % 256] ++ strOfNums [b % 256]).size = 8 + s.size := by rw [ByteArray.size_append, z2, h2]; omega
  have z4 : ((⟨#[115, 101, 99, 114, 101, 116]⟩ : ByteArray) ++ s ++ strOfNums [i % 256] ++ strOfNums [b % 256] ++ strOfNums [v % 256]).size = 9 + s.size := by rw [ByteArray.size_append, z3, h3]; omega
  have e : (⟨#[115, 101, 99, 114, 101, 116]⟩ : ByteArray) ++ s ++ strOfNums [i % 256] ++ strOfNums [b % 256] ++ strOfNums [v % 256] = secText s i b v := by
    unfold secText
    rw [ba_assoc _ (strOfNums [i % 256]), ba_assoc _ (strOfNums [i % 256] ++ strOfNums [b % 256]), ← Sha.nums_app, ← Sha.nums_app]
    rfl
  rw [if_pos (by omega), number1 i k hk, Option.bind_some, if_pos (by omega), number1 b k hk, Option.bind_some, if_pos (by omega), number1 v k hk, Option.bind_some, if_pos (by omega), if_pos (by omega), e, Option.bind_some]
  rfl

/-! snippet key -/
def keyText (s : ByteArray) (i : Int) : Nat → Int → ByteArray → ByteArray
  | 0, _, t => t
  | d + 1, b, t => keyText s i d (b + 1) (t ++ (Sha.sha (secretOf s i b 0) ++ Sha.sha (secretOf s i b 1)))
def keyOf (s : ByteArray) (i : Int) : ByteArray := Sha.sha (keyText s i 32 0 (⟨#[107, 101, 121]⟩ : ByteArray))
theorem two_size (a b : ByteArray) : (Sha.sha a ++ Sha.sha b).size = 64 := by rw [ByteArray.size_append, Sha.sha_size, Sha.sha_size]
theorem key_impl (s : ByteArray) (hs : s.size ≤ 1048576) (i : Int) (d : Nat) : ∀ (k : Nat) (t : ByteArray) (b : Int), 0 ≤ b → 32 - b = d → (t.size : Int) = 3 + 64 * b → d + 2 < k → impl_oneTimeKey.l0 k s i t b = some (Sha.sha (keyText s i d b t)) := by
  induction d with
  | zero =>
    intro k t b h0 hd ht hk
    obtain ⟨k, rfl⟩ : ∃ m, k = m + 1 := ⟨k - 1, by omega⟩
    unfold impl_oneTimeKey.l0 impl_hash.f
    rw [if_neg (by omega), if_pos (by omega)]
    rfl
  | succ d ih =>
    intro k t b h0 hd ht hk
    obtain ⟨k, rfl⟩ : ∃ m, k = m + 1 := ⟨k - 1, by omega⟩
    have hz := two_size (secretOf s i b 0) (secretOf s i b 1)
    have e : ∀ v, impl_hash.f (secretOf s i b v) = some (Sha.sha (secretOf s i b v)) := fun v => by unfold impl_hash.f; rw [if_pos (by rw [secretOf_size]; omega)]
    rw [impl_oneTimeKey.l0, if_pos (by omega), impl_secret_tells s hs i b 0 k (by omega), Option.bind_some, e, Option.bind_some, impl_secret_tells s hs i b 1 k (by omega), Option.bind_some, e, Option.bind_some, if_pos (by rw [Sha.sha_size, Sha.sha_size]; omega), if_pos (by rw [hz]; omega), wrap_id (by omega) (by omega), ih k _ (b + 1) (by omega) (by omega) (by rw [ByteArray.size_append, hz]; omega) (by omega), keyText]
theorem impl_key_tells (s : ByteArray) (hs : s.size ≤ 1048576) (i : Int) (k : Nat) (hk : 35 ≤ k) : impl_oneTimeKey.f k s i = some (keyOf s i) :=
  key_impl s hs i 32 k _ 0 (by omega) (by omega) rfl (by omega)
theorem key_spec (s : ByteArray) (hs : s.size ≤ 1048576) (i : Int) (d : Nat) : ∀ (k : Nat) (t : ByteArray) (b : Int), 0 ≤ b → 32 - b = d → (t.size : Int) = 3 + 64 * b → 4 * d < k → spec_l03Key.l0 k s i (bytesOf t) b = some (Sha.sha (keyText s i d b t)) := by
  induction d with
  | zero =>
    intro k t b h0 hd ht hk
    obtain ⟨k, rfl⟩ : ∃ m, k = m + 1 := ⟨k - 1, by omega⟩
    unfold spec_l03Key.l0 spec_l01Hash.f
    rw [if_neg (by omega), if_pos (by rw [bytesOf_length]; omega), Sha.sha_eq]
    rfl
  | succ d ih =>
    intro k t b h0 hd ht hk
    obtain ⟨k, rfl⟩ : ∃ m, k = m + 1 + 1 + 1 + 1 := ⟨k - 4, by omega⟩
    have hz := two_size (secretOf s i b 0) (secretOf s i b 1)
    have e : ∀ v, spec_l01Hash.f (bytesOf (secretOf s i b v)) = some (Sha.sha (secretOf s i b v)) := fun v => by unfold spec_l01Hash.f; rw [if_pos (by rw [bytesOf_length, secretOf_size]; omega), Sha.sha_eq]
    rw [spec_l03Key.l0, if_pos (by omega), spec_l03Key.l1, if_pos (by omega), spec_l03Secret_tells s hs, Option.bind_some, if_pos (by rw [secretOf_size]; omega), e, Option.bind_some, if_pos (by rw [bytesOf_length, Sha.sha_size]; omega), wrap_id (x := 0 + 1) (by omega) (by omega),
      show (0 : Int) + 1 = 1 from rfl, spec_l03Key.l1, if_pos (by omega), spec_l03Secret_tells s hs, Option.bind_some, if_pos (by rw [secretOf_size]; omega), e, Option.bind_some, if_pos (by rw [List.length_append, bytesOf_length, bytesOf_length, Sha.sha_size, Sha.sha_size]; omega), wrap_id (x := 1 + 1) (by omega) (by omega),
      spec_l03Key.l1, if_neg (by omega), wrap_id (by omega) (by omega), List.append_assoc, ← Sha.bytes_app, ← Sha.bytes_app, ih k _ (b + 1) (by omega) (by omega) (by rw [ByteArray.size_append, hz]; omega) (by omega), keyText]
theorem spec_key_tells (s : ByteArray) (hs : s.size ≤ 1048576) (i : Int) (k : Nat) (hk : 129 ≤ k) : spec_l03Key.f k s i = some (keyOf s i) := by
  unfold spec_l03Key.f
  exact key_spec s hs i 32 k (⟨#[107, 101, 121]⟩ : ByteArray) 0 (by omega) (by omega) rfl (by omega)
theorem keyOf_size (s : ByteArray) (i : Int) : (keyOf s i).size = 32 := Sha.sha_size _

/-! snippet specIn -/
theorem specIn_tells (n low high : Int) : spec_l01In.f n low high = some (decide (low ≤ n) && decide (n ≤ high)) := by
  unfold spec_l01In.f
  by_cases h : n ≥ low
  · rw [if_pos h, decide_eq_true h]; rfl
  · rw [if_neg h, decide_eq_false h]; rfl

/-! snippet within -/
theorem within_tells (n low high : Int) : impl_within.f n low high = some (decide (low ≤ n) && decide (n ≤ high)) := by
  unfold impl_within.f
  by_cases h : n ≥ low
  · rw [if_pos h, decide_eq_true h]; rfl
  · rw [if_neg h, decide_eq_false h]; rfl

/-! snippet FnExactOneTimeKey -/
theorem FnExactOneTimeKey (x0 : ByteArray) (x1 : Int) (gx0 : x0.size ≤ 9223372036854775807) (gx1 : (Lit.int .i64 x1).wf = true) : ∃ k, laws_FnExactOneTimeKey.f k x0 x1 = some true := by
  obtain ⟨k, hk⟩ : ∃ k : Nat, 129 ≤ k := ⟨129, Nat.le_refl _⟩
  refine ⟨k, ?_⟩
  unfold laws_FnExactOneTimeKey.f
  by_cases h : (x0.size : Int) > 1048576
  · rw [if_pos h]
  rw [if_neg h]
  obtain ⟨K, e1, e2⟩ : ∃ K, spec_l03Key.f k x0 x1 = some K ∧ impl_oneTimeKey.f k x0 x1 = some K := ⟨_, spec_key_tells x0 (by omega) _ k (by omega), impl_key_tells x0 (by omega) _ k (by omega)⟩
  unfold spec_OneTimeKey.f impl_OneTimeKey.f impl_isHash.f impl_isIndex.f
  rw [areLong_one]
  simp only [specIn_tells, within_tells, e1, e2, Option.bind_some]
  by_cases h2 : (x0.size : Int) > 65536
  · rw [if_pos h2, decide_eq_true (show (65536 : Int) < x0.size by omega)]; simp
  rw [if_neg h2, decide_eq_false (show ¬ (65536 : Int) < x0.size by omega)]
  by_cases h3 : (x0.size : Int) = 32
  · rw [if_pos h3, h3]
    cases (decide ((0 : Int) ≤ x1) && decide (x1 ≤ 7)) <;> simp
  · rw [if_neg h3]
    simp [h3]

end Go.Proofs.YtgknilganicofaaDoor.Pure
