/- The statement FnExactReadingMac: what the given program's printed functions answer, as the law asks; no condition. -/
import Derived.Test.YtgknilganicofaaDoorPFnExactReadingMacx1
import Derived.Test.YtgknilganicofaaDoorShaE
set_option linter.unusedVariables false
set_option linter.unusedSimpArgs false
namespace Go.Proofs.YtgknilganicofaaDoor.Pure
open Go.RowKit Go.Proofs.YtgknilganicofaaDoor.PFnExactReadingMac Go.Proofs.YtgknilganicofaaDoorV.PrintWords Go.Proofs.YtgknilganicofaaDoorV.PrintLast Go.Proofs.YtgknilganicofaaDoorV.PrintMore
/-! snippet base -/
theorem wrap_id {x : Int} (h1 : -9223372036854775808 ≤ x) (h2 : x ≤ 9223372036854775807) : wrap64 x = x := by
  unfold wrap64
  omega
theorem nat_pos_succ {k d : Nat} (h : d < k) : ∃ m, k = m + 1 := ⟨k - 1, by omega⟩
theorem u8_of_wf {l : List Int} (h : ∀ x ∈ l, (Lit.int .u8 x).wf = true) (i : Int) : 0 ≤ rd l i ∧ rd l i ≤ 255 := by
  unfold rd
  rw [List.getD_eq_getElem?_getD]
  by_cases hi : i.toNat < l.length
  · rw [List.getElem?_eq_getElem hi, Option.getD_some]
    have := h _ (List.getElem_mem hi)
    simp only [Lit.wf, Bool.and_eq_true, decide_eq_true_eq] at this
    have e1 : IntKind.u8.min = 0 := rfl
    have e2 : IntKind.u8.max = 255 := rfl
    omega
  · rw [List.getElem?_eq_none (by omega)]
    simp
theorem i64_of_wf {x : Int} (h : (Lit.int .i64 x).wf = true) : -9223372036854775808 ≤ x ∧ x ≤ 9223372036854775807 := by
  simp only [Lit.wf, Bool.and_eq_true, decide_eq_true_eq] at h
  have e1 : IntKind.i64.min = -9223372036854775808 := rfl
  have e2 : IntKind.i64.max = 9223372036854775807 := rfl
  omega
theorem toList_len (s : ByteArray) : s.toList.length = s.size := by
  rw [ByteArray.toList_eq]
  exact data_length s
theorem toList_inj {a b : ByteArray} (h : a.toList = b.toList) : a = b := by
  rw [ByteArray.toList_eq, ByteArray.toList_eq] at h
  exact Go.WideShapes.bytes_inj h

/-! snippet number -/
theorem number_l0 (d : Nat) : ∀ (k : Nat) (x : Int) (l : List Int), d ≤ l.length → l.length ≤ 65536 → d < k → impl_number.l0 k x l ((d : Int) - 1) = some (strOfNums (Sha.num x d l)) := by
  induction d with
  | zero =>
    intro k x l _ _ hk
    obtain ⟨k, rfl⟩ := nat_pos_succ hk
    rw [impl_number.l0, if_neg (by omega)]
    rfl
  | succ d ih =>
    intro k x l hd hl hk
    obtain ⟨k, rfl⟩ := nat_pos_succ hk
    rw [impl_number.l0, if_pos (by omega), if_pos (by omega), if_pos (by omega)]
    have h1 : wrap64 (((d + 1 : Nat) : Int) - 1 - 1) = (d : Int) - 1 := by rw [wrap_id (by omega) (by omega)]; omega
    have h2 : (((d + 1 : Nat) : Int) - 1).toNat = d := by omega
    rw [h1, h2, ih _ _ _ (by rw [List.length_set]; omega) (by rw [List.length_set]; exact hl) (by omega)]
    rfl
theorem number_tells (n : Nat) (x : Int) (h0 : n ≤ 65536) (k : Nat) (hk : n < k) : impl_number.f k x n = some (strOfNums (Sha.num x n (List.replicate n 0))) := by
  rw [impl_number.f, if_pos (by omega), if_pos (by omega), wrap_id (by omega) (by omega), Int.toNat_natCast]
  exact number_l0 n k x _ (by simp) (by simp; omega) hk
theorem number1 (x : Int) (k : Nat) (hk : 1 < k) : impl_number.f k x 1 = some (strOfNums [x % 256]) := number_tells 1 x (by omega) k hk
theorem number2 (x : Int) (k : Nat) (hk : 2 < k) : impl_number.f k x 2 = some (strOfNums [x / 256 % 256, x % 256]) := number_tells 2 x (by omega) k hk
theorem number4 (x : Int) (k : Nat) (hk : 4 < k) : impl_number.f k x 4 = some (strOfNums [x / 16777216 % 256, x / 65536 % 256, x / 256 % 256, x % 256]) := by
  rw [← Sha.num4]
  exact number_tells 4 x (by omega) k hk
theorem ba_assoc (a b c : ByteArray) : a ++ b ++ c = a ++ (b ++ c) := by
  apply Sha.ba_ext
  simp
theorem nums_size1 (x : Int) : (strOfNums [x]).size = 1 := rfl

/-! snippet u64 -/
theorem u64_small (x : Int) (h0 : 0 ≤ x) (h1 : x ≤ 100) : IntKind.u64.wrap x = x := by
  simp only [IntKind.wrap, IntKind.bits, IntKind.signed]
  simp
  omega

/-! snippet mac -/
def macOf (id : Int) (t : ByteArray) : ByteArray := (Sha.sha (Sha.sha ((⟨#[110, 111, 100, 101, 32, 107, 101, 121]⟩ : ByteArray) ++ strOfNums [id % 256]) ++ t)).extract 0 8
def numS (n : Int) : Nat → List Int
  | 0 => []
  | d + 1 => (shr .i64 n (8 * (d : Int))) % 256 :: numS n d
theorem l02_l0 (n : Int) (d : Nat) : ∀ (k : Nat) (xs : List Int), d ≤ 8 → xs.length ≤ 1000 - d → d < k → spec_l02Number.l0 k n xs ((d : Int) - 1) = some (xs ++ numS n d) := by
  induction d with
  | zero =>
    intro k xs _ _ hk
    obtain ⟨k, rfl⟩ := nat_pos_succ hk
    rw [spec_l02Number.l0, if_neg (by omega), numS, List.append_nil]
  | succ d ih =>
    intro k xs hd hx hk
    obtain ⟨k, rfl⟩ := nat_pos_succ hk
    rw [spec_l02Number.l0, if_pos (by omega), show ((d + 1 : Nat) : Int) - 1 = d by omega, wrap_id (x := 8 * (d : Int)) (by omega) (by omega), u64_small (8 * (d : Int)) (by omega) (by omega), if_pos (by omega), if_pos (by omega), wrap_id (by omega) (by omega), ih k _ (by omega) (by rw [List.length_append]; simp only [List.length_cons, List.length_nil]; omega) (by omega), numS, List.append_assoc]
    rfl
def num4L (n : Int) : List Int := [n / 16777216 % 256, n / 65536 % 256, n / 256 % 256, n % 256]
theorem shr8 (n : Int) : shr .i64 n 8 = n / 256 := rfl
theorem shr16 (n : Int) : shr .i64 n 16 = n / 65536 := rfl
theorem shr24 (n : Int) : shr .i64 n 24 = n / 16777216 := rfl
theorem shr0 (n : Int) : shr .i64 n 0 = n := by unfold shr; simp
theorem numS4 (n : Int) : numS n 4 = num4L n := by
  simp only [numS, num4L]
  rw [show (8 : Int) * ((3 : Nat) : Int) = 24 from rfl, show (8 : Int) * ((2 : Nat) : Int) = 16 from rfl, show (8 : Int) * ((1 : Nat) : Int) = 8 from rfl, show (8 : Int) * ((0 : Nat) : Int) = 0 from rfl, shr24, shr16, shr8, shr0]
theorem l02_4 (n : Int) (k : Nat) (hk : 4 < k) : spec_l02Number.f k n 4 = some (num4L n) := by
  unfold spec_l02Number.f
  rw [wrap_id (by omega) (by omega), ← numS4]
  exact l02_l0 n 4 k [] (by omega) (by simp) hk
theorem num4L_le (n : Int) : ∀ x ∈ num4L n, 0 ≤ x ∧ x < 256 := by
  intro x hx
  simp only [num4L, List.mem_cons, List.not_mem_nil, or_false] at hx
  rcases hx with rfl | rfl | rfl | rfl <;> omega
theorem nk_size (id : Int) : ((⟨#[110, 111, 100, 101, 32, 107, 101, 121]⟩ : ByteArray) ++ strOfNums [id % 256]).size = 9 := by
  rw [ByteArray.size_append, nums_size1]
  rfl
theorem spec_l04Mac_tells (id : Int) (xs : List Int) (hl : xs.length ≤ 1048576) (hx : ∀ x ∈ xs, 0 ≤ x ∧ x < 256) : spec_l04Mac.f id xs = some (macOf id (strOfNums xs)) := by
  unfold spec_l04Mac.f spec_l04Secret.f spec_l01Hash.f
  have h1 := nums_size1 (id % 256)
  have h2 := nk_size id
  have h3 := Sha.sha_size ((⟨#[110, 111, 100, 101, 32, 107, 101, 121]⟩ : ByteArray) ++ strOfNums [id % 256])
  simp only [Option.bind_some]
  rw [if_pos (by rw [h1]; omega), if_pos (by rw [h2]; omega), if_pos (by rw [bytesOf_length, h2]; omega)]
  simp only [Option.bind_some]
  rw [Sha.sha_eq, if_pos (by rw [h3]; omega), if_pos (by rw [bytesOf_length, h3]; omega), if_pos (by rw [List.length_append, bytesOf_length, h3]; omega)]
  simp only [Option.bind_some]
  conv => lhs; rw [← Sha.bytesOf_nums xs hx]
  rw [← Sha.bytes_app, Sha.sha_eq, if_pos (by decide), if_pos (by rw [Sha.sha_size]; decide)]
  rfl
theorem impl_mark_tells (id : Int) (t : ByteArray) (ht : t.size ≤ 1048576) (k : Nat) (hk : 1 < k) : impl_mark.f k id t = some (macOf id t) := by
  unfold impl_mark.f impl_hash.f
  have h1 := nums_size1 (id % 256)
  have h2 := nk_size id
  have h3 := Sha.sha_size ((⟨#[110, 111, 100, 101, 32, 107, 101, 121]⟩ : ByteArray) ++ strOfNums [id % 256])
  rw [number1 id k hk, Option.bind_some, if_pos (by rw [h1]; omega), if_pos (by rw [h2]; omega), Option.bind_some, if_pos (by rw [h3]; omega), if_pos (by rw [ByteArray.size_append, h3]; omega), Option.bind_some, if_pos (by decide), if_pos (by rw [Sha.sha_size]; decide)]
  rfl
theorem macOf_size (id : Int) (t : ByteArray) : (macOf id t).size = 8 := by
  unfold macOf
  rw [ByteArray.size_extract, Sha.sha_size]
  rfl

/-! snippet reading -/
def readingOf (from_ value : Int) : ByteArray := macOf from_ ((⟨#[99, 108, 111, 99, 107]⟩ : ByteArray) ++ strOfNums (num4L value))
theorem num4L_size (n : Int) : (strOfNums (num4L n)).size = 4 := rfl
theorem clock_nums (l : List Int) : strOfNums ([99, 108, 111, 99, 107] ++ l) = (⟨#[99, 108, 111, 99, 107]⟩ : ByteArray) ++ strOfNums l := by
  rw [Sha.nums_app]
  rfl
theorem spec_l04Reading_tells (from_ value : Int) (k : Nat) (hk : 4 < k) : spec_l04Reading.f k from_ value = some (readingOf from_ value) := by
  unfold spec_l04Reading.f
  rw [Option.bind_some, l02_4 value k hk, Option.bind_some, if_pos (by simp [num4L]), spec_l04Mac_tells from_ _ (by simp [num4L]) (by
    intro x hx
    rcases List.mem_append.1 hx with hx | hx
    · simp only [List.mem_cons, List.not_mem_nil, or_false] at hx
      rcases hx with rfl | rfl | rfl | rfl | rfl <;> decide
    · exact num4L_le value x hx), clock_nums]
  rfl
theorem impl_readingMac_tells (from_ value : Int) (k : Nat) (hk : 4 < k) : impl_readingMac.f k from_ value = some (readingOf from_ value) := by
  unfold impl_readingMac.f
  have h5 : ((⟨#[99, 108, 111, 99, 107]⟩ : ByteArray) ++ strOfNums (num4L value)).size = 9 := by rw [ByteArray.size_append, num4L_size]; rfl
  rw [number4 value k hk]
  show (Option.bind (some (strOfNums (num4L value))) _) = _
  rw [Option.bind_some, if_pos (by rw [num4L_size]; omega), impl_mark_tells from_ _ (by rw [h5]; omega) k (by omega)]
  rfl

/-! snippet specIn -/
theorem specIn_tells (n low high : Int) : spec_l01In.f n low high = some (decide (low ≤ n) && decide (n ≤ high)) := by
  unfold spec_l01In.f
  by_cases h : n ≥ low
  · rw [if_pos h, decide_eq_true h]; rfl
  · rw [if_neg h, decide_eq_false h]; rfl

/-! snippet within -/
theorem within_tells (n low high : Int) : impl_within.f n low high = some (decide (low ≤ n) && decide (n ≤ high)) := by
  unfold impl_within.f
  by_cases h : n ≥ low
  · rw [if_pos h, decide_eq_true h]; rfl
  · rw [if_neg h, decide_eq_false h]; rfl

/-! snippet FnExactReadingMac -/
theorem FnExactReadingMac (x0 : Int) (x1 : Int) (gx0 : (Lit.int .i64 x0).wf = true) (gx1 : (Lit.int .i64 x1).wf = true) : ∃ k, laws_FnExactReadingMac.f k x0 x1 = some true := by
  obtain ⟨k, hk⟩ : ∃ k : Nat, 5 ≤ k := ⟨5, Nat.le_refl _⟩
  refine ⟨k, ?_⟩
  obtain ⟨K, e1, e2⟩ : ∃ K, spec_l04Reading.f k x0 x1 = some K ∧ impl_readingMac.f k x0 x1 = some K := ⟨_, spec_l04Reading_tells x0 x1 k (by omega), impl_readingMac_tells x0 x1 k (by omega)⟩
  unfold laws_FnExactReadingMac.f spec_ReadingMac.f impl_ReadingMac.f
  simp only [specIn_tells, within_tells, e1, e2, Option.bind_some]
  cases (decide ((0 : Int) ≤ x0) && decide (x0 ≤ 6)) <;> cases (decide ((0 : Int) ≤ x1) && decide (x1 ≤ 1000000000)) <;> simp

end Go.Proofs.YtgknilganicofaaDoor.Pure
