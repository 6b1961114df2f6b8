/- The statement FnExactAgreedTime: what the given program's printed functions answer, as the law asks; no condition. -/
import Derived.Test.YtmkaknegjahjaaaDoorPFnExactAgreedTimex6
import Derived.Test.YtmkaknegjahjaaaDoorShaE
import Derived.Test.YtmkaknegjahjaaaDoorMedian
set_option linter.unusedVariables false
set_option linter.unusedSimpArgs false
namespace Go.Proofs.YtmkaknegjahjaaaDoor.Pure
open Go.RowKit Go.Proofs.YtmkaknegjahjaaaDoor.PFnExactAgreedTime Go.Proofs.YtmkaknegjahjaaaDoorV.PrintWords Go.Proofs.YtmkaknegjahjaaaDoorV.PrintLast Go.Proofs.YtmkaknegjahjaaaDoorV.PrintMore
/-! snippet base -/
theorem wrap_id {x : Int} (h1 : -9223372036854775808 ≤ x) (h2 : x ≤ 9223372036854775807) : wrap64 x = x := by
  unfold wrap64
  omega
theorem nat_pos_succ {k d : Nat} (h : d < k) : ∃ m, k = m + 1 := ⟨k - 1, by omega⟩
theorem u8_of_wf {l : List Int} (h : ∀ x ∈ l, (Lit.int .u8 x).wf = true) (i : Int) : 0 ≤ rd l i ∧ rd l i ≤ 255 := by
  unfold rd
  rw [List.getD_eq_getElem?_getD]
  by_cases hi : i.toNat < l.length
  · rw [List.getElem?_eq_getElem hi, Option.getD_some]
    have := h _ (List.getElem_mem hi)
    simp only [Lit.wf, Bool.and_eq_true, decide_eq_true_eq] at this
    have e1 : IntKind.u8.min = 0 := rfl
    have e2 : IntKind.u8.max = 255 := rfl
    omega
  · rw [List.getElem?_eq_none (by omega)]
    simp
theorem i64_of_wf {x : Int} (h : (Lit.int .i64 x).wf = true) : -9223372036854775808 ≤ x ∧ x ≤ 9223372036854775807 := by
  simp only [Lit.wf, Bool.and_eq_true, decide_eq_true_eq] at h
  have e1 : IntKind.i64.min = -9223372036854775808 := rfl
  have e2 : IntKind.i64.max = 9223372036854775807 := rfl
  omega
theorem toList_len (s : ByteArray) : s.toList.length = s.size := by
  rw [ByteArray.toList_eq]
  exact data_length s
theorem toList_inj {a b : ByteArray} (h : a.toList = b.toList) : a = b := by
  rw [ByteArray.toList_eq, ByteArray.toList_eq] at h
  exact Go.WideShapes.bytes_inj h

/-! snippet number -/
theorem number_l0 (d : Nat) : ∀ (k : Nat) (x : Int) (l : List Int), d ≤ l.length → l.length ≤ 65536 → d < k → impl_number.l0 k x l ((d : Int) - 1) = some (strOfNums (Sha.num x d l)) := by
  induction d with
  | zero =>
    intro k x l _ _ hk
    obtain ⟨k, rfl⟩ := nat_pos_succ hk
    rw [impl_number.l0, if_neg (by omega)]
    rfl
  | succ d ih =>
    intro k x l hd hl hk
    obtain ⟨k, rfl⟩ := nat_pos_succ hk
    rw [impl_number.l0, if_pos (by omega), if_pos (by omega), if_pos (by omega)]
    have h1 : wrap64 (((d + 1 : Nat) : Int) - 1 - 1) = (d : Int) - 1 := by rw [wrap_id (by omega) (by omega)]; omega
    have h2 : (((d + 1 : Nat) : Int) - 1).toNat = d := by omega
    rw [h1, h2, ih _ _ _ (by rw [List.length_set]; omega) (by rw [List.length_set]; exact hl) (by omega)]
    rfl
theorem number_tells (n : Nat) (x : Int) (h0 : n ≤ 65536) (k : Nat) (hk : n < k) : impl_number.f k x n = some (strOfNums (Sha.num x n (List.replicate n 0))) := by
  rw [impl_number.f, if_pos (by omega), if_pos (by omega), wrap_id (by omega) (by omega), Int.toNat_natCast]
  exact number_l0 n k x _ (by simp) (by simp; omega) hk
theorem number1 (x : Int) (k : Nat) (hk : 1 < k) : impl_number.f k x 1 = some (strOfNums [x % 256]) := number_tells 1 x (by omega) k hk
theorem number2 (x : Int) (k : Nat) (hk : 2 < k) : impl_number.f k x 2 = some (strOfNums [x / 256 % 256, x % 256]) := number_tells 2 x (by omega) k hk
theorem number4 (x : Int) (k : Nat) (hk : 4 < k) : impl_number.f k x 4 = some (strOfNums [x / 16777216 % 256, x / 65536 % 256, x / 256 % 256, x % 256]) := by
  rw [← Sha.num4]
  exact number_tells 4 x (by omega) k hk
theorem ba_assoc (a b c : ByteArray) : a ++ b ++ c = a ++ (b ++ c) := by
  apply Sha.ba_ext
  simp
theorem nums_size1 (x : Int) : (strOfNums [x]).size = 1 := rfl

/-! snippet u64 -/
theorem u64_small (x : Int) (h0 : 0 ≤ x) (h1 : x ≤ 100) : IntKind.u64.wrap x = x := by
  simp only [IntKind.wrap, IntKind.bits, IntKind.signed]
  simp
  omega

/-! snippet l02 -/
def numS (n : Int) : Nat → List Int
  | 0 => []
  | d + 1 => (shr .i64 n (8 * (d : Int))) % 256 :: numS n d
theorem l02_l0 (n : Int) (d : Nat) : ∀ (k : Nat) (xs : List Int), d ≤ 8 → xs.length ≤ 1000 - d → d < k → spec_l02Number.l0 k n xs ((d : Int) - 1) = some (xs ++ numS n d) := by
  induction d with
  | zero =>
    intro k xs _ _ hk
    obtain ⟨k, rfl⟩ := nat_pos_succ hk
    rw [spec_l02Number.l0, if_neg (by omega), numS, List.append_nil]
  | succ d ih =>
    intro k xs hd hx hk
    obtain ⟨k, rfl⟩ := nat_pos_succ hk
    rw [spec_l02Number.l0, if_pos (by omega), show ((d + 1 : Nat) : Int) - 1 = d by omega, wrap_id (x := 8 * (d : Int)) (by omega) (by omega), u64_small (8 * (d : Int)) (by omega) (by omega), if_pos (by omega), if_pos (by omega), wrap_id (by omega) (by omega), ih k _ (by omega) (by rw [List.length_append]; simp only [List.length_cons, List.length_nil]; omega) (by omega), numS, List.append_assoc]
    rfl
def num4L (n : Int) : List Int := [n / 16777216 % 256, n / 65536 % 256, n / 256 % 256, n % 256]
theorem shr8 (n : Int) : shr .i64 n 8 = n / 256 := rfl
theorem shr16 (n : Int) : shr .i64 n 16 = n / 65536 := rfl
theorem shr24 (n : Int) : shr .i64 n 24 = n / 16777216 := rfl
theorem shr0 (n : Int) : shr .i64 n 0 = n := by unfold shr; simp
theorem numS4 (n : Int) : numS n 4 = num4L n := by
  simp only [numS, num4L]
  rw [show (8 : Int) * ((3 : Nat) : Int) = 24 from rfl, show (8 : Int) * ((2 : Nat) : Int) = 16 from rfl, show (8 : Int) * ((1 : Nat) : Int) = 8 from rfl, show (8 : Int) * ((0 : Nat) : Int) = 0 from rfl, shr24, shr16, shr8, shr0]
theorem l02_4 (n : Int) (k : Nat) (hk : 4 < k) : spec_l02Number.f k n 4 = some (num4L n) := by
  unfold spec_l02Number.f
  rw [wrap_id (by omega) (by omega), ← numS4]
  exact l02_l0 n 4 k [] (by omega) (by simp) hk
theorem num4L_le (n : Int) : ∀ x ∈ num4L n, 0 ≤ x ∧ x < 256 := by
  intro x hx
  simp only [num4L, List.mem_cons, List.not_mem_nil, or_false] at hx
  rcases hx with rfl | rfl | rfl | rfl <;> omega

/-! snippet mac -/
def macOf (id : Int) (t : ByteArray) : ByteArray := (Sha.sha (Sha.sha ((⟨#[110, 111, 100, 101, 32, 107, 101, 121]⟩ : ByteArray) ++ strOfNums [id % 256]) ++ t)).extract 0 8
theorem nk_size (id : Int) : ((⟨#[110, 111, 100, 101, 32, 107, 101, 121]⟩ : ByteArray) ++ strOfNums [id % 256]).size = 9 := by
  rw [ByteArray.size_append, nums_size1]
  rfl
theorem spec_l04Mac_tells (id : Int) (xs : List Int) (hl : xs.length ≤ 1048576) (hx : ∀ x ∈ xs, 0 ≤ x ∧ x < 256) : spec_l04Mac.f id xs = some (macOf id (strOfNums xs)) := by
  unfold spec_l04Mac.f spec_l04Secret.f spec_l01Hash.f
  have h1 := nums_size1 (id % 256)
  have h2 := nk_size id
  have h3 := Sha.sha_size ((⟨#[110, 111, 100, 101, 32, 107, 101, 121]⟩ : ByteArray) ++ strOfNums [id % 256])
  simp only [Option.bind_some]
  rw [if_pos (by rw [h1]; omega), if_pos (by rw [h2]; omega), if_pos (by rw [bytesOf_length, h2]; omega)]
  simp only [Option.bind_some]
  rw [Sha.sha_eq, if_pos (by rw [h3]; omega), if_pos (by rw [bytesOf_length, h3]; omega), if_pos (by rw [List.length_append, bytesOf_length, h3]; omega)]
  simp only [Option.bind_some]
  conv => lhs; rw [← Sha.bytesOf_nums xs hx]
  rw [← Sha.bytes_app, Sha.sha_eq, if_pos (by decide), if_pos (by rw [Sha.sha_size]; decide)]
  rfl
theorem impl_mark_tells (id : Int) (t : ByteArray) (ht : t.size ≤ 1048576) (k : Nat) (hk : 1 < k) : impl_mark.f k id t = some (macOf id t) := by
  unfold impl_mark.f impl_hash.f
  have h1 := nums_size1 (id % 256)
  have h2 := nk_size id
  have h3 := Sha.sha_size ((⟨#[110, 111, 100, 101, 32, 107, 101, 121]⟩ : ByteArray) ++ strOfNums [id % 256])
  rw [number1 id k hk, Option.bind_some, if_pos (by rw [h1]; omega), if_pos (by rw [h2]; omega), Option.bind_some, if_pos (by rw [h3]; omega), if_pos (by rw [ByteArray.size_append, h3]; omega), Option.bind_some, if_pos (by decide), if_pos (by rw [Sha.sha_size]; decide)]
  rfl
theorem macOf_size (id : Int) (t : ByteArray) : (macOf id t).size = 8 := by
  unfold macOf
  rw [ByteArray.size_extract, Sha.sha_size]
  rfl

/-! snippet reading -/
def readingOf (from_ value : Int) : ByteArray := macOf from_ ((⟨#[99, 108, 111, 99, 107]⟩ : ByteArray) ++ strOfNums (num4L value))
theorem num4L_size (n : Int) : (strOfNums (num4L n)).size = 4 := rfl
theorem clock_nums (l : List Int) : strOfNums ([99, 108, 111, 99, 107] ++ l) = (⟨#[99, 108, 111, 99, 107]⟩ : ByteArray) ++ strOfNums l := by
  rw [Sha.nums_app]
  rfl
theorem spec_l04Reading_tells (from_ value : Int) (k : Nat) (hk : 4 < k) : spec_l04Reading.f k from_ value = some (readingOf from_ value) := by
  unfold spec_l04Reading.f
  rw [Option.bind_some, l02_4 value k hk, Option.bind_some, if_pos (by simp [num4L]), spec_l04Mac_tells from_ _ (by simp [num4L]) (by
    intro x hx
    rcases List.mem_append.1 hx with hx | hx
    · simp only [List.mem_cons, List.not_mem_nil, or_false] at hx
      rcases hx with rfl | rfl | rfl | rfl | rfl <;> decide
    · exact num4L_le value x hx), clock_nums]
  rfl
theorem impl_readingMac_tells (from_ value : Int) (k : Nat) (hk : 4 < k) : impl_readingMac.f k from_ value = some (readingOf from_ value) := by
  unfold impl_readingMac.f
  have h5 : ((⟨#[99, 108, 111, 99, 107]⟩ : ByteArray) ++ strOfNums (num4L value)).size = 9 := by rw [ByteArray.size_append, num4L_size]; rfl
  rw [number4 value k hk]
  show (Option.bind (some (strOfNums (num4L value))) _) = _
  rw [Option.bind_some, if_pos (by rw [num4L_size]; omega), impl_mark_tells from_ _ (by rw [h5]; omega) k (by omega)]
  rfl

/-! snippet specIn -/
theorem specIn_tells (n low high : Int) : spec_l01In.f n low high = some (decide (low ≤ n) && decide (n ≤ high)) := by
  unfold spec_l01In.f
  by_cases h : n ≥ low
  · rw [if_pos h, decide_eq_true h]; rfl
  · rw [if_neg h, decide_eq_false h]; rfl

/-! snippet within -/
theorem within_tells (n low high : Int) : impl_within.f n low high = some (decide (low ≤ n) && decide (n ≤ high)) := by
  unfold impl_within.f
  by_cases h : n ≥ low
  · rw [if_pos h, decide_eq_true h]; rfl
  · rw [if_neg h, decide_eq_false h]; rfl

/-! snippet sorted -/
theorem rd_set (x : List Int) (a b : Nat) (v : Int) (ha : a < x.length) : rd (x.set a v) (b : Int) = if a = b then v else rd x (b : Int) := by
  unfold rd
  simp only [Int.toNat_natCast, List.getD_eq_getElem?_getD, List.getElem?_set]
  by_cases h : a = b
  · subst h; simp [ha]
  · simp [h]
theorem rd_nat (x : List Int) (i : Nat) (hi : i < x.length) : rd x (i : Int) = x[i] := by
  unfold rd
  simp [List.getD_eq_getElem?_getD, hi]
/-- The first i + 1 stand in order, but for the one at j, which is only known to be no greater than those behind it. -/
def AllBut (x : List Int) (i j : Nat) : Prop := ∀ p q : Nat, p < q → q ≤ i → q ≠ j → rd x (p : Int) ≤ rd x (q : Int)
def UpTo (x : List Int) (i : Nat) : Prop := ∀ p q : Nat, p < q → q < i → rd x (p : Int) ≤ rd x (q : Int)
theorem AllBut.start {x : List Int} {i : Nat} (h : UpTo x i) : AllBut x i i := fun p q h1 h2 h3 => h p q h1 (by omega)
theorem AllBut.stop {x : List Int} {i j : Nat} (h : AllBut x i j) (hj : j = 0 ∨ rd x ((j - 1 : Nat) : Int) ≤ rd x (j : Int)) : UpTo x (i + 1) := fun p q h1 h2 => by
  by_cases hq : q = j
  · subst hq
    rcases hj with h0 | h0
    · omega
    · by_cases hp : p = q - 1
      · subst hp; exact h0
      · exact Int.le_trans (h p (q - 1) (by omega) (by omega) (by omega)) h0
  · exact h p q h1 (by omega) hq
theorem AllBut.swap {x : List Int} {i j : Nat} (h : AllBut x i (j + 1)) (hi : j + 1 ≤ i) (hl : i < x.length) (hgt : rd x ((j + 1 : Nat) : Int) < rd x (j : Int)) :
    AllBut ((x.set (j + 1) (rd x (j : Int))).set j (rd x ((j + 1 : Nat) : Int))) i j := fun p q h1 h2 h3 => by
  have e : ∀ b : Nat, rd ((x.set (j + 1) (rd x (j : Int))).set j (rd x ((j + 1 : Nat) : Int))) (b : Int) = if j = b then rd x ((j + 1 : Nat) : Int) else if j + 1 = b then rd x (j : Int) else rd x (b : Int) := fun b => by
    rw [rd_set _ _ _ _ (by rw [List.length_set]; omega), rd_set _ _ _ _ (by omega)]
  rw [e p, e q]
  by_cases p1 : j = p
  · subst p1
    rw [if_pos rfl, if_neg (by omega)]
    by_cases q1 : j + 1 = q
    · subst q1
      rw [if_pos rfl]
      omega
    · rw [if_neg q1]
      exact h (j + 1) q (by omega) h2 (by omega)
  · rw [if_neg p1]
    by_cases p2 : j + 1 = p
    · subst p2
      rw [if_pos rfl, if_neg (by omega), if_neg (by omega)]
      exact h j q (by omega) h2 (by omega)
    · rw [if_neg p2, if_neg (by omega)]
      by_cases q2 : j + 1 = q
      · subst q2
        rw [if_pos rfl]
        exact h p j (by omega) (by omega) (by omega)
      · rw [if_neg q2]
        exact h p q h1 h2 (by omega)
theorem swap_perm (x : List Int) (j : Nat) (hj : j + 1 < x.length) : ((x.set (j + 1) (rd x (j : Int))).set j (rd x ((j + 1 : Nat) : Int))).Perm x := by
  rw [rd_nat x j (by omega), rd_nat x (j + 1) hj, List.set_comm _ _ (by omega)]
  exact List.set_set_perm (by omega) hj
theorem sorted_l1 (n i : Nat) (hi : i < n) (hn : n ≤ 1048576) (K : Nat) (next : ∀ (k : Nat) (x : List Int), x.length = n → UpTo x (i + 1) → K < k → ∃ y, spec_l04Sorted.l0 k x ((i : Int) + 1) = some y ∧ y.Perm x ∧ UpTo y n) :
    ∀ (j k : Nat) (x : List Int), x.length = n → AllBut x i j → j ≤ i → K + j + 1 < k → ∃ y, spec_l04Sorted.l1 k x i j = some y ∧ y.Perm x ∧ UpTo y n := by
  intro j
  induction j with
  | zero =>
    intro k x hx hA hj hk
    obtain ⟨k, rfl⟩ : ∃ m, k = m + 1 := ⟨k - 1, by omega⟩
    rw [spec_l04Sorted.l1, if_neg (by omega), wrap_id (by omega) (by omega)]
    exact next k x hx (hA.stop (.inl rfl)) (by omega)
  | succ j ih =>
    intro k x hx hA hj hk
    obtain ⟨k, rfl⟩ : ∃ m, k = m + 1 := ⟨k - 1, by omega⟩
    have e1 : wrap64 (((j + 1 : Nat) : Int) - 1) = (j : Int) := by rw [wrap_id (by omega) (by omega)]; omega
    rw [spec_l04Sorted.l1, if_pos (by omega), e1, if_pos (by omega), if_pos (by omega), if_pos (by omega), if_pos (by omega)]
    by_cases hg : rd x (j : Int) > rd x ((j + 1 : Nat) : Int)
    · rw [if_pos hg, Int.toNat_natCast, Int.toNat_natCast]
      obtain ⟨y, h1, h2, h3⟩ := ih k _ (by rw [List.length_set, List.length_set]; exact hx) (hA.swap hj (by omega) hg) (by omega) (by omega)
      exact ⟨y, h1, h2.trans (swap_perm x j (by omega)), h3⟩
    · rw [if_neg hg, wrap_id (x := (i : Int) + 1) (by omega) (by omega)]
      exact next k x hx (hA.stop (.inr (by simpa using hg))) (by omega)
theorem sorted_l0 (n : Nat) (hn : n ≤ 1048576) (d : Nat) : ∀ (k i : Nat) (x : List Int), x.length = n → UpTo x i → n - i = d → d * (n + 2) < k → ∃ y, spec_l04Sorted.l0 k x i = some y ∧ y.Perm x ∧ UpTo y n := by
  induction d with
  | zero =>
    intro k i x hx hU hd hk
    obtain ⟨k, rfl⟩ : ∃ m, k = m + 1 := ⟨k - 1, by omega⟩
    rw [spec_l04Sorted.l0, if_neg (by omega)]
    exact ⟨x, rfl, .refl _, fun p q h1 h2 => hU p q h1 (by omega)⟩
  | succ d ih =>
    intro k i x hx hU hd hk
    obtain ⟨k, rfl⟩ : ∃ m, k = m + 1 := ⟨k - 1, by omega⟩
    rw [Nat.succ_mul] at hk
    rw [spec_l04Sorted.l0, if_pos (by omega)]
    exact sorted_l1 n i (by omega) hn (d * (n + 2)) (fun k x hx hU hk => by
      rw [show ((i : Int) + 1) = ((i + 1 : Nat) : Int) by omega]
      exact ih k (i + 1) x hx hU (by omega) hk) i k x hx (AllBut.start hU) (Nat.le_refl _) (by omega)
theorem sorted_is (l y : List Int) (hp : y.Perm l) (hU : UpTo y y.length) : y = Med.srt l := by
  refine List.Perm.eq_of_pairwise (le := fun a b : Int => a ≤ b) (fun a b _ _ h1 h2 => Int.le_antisymm h1 h2) ?_ ?_ (hp.trans (List.mergeSort_perm l _).symm)
  · rw [List.pairwise_iff_getElem]
    intro i j hi hj hij
    have := hU i j hij hj
    rwa [rd_nat y i hi, rd_nat y j hj] at this
  · have := List.pairwise_mergeSort (le := fun x y : Int => decide (x ≤ y)) (fun a b c h1 h2 => by simp only [decide_eq_true_eq] at *; omega) (fun a b => by simp only [Bool.or_eq_true, decide_eq_true_eq]; omega) l
    exact this.imp (fun h => by simpa using h)
theorem sorted_tells (l : List Int) (hl : l.length ≤ 1048576) (k : Nat) (hk : l.length * (l.length + 2) < k) : spec_l04Sorted.f k l = some (Med.srt l) := by
  unfold spec_l04Sorted.f
  rw [Option.bind_some, if_pos (by simp; omega), List.nil_append]
  by_cases h0 : l.length = 0
  · obtain rfl : l = [] := List.eq_nil_of_length_eq_zero h0
    obtain ⟨k, rfl⟩ : ∃ m, k = m + 1 := ⟨k - 1, by omega⟩
    rw [spec_l04Sorted.l0, if_neg (by simp)]
    exact congrArg some (sorted_is [] [] (.refl _) (fun p q _ h => by simp at h))
  obtain ⟨y, h1, h2, h3⟩ := sorted_l0 l.length hl (l.length - 1) k 1 l rfl (fun p q h1 h2 => by omega) rfl (by
    have : (l.length - 1) * (l.length + 2) ≤ l.length * (l.length + 2) := Nat.mul_le_mul_right _ (by omega)
    omega)
  rw [show ((1 : Nat) : Int) = 1 from rfl] at h1
  rw [h1, sorted_is l y h2 (by rw [h2.length_eq]; exact h3)]

/-! snippet medianOf2 -/
theorem implMedian_tells (l : List Int) (h0 : 0 < l.length) (hl : l.length ≤ 4096) : impl_median.f l = some (Med.med l) := by
  unfold impl_median.f
  rw [if_pos ⟨h0, by omega⟩]
theorem med_at (l : List Int) (k : Int) (hk : k = (l.length : Int) / 2) : Med.med l = rd (Med.srt l) k := by
  unfold Med.med
  rw [hk, Int.tdiv_eq_ediv_of_nonneg (by omega)]

/-! snippet times -/
theorem rd104_at (l : List S104) (i : Nat) (hi : i < l.length) : rd_T104 l (i : Int) = l[i] := by
  unfold rd_T104
  simp [List.getD_eq_getElem?_getD, hi]
theorem rd72_at (l : List S72) (i : Nat) (hi : i < l.length) : rd_T72 l (i : Int) = l[i] := by
  unfold rd_T72
  simp [List.getD_eq_getElem?_getD, hi]
def toR (l : List S104) : List S72 := l.map fun x => ⟨x.f0, x.f1, x.f2⟩
theorem szR_l0 (l : List S104) (hl : l.length ≤ 1048576) (hy : ∀ y ∈ l, y.f2.size ≤ 9223372036854775807) (d : Nat) : ∀ (k : Nat) (x : Int) (i : Nat), l.length = i + d → 0 ≤ x → x ≤ 1048576 → d < k → ∃ v, laws_szReadingS.l0 k l x i = some v ∧ (v < 0 ∨ (0 ≤ v ∧ v ≤ 1048576)) := by
  induction d with
  | zero =>
    intro k x i hd h0 h1 hk
    obtain ⟨k, rfl⟩ : ∃ m, k = m + 1 := ⟨k - 1, by omega⟩
    exact ⟨x, by rw [laws_szReadingS.l0, if_neg (by omega)], Or.inr ⟨h0, h1⟩⟩
  | succ d ih =>
    intro k x i hd h0 h1 hk
    obtain ⟨k, rfl⟩ : ∃ m, k = m + 1 := ⟨k - 1, by omega⟩
    have hi : i < l.length := by omega
    have hz := hy _ (List.getElem_mem hi)
    rw [laws_szReadingS.l0, if_pos (by omega), if_pos (by omega), rd104_at l i hi]
    unfold laws_szReading.f
    rw [wrap_id (x := x - _) (by omega) (by omega)]
    by_cases hn : x - (l[i].f2.size : Int) < 0
    · rw [if_pos hn, Option.bind_some, if_pos (by decide)]
      exact ⟨-1, rfl, Or.inl (by decide)⟩
    · rw [if_neg hn, Option.bind_some, if_neg hn, wrap_id (x := (i : Int) + 1) (by omega) (by omega)]
      exact ih k (x - (l[i].f2.size : Int)) (i + 1) (by omega) (by omega) (by omega) (by omega)
theorem szR_tells (l : List S104) (hl : l.length ≤ 9223372036854775807) (hy : ∀ y ∈ l, y.f2.size ≤ 9223372036854775807) (x : Int) (h0 : 0 ≤ x) (h1 : x ≤ 1048576) (k : Nat) (hk : 1048577 ≤ k) : ∃ v, laws_szReadingS.f k l x = some v ∧ (v < 0 ∨ (0 ≤ v ∧ l.length ≤ 1048576)) := by
  unfold laws_szReadingS.f
  rw [wrap_id (x := x - _) (by omega) (by omega)]
  by_cases hn : x - (l.length : Int) < 0
  · rw [if_pos hn]
    exact ⟨-1, rfl, Or.inl (by decide)⟩
  · rw [if_neg hn]
    obtain ⟨v, e, hv⟩ := szR_l0 l (by omega) hy l.length k (x - (l.length : Int)) 0 (by omega) (by omega) (by omega) (by omega)
    exact ⟨v, e, hv.imp id fun ⟨a, b⟩ => ⟨a, by omega⟩⟩
theorem toR_l0 (l : List S104) (hl : l.length ≤ 1048576) (d : Nat) : ∀ (k : Nat) (x : List S72) (i : Nat), l.length = i + d → x.length = l.length → x.take i = (toR l).take i → d < k → laws_toReadingS.l0 k l x i = some (toR l) := by
  have hr : (toR l).length = l.length := by unfold toR; rw [List.length_map]
  induction d with
  | zero =>
    intro k x i hd hx ht hk
    obtain ⟨k, rfl⟩ : ∃ m, k = m + 1 := ⟨k - 1, by omega⟩
    rw [laws_toReadingS.l0, if_neg (by omega)]
    rw [List.take_of_length_le (by omega), List.take_of_length_le (by omega)] at ht
    rw [ht]
  | succ d ih =>
    intro k x i hd hx ht hk
    obtain ⟨k, rfl⟩ : ∃ m, k = m + 1 := ⟨k - 1, by omega⟩
    have hi : i < l.length := by omega
    rw [laws_toReadingS.l0, if_pos (by omega), if_pos (by omega), rd104_at l i hi]
    unfold laws_toReading.f
    rw [Option.bind_some]
    dsimp only
    rw [if_pos (by omega), wrap_id (x := (i : Int) + 1) (by omega) (by omega)]
    refine ih k _ (i + 1) (by omega) (by rw [List.length_set, hx]) ?_ (by omega)
    rw [Int.toNat_natCast, List.take_succ_eq_append_getElem (by rw [List.length_set]; omega), List.take_succ_eq_append_getElem (by omega), List.getElem_set_self, List.take_set_of_le (Nat.le_refl i), ht]
    unfold toR
    rw [List.getElem_map]
theorem toR_tells (l : List S104) (hl : l.length ≤ 1048576) (k : Nat) (hk : 1048577 ≤ k) : laws_toReadingS.f k l = some (toR l) := by
  unfold laws_toReadingS.f
  rw [if_pos (by omega), if_pos (by omega)]
  exact toR_l0 l hl l.length k _ 0 (by omega) (by simp) (by simp) (by omega)
def readP (x : S72) : Bool := (decide (0 ≤ x.f0) && decide (x.f0 ≤ 6)) && ((decide (0 ≤ x.f1) && decide (x.f1 ≤ 1000000000)) && ((x.f2.size : Int) == 8))
theorem specReading_tells (x : S72) : spec_l02Reading.f x.f0 x.f1 x.f2 = some (readP x) := by
  unfold spec_l02Reading.f readP
  rw [specIn_tells, specIn_tells, Option.bind_some]
  cases (decide (0 ≤ x.f0) && decide (x.f0 ≤ 6))
  · rfl
  cases (decide (0 ≤ x.f1) && decide (x.f1 ≤ 1000000000))
  · rfl
  rfl
theorem implReading_tells (x : S72) : impl_isReading.f x.f0 x.f1 x.f2 = some (readP x) := by
  unfold impl_isReading.f readP
  rw [within_tells, within_tells, Option.bind_some]
  cases (decide (0 ≤ x.f0) && decide (x.f0 ≤ 6))
  · rfl
  cases (decide (0 ≤ x.f1) && decide (x.f1 ≤ 1000000000))
  · rfl
  rfl
theorem eqR_l0 (l : List S72) (hl : l.length ≤ 1048576) (d : Nat) : ∀ (k : Nat) (i : Nat), l.length = i + d → d < k → laws_eqReadingS.l0 k l l i = some true := by
  induction d with
  | zero =>
    intro k i hd hk
    obtain ⟨k, rfl⟩ : ∃ m, k = m + 1 := ⟨k - 1, by omega⟩
    rw [laws_eqReadingS.l0, if_neg (by omega)]
  | succ d ih =>
    intro k i hd hk
    obtain ⟨k, rfl⟩ : ∃ m, k = m + 1 := ⟨k - 1, by omega⟩
    rw [laws_eqReadingS.l0, if_pos (by omega), if_pos (by omega), if_pos (by omega)]
    unfold laws_eqReading.f
    rw [if_pos rfl, if_pos rfl, if_pos rfl, Option.bind_some, if_pos rfl, wrap_id (x := (i : Int) + 1) (by omega) (by omega)]
    exact ih k (i + 1) (by omega) (by omega)
theorem eqR_tells (l : List S72) (hl : l.length ≤ 1048576) (k : Nat) (hk : 1048577 ≤ k) : laws_eqReadingS.f k l l = some true := by
  unfold laws_eqReadingS.f
  rw [if_pos rfl]
  exact eqR_l0 l hl l.length k 0 (by omega) (by omega)
theorem toR_length (l : List S104) : (toR l).length = l.length := by unfold toR; rw [List.length_map]
theorem time_l0 (n : Int) (f : Nat) (l : List S72) (hl : l.length = 2 * f + 1) (hf : f ≤ 2) (d : Nat) : ∀ (k k' : Nat) (i : Nat) (vs : List Int), l.length = i + d → vs.length = i → d + 200 < k → d + 200 < k' →
    ∃ t b, spec_l04Time.l0 k n l f vs i = some (t, b) ∧ impl_readingsTime.l0 k' n l vs l (l.length : Int) i = some (t, b) := by
  induction d with
  | zero =>
    intro k k' i vs hd hv hk hk'
    obtain ⟨k, rfl⟩ : ∃ m, k = m + 1 := ⟨k - 1, by omega⟩
    obtain ⟨k', rfl⟩ : ∃ m, k' = m + 1 := ⟨k' - 1, by omega⟩
    have hb : vs.length * (vs.length + 2) ≤ 5 * 7 := Nat.mul_le_mul (by omega) (by omega)
    refine ⟨Med.med vs, true, ?_, ?_⟩
    · rw [spec_l04Time.l0, if_neg (by omega), sorted_tells vs (by omega) k (by omega), Option.bind_some, if_pos (by omega), if_pos (by rw [Med.srt_length]; omega), med_at vs (f : Int) (by omega)]
    · rw [impl_readingsTime.l0, if_neg (by omega), implMedian_tells vs (by omega) (by omega), Option.bind_some]
  | succ d ih =>
    intro k k' i vs hd hv hk hk'
    obtain ⟨k, rfl⟩ : ∃ m, k = m + 1 := ⟨k - 1, by omega⟩
    obtain ⟨k', rfl⟩ : ∃ m, k' = m + 1 := ⟨k' - 1, by omega⟩
    have hi : i < l.length := by omega
    have P1 : (i : Int) < (l.length : Int) := by omega
    have P0 : (0 : Int) ≤ (i : Int) := by omega
    obtain ⟨t, b, e1, e2⟩ := ih k k' (i + 1) (vs ++ [l[i].f1]) (by omega) (by rw [List.length_append, List.length_singleton]; omega) (by omega) (by omega)
    obtain ⟨M, m1, m2⟩ : ∃ M, spec_l04Reading.f k l[i].f0 l[i].f1 = some M ∧ impl_readingMac.f k' l[i].f0 l[i].f1 = some M := ⟨_, spec_l04Reading_tells _ _ k (by omega), impl_readingMac_tells _ _ k' (by omega)⟩
    rw [spec_l04Time.l0, impl_readingsTime.l0, if_pos P1, if_pos P1, if_pos P0, if_pos P0, if_pos P1, rd72_at l i hi, specReading_tells, implReading_tells, Option.bind_some, Option.bind_some, wrap_id (x := (i : Int) + 1) (by omega) (by omega), show (i : Int) + 1 = ((i + 1 : Nat) : Int) by omega, m1, m2, Option.bind_some, Option.bind_some]
    cases hp : readP l[i]
    · exact ⟨0, false, rfl, rfl⟩
    rw [if_pos rfl, if_pos rfl]
    by_cases hn : l[i].f0 ≥ n
    · rw [if_pos hn, if_pos hn]
      exact ⟨0, false, rfl, rfl⟩
    rw [if_neg hn, if_neg hn]
    have hL : vs.length < 17592186044416 := by omega
    have tail : ∃ t b, (if M.toList = l[i].f2.toList then (if vs.length < 17592186044416 then spec_l04Time.l0 k n l f (vs ++ [l[i].f1]) ((i + 1 : Nat) : Int) else none) else some (0, false)) = some (t, b) ∧
        (if l[i].f2.toList = M.toList then (if vs.length < 17592186044416 then impl_readingsTime.l0 k' n l (vs ++ [l[i].f1]) l (l.length : Int) ((i + 1 : Nat) : Int) else none) else some (0, false)) = some (t, b) := by
      by_cases hm : M.toList = l[i].f2.toList
      · rw [if_pos hm, if_pos hm.symm, if_pos hL, if_pos hL]
        exact ⟨t, b, e1, e2⟩
      · rw [if_neg hm, if_neg (fun e => hm e.symm)]
        exact ⟨0, false, rfl, rfl⟩
    by_cases h0 : (i : Int) > 0
    · have P2 : (0 : Int) ≤ (i : Int) - 1 := by omega
      have P3 : (i : Int) - 1 < (l.length : Int) := by omega
      rw [if_pos h0, if_pos h0, wrap_id (x := (i : Int) - 1) (by omega) (by omega), if_pos P2, if_pos P2, if_pos P3, if_pos P3]
      by_cases hc : (rd_T72 l ((i : Int) - 1)).f0 ≥ l[i].f0
      · rw [if_pos hc, if_pos hc]
        exact ⟨0, false, rfl, rfl⟩
      · rw [if_neg hc, if_neg hc]
        exact tail
    · rw [if_neg h0, if_neg h0]
      exact tail
theorem nodes_both (a : Int) : (spec_l04Nodes.f a = some false ∧ impl_areNodes.f a = some false) ∨ (spec_l04Nodes.f a = some true ∧ impl_areNodes.f a = some true ∧ ∃ f : Nat, f ≤ 2 ∧ a = 3 * (f : Int) + 1) := by
  unfold spec_l04Nodes.f impl_areNodes.f impl_FaultsOf.f
  by_cases h1 : a = 1
  · rw [if_pos h1, if_pos h1]
    exact .inr ⟨rfl, rfl, 0, by omega, by omega⟩
  by_cases h4 : a = 4
  · rw [if_neg h1, if_neg h1, if_pos h4, if_pos h4]
    exact .inr ⟨rfl, rfl, 1, by omega, by omega⟩
  by_cases h7 : a = 7
  · rw [if_neg h1, if_neg h1, if_neg h4, if_neg h4, if_pos h7]
    exact .inr ⟨by rw [h7]; rfl, rfl, 2, by omega, by omega⟩
  · rw [if_neg h1, if_neg h1, if_neg h4, if_neg h4, if_neg h7]
    exact .inl ⟨by rw [beq_eq_false_iff_ne.mpr h7], rfl⟩
theorem time_both (f : Nat) (hf : f ≤ 2) (l : List S72) (k k' : Nat) (hk : 300 ≤ k) (hk' : 300 ≤ k') : ∃ t b, spec_l04Time.f k (3 * (f : Int) + 1) l = some (t, b) ∧ impl_readingsTime.f k' (3 * (f : Int) + 1) l = some (t, b) := by
  have w1 : wrap64 (3 * (f : Int) + 1 - 1) = 3 * (f : Int) := by rw [wrap_id (by omega) (by omega)]; omega
  have w2 : Int.tdiv (3 * (f : Int)) 3 = (f : Int) := by rw [Int.tdiv_eq_ediv_of_nonneg (by omega)]; omega
  have w3 : wrap64 (f : Int) = (f : Int) := wrap_id (by omega) (by omega)
  have w4 : wrap64 (2 * (f : Int)) = 2 * (f : Int) := wrap_id (by omega) (by omega)
  have w5 : wrap64 ((f : Int) * 2) = 2 * (f : Int) := by rw [wrap_id (by omega) (by omega)]; omega
  have w6 : wrap64 (2 * (f : Int) + 1) = 2 * (f : Int) + 1 := wrap_id (by omega) (by omega)
  unfold spec_l04Time.f impl_readingsTime.f impl_quorum.f
  rw [w1, w2, w3, w4, w5, w6, Option.bind_some]
  by_cases hl : (l.length : Int) = 2 * (f : Int) + 1
  · rw [if_pos hl, if_pos hl]
    have := time_l0 (3 * (f : Int) + 1) f l (by omega) hf l.length k k' 0 [] (by omega) rfl (by omega) (by omega)
    exact this
  · rw [if_neg hl, if_neg hl]
    exact ⟨0, false, rfl, rfl⟩
theorem readingsTime_both (a : Int) (l : List S72) (k k' : Nat) (hk : 300 ≤ k) (hk' : 300 ≤ k') : ∃ t c, spec_ReadingsTime.f k a l = some (t, c) ∧ impl_ReadingsTime.f k' a l = some (t, c) ∧ (c = 0 → l.length ≤ 4096) := by
  unfold spec_ReadingsTime.f impl_ReadingsTime.f impl_Reading.f
  rw [Option.bind_some]
  by_cases hL : (l.length : Int) > 4096
  · rw [if_pos hL, if_pos (by simpa using hL)]
    exact ⟨0, 2, rfl, rfl, fun h => by cases h⟩
  rw [if_neg hL, if_neg (by simpa using hL)]
  rcases nodes_both a with ⟨h1, h2⟩ | ⟨h1, h2, f, hf, rfl⟩
  · rw [h1, h2]
    exact ⟨0, 4, rfl, rfl, fun _ => by omega⟩
  · rw [h1, h2, Option.bind_some, Option.bind_some, if_pos rfl, if_pos rfl]
    obtain ⟨t, b, e1, e2⟩ := time_both f hf l k k' hk hk'
    rw [e1, e2]
    cases b
    · exact ⟨0, 12, rfl, rfl, fun _ => by omega⟩
    · exact ⟨t, 0, rfl, rfl, fun _ => by omega⟩

/-! snippet FnExactAgreedTime -/
theorem mx_comm (a b : Int) : mx a b = mx b a := by
  unfold mx
  by_cases h : a < b
  · rw [if_pos h, if_neg (by omega)]
  · rw [if_neg h]
    by_cases h2 : b < a
    · rw [if_pos h2]
    · rw [if_neg h2]; omega
theorem agreedTime_both (b a : Int) (l : List S72) (k k' : Nat) (hk : 300 ≤ k) (hk' : 300 ≤ k') : ∃ t c, spec_AgreedTime.f k b a l = some (t, c) ∧ impl_AgreedTime.f k' b a l = some (t, c) := by
  obtain ⟨t, c, e1, e2, h3⟩ := readingsTime_both a l k k' hk hk'
  unfold spec_AgreedTime.f impl_AgreedTime.f
  by_cases hL : (l.length : Int) > 4096
  · have e3 : impl_ReadingsTime.f k' a l = some (0, 2) := by
      unfold impl_ReadingsTime.f impl_Reading.f
      rw [Option.bind_some, if_pos (by simpa using hL)]
    rw [if_pos hL, e3, Option.bind_some, if_neg (by decide)]
    exact ⟨0, 2, rfl, rfl⟩
  rw [if_neg hL, e1, e2, Option.bind_some, Option.bind_some]
  dsimp only
  by_cases hc : c = 0
  · rw [if_pos hc, if_pos hc, mx_comm]
    exact ⟨_, 0, rfl, rfl⟩
  · rw [if_neg hc, if_neg hc]
    exact ⟨0, c, rfl, rfl⟩
theorem FnExactAgreedTime (x0 : Int) (x1 : Int) (x2 : List (S104)) (gx0 : (Lit.int .i64 x0).wf = true) (gx1 : (Lit.int .i64 x1).wf = true) (gx2 : (x2.length ≤ 9223372036854775807 ∧ ∀ y ∈ x2, (Lit.int .i64 y.f0).wf = true ∧ (Lit.int .i64 y.f1).wf = true ∧ y.f2.size ≤ 9223372036854775807)) : ∃ k, laws_FnExactAgreedTime.f k x0 x1 x2 = some true := by
  obtain ⟨K, hK⟩ : ∃ K : Nat, 1048600 ≤ K := ⟨_, Nat.le_refl _⟩
  refine ⟨K + 1, ?_⟩
  obtain ⟨v, e, hv⟩ := szR_tells x2 gx2.1 (fun y h => (gx2.2 y h).2.2) 1048576 (by omega) (by omega) (K + 1) (by omega)
  unfold laws_FnExactAgreedTime.f
  rw [e, Option.bind_some]
  by_cases hn : v < 0
  · rw [if_pos hn]
  rw [if_neg hn]
  have hl : x2.length ≤ 1048576 := by rcases hv with h | ⟨_, h⟩ <;> omega
  obtain ⟨t, c, e1, e2⟩ := agreedTime_both x0 x1 (toR x2) (K + 1) (K + 1) (by omega) (by omega)
  rw [toR_tells x2 hl _ (by omega), Option.bind_some, e1, Option.bind_some, Option.bind_some, e2, Option.bind_some, if_pos rfl]
  simp only [bne_self_eq_false]
  rw [laws_FnExactAgreedTime.j0, if_neg (by decide), toR_tells x2 hl K (by omega), Option.bind_some, eqR_tells (toR x2) (by rw [toR_length]; exact hl) K (by omega), Option.bind_some, if_pos rfl]

end Go.Proofs.YtmkaknegjahjaaaDoor.Pure
