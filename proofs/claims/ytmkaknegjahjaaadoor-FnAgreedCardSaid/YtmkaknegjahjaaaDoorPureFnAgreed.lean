/- The statement FnAgreed: what the given program's printed functions answer, as the law asks; no condition. -/
import Derived.Test.YtmkaknegjahjaaaDoorPFnAgreedx6
import Derived.Test.YtmkaknegjahjaaaDoorShaE
import Derived.Test.YtmkaknegjahjaaaDoorMedian
set_option linter.unusedVariables false
set_option linter.unusedSimpArgs false
namespace Go.Proofs.YtmkaknegjahjaaaDoor.Pure
open Go.RowKit Go.Proofs.YtmkaknegjahjaaaDoor.PFnAgreed Go.Proofs.YtmkaknegjahjaaaDoorV.PrintWords Go.Proofs.YtmkaknegjahjaaaDoorV.PrintLast Go.Proofs.YtmkaknegjahjaaaDoorV.PrintMore
/-! snippet base -/
theorem wrap_id {x : Int} (h1 : -9223372036854775808 ≤ x) (h2 : x ≤ 9223372036854775807) : wrap64 x = x := by
  unfold wrap64
  omega
theorem nat_pos_succ {k d : Nat} (h : d < k) : ∃ m, k = m + 1 := ⟨k - 1, by omega⟩
theorem u8_of_wf {l : List Int} (h : ∀ x ∈ l, (Lit.int .u8 x).wf = true) (i : Int) : 0 ≤ rd l i ∧ rd l i ≤ 255 := by
  unfold rd
  rw [List.getD_eq_getElem?_getD]
  by_cases hi : i.toNat < l.length
  · rw [List.getElem?_eq_getElem hi, Option.getD_some]
    have := h _ (List.getElem_mem hi)
    simp only [Lit.wf, Bool.and_eq_true, decide_eq_true_eq] at this
    have e1 : IntKind.u8.min = 0 := rfl
    have e2 : IntKind.u8.max = 255 := rfl
    omega
  · rw [List.getElem?_eq_none (by omega)]
    simp
theorem i64_of_wf {x : Int} (h : (Lit.int .i64 x).wf = true) : -9223372036854775808 ≤ x ∧ x ≤ 9223372036854775807 := by
  simp only [Lit.wf, Bool.and_eq_true, decide_eq_true_eq] at h
  have e1 : IntKind.i64.min = -9223372036854775808 := rfl
  have e2 : IntKind.i64.max = 9223372036854775807 := rfl
  omega
theorem toList_len (s : ByteArray) : s.toList.length = s.size := by
  rw [ByteArray.toList_eq]
  exact data_length s
theorem toList_inj {a b : ByteArray} (h : a.toList = b.toList) : a = b := by
  rw [ByteArray.toList_eq, ByteArray.toList_eq] at h
  exact Go.WideShapes.bytes_inj h

/-! snippet number -/
theorem number_l0 (d : Nat) : ∀ (k : Nat) (x : Int) (l : List Int), d ≤ l.length → l.length ≤ 65536 → d < k → impl_number.l0 k x l ((d : Int) - 1) = some (strOfNums (Sha.num x d l)) := by
  induction d with
  | zero =>
    intro k x l _ _ hk
    obtain ⟨k, rfl⟩ := nat_pos_succ hk
    rw [impl_number.l0, if_neg (by omega)]
    rfl
  | succ d ih =>
    intro k x l hd hl hk
    obtain ⟨k, rfl⟩ := nat_pos_succ hk
    rw [impl_number.l0, if_pos (by omega), if_pos (by omega), if_pos (by omega)]
    have h1 : wrap64 (((d + 1 : Nat) : Int) - 1 - 1) = (d : Int) - 1 := by rw [wrap_id (by omega) (by omega)]; omega
    have h2 : (((d + 1 : Nat) : Int) - 1).toNat = d := by omega
    rw [h1, h2, ih _ _ _ (by rw [List.length_set]; omega) (by rw [List.length_set]; exact hl) (by omega)]
    rfl
theorem number_tells (n : Nat) (x : Int) (h0 : n ≤ 65536) (k : Nat) (hk : n < k) : impl_number.f k x n = some (strOfNums (Sha.num x n (List.replicate n 0))) := by
  rw [impl_number.f, if_pos (by omega), if_pos (by omega), wrap_id (by omega) (by omega), Int.toNat_natCast]
  exact number_l0 n k x _ (by simp) (by simp; omega) hk
theorem number1 (x : Int) (k : Nat) (hk : 1 < k) : impl_number.f k x 1 = some (strOfNums [x % 256]) := number_tells 1 x (by omega) k hk
theorem number2 (x : Int) (k : Nat) (hk : 2 < k) : impl_number.f k x 2 = some (strOfNums [x / 256 % 256, x % 256]) := number_tells 2 x (by omega) k hk
theorem number4 (x : Int) (k : Nat) (hk : 4 < k) : impl_number.f k x 4 = some (strOfNums [x / 16777216 % 256, x / 65536 % 256, x / 256 % 256, x % 256]) := by
  rw [← Sha.num4]
  exact number_tells 4 x (by omega) k hk
theorem ba_assoc (a b c : ByteArray) : a ++ b ++ c = a ++ (b ++ c) := by
  apply Sha.ba_ext
  simp
theorem nums_size1 (x : Int) : (strOfNums [x]).size = 1 := rfl

/-! snippet u64 -/
theorem u64_small (x : Int) (h0 : 0 ≤ x) (h1 : x ≤ 100) : IntKind.u64.wrap x = x := by
  simp only [IntKind.wrap, IntKind.bits, IntKind.signed]
  simp
  omega

/-! snippet l02 -/
def numS (n : Int) : Nat → List Int
  | 0 => []
  | d + 1 => (shr .i64 n (8 * (d : Int))) % 256 :: numS n d
theorem l02_l0 (n : Int) (d : Nat) : ∀ (k : Nat) (xs : List Int), d ≤ 8 → xs.length ≤ 1000 - d → d < k → spec_l02Number.l0 k n xs ((d : Int) - 1) = some (xs ++ numS n d) := by
  induction d with
  | zero =>
    intro k xs _ _ hk
    obtain ⟨k, rfl⟩ := nat_pos_succ hk
    rw [spec_l02Number.l0, if_neg (by omega), numS, List.append_nil]
  | succ d ih =>
    intro k xs hd hx hk
    obtain ⟨k, rfl⟩ := nat_pos_succ hk
    rw [spec_l02Number.l0, if_pos (by omega), show ((d + 1 : Nat) : Int) - 1 = d by omega, wrap_id (x := 8 * (d : Int)) (by omega) (by omega), u64_small (8 * (d : Int)) (by omega) (by omega), if_pos (by omega), if_pos (by omega), wrap_id (by omega) (by omega), ih k _ (by omega) (by rw [List.length_append]; simp only [List.length_cons, List.length_nil]; omega) (by omega), numS, List.append_assoc]
    rfl
def num4L (n : Int) : List Int := [n / 16777216 % 256, n / 65536 % 256, n / 256 % 256, n % 256]
theorem shr8 (n : Int) : shr .i64 n 8 = n / 256 := rfl
theorem shr16 (n : Int) : shr .i64 n 16 = n / 65536 := rfl
theorem shr24 (n : Int) : shr .i64 n 24 = n / 16777216 := rfl
theorem shr0 (n : Int) : shr .i64 n 0 = n := by unfold shr; simp
theorem numS4 (n : Int) : numS n 4 = num4L n := by
  simp only [numS, num4L]
  rw [show (8 : Int) * ((3 : Nat) : Int) = 24 from rfl, show (8 : Int) * ((2 : Nat) : Int) = 16 from rfl, show (8 : Int) * ((1 : Nat) : Int) = 8 from rfl, show (8 : Int) * ((0 : Nat) : Int) = 0 from rfl, shr24, shr16, shr8, shr0]
theorem l02_4 (n : Int) (k : Nat) (hk : 4 < k) : spec_l02Number.f k n 4 = some (num4L n) := by
  unfold spec_l02Number.f
  rw [wrap_id (by omega) (by omega), ← numS4]
  exact l02_l0 n 4 k [] (by omega) (by simp) hk
theorem num4L_le (n : Int) : ∀ x ∈ num4L n, 0 ≤ x ∧ x < 256 := by
  intro x hx
  simp only [num4L, List.mem_cons, List.not_mem_nil, or_false] at hx
  rcases hx with rfl | rfl | rfl | rfl <;> omega

/-! snippet mac -/
def macOf (id : Int) (t : ByteArray) : ByteArray := (Sha.sha (Sha.sha ((⟨#[110, 111, 100, 101, 32, 107, 101, 121]⟩ : ByteArray) ++ strOfNums [id % 256]) ++ t)).extract 0 8
theorem nk_size (id : Int) : ((⟨#[110, 111, 100, 101, 32, 107, 101, 121]⟩ : ByteArray) ++ strOfNums [id % 256]).size = 9 := by
  rw [ByteArray.size_append, nums_size1]
  rfl
theorem spec_l04Mac_tells (id : Int) (xs : List Int) (hl : xs.length ≤ 1048576) (hx : ∀ x ∈ xs, 0 ≤ x ∧ x < 256) : spec_l04Mac.f id xs = some (macOf id (strOfNums xs)) := by
  unfold spec_l04Mac.f spec_l04Secret.f spec_l01Hash.f
  have h1 := nums_size1 (id % 256)
  have h2 := nk_size id
  have h3 := Sha.sha_size ((⟨#[110, 111, 100, 101, 32, 107, 101, 121]⟩ : ByteArray) ++ strOfNums [id % 256])
  simp only [Option.bind_some]
  rw [if_pos (by rw [h1]; omega), if_pos (by rw [h2]; omega), if_pos (by rw [bytesOf_length, h2]; omega)]
  simp only [Option.bind_some]
  rw [Sha.sha_eq, if_pos (by rw [h3]; omega), if_pos (by rw [bytesOf_length, h3]; omega), if_pos (by rw [List.length_append, bytesOf_length, h3]; omega)]
  simp only [Option.bind_some]
  conv => lhs; rw [← Sha.bytesOf_nums xs hx]
  rw [← Sha.bytes_app, Sha.sha_eq, if_pos (by decide), if_pos (by rw [Sha.sha_size]; decide)]
  rfl
theorem impl_mark_tells (id : Int) (t : ByteArray) (ht : t.size ≤ 1048576) (k : Nat) (hk : 1 < k) : impl_mark.f k id t = some (macOf id t) := by
  unfold impl_mark.f impl_hash.f
  have h1 := nums_size1 (id % 256)
  have h2 := nk_size id
  have h3 := Sha.sha_size ((⟨#[110, 111, 100, 101, 32, 107, 101, 121]⟩ : ByteArray) ++ strOfNums [id % 256])
  rw [number1 id k hk, Option.bind_some, if_pos (by rw [h1]; omega), if_pos (by rw [h2]; omega), Option.bind_some, if_pos (by rw [h3]; omega), if_pos (by rw [ByteArray.size_append, h3]; omega), Option.bind_some, if_pos (by decide), if_pos (by rw [Sha.sha_size]; decide)]
  rfl
theorem macOf_size (id : Int) (t : ByteArray) : (macOf id t).size = 8 := by
  unfold macOf
  rw [ByteArray.size_extract, Sha.sha_size]
  rfl

/-! snippet reading -/
def readingOf (from_ value : Int) : ByteArray := macOf from_ ((⟨#[99, 108, 111, 99, 107]⟩ : ByteArray) ++ strOfNums (num4L value))
theorem num4L_size (n : Int) : (strOfNums (num4L n)).size = 4 := rfl
theorem clock_nums (l : List Int) : strOfNums ([99, 108, 111, 99, 107] ++ l) = (⟨#[99, 108, 111, 99, 107]⟩ : ByteArray) ++ strOfNums l := by
  rw [Sha.nums_app]
  rfl
theorem spec_l04Reading_tells (from_ value : Int) (k : Nat) (hk : 4 < k) : spec_l04Reading.f k from_ value = some (readingOf from_ value) := by
  unfold spec_l04Reading.f
  rw [Option.bind_some, l02_4 value k hk, Option.bind_some, if_pos (by simp [num4L]), spec_l04Mac_tells from_ _ (by simp [num4L]) (by
    intro x hx
    rcases List.mem_append.1 hx with hx | hx
    · simp only [List.mem_cons, List.not_mem_nil, or_false] at hx
      rcases hx with rfl | rfl | rfl | rfl | rfl <;> decide
    · exact num4L_le value x hx), clock_nums]
  rfl
theorem impl_readingMac_tells (from_ value : Int) (k : Nat) (hk : 4 < k) : impl_readingMac.f k from_ value = some (readingOf from_ value) := by
  unfold impl_readingMac.f
  have h5 : ((⟨#[99, 108, 111, 99, 107]⟩ : ByteArray) ++ strOfNums (num4L value)).size = 9 := by rw [ByteArray.size_append, num4L_size]; rfl
  rw [number4 value k hk]
  show (Option.bind (some (strOfNums (num4L value))) _) = _
  rw [Option.bind_some, if_pos (by rw [num4L_size]; omega), impl_mark_tells from_ _ (by rw [h5]; omega) k (by omega)]
  rfl

/-! snippet specIn -/
theorem specIn_tells (n low high : Int) : spec_l01In.f n low high = some (decide (low ≤ n) && decide (n ≤ high)) := by
  unfold spec_l01In.f
  by_cases h : n ≥ low
  · rw [if_pos h, decide_eq_true h]; rfl
  · rw [if_neg h, decide_eq_false h]; rfl

/-! snippet within -/
theorem within_tells (n low high : Int) : impl_within.f n low high = some (decide (low ≤ n) && decide (n ≤ high)) := by
  unfold impl_within.f
  by_cases h : n ≥ low
  · rw [if_pos h, decide_eq_true h]; rfl
  · rw [if_neg h, decide_eq_false h]; rfl

/-! snippet sorted -/
theorem rd_set (x : List Int) (a b : Nat) (v : Int) (ha : a < x.length) : rd (x.set a v) (b : Int) = if a = b then v else rd x (b : Int) := by
  unfold rd
  simp only [Int.toNat_natCast, List.getD_eq_getElem?_getD, List.getElem?_set]
  by_cases h : a = b
  · subst h; simp [ha]
  · simp [h]
theorem rd_nat (x : List Int) (i : Nat) (hi : i < x.length) : rd x (i : Int) = x[i] := by
  unfold rd
  simp [List.getD_eq_getElem?_getD, hi]
/-- The first i + 1 stand in order, but for the one at j, which is only known to be no greater than those behind it. -/
def AllBut (x : List Int) (i j : Nat) : Prop := ∀ p q : Nat, p < q → q ≤ i → q ≠ j → rd x (p : Int) ≤ rd x (q : Int)
def UpTo (x : List Int) (i : Nat) : Prop := ∀ p q : Nat, p < q → q < i → rd x (p : Int) ≤ rd x (q : Int)
theorem AllBut.start {x : List Int} {i : Nat} (h : UpTo x i) : AllBut x i i := fun p q h1 h2 h3 => h p q h1 (by omega)
theorem AllBut.stop {x : List Int} {i j : Nat} (h : AllBut x i j) (hj : j = 0 ∨ rd x ((j - 1 : Nat) : Int) ≤ rd x (j : Int)) : UpTo x (i + 1) := fun p q h1 h2 => by
  by_cases hq : q = j
  · subst hq
    rcases hj with h0 | h0
    · omega
    · by_cases hp : p = q - 1
      · subst hp; exact h0
      · exact Int.le_trans (h p (q - 1) (by omega) (by omega) (by omega)) h0
  · exact h p q h1 (by omega) hq
theorem AllBut.swap {x : List Int} {i j : Nat} (h : AllBut x i (j + 1)) (hi : j + 1 ≤ i) (hl : i < x.length) (hgt : rd x ((j + 1 : Nat) : Int) < rd x (j : Int)) :
    AllBut ((x.set (j + 1) (rd x (j : Int))).set j (rd x ((j + 1 : Nat) : Int))) i j := fun p q h1 h2 h3 => by
  have e : ∀ b : Nat, rd ((x.set (j + 1) (rd x (j : Int))).set j (rd x ((j + 1 : Nat) : Int))) (b : Int) = if j = b then rd x ((j + 1 : Nat) : Int) else if j + 1 = b then rd x (j : Int) else rd x (b : Int) := fun b => by
    rw [rd_set _ _ _ _ (by rw [List.length_set]; omega), rd_set _ _ _ _ (by omega)]
  rw [e p, e q]
  by_cases p1 : j = p
  · subst p1
    rw [if_pos rfl, if_neg (by omega)]
    by_cases q1 : j + 1 = q
    · subst q1
      rw [if_pos rfl]
      omega
    · rw [if_neg q1]
      exact h (j + 1) q (by omega) h2 (by omega)
  · rw [if_neg p1]
    by_cases p2 : j + 1 = p
    · subst p2
      rw [if_pos rfl, if_neg (by omega), if_neg (by omega)]
      exact h j q (by omega) h2 (by omega)
    · rw [if_neg p2, if_neg (by omega)]
      by_cases q2 : j + 1 = q
      · subst q2
        rw [if_pos rfl]
        exact h p j (by omega) (by omega) (by omega)
      · rw [if_neg q2]
        exact h p q h1 h2 (by omega)
theorem swap_perm (x : List Int) (j : Nat) (hj : j + 1 < x.length) : ((x.set (j + 1) (rd x (j : Int))).set j (rd x ((j + 1 : Nat) : Int))).Perm x := by
  rw [rd_nat x j (by omega), rd_nat x (j + 1) hj, List.set_comm _ _ (by omega)]
  exact List.set_set_perm (by omega) hj
theorem sorted_l1 (n i : Nat) (hi : i < n) (hn : n ≤ 1048576) (K : Nat) (next : ∀ (k : Nat) (x : List Int), x.length = n → UpTo x (i + 1) → K < k → ∃ y, spec_l04Sorted.l0 k x ((i : Int) + 1) = some y ∧ y.Perm x ∧ UpTo y n) :
    ∀ (j k : Nat) (x : List Int), x.length = n → AllBut x i j → j ≤ i → K + j + 1 < k → ∃ y, spec_l04Sorted.l1 k x i j = some y ∧ y.Perm x ∧ UpTo y n := by
  intro j
  induction j with
  | zero =>
    intro k x hx hA hj hk
    obtain ⟨k, rfl⟩ : ∃ m, k = m + 1 := ⟨k - 1, by omega⟩
    rw [spec_l04Sorted.l1, if_neg (by omega), wrap_id (by omega) (by omega)]
    exact next k x hx (hA.stop (.inl rfl)) (by omega)
  | succ j ih =>
    intro k x hx hA hj hk
    obtain ⟨k, rfl⟩ : ∃ m, k = m + 1 := ⟨k - 1, by omega⟩
    have e1 : wrap64 (((j + 1 : Nat) : Int) - 1) = (j : Int) := by rw [wrap_id (by omega) (by omega)]; omega
    rw [spec_l04Sorted.l1, if_pos (by omega), e1, if_pos (by omega), if_pos (by omega), if_pos (by omega), if_pos (by omega)]
    by_cases hg : rd x (j : Int) > rd x ((j + 1 : Nat) : Int)
    · rw [if_pos hg, Int.toNat_natCast, Int.toNat_natCast]
      obtain ⟨y, h1, h2, h3⟩ := ih k _ (by rw [List.length_set, List.length_set]; exact hx) (hA.swap hj (by omega) hg) (by omega) (by omega)
      exact ⟨y, h1, h2.trans (swap_perm x j (by omega)), h3⟩
    · rw [if_neg hg, wrap_id (x := (i : Int) + 1) (by omega) (by omega)]
      exact next k x hx (hA.stop (.inr (by simpa using hg))) (by omega)
theorem sorted_l0 (n : Nat) (hn : n ≤ 1048576) (d : Nat) : ∀ (k i : Nat) (x : List Int), x.length = n → UpTo x i → n - i = d → d * (n + 2) < k → ∃ y, spec_l04Sorted.l0 k x i = some y ∧ y.Perm x ∧ UpTo y n := by
  induction d with
  | zero =>
    intro k i x hx hU hd hk
    obtain ⟨k, rfl⟩ : ∃ m, k = m + 1 := ⟨k - 1, by omega⟩
    rw [spec_l04Sorted.l0, if_neg (by omega)]
    exact ⟨x, rfl, .refl _, fun p q h1 h2 => hU p q h1 (by omega)⟩
  | succ d ih =>
    intro k i x hx hU hd hk
    obtain ⟨k, rfl⟩ : ∃ m, k = m + 1 := ⟨k - 1, by omega⟩
    rw [Nat.succ_mul] at hk
    rw [spec_l04Sorted.l0, if_pos (by omega)]
    exact sorted_l1 n i (by omega) hn (d * (n + 2)) (fun k x hx hU hk => by
      rw [show ((i : Int) + 1) = ((i + 1 : Nat) : Int) by omega]
      exact ih k (i + 1) x hx hU (by omega) hk) i k x hx (AllBut.start hU) (Nat.le_refl _) (by omega)
theorem sorted_is (l y : List Int) (hp : y.Perm l) (hU : UpTo y y.length) : y = Med.srt l := by
  refine List.Perm.eq_of_pairwise (le := fun a b : Int => a ≤ b) (fun a b _ _ h1 h2 => Int.le_antisymm h1 h2) ?_ ?_ (hp.trans (List.mergeSort_perm l _).symm)
  · rw [List.pairwise_iff_getElem]
    intro i j hi hj hij
    have := hU i j hij hj
    rwa [rd_nat y i hi, rd_nat y j hj] at this
  · have := List.pairwise_mergeSort (le := fun x y : Int => decide (x ≤ y)) (fun a b c h1 h2 => by simp only [decide_eq_true_eq] at *; omega) (fun a b => by simp only [Bool.or_eq_true, decide_eq_true_eq]; omega) l
    exact this.imp (fun h => by simpa using h)
theorem sorted_tells (l : List Int) (hl : l.length ≤ 1048576) (k : Nat) (hk : l.length * (l.length + 2) < k) : spec_l04Sorted.f k l = some (Med.srt l) := by
  unfold spec_l04Sorted.f
  rw [Option.bind_some, if_pos (by simp; omega), List.nil_append]
  by_cases h0 : l.length = 0
  · obtain rfl : l = [] := List.eq_nil_of_length_eq_zero h0
    obtain ⟨k, rfl⟩ : ∃ m, k = m + 1 := ⟨k - 1, by omega⟩
    rw [spec_l04Sorted.l0, if_neg (by simp)]
    exact congrArg some (sorted_is [] [] (.refl _) (fun p q _ h => by simp at h))
  obtain ⟨y, h1, h2, h3⟩ := sorted_l0 l.length hl (l.length - 1) k 1 l rfl (fun p q h1 h2 => by omega) rfl (by
    have : (l.length - 1) * (l.length + 2) ≤ l.length * (l.length + 2) := Nat.mul_le_mul_right _ (by omega)
    omega)
  rw [show ((1 : Nat) : Int) = 1 from rfl] at h1
  rw [h1, sorted_is l y h2 (by rw [h2.length_eq]; exact h3)]

/-! snippet medianOf2 -/
theorem implMedian_tells (l : List Int) (h0 : 0 < l.length) (hl : l.length ≤ 4096) : impl_median.f l = some (Med.med l) := by
  unfold impl_median.f
  rw [if_pos ⟨h0, by omega⟩]
theorem med_at (l : List Int) (k : Int) (hk : k = (l.length : Int) / 2) : Med.med l = rd (Med.srt l) k := by
  unfold Med.med
  rw [hk, Int.tdiv_eq_ediv_of_nonneg (by omega)]

/-! snippet timeR -/
theorem rd72_at (l : List S72) (i : Nat) (hi : i < l.length) : rd_T72 l (i : Int) = l[i] := by
  unfold rd_T72
  simp [List.getD_eq_getElem?_getD, hi]
def readP (x : S72) : Bool := (decide (0 ≤ x.f0) && decide (x.f0 ≤ 6)) && ((decide (0 ≤ x.f1) && decide (x.f1 ≤ 1000000000)) && ((x.f2.size : Int) == 8))
theorem specReading_tells (x : S72) : spec_l02Reading.f x.f0 x.f1 x.f2 = some (readP x) := by
  unfold spec_l02Reading.f readP
  rw [specIn_tells, specIn_tells, Option.bind_some]
  cases (decide (0 ≤ x.f0) && decide (x.f0 ≤ 6))
  · rfl
  cases (decide (0 ≤ x.f1) && decide (x.f1 ≤ 1000000000))
  · rfl
  rfl
theorem implReading_tells (x : S72) : impl_isReading.f x.f0 x.f1 x.f2 = some (readP x) := by
  unfold impl_isReading.f readP
  rw [within_tells, within_tells, Option.bind_some]
  cases (decide (0 ≤ x.f0) && decide (x.f0 ≤ 6))
  · rfl
  cases (decide (0 ≤ x.f1) && decide (x.f1 ≤ 1000000000))
  · rfl
  rfl
theorem time_l0 (n : Int) (f : Nat) (l : List S72) (hl : l.length = 2 * f + 1) (hf : f ≤ 2) (d : Nat) : ∀ (k k' : Nat) (i : Nat) (vs : List Int), l.length = i + d → vs.length = i → d + 200 < k → d + 200 < k' →
    ∃ t b, spec_l04Time.l0 k n l f vs i = some (t, b) ∧ impl_readingsTime.l0 k' n l vs l (l.length : Int) i = some (t, b) := by
  induction d with
  | zero =>
    intro k k' i vs hd hv hk hk'
    obtain ⟨k, rfl⟩ : ∃ m, k = m + 1 := ⟨k - 1, by omega⟩
    obtain ⟨k', rfl⟩ : ∃ m, k' = m + 1 := ⟨k' - 1, by omega⟩
    have hb : vs.length * (vs.length + 2) ≤ 5 * 7 := Nat.mul_le_mul (by omega) (by omega)
    refine ⟨Med.med vs, true, ?_, ?_⟩
    · rw [spec_l04Time.l0, if_neg (by omega), sorted_tells vs (by omega) k (by omega), Option.bind_some, if_pos (by omega), if_pos (by rw [Med.srt_length]; omega), med_at vs (f : Int) (by omega)]
    · rw [impl_readingsTime.l0, if_neg (by omega), implMedian_tells vs (by omega) (by omega), Option.bind_some]
  | succ d ih =>
    intro k k' i vs hd hv hk hk'
    obtain ⟨k, rfl⟩ : ∃ m, k = m + 1 := ⟨k - 1, by omega⟩
    obtain ⟨k', rfl⟩ : ∃ m, k' = m + 1 := ⟨k' - 1, by omega⟩
    have hi : i < l.length := by omega
    have P1 : (i : Int) < (l.length : Int) := by omega
    have P0 : (0 : Int) ≤ (i : Int) := by omega
    obtain ⟨t, b, e1, e2⟩ := ih k k' (i + 1) (vs ++ [l[i].f1]) (by omega) (by rw [List.length_append, List.length_singleton]; omega) (by omega) (by omega)
    obtain ⟨M, m1, m2⟩ : ∃ M, spec_l04Reading.f k l[i].f0 l[i].f1 = some M ∧ impl_readingMac.f k' l[i].f0 l[i].f1 = some M := ⟨_, spec_l04Reading_tells _ _ k (by omega), impl_readingMac_tells _ _ k' (by omega)⟩
    rw [spec_l04Time.l0, impl_readingsTime.l0, if_pos P1, if_pos P1, if_pos P0, if_pos P0, if_pos P1, rd72_at l i hi, specReading_tells, implReading_tells, Option.bind_some, Option.bind_some, wrap_id (x := (i : Int) + 1) (by omega) (by omega), show (i : Int) + 1 = ((i + 1 : Nat) : Int) by omega, m1, m2, Option.bind_some, Option.bind_some]
    cases hp : readP l[i]
    · exact ⟨0, false, rfl, rfl⟩
    rw [if_pos rfl, if_pos rfl]
    by_cases hn : l[i].f0 ≥ n
    · rw [if_pos hn, if_pos hn]
      exact ⟨0, false, rfl, rfl⟩
    rw [if_neg hn, if_neg hn]
    have hL : vs.length < 17592186044416 := by omega
    have tail : ∃ t b, (if M.toList = l[i].f2.toList then (if vs.length < 17592186044416 then spec_l04Time.l0 k n l f (vs ++ [l[i].f1]) ((i + 1 : Nat) : Int) else none) else some (0, false)) = some (t, b) ∧
        (if l[i].f2.toList = M.toList then (if vs.length < 17592186044416 then impl_readingsTime.l0 k' n l (vs ++ [l[i].f1]) l (l.length : Int) ((i + 1 : Nat) : Int) else none) else some (0, false)) = some (t, b) := by
      by_cases hm : M.toList = l[i].f2.toList
      · rw [if_pos hm, if_pos hm.symm, if_pos hL, if_pos hL]
        exact ⟨t, b, e1, e2⟩
      · rw [if_neg hm, if_neg (fun e => hm e.symm)]
        exact ⟨0, false, rfl, rfl⟩
    by_cases h0 : (i : Int) > 0
    · have P2 : (0 : Int) ≤ (i : Int) - 1 := by omega
      have P3 : (i : Int) - 1 < (l.length : Int) := by omega
      rw [if_pos h0, if_pos h0, wrap_id (x := (i : Int) - 1) (by omega) (by omega), if_pos P2, if_pos P2, if_pos P3, if_pos P3]
      by_cases hc : (rd_T72 l ((i : Int) - 1)).f0 ≥ l[i].f0
      · rw [if_pos hc, if_pos hc]
        exact ⟨0, false, rfl, rfl⟩
      · rw [if_neg hc, if_neg hc]
        exact tail
    · rw [if_neg h0, if_neg h0]
      exact tail
theorem nodes_both (a : Int) : (spec_l04Nodes.f a = some false ∧ impl_areNodes.f a = some false) ∨ (spec_l04Nodes.f a = some true ∧ impl_areNodes.f a = some true ∧ ∃ f : Nat, f ≤ 2 ∧ a = 3 * (f : Int) + 1) := by
  unfold spec_l04Nodes.f impl_areNodes.f impl_FaultsOf.f
  by_cases h1 : a = 1
  · rw [if_pos h1, if_pos h1]
    exact .inr ⟨rfl, rfl, 0, by omega, by omega⟩
  by_cases h4 : a = 4
  · rw [if_neg h1, if_neg h1, if_pos h4, if_pos h4]
    exact .inr ⟨rfl, rfl, 1, by omega, by omega⟩
  by_cases h7 : a = 7
  · rw [if_neg h1, if_neg h1, if_neg h4, if_neg h4, if_pos h7]
    exact .inr ⟨by rw [h7]; rfl, rfl, 2, by omega, by omega⟩
  · rw [if_neg h1, if_neg h1, if_neg h4, if_neg h4, if_neg h7]
    exact .inl ⟨by rw [beq_eq_false_iff_ne.mpr h7], rfl⟩
theorem time_both (f : Nat) (hf : f ≤ 2) (l : List S72) (k k' : Nat) (hk : 300 ≤ k) (hk' : 300 ≤ k') : ∃ t b, spec_l04Time.f k (3 * (f : Int) + 1) l = some (t, b) ∧ impl_readingsTime.f k' (3 * (f : Int) + 1) l = some (t, b) := by
  have w1 : wrap64 (3 * (f : Int) + 1 - 1) = 3 * (f : Int) := by rw [wrap_id (by omega) (by omega)]; omega
  have w2 : Int.tdiv (3 * (f : Int)) 3 = (f : Int) := by rw [Int.tdiv_eq_ediv_of_nonneg (by omega)]; omega
  have w3 : wrap64 (f : Int) = (f : Int) := wrap_id (by omega) (by omega)
  have w4 : wrap64 (2 * (f : Int)) = 2 * (f : Int) := wrap_id (by omega) (by omega)
  have w5 : wrap64 ((f : Int) * 2) = 2 * (f : Int) := by rw [wrap_id (by omega) (by omega)]; omega
  have w6 : wrap64 (2 * (f : Int) + 1) = 2 * (f : Int) + 1 := wrap_id (by omega) (by omega)
  unfold spec_l04Time.f impl_readingsTime.f impl_quorum.f
  rw [w1, w2, w3, w4, w5, w6, Option.bind_some]
  by_cases hl : (l.length : Int) = 2 * (f : Int) + 1
  · rw [if_pos hl, if_pos hl]
    have := time_l0 (3 * (f : Int) + 1) f l (by omega) hf l.length k k' 0 [] (by omega) rfl (by omega) (by omega)
    exact this
  · rw [if_neg hl, if_neg hl]
    exact ⟨0, false, rfl, rfl⟩
theorem readingsTime_both (a : Int) (l : List S72) (k k' : Nat) (hk : 300 ≤ k) (hk' : 300 ≤ k') : ∃ t c, spec_ReadingsTime.f k a l = some (t, c) ∧ impl_ReadingsTime.f k' a l = some (t, c) ∧ (c = 0 → l.length ≤ 4096) := by
  unfold spec_ReadingsTime.f impl_ReadingsTime.f impl_Reading.f
  rw [Option.bind_some]
  by_cases hL : (l.length : Int) > 4096
  · rw [if_pos hL, if_pos (by simpa using hL)]
    exact ⟨0, 2, rfl, rfl, fun h => by cases h⟩
  rw [if_neg hL, if_neg (by simpa using hL)]
  rcases nodes_both a with ⟨h1, h2⟩ | ⟨h1, h2, f, hf, rfl⟩
  · rw [h1, h2]
    exact ⟨0, 4, rfl, rfl, fun _ => by omega⟩
  · rw [h1, h2, Option.bind_some, Option.bind_some, if_pos rfl, if_pos rfl]
    obtain ⟨t, b, e1, e2⟩ := time_both f hf l k k' hk hk'
    rw [e1, e2]
    cases b
    · exact ⟨0, 12, rfl, rfl, fun _ => by omega⟩
    · exact ⟨t, 0, rfl, rfl, fun _ => by omega⟩

/-! snippet medCount -/
theorem srt_pair (l : List Int) : (Med.srt l).Pairwise (fun a b => a ≤ b) :=
  (List.pairwise_mergeSort (le := fun x y : Int => decide (x ≤ y)) (fun a b c h1 h2 => by simp only [decide_eq_true_eq] at *; omega) (fun a b => by simp only [Bool.or_eq_true, decide_eq_true_eq]; omega) l).imp (fun h => by simpa using h)
theorem srt_perm (l : List Int) : (Med.srt l).Perm l := List.mergeSort_perm l _
theorem srt_le (l : List Int) {i j : Nat} (hij : i ≤ j) (hj : j < (Med.srt l).length) : (Med.srt l)[i]'(by omega) ≤ (Med.srt l)[j] := by
  by_cases h : i = j
  · subst h; exact Int.le_refl _
  · exact List.pairwise_iff_getElem.mp (srt_pair l) i j (by omega) hj (by omega)
theorem med_is (l : List Int) (h : Nat) (hl : l.length = 2 * h + 1) : Med.med l = (Med.srt l)[h]'(by rw [Med.srt_length]; omega) := by
  rw [med_at l (h : Nat) (by omega), rd_nat _ _ (by rw [Med.srt_length]; omega)]
theorem med_mem (l : List Int) (h : Nat) (hl : l.length = 2 * h + 1) : Med.med l ∈ l := by
  rw [med_is l h hl]
  exact (srt_perm l).mem_iff.mp (List.getElem_mem _)
theorem below_le (l : List Int) (h : Nat) (hl : l.length = 2 * h + 1) : l.countP (fun x => decide (x < Med.med l)) ≤ h := by
  rw [← (srt_perm l).countP_eq]
  have hs := Med.srt_length l
  rw [← List.take_append_drop h (Med.srt l), List.countP_append]
  have e : (List.drop h (Med.srt l)).countP (fun x => decide (x < Med.med l)) = 0 := by
    rw [List.countP_eq_zero]
    intro a ha
    obtain ⟨i, hi, rfl⟩ := List.mem_iff_getElem.mp ha
    rw [List.length_drop] at hi
    rw [List.getElem_drop, med_is l h hl, decide_eq_true_eq]
    have := srt_le l (i := h) (j := h + i) (by omega) (by omega)
    omega
  rw [e]
  have := List.countP_le_length (p := fun x => decide (x < Med.med l)) (l := List.take h (Med.srt l))
  rw [List.length_take] at this
  omega
theorem above_le (l : List Int) (h : Nat) (hl : l.length = 2 * h + 1) : l.countP (fun x => decide (Med.med l < x)) ≤ h := by
  rw [← (srt_perm l).countP_eq]
  have hs := Med.srt_length l
  rw [← List.take_append_drop (h + 1) (Med.srt l), List.countP_append]
  have e : (List.take (h + 1) (Med.srt l)).countP (fun x => decide (Med.med l < x)) = 0 := by
    rw [List.countP_eq_zero]
    intro a ha
    obtain ⟨i, hi, rfl⟩ := List.mem_iff_getElem.mp ha
    rw [List.length_take] at hi
    rw [List.getElem_take, med_is l h hl, decide_eq_true_eq]
    have := srt_le l (i := i) (j := h) (by omega) (by omega)
    omega
  rw [e]
  have := List.countP_le_length (p := fun x => decide (Med.med l < x)) (l := List.drop (h + 1) (Med.srt l))
  rw [List.length_drop] at this
  omega

/-! snippet at -/
theorem at_tells (l : List Int) (hl : l.length ≤ 1048576) (hw : ∀ x ∈ l, (Lit.int .u8 x).wf = true) (i n : Int) (hi : 0 ≤ i) (hi2 : i ≤ 1000) (hn : 1 < n) : ∃ r, laws_at.f l i n = some r ∧ 0 ≤ r ∧ r < n := by
  unfold laws_at.f
  rw [if_neg (by omega)]
  by_cases h0 : (l.length : Int) = 0
  · rw [if_pos h0, if_neg (by omega)]
    refine ⟨_, rfl, ?_⟩
    rw [wrap_id (by omega) (by omega), Int.tmod_eq_emod_of_nonneg (by omega)]
    exact ⟨Int.emod_nonneg _ (by omega), Int.emod_lt_of_pos _ (by omega)⟩
  · have hp : (0 : Int) < l.length := by omega
    have m1 : Int.tmod i (l.length : Int) = i % (l.length : Int) := Int.tmod_eq_emod_of_nonneg hi
    have e1 : wrap64 (i + 1) = i + 1 := wrap_id (by omega) (by omega)
    have m2 : Int.tmod (i + 1) (l.length : Int) = (i + 1) % (l.length : Int) := Int.tmod_eq_emod_of_nonneg (by omega)
    have d1 : Int.tdiv i (l.length : Int) = i / (l.length : Int) := Int.tdiv_eq_ediv_of_nonneg hi
    rw [if_neg h0, e1, m1, m2, d1]
    have a1 := Int.emod_nonneg i (show (l.length : Int) ≠ 0 by omega)
    have a2 := Int.emod_lt_of_pos i hp
    have b1 := Int.emod_nonneg (i + 1) (show (l.length : Int) ≠ 0 by omega)
    have b2 := Int.emod_lt_of_pos (i + 1) hp
    rw [if_pos a1, if_pos a2, if_pos b1, if_pos b2, if_neg (by omega)]
    have r1 := u8_of_wf hw (i % (l.length : Int))
    have r2 := u8_of_wf hw ((i + 1) % (l.length : Int))
    have q1 : 0 ≤ i / (l.length : Int) := Int.ediv_nonneg hi (by omega)
    have q2 : i / (l.length : Int) ≤ i := Int.ediv_le_self _ hi
    refine ⟨_, rfl, ?_⟩
    generalize rd l (i % (l.length : Int)) = x at *
    generalize rd l ((i + 1) % (l.length : Int)) = y at *
    generalize i / (l.length : Int) = q at *
    rw [wrap_id (x := x) (by omega) (by omega), wrap_id (x := y) (by omega) (by omega), wrap_id (x := x * 31) (by omega) (by omega), wrap_id (x := q) (by omega) (by omega), wrap_id (x := x * 31 + y) (by omega) (by omega), wrap_id (x := x * 31 + y + q) (by omega) (by omega), Int.tmod_eq_emod_of_nonneg (by omega)]
    exact ⟨Int.emod_nonneg _ (by omega), Int.emod_lt_of_pos _ (by omega)⟩

/-! snippet hasInt -/
theorem hasInt_l0 (xs : List Int) (n : Int) (hx : xs.length ≤ 140737488351232) (d : Nat) : ∀ (k : Nat) (i : Nat), xs.length - i = d → i ≤ xs.length → d < k → laws_hasInt.l0 k xs n i = some (decide (n ∈ xs.drop i)) := by
  induction d with
  | zero =>
    intro k i hd hi hk
    obtain ⟨k, rfl⟩ := nat_pos_succ hk
    simp only [laws_hasInt.l0]
    rw [if_neg (by omega), List.drop_eq_nil_of_le (by omega)]
    simp
  | succ d ih =>
    intro k i hd hi hk
    obtain ⟨k, rfl⟩ := nat_pos_succ hk
    simp only [laws_hasInt.l0]
    have hlt : i < xs.length := by omega
    rw [if_pos (by omega), if_pos (by omega), wrap_id (by omega) (by omega), show ((i : Int) + 1) = ((i + 1 : Nat) : Int) by omega, ih k (i + 1) (by omega) (by omega) (by omega)]
    have e : rd xs i = xs[i] := by unfold rd; simp [List.getD_eq_getElem?_getD, hlt]
    rw [e, List.drop_eq_getElem_cons hlt]
    by_cases h : xs[i] = n
    · rw [if_pos h, decide_eq_true (List.mem_cons.mpr (.inl h.symm))]
    · rw [if_neg h]
      congr 1
      rw [decide_eq_decide, List.mem_cons]
      exact ⟨.inr, fun hm => hm.elim (fun e => absurd e.symm h) id⟩
theorem hasInt_tells (xs : List Int) (n : Int) (hx : xs.length ≤ 140737488351232) (k : Nat) (hk : xs.length < k) : laws_hasInt.f k xs n = some (decide (n ∈ xs)) := by
  unfold laws_hasInt.f
  have := hasInt_l0 xs n hx xs.length k 0 (by omega) (by omega) hk
  simpa using this

/-! snippet u8r -/
theorem u8_range {xs : List Int} (hw : ∀ x ∈ xs, (Lit.int .u8 x).wf = true) : ∀ x ∈ xs, 0 ≤ x ∧ x < 256 := by
  intro x hx
  have := hw x hx
  simp only [Lit.wf, Bool.and_eq_true, decide_eq_true_eq] at this
  have e1 : IntKind.u8.min = 0 := rfl
  have e2 : IntKind.u8.max = 255 := rfl
  omega

/-! snippet macSize -/
theorem reading_size (a b : Int) : (readingOf a b).size = 8 := macOf_size _ _

/-! snippet FnAgreed -/
theorem length_le_sub : ∀ (lie A : List Int), A.Nodup → (∀ x ∈ A, x ∈ lie) → A.length ≤ lie.length := by
  intro lie
  induction lie with
  | nil =>
    intro A _ h
    cases A with
    | nil => simp
    | cons x A => have := h x (by simp); cases this
  | cons y lie ih =>
    intro A hn h
    by_cases hy : y ∈ A
    · have h1 := ih (A.erase y) (hn.erase _) (fun x hx => by
        have h2 := (List.Nodup.mem_erase_iff hn).mp hx
        rcases List.mem_cons.mp (h x h2.2) with e | e
        · exact absurd e h2.1
        · exact e)
      rw [List.length_erase_of_mem hy] at h1
      rw [List.length_cons]
      omega
    · have h1 := ih A hn (fun x hx => by
        rcases List.mem_cons.mp (h x hx) with e | e
        · exact absurd (e ▸ hx) hy
        · exact e)
      rw [List.length_cons]
      omega
theorem range_map_getD (vs : List Int) : (List.range vs.length).map (fun i => vs.getD i 0) = vs := by
  apply List.ext_getElem
  · simp
  · intro i h1 h2
    simp [List.getD_eq_getElem?_getD, h2]
theorem count_idx (vs : List Int) (p : Int → Bool) : ((List.range vs.length).filter (fun i => p (vs.getD i 0))).length = vs.countP p := by
  have e : (List.range vs.length).countP (fun i => p (vs.getD i 0)) = ((List.range vs.length).map (fun i => vs.getD i 0)).countP p := by rw [List.countP_map]; rfl
  rw [← List.countP_eq_length_filter, e, range_map_getD]
theorem few (vs lie : List Int) (p : Int → Bool) (h : ∀ i, i < vs.length → p (vs.getD i 0) = true → (i : Int) ∈ lie) : vs.countP p ≤ lie.length := by
  rw [← count_idx vs p, ← List.length_map (f := fun i : Nat => (i : Int))]
  refine length_le_sub lie _ ?_ ?_
  · rw [List.nodup_iff_pairwise_ne, List.pairwise_map]
    exact (List.Pairwise.filter _ (List.nodup_range (n := vs.length))).imp (fun hne e => hne (by omega))
  · intro x hx
    obtain ⟨i, hi, rfl⟩ := List.mem_map.mp hx
    obtain ⟨h1, h2⟩ := List.mem_filter.mp hi
    exact h i (List.mem_range.mp h1) h2
theorem countP_two (p q : Int → Bool) (h : ∀ x, p x = !q x) (l : List Int) : l.countP p + l.countP q = l.length := by
  induction l with
  | nil => rfl
  | cons x l ih =>
    rw [List.countP_cons, List.countP_cons, List.length_cons, h x]
    cases q x <;> simp <;> omega
theorem between (vs lie : List Int) (f : Nat) (hl : vs.length = 2 * f + 1) (hlie : lie.length ≤ f) (low high : Int) (h : ∀ i, i < vs.length → (i : Int) ∉ lie → low ≤ vs.getD i 0 ∧ vs.getD i 0 ≤ high) : low ≤ Med.med vs ∧ Med.med vs ≤ high := by
  have ha := above_le vs f hl
  have hb := below_le vs f hl
  refine ⟨?_, ?_⟩
  · by_cases hlt : low ≤ Med.med vs
    · exact hlt
    · have h1 := few vs lie (fun x => decide (x ≤ Med.med vs)) (fun i hi hp => by
        by_cases hm : (i : Int) ∈ lie
        · exact hm
        · have := (h i hi hm).1
          rw [decide_eq_true_eq] at hp
          omega)
      have h2 := countP_two (fun x => decide (x ≤ Med.med vs)) (fun x => decide (Med.med vs < x)) (fun x => by
        by_cases hx : x ≤ Med.med vs
        · rw [decide_eq_true hx, decide_eq_false (by omega)]; rfl
        · rw [decide_eq_false hx, decide_eq_true (by omega)]; rfl) vs
      omega
  · by_cases hlt : Med.med vs ≤ high
    · exact hlt
    · have h1 := few vs lie (fun x => decide (Med.med vs ≤ x)) (fun i hi hp => by
        by_cases hm : (i : Int) ∈ lie
        · exact hm
        · have := (h i hi hm).2
          rw [decide_eq_true_eq] at hp
          omega)
      have h2 := countP_two (fun x => decide (Med.med vs ≤ x)) (fun x => decide (x < Med.med vs)) (fun x => by
        by_cases hx : Med.med vs ≤ x
        · rw [decide_eq_true hx, decide_eq_false (by omega)]; rfl
        · rw [decide_eq_false hx, decide_eq_true (by omega)]; rfl) vs
      omega
/-- A reading that is right, of a node below n. -/
def Right (n : Int) (x : S72) : Prop := 0 ≤ x.f0 ∧ x.f0 ≤ 6 ∧ x.f0 < n ∧ 0 ≤ x.f1 ∧ x.f1 ≤ 1000000000 ∧ x.f2 = readingOf x.f0 x.f1
structure GoodR (n : Int) (L : List S72) : Prop where
  asc : (L.map S72.f0).Pairwise (fun a b => a < b)
  all : ∀ x ∈ L, Right n x
theorem Right.readP {n : Int} {x : S72} (h : Right n x) : readP x = true := by
  obtain ⟨h0, h1, h2, h3, h4, h5⟩ := h
  unfold Pure.readP
  rw [h5, reading_size]
  simp only [Bool.and_eq_true, decide_eq_true_eq, beq_iff_eq]
  omega
theorem drawn_good (l : List Int) (n sk : Int) (hn7 : n ≤ 7) (q : Nat) : ∀ (m : Nat) (i a s : Int), 0 ≤ i → (m : Int) + (if i ≤ sk ∧ n > 1 then 1 else 0) ≤ q → (m : Int) + (if i ≤ sk ∧ n > 1 then 1 else 0) ≤ n - i → sk < n →
    ∃ L, drawnR l n sk q m i a s = some L ∧ L.length = m ∧ ((L.map S72.f0).Pairwise (fun a b => a < b)) ∧ ∀ x ∈ L, i ≤ x.f0 ∧ x.f0 < n ∧ 0 ≤ x.f1 ∧ x.f1 < 100 ∧ x.f2 = readingOf x.f0 x.f1 := by
  induction q with
  | zero =>
    intro m i a s h0 hq hn hs
    obtain rfl : m = 0 := by split at hq <;> omega
    exact ⟨[], rfl, rfl, List.Pairwise.nil, fun x hx => by cases hx⟩
  | succ q ih =>
    intro m i a s h0 hq hn hs
    cases m with
    | zero => exact ⟨[], by rfl, rfl, List.Pairwise.nil, fun x hx => by cases hx⟩
    | succ m =>
      rw [drawnR]
      by_cases hc : i = sk ∧ n > 1
      · rw [if_pos hc]
        rw [if_pos (by omega)] at hq hn
        obtain ⟨L, e1, e2, e3, e4⟩ := ih (m + 1) (i + 1) a s (by omega) (by rw [if_neg (by omega)]; omega) (by rw [if_neg (by omega)]; omega) hs
        exact ⟨L, e1, e2, e3, fun x hx => ⟨by have := (e4 x hx).1; omega, (e4 x hx).2⟩⟩
      · rw [if_neg hc]
        have hif : (if i + 1 ≤ sk ∧ n > 1 then (1 : Int) else 0) ≤ (if i ≤ sk ∧ n > 1 then (1 : Int) else 0) := by split <;> split <;> omega
        obtain ⟨L, e1, e2, e3, e4⟩ := ih m (i + 1) (Src.byteF l a s).2.1 (Src.byteF l a s).2.2 (by omega) (by omega) (by omega) hs
        have hv : 0 ≤ (Src.byteF l a s).1 % 100 ∧ (Src.byteF l a s).1 % 100 < 100 := by omega
        generalize Src.byteF l a s = B at e1 hv ⊢
        generalize B.1 % 100 = v at hv ⊢
        rw [spec_l04Reading_tells i v 9 (by omega), Option.bind_some, e1, Option.bind_some]
        have hin : i < n := by split at hn <;> omega
        refine ⟨_, rfl, by rw [List.length_cons, e2], ?_, ?_⟩
        · rw [List.map_cons, List.pairwise_cons]
          refine ⟨fun y hy => ?_, e3⟩
          obtain ⟨x, hx, rfl⟩ := List.mem_map.mp hy
          have := (e4 x hx).1
          show i < x.f0
          omega
        · intro x hx
          rcases List.mem_cons.mp hx with rfl | hx
          · exact ⟨Int.le_refl _, hin, hv.1, hv.2, rfl⟩
          · have := e4 x hx
            exact ⟨by omega, this.2⟩
theorem readingsOf_good (x : List Int) (hx : x.length ≤ 1048576) (hu : ∀ y ∈ x, 0 ≤ y ∧ y ≤ 255) (f : Nat) (hf : f ≤ 2) : ∃ L, spec_ReadingsOf.f x (3 * (f : Int) + 1) = some L ∧ L.length = 2 * f + 1 ∧ GoodR (3 * (f : Int) + 1) L := by
  unfold spec_ReadingsOf.f
  rw [if_pos ⟨by omega, hu⟩]
  have fin : ∀ L : List S72, ((L.map S72.f0).Pairwise (fun a b => a < b)) → (∀ y ∈ L, (0 : Int) ≤ y.f0 ∧ y.f0 < 3 * (f : Int) + 1 ∧ 0 ≤ y.f1 ∧ y.f1 < 100 ∧ y.f2 = readingOf y.f0 y.f1) → GoodR (3 * (f : Int) + 1) L := fun L h1 h2 =>
    ⟨h1, fun y hy => by obtain ⟨b1, b2, b3, b4, b5⟩ := h2 y hy; exact ⟨b1, by omega, b2, b3, by omega, b5⟩⟩
  by_cases h1 : f = 0
  · subst h1
    obtain ⟨L, e1, e2, e3, e4⟩ := drawn_good x 1 0 (by omega) 20 1 0 0 ((x.length : Int) % 1000) (by omega) (by simp) (by simp) (by omega)
    refine ⟨L, ?_, e2, fin L e3 (fun y hy => by have := e4 y hy; simpa using this)⟩
    rw [if_pos (by rfl)]
    exact e1
  · rw [if_neg (by omega), if_pos (by omega)]
    generalize Src.byteF x 0 ((x.length : Int) % 1000) = B
    have s0 := Int.emod_nonneg B.1 (show (3 * (f : Int) + 1) ≠ 0 by omega)
    have s1 := Int.emod_lt_of_pos B.1 (show 0 < (3 * (f : Int) + 1) by omega)
    generalize B.1 % (3 * (f : Int) + 1) = sk at s0 s1 ⊢
    have em : (2 * ((3 * (f : Int) + 1 - 1) / 3) + 1).toNat = 2 * f + 1 := by omega
    rw [em]
    obtain ⟨L, e1, e2, e3, e4⟩ := drawn_good x (3 * (f : Int) + 1) sk (by omega) 20 (2 * f + 1) 0 B.2.1 B.2.2 (by omega) (by split <;> omega) (by split <;> omega) s1
    exact ⟨L, e1, e2, fin L e3 e4⟩
theorem GoodR.set {n : Int} {L : List S72} (h : GoodR n L) (i : Nat) (hi : i < L.length) (v : Int) (v0 : 0 ≤ v) (v1 : v ≤ 1000000000) : GoodR n (L.set i ⟨L[i].f0, v, readingOf L[i].f0 v⟩) := by
  refine ⟨?_, ?_⟩
  · have e : (L.set i ⟨L[i].f0, v, readingOf L[i].f0 v⟩).map S72.f0 = L.map S72.f0 := by
      apply List.ext_getElem
      · simp
      · intro j h1 h2
        rw [List.getElem_map, List.getElem_map, List.getElem_set]
        split
        · rename_i e; subst e; rfl
        · rfl
    rw [e]
    exact h.asc
  · intro x hx
    rcases List.mem_or_eq_of_mem_set hx with hx | rfl
    · exact h.all x hx
    · obtain ⟨b1, b2, b3, -, -, -⟩ := h.all _ (List.getElem_mem hi)
      exact ⟨b1, b2, b3, v0, v1, rfl⟩
theorem good_l0 (n : Int) (f : Nat) (L : List S72) (hl : L.length = 2 * f + 1) (hf : f ≤ 2) (hG : GoodR n L) (d : Nat) : ∀ (k : Nat) (i : Nat) (vs : List Int), L.length = i + d → vs = (L.map S72.f1).take i → d + 200 < k → impl_readingsTime.l0 k n L vs L (L.length : Int) i = some (Med.med (L.map S72.f1), true) := by
  induction d with
  | zero =>
    intro k i vs hd hv hk
    obtain ⟨k, rfl⟩ : ∃ m, k = m + 1 := ⟨k - 1, by omega⟩
    have e : vs = L.map S72.f1 := by rw [hv, List.take_of_length_le (by rw [List.length_map]; omega)]
    rw [impl_readingsTime.l0, if_neg (by omega), e, implMedian_tells _ (by rw [List.length_map]; omega) (by rw [List.length_map]; omega), Option.bind_some]
  | succ d ih =>
    intro k i vs hd hv hk
    obtain ⟨k, rfl⟩ : ∃ m, k = m + 1 := ⟨k - 1, by omega⟩
    have hi : i < L.length := by omega
    have P1 : (i : Int) < (L.length : Int) := by omega
    have P0 : (0 : Int) ≤ (i : Int) := by omega
    have hr := hG.all _ (List.getElem_mem hi)
    obtain ⟨b1, b2, b3, b4, b5, b6⟩ := hr
    have hlv : vs.length = i := by rw [hv, List.length_take, List.length_map]; omega
    have step := ih k (i + 1) (vs ++ [L[i].f1]) (by omega) (by rw [hv, List.take_succ_eq_append_getElem (by rw [List.length_map]; exact hi), List.getElem_map]) (by omega)
    rw [impl_readingsTime.l0, if_pos P1, if_pos P0, if_pos P1, rd72_at L i hi, implReading_tells, Option.bind_some, wrap_id (x := (i : Int) + 1) (by omega) (by omega), show (i : Int) + 1 = ((i + 1 : Nat) : Int) by omega, impl_readingMac_tells _ _ k (by omega), Option.bind_some, Right.readP (hG.all _ (List.getElem_mem hi)), if_pos rfl, if_neg (by omega)]
    by_cases h0 : (i : Int) > 0
    · have P2 : (0 : Int) ≤ (i : Int) - 1 := by omega
      have P3 : (i : Int) - 1 < (L.length : Int) := by omega
      have hasc : (rd_T72 L ((i : Int) - 1)).f0 < L[i].f0 := by
        rw [show (i : Int) - 1 = ((i - 1 : Nat) : Int) by omega, rd72_at L (i - 1) (by omega)]
        have := List.pairwise_iff_getElem.mp hG.asc (i - 1) i (by rw [List.length_map]; omega) (by rw [List.length_map]; omega) (by omega)
        rwa [List.getElem_map, List.getElem_map] at this
      rw [if_pos h0, wrap_id (x := (i : Int) - 1) (by omega) (by omega), if_pos P2, if_pos P3, if_neg (by omega), if_pos (by rw [b6]), if_pos (by omega)]
      exact step
    · rw [if_neg h0, if_pos (by rw [b6]), if_pos (by omega)]
      exact step
theorem good_time (f : Nat) (hf : f ≤ 2) (L : List S72) (hl : L.length = 2 * f + 1) (hG : GoodR (3 * (f : Int) + 1) L) (k : Nat) (hk : 300 ≤ k) : impl_ReadingsTime.f k (3 * (f : Int) + 1) L = some (Med.med (L.map S72.f1), 0) := by
  have w1 : wrap64 (3 * (f : Int) + 1 - 1) = 3 * (f : Int) := by rw [wrap_id (by omega) (by omega)]; omega
  have w2 : Int.tdiv (3 * (f : Int)) 3 = (f : Int) := by rw [Int.tdiv_eq_ediv_of_nonneg (by omega)]; omega
  have w3 : wrap64 (f : Int) = (f : Int) := wrap_id (by omega) (by omega)
  have w5 : wrap64 ((f : Int) * 2) = 2 * (f : Int) := by rw [wrap_id (by omega) (by omega)]; omega
  have w6 : wrap64 (2 * (f : Int) + 1) = 2 * (f : Int) + 1 := wrap_id (by omega) (by omega)
  unfold impl_ReadingsTime.f impl_Reading.f
  rw [Option.bind_some, if_neg (by simp; omega)]
  have hn : impl_areNodes.f (3 * (f : Int) + 1) = some true := by
    rcases nodes_both (3 * (f : Int) + 1) with ⟨h1, h2⟩ | ⟨h1, h2, _⟩
    · unfold spec_l04Nodes.f at h1
      have : f = 0 ∨ f = 1 ∨ f = 2 := by omega
      rcases this with rfl | rfl | rfl <;> simp at h1
    · exact h2
  rw [hn, Option.bind_some, if_pos rfl]
  unfold impl_readingsTime.f impl_quorum.f
  rw [w1, w2, w3, w5, w6, Option.bind_some, if_pos (by omega)]
  have := good_l0 (3 * (f : Int) + 1) f L hl hf hG L.length k 0 [] (by omega) rfl (by omega)
  rw [show ((0 : Nat) : Int) = 0 from rfl] at this
  rw [this, Option.bind_some, if_pos rfl]
theorem agreed_l1 (x1 : List Int) (hx : x1.length ≤ 1048576) (hw : ∀ x ∈ x1, (Lit.int .u8 x).wf = true) (f : Nat) (hf : f ≤ 2) (L : List S72) (hl : L.length = 2 * f + 1) (hG : GoodR (3 * (f : Int) + 1) L) (lie : List Int) (hlie : lie.length ≤ f) (d : Nat) :
    ∀ (k : Nat) (i : Nat) (low high : Int), L.length = i + d → (∀ j, j < i → (j : Int) ∉ lie → low ≤ (L.map S72.f1).getD j 0 ∧ (L.map S72.f1).getD j 0 ≤ high) → d + 500 < k → laws_FnAgreed.l1 k x1 (3 * (f : Int) + 1) L lie low high i = some true := by
  induction d with
  | zero =>
    intro k i low high hd hP hk
    obtain ⟨k, rfl⟩ : ∃ m, k = m + 1 := ⟨k - 1, by omega⟩
    have e1 := good_time f hf L hl hG k (by omega)
    obtain ⟨t, c, g1, g2, _⟩ := readingsTime_both (3 * (f : Int) + 1) L k k (by omega) (by omega)
    rw [e1] at g2
    injection g2 with g2
    obtain ⟨rfl, rfl⟩ := Prod.mk.inj g2
    obtain ⟨b, eb, b0, b1⟩ := at_tells x1 hx hw 20 100 (by omega) (by omega) (by omega)
    have hbt := between (L.map S72.f1) lie f (by rw [List.length_map, hl]) hlie low high (fun j hj hm => hP j (by rw [List.length_map] at hj; omega) hm)
    have ea : impl_AgreedTime.f k b (3 * (f : Int) + 1) L = some (mx (Med.med (L.map S72.f1)) b, 0) := by
      unfold impl_AgreedTime.f
      rw [e1, Option.bind_some, if_pos rfl]
    generalize Med.med (L.map S72.f1) = M at e1 g1 ea hbt
    rw [laws_FnAgreed.l1, if_neg (by omega), e1, Option.bind_some, g1, Option.bind_some, eb, Option.bind_some, ea, Option.bind_some]
    dsimp only
    rw [if_pos rfl, if_pos rfl, if_pos hbt.1, if_pos hbt.2, if_pos rfl]
    unfold mx
    by_cases hm : M < b
    · rw [if_pos hm, if_pos (by omega), if_neg (by omega)]
      simp
    · rw [if_neg hm, if_pos (by omega), if_pos rfl]
  | succ d ih =>
    intro k i low high hd hP hk
    obtain ⟨k, rfl⟩ : ∃ m, k = m + 1 := ⟨k - 1, by omega⟩
    have hi : i < L.length := by omega
    have ev : (L.map S72.f1).getD i 0 = L[i].f1 := by simp [List.getD_eq_getElem?_getD, hi]
    rw [laws_FnAgreed.l1, if_pos (by omega), hasInt_tells lie i (by omega) k (by omega), Option.bind_some, wrap_id (x := (i : Int) + 1) (by omega) (by omega), show (i : Int) + 1 = ((i + 1 : Nat) : Int) by omega]
    by_cases hm : (i : Int) ∈ lie
    · rw [if_pos (by simpa using hm)]
      refine ih k (i + 1) low high (by omega) (fun j hj hn => ?_) (by omega)
      by_cases hji : j = i
      · subst hji; exact absurd hm hn
      · exact hP j (by omega) hn
    · rw [if_neg (by simpa using hm), if_pos (by omega), rd72_at L i hi]
      refine ih k (i + 1) _ _ (by omega) (fun j hj hn => ?_) (by omega)
      have a1 : mn low L[i].f1 ≤ low ∧ mn low L[i].f1 ≤ L[i].f1 := by unfold mn; split <;> omega
      have a2 : high ≤ mx high L[i].f1 ∧ L[i].f1 ≤ mx high L[i].f1 := by unfold mx; split <;> omega
      by_cases hji : j = i
      · subst hji; rw [ev]; exact ⟨a1.2, a2.2⟩
      · have := hP j (by omega) hn
        omega
theorem agreed_l0 (x1 : List Int) (hx : x1.length ≤ 1048576) (hw : ∀ x ∈ x1, (Lit.int .u8 x).wf = true) (f : Nat) (hf : f ≤ 2) (d : Nat) :
    ∀ (k : Nat) (i : Nat) (L : List S72) (lie : List Int), L.length = 2 * f + 1 → GoodR (3 * (f : Int) + 1) L → lie.length = i → f = i + d → d + 600 < k → laws_FnAgreed.l0 k x1 (3 * (f : Int) + 1) f L lie i = some true := by
  induction d with
  | zero =>
    intro k i L lie hl hG hlie hd hk
    obtain ⟨k, rfl⟩ : ∃ m, k = m + 1 := ⟨k - 1, by omega⟩
    rw [laws_FnAgreed.l0, if_neg (by omega)]
    exact agreed_l1 x1 hx hw f hf L hl hG lie (by omega) L.length k 0 _ _ (by omega) (fun j hj => by omega) (by omega)
  | succ d ih =>
    intro k i L lie hl hG hlie hd hk
    obtain ⟨k, rfl⟩ : ∃ m, k = m + 1 := ⟨k - 1, by omega⟩
    have w1 : wrap64 ((i : Int) + 1) = ((i + 1 : Nat) : Int) := by rw [wrap_id (by omega) (by omega)]; omega
    have w9 : wrap64 ((i : Int) + 9) = ((i + 9 : Nat) : Int) := by rw [wrap_id (by omega) (by omega)]; omega
    have w5 : wrap64 ((i : Int) + 5) = ((i + 5 : Nat) : Int) := by rw [wrap_id (by omega) (by omega)]; omega
    obtain ⟨a, ea, a0, a1⟩ := at_tells x1 hx hw ((i + 1 : Nat) : Int) (L.length : Int) (by omega) (by omega) (by omega)
    obtain ⟨v, ev, v0, v1⟩ := at_tells x1 hx hw ((i + 9 : Nat) : Int) 200 (by omega) (by omega) (by omega)
    obtain ⟨c, ec, c0, c1⟩ := at_tells x1 hx hw ((i + 5 : Nat) : Int) 3 (by omega) (by omega) (by omega)
    obtain ⟨an, rfl⟩ : ∃ n : Nat, a = n := ⟨a.toNat, by omega⟩
    have han : an < L.length := by omega
    have hval : 0 ≤ rd [0, 1000000000, v] c ∧ rd [0, 1000000000, v] c ≤ 1000000000 := by
      have : c = 0 ∨ c = 1 ∨ c = 2 := by omega
      rcases this with rfl | rfl | rfl
      · show (0 : Int) ≤ 0 ∧ (0 : Int) ≤ 1000000000
        omega
      · show (0 : Int) ≤ 1000000000 ∧ (1000000000 : Int) ≤ 1000000000
        omega
      · show 0 ≤ v ∧ v ≤ 1000000000
        omega
    obtain ⟨val, hv⟩ : ∃ val, rd [0, 1000000000, v] c = val := ⟨_, rfl⟩
    rw [hv] at hval
    obtain ⟨g0, g1, g2, -, -, -⟩ := hG.all _ (List.getElem_mem han)
    have b1 : (decide ((0 : Int) ≤ L[an].f0) && decide (L[an].f0 ≤ 6)) = true := by rw [Bool.and_eq_true, decide_eq_true_eq, decide_eq_true_eq]; omega
    have b2 : (decide ((0 : Int) ≤ val) && decide (val ≤ 1000000000)) = true := by rw [Bool.and_eq_true, decide_eq_true_eq, decide_eq_true_eq]; omega
    have r1 : impl_ReadingMac.f k L[an].f0 val = some (readingOf L[an].f0 val, 0) := by
      unfold impl_ReadingMac.f
      rw [within_tells, Option.bind_some, if_pos b1, within_tells, Option.bind_some, if_pos b2, impl_readingMac_tells _ _ k (by omega), Option.bind_some]
    have r2 : spec_ReadingMac.f k L[an].f0 val = some (readingOf L[an].f0 val, 0) := by
      unfold spec_ReadingMac.f
      rw [specIn_tells, Option.bind_some, if_pos b1, specIn_tells, Option.bind_some, if_pos b2, spec_l04Reading_tells _ _ k (by omega), Option.bind_some]
    have hset := hG.set an han val hval.1 hval.2
    generalize readingOf L[an].f0 val = M at r1 r2 hset
    rw [laws_FnAgreed.l0, if_pos (by omega), w1, ea, Option.bind_some, w9, ev, Option.bind_some, Option.bind_some, w5, ec, Option.bind_some, if_pos c0, if_pos (show c < ((([0, 1000000000, v] : List Int).length : Nat) : Int) from c1), if_pos a0, if_pos a1, rd72_at L an han, hv, r1, Option.bind_some, r2, Option.bind_some]
    dsimp only
    rw [if_pos rfl, if_pos rfl, if_pos (by omega), Int.toNat_natCast]
    exact ih k (i + 1) _ _ (by rw [List.length_set]; exact hl) hset (by rw [List.length_append, List.length_singleton, hlie]) (by omega) (by omega)
theorem FnAgreed (x0 : List Int) (x1 : List Int) (gx0 : (x0.length ≤ 9223372036854775807 ∧ ∀ y ∈ x0, (Lit.int .u8 y).wf = true)) (gx1 : (x1.length ≤ 9223372036854775807 ∧ ∀ y ∈ x1, (Lit.int .u8 y).wf = true)) : ∃ k, laws_FnAgreed.f k x0 x1 = some true := by
  obtain ⟨K, hK⟩ : ∃ K : Nat, 3000 ≤ K := ⟨3000, Nat.le_refl _⟩
  refine ⟨K + 1 + 1, ?_⟩
  unfold laws_FnAgreed.f
  by_cases h : (x0.length : Int) > 1048576
  · rw [if_pos h, laws_FnAgreed.j0, if_pos rfl]
  rw [if_neg h, laws_FnAgreed.j0]
  by_cases h' : (x1.length : Int) > 1048576
  · rw [if_pos (decide_eq_true h')]
  rw [if_neg (by simpa using h'), Option.bind_some]
  obtain ⟨c, ec, c0, c1⟩ := at_tells x1 (by omega) gx1.2 0 3 (by omega) (by omega) (by omega)
  obtain ⟨f, rfl⟩ : ∃ f : Nat, c = f := ⟨c.toNat, by omega⟩
  have hf : f ≤ 2 := by omega
  have hrd : rd [1, 4, 7] (f : Int) = 3 * (f : Int) + 1 := by
    have : f = 0 ∨ f = 1 ∨ f = 2 := by omega
    rcases this with rfl | rfl | rfl <;> rfl
  have w1 : wrap64 (3 * (f : Int) + 1 - 1) = 3 * (f : Int) := by rw [wrap_id (by omega) (by omega)]; omega
  have w2 : Int.tdiv (3 * (f : Int)) 3 = (f : Int) := by rw [Int.tdiv_eq_ediv_of_nonneg (by omega)]; omega
  have w3 : wrap64 (f : Int) = (f : Int) := wrap_id (by omega) (by omega)
  have w4 : wrap64 (2 * (f : Int)) = 2 * (f : Int) := wrap_id (by omega) (by omega)
  have w6 : wrap64 (2 * (f : Int) + 1) = 2 * (f : Int) + 1 := wrap_id (by omega) (by omega)
  have hfa : impl_FaultsOf.f (3 * (f : Int) + 1) = some ((f : Int), 0) := by
    unfold impl_FaultsOf.f
    rw [w1, w2, w3]
    have : f = 0 ∨ f = 1 ∨ f = 2 := by omega
    rcases this with rfl | rfl | rfl <;> rfl
  obtain ⟨L, eL, hl, hG⟩ := readingsOf_good x0 (by omega) (fun y hy => by have := u8_range gx0.2 y hy; omega) f hf
  rw [ec, Option.bind_some, if_pos c0, if_pos (show (f : Int) < ((([1, 4, 7] : List Int).length : Nat) : Int) from c1), hrd, hfa, Option.bind_some, eL, Option.bind_some]
  dsimp only
  rw [if_pos rfl, w1, w2, w3, if_pos rfl, laws_FnAgreed.j1, w4, w6, if_neg (by rw [hl]; simp)]
  exact agreed_l0 x1 (by omega) gx1.2 f hf f K 0 L [] hl hG rfl (by omega) (by omega)

end Go.Proofs.YtmkaknegjahjaaaDoor.Pure
