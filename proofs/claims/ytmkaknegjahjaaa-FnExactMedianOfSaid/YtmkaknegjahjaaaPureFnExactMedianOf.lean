/- The statement FnExactMedianOf: what the given program's printed functions answer, as the law asks; no condition. -/
import Derived.Test.YtmkaknegjahjaaaPFnExactMedianOfx2
import Derived.Test.YtmkaknegjahjaaaMedian
set_option linter.unusedVariables false
set_option linter.unusedSimpArgs false
namespace Go.Proofs.Ytmkaknegjahjaaa.Pure
open Go.RowKit Go.Proofs.Ytmkaknegjahjaaa.PFnExactMedianOf Go.Proofs.YtmkaknegjahjaaaV.PrintWords Go.Proofs.YtmkaknegjahjaaaV.PrintLast Go.Proofs.YtmkaknegjahjaaaV.PrintMore
/-! snippet base -/
theorem wrap_id {x : Int} (h1 : -9223372036854775808 ≤ x) (h2 : x ≤ 9223372036854775807) : wrap64 x = x := by
  unfold wrap64
  omega
theorem nat_pos_succ {k d : Nat} (h : d < k) : ∃ m, k = m + 1 := ⟨k - 1, by omega⟩
theorem u8_of_wf {l : List Int} (h : ∀ x ∈ l, (Lit.int .u8 x).wf = true) (i : Int) : 0 ≤ rd l i ∧ rd l i ≤ 255 := by
  unfold rd
  rw [List.getD_eq_getElem?_getD]
  by_cases hi : i.toNat < l.length
  · rw [List.getElem?_eq_getElem hi, Option.getD_some]
    have := h _ (List.getElem_mem hi)
    simp only [Lit.wf, Bool.and_eq_true, decide_eq_true_eq] at this
    have e1 : IntKind.u8.min = 0 := rfl
    have e2 : IntKind.u8.max = 255 := rfl
    omega
  · rw [List.getElem?_eq_none (by omega)]
    simp
theorem i64_of_wf {x : Int} (h : (Lit.int .i64 x).wf = true) : -9223372036854775808 ≤ x ∧ x ≤ 9223372036854775807 := by
  simp only [Lit.wf, Bool.and_eq_true, decide_eq_true_eq] at h
  have e1 : IntKind.i64.min = -9223372036854775808 := rfl
  have e2 : IntKind.i64.max = 9223372036854775807 := rfl
  omega
theorem toList_len (s : ByteArray) : s.toList.length = s.size := by
  rw [ByteArray.toList_eq]
  exact data_length s
theorem toList_inj {a b : ByteArray} (h : a.toList = b.toList) : a = b := by
  rw [ByteArray.toList_eq, ByteArray.toList_eq] at h
  exact Go.WideShapes.bytes_inj h

/-! snippet sorted -/
theorem rd_set (x : List Int) (a b : Nat) (v : Int) (ha : a < x.length) : rd (x.set a v) (b : Int) = if a = b then v else rd x (b : Int) := by
  unfold rd
  simp only [Int.toNat_natCast, List.getD_eq_getElem?_getD, List.getElem?_set]
  by_cases h : a = b
  · subst h; simp [ha]
  · simp [h]
theorem rd_nat (x : List Int) (i : Nat) (hi : i < x.length) : rd x (i : Int) = x[i] := by
  unfold rd
  simp [List.getD_eq_getElem?_getD, hi]
/-- The first i + 1 stand in order, but for the one at j, which is only known to be no greater than those behind it. -/
def AllBut (x : List Int) (i j : Nat) : Prop := ∀ p q : Nat, p < q → q ≤ i → q ≠ j → rd x (p : Int) ≤ rd x (q : Int)
def UpTo (x : List Int) (i : Nat) : Prop := ∀ p q : Nat, p < q → q < i → rd x (p : Int) ≤ rd x (q : Int)
theorem AllBut.start {x : List Int} {i : Nat} (h : UpTo x i) : AllBut x i i := fun p q h1 h2 h3 => h p q h1 (by omega)
theorem AllBut.stop {x : List Int} {i j : Nat} (h : AllBut x i j) (hj : j = 0 ∨ rd x ((j - 1 : Nat) : Int) ≤ rd x (j : Int)) : UpTo x (i + 1) := fun p q h1 h2 => by
  by_cases hq : q = j
  · subst hq
    rcases hj with h0 | h0
    · omega
    · by_cases hp : p = q - 1
      · subst hp; exact h0
      · exact Int.le_trans (h p (q - 1) (by omega) (by omega) (by omega)) h0
  · exact h p q h1 (by omega) hq
theorem AllBut.swap {x : List Int} {i j : Nat} (h : AllBut x i (j + 1)) (hi : j + 1 ≤ i) (hl : i < x.length) (hgt : rd x ((j + 1 : Nat) : Int) < rd x (j : Int)) :
    AllBut ((x.set (j + 1) (rd x (j : Int))).set j (rd x ((j + 1 : Nat) : Int))) i j := fun p q h1 h2 h3 => by
  have e : ∀ b : Nat, rd ((x.set (j + 1) (rd x (j : Int))).set j (rd x ((j + 1 : Nat) : Int))) (b : Int) = if j = b then rd x ((j + 1 : Nat) : Int) else if j + 1 = b then rd x (j : Int) else rd x (b : Int) := fun b => by
    rw [rd_set _ _ _ _ (by rw [List.length_set]; omega), rd_set _ _ _ _ (by omega)]
  rw [e p, e q]
  by_cases p1 : j = p
  · subst p1
    rw [if_pos rfl, if_neg (by omega)]
    by_cases q1 : j + 1 = q
    · subst q1
      rw [if_pos rfl]
      omega
    · rw [if_neg q1]
      exact h (j + 1) q (by omega) h2 (by omega)
  · rw [if_neg p1]
    by_cases p2 : j + 1 = p
    · subst p2
      rw [if_pos rfl, if_neg (by omega), if_neg (by omega)]
      exact h j q (by omega) h2 (by omega)
    · rw [if_neg p2, if_neg (by omega)]
      by_cases q2 : j + 1 = q
      · subst q2
        rw [if_pos rfl]
        exact h p j (by omega) (by omega) (by omega)
      · rw [if_neg q2]
        exact h p q h1 h2 (by omega)
theorem swap_perm (x : List Int) (j : Nat) (hj : j + 1 < x.length) : ((x.set (j + 1) (rd x (j : Int))).set j (rd x ((j + 1 : Nat) : Int))).Perm x := by
  rw [rd_nat x j (by omega), rd_nat x (j + 1) hj, List.set_comm _ _ (by omega)]
  exact List.set_set_perm (by omega) hj
theorem sorted_l1 (n i : Nat) (hi : i < n) (hn : n ≤ 1048576) (K : Nat) (next : ∀ (k : Nat) (x : List Int), x.length = n → UpTo x (i + 1) → K < k → ∃ y, spec_l04Sorted.l0 k x ((i : Int) + 1) = some y ∧ y.Perm x ∧ UpTo y n) :
    ∀ (j k : Nat) (x : List Int), x.length = n → AllBut x i j → j ≤ i → K + j + 1 < k → ∃ y, spec_l04Sorted.l1 k x i j = some y ∧ y.Perm x ∧ UpTo y n := by
  intro j
  induction j with
  | zero =>
    intro k x hx hA hj hk
    obtain ⟨k, rfl⟩ : ∃ m, k = m + 1 := ⟨k - 1, by omega⟩
    rw [spec_l04Sorted.l1, if_neg (by omega), wrap_id (by omega) (by omega)]
    exact next k x hx (hA.stop (.inl rfl)) (by omega)
  | succ j ih =>
    intro k x hx hA hj hk
    obtain ⟨k, rfl⟩ : ∃ m, k = m + 1 := ⟨k - 1, by omega⟩
    have e1 : wrap64 (((j + 1 : Nat) : Int) - 1) = (j : Int) := by rw [wrap_id (by omega) (by omega)]; omega
    rw [spec_l04Sorted.l1, if_pos (by omega), e1, if_pos (by omega), if_pos (by omega), if_pos (by omega), if_pos (by omega)]
    by_cases hg : rd x (j : Int) > rd x ((j + 1 : Nat) : Int)
    · rw [if_pos hg, Int.toNat_natCast, Int.toNat_natCast]
      obtain ⟨y, h1, h2, h3⟩ := ih k _ (by rw [List.length_set, List.length_set]; exact hx) (hA.swap hj (by omega) hg) (by omega) (by omega)
      exact ⟨y, h1, h2.trans (swap_perm x j (by omega)), h3⟩
    · rw [if_neg hg, wrap_id (x := (i : Int) + 1) (by omega) (by omega)]
      exact next k x hx (hA.stop (.inr (by simpa using hg))) (by omega)
theorem sorted_l0 (n : Nat) (hn : n ≤ 1048576) (d : Nat) : ∀ (k i : Nat) (x : List Int), x.length = n → UpTo x i → n - i = d → d * (n + 2) < k → ∃ y, spec_l04Sorted.l0 k x i = some y ∧ y.Perm x ∧ UpTo y n := by
  induction d with
  | zero =>
    intro k i x hx hU hd hk
    obtain ⟨k, rfl⟩ : ∃ m, k = m + 1 := ⟨k - 1, by omega⟩
    rw [spec_l04Sorted.l0, if_neg (by omega)]
    exact ⟨x, rfl, .refl _, fun p q h1 h2 => hU p q h1 (by omega)⟩
  | succ d ih =>
    intro k i x hx hU hd hk
    obtain ⟨k, rfl⟩ : ∃ m, k = m + 1 := ⟨k - 1, by omega⟩
    rw [Nat.succ_mul] at hk
    rw [spec_l04Sorted.l0, if_pos (by omega)]
    exact sorted_l1 n i (by omega) hn (d * (n + 2)) (fun k x hx hU hk => by
      rw [show ((i : Int) + 1) = ((i + 1 : Nat) : Int) by omega]
      exact ih k (i + 1) x hx hU (by omega) hk) i k x hx (AllBut.start hU) (Nat.le_refl _) (by omega)
theorem sorted_is (l y : List Int) (hp : y.Perm l) (hU : UpTo y y.length) : y = Med.srt l := by
  refine List.Perm.eq_of_pairwise (le := fun a b : Int => a ≤ b) (fun a b _ _ h1 h2 => Int.le_antisymm h1 h2) ?_ ?_ (hp.trans (List.mergeSort_perm l _).symm)
  · rw [List.pairwise_iff_getElem]
    intro i j hi hj hij
    have := hU i j hij hj
    rwa [rd_nat y i hi, rd_nat y j hj] at this
  · have := List.pairwise_mergeSort (le := fun x y : Int => decide (x ≤ y)) (fun a b c h1 h2 => by simp only [decide_eq_true_eq] at *; omega) (fun a b => by simp only [Bool.or_eq_true, decide_eq_true_eq]; omega) l
    exact this.imp (fun h => by simpa using h)
theorem sorted_tells (l : List Int) (hl : l.length ≤ 1048576) (k : Nat) (hk : l.length * (l.length + 2) < k) : spec_l04Sorted.f k l = some (Med.srt l) := by
  unfold spec_l04Sorted.f
  rw [Option.bind_some, if_pos (by simp; omega), List.nil_append]
  by_cases h0 : l.length = 0
  · obtain rfl : l = [] := List.eq_nil_of_length_eq_zero h0
    obtain ⟨k, rfl⟩ : ∃ m, k = m + 1 := ⟨k - 1, by omega⟩
    rw [spec_l04Sorted.l0, if_neg (by simp)]
    exact congrArg some (sorted_is [] [] (.refl _) (fun p q _ h => by simp at h))
  obtain ⟨y, h1, h2, h3⟩ := sorted_l0 l.length hl (l.length - 1) k 1 l rfl (fun p q h1 h2 => by omega) rfl (by
    have : (l.length - 1) * (l.length + 2) ≤ l.length * (l.length + 2) := Nat.mul_le_mul_right _ (by omega)
    omega)
  rw [show ((1 : Nat) : Int) = 1 from rfl] at h1
  rw [h1, sorted_is l y h2 (by rw [h2.length_eq]; exact h3)]

/-! snippet medianOf2 -/
theorem implMedian_tells (l : List Int) (h0 : 0 < l.length) (hl : l.length ≤ 4096) : impl_median.f l = some (Med.med l) := by
  unfold impl_median.f
  rw [if_pos ⟨h0, by omega⟩]
theorem med_at (l : List Int) (k : Int) (hk : k = (l.length : Int) / 2) : Med.med l = rd (Med.srt l) k := by
  unfold Med.med
  rw [hk, Int.tdiv_eq_ediv_of_nonneg (by omega)]

/-! snippet medianOf -/
/-- Both give one answer, where the list is as it must be. -/
theorem medianOf_good (l : List Int) (h1 : (l.length : Int) % 2 ≠ 0) (h2 : l.length ≤ 101) (k : Nat) (hk : 20000 ≤ k) : spec_MedianOf.f k l = some (Med.med l, 0) ∧ impl_MedianOf.f l = some (Med.med l, 0) := by
  have hf : l.length * (l.length + 2) ≤ 101 * 103 := Nat.mul_le_mul h2 (by omega)
  refine ⟨?_, ?_⟩
  · unfold spec_MedianOf.f
    rw [if_neg (by omega), if_neg h1, if_neg (by omega), sorted_tells l (by omega) k (by omega), Option.bind_some, wrap_id (by omega) (by omega), if_pos (by omega), if_pos (by rw [Med.srt_length]; omega), med_at l _ rfl]
  · unfold impl_MedianOf.f impl_isLongList_int.f
    rw [Option.bind_some, if_neg (by simp; omega), if_neg h1, if_neg (by omega), implMedian_tells l (by omega) (by omega), Option.bind_some]
theorem medianOf_both (l : List Int) (hl : l.length ≤ 1048576) (k : Nat) (hk : 20000 ≤ k) : ∃ a c, spec_MedianOf.f k l = some (a, c) ∧ impl_MedianOf.f l = some (a, c) := by
  by_cases hL : (l.length : Int) > 4096
  · refine ⟨0, 2, ?_, ?_⟩
    · unfold spec_MedianOf.f
      rw [if_pos hL]
    · unfold impl_MedianOf.f impl_isLongList_int.f
      rw [Option.bind_some, if_pos (by simpa using hL)]
  by_cases hE : (l.length : Int) % 2 = 0
  · refine ⟨0, 1, ?_, ?_⟩
    · unfold spec_MedianOf.f
      rw [if_neg hL, if_pos hE]
    · unfold impl_MedianOf.f impl_isLongList_int.f
      rw [Option.bind_some, if_neg (by simpa using hL), if_pos hE]
  by_cases hM : (l.length : Int) > 101
  · refine ⟨0, 1, ?_, ?_⟩
    · unfold spec_MedianOf.f
      rw [if_neg hL, if_neg hE, if_pos hM]
    · unfold impl_MedianOf.f impl_isLongList_int.f
      rw [Option.bind_some, if_neg (by simpa using hL), if_neg hE, if_pos hM]
  exact ⟨_, 0, medianOf_good l hE (by omega) k hk⟩

/-! snippet toB0 -/
theorem set_take {xs ys : List Int} {i : Nat} (h : ys.take i = xs.take i) (hi : i < xs.length) (hl : ys.length = xs.length) : (ys.set i (rd xs i)).take (i + 1) = xs.take (i + 1) := by
  have e : rd xs i = xs[i] := by unfold rd; simp [List.getD_eq_getElem?_getD, hi]
  rw [List.take_succ_eq_append_getElem (by rw [List.length_set]; omega), List.take_succ_eq_append_getElem hi, List.getElem_set_self, e, List.take_set_of_le (Nat.le_refl _), h]

/-! snippet toIntS -/
theorem toIntS_l0 (xs : List Int) (hx : xs.length ≤ 1048576) (d : Nat) : ∀ (k : Nat) (ys : List Int) (i : Nat), xs.length - i = d → i ≤ xs.length → ys.length = xs.length → ys.take i = xs.take i → d < k → laws_toIntS.l0 k xs ys i = some xs := by
  induction d with
  | zero =>
    intro k ys i hd hi hl ht hk
    obtain ⟨k, rfl⟩ := nat_pos_succ hk
    rw [laws_toIntS.l0, if_neg (by omega)]
    rw [List.take_of_length_le (by omega), List.take_of_length_le (by omega)] at ht
    rw [ht]
  | succ d ih =>
    intro k ys i hd hi hl ht hk
    obtain ⟨k, rfl⟩ := nat_pos_succ hk
    rw [laws_toIntS.l0, if_pos (by omega), if_pos (by omega), if_pos (by omega), wrap_id (by omega) (by omega), show ((i : Int) + 1) = ((i + 1 : Nat) : Int) by omega, show ((i : Int)).toNat = i by omega]
    exact ih k _ (i + 1) (by omega) (by omega) (by rw [List.length_set]; exact hl) (set_take ht (by omega) hl) (by omega)
theorem toIntS_tells (xs : List Int) (hx : xs.length ≤ 1048576) (k : Nat) (hk : xs.length < k) : laws_toIntS.f k xs = some xs := by
  unfold laws_toIntS.f
  rw [if_pos (by omega), if_pos (by omega)]
  exact toIntS_l0 xs hx xs.length k _ 0 (by omega) (by omega) (by rw [List.length_replicate]; omega) (by simp) hk
theorem eqIntS_l0 (xs : List Int) (hx : xs.length ≤ 1048576) (d : Nat) : ∀ (k : Nat) (i : Nat), xs.length - i = d → i ≤ xs.length → d < k → laws_eqIntS.l0 k xs xs i = some true := by
  induction d with
  | zero =>
    intro k i hd hi hk
    obtain ⟨k, rfl⟩ := nat_pos_succ hk
    rw [laws_eqIntS.l0, if_neg (by omega)]
  | succ d ih =>
    intro k i hd hi hk
    obtain ⟨k, rfl⟩ := nat_pos_succ hk
    rw [laws_eqIntS.l0, if_pos (by omega), if_pos (by omega), if_pos (by omega), if_pos rfl, wrap_id (by omega) (by omega), show ((i : Int) + 1) = ((i + 1 : Nat) : Int) by omega]
    exact ih k (i + 1) (by omega) (by omega) (by omega)
theorem eqIntS_same (xs : List Int) (hx : xs.length ≤ 1048576) (k : Nat) (hk : xs.length < k) : laws_eqIntS.f k xs xs = some true := by
  unfold laws_eqIntS.f
  rw [if_pos rfl]
  exact eqIntS_l0 xs hx xs.length k 0 (by omega) (by omega) hk

/-! snippet FnExactMedianOf -/
theorem FnExactMedianOf (x0 : List Int) (gx0 : (x0.length ≤ 9223372036854775807 ∧ ∀ y ∈ x0, (Lit.int .i64 y).wf = true)) : ∃ k, laws_FnExactMedianOf.f k x0 = some true := by
  by_cases hL : (x0.length : Int) > 1048576
  · exact ⟨0, by unfold laws_FnExactMedianOf.f; rw [if_pos hL]⟩
  obtain ⟨K, hK⟩ : ∃ K, K = 20000 + x0.length + 1 := ⟨_, rfl⟩
  obtain ⟨a, c, e1, e2⟩ := medianOf_both x0 (by omega) (K + 1) (by omega)
  refine ⟨K + 1, ?_⟩
  unfold laws_FnExactMedianOf.f
  rw [if_neg hL, toIntS_tells x0 (by omega) _ (by omega), Option.bind_some, e1, Option.bind_some, Option.bind_some, e2, Option.bind_some, if_pos rfl]
  simp only [bne_self_eq_false]
  rw [laws_FnExactMedianOf.j0, if_neg (by decide), toIntS_tells x0 (by omega) _ (by omega), Option.bind_some, eqIntS_same x0 (by omega) _ (by omega), Option.bind_some, if_pos rfl]

end Go.Proofs.Ytmkaknegjahjaaa.Pure
