/- The statement FnMedian: what the given program's printed functions answer, as the law asks; no condition. -/
import Derived.Test.YtmkaknegjahjaaaPFnMedianx2
import Derived.Test.YtmkaknegjahjaaaMedian
set_option linter.unusedVariables false
set_option linter.unusedSimpArgs false
namespace Go.Proofs.Ytmkaknegjahjaaa.Pure
open Go.RowKit Go.Proofs.Ytmkaknegjahjaaa.PFnMedian Go.Proofs.YtmkaknegjahjaaaV.PrintWords Go.Proofs.YtmkaknegjahjaaaV.PrintLast Go.Proofs.YtmkaknegjahjaaaV.PrintMore
/-! snippet base -/
theorem wrap_id {x : Int} (h1 : -9223372036854775808 ≤ x) (h2 : x ≤ 9223372036854775807) : wrap64 x = x := by
  unfold wrap64
  omega
theorem nat_pos_succ {k d : Nat} (h : d < k) : ∃ m, k = m + 1 := ⟨k - 1, by omega⟩
theorem u8_of_wf {l : List Int} (h : ∀ x ∈ l, (Lit.int .u8 x).wf = true) (i : Int) : 0 ≤ rd l i ∧ rd l i ≤ 255 := by
  unfold rd
  rw [List.getD_eq_getElem?_getD]
  by_cases hi : i.toNat < l.length
  · rw [List.getElem?_eq_getElem hi, Option.getD_some]
    have := h _ (List.getElem_mem hi)
    simp only [Lit.wf, Bool.and_eq_true, decide_eq_true_eq] at this
    have e1 : IntKind.u8.min = 0 := rfl
    have e2 : IntKind.u8.max = 255 := rfl
    omega
  · rw [List.getElem?_eq_none (by omega)]
    simp
theorem i64_of_wf {x : Int} (h : (Lit.int .i64 x).wf = true) : -9223372036854775808 ≤ x ∧ x ≤ 9223372036854775807 := by
  simp only [Lit.wf, Bool.and_eq_true, decide_eq_true_eq] at h
  have e1 : IntKind.i64.min = -9223372036854775808 := rfl
  have e2 : IntKind.i64.max = 9223372036854775807 := rfl
  omega
theorem toList_len (s : ByteArray) : s.toList.length = s.size := by
  rw [ByteArray.toList_eq]
  exact data_length s
theorem toList_inj {a b : ByteArray} (h : a.toList = b.toList) : a = b := by
  rw [ByteArray.toList_eq, ByteArray.toList_eq] at h
  exact Go.WideShapes.bytes_inj h

/-! snippet sorted -/
theorem rd_set (x : List Int) (a b : Nat) (v : Int) (ha : a < x.length) : rd (x.set a v) (b : Int) = if a = b then v else rd x (b : Int) := by
  unfold rd
  simp only [Int.toNat_natCast, List.getD_eq_getElem?_getD, List.getElem?_set]
  by_cases h : a = b
  · subst h; simp [ha]
  · simp [h]
theorem rd_nat (x : List Int) (i : Nat) (hi : i < x.length) : rd x (i : Int) = x[i] := by
  unfold rd
  simp [List.getD_eq_getElem?_getD, hi]
/-- The first i + 1 stand in order, but for the one at j, which is only known to be no greater than those behind it. -/
def AllBut (x : List Int) (i j : Nat) : Prop := ∀ p q : Nat, p < q → q ≤ i → q ≠ j → rd x (p : Int) ≤ rd x (q : Int)
def UpTo (x : List Int) (i : Nat) : Prop := ∀ p q : Nat, p < q → q < i → rd x (p : Int) ≤ rd x (q : Int)
theorem AllBut.start {x : List Int} {i : Nat} (h : UpTo x i) : AllBut x i i := fun p q h1 h2 h3 => h p q h1 (by omega)
theorem AllBut.stop {x : List Int} {i j : Nat} (h : AllBut x i j) (hj : j = 0 ∨ rd x ((j - 1 : Nat) : Int) ≤ rd x (j : Int)) : UpTo x (i + 1) := fun p q h1 h2 => by
  by_cases hq : q = j
  · subst hq
    rcases hj with h0 | h0
    · omega
    · by_cases hp : p = q - 1
      · subst hp; exact h0
      · exact Int.le_trans (h p (q - 1) (by omega) (by omega) (by omega)) h0
  · exact h p q h1 (by omega) hq
theorem AllBut.swap {x : List Int} {i j : Nat} (h : AllBut x i (j + 1)) (hi : j + 1 ≤ i) (hl : i < x.length) (hgt : rd x ((j + 1 : Nat) : Int) < rd x (j : Int)) :
    AllBut ((x.set (j + 1) (rd x (j : Int))).set j (rd x ((j + 1 : Nat) : Int))) i j := fun p q h1 h2 h3 => by
  have e : ∀ b : Nat, rd ((x.set (j + 1) (rd x (j : Int))).set j (rd x ((j + 1 : Nat) : Int))) (b : Int) = if j = b then rd x ((j + 1 : Nat) : Int) else if j + 1 = b then rd x (j : Int) else rd x (b : Int) := fun b => by
    rw [rd_set _ _ _ _ (by rw [List.length_set]; omega), rd_set _ _ _ _ (by omega)]
  rw [e p, e q]
  by_cases p1 : j = p
  · subst p1
    rw [if_pos rfl, if_neg (by omega)]
    by_cases q1 : j + 1 = q
    · subst q1
      rw [if_pos rfl]
      omega
    · rw [if_neg q1]
      exact h (j + 1) q (by omega) h2 (by omega)
  · rw [if_neg p1]
    by_cases p2 : j + 1 = p
    · subst p2
      rw [if_pos rfl, if_neg (by omega), if_neg (by omega)]
      exact h j q (by omega) h2 (by omega)
    · rw [if_neg p2, if_neg (by omega)]
      by_cases q2 : j + 1 = q
      · subst q2
        rw [if_pos rfl]
        exact h p j (by omega) (by omega) (by omega)
      · rw [if_neg q2]
        exact h p q h1 h2 (by omega)
theorem swap_perm (x : List Int) (j : Nat) (hj : j + 1 < x.length) : ((x.set (j + 1) (rd x (j : Int))).set j (rd x ((j + 1 : Nat) : Int))).Perm x := by
  rw [rd_nat x j (by omega), rd_nat x (j + 1) hj, List.set_comm _ _ (by omega)]
  exact List.set_set_perm (by omega) hj
theorem sorted_l1 (n i : Nat) (hi : i < n) (hn : n ≤ 1048576) (K : Nat) (next : ∀ (k : Nat) (x : List Int), x.length = n → UpTo x (i + 1) → K < k → ∃ y, spec_l04Sorted.l0 k x ((i : Int) + 1) = some y ∧ y.Perm x ∧ UpTo y n) :
    ∀ (j k : Nat) (x : List Int), x.length = n → AllBut x i j → j ≤ i → K + j + 1 < k → ∃ y, spec_l04Sorted.l1 k x i j = some y ∧ y.Perm x ∧ UpTo y n := by
  intro j
  induction j with
  | zero =>
    intro k x hx hA hj hk
    obtain ⟨k, rfl⟩ : ∃ m, k = m + 1 := ⟨k - 1, by omega⟩
    rw [spec_l04Sorted.l1, if_neg (by omega), wrap_id (by omega) (by omega)]
    exact next k x hx (hA.stop (.inl rfl)) (by omega)
  | succ j ih =>
    intro k x hx hA hj hk
    obtain ⟨k, rfl⟩ : ∃ m, k = m + 1 := ⟨k - 1, by omega⟩
    have e1 : wrap64 (((j + 1 : Nat) : Int) - 1) = (j : Int) := by rw [wrap_id (by omega) (by omega)]; omega
    rw [spec_l04Sorted.l1, if_pos (by omega), e1, if_pos (by omega), if_pos (by omega), if_pos (by omega), if_pos (by omega)]
    by_cases hg : rd x (j : Int) > rd x ((j + 1 : Nat) : Int)
    · rw [if_pos hg, Int.toNat_natCast, Int.toNat_natCast]
      obtain ⟨y, h1, h2, h3⟩ := ih k _ (by rw [List.length_set, List.length_set]; exact hx) (hA.swap hj (by omega) hg) (by omega) (by omega)
      exact ⟨y, h1, h2.trans (swap_perm x j (by omega)), h3⟩
    · rw [if_neg hg, wrap_id (x := (i : Int) + 1) (by omega) (by omega)]
      exact next k x hx (hA.stop (.inr (by simpa using hg))) (by omega)
theorem sorted_l0 (n : Nat) (hn : n ≤ 1048576) (d : Nat) : ∀ (k i : Nat) (x : List Int), x.length = n → UpTo x i → n - i = d → d * (n + 2) < k → ∃ y, spec_l04Sorted.l0 k x i = some y ∧ y.Perm x ∧ UpTo y n := by
  induction d with
  | zero =>
    intro k i x hx hU hd hk
    obtain ⟨k, rfl⟩ : ∃ m, k = m + 1 := ⟨k - 1, by omega⟩
    rw [spec_l04Sorted.l0, if_neg (by omega)]
    exact ⟨x, rfl, .refl _, fun p q h1 h2 => hU p q h1 (by omega)⟩
  | succ d ih =>
    intro k i x hx hU hd hk
    obtain ⟨k, rfl⟩ : ∃ m, k = m + 1 := ⟨k - 1, by omega⟩
    rw [Nat.succ_mul] at hk
    rw [spec_l04Sorted.l0, if_pos (by omega)]
    exact sorted_l1 n i (by omega) hn (d * (n + 2)) (fun k x hx hU hk => by
      rw [show ((i : Int) + 1) = ((i + 1 : Nat) : Int) by omega]
      exact ih k (i + 1) x hx hU (by omega) hk) i k x hx (AllBut.start hU) (Nat.le_refl _) (by omega)
theorem sorted_is (l y : List Int) (hp : y.Perm l) (hU : UpTo y y.length) : y = Med.srt l := by
  refine List.Perm.eq_of_pairwise (le := fun a b : Int => a ≤ b) (fun a b _ _ h1 h2 => Int.le_antisymm h1 h2) ?_ ?_ (hp.trans (List.mergeSort_perm l _).symm)
  · rw [List.pairwise_iff_getElem]
    intro i j hi hj hij
    have := hU i j hij hj
    rwa [rd_nat y i hi, rd_nat y j hj] at this
  · have := List.pairwise_mergeSort (le := fun x y : Int => decide (x ≤ y)) (fun a b c h1 h2 => by simp only [decide_eq_true_eq] at *; omega) (fun a b => by simp only [Bool.or_eq_true, decide_eq_true_eq]; omega) l
    exact this.imp (fun h => by simpa using h)
theorem sorted_tells (l : List Int) (hl : l.length ≤ 1048576) (k : Nat) (hk : l.length * (l.length + 2) < k) : spec_l04Sorted.f k l = some (Med.srt l) := by
  unfold spec_l04Sorted.f
  rw [Option.bind_some, if_pos (by simp; omega), List.nil_append]
  by_cases h0 : l.length = 0
  · obtain rfl : l = [] := List.eq_nil_of_length_eq_zero h0
    obtain ⟨k, rfl⟩ : ∃ m, k = m + 1 := ⟨k - 1, by omega⟩
    rw [spec_l04Sorted.l0, if_neg (by simp)]
    exact congrArg some (sorted_is [] [] (.refl _) (fun p q _ h => by simp at h))
  obtain ⟨y, h1, h2, h3⟩ := sorted_l0 l.length hl (l.length - 1) k 1 l rfl (fun p q h1 h2 => by omega) rfl (by
    have : (l.length - 1) * (l.length + 2) ≤ l.length * (l.length + 2) := Nat.mul_le_mul_right _ (by omega)
    omega)
  rw [show ((1 : Nat) : Int) = 1 from rfl] at h1
  rw [h1, sorted_is l y h2 (by rw [h2.length_eq]; exact h3)]

/-! snippet medianOf2 -/
theorem implMedian_tells (l : List Int) (h0 : 0 < l.length) (hl : l.length ≤ 4096) : impl_median.f l = some (Med.med l) := by
  unfold impl_median.f
  rw [if_pos ⟨h0, by omega⟩]
theorem med_at (l : List Int) (k : Int) (hk : k = (l.length : Int) / 2) : Med.med l = rd (Med.srt l) k := by
  unfold Med.med
  rw [hk, Int.tdiv_eq_ediv_of_nonneg (by omega)]

/-! snippet medianOf -/
/-- Both give one answer, where the list is as it must be. -/
theorem medianOf_good (l : List Int) (h1 : (l.length : Int) % 2 ≠ 0) (h2 : l.length ≤ 101) (k : Nat) (hk : 20000 ≤ k) : spec_MedianOf.f k l = some (Med.med l, 0) ∧ impl_MedianOf.f l = some (Med.med l, 0) := by
  have hf : l.length * (l.length + 2) ≤ 101 * 103 := Nat.mul_le_mul h2 (by omega)
  refine ⟨?_, ?_⟩
  · unfold spec_MedianOf.f
    rw [if_neg (by omega), if_neg h1, if_neg (by omega), sorted_tells l (by omega) k (by omega), Option.bind_some, wrap_id (by omega) (by omega), if_pos (by omega), if_pos (by rw [Med.srt_length]; omega), med_at l _ rfl]
  · unfold impl_MedianOf.f impl_isLongList_int.f
    rw [Option.bind_some, if_neg (by simp; omega), if_neg h1, if_neg (by omega), implMedian_tells l (by omega) (by omega), Option.bind_some]
theorem medianOf_both (l : List Int) (hl : l.length ≤ 1048576) (k : Nat) (hk : 20000 ≤ k) : ∃ a c, spec_MedianOf.f k l = some (a, c) ∧ impl_MedianOf.f l = some (a, c) := by
  by_cases hL : (l.length : Int) > 4096
  · refine ⟨0, 2, ?_, ?_⟩
    · unfold spec_MedianOf.f
      rw [if_pos hL]
    · unfold impl_MedianOf.f impl_isLongList_int.f
      rw [Option.bind_some, if_pos (by simpa using hL)]
  by_cases hE : (l.length : Int) % 2 = 0
  · refine ⟨0, 1, ?_, ?_⟩
    · unfold spec_MedianOf.f
      rw [if_neg hL, if_pos hE]
    · unfold impl_MedianOf.f impl_isLongList_int.f
      rw [Option.bind_some, if_neg (by simpa using hL), if_pos hE]
  by_cases hM : (l.length : Int) > 101
  · refine ⟨0, 1, ?_, ?_⟩
    · unfold spec_MedianOf.f
      rw [if_neg hL, if_neg hE, if_pos hM]
    · unfold impl_MedianOf.f impl_isLongList_int.f
      rw [Option.bind_some, if_neg (by simpa using hL), if_neg hE, if_pos hM]
  exact ⟨_, 0, medianOf_good l hE (by omega) k hk⟩

/-! snippet medCount -/
theorem srt_pair (l : List Int) : (Med.srt l).Pairwise (fun a b => a ≤ b) :=
  (List.pairwise_mergeSort (le := fun x y : Int => decide (x ≤ y)) (fun a b c h1 h2 => by simp only [decide_eq_true_eq] at *; omega) (fun a b => by simp only [Bool.or_eq_true, decide_eq_true_eq]; omega) l).imp (fun h => by simpa using h)
theorem srt_perm (l : List Int) : (Med.srt l).Perm l := List.mergeSort_perm l _
theorem srt_le (l : List Int) {i j : Nat} (hij : i ≤ j) (hj : j < (Med.srt l).length) : (Med.srt l)[i]'(by omega) ≤ (Med.srt l)[j] := by
  by_cases h : i = j
  · subst h; exact Int.le_refl _
  · exact List.pairwise_iff_getElem.mp (srt_pair l) i j (by omega) hj (by omega)
theorem med_is (l : List Int) (h : Nat) (hl : l.length = 2 * h + 1) : Med.med l = (Med.srt l)[h]'(by rw [Med.srt_length]; omega) := by
  rw [med_at l (h : Nat) (by omega), rd_nat _ _ (by rw [Med.srt_length]; omega)]
theorem med_mem (l : List Int) (h : Nat) (hl : l.length = 2 * h + 1) : Med.med l ∈ l := by
  rw [med_is l h hl]
  exact (srt_perm l).mem_iff.mp (List.getElem_mem _)
theorem below_le (l : List Int) (h : Nat) (hl : l.length = 2 * h + 1) : l.countP (fun x => decide (x < Med.med l)) ≤ h := by
  rw [← (srt_perm l).countP_eq]
  have hs := Med.srt_length l
  rw [← List.take_append_drop h (Med.srt l), List.countP_append]
  have e : (List.drop h (Med.srt l)).countP (fun x => decide (x < Med.med l)) = 0 := by
    rw [List.countP_eq_zero]
    intro a ha
    obtain ⟨i, hi, rfl⟩ := List.mem_iff_getElem.mp ha
    rw [List.length_drop] at hi
    rw [List.getElem_drop, med_is l h hl, decide_eq_true_eq]
    have := srt_le l (i := h) (j := h + i) (by omega) (by omega)
    omega
  rw [e]
  have := List.countP_le_length (p := fun x => decide (x < Med.med l)) (l := List.take h (Med.srt l))
  rw [List.length_take] at this
  omega
theorem above_le (l : List Int) (h : Nat) (hl : l.length = 2 * h + 1) : l.countP (fun x => decide (Med.med l < x)) ≤ h := by
  rw [← (srt_perm l).countP_eq]
  have hs := Med.srt_length l
  rw [← List.take_append_drop (h + 1) (Med.srt l), List.countP_append]
  have e : (List.take (h + 1) (Med.srt l)).countP (fun x => decide (Med.med l < x)) = 0 := by
    rw [List.countP_eq_zero]
    intro a ha
    obtain ⟨i, hi, rfl⟩ := List.mem_iff_getElem.mp ha
    rw [List.length_take] at hi
    rw [List.getElem_take, med_is l h hl, decide_eq_true_eq]
    have := srt_le l (i := i) (j := h) (by omega) (by omega)
    omega
  rw [e]
  have := List.countP_le_length (p := fun x => decide (Med.med l < x)) (l := List.drop (h + 1) (Med.srt l))
  rw [List.length_drop] at this
  omega

/-! snippet at -/
theorem at_tells (l : List Int) (hl : l.length ≤ 1048576) (hw : ∀ x ∈ l, (Lit.int .u8 x).wf = true) (i n : Int) (hi : 0 ≤ i) (hi2 : i ≤ 1000) (hn : 1 < n) : ∃ r, laws_at.f l i n = some r ∧ 0 ≤ r ∧ r < n := by
  unfold laws_at.f
  rw [if_neg (by omega)]
  by_cases h0 : (l.length : Int) = 0
  · rw [if_pos h0, if_neg (by omega)]
    refine ⟨_, rfl, ?_⟩
    rw [wrap_id (by omega) (by omega), Int.tmod_eq_emod_of_nonneg (by omega)]
    exact ⟨Int.emod_nonneg _ (by omega), Int.emod_lt_of_pos _ (by omega)⟩
  · have hp : (0 : Int) < l.length := by omega
    have m1 : Int.tmod i (l.length : Int) = i % (l.length : Int) := Int.tmod_eq_emod_of_nonneg hi
    have e1 : wrap64 (i + 1) = i + 1 := wrap_id (by omega) (by omega)
    have m2 : Int.tmod (i + 1) (l.length : Int) = (i + 1) % (l.length : Int) := Int.tmod_eq_emod_of_nonneg (by omega)
    have d1 : Int.tdiv i (l.length : Int) = i / (l.length : Int) := Int.tdiv_eq_ediv_of_nonneg hi
    rw [if_neg h0, e1, m1, m2, d1]
    have a1 := Int.emod_nonneg i (show (l.length : Int) ≠ 0 by omega)
    have a2 := Int.emod_lt_of_pos i hp
    have b1 := Int.emod_nonneg (i + 1) (show (l.length : Int) ≠ 0 by omega)
    have b2 := Int.emod_lt_of_pos (i + 1) hp
    rw [if_pos a1, if_pos a2, if_pos b1, if_pos b2, if_neg (by omega)]
    have r1 := u8_of_wf hw (i % (l.length : Int))
    have r2 := u8_of_wf hw ((i + 1) % (l.length : Int))
    have q1 : 0 ≤ i / (l.length : Int) := Int.ediv_nonneg hi (by omega)
    have q2 : i / (l.length : Int) ≤ i := Int.ediv_le_self _ hi
    refine ⟨_, rfl, ?_⟩
    generalize rd l (i % (l.length : Int)) = x at *
    generalize rd l ((i + 1) % (l.length : Int)) = y at *
    generalize i / (l.length : Int) = q at *
    rw [wrap_id (x := x) (by omega) (by omega), wrap_id (x := y) (by omega) (by omega), wrap_id (x := x * 31) (by omega) (by omega), wrap_id (x := q) (by omega) (by omega), wrap_id (x := x * 31 + y) (by omega) (by omega), wrap_id (x := x * 31 + y + q) (by omega) (by omega), Int.tmod_eq_emod_of_nonneg (by omega)]
    exact ⟨Int.emod_nonneg _ (by omega), Int.emod_lt_of_pos _ (by omega)⟩

/-! snippet hasInt -/
theorem hasInt_l0 (xs : List Int) (n : Int) (hx : xs.length ≤ 140737488351232) (d : Nat) : ∀ (k : Nat) (i : Nat), xs.length - i = d → i ≤ xs.length → d < k → laws_hasInt.l0 k xs n i = some (decide (n ∈ xs.drop i)) := by
  induction d with
  | zero =>
    intro k i hd hi hk
    obtain ⟨k, rfl⟩ := nat_pos_succ hk
    simp only [laws_hasInt.l0]
    rw [if_neg (by omega), List.drop_eq_nil_of_le (by omega)]
    simp
  | succ d ih =>
    intro k i hd hi hk
    obtain ⟨k, rfl⟩ := nat_pos_succ hk
    simp only [laws_hasInt.l0]
    have hlt : i < xs.length := by omega
    rw [if_pos (by omega), if_pos (by omega), wrap_id (by omega) (by omega), show ((i : Int) + 1) = ((i + 1 : Nat) : Int) by omega, ih k (i + 1) (by omega) (by omega) (by omega)]
    have e : rd xs i = xs[i] := by unfold rd; simp [List.getD_eq_getElem?_getD, hlt]
    rw [e, List.drop_eq_getElem_cons hlt]
    by_cases h : xs[i] = n
    · rw [if_pos h, decide_eq_true (List.mem_cons.mpr (.inl h.symm))]
    · rw [if_neg h]
      congr 1
      rw [decide_eq_decide, List.mem_cons]
      exact ⟨.inr, fun hm => hm.elim (fun e => absurd e.symm h) id⟩
theorem hasInt_tells (xs : List Int) (n : Int) (hx : xs.length ≤ 140737488351232) (k : Nat) (hk : xs.length < k) : laws_hasInt.f k xs n = some (decide (n ∈ xs)) := by
  unfold laws_hasInt.f
  have := hasInt_l0 xs n hx xs.length k 0 (by omega) (by omega) hk
  simpa using this

/-! snippet FnMedian -/
theorem median_l1 (l : List Int) (hn : l.length ≤ 101) (m : Int) (hm : m ∈ l) (d : Nat) : ∀ (k i a b : Nat), l.length - i = d → i ≤ l.length → 2 * (a + (l.drop i).countP (fun x => decide (x < m))) < l.length → 2 * (b + (l.drop i).countP (fun x => decide (m < x))) < l.length → d + 200 < k →
    laws_FnMedian.l1 k l m 0 m a b i = some true := by
  induction d with
  | zero =>
    intro k i a b hd hi ha hb hk
    obtain ⟨k, rfl⟩ : ∃ j, k = j + 1 := ⟨k - 1, by omega⟩
    rw [laws_FnMedian.l1, if_neg (by omega), if_pos rfl, if_pos rfl, hasInt_tells l m (by omega) k (by omega), Option.bind_some, if_pos (by simpa using hm), wrap_id (by omega) (by omega), if_pos (by omega), wrap_id (by omega) (by omega)]
    congr 1
    rw [decide_eq_true_eq]
    omega
  | succ d ih =>
    intro k i a b hd hi ha hb hk
    obtain ⟨k, rfl⟩ : ∃ j, k = j + 1 := ⟨k - 1, by omega⟩
    have hlt : i < l.length := by omega
    rw [List.drop_eq_getElem_cons hlt, List.countP_cons] at ha hb
    have step := fun (a' b' : Nat) (h1 : 2 * (a' + (l.drop (i + 1)).countP (fun x => decide (x < m))) < l.length) (h2 : 2 * (b' + (l.drop (i + 1)).countP (fun x => decide (m < x))) < l.length) => ih k (i + 1) a' b' (by omega) (by omega) h1 h2 (by omega)
    generalize List.countP (fun x => decide (x < m)) (List.drop (i + 1) l) = c1 at ha step
    generalize List.countP (fun x => decide (m < x)) (List.drop (i + 1) l) = c2 at hb step
    rw [laws_FnMedian.l1, if_pos (by omega), if_pos (by omega), rd_nat l i hlt]
    have ea : wrap64 ((a : Int) + 1) = ((a + 1 : Nat) : Int) := by rw [wrap_id (by omega) (by omega)]; omega
    have eb : wrap64 ((b : Int) + 1) = ((b + 1 : Nat) : Int) := by rw [wrap_id (by omega) (by omega)]; omega
    have ei : wrap64 ((i : Int) + 1) = ((i + 1 : Nat) : Int) := by rw [wrap_id (by omega) (by omega)]; omega
    rw [ea, eb, ei]
    by_cases h1 : l[i] < m
    · have h2 : ¬ m < l[i] := by omega
      rw [decide_eq_true h1, if_pos rfl] at ha
      rw [decide_eq_false h2, if_neg (by decide)] at hb
      rw [if_pos h1, if_neg (by omega)]
      exact step (a + 1) b (by rw [Nat.add_right_comm]; exact ha) hb
    · rw [decide_eq_false h1, if_neg (by decide)] at ha
      rw [if_neg h1]
      by_cases h2 : m < l[i]
      · rw [decide_eq_true h2, if_pos rfl] at hb
        rw [if_pos h2]
        exact step a (b + 1) ha (by rw [Nat.add_right_comm]; exact hb)
      · rw [decide_eq_false h2, if_neg (by decide)] at hb
        rw [if_neg (by omega)]
        exact step a b ha hb
theorem median_l0 (x0 : List Int) (hx : x0.length ≤ 1048576) (hw : ∀ x ∈ x0, (Lit.int .u8 x).wf = true) (t : Int) (ht : laws_at.f x0 0 20 = some t) (t0 : 0 ≤ t) (t1 : t < 20) (d : Nat) :
    ∀ (k i : Nat) (l : List Int), (2 * t + 1).toNat - i = d → (i : Int) ≤ 2 * t + 1 → l.length = i → d + 30000 < k → laws_FnMedian.l0 k x0 l i = some true := by
  induction d with
  | zero =>
    intro k i l hd hi hl hk
    obtain ⟨k, rfl⟩ : ∃ j, k = j + 1 := ⟨k - 1, by omega⟩
    have hlen : l.length = 2 * t.toNat + 1 := by omega
    obtain ⟨g1, g2⟩ := medianOf_good l (by omega) (by omega) k (by omega)
    rw [laws_FnMedian.l0, ht, Option.bind_some, wrap_id (x := 2 * t) (by omega) (by omega), wrap_id (by omega) (by omega), if_neg (by omega), g2, Option.bind_some, g1, Option.bind_some]
    have b1 := below_le l t.toNat hlen
    have b2 := above_le l t.toNat hlen
    exact median_l1 l (by omega) (Med.med l) (med_mem l t.toNat hlen) l.length k 0 0 0 (by omega) (by omega) (by rw [List.drop_zero]; omega) (by rw [List.drop_zero]; omega) (by omega)
  | succ d ih =>
    intro k i l hd hi hl hk
    obtain ⟨k, rfl⟩ : ∃ j, k = j + 1 := ⟨k - 1, by omega⟩
    have ei : wrap64 ((i : Int) + 1) = ((i + 1 : Nat) : Int) := by rw [wrap_id (by omega) (by omega)]; omega
    obtain ⟨v, hv, v0, v1⟩ := at_tells x0 hx hw ((i + 1 : Nat) : Int) 100 (by omega) (by omega) (by omega)
    rw [laws_FnMedian.l0, ht, Option.bind_some, wrap_id (x := 2 * t) (by omega) (by omega), wrap_id (by omega) (by omega), if_pos (by omega), ei, hv, Option.bind_some, if_pos (by omega)]
    exact ih k (i + 1) _ (by omega) (by omega) (by rw [List.length_append, List.length_singleton]; omega) (by omega)
theorem FnMedian (x0 : List Int) (gx0 : (x0.length ≤ 9223372036854775807 ∧ ∀ y ∈ x0, (Lit.int .u8 y).wf = true)) : ∃ k, laws_FnMedian.f k x0 = some true := by
  by_cases hL : (x0.length : Int) > 1048576
  · exact ⟨0, by unfold laws_FnMedian.f; rw [if_pos hL]⟩
  obtain ⟨t, ht, t0, t1⟩ := at_tells x0 (by omega) gx0.2 0 20 (by omega) (by omega) (by omega)
  obtain ⟨K, hK⟩ : ∃ K : Nat, 31000 ≤ K := ⟨31000, Nat.le_refl _⟩
  refine ⟨K, ?_⟩
  unfold laws_FnMedian.f
  rw [if_neg hL]
  exact median_l0 x0 (by omega) gx0.2 t ht t0 t1 (2 * t + 1).toNat K 0 [] (by omega) (by omega) rfl (by omega)

end Go.Proofs.Ytmkaknegjahjaaa.Pure
