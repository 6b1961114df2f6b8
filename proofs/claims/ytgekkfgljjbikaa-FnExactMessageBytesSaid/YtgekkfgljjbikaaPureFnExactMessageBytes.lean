/- The statement FnExactMessageBytes: what the given program's printed functions answer, as the law asks; no condition. -/
import Derived.Test.YtgekkfgljjbikaaPFnExactMessageBytesx5
set_option linter.unusedVariables false
set_option linter.unusedSimpArgs false
namespace Go.Proofs.Ytgekkfgljjbikaa.Pure
open Go.RowKit Go.Proofs.Ytgekkfgljjbikaa.PFnExactMessageBytes Go.Proofs.YtgekkfgljjbikaaV.PrintWords Go.Proofs.YtgekkfgljjbikaaV.PrintLast Go.Proofs.YtgekkfgljjbikaaV.PrintMore
/-! snippet base -/
theorem wrap_id {x : Int} (h1 : -9223372036854775808 ≤ x) (h2 : x ≤ 9223372036854775807) : wrap64 x = x := by
  unfold wrap64
  omega
theorem nat_pos_succ {k d : Nat} (h : d < k) : ∃ m, k = m + 1 := ⟨k - 1, by omega⟩
theorem u8_of_wf {l : List Int} (h : ∀ x ∈ l, (Lit.int .u8 x).wf = true) (i : Int) : 0 ≤ rd l i ∧ rd l i ≤ 255 := by
  unfold rd
  rw [List.getD_eq_getElem?_getD]
  by_cases hi : i.toNat < l.length
  · rw [List.getElem?_eq_getElem hi, Option.getD_some]
    have := h _ (List.getElem_mem hi)
    simp only [Lit.wf, Bool.and_eq_true, decide_eq_true_eq] at this
    have e1 : IntKind.u8.min = 0 := rfl
    have e2 : IntKind.u8.max = 255 := rfl
    omega
  · rw [List.getElem?_eq_none (by omega)]
    simp
theorem i64_of_wf {x : Int} (h : (Lit.int .i64 x).wf = true) : -9223372036854775808 ≤ x ∧ x ≤ 9223372036854775807 := by
  simp only [Lit.wf, Bool.and_eq_true, decide_eq_true_eq] at h
  have e1 : IntKind.i64.min = -9223372036854775808 := rfl
  have e2 : IntKind.i64.max = 9223372036854775807 := rfl
  omega
theorem toList_len (s : ByteArray) : s.toList.length = s.size := by
  rw [ByteArray.toList_eq]
  exact data_length s
theorem toList_inj {a b : ByteArray} (h : a.toList = b.toList) : a = b := by
  rw [ByteArray.toList_eq, ByteArray.toList_eq] at h
  exact Go.WideShapes.bytes_inj h

/-! snippet messageP -/
def messageP (kind view seq sender : Int) (digest body mac : ByteArray) : Bool :=
  (decide (0 ≤ view) && decide (view ≤ 20)) && ((decide (0 ≤ sender) && decide (sender ≤ 6)) && (decide (mac.size = 8) && (decide (body.size ≤ 20000) &&
    (if kind = 1 then (decide (1 ≤ seq) && decide (seq ≤ 8)) && (decide (digest.size = 32) && !decide (body.size = 0))
     else if kind = 2 ∨ kind = 3 then (decide (1 ≤ seq) && decide (seq ≤ 8)) && (decide (digest.size = 32) && decide (body.size = 0))
     else if kind = 4 ∨ kind = 5 then decide (seq = 0) && decide (digest.size = 0) else false))))
theorem toList_nil_iff (s : ByteArray) : (s.toList == ([] : List UInt8)) = decide (s.size = 0) := by
  have h : s.toList.length = s.size := toList_len s
  rw [← h]
  cases s.toList <;> rfl
theorem toList_ne_nil_iff (s : ByteArray) : (s.toList != ([] : List UInt8)) = !decide (s.size = 0) := by
  unfold bne
  rw [toList_nil_iff]
theorem size_is (s : ByteArray) (n : Nat) : ((s.size : Int) = n) = (decide (s.size = n) = true) := by
  simp only [decide_eq_true_eq, eq_iff_iff]
  omega
theorem size_beq (s : ByteArray) (n : Nat) : ((s.size : Int) == n) = decide (s.size = n) := by
  rw [Bool.eq_iff_iff]
  simp only [decide_eq_true_eq, beq_iff_eq]
  omega
theorem size_above (s : ByteArray) (n : Nat) : decide ((s.size : Int) > n) = !decide (s.size ≤ n) := by
  rw [Bool.eq_iff_iff]
  simp only [decide_eq_true_eq, Bool.not_eq_true', decide_eq_false_iff_not]
  omega

/-! snippet within -/
theorem within_tells (n low high : Int) : impl_within.f n low high = some (decide (low ≤ n) && decide (n ≤ high)) := by
  unfold impl_within.f
  by_cases h : n ≥ low
  · rw [if_pos h, decide_eq_true h]; rfl
  · rw [if_neg h, decide_eq_false h]; rfl

/-! snippet implMessageOK -/
theorem implMessageOK_tells (a b c d : Int) (x y z : ByteArray) (k : Nat) (hk : 2 ≤ k) : impl_MessageOK.f k a b c d x y z = some (messageP a b c d x y z) := by
  obtain ⟨k, rfl⟩ : ∃ m, k = m + 2 := ⟨k - 2, by omega⟩
  unfold impl_MessageOK.f messageP
  simp only [impl_MessageOK.j0, impl_MessageOK.j1, within_tells, impl_isHash.f, Option.bind_some, toList_nil_iff, toList_ne_nil_iff]
  simp only [show ((z.size : Int) = 8) = (decide (z.size = 8) = true) from size_is z 8, show ((x.size : Int) == 32) = decide (x.size = 32) from size_beq x 32, show decide ((y.size : Int) > 20000) = !decide (y.size ≤ 20000) from size_above y 20000]
  generalize (decide (0 ≤ b) && decide (b ≤ 20)) = b1
  generalize (decide (0 ≤ d) && decide (d ≤ 6)) = b2
  generalize (decide (1 ≤ c) && decide (c ≤ 8)) = b3
  generalize decide (z.size = 8) = b4
  generalize decide (y.size ≤ 20000) = b5
  generalize decide (x.size = 32) = b6
  generalize decide (y.size = 0) = b7
  generalize decide (x.size = 0) = b8
  by_cases h1 : a = 1
  · subst h1
    cases b1 <;> cases b2 <;> cases b3 <;> cases b4 <;> cases b5 <;> cases b6 <;> cases b7 <;> rfl
  by_cases h2 : a = 2
  · subst h2
    cases b1 <;> cases b2 <;> cases b3 <;> cases b4 <;> cases b5 <;> cases b6 <;> cases b7 <;> rfl
  by_cases h3 : a = 3
  · subst h3
    cases b1 <;> cases b2 <;> cases b3 <;> cases b4 <;> cases b5 <;> cases b6 <;> cases b7 <;> rfl
  have e2 : ¬ (a = 2 ∨ a = 3) := by omega
  have e3 : (a == 3) = false := beq_eq_false_iff_ne.mpr h3
  rw [if_neg h1, if_neg e2]
  simp only [if_neg h1, if_neg h2, e3]
  have ec : (if c = 0 then some b8 else some false) = some (decide (c = 0) && b8) := by
    by_cases hc : c = 0
    · rw [if_pos hc, decide_eq_true hc, Bool.true_and]
    · rw [if_neg hc, decide_eq_false hc, Bool.false_and]
  rw [ec]
  generalize (decide (c = 0) && b8) = b9
  by_cases h4 : a = 4
  · subst h4
    cases b1 <;> cases b2 <;> cases b4 <;> cases b5 <;> cases b9 <;> rfl
  by_cases h5 : a = 5
  · subst h5
    cases b1 <;> cases b2 <;> cases b4 <;> cases b5 <;> cases b9 <;> rfl
  have e4 : ¬ (a = 4 ∨ a = 5) := by omega
  rw [if_neg e4]
  simp only [if_neg h4, if_neg h5]
  cases b1 <;> cases b2 <;> cases b4 <;> cases b5 <;> rfl

/-! snippet specIn -/
theorem specIn_tells (n low high : Int) : spec_l01In.f n low high = some (decide (low ≤ n) && decide (n ≤ high)) := by
  unfold spec_l01In.f
  by_cases h : n ≥ low
  · rw [if_pos h, decide_eq_true h]; rfl
  · rw [if_neg h, decide_eq_false h]; rfl

/-! snippet specMessageOK -/
theorem specMessageOK_tells (a b c d : Int) (x y z : ByteArray) (k : Nat) (hk : 2 ≤ k) : spec_MessageOK.f k a b c d x y z = some (messageP a b c d x y z) := by
  obtain ⟨k, rfl⟩ : ∃ m, k = m + 2 := ⟨k - 2, by omega⟩
  unfold spec_MessageOK.f messageP
  simp only [spec_MessageOK.j0, specIn_tells, Option.bind_some, toList_nil_iff, toList_ne_nil_iff]
  simp only [show ((z.size : Int) = 8) = (decide (z.size = 8) = true) from size_is z 8, show decide ((y.size : Int) > 20000) = !decide (y.size ≤ 20000) from size_above y 20000]
  simp only [show ((x.size : Int) = 32) = (decide (x.size = 32) = true) from size_is x 32]
  generalize (decide (0 ≤ b) && decide (b ≤ 20)) = b1
  generalize (decide (0 ≤ d) && decide (d ≤ 6)) = b2
  generalize (decide (1 ≤ c) && decide (c ≤ 8)) = b3
  generalize decide (z.size = 8) = b4
  generalize decide (y.size ≤ 20000) = b5
  generalize decide (x.size = 32) = b6
  generalize decide (y.size = 0) = b7
  generalize decide (x.size = 0) = b8
  by_cases h1 : a = 1
  · subst h1
    cases b1 <;> cases b2 <;> cases b3 <;> cases b4 <;> cases b5 <;> cases b6 <;> cases b7 <;> rfl
  by_cases h2 : a = 2
  · subst h2
    cases b1 <;> cases b2 <;> cases b3 <;> cases b4 <;> cases b5 <;> cases b6 <;> cases b7 <;> rfl
  by_cases h3 : a = 3
  · subst h3
    cases b1 <;> cases b2 <;> cases b3 <;> cases b4 <;> cases b5 <;> cases b6 <;> cases b7 <;> rfl
  have e2 : ¬ (a = 2 ∨ a = 3) := by omega
  rw [if_neg h1, if_neg e2]
  simp only [if_neg h1, if_neg h2, if_neg h3]
  have ec : (if c = 0 then some b8 else some false) = some (decide (c = 0) && b8) := by
    by_cases hc : c = 0
    · rw [if_pos hc, decide_eq_true hc, Bool.true_and]
    · rw [if_neg hc, decide_eq_false hc, Bool.false_and]
  rw [ec]
  generalize (decide (c = 0) && b8) = b9
  by_cases h45 : a = 4 ∨ a = 5
  · have ea : (decide (1 ≤ a) && decide (a ≤ 5)) = true := by simp; omega
    rw [if_pos h45, ea]
    cases b1 <;> cases b2 <;> cases b4 <;> cases b5 <;> cases b9 <;> rfl
  · have ea : (decide (1 ≤ a) && decide (a ≤ 5)) = false := by simp; omega
    rw [if_neg h45, ea]
    cases b1 <;> cases b2 <;> cases b4 <;> cases b5 <;> cases b9 <;> rfl

/-! snippet nums -/
namespace Sha
theorem bytesOf_nums (l : List Int) (h : ∀ x ∈ l, 0 ≤ x ∧ x < 256) : bytesOf (strOfNums l) = l := by
  unfold bytesOf strOfNums
  simp only [List.map_map]
  conv => rhs; rw [← List.map_id l]
  apply List.map_congr_left
  intro x hx
  obtain ⟨h0, h1⟩ := h x hx
  simp only [Function.comp_apply, id_eq, UInt8.toNat_ofNat']
  omega
theorem nums_bytesOf (t : ByteArray) : strOfNums (bytesOf t) = t := by
  obtain ⟨⟨l⟩⟩ := t
  unfold bytesOf strOfNums
  simp only [List.map_map]
  have h : List.map ((fun n : Int => UInt8.ofNat n.toNat) ∘ fun b : UInt8 => (b.toNat : Int)) l = l := by
    conv => rhs; rw [← List.map_id l]
    apply List.map_congr_left
    intro x _
    simp
  rw [h]
theorem bytesOf_le (t : ByteArray) : ∀ x ∈ bytesOf t, 0 ≤ x ∧ x < 256 := by
  intro x hx
  unfold bytesOf at hx
  obtain ⟨b, _, rfl⟩ := List.mem_map.1 hx
  have := b.toNat_lt
  omega
theorem ba_ext {a b : ByteArray} (h : a.data.toList = b.data.toList) : a = b := by
  obtain ⟨⟨a⟩⟩ := a
  obtain ⟨⟨b⟩⟩ := b
  simp only at h
  rw [h]
theorem ba_app (a b : ByteArray) : (a ++ b).data.toList = a.data.toList ++ b.data.toList := by simp
theorem nums_app (a b : List Int) : strOfNums (a ++ b) = strOfNums a ++ strOfNums b := by
  apply ba_ext
  rw [ba_app]
  simp [strOfNums]
theorem bytes_app (a b : ByteArray) : bytesOf (a ++ b) = bytesOf a ++ bytesOf b := by
  unfold bytesOf
  rw [ba_app, List.map_append]
def num (x : Int) : Nat → List Int → List Int
  | 0, l => l
  | k + 1, l => num (x / 256) k (l.set k (x % 256))
theorem num4 (n : Int) : num n 4 (List.replicate 4 0) = [n / 16777216 % 256, n / 65536 % 256, n / 256 % 256, n % 256] := by
  show [n / 256 / 256 / 256 % 256, n / 256 / 256 % 256, n / 256 % 256, n % 256] = _
  rw [show n / 256 / 256 = n / 65536 by omega, show n / 65536 / 256 = n / 16777216 by omega]
end Sha

/-! snippet number -/
theorem number_l0 (d : Nat) : ∀ (k : Nat) (x : Int) (l : List Int), d ≤ l.length → l.length ≤ 65536 → d < k → impl_number.l0 k x l ((d : Int) - 1) = some (strOfNums (Sha.num x d l)) := by
  induction d with
  | zero =>
    intro k x l _ _ hk
    obtain ⟨k, rfl⟩ := nat_pos_succ hk
    rw [impl_number.l0, if_neg (by omega)]
    rfl
  | succ d ih =>
    intro k x l hd hl hk
    obtain ⟨k, rfl⟩ := nat_pos_succ hk
    rw [impl_number.l0, if_pos (by omega), if_pos (by omega), if_pos (by omega)]
    have h1 : wrap64 (((d + 1 : Nat) : Int) - 1 - 1) = (d : Int) - 1 := by rw [wrap_id (by omega) (by omega)]; omega
    have h2 : (((d + 1 : Nat) : Int) - 1).toNat = d := by omega
    rw [h1, h2, ih _ _ _ (by rw [List.length_set]; omega) (by rw [List.length_set]; exact hl) (by omega)]
    rfl
theorem number_tells (n : Nat) (x : Int) (h0 : n ≤ 65536) (k : Nat) (hk : n < k) : impl_number.f k x n = some (strOfNums (Sha.num x n (List.replicate n 0))) := by
  rw [impl_number.f, if_pos (by omega), if_pos (by omega), wrap_id (by omega) (by omega), Int.toNat_natCast]
  exact number_l0 n k x _ (by simp) (by simp; omega) hk
theorem number1 (x : Int) (k : Nat) (hk : 1 < k) : impl_number.f k x 1 = some (strOfNums [x % 256]) := number_tells 1 x (by omega) k hk
theorem number2 (x : Int) (k : Nat) (hk : 2 < k) : impl_number.f k x 2 = some (strOfNums [x / 256 % 256, x % 256]) := number_tells 2 x (by omega) k hk
theorem number4 (x : Int) (k : Nat) (hk : 4 < k) : impl_number.f k x 4 = some (strOfNums [x / 16777216 % 256, x / 65536 % 256, x / 256 % 256, x % 256]) := by
  rw [← Sha.num4]
  exact number_tells 4 x (by omega) k hk
theorem ba_assoc (a b c : ByteArray) : a ++ b ++ c = a ++ (b ++ c) := by
  apply Sha.ba_ext
  simp
theorem nums_size1 (x : Int) : (strOfNums [x]).size = 1 := rfl

/-! snippet u64 -/
theorem u64_small (x : Int) (h0 : 0 ≤ x) (h1 : x ≤ 100) : IntKind.u64.wrap x = x := by
  simp only [IntKind.wrap, IntKind.bits, IntKind.signed]
  simp
  omega

/-! snippet l02 -/
def numS (n : Int) : Nat → List Int
  | 0 => []
  | d + 1 => (shr .i64 n (8 * (d : Int))) % 256 :: numS n d
theorem l02_l0 (n : Int) (d : Nat) : ∀ (k : Nat) (xs : List Int), d ≤ 8 → xs.length ≤ 1000 - d → d < k → spec_l02Number.l0 k n xs ((d : Int) - 1) = some (xs ++ numS n d) := by
  induction d with
  | zero =>
    intro k xs _ _ hk
    obtain ⟨k, rfl⟩ := nat_pos_succ hk
    rw [spec_l02Number.l0, if_neg (by omega), numS, List.append_nil]
  | succ d ih =>
    intro k xs hd hx hk
    obtain ⟨k, rfl⟩ := nat_pos_succ hk
    rw [spec_l02Number.l0, if_pos (by omega), show ((d + 1 : Nat) : Int) - 1 = d by omega, wrap_id (x := 8 * (d : Int)) (by omega) (by omega), u64_small (8 * (d : Int)) (by omega) (by omega), if_pos (by omega), if_pos (by omega), wrap_id (by omega) (by omega), ih k _ (by omega) (by rw [List.length_append]; simp only [List.length_cons, List.length_nil]; omega) (by omega), numS, List.append_assoc]
    rfl
def num4L (n : Int) : List Int := [n / 16777216 % 256, n / 65536 % 256, n / 256 % 256, n % 256]
theorem shr8 (n : Int) : shr .i64 n 8 = n / 256 := rfl
theorem shr16 (n : Int) : shr .i64 n 16 = n / 65536 := rfl
theorem shr24 (n : Int) : shr .i64 n 24 = n / 16777216 := rfl
theorem shr0 (n : Int) : shr .i64 n 0 = n := by unfold shr; simp
theorem numS4 (n : Int) : numS n 4 = num4L n := by
  simp only [numS, num4L]
  rw [show (8 : Int) * ((3 : Nat) : Int) = 24 from rfl, show (8 : Int) * ((2 : Nat) : Int) = 16 from rfl, show (8 : Int) * ((1 : Nat) : Int) = 8 from rfl, show (8 : Int) * ((0 : Nat) : Int) = 0 from rfl, shr24, shr16, shr8, shr0]
theorem l02_4 (n : Int) (k : Nat) (hk : 4 < k) : spec_l02Number.f k n 4 = some (num4L n) := by
  unfold spec_l02Number.f
  rw [wrap_id (by omega) (by omega), ← numS4]
  exact l02_l0 n 4 k [] (by omega) (by simp) hk
theorem num4L_le (n : Int) : ∀ x ∈ num4L n, 0 ≤ x ∧ x < 256 := by
  intro x hx
  simp only [num4L, List.mem_cons, List.not_mem_nil, or_false] at hx
  rcases hx with rfl | rfl | rfl | rfl <;> omega

/-! snippet l02b -/
def num2L (n : Int) : List Int := [n / 256 % 256, n % 256]
theorem numS2 (n : Int) : numS n 2 = num2L n := by
  simp only [numS, num2L]
  rw [show (8 : Int) * ((1 : Nat) : Int) = 8 from rfl, show (8 : Int) * ((0 : Nat) : Int) = 0 from rfl, shr8, shr0]
theorem l02_2 (n : Int) (k : Nat) (hk : 2 < k) : spec_l02Number.f k n 2 = some (num2L n) := by
  unfold spec_l02Number.f
  rw [wrap_id (by omega) (by omega), ← numS2]
  exact l02_l0 n 2 k [] (by omega) (by simp) hk
theorem num2L_le (n : Int) : ∀ x ∈ num2L n, 0 ≤ x ∧ x < 256 := by
  intro x hx
  simp only [num2L, List.mem_cons, List.not_mem_nil, or_false] at hx
  rcases hx with rfl | rfl <;> omega

/-! snippet plain -/
def headL (a b c d : Int) (x : ByteArray) : List Int := [a % 256, b % 256, c % 256, d % 256, (x.size : Int) % 256]
theorem headL_le (a b c d : Int) (x : ByteArray) : ∀ y ∈ headL a b c d x, 0 ≤ y ∧ y < 256 := by
  intro y hy
  simp only [headL, List.mem_cons, List.not_mem_nil, or_false] at hy
  rcases hy with rfl | rfl | rfl | rfl | rfl <;> omega
/-- A message's bytes without its mac. -/
def plainOf (a b c d : Int) (x y : ByteArray) : ByteArray := strOfNums (headL a b c d x) ++ x ++ strOfNums (num2L y.size) ++ y
theorem plainOf_size (a b c d : Int) (x y : ByteArray) : (plainOf a b c d x y).size = 7 + x.size + y.size := by
  unfold plainOf
  rw [ByteArray.size_append, ByteArray.size_append, ByteArray.size_append]
  have h1 : (strOfNums (headL a b c d x)).size = 5 := rfl
  have h2 : (strOfNums (num2L y.size)).size = 2 := rfl
  omega
theorem spec_l02Plain_tells (a b c d : Int) (x y z : ByteArray) (hx : x.size ≤ 1048576) (hy : y.size ≤ 1048576) (k : Nat) (hk : 2 < k) : spec_l02Plain.f k a b c d x y z = some (bytesOf (plainOf a b c d x y)) := by
  unfold spec_l02Plain.f
  rw [Option.bind_some, if_pos (by simp only [List.length_cons, List.length_nil]; omega), Option.bind_some, l02_2 _ k hk, Option.bind_some, if_pos (by simp only [List.length_append, List.length_cons, List.length_nil, bytesOf_length, num2L]; omega), Option.bind_some, if_pos (by simp only [List.length_append, List.length_cons, List.length_nil, bytesOf_length, num2L]; omega)]
  unfold plainOf
  rw [Sha.bytes_app, Sha.bytes_app, Sha.bytes_app, Sha.bytesOf_nums _ (headL_le a b c d x), Sha.bytesOf_nums _ (num2L_le _)]
  rfl
theorem impl_bareText_tells (a b c d : Int) (x y z : ByteArray) (hx : x.size ≤ 1048576) (hy : y.size ≤ 1048576) (k : Nat) (hk : 2 < k) : impl_bareText.f k a b c d x y z = some (plainOf a b c d x y) := by
  unfold impl_bareText.f
  rw [number1 a k (by omega), Option.bind_some, number1 b k (by omega), Option.bind_some, if_pos (by rw [nums_size1, nums_size1]; omega), number1 c k (by omega), Option.bind_some, ← Sha.nums_app, if_pos (by rw [strOfNums_size, nums_size1]; simp), number1 d k (by omega), Option.bind_some, ← Sha.nums_app, if_pos (by rw [strOfNums_size, nums_size1]; simp), number1 _ k (by omega), Option.bind_some, ← Sha.nums_app, if_pos (by rw [strOfNums_size, nums_size1]; simp), ← Sha.nums_app, if_pos (by rw [strOfNums_size]; simp; omega), number2 _ k (by omega), Option.bind_some]
  have h1 : (strOfNums ([a % 256] ++ [b % 256] ++ [c % 256] ++ [d % 256] ++ [(x.size : Int) % 256]) ++ x).size = 5 + x.size := by
    rw [ByteArray.size_append]
    rfl
  have h2 : (strOfNums [(y.size : Int) / 256 % 256, (y.size : Int) % 256]).size = 2 := rfl
  rw [if_pos (by rw [h1, h2]; omega), if_pos (by rw [ByteArray.size_append, h1, h2]; omega)]
  rfl

/-! snippet sizeP -/
theorem szMessage_tells (a b c d : Int) (x y z : ByteArray) (hx : x.size ≤ 9223372036854775807) (hy : y.size ≤ 9223372036854775807) (hz : z.size ≤ 9223372036854775807) : ∃ r, laws_szMessage.f a b c d x y z 1048576 = some r ∧ (r < 0 ∨ x.size + y.size + z.size ≤ 1048576) := by
  unfold laws_szMessage.f
  rw [wrap_id (x := 1048576 - (x.size : Int)) (by omega) (by omega)]
  by_cases h1 : (1048576 : Int) - (x.size : Int) < 0
  · rw [if_pos h1]; exact ⟨_, rfl, .inl (by decide)⟩
  rw [if_neg h1, wrap_id (x := 1048576 - (x.size : Int) - (y.size : Int)) (by omega) (by omega)]
  by_cases h2 : (1048576 : Int) - (x.size : Int) - (y.size : Int) < 0
  · rw [if_pos h2]; exact ⟨_, rfl, .inl (by decide)⟩
  rw [if_neg h2, wrap_id (x := 1048576 - (x.size : Int) - (y.size : Int) - (z.size : Int)) (by omega) (by omega)]
  by_cases h3 : (1048576 : Int) - (x.size : Int) - (y.size : Int) - (z.size : Int) < 0
  · rw [if_pos h3]; exact ⟨_, rfl, .inl (by decide)⟩
  rw [if_neg h3]
  exact ⟨_, rfl, .inr (by omega)⟩

/-! snippet messageS -/
theorem messageP_small {a b c d : Int} {x y z : ByteArray} (h : messageP a b c d x y z = true) : x.size ≤ 32 ∧ y.size ≤ 20000 ∧ z.size = 8 := by
  unfold messageP at h
  simp only [Bool.and_eq_true, decide_eq_true_eq] at h
  obtain ⟨_, _, hz, hy, h⟩ := h
  refine ⟨?_, hy, hz⟩
  split at h
  · simp only [Bool.and_eq_true, decide_eq_true_eq] at h; omega
  split at h
  · simp only [Bool.and_eq_true, decide_eq_true_eq] at h; omega
  split at h
  · simp only [Bool.and_eq_true, decide_eq_true_eq] at h; omega
  · cases h
theorem messageP_mac (a b c d : Int) (x y z z' : ByteArray) (h : z.size = z'.size) : messageP a b c d x y z = messageP a b c d x y z' := by
  unfold messageP
  rw [h]

/-! snippet byteM -/
/-- The marks that the law writes: n, n + 1, .. . -/
def marksB : Nat → Int → List Int
  | 0, _ => []
  | d + 1, m => m % 256 :: marksB d (m + 1)
theorem marksB_length (d : Nat) : ∀ m : Int, (marksB d m).length = d := by
  induction d with
  | zero => intro m; rfl
  | succ d ih => intro m; rw [marksB, List.length_cons, ih]
theorem markB_l0 (d : Nat) : ∀ (k : Nat) (x : List Int) (m : Int) (i : Nat), x.length = i + d → x.length ≤ 1048576 → 1 ≤ m → m + d ≤ 2000000 → d < k → laws_markByteS.l0 k x m i = some (m + d, x.take i ++ marksB d m) := by
  induction d with
  | zero =>
    intro k x m i hd hx h0 h1 hk
    obtain ⟨k, rfl⟩ : ∃ m, k = m + 1 := ⟨k - 1, by omega⟩
    rw [laws_markByteS.l0, if_neg (by omega), marksB, List.append_nil, List.take_of_length_le (by omega), show m + ((0 : Nat) : Int) = m by omega]
  | succ d ih =>
    intro k x m i hd hx h0 h1 hk
    obtain ⟨k, rfl⟩ : ∃ m, k = m + 1 := ⟨k - 1, by omega⟩
    rw [laws_markByteS.l0, if_pos (by omega), if_pos (by omega), wrap_id (x := m + 1) (by omega) (by omega), wrap_id (x := (i : Int) + 1) (by omega) (by omega), Int.toNat_natCast, show (i : Int) + 1 = ((i + 1 : Nat) : Int) by omega, ih k _ (m + 1) (i + 1) (by rw [List.length_set]; omega) (by rw [List.length_set]; omega) (by omega) (by omega) (by omega), marksB, List.take_succ_eq_append_getElem (by rw [List.length_set]; omega), List.getElem_set_self, List.take_set_of_le (Nat.le_refl i), List.append_assoc, show m + 1 + (d : Int) = m + ((d + 1 : Nat) : Int) by omega]
    rfl
theorem markB_tells (x : List Int) (hx : x.length ≤ 1048576) (k : Nat) (hk : 1048577 ≤ k) : laws_markByteS.f k x 1 = some (1 + (x.length : Int), marksB x.length 1) := by
  unfold laws_markByteS.f
  have := markB_l0 x.length k x 1 0 (by omega) hx (by omega) (by omega) (by omega)
  simpa using this
theorem heldB_l0 (d : Nat) : ∀ (k : Nat) (x : List Int) (m : Int) (i : Nat), x.length = i + d → x.length ≤ 1048576 → x.drop i = marksB d m → 1 ≤ m → m + d ≤ 2000000 → d < k → laws_heldByteS.l0 k x m i = some (m + d) := by
  induction d with
  | zero =>
    intro k x m i hd hx e h0 h1 hk
    obtain ⟨k, rfl⟩ : ∃ m, k = m + 1 := ⟨k - 1, by omega⟩
    rw [laws_heldByteS.l0, if_neg (by omega), show m + ((0 : Nat) : Int) = m by omega]
  | succ d ih =>
    intro k x m i hd hx e h0 h1 hk
    obtain ⟨k, rfl⟩ : ∃ m, k = m + 1 := ⟨k - 1, by omega⟩
    have hi : i < x.length := by omega
    rw [List.drop_eq_getElem_cons hi, marksB] at e
    injection e with e1 e2
    have er : rd x i = x[i] := by unfold rd; simp [List.getD_eq_getElem?_getD, hi]
    rw [laws_heldByteS.l0, if_pos (by omega), if_pos (by omega), er, e1, if_pos rfl, wrap_id (x := m + 1) (by omega) (by omega), wrap_id (x := (i : Int) + 1) (by omega) (by omega), show (i : Int) + 1 = ((i + 1 : Nat) : Int) by omega, ih k x (m + 1) (i + 1) (by omega) hx e2 (by omega) (by omega) (by omega), show m + 1 + (d : Int) = m + ((d + 1 : Nat) : Int) by omega]
theorem heldB_tells (n : Nat) (hn : n ≤ 900000) (k : Nat) (hk : 1048577 ≤ k) : laws_heldByteS.f k (marksB n 1) 1 = some (1 + (n : Int)) := by
  unfold laws_heldByteS.f
  have hl := marksB_length n 1
  exact heldB_l0 n k (marksB n 1) 1 0 (by omega) (by omega) rfl (by omega) (by omega) (by omega)

/-! snippet eqB -/
theorem eqByteS_l0 (xs : List Int) (hx : xs.length ≤ 1048576) (d : Nat) : ∀ (k : Nat) (i : Nat), xs.length - i = d → i ≤ xs.length → d < k → laws_eqByteS.l0 k xs xs i = some true := by
  induction d with
  | zero =>
    intro k i hd hi hk
    obtain ⟨k, rfl⟩ := nat_pos_succ hk
    rw [laws_eqByteS.l0, if_neg (by omega)]
  | succ d ih =>
    intro k i hd hi hk
    obtain ⟨k, rfl⟩ := nat_pos_succ hk
    rw [laws_eqByteS.l0, if_pos (by omega), if_pos (by omega), if_pos (by omega), if_pos rfl, wrap_id (by omega) (by omega), show ((i : Int) + 1) = ((i + 1 : Nat) : Int) by omega]
    exact ih k (i + 1) (by omega) (by omega) (by omega)
theorem eqByteS_same (xs : List Int) (hx : xs.length ≤ 1048576) (k : Nat) (hk : xs.length < k) : laws_eqByteS.f k xs xs = some true := by
  unfold laws_eqByteS.f
  rw [if_pos rfl]
  exact eqByteS_l0 xs hx xs.length k 0 (by omega) (by omega) hk

/-! snippet FnExactMessageBytes -/
theorem messageBytes_both (a b c d : Int) (x y z : ByteArray) : ∃ l e, l.length ≤ 900000 ∧ (∀ k, 9 ≤ k → spec_MessageBytes.f k a b c d x y z = some (l, e)) ∧ (∀ k, 9 ≤ k → impl_MessageBytes.f k a b c d x y z = some (l, e)) := by
  unfold spec_MessageBytes.f impl_MessageBytes.f
  cases hp : messageP a b c d x y z
  · refine ⟨[], 1, by simp, fun k hk => ?_, fun k hk => ?_⟩
    · rw [specMessageOK_tells _ _ _ _ _ _ _ k (by omega), hp, Option.bind_some, if_neg (by simp)]
    · rw [implMessageOK_tells _ _ _ _ _ _ _ k (by omega), hp, Option.bind_some, if_neg (by simp)]
  have hs := messageP_small hp
  have hz := plainOf_size a b c d x y
  refine ⟨bytesOf (plainOf a b c d x y ++ z), 0, by rw [bytesOf_length, ByteArray.size_append]; omega, fun k hk => ?_, fun k hk => ?_⟩
  · unfold spec_l02Message.f
    rw [specMessageOK_tells _ _ _ _ _ _ _ k (by omega), hp, Option.bind_some, if_pos rfl, spec_l02Plain_tells a b c d x y z (by omega) (by omega) k (by omega), Option.bind_some, if_pos (by rw [bytesOf_length]; omega), Option.bind_some, Sha.bytes_app]
  · unfold impl_messageText.f
    rw [implMessageOK_tells _ _ _ _ _ _ _ k (by omega), hp, Option.bind_some, if_pos rfl, impl_bareText_tells a b c d x y z (by omega) (by omega) k (by omega), Option.bind_some, if_pos (by omega), Option.bind_some, if_pos (by rw [ByteArray.size_append]; omega)]
theorem FnExactMessageBytes (x0_0 : Int) (x0_1 : Int) (x0_2 : Int) (x0_3 : Int) (x0_4 : ByteArray) (x0_5 : ByteArray) (x0_6 : ByteArray) (gx0_0 : (Lit.int .i64 x0_0).wf = true) (gx0_1 : (Lit.int .i64 x0_1).wf = true) (gx0_2 : (Lit.int .i64 x0_2).wf = true) (gx0_3 : (Lit.int .i64 x0_3).wf = true) (gx0_4 : x0_4.size ≤ 9223372036854775807) (gx0_5 : x0_5.size ≤ 9223372036854775807) (gx0_6 : x0_6.size ≤ 9223372036854775807) : ∃ k, laws_FnExactMessageBytes.f k x0_0 x0_1 x0_2 x0_3 x0_4 x0_5 x0_6 = some true := by
  obtain ⟨k, hk⟩ : ∃ k : Nat, 1048577 ≤ k := ⟨1048577, Nat.le_refl _⟩
  refine ⟨k + 1 + 1, ?_⟩
  unfold laws_FnExactMessageBytes.f
  obtain ⟨r, hr, hb⟩ := szMessage_tells x0_0 x0_1 x0_2 x0_3 x0_4 x0_5 x0_6 gx0_4 gx0_5 gx0_6
  rw [hr, Option.bind_some]
  by_cases h0 : r < 0
  · rw [if_pos h0]
  rw [if_neg h0]
  unfold laws_toMessage.f
  obtain ⟨l, e, hl, e1, e2⟩ := messageBytes_both x0_0 x0_1 x0_2 x0_3 x0_4 x0_5 x0_6
  rw [Option.bind_some]
  dsimp only
  rw [e1 _ (by omega), Option.bind_some, Option.bind_some]
  dsimp only
  rw [e2 _ (by omega), Option.bind_some]
  dsimp only
  rw [eqByteS_same l (by omega) _ (by omega), Option.bind_some, if_pos rfl, laws_FnExactMessageBytes.j0, if_neg (by simp), markB_tells l (by omega) _ (by omega), Option.bind_some]
  dsimp only
  rw [heldB_tells _ hl _ (by omega), Option.bind_some, if_neg (by omega), if_pos rfl]
  unfold laws_toMessage.f
  rw [Option.bind_some]
  dsimp only
  rw [e2 _ (by omega), Option.bind_some]
  dsimp only
  rw [eqByteS_same l (by omega) _ (by omega), Option.bind_some, if_pos rfl, laws_FnExactMessageBytes.j1, if_neg (by simp), heldB_tells _ hl _ (by omega), Option.bind_some, if_neg (by omega), if_pos rfl]

end Go.Proofs.Ytgekkfgljjbikaa.Pure
