/- The statement FnExactBatchBytes: what the given program's printed functions answer, as the law asks; no condition. -/
import Derived.Test.YtgekkfgljjbikaaPFnExactBatchBytesx12
set_option linter.unusedVariables false
set_option linter.unusedSimpArgs false
namespace Go.Proofs.Ytgekkfgljjbikaa.Pure
open Go.RowKit Go.Proofs.Ytgekkfgljjbikaa.PFnExactBatchBytes Go.Proofs.YtgekkfgljjbikaaV.PrintWords Go.Proofs.YtgekkfgljjbikaaV.PrintLast Go.Proofs.YtgekkfgljjbikaaV.PrintMore
/-! snippet base -/
theorem wrap_id {x : Int} (h1 : -9223372036854775808 ≤ x) (h2 : x ≤ 9223372036854775807) : wrap64 x = x := by
  unfold wrap64
  omega
theorem nat_pos_succ {k d : Nat} (h : d < k) : ∃ m, k = m + 1 := ⟨k - 1, by omega⟩
theorem u8_of_wf {l : List Int} (h : ∀ x ∈ l, (Lit.int .u8 x).wf = true) (i : Int) : 0 ≤ rd l i ∧ rd l i ≤ 255 := by
  unfold rd
  rw [List.getD_eq_getElem?_getD]
  by_cases hi : i.toNat < l.length
  · rw [List.getElem?_eq_getElem hi, Option.getD_some]
    have := h _ (List.getElem_mem hi)
    simp only [Lit.wf, Bool.and_eq_true, decide_eq_true_eq] at this
    have e1 : IntKind.u8.min = 0 := rfl
    have e2 : IntKind.u8.max = 255 := rfl
    omega
  · rw [List.getElem?_eq_none (by omega)]
    simp
theorem i64_of_wf {x : Int} (h : (Lit.int .i64 x).wf = true) : -9223372036854775808 ≤ x ∧ x ≤ 9223372036854775807 := by
  simp only [Lit.wf, Bool.and_eq_true, decide_eq_true_eq] at h
  have e1 : IntKind.i64.min = -9223372036854775808 := rfl
  have e2 : IntKind.i64.max = 9223372036854775807 := rfl
  omega
theorem toList_len (s : ByteArray) : s.toList.length = s.size := by
  rw [ByteArray.toList_eq]
  exact data_length s
theorem toList_inj {a b : ByteArray} (h : a.toList = b.toList) : a = b := by
  rw [ByteArray.toList_eq, ByteArray.toList_eq] at h
  exact Go.WideShapes.bytes_inj h

/-! snippet nums -/
namespace Sha
theorem bytesOf_nums (l : List Int) (h : ∀ x ∈ l, 0 ≤ x ∧ x < 256) : bytesOf (strOfNums l) = l := by
  unfold bytesOf strOfNums
  simp only [List.map_map]
  conv => rhs; rw [← List.map_id l]
  apply List.map_congr_left
  intro x hx
  obtain ⟨h0, h1⟩ := h x hx
  simp only [Function.comp_apply, id_eq, UInt8.toNat_ofNat']
  omega
theorem nums_bytesOf (t : ByteArray) : strOfNums (bytesOf t) = t := by
  obtain ⟨⟨l⟩⟩ := t
  unfold bytesOf strOfNums
  simp only [List.map_map]
  have h : List.map ((fun n : Int => UInt8.ofNat n.toNat) ∘ fun b : UInt8 => (b.toNat : Int)) l = l := by
    conv => rhs; rw [← List.map_id l]
    apply List.map_congr_left
    intro x _
    simp
  rw [h]
theorem bytesOf_le (t : ByteArray) : ∀ x ∈ bytesOf t, 0 ≤ x ∧ x < 256 := by
  intro x hx
  unfold bytesOf at hx
  obtain ⟨b, _, rfl⟩ := List.mem_map.1 hx
  have := b.toNat_lt
  omega
theorem ba_ext {a b : ByteArray} (h : a.data.toList = b.data.toList) : a = b := by
  obtain ⟨⟨a⟩⟩ := a
  obtain ⟨⟨b⟩⟩ := b
  simp only at h
  rw [h]
theorem ba_app (a b : ByteArray) : (a ++ b).data.toList = a.data.toList ++ b.data.toList := by simp
theorem nums_app (a b : List Int) : strOfNums (a ++ b) = strOfNums a ++ strOfNums b := by
  apply ba_ext
  rw [ba_app]
  simp [strOfNums]
theorem bytes_app (a b : ByteArray) : bytesOf (a ++ b) = bytesOf a ++ bytesOf b := by
  unfold bytesOf
  rw [ba_app, List.map_append]
def num (x : Int) : Nat → List Int → List Int
  | 0, l => l
  | k + 1, l => num (x / 256) k (l.set k (x % 256))
theorem num4 (n : Int) : num n 4 (List.replicate 4 0) = [n / 16777216 % 256, n / 65536 % 256, n / 256 % 256, n % 256] := by
  show [n / 256 / 256 / 256 % 256, n / 256 / 256 % 256, n / 256 % 256, n % 256] = _
  rw [show n / 256 / 256 = n / 65536 by omega, show n / 65536 / 256 = n / 16777216 by omega]
end Sha

/-! snippet number -/
theorem number_l0 (d : Nat) : ∀ (k : Nat) (x : Int) (l : List Int), d ≤ l.length → l.length ≤ 65536 → d < k → impl_number.l0 k x l ((d : Int) - 1) = some (strOfNums (Sha.num x d l)) := by
  induction d with
  | zero =>
    intro k x l _ _ hk
    obtain ⟨k, rfl⟩ := nat_pos_succ hk
    rw [impl_number.l0, if_neg (by omega)]
    rfl
  | succ d ih =>
    intro k x l hd hl hk
    obtain ⟨k, rfl⟩ := nat_pos_succ hk
    rw [impl_number.l0, if_pos (by omega), if_pos (by omega), if_pos (by omega)]
    have h1 : wrap64 (((d + 1 : Nat) : Int) - 1 - 1) = (d : Int) - 1 := by rw [wrap_id (by omega) (by omega)]; omega
    have h2 : (((d + 1 : Nat) : Int) - 1).toNat = d := by omega
    rw [h1, h2, ih _ _ _ (by rw [List.length_set]; omega) (by rw [List.length_set]; exact hl) (by omega)]
    rfl
theorem number_tells (n : Nat) (x : Int) (h0 : n ≤ 65536) (k : Nat) (hk : n < k) : impl_number.f k x n = some (strOfNums (Sha.num x n (List.replicate n 0))) := by
  rw [impl_number.f, if_pos (by omega), if_pos (by omega), wrap_id (by omega) (by omega), Int.toNat_natCast]
  exact number_l0 n k x _ (by simp) (by simp; omega) hk
theorem number1 (x : Int) (k : Nat) (hk : 1 < k) : impl_number.f k x 1 = some (strOfNums [x % 256]) := number_tells 1 x (by omega) k hk
theorem number2 (x : Int) (k : Nat) (hk : 2 < k) : impl_number.f k x 2 = some (strOfNums [x / 256 % 256, x % 256]) := number_tells 2 x (by omega) k hk
theorem number4 (x : Int) (k : Nat) (hk : 4 < k) : impl_number.f k x 4 = some (strOfNums [x / 16777216 % 256, x / 65536 % 256, x / 256 % 256, x % 256]) := by
  rw [← Sha.num4]
  exact number_tells 4 x (by omega) k hk
theorem ba_assoc (a b c : ByteArray) : a ++ b ++ c = a ++ (b ++ c) := by
  apply Sha.ba_ext
  simp
theorem nums_size1 (x : Int) : (strOfNums [x]).size = 1 := rfl

/-! snippet u64 -/
theorem u64_small (x : Int) (h0 : 0 ≤ x) (h1 : x ≤ 100) : IntKind.u64.wrap x = x := by
  simp only [IntKind.wrap, IntKind.bits, IntKind.signed]
  simp
  omega

/-! snippet l02 -/
def numS (n : Int) : Nat → List Int
  | 0 => []
  | d + 1 => (shr .i64 n (8 * (d : Int))) % 256 :: numS n d
theorem l02_l0 (n : Int) (d : Nat) : ∀ (k : Nat) (xs : List Int), d ≤ 8 → xs.length ≤ 1000 - d → d < k → spec_l02Number.l0 k n xs ((d : Int) - 1) = some (xs ++ numS n d) := by
  induction d with
  | zero =>
    intro k xs _ _ hk
    obtain ⟨k, rfl⟩ := nat_pos_succ hk
    rw [spec_l02Number.l0, if_neg (by omega), numS, List.append_nil]
  | succ d ih =>
    intro k xs hd hx hk
    obtain ⟨k, rfl⟩ := nat_pos_succ hk
    rw [spec_l02Number.l0, if_pos (by omega), show ((d + 1 : Nat) : Int) - 1 = d by omega, wrap_id (x := 8 * (d : Int)) (by omega) (by omega), u64_small (8 * (d : Int)) (by omega) (by omega), if_pos (by omega), if_pos (by omega), wrap_id (by omega) (by omega), ih k _ (by omega) (by rw [List.length_append]; simp only [List.length_cons, List.length_nil]; omega) (by omega), numS, List.append_assoc]
    rfl
def num4L (n : Int) : List Int := [n / 16777216 % 256, n / 65536 % 256, n / 256 % 256, n % 256]
theorem shr8 (n : Int) : shr .i64 n 8 = n / 256 := rfl
theorem shr16 (n : Int) : shr .i64 n 16 = n / 65536 := rfl
theorem shr24 (n : Int) : shr .i64 n 24 = n / 16777216 := rfl
theorem shr0 (n : Int) : shr .i64 n 0 = n := by unfold shr; simp
theorem numS4 (n : Int) : numS n 4 = num4L n := by
  simp only [numS, num4L]
  rw [show (8 : Int) * ((3 : Nat) : Int) = 24 from rfl, show (8 : Int) * ((2 : Nat) : Int) = 16 from rfl, show (8 : Int) * ((1 : Nat) : Int) = 8 from rfl, show (8 : Int) * ((0 : Nat) : Int) = 0 from rfl, shr24, shr16, shr8, shr0]
theorem l02_4 (n : Int) (k : Nat) (hk : 4 < k) : spec_l02Number.f k n 4 = some (num4L n) := by
  unfold spec_l02Number.f
  rw [wrap_id (by omega) (by omega), ← numS4]
  exact l02_l0 n 4 k [] (by omega) (by simp) hk
theorem num4L_le (n : Int) : ∀ x ∈ num4L n, 0 ≤ x ∧ x < 256 := by
  intro x hx
  simp only [num4L, List.mem_cons, List.not_mem_nil, or_false] at hx
  rcases hx with rfl | rfl | rfl | rfl <;> omega

/-! snippet l02b -/
def num2L (n : Int) : List Int := [n / 256 % 256, n % 256]
theorem numS2 (n : Int) : numS n 2 = num2L n := by
  simp only [numS, num2L]
  rw [show (8 : Int) * ((1 : Nat) : Int) = 8 from rfl, show (8 : Int) * ((0 : Nat) : Int) = 0 from rfl, shr8, shr0]
theorem l02_2 (n : Int) (k : Nat) (hk : 2 < k) : spec_l02Number.f k n 2 = some (num2L n) := by
  unfold spec_l02Number.f
  rw [wrap_id (by omega) (by omega), ← numS2]
  exact l02_l0 n 2 k [] (by omega) (by simp) hk
theorem num2L_le (n : Int) : ∀ x ∈ num2L n, 0 ≤ x ∧ x < 256 := by
  intro x hx
  simp only [num2L, List.mem_cons, List.not_mem_nil, or_false] at hx
  rcases hx with rfl | rfl <;> omega

/-! snippet nameP -/
def letterP (c : Int) : Bool := (decide (97 ≤ c) && decide (c ≤ 122)) || (decide (65 ≤ c) && decide (c ≤ 90)) || decide (c = 95)
def digitP (c : Int) : Bool := decide (48 ≤ c) && decide (c ≤ 57)
/-- All bytes from place i on, d of them, are letters or digits. -/
def restP (s : ByteArray) : Nat → Int → Bool
  | 0, _ => true
  | d + 1, i => (letterP (bt s i) || digitP (bt s i)) && restP s d (i + 1)
def nameP (s : ByteArray) : Bool := decide (1 ≤ s.size) && decide (s.size ≤ 40) && letterP (bt s 0) && restP s (s.size - 1) 1

/-! snippet implName -/
theorem isLetter_tells (c : Int) : impl_isLetter.f c = some (letterP c) := by
  unfold impl_isLetter.f letterP
  by_cases h1 : c ≥ 97
  · by_cases h2 : c ≤ 122
    · simp [h1, h2]
    · have h3 : ¬ c ≤ 90 := by omega
      simp [h1, h2, h3, show c ≥ 65 by omega]
      try rw [Bool.eq_iff_iff]
      try simp
  · by_cases h3 : c ≥ 65
    · by_cases h4 : c ≤ 90
      · simp [h1, h3, h4]
      · simp [h1, h3, h4]; try rw [Bool.eq_iff_iff]; simp
    · simp [h1, h3]; try rw [Bool.eq_iff_iff]; simp
theorem implName_l0 (s : ByteArray) (hs : s.size ≤ 140737488351232) (d : Nat) : ∀ (k : Nat) (i : Int), 0 ≤ i → (s.size : Int) - i = d → d < k → impl_NameOK.l0 k s s.size i = some (restP s d i) := by
  induction d with
  | zero =>
    intro k i h0 hd hk
    obtain ⟨k, rfl⟩ := nat_pos_succ hk
    simp only [impl_NameOK.l0, restP]
    rw [if_neg (by omega)]
  | succ d ih =>
    intro k i h0 hd hk
    obtain ⟨k, rfl⟩ := nat_pos_succ hk
    simp only [impl_NameOK.l0, restP]
    rw [if_pos (by omega), if_pos h0, if_pos (by omega), isLetter_tells, wrap_id (by omega) (by omega), ih k (i + 1) (by omega) (by omega) (by omega)]
    simp only [Option.bind_some]
    cases hl : letterP (bt s i)
    · unfold digitP
      by_cases h1 : bt s i < 48
      · simp [h1, show ¬ 48 ≤ bt s i by omega]
      · by_cases h2 : bt s i > 57
        · simp [h1, h2, show ¬ bt s i ≤ 57 by omega]
        · simp [h1, h2, show bt s i ≤ 57 by omega, show 48 ≤ bt s i by omega]
    · simp
theorem implName_tells (s : ByteArray) (hs : s.size ≤ 140737488351232) (k : Nat) (hk : s.size + 2 ≤ k) : impl_NameOK.f k s = some (nameP s) := by
  obtain ⟨k, rfl⟩ : ∃ m, k = m + 1 := ⟨k - 1, by omega⟩
  unfold impl_NameOK.f nameP
  simp only [impl_NameOK.j0]
  by_cases h1 : (s.size : Int) < 1
  · rw [if_pos h1]; simp; intro h; omega
  by_cases h2 : (s.size : Int) > 40
  · rw [if_neg h1, if_pos h2]; simp; intro _ h; omega
  rw [if_neg h1, if_neg h2, if_pos (by omega), isLetter_tells]
  simp only [Option.bind_some]
  rw [decide_eq_true (show 1 ≤ s.size by omega), decide_eq_true (show s.size ≤ 40 by omega), implName_l0 s hs s.size k 0 (by omega) (by omega) (by omega)]
  obtain ⟨d, hd⟩ : ∃ d, s.size = d + 1 := ⟨s.size - 1, by omega⟩
  rw [hd]
  cases hl : letterP (bt s 0) <;> simp [restP, hl]

/-! snippet within -/
theorem within_tells (n low high : Int) : impl_within.f n low high = some (decide (low ≤ n) && decide (n ≤ high)) := by
  unfold impl_within.f
  by_cases h : n ≥ low
  · rw [if_pos h, decide_eq_true h]; rfl
  · rw [if_neg h, decide_eq_false h]; rfl

/-! snippet implRequestOK -/
def requestP (client stamp kind lease : Int) (name : ByteArray) : Bool :=
  (decide (0 ≤ client) && decide (client ≤ 255)) && ((decide (1 ≤ stamp) && decide (stamp ≤ 65535)) && ((decide (1 ≤ kind) && decide (kind ≤ 4)) && ((if kind = 1 ∨ kind = 3 then decide (1 ≤ lease) && decide (lease ≤ 1000) else decide (lease = 0)) && (decide (name.size ≤ 12) && nameP name))))
theorem isOpName_tells (s : ByteArray) (hs : s.size ≤ 140737488351232) (k : Nat) (hk : s.size + 2 ≤ k) : impl_isOpName.f k s = some (decide (s.size ≤ 12) && nameP s) := by
  unfold impl_isOpName.f
  by_cases h : (s.size : Int) ≤ 12
  · rw [if_pos h, implName_tells s hs k hk, decide_eq_true (show s.size ≤ 12 by omega)]; simp
  · rw [if_neg h, decide_eq_false (show ¬ s.size ≤ 12 by omega)]; simp
theorem implRequestOK_tells (a b c d : Int) (s : ByteArray) (hs : s.size ≤ 140737488351232) (k : Nat) (hk : s.size + 4 ≤ k) : impl_RequestOK.f k a b c d s = some (requestP a b c d s) := by
  obtain ⟨k, rfl⟩ : ∃ m, k = m + 2 := ⟨k - 2, by omega⟩
  unfold impl_RequestOK.f requestP
  simp only [impl_RequestOK.j0, impl_RequestOK.j1, within_tells, isOpName_tells s hs k (by omega), Option.bind_some]
  generalize (decide (0 ≤ a) && decide (a ≤ 255)) = b1
  generalize (decide (1 ≤ b) && decide (b ≤ 65535)) = b2
  generalize (decide (s.size ≤ 12) && nameP s) = b5
  have e0 : (decide (0 ≤ d) && decide (d ≤ 0)) = decide (d = 0) := by rw [Bool.eq_iff_iff]; simp; omega
  rw [e0]
  generalize (decide (1 ≤ d) && decide (d ≤ 1000)) = b4
  generalize decide (d = 0) = b4'
  by_cases h1 : c = 1
  · subst h1
    cases b1 <;> cases b2 <;> cases b4 <;> cases b5 <;> rfl
  by_cases h3 : c = 3
  · subst h3
    cases b1 <;> cases b2 <;> cases b4 <;> cases b5 <;> rfl
  have e1 : (c == 3) = false := beq_eq_false_iff_ne.mpr h3
  have e2 : ¬ (c = 1 ∨ c = 3) := by omega
  rw [if_neg h1, if_neg e2, e1]
  generalize (decide (1 ≤ c) && decide (c ≤ 4)) = b3
  cases b1 <;> cases b2 <;> cases b3 <;> cases b4' <;> cases b5 <;> rfl

/-! snippet specName -/
theorem specLetter_tells (c : Int) : spec_l00Letter.f c = some (letterP c) := by
  unfold spec_l00Letter.f letterP
  by_cases h1 : c ≥ 97
  · by_cases h2 : c ≤ 122
    · simp [h1, h2]
    · have h3 : ¬ c ≤ 90 := by omega
      simp [h1, h2, h3, show c ≥ 65 by omega]
      try rw [Bool.eq_iff_iff]
      try simp
  · by_cases h3 : c ≥ 65
    · by_cases h4 : c ≤ 90
      · simp [h1, h3, h4]
      · simp [h1, h3, h4]; try rw [Bool.eq_iff_iff]; simp
    · simp [h1, h3]; try rw [Bool.eq_iff_iff]; simp
theorem specDigit_tells (c : Int) : spec_l00Digit.f c = some (digitP c) := by
  unfold spec_l00Digit.f digitP
  by_cases h : c ≥ 48
  · rw [if_pos h, decide_eq_true h]; rfl
  · rw [if_neg h, decide_eq_false h]; rfl
theorem specWord_l0 (s : ByteArray) (hs : s.size ≤ 140737488351232) (d : Nat) : ∀ (k : Nat) (i : Int), 0 ≤ i → (s.size : Int) - i = d → d < k → spec_l00Word.l0 k s i = some (restP s d i) := by
  induction d with
  | zero =>
    intro k i h0 hd hk
    obtain ⟨k, rfl⟩ := nat_pos_succ hk
    simp only [spec_l00Word.l0, restP]
    rw [if_neg (by omega)]
  | succ d ih =>
    intro k i h0 hd hk
    obtain ⟨k, rfl⟩ := nat_pos_succ hk
    simp only [spec_l00Word.l0, restP]
    rw [if_pos (by omega), if_pos h0, specLetter_tells, specDigit_tells, wrap_id (by omega) (by omega), ih k (i + 1) (by omega) (by omega) (by omega)]
    simp only [Option.bind_some]
    cases hl : letterP (bt s i) <;> cases hg : digitP (bt s i) <;> simp
theorem specWord_tells (s : ByteArray) (hs : s.size ≤ 140737488351232) (k : Nat) (hk : s.size + 2 ≤ k) : spec_l00Word.f k s = some (nameP s) := by
  obtain ⟨k, rfl⟩ : ∃ m, k = m + 1 := ⟨k - 1, by omega⟩
  unfold spec_l00Word.f nameP
  simp only [spec_l00Word.j0]
  by_cases h1 : (s.size : Int) < 1
  · rw [if_pos h1]; simp; intro h; omega
  by_cases h2 : (s.size : Int) > 40
  · rw [if_neg h1, if_pos h2]; simp; intro _ h; omega
  rw [if_neg h1, if_neg h2, if_pos (by omega), specLetter_tells]
  simp only [Option.bind_some]
  rw [decide_eq_true (show 1 ≤ s.size by omega), decide_eq_true (show s.size ≤ 40 by omega), specWord_l0 s hs (s.size - 1) k 1 (by omega) (by omega) (by omega)]
  cases hl : letterP (bt s 0) <;> simp
theorem specName_tells (s : ByteArray) (hs : s.size ≤ 140737488351232) (k : Nat) (hk : s.size + 2 ≤ k) : spec_NameOK.f k s = some (nameP s) := by
  unfold spec_NameOK.f
  rw [specWord_tells s hs k hk]
  rfl

/-! snippet specIn -/
theorem specIn_tells (n low high : Int) : spec_l01In.f n low high = some (decide (low ≤ n) && decide (n ≤ high)) := by
  unfold spec_l01In.f
  by_cases h : n ≥ low
  · rw [if_pos h, decide_eq_true h]; rfl
  · rw [if_neg h, decide_eq_false h]; rfl

/-! snippet specRequestOK -/
theorem specText_tells (s : ByteArray) (hs : s.size ≤ 140737488351232) (n : Int) (hn : n = 12) (k : Nat) (hk : s.size + 2 ≤ k) : spec_l02Text.f k s n = some (decide (s.size ≤ 12) && nameP s) := by
  subst hn
  unfold spec_l02Text.f
  rw [specIn_tells, specName_tells s hs k hk]
  simp only [Option.bind_some]
  by_cases h : 1 ≤ s.size
  · by_cases h2 : s.size ≤ 12
    · rw [decide_eq_true (show (1 : Int) ≤ s.size by omega), decide_eq_true (show (s.size : Int) ≤ 12 by omega), decide_eq_true h2]; simp
    · rw [decide_eq_true (show (1 : Int) ≤ s.size by omega), decide_eq_false (show ¬ (s.size : Int) ≤ 12 by omega), decide_eq_false h2]; simp
  · have : nameP s = false := by unfold nameP; rw [decide_eq_false h]; simp
    rw [decide_eq_false (show ¬ (1 : Int) ≤ s.size by omega), this]; simp
theorem specRequestOK_tells (a b c d : Int) (s : ByteArray) (hs : s.size ≤ 140737488351232) (k : Nat) (hk : s.size + 4 ≤ k) : spec_RequestOK.f k a b c d s = some (requestP a b c d s) := by
  unfold spec_RequestOK.f requestP
  simp only [specIn_tells, specText_tells s hs 12 rfl k (by omega), Option.bind_some]
  generalize (decide (0 ≤ a) && decide (a ≤ 255)) = b1
  generalize (decide (1 ≤ b) && decide (b ≤ 65535)) = b2
  generalize (decide (s.size ≤ 12) && nameP s) = b5
  by_cases hd1 : 1 ≤ d
  · have x1 : decide (1 ≤ d) = true := decide_eq_true hd1
    have x2 : decide (0 ≤ d) = true := decide_eq_true (by omega)
    have x3 : decide (d > 0) = true := decide_eq_true (by omega)
    have x4 : decide (d = 0) = false := decide_eq_false (by omega)
    rw [x1, x2, x3, x4, Bool.true_and]
    generalize decide (d ≤ 1000) = b4
    by_cases h1 : c = 1
    · subst h1
      cases b1 <;> cases b2 <;> cases b4 <;> cases b5 <;> rfl
    by_cases h3 : c = 3
    · subst h3
      cases b1 <;> cases b2 <;> cases b4 <;> cases b5 <;> rfl
    have e1 : (c == 3) = false := beq_eq_false_iff_ne.mpr h3
    have e2 : ¬ (c = 1 ∨ c = 3) := by omega
    rw [if_neg h1, if_neg e2, e1]
    generalize (decide (1 ≤ c) && decide (c ≤ 4)) = b3
    cases b1 <;> cases b2 <;> cases b3 <;> cases b4 <;> cases b5 <;> rfl
  · have x1 : decide (1 ≤ d) = false := decide_eq_false hd1
    have x3 : decide (d > 0) = false := decide_eq_false (by omega)
    have x4 : (decide (0 ≤ d) && decide (d ≤ 1000)) = decide (d = 0) := by rw [Bool.eq_iff_iff]; simp; omega
    rw [x1, x3, x4, Bool.false_and]
    generalize decide (d = 0) = b4
    by_cases h1 : c = 1
    · subst h1
      cases b1 <;> cases b2 <;> cases b4 <;> cases b5 <;> rfl
    by_cases h3 : c = 3
    · subst h3
      cases b1 <;> cases b2 <;> cases b4 <;> cases b5 <;> rfl
    have e1 : (c == 3) = false := beq_eq_false_iff_ne.mpr h3
    have e2 : ¬ (c = 1 ∨ c = 3) := by omega
    rw [if_neg h1, if_neg e2, e1]
    generalize (decide (1 ≤ c) && decide (c ≤ 4)) = b3
    cases b1 <;> cases b2 <;> cases b3 <;> cases b4 <;> cases b5 <;> rfl

/-! snippet reqBytes -/
/-- A request's bytes. -/
def reqHead (a b c d : Int) (s : ByteArray) : List Int := [a % 256] ++ num2L b ++ [c % 256] ++ num2L d ++ [(s.size : Int) % 256]
def reqOf (a b c d : Int) (s : ByteArray) : ByteArray := strOfNums (reqHead a b c d s) ++ s
theorem reqHead_le (a b c d : Int) (s : ByteArray) : ∀ y ∈ reqHead a b c d s, 0 ≤ y ∧ y < 256 := by
  intro y hy
  simp only [reqHead, num2L, List.mem_append, List.mem_cons, List.not_mem_nil, or_false] at hy
  rcases hy with (((rfl | rfl | rfl) | rfl) | rfl | rfl) | rfl <;> omega
theorem reqOf_size (a b c d : Int) (s : ByteArray) : (reqOf a b c d s).size = 7 + s.size := by
  unfold reqOf
  rw [ByteArray.size_append]
  rfl
theorem reqOf_bytes (a b c d : Int) (s : ByteArray) : bytesOf (reqOf a b c d s) = reqHead a b c d s ++ bytesOf s := by
  unfold reqOf
  rw [Sha.bytes_app, Sha.bytesOf_nums _ (reqHead_le a b c d s)]
theorem spec_l02Request_tells (a b c d : Int) (s : ByteArray) (hs : s.size ≤ 1048576) (k : Nat) (hk : 2 < k) : spec_l02Request.f k a b c d s = some (bytesOf (reqOf a b c d s)) := by
  unfold spec_l02Request.f
  have z : ∀ n, (num2L n).length = 2 := fun _ => rfl
  rw [Option.bind_some, l02_2 _ k hk, Option.bind_some, if_pos (by simp only [List.length_cons, List.length_nil, z]; omega), Option.bind_some, if_pos (by simp only [List.length_append, List.length_cons, List.length_nil, z]; omega), Option.bind_some, l02_2 _ k hk, Option.bind_some, if_pos (by simp only [List.length_append, List.length_cons, List.length_nil, z]; omega), Option.bind_some, if_pos (by simp only [List.length_append, List.length_cons, List.length_nil, z]; omega), Option.bind_some, if_pos (by simp only [List.length_append, List.length_cons, List.length_nil, z]; omega), reqOf_bytes]
  rfl
theorem impl_requestText_tells (a b c d : Int) (s : ByteArray) (hs : s.size ≤ 1048576) (k : Nat) (hk : 2 < k) : impl_requestText.f k a b c d s = some (reqOf a b c d s) := by
  unfold impl_requestText.f
  have h1 : ∀ n : Int, (strOfNums [n]).size = 1 := fun _ => rfl
  have h2 : ∀ n m : Int, (strOfNums [n, m]).size = 2 := fun _ _ => rfl
  rw [number1 a k (by omega), Option.bind_some, number2 b k (by omega), Option.bind_some, if_pos (by rw [h1, h2]; omega), number1 c k (by omega), Option.bind_some, if_pos (by simp only [ByteArray.size_append, h1, h2]; omega), number2 d k (by omega), Option.bind_some, if_pos (by simp only [ByteArray.size_append, h1, h2]; omega), number1 _ k (by omega), Option.bind_some, if_pos (by simp only [ByteArray.size_append, h1, h2]; omega), if_pos (by simp only [ByteArray.size_append, h1, h2]; omega), ← Sha.nums_app, ← Sha.nums_app, ← Sha.nums_app, ← Sha.nums_app]
  rfl

/-! snippet byteM -/
/-- The marks that the law writes: n, n + 1, .. . -/
def marksB : Nat → Int → List Int
  | 0, _ => []
  | d + 1, m => m % 256 :: marksB d (m + 1)
theorem marksB_length (d : Nat) : ∀ m : Int, (marksB d m).length = d := by
  induction d with
  | zero => intro m; rfl
  | succ d ih => intro m; rw [marksB, List.length_cons, ih]
theorem markB_l0 (d : Nat) : ∀ (k : Nat) (x : List Int) (m : Int) (i : Nat), x.length = i + d → x.length ≤ 1048576 → 1 ≤ m → m + d ≤ 2000000 → d < k → laws_markByteS.l0 k x m i = some (m + d, x.take i ++ marksB d m) := by
  induction d with
  | zero =>
    intro k x m i hd hx h0 h1 hk
    obtain ⟨k, rfl⟩ : ∃ m, k = m + 1 := ⟨k - 1, by omega⟩
    rw [laws_markByteS.l0, if_neg (by omega), marksB, List.append_nil, List.take_of_length_le (by omega), show m + ((0 : Nat) : Int) = m by omega]
  | succ d ih =>
    intro k x m i hd hx h0 h1 hk
    obtain ⟨k, rfl⟩ : ∃ m, k = m + 1 := ⟨k - 1, by omega⟩
    rw [laws_markByteS.l0, if_pos (by omega), if_pos (by omega), wrap_id (x := m + 1) (by omega) (by omega), wrap_id (x := (i : Int) + 1) (by omega) (by omega), Int.toNat_natCast, show (i : Int) + 1 = ((i + 1 : Nat) : Int) by omega, ih k _ (m + 1) (i + 1) (by rw [List.length_set]; omega) (by rw [List.length_set]; omega) (by omega) (by omega) (by omega), marksB, List.take_succ_eq_append_getElem (by rw [List.length_set]; omega), List.getElem_set_self, List.take_set_of_le (Nat.le_refl i), List.append_assoc, show m + 1 + (d : Int) = m + ((d + 1 : Nat) : Int) by omega]
    rfl
theorem markB_tells (x : List Int) (hx : x.length ≤ 1048576) (k : Nat) (hk : 1048577 ≤ k) : laws_markByteS.f k x 1 = some (1 + (x.length : Int), marksB x.length 1) := by
  unfold laws_markByteS.f
  have := markB_l0 x.length k x 1 0 (by omega) hx (by omega) (by omega) (by omega)
  simpa using this
theorem heldB_l0 (d : Nat) : ∀ (k : Nat) (x : List Int) (m : Int) (i : Nat), x.length = i + d → x.length ≤ 1048576 → x.drop i = marksB d m → 1 ≤ m → m + d ≤ 2000000 → d < k → laws_heldByteS.l0 k x m i = some (m + d) := by
  induction d with
  | zero =>
    intro k x m i hd hx e h0 h1 hk
    obtain ⟨k, rfl⟩ : ∃ m, k = m + 1 := ⟨k - 1, by omega⟩
    rw [laws_heldByteS.l0, if_neg (by omega), show m + ((0 : Nat) : Int) = m by omega]
  | succ d ih =>
    intro k x m i hd hx e h0 h1 hk
    obtain ⟨k, rfl⟩ : ∃ m, k = m + 1 := ⟨k - 1, by omega⟩
    have hi : i < x.length := by omega
    rw [List.drop_eq_getElem_cons hi, marksB] at e
    injection e with e1 e2
    have er : rd x i = x[i] := by unfold rd; simp [List.getD_eq_getElem?_getD, hi]
    rw [laws_heldByteS.l0, if_pos (by omega), if_pos (by omega), er, e1, if_pos rfl, wrap_id (x := m + 1) (by omega) (by omega), wrap_id (x := (i : Int) + 1) (by omega) (by omega), show (i : Int) + 1 = ((i + 1 : Nat) : Int) by omega, ih k x (m + 1) (i + 1) (by omega) hx e2 (by omega) (by omega) (by omega), show m + 1 + (d : Int) = m + ((d + 1 : Nat) : Int) by omega]
theorem heldB_tells (n : Nat) (hn : n ≤ 900000) (k : Nat) (hk : 1048577 ≤ k) : laws_heldByteS.f k (marksB n 1) 1 = some (1 + (n : Int)) := by
  unfold laws_heldByteS.f
  have hl := marksB_length n 1
  exact heldB_l0 n k (marksB n 1) 1 0 (by omega) (by omega) rfl (by omega) (by omega) (by omega)

/-! snippet eqB -/
theorem eqByteS_l0 (xs : List Int) (hx : xs.length ≤ 1048576) (d : Nat) : ∀ (k : Nat) (i : Nat), xs.length - i = d → i ≤ xs.length → d < k → laws_eqByteS.l0 k xs xs i = some true := by
  induction d with
  | zero =>
    intro k i hd hi hk
    obtain ⟨k, rfl⟩ := nat_pos_succ hk
    rw [laws_eqByteS.l0, if_neg (by omega)]
  | succ d ih =>
    intro k i hd hi hk
    obtain ⟨k, rfl⟩ := nat_pos_succ hk
    rw [laws_eqByteS.l0, if_pos (by omega), if_pos (by omega), if_pos (by omega), if_pos rfl, wrap_id (by omega) (by omega), show ((i : Int) + 1) = ((i + 1 : Nat) : Int) by omega]
    exact ih k (i + 1) (by omega) (by omega) (by omega)
theorem eqByteS_same (xs : List Int) (hx : xs.length ≤ 1048576) (k : Nat) (hk : xs.length < k) : laws_eqByteS.f k xs xs = some true := by
  unfold laws_eqByteS.f
  rw [if_pos rfl]
  exact eqByteS_l0 xs hx xs.length k 0 (by omega) (by omega) hk

/-! snippet markT -/
def mdig : Nat → Int → ByteArray → ByteArray
  | 0, _, t => (⟨#[109]⟩ : ByteArray) ++ t
  | d + 1, a, t => if a > 0 then mdig d (a / 10) (strOfNums [(48 + a % 10) % 256] ++ t) else (⟨#[109]⟩ : ByteArray) ++ t
def mtext (a : Int) : ByteArray := mdig 7 a (⟨#[]⟩ : ByteArray)
theorem mdig_l0 (d : Nat) : ∀ (k : Nat) (a : Int) (t : ByteArray), 0 ≤ a → a < 10 ^ d → a ≤ 10000000 → t.size + d ≤ 100 → d < k → laws_markText.l0 k a t = some (mdig d a t) := by
  induction d with
  | zero =>
    intro k a t h0 h1 hb ht hk
    obtain ⟨k, rfl⟩ : ∃ m, k = m + 1 := ⟨k - 1, by omega⟩
    have h1' : a < 1 := h1
    rw [laws_markText.l0, if_neg (by omega), if_pos (by omega), mdig]
  | succ d ih =>
    intro k a t h0 h1 hb ht hk
    obtain ⟨k, rfl⟩ : ∃ m, k = m + 1 := ⟨k - 1, by omega⟩
    rw [laws_markText.l0, mdig]
    by_cases h : a > 0
    · have hz : (strOfNums [(48 + a % 10) % 256]).size = 1 := by rw [strOfNums_size]; rfl
      rw [if_pos h, if_pos h, Option.bind_some, Int.tmod_eq_emod_of_nonneg h0, Int.tdiv_eq_ediv_of_nonneg h0, wrap_id (x := 48 + a % 10) (by omega) (by omega), wrap_id (x := a / 10) (by omega) (by omega), if_pos (by omega)]
      exact ih k (a / 10) _ (by omega) (Int.ediv_lt_of_lt_mul (by decide) (by rw [← Int.pow_succ]; exact h1)) (by omega) (by rw [ByteArray.size_append, hz]; omega) (by omega)
    · rw [if_neg h, if_neg h, if_pos (by omega)]
theorem markText_tells (a : Int) (h0 : 1 ≤ a) (h1 : a ≤ 5000000) (k : Nat) (hk : 8 ≤ k) : laws_markText.f k a = some (mtext a) := by
  unfold laws_markText.f
  rw [if_neg (by omega)]
  exact mdig_l0 7 k a _ (by omega) (Int.lt_of_le_of_lt h1 (by decide)) (by omega) (by decide) (by omega)

/-! snippet FnExactBatchBytes -/
theorem rd135_at (l : List S135) (i : Nat) (hi : i < l.length) : rd_T135 l (i : Int) = l[i] := by
  unfold rd_T135
  simp [List.getD_eq_getElem?_getD, hi]
theorem rd137_at (l : List S137) (i : Nat) (hi : i < l.length) : rd_T137 l (i : Int) = l[i] := by
  unfold rd_T137
  simp [List.getD_eq_getElem?_getD, hi]
def toR (l : List S135) : List S137 := l.map fun x => ⟨x.f0, x.f1, x.f2⟩
theorem szR_l0 (l : List S135) (hl : l.length ≤ 1048576) (hy : ∀ y ∈ l, y.f2.size ≤ 9223372036854775807) (d : Nat) : ∀ (k : Nat) (x : Int) (i : Nat), l.length = i + d → 0 ≤ x → x ≤ 1048576 → d < k → ∃ v, laws_szReadingS.l0 k l x i = some v ∧ (v < 0 ∨ (0 ≤ v ∧ v ≤ 1048576)) := by
  induction d with
  | zero =>
    intro k x i hd h0 h1 hk
    obtain ⟨k, rfl⟩ : ∃ m, k = m + 1 := ⟨k - 1, by omega⟩
    exact ⟨x, by rw [laws_szReadingS.l0, if_neg (by omega)], Or.inr ⟨h0, h1⟩⟩
  | succ d ih =>
    intro k x i hd h0 h1 hk
    obtain ⟨k, rfl⟩ : ∃ m, k = m + 1 := ⟨k - 1, by omega⟩
    have hi : i < l.length := by omega
    have hz := hy _ (List.getElem_mem hi)
    rw [laws_szReadingS.l0, if_pos (by omega), if_pos (by omega), rd135_at l i hi]
    unfold laws_szReading.f
    rw [wrap_id (x := x - _) (by omega) (by omega)]
    by_cases hn : x - (l[i].f2.size : Int) < 0
    · rw [if_pos hn, Option.bind_some, if_pos (by decide)]
      exact ⟨-1, rfl, Or.inl (by decide)⟩
    · rw [if_neg hn, Option.bind_some, if_neg hn, wrap_id (x := (i : Int) + 1) (by omega) (by omega)]
      exact ih k (x - (l[i].f2.size : Int)) (i + 1) (by omega) (by omega) (by omega) (by omega)
theorem szR_tells (l : List S135) (hl : l.length ≤ 9223372036854775807) (hy : ∀ y ∈ l, y.f2.size ≤ 9223372036854775807) (x : Int) (h0 : 0 ≤ x) (h1 : x ≤ 1048576) (k : Nat) (hk : 1048577 ≤ k) : ∃ v, laws_szReadingS.f k l x = some v ∧ (v < 0 ∨ (0 ≤ v ∧ l.length ≤ 1048576)) := by
  unfold laws_szReadingS.f
  rw [wrap_id (x := x - _) (by omega) (by omega)]
  by_cases hn : x - (l.length : Int) < 0
  · rw [if_pos hn]
    exact ⟨-1, rfl, Or.inl (by decide)⟩
  · rw [if_neg hn]
    obtain ⟨v, e, hv⟩ := szR_l0 l (by omega) hy l.length k (x - (l.length : Int)) 0 (by omega) (by omega) (by omega) (by omega)
    exact ⟨v, e, hv.imp id fun ⟨a, b⟩ => ⟨a, by omega⟩⟩
theorem toR_l0 (l : List S135) (hl : l.length ≤ 1048576) (d : Nat) : ∀ (k : Nat) (x : List S137) (i : Nat), l.length = i + d → x.length = l.length → x.take i = (toR l).take i → d < k → laws_toReadingS.l0 k l x i = some (toR l) := by
  have hr : (toR l).length = l.length := by unfold toR; rw [List.length_map]
  induction d with
  | zero =>
    intro k x i hd hx ht hk
    obtain ⟨k, rfl⟩ : ∃ m, k = m + 1 := ⟨k - 1, by omega⟩
    rw [laws_toReadingS.l0, if_neg (by omega)]
    rw [List.take_of_length_le (by omega), List.take_of_length_le (by omega)] at ht
    rw [ht]
  | succ d ih =>
    intro k x i hd hx ht hk
    obtain ⟨k, rfl⟩ : ∃ m, k = m + 1 := ⟨k - 1, by omega⟩
    have hi : i < l.length := by omega
    rw [laws_toReadingS.l0, if_pos (by omega), if_pos (by omega), rd135_at l i hi]
    unfold laws_toReading.f
    rw [Option.bind_some]
    dsimp only
    rw [if_pos (by omega), wrap_id (x := (i : Int) + 1) (by omega) (by omega)]
    refine ih k _ (i + 1) (by omega) (by rw [List.length_set, hx]) ?_ (by omega)
    rw [Int.toNat_natCast, List.take_succ_eq_append_getElem (by rw [List.length_set]; omega), List.take_succ_eq_append_getElem (by omega), List.getElem_set_self, List.take_set_of_le (Nat.le_refl i), ht]
    unfold toR
    rw [List.getElem_map]
theorem toR_tells (l : List S135) (hl : l.length ≤ 1048576) (k : Nat) (hk : 1048577 ≤ k) : laws_toReadingS.f k l = some (toR l) := by
  unfold laws_toReadingS.f
  rw [if_pos (by omega), if_pos (by omega)]
  exact toR_l0 l hl l.length k _ 0 (by omega) (by simp) (by simp) (by omega)
def readP (x : S137) : Bool := (decide (0 ≤ x.f0) && decide (x.f0 ≤ 6)) && ((decide (0 ≤ x.f1) && decide (x.f1 ≤ 1000000000)) && ((x.f2.size : Int) == 8))
theorem specReading_tells (x : S137) : spec_l02Reading.f x.f0 x.f1 x.f2 = some (readP x) := by
  unfold spec_l02Reading.f readP
  rw [specIn_tells, specIn_tells, Option.bind_some]
  cases (decide (0 ≤ x.f0) && decide (x.f0 ≤ 6))
  · rfl
  cases (decide (0 ≤ x.f1) && decide (x.f1 ≤ 1000000000))
  · rfl
  rfl
theorem implReading_tells (x : S137) : impl_isReading.f x.f0 x.f1 x.f2 = some (readP x) := by
  unfold impl_isReading.f readP
  rw [within_tells, within_tells, Option.bind_some]
  cases (decide (0 ≤ x.f0) && decide (x.f0 ≤ 6))
  · rfl
  cases (decide (0 ≤ x.f1) && decide (x.f1 ≤ 1000000000))
  · rfl
  rfl
theorem batch_l0 (b : Bool) (a1 a2 a3 a4 : Int) (s : ByteArray) (l : List S137) (hl : l.length ≤ 7) (d : Nat) : ∀ (k k' : Nat) (i : Nat), l.length = i + d → d < k → d < k' → ∃ r, spec_l02BatchOK.l0 k i b a1 a2 a3 a4 s l = some r ∧ impl_isBatch.l0 k' l (l.length : Int) i b a1 a2 a3 a4 s l = some r ∧ (r = true → ∀ y ∈ l.drop i, y.f2.size = 8) := by
  induction d with
  | zero =>
    intro k k' i hd hk hk'
    obtain ⟨k, rfl⟩ : ∃ m, k = m + 1 := ⟨k - 1, by omega⟩
    obtain ⟨k', rfl⟩ : ∃ m, k' = m + 1 := ⟨k' - 1, by omega⟩
    exact ⟨true, by rw [spec_l02BatchOK.l0, if_neg (by omega)], by rw [impl_isBatch.l0, if_neg (by omega)], fun _ => by rw [List.drop_eq_nil_of_le (by omega)]; intro y h; cases h⟩
  | succ d ih =>
    intro k k' i hd hk hk'
    obtain ⟨k, rfl⟩ : ∃ m, k = m + 1 := ⟨k - 1, by omega⟩
    obtain ⟨k', rfl⟩ : ∃ m, k' = m + 1 := ⟨k' - 1, by omega⟩
    have hi : i < l.length := by omega
    obtain ⟨r, e1, e2, e3⟩ := ih k k' (i + 1) (by omega) (by omega) (by omega)
    have P1 : (i : Int) < (l.length : Int) := by omega
    have P0 : (0 : Int) ≤ (i : Int) := by omega
    rw [spec_l02BatchOK.l0, impl_isBatch.l0, if_pos P1, if_pos P1, if_pos P0, if_pos P0, if_pos P1, rd137_at l i hi, specReading_tells, implReading_tells, Option.bind_some, Option.bind_some, wrap_id (x := (i : Int) + 1) (by omega) (by omega), show (i : Int) + 1 = ((i + 1 : Nat) : Int) by omega]
    cases hp : readP l[i]
    · exact ⟨false, rfl, rfl, fun h => by cases h⟩
    rw [if_pos rfl, if_pos rfl]
    have h8 : l[i].f2.size = 8 := by
      unfold readP at hp
      simp only [Bool.and_eq_true, beq_iff_eq] at hp
      omega
    have hall : r = true → ∀ y ∈ l.drop i, y.f2.size = 8 := by
      intro h y hy
      rw [List.drop_eq_getElem_cons hi] at hy
      rcases List.mem_cons.1 hy with rfl | hy
      · exact h8
      · exact e3 h y hy
    by_cases h0 : (i : Int) > 0
    · have P2 : (0 : Int) ≤ (i : Int) - 1 := by omega
      have P3 : (i : Int) - 1 < (l.length : Int) := by omega
      rw [if_pos h0, if_pos h0, wrap_id (x := (i : Int) - 1) (by omega) (by omega), if_pos P2, if_pos P2, if_pos P3, if_pos P3]
      by_cases hc : (rd_T137 l ((i : Int) - 1)).f0 ≥ l[i].f0
      · rw [if_pos hc, if_pos hc]
        exact ⟨false, rfl, rfl, fun h => by cases h⟩
      · rw [if_neg hc, if_neg hc]
        exact ⟨r, e1, e2, hall⟩
    · rw [if_neg h0, if_neg h0]
      exact ⟨r, e1, e2, hall⟩
theorem batchOK_both (b : Bool) (a1 a2 a3 a4 : Int) (s : ByteArray) (hs : s.size ≤ 1048576) (l : List S137) (k : Nat) (hk : 1048600 ≤ k) (k' : Nat) (hk' : 1048600 ≤ k') : ∃ r, spec_l02BatchOK.f k b a1 a2 a3 a4 s l = some r ∧ impl_isBatch.f k' b a1 a2 a3 a4 s l = some r ∧ (r = true → b = false → l.length ≤ 7 ∧ ∀ y ∈ l, y.f2.size = 8) := by
  unfold spec_l02BatchOK.f impl_isBatch.f
  cases b
  rotate_left
  · rw [if_pos rfl, if_pos rfl]
    cases hq : (a1 == 0 && (a2 == 0 && (a3 == 0 && (a4 == 0 && s.toList.isEmpty))))
    · exact ⟨false, rfl, rfl, fun _ h => by cases h⟩
    · exact ⟨_, rfl, rfl, fun _ h => by cases h⟩
  rw [if_neg (by decide), if_neg (by decide), specRequestOK_tells _ _ _ _ _ (by omega) k (by omega), implRequestOK_tells _ _ _ _ _ (by omega) k' (by omega), Option.bind_some, Option.bind_some]
  obtain ⟨k, rfl⟩ : ∃ m, k = m + 1 := ⟨k - 1, by omega⟩
  obtain ⟨k', rfl⟩ : ∃ m, k' = m + 1 := ⟨k' - 1, by omega⟩
  cases requestP a1 a2 a3 a4 s
  · rw [if_neg (by decide), if_neg (by decide), spec_l02BatchOK.j0, impl_isBatch.j0, if_pos rfl, if_pos rfl]
    exact ⟨false, rfl, rfl, fun h => by cases h⟩
  rw [if_pos rfl, if_pos rfl, spec_l02BatchOK.j0, impl_isBatch.j0]
  by_cases h7 : (l.length : Int) > 7
  · rw [if_pos (decide_eq_true h7), if_pos (decide_eq_true h7)]
    exact ⟨false, rfl, rfl, fun h => by cases h⟩
  rw [if_neg (by simpa using h7), if_neg (by simpa using h7)]
  obtain ⟨r, e1, e2, e3⟩ := batch_l0 false a1 a2 a3 a4 s l (by omega) l.length k k' 0 (by omega) (by omega) (by omega)
  exact ⟨r, e1, e2, fun h _ => ⟨by omega, e3 h⟩⟩
def readB (x : S137) : List Int := [x.f0 % 256] ++ num4L x.f1 ++ bytesOf x.f2
def allB : List S137 → List Int
  | [] => []
  | x :: l => readB x ++ allB l
theorem readB_length (x : S137) (h : x.f2.size = 8) : (readB x).length = 13 := by
  unfold readB
  rw [List.length_append, List.length_append, bytesOf_length, h]
  rfl
theorem readB_le (x : S137) : ∀ y ∈ readB x, 0 ≤ y ∧ y < 256 := by
  intro y hy
  unfold readB at hy
  rw [List.mem_append, List.mem_append, List.mem_singleton] at hy
  rcases hy with (rfl | hy) | hy
  · omega
  · exact num4L_le _ y hy
  · exact Sha.bytesOf_le _ y hy
theorem allB_le : ∀ (l : List S137), ∀ y ∈ allB l, 0 ≤ y ∧ y < 256 := by
  intro l
  induction l with
  | nil => intro y hy; cases hy
  | cons x l ih =>
    intro y hy
    rw [allB, List.mem_append] at hy
    rcases hy with hy | hy
    · exact readB_le x y hy
    · exact ih y hy
theorem allB_length : ∀ (l : List S137), (∀ y ∈ l, y.f2.size = 8) → (allB l).length = 13 * l.length := by
  intro l
  induction l with
  | nil => intro _; rfl
  | cons x l ih =>
    intro h
    rw [allB, List.length_append, readB_length x (h x (List.mem_cons_self ..)), ih (fun y hy => h y (List.mem_cons_of_mem _ hy)), List.length_cons]
    omega
theorem specBatch_l0 (b : Bool) (a1 a2 a3 a4 : Int) (s : ByteArray) (hs : s.size ≤ 1048576) (l : List S137) (hl : l.length ≤ 7) (hy : ∀ y ∈ l, y.f2.size = 8) (d : Nat) : ∀ (k : Nat) (acc : List Int) (i : Nat), l.length = i + d → acc.length ≤ 1 + 13 * i → d + 6 < k → spec_l02Batch.l0 k acc i b a1 a2 a3 a4 s l = some (acc ++ (allB (l.drop i) ++ bytesOf (reqOf a1 a2 a3 a4 s))) := by
  have hq := reqOf_size a1 a2 a3 a4 s
  induction d with
  | zero =>
    intro k acc i hd ha hk
    obtain ⟨k, rfl⟩ : ∃ m, k = m + 1 := ⟨k - 1, by omega⟩
    rw [spec_l02Batch.l0, if_neg (by omega), spec_l02Request_tells a1 a2 a3 a4 s hs k (by omega), Option.bind_some, if_pos (by rw [bytesOf_length]; omega), List.drop_eq_nil_of_le (by omega), allB, List.nil_append]
  | succ d ih =>
    intro k acc i hd ha hk
    obtain ⟨k, rfl⟩ : ∃ m, k = m + 1 := ⟨k - 1, by omega⟩
    have hi : i < l.length := by omega
    have h8 := hy _ (List.getElem_mem hi)
    have z : ∀ n, (num4L n).length = 4 := fun _ => rfl
    rw [spec_l02Batch.l0, if_pos (by omega), if_pos (by omega), if_pos (by omega), rd137_at l i hi, Option.bind_some, l02_4 _ k (by omega), Option.bind_some, if_pos (by rw [z, List.length_append]; simp only [List.length_cons, List.length_nil]; omega), Option.bind_some, if_pos (by rw [List.length_append, z, List.length_append]; simp only [List.length_cons, List.length_nil]; omega), wrap_id (x := (i : Int) + 1) (by omega) (by omega), show (i : Int) + 1 = ((i + 1 : Nat) : Int) by omega, ih k _ (i + 1) (by omega) (by rw [List.length_append, List.length_append, z, List.length_append, bytesOf_length]; simp only [List.length_cons, List.length_nil]; omega) (by omega), List.drop_eq_getElem_cons hi, allB, readB]
    simp only [List.append_assoc]
theorem implBatch_l0 (b : Bool) (a1 a2 a3 a4 : Int) (s : ByteArray) (hs : s.size ≤ 1048576) (l : List S137) (hl : l.length ≤ 7) (hy : ∀ y ∈ l, y.f2.size = 8) (d : Nat) : ∀ (k : Nat) (t : List Int) (i : Nat), l.length = i + d → t.length ≤ 1 + 13 * i → d + 6 < k → impl_batchText.l0 k (strOfNums t) l (l.length : Int) i b a1 a2 a3 a4 s l = some (strOfNums (t ++ allB (l.drop i)) ++ reqOf a1 a2 a3 a4 s) := by
  have hq := reqOf_size a1 a2 a3 a4 s
  induction d with
  | zero =>
    intro k t i hd ha hk
    obtain ⟨k, rfl⟩ : ∃ m, k = m + 1 := ⟨k - 1, by omega⟩
    rw [impl_batchText.l0, if_neg (by omega), impl_requestText_tells a1 a2 a3 a4 s hs k (by omega), Option.bind_some, if_pos (by rw [strOfNums_size]; omega), List.drop_eq_nil_of_le (by omega), allB, List.append_nil]
  | succ d ih =>
    intro k t i hd ha hk
    obtain ⟨k, rfl⟩ : ∃ m, k = m + 1 := ⟨k - 1, by omega⟩
    have hi : i < l.length := by omega
    have h8 := hy _ (List.getElem_mem hi)
    have h1 : ∀ n : Int, (strOfNums [n]).size = 1 := fun _ => rfl
    have h4 : ∀ n m p q : Int, (strOfNums [n, m, p, q]).size = 4 := fun _ _ _ _ => rfl
    have e : ∀ (x : S137), strOfNums t ++ (strOfNums [x.f0 % 256] ++ strOfNums [x.f1 / 16777216 % 256, x.f1 / 65536 % 256, x.f1 / 256 % 256, x.f1 % 256] ++ x.f2) = strOfNums (t ++ readB x) := by
      intro x
      unfold readB num4L
      rw [Sha.nums_app, Sha.nums_app, Sha.nums_app, Sha.nums_bytesOf]
    rw [impl_batchText.l0, if_pos (by omega), if_pos (by omega), if_pos (by omega), rd137_at l i hi, number1 _ k (by omega), Option.bind_some, number4 _ k (by omega), Option.bind_some, if_pos (by rw [h1, h4]; omega), if_pos (by rw [ByteArray.size_append, h1, h4]; omega), if_pos (by rw [ByteArray.size_append, ByteArray.size_append, h1, h4, strOfNums_size]; omega), e, wrap_id (x := (i : Int) + 1) (by omega) (by omega), show (i : Int) + 1 = ((i + 1 : Nat) : Int) by omega, ih k _ (i + 1) (by omega) (by rw [List.length_append, readB_length _ h8]; omega) (by omega), List.drop_eq_getElem_cons hi, allB, List.append_assoc]
theorem batchBytes_both (b : Bool) (a1 a2 a3 a4 : Int) (s : ByteArray) (hs : s.size ≤ 1048576) (l : List S137) (hl : l.length ≤ 1048576) : ∃ x e, x.length ≤ 900000 ∧ (∀ k, 1048600 ≤ k → spec_BatchBytes.f k b a1 a2 a3 a4 s l = some (x, e)) ∧ (∀ k, 1048600 ≤ k → impl_BatchBytes.f k b a1 a2 a3 a4 s l = some (x, e)) := by
  obtain ⟨r, q1, q2, q3⟩ := batchOK_both b a1 a2 a3 a4 s hs l 1048600 (Nat.le_refl _) 1048600 (Nat.le_refl _)
  have f1 : ∀ k, 1048600 ≤ k → spec_l02BatchOK.f k b a1 a2 a3 a4 s l = some r := fun k hk => by
    obtain ⟨r', p1, p2, _⟩ := batchOK_both b a1 a2 a3 a4 s hs l k hk 1048600 (Nat.le_refl _)
    rw [p1, ← p2, q2]
  have f2 : ∀ k, 1048600 ≤ k → impl_isBatch.f k b a1 a2 a3 a4 s l = some r := fun k hk => by
    obtain ⟨r', p1, p2, _⟩ := batchOK_both b a1 a2 a3 a4 s hs l 1048600 (Nat.le_refl _) k hk
    rw [p2, ← p1, q1]
  unfold spec_BatchBytes.f impl_BatchBytes.f
  cases r
  · refine ⟨[], 1, by simp, fun k hk => ?_, fun k hk => ?_⟩
    · rw [f1 k hk, Option.bind_some, if_neg (by decide)]
    · rw [f2 k hk, Option.bind_some, if_neg (by decide)]
  unfold spec_l02Batch.f impl_batchText.f
  cases b
  rotate_left
  · refine ⟨[0], 0, by simp, fun k hk => ?_, fun k hk => ?_⟩
    · rw [f1 k hk, Option.bind_some, if_pos rfl, if_pos rfl, Option.bind_some]
    · rw [f2 k hk, Option.bind_some, if_pos rfl, if_pos rfl, Option.bind_some, if_pos (by decide)]
      rfl
  obtain ⟨h7, h8⟩ := q3 rfl rfl
  have hq := reqOf_size a1 a2 a3 a4 s
  have ha := allB_length l h8
  by_cases hb : (7 + s.size + 13 * 7 + 1 ≤ 900000)
  rotate_left
  · exfalso
    have := q1
    unfold spec_l02BatchOK.f at this
    rw [if_neg (by decide), specRequestOK_tells _ _ _ _ _ (by omega) _ (by omega), Option.bind_some] at this
    have hf : requestP a1 a2 a3 a4 s = false := by
      cases hp : requestP a1 a2 a3 a4 s
      · rfl
      · unfold requestP at hp
        simp only [Bool.and_eq_true, decide_eq_true_eq] at hp
        omega
    rw [hf, if_neg (by decide), spec_l02BatchOK.j0, if_pos rfl] at this
    cases this
  have e : [((l.length : Int) + 1) % 256] ++ allB l ++ bytesOf (reqOf a1 a2 a3 a4 s) = bytesOf (strOfNums ([((l.length : Int) + 1) % 256] ++ allB l) ++ reqOf a1 a2 a3 a4 s) := by
    rw [Sha.bytes_app, Sha.bytesOf_nums]
    intro y hy
    rcases List.mem_append.1 hy with hy | hy
    · rw [List.mem_singleton] at hy; omega
    · exact allB_le l y hy
  refine ⟨bytesOf (strOfNums ([((l.length : Int) + 1) % 256] ++ allB l) ++ reqOf a1 a2 a3 a4 s), 0, ?_, fun k hk => ?_, fun k hk => ?_⟩
  · rw [bytesOf_length, ByteArray.size_append, strOfNums_size, List.length_append, ha]
    simp only [List.length_cons, List.length_nil]
    omega
  · have := specBatch_l0 false a1 a2 a3 a4 s hs l h7 h8 l.length k [((l.length : Int) + 1) % 256] 0 (by omega) (by simp) (by omega)
    rw [f1 k hk, Option.bind_some, if_pos rfl, if_neg (by decide), wrap_id (by omega) (by omega), Int.add_comm 1, show (0 : Int) = ((0 : Nat) : Int) from rfl, this, Option.bind_some, List.drop_zero, ← List.append_assoc, e]
  · have := implBatch_l0 false a1 a2 a3 a4 s hs l h7 h8 l.length k [((l.length : Int) + 1) % 256] 0 (by omega) (by simp) (by omega)
    rw [List.drop_zero] at this
    rw [f2 k hk, Option.bind_some, if_pos rfl, if_neg (by decide), wrap_id (by omega) (by omega), number1 _ k (by omega), Option.bind_some, show (0 : Int) = ((0 : Nat) : Int) from rfl, this, Option.bind_some, if_pos (by rw [ByteArray.size_append, strOfNums_size, List.length_append, ha]; simp only [List.length_cons, List.length_nil]; omega)]
theorem eqR_l0 (l : List S137) (hl : l.length ≤ 1048576) (d : Nat) : ∀ (k : Nat) (i : Nat), l.length = i + d → d < k → laws_eqReadingS.l0 k l l i = some true := by
  induction d with
  | zero =>
    intro k i hd hk
    obtain ⟨k, rfl⟩ : ∃ m, k = m + 1 := ⟨k - 1, by omega⟩
    rw [laws_eqReadingS.l0, if_neg (by omega)]
  | succ d ih =>
    intro k i hd hk
    obtain ⟨k, rfl⟩ : ∃ m, k = m + 1 := ⟨k - 1, by omega⟩
    rw [laws_eqReadingS.l0, if_pos (by omega), if_pos (by omega), if_pos (by omega)]
    unfold laws_eqReading.f
    rw [if_pos rfl, if_pos rfl, if_pos rfl, Option.bind_some, if_pos rfl, wrap_id (x := (i : Int) + 1) (by omega) (by omega)]
    exact ih k (i + 1) (by omega) (by omega)
theorem eqBatch_tells (b : Bool) (a1 a2 a3 a4 : Int) (s : ByteArray) (l : List S137) (hl : l.length ≤ 1048576) (k : Nat) (hk : 1048577 ≤ k) : laws_eqBatch.f k b a1 a2 a3 a4 s l b a1 a2 a3 a4 s l = some true := by
  unfold laws_eqBatch.f laws_eqRequest.f laws_eqReadingS.f
  rw [if_neg (by simp), if_pos rfl, if_pos rfl, if_pos rfl, if_pos rfl, if_pos rfl, Option.bind_some, if_pos rfl, if_pos rfl]
  have := eqR_l0 l hl l.length k 0 (by omega) (by omega)
  rw [show (0 : Int) = ((0 : Nat) : Int) from rfl, this, Option.bind_some, if_pos rfl]
theorem markR_l0 (d : Nat) : ∀ (k : Nat) (x : List S137) (m : Int) (i : Nat), x.length = i + d → x.length ≤ 1048576 → 1 ≤ m → m + 3 * d ≤ 4900000 → d + 8 < k → ∃ y, laws_markReadingS.l0 k x m i = some (m + 3 * d, y) := by
  induction d with
  | zero =>
    intro k x m i hd hx h0 h1 hk
    obtain ⟨k, rfl⟩ : ∃ m, k = m + 1 := ⟨k - 1, by omega⟩
    exact ⟨x, by rw [laws_markReadingS.l0, if_neg (by omega), show m + 3 * ((0 : Nat) : Int) = m by omega]⟩
  | succ d ih =>
    intro k x m i hd hx h0 h1 hk
    obtain ⟨k, rfl⟩ : ∃ m, k = m + 1 := ⟨k - 1, by omega⟩
    rw [laws_markReadingS.l0, if_pos (by omega), if_pos (by omega), Option.bind_some, Option.bind_some, wrap_id (x := m + 1) (by omega) (by omega), wrap_id (x := m + 1 + 1) (by omega) (by omega), wrap_id (x := m + 1 + 1 + 1) (by omega) (by omega), markText_tells (m + 1 + 1) (by omega) (by omega) k (by omega), Option.bind_some, wrap_id (x := (i : Int) + 1) (by omega) (by omega), show (i : Int) + 1 = ((i + 1 : Nat) : Int) by omega]
    obtain ⟨y, e⟩ := ih k ((((x.set (i : Int).toNat (⟨m, (rd_T137 x i).f1, (rd_T137 x i).f2⟩ : S137)).set (i : Int).toNat (⟨(rd_T137 (x.set (i : Int).toNat (⟨m, (rd_T137 x i).f1, (rd_T137 x i).f2⟩ : S137)) i).f0, m + 1, (rd_T137 (x.set (i : Int).toNat (⟨m, (rd_T137 x i).f1, (rd_T137 x i).f2⟩ : S137)) i).f2⟩ : S137)).set (i : Int).toNat (⟨(rd_T137 ((x.set (i : Int).toNat (⟨m, (rd_T137 x i).f1, (rd_T137 x i).f2⟩ : S137)).set (i : Int).toNat (⟨(rd_T137 (x.set (i : Int).toNat (⟨m, (rd_T137 x i).f1, (rd_T137 x i).f2⟩ : S137)) i).f0, m + 1, (rd_T137 (x.set (i : Int).toNat (⟨m, (rd_T137 x i).f1, (rd_T137 x i).f2⟩ : S137)) i).f2⟩ : S137)) i).f0, (rd_T137 ((x.set (i : Int).toNat (⟨m, (rd_T137 x i).f1, (rd_T137 x i).f2⟩ : S137)).set (i : Int).toNat (⟨(rd_T137 (x.set (i : Int).toNat (⟨m, (rd_T137 x i).f1, (rd_T137 x i).f2⟩ : S137)) i).f0, m + 1, (rd_T137 (x.set (i : Int).toNat (⟨m, (rd_T137 x i).f1, (rd_T137 x i).f2⟩ : S137)) i).f2⟩ : S137)) i).f1, mtext (m + 1 + 1)⟩ : S137))) (m + 1 + 1 + 1) (i + 1) (by rw [List.length_set, List.length_set, List.length_set]; omega) (by rw [List.length_set, List.length_set, List.length_set]; omega) (by omega) (by omega) (by omega)
    exact ⟨y, by rw [e, show m + 1 + 1 + 1 + 3 * (d : Int) = m + 3 * ((d + 1 : Nat) : Int) by omega]⟩
theorem FnExactBatchBytes (x0_0 : Bool) (x0_1 : Int) (x0_2 : Int) (x0_3 : Int) (x0_4 : Int) (x0_5 : ByteArray) (x0_6 : List (S135)) (gx0_1 : (Lit.int .i64 x0_1).wf = true) (gx0_2 : (Lit.int .i64 x0_2).wf = true) (gx0_3 : (Lit.int .i64 x0_3).wf = true) (gx0_4 : (Lit.int .i64 x0_4).wf = true) (gx0_5 : x0_5.size ≤ 9223372036854775807) (gx0_6 : (x0_6.length ≤ 9223372036854775807 ∧ ∀ y ∈ x0_6, (Lit.int .i64 y.f0).wf = true ∧ (Lit.int .i64 y.f1).wf = true ∧ y.f2.size ≤ 9223372036854775807)) : ∃ k, laws_FnExactBatchBytes.f k x0_0 x0_1 x0_2 x0_3 x0_4 x0_5 x0_6 = some true := by
  obtain ⟨k, hk⟩ : ∃ k : Nat, 1048600 ≤ k := ⟨1048600, Nat.le_refl _⟩
  refine ⟨k + 1 + 1 + 1, ?_⟩
  unfold laws_FnExactBatchBytes.f laws_szBatch.f laws_szRequest.f
  rw [wrap_id (x := 1048576 - (x0_5.size : Int)) (by omega) (by omega)]
  by_cases h0 : 1048576 - (x0_5.size : Int) < 0
  · rw [if_pos h0]; rfl
  rw [if_neg h0, Option.bind_some, if_neg h0]
  obtain ⟨v, ev, cv⟩ := szR_tells x0_6 gx0_6.1 (fun y hy => (gx0_6.2 y hy).2.2) (1048576 - (x0_5.size : Int)) (by omega) (by omega) (k + 1 + 1 + 1) (by omega)
  rw [ev, Option.bind_some]
  by_cases hv : v < 0
  · rw [if_pos hv]; rfl
  rw [if_neg hv, Option.bind_some, if_neg hv]
  obtain ⟨_, hx⟩ := cv.resolve_left hv
  have hr : (toR x0_6).length ≤ 1048576 := by unfold toR; rw [List.length_map]; exact hx
  obtain ⟨l, e, hl, e1, e2⟩ := batchBytes_both x0_0 x0_1 x0_2 x0_3 x0_4 x0_5 (by omega) (toR x0_6) hr
  have tos : ∀ k', 1048600 ≤ k' → laws_toBatch.f k' x0_0 x0_1 x0_2 x0_3 x0_4 x0_5 x0_6 = some (x0_0, x0_1, x0_2, x0_3, x0_4, x0_5, toR x0_6) := fun k' h => by
    unfold laws_toBatch.f laws_toRequest.f
    rw [Option.bind_some, toR_tells x0_6 hx k' (by omega), Option.bind_some]
  have eb := fun k' (h : 1048600 ≤ k') => eqByteS_same l (by omega) k' (by omega)
  rw [tos _ (by omega), Option.bind_some]
  dsimp only
  rw [e1 _ (by omega), Option.bind_some, Option.bind_some]
  dsimp only
  rw [e2 _ (by omega), Option.bind_some]
  dsimp only
  rw [eb _ (by omega), Option.bind_some, if_pos rfl, laws_FnExactBatchBytes.j0, if_neg (by simp), tos _ (by omega), Option.bind_some]
  dsimp only
  rw [eqBatch_tells _ _ _ _ _ _ _ hr _ (by omega), Option.bind_some, if_pos rfl]
  obtain ⟨y, em⟩ := markR_l0 (toR x0_6).length (k + 1 + 1) (toR x0_6) 1 0 (by omega) hr (by omega) (by omega) (by omega)
  have em2 : laws_markBatch.f (k + 1 + 1) x0_0 x0_1 x0_2 x0_3 x0_4 x0_5 (toR x0_6) 1 = some (1 + 3 * ((toR x0_6).length : Int), y) := by
    unfold laws_markBatch.f laws_markReadingS.f
    rw [show (0 : Int) = ((0 : Nat) : Int) from rfl, em, Option.bind_some]
  rw [em2, Option.bind_some]
  dsimp only
  rw [if_neg (by omega), eb _ (by omega), Option.bind_some, if_pos rfl, laws_FnExactBatchBytes.j1, if_neg (by simp), markB_tells l (by omega) _ (by omega), Option.bind_some]
  dsimp only
  rw [heldB_tells _ hl _ (by omega), Option.bind_some, if_neg (by omega), if_pos rfl, tos _ (by omega), Option.bind_some]
  dsimp only
  rw [e2 _ (by omega), Option.bind_some]
  dsimp only
  rw [eb _ (by omega), Option.bind_some, if_pos rfl, laws_FnExactBatchBytes.j2, if_neg (by simp), heldB_tells _ hl _ (by omega), Option.bind_some, if_neg (by omega), if_pos rfl]

end Go.Proofs.Ytgekkfgljjbikaa.Pure
