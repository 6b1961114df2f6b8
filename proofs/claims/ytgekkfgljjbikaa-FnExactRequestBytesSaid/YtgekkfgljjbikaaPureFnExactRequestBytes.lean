/- The statement FnExactRequestBytes: what the given program's printed functions answer, as the law asks; no condition. -/
import Derived.Test.YtgekkfgljjbikaaPFnExactRequestBytesx6
set_option linter.unusedVariables false
set_option linter.unusedSimpArgs false
namespace Go.Proofs.Ytgekkfgljjbikaa.Pure
open Go.RowKit Go.Proofs.Ytgekkfgljjbikaa.PFnExactRequestBytes Go.Proofs.YtgekkfgljjbikaaV.PrintWords Go.Proofs.YtgekkfgljjbikaaV.PrintLast Go.Proofs.YtgekkfgljjbikaaV.PrintMore
/-! snippet base -/
theorem wrap_id {x : Int} (h1 : -9223372036854775808 ≤ x) (h2 : x ≤ 9223372036854775807) : wrap64 x = x := by
  unfold wrap64
  omega
theorem nat_pos_succ {k d : Nat} (h : d < k) : ∃ m, k = m + 1 := ⟨k - 1, by omega⟩
theorem u8_of_wf {l : List Int} (h : ∀ x ∈ l, (Lit.int .u8 x).wf = true) (i : Int) : 0 ≤ rd l i ∧ rd l i ≤ 255 := by
  unfold rd
  rw [List.getD_eq_getElem?_getD]
  by_cases hi : i.toNat < l.length
  · rw [List.getElem?_eq_getElem hi, Option.getD_some]
    have := h _ (List.getElem_mem hi)
    simp only [Lit.wf, Bool.and_eq_true, decide_eq_true_eq] at this
    have e1 : IntKind.u8.min = 0 := rfl
    have e2 : IntKind.u8.max = 255 := rfl
    omega
  · rw [List.getElem?_eq_none (by omega)]
    simp
theorem i64_of_wf {x : Int} (h : (Lit.int .i64 x).wf = true) : -9223372036854775808 ≤ x ∧ x ≤ 9223372036854775807 := by
  simp only [Lit.wf, Bool.and_eq_true, decide_eq_true_eq] at h
  have e1 : IntKind.i64.min = -9223372036854775808 := rfl
  have e2 : IntKind.i64.max = 9223372036854775807 := rfl
  omega
theorem toList_len (s : ByteArray) : s.toList.length = s.size := by
  rw [ByteArray.toList_eq]
  exact data_length s
theorem toList_inj {a b : ByteArray} (h : a.toList = b.toList) : a = b := by
  rw [ByteArray.toList_eq, ByteArray.toList_eq] at h
  exact Go.WideShapes.bytes_inj h

/-! snippet nameP -/
def letterP (c : Int) : Bool := (decide (97 ≤ c) && decide (c ≤ 122)) || (decide (65 ≤ c) && decide (c ≤ 90)) || decide (c = 95)
def digitP (c : Int) : Bool := decide (48 ≤ c) && decide (c ≤ 57)
/-- All bytes from place i on, d of them, are letters or digits. -/
def restP (s : ByteArray) : Nat → Int → Bool
  | 0, _ => true
  | d + 1, i => (letterP (bt s i) || digitP (bt s i)) && restP s d (i + 1)
def nameP (s : ByteArray) : Bool := decide (1 ≤ s.size) && decide (s.size ≤ 40) && letterP (bt s 0) && restP s (s.size - 1) 1

/-! snippet implName -/
theorem isLetter_tells (c : Int) : impl_isLetter.f c = some (letterP c) := by
  unfold impl_isLetter.f letterP
  by_cases h1 : c ≥ 97
  · by_cases h2 : c ≤ 122
    · simp [h1, h2]
    · have h3 : ¬ c ≤ 90 := by omega
      simp [h1, h2, h3, show c ≥ 65 by omega]
      try rw [Bool.eq_iff_iff]
      try simp
  · by_cases h3 : c ≥ 65
    · by_cases h4 : c ≤ 90
      · simp [h1, h3, h4]
      · simp [h1, h3, h4]; try rw [Bool.eq_iff_iff]; simp
    · simp [h1, h3]; try rw [Bool.eq_iff_iff]; simp
theorem implName_l0 (s : ByteArray) (hs : s.size ≤ 140737488351232) (d : Nat) : ∀ (k : Nat) (i : Int), 0 ≤ i → (s.size : Int) - i = d → d < k → impl_NameOK.l0 k s s.size i = some (restP s d i) := by
  induction d with
  | zero =>
    intro k i h0 hd hk
    obtain ⟨k, rfl⟩ := nat_pos_succ hk
    simp only [impl_NameOK.l0, restP]
    rw [if_neg (by omega)]
  | succ d ih =>
    intro k i h0 hd hk
    obtain ⟨k, rfl⟩ := nat_pos_succ hk
    simp only [impl_NameOK.l0, restP]
    rw [if_pos (by omega), if_pos h0, if_pos (by omega), isLetter_tells, wrap_id (by omega) (by omega), ih k (i + 1) (by omega) (by omega) (by omega)]
    simp only [Option.bind_some]
    cases hl : letterP (bt s i)
    · unfold digitP
      by_cases h1 : bt s i < 48
      · simp [h1, show ¬ 48 ≤ bt s i by omega]
      · by_cases h2 : bt s i > 57
        · simp [h1, h2, show ¬ bt s i ≤ 57 by omega]
        · simp [h1, h2, show bt s i ≤ 57 by omega, show 48 ≤ bt s i by omega]
    · simp
theorem implName_tells (s : ByteArray) (hs : s.size ≤ 140737488351232) (k : Nat) (hk : s.size + 2 ≤ k) : impl_NameOK.f k s = some (nameP s) := by
  obtain ⟨k, rfl⟩ : ∃ m, k = m + 1 := ⟨k - 1, by omega⟩
  unfold impl_NameOK.f nameP
  simp only [impl_NameOK.j0]
  by_cases h1 : (s.size : Int) < 1
  · rw [if_pos h1]; simp; intro h; omega
  by_cases h2 : (s.size : Int) > 40
  · rw [if_neg h1, if_pos h2]; simp; intro _ h; omega
  rw [if_neg h1, if_neg h2, if_pos (by omega), isLetter_tells]
  simp only [Option.bind_some]
  rw [decide_eq_true (show 1 ≤ s.size by omega), decide_eq_true (show s.size ≤ 40 by omega), implName_l0 s hs s.size k 0 (by omega) (by omega) (by omega)]
  obtain ⟨d, hd⟩ : ∃ d, s.size = d + 1 := ⟨s.size - 1, by omega⟩
  rw [hd]
  cases hl : letterP (bt s 0) <;> simp [restP, hl]

/-! snippet within -/
theorem within_tells (n low high : Int) : impl_within.f n low high = some (decide (low ≤ n) && decide (n ≤ high)) := by
  unfold impl_within.f
  by_cases h : n ≥ low
  · rw [if_pos h, decide_eq_true h]; rfl
  · rw [if_neg h, decide_eq_false h]; rfl

/-! snippet implRequestOK -/
def requestP (client stamp kind lease : Int) (name : ByteArray) : Bool :=
  (decide (0 ≤ client) && decide (client ≤ 255)) && ((decide (1 ≤ stamp) && decide (stamp ≤ 65535)) && ((decide (1 ≤ kind) && decide (kind ≤ 4)) && ((if kind = 1 ∨ kind = 3 then decide (1 ≤ lease) && decide (lease ≤ 1000) else decide (lease = 0)) && (decide (name.size ≤ 12) && nameP name))))
theorem isOpName_tells (s : ByteArray) (hs : s.size ≤ 140737488351232) (k : Nat) (hk : s.size + 2 ≤ k) : impl_isOpName.f k s = some (decide (s.size ≤ 12) && nameP s) := by
  unfold impl_isOpName.f
  by_cases h : (s.size : Int) ≤ 12
  · rw [if_pos h, implName_tells s hs k hk, decide_eq_true (show s.size ≤ 12 by omega)]; simp
  · rw [if_neg h, decide_eq_false (show ¬ s.size ≤ 12 by omega)]; simp
theorem implRequestOK_tells (a b c d : Int) (s : ByteArray) (hs : s.size ≤ 140737488351232) (k : Nat) (hk : s.size + 4 ≤ k) : impl_RequestOK.f k a b c d s = some (requestP a b c d s) := by
  obtain ⟨k, rfl⟩ : ∃ m, k = m + 2 := ⟨k - 2, by omega⟩
  unfold impl_RequestOK.f requestP
  simp only [impl_RequestOK.j0, impl_RequestOK.j1, within_tells, isOpName_tells s hs k (by omega), Option.bind_some]
  generalize (decide (0 ≤ a) && decide (a ≤ 255)) = b1
  generalize (decide (1 ≤ b) && decide (b ≤ 65535)) = b2
  generalize (decide (s.size ≤ 12) && nameP s) = b5
  have e0 : (decide (0 ≤ d) && decide (d ≤ 0)) = decide (d = 0) := by rw [Bool.eq_iff_iff]; simp; omega
  rw [e0]
  generalize (decide (1 ≤ d) && decide (d ≤ 1000)) = b4
  generalize decide (d = 0) = b4'
  by_cases h1 : c = 1
  · subst h1
    cases b1 <;> cases b2 <;> cases b4 <;> cases b5 <;> rfl
  by_cases h3 : c = 3
  · subst h3
    cases b1 <;> cases b2 <;> cases b4 <;> cases b5 <;> rfl
  have e1 : (c == 3) = false := beq_eq_false_iff_ne.mpr h3
  have e2 : ¬ (c = 1 ∨ c = 3) := by omega
  rw [if_neg h1, if_neg e2, e1]
  generalize (decide (1 ≤ c) && decide (c ≤ 4)) = b3
  cases b1 <;> cases b2 <;> cases b3 <;> cases b4' <;> cases b5 <;> rfl

/-! snippet specName -/
theorem specLetter_tells (c : Int) : spec_l00Letter.f c = some (letterP c) := by
  unfold spec_l00Letter.f letterP
  by_cases h1 : c ≥ 97
  · by_cases h2 : c ≤ 122
    · simp [h1, h2]
    · have h3 : ¬ c ≤ 90 := by omega
      simp [h1, h2, h3, show c ≥ 65 by omega]
      try rw [Bool.eq_iff_iff]
      try simp
  · by_cases h3 : c ≥ 65
    · by_cases h4 : c ≤ 90
      · simp [h1, h3, h4]
      · simp [h1, h3, h4]; try rw [Bool.eq_iff_iff]; simp
    · simp [h1, h3]; try rw [Bool.eq_iff_iff]; simp
theorem specDigit_tells (c : Int) : spec_l00Digit.f c = some (digitP c) := by
  unfold spec_l00Digit.f digitP
  by_cases h : c ≥ 48
  · rw [if_pos h, decide_eq_true h]; rfl
  · rw [if_neg h, decide_eq_false h]; rfl
theorem specWord_l0 (s : ByteArray) (hs : s.size ≤ 140737488351232) (d : Nat) : ∀ (k : Nat) (i : Int), 0 ≤ i → (s.size : Int) - i = d → d < k → spec_l00Word.l0 k s i = some (restP s d i) := by
  induction d with
  | zero =>
    intro k i h0 hd hk
    obtain ⟨k, rfl⟩ := nat_pos_succ hk
    simp only [spec_l00Word.l0, restP]
    rw [if_neg (by omega)]
  | succ d ih =>
    intro k i h0 hd hk
    obtain ⟨k, rfl⟩ := nat_pos_succ hk
    simp only [spec_l00Word.l0, restP]
    rw [if_pos (by omega), if_pos h0, specLetter_tells, specDigit_tells, wrap_id (by omega) (by omega), ih k (i + 1) (by omega) (by omega) (by omega)]
    simp only [Option.bind_some]
    cases hl : letterP (bt s i) <;> cases hg : digitP (bt s i) <;> simp
theorem specWord_tells (s : ByteArray) (hs : s.size ≤ 140737488351232) (k : Nat) (hk : s.size + 2 ≤ k) : spec_l00Word.f k s = some (nameP s) := by
  obtain ⟨k, rfl⟩ : ∃ m, k = m + 1 := ⟨k - 1, by omega⟩
  unfold spec_l00Word.f nameP
  simp only [spec_l00Word.j0]
  by_cases h1 : (s.size : Int) < 1
  · rw [if_pos h1]; simp; intro h; omega
  by_cases h2 : (s.size : Int) > 40
  · rw [if_neg h1, if_pos h2]; simp; intro _ h; omega
  rw [if_neg h1, if_neg h2, if_pos (by omega), specLetter_tells]
  simp only [Option.bind_some]
  rw [decide_eq_true (show 1 ≤ s.size by omega), decide_eq_true (show s.size ≤ 40 by omega), specWord_l0 s hs (s.size - 1) k 1 (by omega) (by omega) (by omega)]
  cases hl : letterP (bt s 0) <;> simp
theorem specName_tells (s : ByteArray) (hs : s.size ≤ 140737488351232) (k : Nat) (hk : s.size + 2 ≤ k) : spec_NameOK.f k s = some (nameP s) := by
  unfold spec_NameOK.f
  rw [specWord_tells s hs k hk]
  rfl

/-! snippet specIn -/
theorem specIn_tells (n low high : Int) : spec_l01In.f n low high = some (decide (low ≤ n) && decide (n ≤ high)) := by
  unfold spec_l01In.f
  by_cases h : n ≥ low
  · rw [if_pos h, decide_eq_true h]; rfl
  · rw [if_neg h, decide_eq_false h]; rfl

/-! snippet specRequestOK -/
theorem specText_tells (s : ByteArray) (hs : s.size ≤ 140737488351232) (n : Int) (hn : n = 12) (k : Nat) (hk : s.size + 2 ≤ k) : spec_l02Text.f k s n = some (decide (s.size ≤ 12) && nameP s) := by
  subst hn
  unfold spec_l02Text.f
  rw [specIn_tells, specName_tells s hs k hk]
  simp only [Option.bind_some]
  by_cases h : 1 ≤ s.size
  · by_cases h2 : s.size ≤ 12
    · rw [decide_eq_true (show (1 : Int) ≤ s.size by omega), decide_eq_true (show (s.size : Int) ≤ 12 by omega), decide_eq_true h2]; simp
    · rw [decide_eq_true (show (1 : Int) ≤ s.size by omega), decide_eq_false (show ¬ (s.size : Int) ≤ 12 by omega), decide_eq_false h2]; simp
  · have : nameP s = false := by unfold nameP; rw [decide_eq_false h]; simp
    rw [decide_eq_false (show ¬ (1 : Int) ≤ s.size by omega), this]; simp
theorem specRequestOK_tells (a b c d : Int) (s : ByteArray) (hs : s.size ≤ 140737488351232) (k : Nat) (hk : s.size + 4 ≤ k) : spec_RequestOK.f k a b c d s = some (requestP a b c d s) := by
  unfold spec_RequestOK.f requestP
  simp only [specIn_tells, specText_tells s hs 12 rfl k (by omega), Option.bind_some]
  generalize (decide (0 ≤ a) && decide (a ≤ 255)) = b1
  generalize (decide (1 ≤ b) && decide (b ≤ 65535)) = b2
  generalize (decide (s.size ≤ 12) && nameP s) = b5
  by_cases hd1 : 1 ≤ d
  · have x1 : decide (1 ≤ d) = true := decide_eq_true hd1
    have x2 : decide (0 ≤ d) = true := decide_eq_true (by omega)
    have x3 : decide (d > 0) = true := decide_eq_true (by omega)
    have x4 : decide (d = 0) = false := decide_eq_false (by omega)
    rw [x1, x2, x3, x4, Bool.true_and]
    generalize decide (d ≤ 1000) = b4
    by_cases h1 : c = 1
    · subst h1
      cases b1 <;> cases b2 <;> cases b4 <;> cases b5 <;> rfl
    by_cases h3 : c = 3
    · subst h3
      cases b1 <;> cases b2 <;> cases b4 <;> cases b5 <;> rfl
    have e1 : (c == 3) = false := beq_eq_false_iff_ne.mpr h3
    have e2 : ¬ (c = 1 ∨ c = 3) := by omega
    rw [if_neg h1, if_neg e2, e1]
    generalize (decide (1 ≤ c) && decide (c ≤ 4)) = b3
    cases b1 <;> cases b2 <;> cases b3 <;> cases b4 <;> cases b5 <;> rfl
  · have x1 : decide (1 ≤ d) = false := decide_eq_false hd1
    have x3 : decide (d > 0) = false := decide_eq_false (by omega)
    have x4 : (decide (0 ≤ d) && decide (d ≤ 1000)) = decide (d = 0) := by rw [Bool.eq_iff_iff]; simp; omega
    rw [x1, x3, x4, Bool.false_and]
    generalize decide (d = 0) = b4
    by_cases h1 : c = 1
    · subst h1
      cases b1 <;> cases b2 <;> cases b4 <;> cases b5 <;> rfl
    by_cases h3 : c = 3
    · subst h3
      cases b1 <;> cases b2 <;> cases b4 <;> cases b5 <;> rfl
    have e1 : (c == 3) = false := beq_eq_false_iff_ne.mpr h3
    have e2 : ¬ (c = 1 ∨ c = 3) := by omega
    rw [if_neg h1, if_neg e2, e1]
    generalize (decide (1 ≤ c) && decide (c ≤ 4)) = b3
    cases b1 <;> cases b2 <;> cases b3 <;> cases b4 <;> cases b5 <;> rfl

/-! snippet nums -/
namespace Sha
theorem bytesOf_nums (l : List Int) (h : ∀ x ∈ l, 0 ≤ x ∧ x < 256) : bytesOf (strOfNums l) = l := by
  unfold bytesOf strOfNums
  simp only [List.map_map]
  conv => rhs; rw [← List.map_id l]
  apply List.map_congr_left
  intro x hx
  obtain ⟨h0, h1⟩ := h x hx
  simp only [Function.comp_apply, id_eq, UInt8.toNat_ofNat']
  omega
theorem nums_bytesOf (t : ByteArray) : strOfNums (bytesOf t) = t := by
  obtain ⟨⟨l⟩⟩ := t
  unfold bytesOf strOfNums
  simp only [List.map_map]
  have h : List.map ((fun n : Int => UInt8.ofNat n.toNat) ∘ fun b : UInt8 => (b.toNat : Int)) l = l := by
    conv => rhs; rw [← List.map_id l]
    apply List.map_congr_left
    intro x _
    simp
  rw [h]
theorem bytesOf_le (t : ByteArray) : ∀ x ∈ bytesOf t, 0 ≤ x ∧ x < 256 := by
  intro x hx
  unfold bytesOf at hx
  obtain ⟨b, _, rfl⟩ := List.mem_map.1 hx
  have := b.toNat_lt
  omega
theorem ba_ext {a b : ByteArray} (h : a.data.toList = b.data.toList) : a = b := by
  obtain ⟨⟨a⟩⟩ := a
  obtain ⟨⟨b⟩⟩ := b
  simp only at h
  rw [h]
theorem ba_app (a b : ByteArray) : (a ++ b).data.toList = a.data.toList ++ b.data.toList := by simp
theorem nums_app (a b : List Int) : strOfNums (a ++ b) = strOfNums a ++ strOfNums b := by
  apply ba_ext
  rw [ba_app]
  simp [strOfNums]
theorem bytes_app (a b : ByteArray) : bytesOf (a ++ b) = bytesOf a ++ bytesOf b := by
  unfold bytesOf
  rw [ba_app, List.map_append]
def num (x : Int) : Nat → List Int → List Int
  | 0, l => l
  | k + 1, l => num (x / 256) k (l.set k (x % 256))
theorem num4 (n : Int) : num n 4 (List.replicate 4 0) = [n / 16777216 % 256, n / 65536 % 256, n / 256 % 256, n % 256] := by
  show [n / 256 / 256 / 256 % 256, n / 256 / 256 % 256, n / 256 % 256, n % 256] = _
  rw [show n / 256 / 256 = n / 65536 by omega, show n / 65536 / 256 = n / 16777216 by omega]
end Sha

/-! snippet number -/
theorem number_l0 (d : Nat) : ∀ (k : Nat) (x : Int) (l : List Int), d ≤ l.length → l.length ≤ 65536 → d < k → impl_number.l0 k x l ((d : Int) - 1) = some (strOfNums (Sha.num x d l)) := by
  induction d with
  | zero =>
    intro k x l _ _ hk
    obtain ⟨k, rfl⟩ := nat_pos_succ hk
    rw [impl_number.l0, if_neg (by omega)]
    rfl
  | succ d ih =>
    intro k x l hd hl hk
    obtain ⟨k, rfl⟩ := nat_pos_succ hk
    rw [impl_number.l0, if_pos (by omega), if_pos (by omega), if_pos (by omega)]
    have h1 : wrap64 (((d + 1 : Nat) : Int) - 1 - 1) = (d : Int) - 1 := by rw [wrap_id (by omega) (by omega)]; omega
    have h2 : (((d + 1 : Nat) : Int) - 1).toNat = d := by omega
    rw [h1, h2, ih _ _ _ (by rw [List.length_set]; omega) (by rw [List.length_set]; exact hl) (by omega)]
    rfl
theorem number_tells (n : Nat) (x : Int) (h0 : n ≤ 65536) (k : Nat) (hk : n < k) : impl_number.f k x n = some (strOfNums (Sha.num x n (List.replicate n 0))) := by
  rw [impl_number.f, if_pos (by omega), if_pos (by omega), wrap_id (by omega) (by omega), Int.toNat_natCast]
  exact number_l0 n k x _ (by simp) (by simp; omega) hk
theorem number1 (x : Int) (k : Nat) (hk : 1 < k) : impl_number.f k x 1 = some (strOfNums [x % 256]) := number_tells 1 x (by omega) k hk
theorem number2 (x : Int) (k : Nat) (hk : 2 < k) : impl_number.f k x 2 = some (strOfNums [x / 256 % 256, x % 256]) := number_tells 2 x (by omega) k hk
theorem number4 (x : Int) (k : Nat) (hk : 4 < k) : impl_number.f k x 4 = some (strOfNums [x / 16777216 % 256, x / 65536 % 256, x / 256 % 256, x % 256]) := by
  rw [← Sha.num4]
  exact number_tells 4 x (by omega) k hk
theorem ba_assoc (a b c : ByteArray) : a ++ b ++ c = a ++ (b ++ c) := by
  apply Sha.ba_ext
  simp
theorem nums_size1 (x : Int) : (strOfNums [x]).size = 1 := rfl

/-! snippet u64 -/
theorem u64_small (x : Int) (h0 : 0 ≤ x) (h1 : x ≤ 100) : IntKind.u64.wrap x = x := by
  simp only [IntKind.wrap, IntKind.bits, IntKind.signed]
  simp
  omega

/-! snippet l02 -/
def numS (n : Int) : Nat → List Int
  | 0 => []
  | d + 1 => (shr .i64 n (8 * (d : Int))) % 256 :: numS n d
theorem l02_l0 (n : Int) (d : Nat) : ∀ (k : Nat) (xs : List Int), d ≤ 8 → xs.length ≤ 1000 - d → d < k → spec_l02Number.l0 k n xs ((d : Int) - 1) = some (xs ++ numS n d) := by
  induction d with
  | zero =>
    intro k xs _ _ hk
    obtain ⟨k, rfl⟩ := nat_pos_succ hk
    rw [spec_l02Number.l0, if_neg (by omega), numS, List.append_nil]
  | succ d ih =>
    intro k xs hd hx hk
    obtain ⟨k, rfl⟩ := nat_pos_succ hk
    rw [spec_l02Number.l0, if_pos (by omega), show ((d + 1 : Nat) : Int) - 1 = d by omega, wrap_id (x := 8 * (d : Int)) (by omega) (by omega), u64_small (8 * (d : Int)) (by omega) (by omega), if_pos (by omega), if_pos (by omega), wrap_id (by omega) (by omega), ih k _ (by omega) (by rw [List.length_append]; simp only [List.length_cons, List.length_nil]; omega) (by omega), numS, List.append_assoc]
    rfl
def num4L (n : Int) : List Int := [n / 16777216 % 256, n / 65536 % 256, n / 256 % 256, n % 256]
theorem shr8 (n : Int) : shr .i64 n 8 = n / 256 := rfl
theorem shr16 (n : Int) : shr .i64 n 16 = n / 65536 := rfl
theorem shr24 (n : Int) : shr .i64 n 24 = n / 16777216 := rfl
theorem shr0 (n : Int) : shr .i64 n 0 = n := by unfold shr; simp
theorem numS4 (n : Int) : numS n 4 = num4L n := by
  simp only [numS, num4L]
  rw [show (8 : Int) * ((3 : Nat) : Int) = 24 from rfl, show (8 : Int) * ((2 : Nat) : Int) = 16 from rfl, show (8 : Int) * ((1 : Nat) : Int) = 8 from rfl, show (8 : Int) * ((0 : Nat) : Int) = 0 from rfl, shr24, shr16, shr8, shr0]
theorem l02_4 (n : Int) (k : Nat) (hk : 4 < k) : spec_l02Number.f k n 4 = some (num4L n) := by
  unfold spec_l02Number.f
  rw [wrap_id (by omega) (by omega), ← numS4]
  exact l02_l0 n 4 k [] (by omega) (by simp) hk
theorem num4L_le (n : Int) : ∀ x ∈ num4L n, 0 ≤ x ∧ x < 256 := by
  intro x hx
  simp only [num4L, List.mem_cons, List.not_mem_nil, or_false] at hx
  rcases hx with rfl | rfl | rfl | rfl <;> omega

/-! snippet l02b -/
def num2L (n : Int) : List Int := [n / 256 % 256, n % 256]
theorem numS2 (n : Int) : numS n 2 = num2L n := by
  simp only [numS, num2L]
  rw [show (8 : Int) * ((1 : Nat) : Int) = 8 from rfl, show (8 : Int) * ((0 : Nat) : Int) = 0 from rfl, shr8, shr0]
theorem l02_2 (n : Int) (k : Nat) (hk : 2 < k) : spec_l02Number.f k n 2 = some (num2L n) := by
  unfold spec_l02Number.f
  rw [wrap_id (by omega) (by omega), ← numS2]
  exact l02_l0 n 2 k [] (by omega) (by simp) hk
theorem num2L_le (n : Int) : ∀ x ∈ num2L n, 0 ≤ x ∧ x < 256 := by
  intro x hx
  simp only [num2L, List.mem_cons, List.not_mem_nil, or_false] at hx
  rcases hx with rfl | rfl <;> omega

/-! snippet reqBytes -/
/-- A request's bytes. -/
def reqHead (a b c d : Int) (s : ByteArray) : List Int := [a % 256] ++ num2L b ++ [c % 256] ++ num2L d ++ [(s.size : Int) % 256]
def reqOf (a b c d : Int) (s : ByteArray) : ByteArray := strOfNums (reqHead a b c d s) ++ s
theorem reqHead_le (a b c d : Int) (s : ByteArray) : ∀ y ∈ reqHead a b c d s, 0 ≤ y ∧ y < 256 := by
  intro y hy
  simp only [reqHead, num2L, List.mem_append, List.mem_cons, List.not_mem_nil, or_false] at hy
  rcases hy with (((rfl | rfl | rfl) | rfl) | rfl | rfl) | rfl <;> omega
theorem reqOf_size (a b c d : Int) (s : ByteArray) : (reqOf a b c d s).size = 7 + s.size := by
  unfold reqOf
  rw [ByteArray.size_append]
  rfl
theorem reqOf_bytes (a b c d : Int) (s : ByteArray) : bytesOf (reqOf a b c d s) = reqHead a b c d s ++ bytesOf s := by
  unfold reqOf
  rw [Sha.bytes_app, Sha.bytesOf_nums _ (reqHead_le a b c d s)]
theorem spec_l02Request_tells (a b c d : Int) (s : ByteArray) (hs : s.size ≤ 1048576) (k : Nat) (hk : 2 < k) : spec_l02Request.f k a b c d s = some (bytesOf (reqOf a b c d s)) := by
  unfold spec_l02Request.f
  have z : ∀ n, (num2L n).length = 2 := fun _ => rfl
  rw [Option.bind_some, l02_2 _ k hk, Option.bind_some, if_pos (by simp only [List.length_cons, List.length_nil, z]; omega), Option.bind_some, if_pos (by simp only [List.length_append, List.length_cons, List.length_nil, z]; omega), Option.bind_some, l02_2 _ k hk, Option.bind_some, if_pos (by simp only [List.length_append, List.length_cons, List.length_nil, z]; omega), Option.bind_some, if_pos (by simp only [List.length_append, List.length_cons, List.length_nil, z]; omega), Option.bind_some, if_pos (by simp only [List.length_append, List.length_cons, List.length_nil, z]; omega), reqOf_bytes]
  rfl
theorem impl_requestText_tells (a b c d : Int) (s : ByteArray) (hs : s.size ≤ 1048576) (k : Nat) (hk : 2 < k) : impl_requestText.f k a b c d s = some (reqOf a b c d s) := by
  unfold impl_requestText.f
  have h1 : ∀ n : Int, (strOfNums [n]).size = 1 := fun _ => rfl
  have h2 : ∀ n m : Int, (strOfNums [n, m]).size = 2 := fun _ _ => rfl
  rw [number1 a k (by omega), Option.bind_some, number2 b k (by omega), Option.bind_some, if_pos (by rw [h1, h2]; omega), number1 c k (by omega), Option.bind_some, if_pos (by simp only [ByteArray.size_append, h1, h2]; omega), number2 d k (by omega), Option.bind_some, if_pos (by simp only [ByteArray.size_append, h1, h2]; omega), number1 _ k (by omega), Option.bind_some, if_pos (by simp only [ByteArray.size_append, h1, h2]; omega), if_pos (by simp only [ByteArray.size_append, h1, h2]; omega), ← Sha.nums_app, ← Sha.nums_app, ← Sha.nums_app, ← Sha.nums_app]
  rfl

/-! snippet byteM -/
/-- The marks that the law writes: n, n + 1, .. . -/
def marksB : Nat → Int → List Int
  | 0, _ => []
  | d + 1, m => m % 256 :: marksB d (m + 1)
theorem marksB_length (d : Nat) : ∀ m : Int, (marksB d m).length = d := by
  induction d with
  | zero => intro m; rfl
  | succ d ih => intro m; rw [marksB, List.length_cons, ih]
theorem markB_l0 (d : Nat) : ∀ (k : Nat) (x : List Int) (m : Int) (i : Nat), x.length = i + d → x.length ≤ 1048576 → 1 ≤ m → m + d ≤ 2000000 → d < k → laws_markByteS.l0 k x m i = some (m + d, x.take i ++ marksB d m) := by
  induction d with
  | zero =>
    intro k x m i hd hx h0 h1 hk
    obtain ⟨k, rfl⟩ : ∃ m, k = m + 1 := ⟨k - 1, by omega⟩
    rw [laws_markByteS.l0, if_neg (by omega), marksB, List.append_nil, List.take_of_length_le (by omega), show m + ((0 : Nat) : Int) = m by omega]
  | succ d ih =>
    intro k x m i hd hx h0 h1 hk
    obtain ⟨k, rfl⟩ : ∃ m, k = m + 1 := ⟨k - 1, by omega⟩
    rw [laws_markByteS.l0, if_pos (by omega), if_pos (by omega), wrap_id (x := m + 1) (by omega) (by omega), wrap_id (x := (i : Int) + 1) (by omega) (by omega), Int.toNat_natCast, show (i : Int) + 1 = ((i + 1 : Nat) : Int) by omega, ih k _ (m + 1) (i + 1) (by rw [List.length_set]; omega) (by rw [List.length_set]; omega) (by omega) (by omega) (by omega), marksB, List.take_succ_eq_append_getElem (by rw [List.length_set]; omega), List.getElem_set_self, List.take_set_of_le (Nat.le_refl i), List.append_assoc, show m + 1 + (d : Int) = m + ((d + 1 : Nat) : Int) by omega]
    rfl
theorem markB_tells (x : List Int) (hx : x.length ≤ 1048576) (k : Nat) (hk : 1048577 ≤ k) : laws_markByteS.f k x 1 = some (1 + (x.length : Int), marksB x.length 1) := by
  unfold laws_markByteS.f
  have := markB_l0 x.length k x 1 0 (by omega) hx (by omega) (by omega) (by omega)
  simpa using this
theorem heldB_l0 (d : Nat) : ∀ (k : Nat) (x : List Int) (m : Int) (i : Nat), x.length = i + d → x.length ≤ 1048576 → x.drop i = marksB d m → 1 ≤ m → m + d ≤ 2000000 → d < k → laws_heldByteS.l0 k x m i = some (m + d) := by
  induction d with
  | zero =>
    intro k x m i hd hx e h0 h1 hk
    obtain ⟨k, rfl⟩ : ∃ m, k = m + 1 := ⟨k - 1, by omega⟩
    rw [laws_heldByteS.l0, if_neg (by omega), show m + ((0 : Nat) : Int) = m by omega]
  | succ d ih =>
    intro k x m i hd hx e h0 h1 hk
    obtain ⟨k, rfl⟩ : ∃ m, k = m + 1 := ⟨k - 1, by omega⟩
    have hi : i < x.length := by omega
    rw [List.drop_eq_getElem_cons hi, marksB] at e
    injection e with e1 e2
    have er : rd x i = x[i] := by unfold rd; simp [List.getD_eq_getElem?_getD, hi]
    rw [laws_heldByteS.l0, if_pos (by omega), if_pos (by omega), er, e1, if_pos rfl, wrap_id (x := m + 1) (by omega) (by omega), wrap_id (x := (i : Int) + 1) (by omega) (by omega), show (i : Int) + 1 = ((i + 1 : Nat) : Int) by omega, ih k x (m + 1) (i + 1) (by omega) hx e2 (by omega) (by omega) (by omega), show m + 1 + (d : Int) = m + ((d + 1 : Nat) : Int) by omega]
theorem heldB_tells (n : Nat) (hn : n ≤ 900000) (k : Nat) (hk : 1048577 ≤ k) : laws_heldByteS.f k (marksB n 1) 1 = some (1 + (n : Int)) := by
  unfold laws_heldByteS.f
  have hl := marksB_length n 1
  exact heldB_l0 n k (marksB n 1) 1 0 (by omega) (by omega) rfl (by omega) (by omega) (by omega)

/-! snippet eqB -/
theorem eqByteS_l0 (xs : List Int) (hx : xs.length ≤ 1048576) (d : Nat) : ∀ (k : Nat) (i : Nat), xs.length - i = d → i ≤ xs.length → d < k → laws_eqByteS.l0 k xs xs i = some true := by
  induction d with
  | zero =>
    intro k i hd hi hk
    obtain ⟨k, rfl⟩ := nat_pos_succ hk
    rw [laws_eqByteS.l0, if_neg (by omega)]
  | succ d ih =>
    intro k i hd hi hk
    obtain ⟨k, rfl⟩ := nat_pos_succ hk
    rw [laws_eqByteS.l0, if_pos (by omega), if_pos (by omega), if_pos (by omega), if_pos rfl, wrap_id (by omega) (by omega), show ((i : Int) + 1) = ((i + 1 : Nat) : Int) by omega]
    exact ih k (i + 1) (by omega) (by omega) (by omega)
theorem eqByteS_same (xs : List Int) (hx : xs.length ≤ 1048576) (k : Nat) (hk : xs.length < k) : laws_eqByteS.f k xs xs = some true := by
  unfold laws_eqByteS.f
  rw [if_pos rfl]
  exact eqByteS_l0 xs hx xs.length k 0 (by omega) (by omega) hk

/-! snippet FnExactRequestBytes -/
theorem requestP_small {a b c d : Int} {s : ByteArray} (h : requestP a b c d s = true) : s.size ≤ 12 := by
  unfold requestP at h
  simp only [Bool.and_eq_true, decide_eq_true_eq] at h
  omega
theorem requestBytes_both (a b c d : Int) (s : ByteArray) (hs : s.size ≤ 1048576) : ∃ l e, l.length ≤ 900000 ∧ (∀ k, 1048600 ≤ k → spec_RequestBytes.f k a b c d s = some (l, e)) ∧ (∀ k, 1048600 ≤ k → impl_RequestBytes.f k a b c d s = some (l, e)) := by
  unfold spec_RequestBytes.f impl_RequestBytes.f
  cases hp : requestP a b c d s
  · refine ⟨[], 1, by simp, fun k hk => ?_, fun k hk => ?_⟩
    · rw [specRequestOK_tells _ _ _ _ _ (by omega) k (by omega), hp, Option.bind_some, if_neg (by simp)]
    · rw [implRequestOK_tells _ _ _ _ _ (by omega) k (by omega), hp, Option.bind_some, if_neg (by simp)]
  have hz := requestP_small hp
  have hr := reqOf_size a b c d s
  refine ⟨bytesOf (reqOf a b c d s), 0, by rw [bytesOf_length]; omega, fun k hk => ?_, fun k hk => ?_⟩
  · rw [specRequestOK_tells _ _ _ _ _ (by omega) k (by omega), hp, Option.bind_some, if_pos rfl, spec_l02Request_tells a b c d s hs k (by omega), Option.bind_some]
  · rw [implRequestOK_tells _ _ _ _ _ (by omega) k (by omega), hp, Option.bind_some, if_pos rfl, impl_requestText_tells a b c d s hs k (by omega), Option.bind_some, if_pos (by omega)]
theorem FnExactRequestBytes (x0_0 : Int) (x0_1 : Int) (x0_2 : Int) (x0_3 : Int) (x0_4 : ByteArray) (gx0_0 : (Lit.int .i64 x0_0).wf = true) (gx0_1 : (Lit.int .i64 x0_1).wf = true) (gx0_2 : (Lit.int .i64 x0_2).wf = true) (gx0_3 : (Lit.int .i64 x0_3).wf = true) (gx0_4 : x0_4.size ≤ 9223372036854775807) : ∃ k, laws_FnExactRequestBytes.f k x0_0 x0_1 x0_2 x0_3 x0_4 = some true := by
  obtain ⟨k, hk⟩ : ∃ k : Nat, 1048600 ≤ k := ⟨1048600, Nat.le_refl _⟩
  refine ⟨k + 1 + 1, ?_⟩
  unfold laws_FnExactRequestBytes.f laws_szRequest.f
  rw [wrap_id (x := 1048576 - (x0_4.size : Int)) (by omega) (by omega)]
  by_cases h0 : 1048576 - (x0_4.size : Int) < 0
  · rw [if_pos h0]; rfl
  rw [if_neg h0, Option.bind_some, if_neg h0]
  unfold laws_toRequest.f
  obtain ⟨l, e, hl, e1, e2⟩ := requestBytes_both x0_0 x0_1 x0_2 x0_3 x0_4 (by omega)
  rw [Option.bind_some]
  dsimp only
  rw [e1 _ (by omega), Option.bind_some, Option.bind_some]
  dsimp only
  rw [e2 _ (by omega), Option.bind_some]
  dsimp only
  rw [eqByteS_same l (by omega) _ (by omega), Option.bind_some, if_pos rfl, laws_FnExactRequestBytes.j0, if_neg (by simp), markB_tells l (by omega) _ (by omega), Option.bind_some]
  dsimp only
  rw [heldB_tells _ hl _ (by omega), Option.bind_some, if_neg (by omega), if_pos rfl]
  unfold laws_toRequest.f
  rw [Option.bind_some]
  dsimp only
  rw [e2 _ (by omega), Option.bind_some]
  dsimp only
  rw [eqByteS_same l (by omega) _ (by omega), Option.bind_some, if_pos rfl, laws_FnExactRequestBytes.j1, if_neg (by simp), heldB_tells _ hl _ (by omega), Option.bind_some, if_neg (by omega), if_pos rfl]

end Go.Proofs.Ytgekkfgljjbikaa.Pure
