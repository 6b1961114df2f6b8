/- The statement FnExactRequestOK: what the given program's printed functions answer, as the law asks; no condition. -/
import Derived.Test.YtngeekijgphnjaaPFnExactRequestOKx2
set_option linter.unusedVariables false
set_option linter.unusedSimpArgs false
namespace Go.Proofs.Ytngeekijgphnjaa.Pure
open Go.RowKit Go.Proofs.Ytngeekijgphnjaa.PFnExactRequestOK Go.Proofs.YtngeekijgphnjaaW.PrintWords Go.Proofs.YtngeekijgphnjaaW.PrintLast Go.Proofs.YtngeekijgphnjaaW.PrintMore
/-! snippet base -/
theorem wrap_id {x : Int} (h1 : -9223372036854775808 ≤ x) (h2 : x ≤ 9223372036854775807) : wrap64 x = x := by
  unfold wrap64
  omega
theorem nat_pos_succ {k d : Nat} (h : d < k) : ∃ m, k = m + 1 := ⟨k - 1, by omega⟩
theorem u8_of_wf {l : List Int} (h : ∀ x ∈ l, (Lit.int .u8 x).wf = true) (i : Int) : 0 ≤ rd l i ∧ rd l i ≤ 255 := by
  unfold rd
  rw [List.getD_eq_getElem?_getD]
  by_cases hi : i.toNat < l.length
  · rw [List.getElem?_eq_getElem hi, Option.getD_some]
    have := h _ (List.getElem_mem hi)
    simp only [Lit.wf, Bool.and_eq_true, decide_eq_true_eq] at this
    have e1 : IntKind.u8.min = 0 := rfl
    have e2 : IntKind.u8.max = 255 := rfl
    omega
  · rw [List.getElem?_eq_none (by omega)]
    simp
theorem i64_of_wf {x : Int} (h : (Lit.int .i64 x).wf = true) : -9223372036854775808 ≤ x ∧ x ≤ 9223372036854775807 := by
  simp only [Lit.wf, Bool.and_eq_true, decide_eq_true_eq] at h
  have e1 : IntKind.i64.min = -9223372036854775808 := rfl
  have e2 : IntKind.i64.max = 9223372036854775807 := rfl
  omega

/-! snippet nameP -/
def letterP (c : Int) : Bool := (decide (97 ≤ c) && decide (c ≤ 122)) || (decide (65 ≤ c) && decide (c ≤ 90)) || decide (c = 95)
def digitP (c : Int) : Bool := decide (48 ≤ c) && decide (c ≤ 57)
/-- All bytes from place i on, d of them, are letters or digits. -/
def restP (s : ByteArray) : Nat → Int → Bool
  | 0, _ => true
  | d + 1, i => (letterP (bt s i) || digitP (bt s i)) && restP s d (i + 1)
def nameP (s : ByteArray) : Bool := decide (1 ≤ s.size) && decide (s.size ≤ 40) && letterP (bt s 0) && restP s (s.size - 1) 1

/-! snippet implName -/
theorem isLetter_tells (c : Int) : impl_isLetter.f c = some (letterP c) := by
  unfold impl_isLetter.f letterP
  by_cases h1 : c ≥ 97
  · by_cases h2 : c ≤ 122
    · simp [h1, h2]
    · have h3 : ¬ c ≤ 90 := by omega
      simp [h1, h2, h3, show c ≥ 65 by omega]
      try rw [Bool.eq_iff_iff]
      try simp
  · by_cases h3 : c ≥ 65
    · by_cases h4 : c ≤ 90
      · simp [h1, h3, h4]
      · simp [h1, h3, h4]; try rw [Bool.eq_iff_iff]; simp
    · simp [h1, h3]; try rw [Bool.eq_iff_iff]; simp
theorem implName_l0 (s : ByteArray) (hs : s.size ≤ 140737488351232) (d : Nat) : ∀ (k : Nat) (i : Int), 0 ≤ i → (s.size : Int) - i = d → d < k → impl_NameOK.l0 k s s.size i = some (restP s d i) := by
  induction d with
  | zero =>
    intro k i h0 hd hk
    obtain ⟨k, rfl⟩ := nat_pos_succ hk
    simp only [impl_NameOK.l0, restP]
    rw [if_neg (by omega)]
  | succ d ih =>
    intro k i h0 hd hk
    obtain ⟨k, rfl⟩ := nat_pos_succ hk
    simp only [impl_NameOK.l0, restP]
    rw [if_pos (by omega), if_pos h0, if_pos (by omega), isLetter_tells, wrap_id (by omega) (by omega), ih k (i + 1) (by omega) (by omega) (by omega)]
    simp only [Option.bind_some]
    cases hl : letterP (bt s i)
    · unfold digitP
      by_cases h1 : bt s i < 48
      · simp [h1, show ¬ 48 ≤ bt s i by omega]
      · by_cases h2 : bt s i > 57
        · simp [h1, h2, show ¬ bt s i ≤ 57 by omega]
        · simp [h1, h2, show bt s i ≤ 57 by omega, show 48 ≤ bt s i by omega]
    · simp
theorem implName_tells (s : ByteArray) (hs : s.size ≤ 140737488351232) (k : Nat) (hk : s.size + 2 ≤ k) : impl_NameOK.f k s = some (nameP s) := by
  obtain ⟨k, rfl⟩ : ∃ m, k = m + 1 := ⟨k - 1, by omega⟩
  unfold impl_NameOK.f nameP
  simp only [impl_NameOK.j0]
  by_cases h1 : (s.size : Int) < 1
  · rw [if_pos h1]; simp; intro h; omega
  by_cases h2 : (s.size : Int) > 40
  · rw [if_neg h1, if_pos h2]; simp; intro _ h; omega
  rw [if_neg h1, if_neg h2, if_pos (by omega), isLetter_tells]
  simp only [Option.bind_some]
  rw [decide_eq_true (show 1 ≤ s.size by omega), decide_eq_true (show s.size ≤ 40 by omega), implName_l0 s hs s.size k 0 (by omega) (by omega) (by omega)]
  obtain ⟨d, hd⟩ : ∃ d, s.size = d + 1 := ⟨s.size - 1, by omega⟩
  rw [hd]
  cases hl : letterP (bt s 0) <;> simp [restP, hl]

/-! snippet within -/
theorem within_tells (n low high : Int) : impl_within.f n low high = some (decide (low ≤ n) && decide (n ≤ high)) := by
  unfold impl_within.f
  by_cases h : n ≥ low
  · rw [if_pos h, decide_eq_true h]; rfl
  · rw [if_neg h, decide_eq_false h]; rfl

/-! snippet implRequestOK -/
def requestP (client stamp kind lease : Int) (name : ByteArray) : Bool :=
  (decide (0 ≤ client) && decide (client ≤ 255)) && ((decide (1 ≤ stamp) && decide (stamp ≤ 65535)) && ((decide (1 ≤ kind) && decide (kind ≤ 4)) && ((if kind = 1 ∨ kind = 3 then decide (1 ≤ lease) && decide (lease ≤ 1000) else decide (lease = 0)) && (decide (name.size ≤ 12) && nameP name))))
theorem isOpName_tells (s : ByteArray) (hs : s.size ≤ 140737488351232) (k : Nat) (hk : s.size + 2 ≤ k) : impl_isOpName.f k s = some (decide (s.size ≤ 12) && nameP s) := by
  unfold impl_isOpName.f
  by_cases h : (s.size : Int) ≤ 12
  · rw [if_pos h, implName_tells s hs k hk, decide_eq_true (show s.size ≤ 12 by omega)]; simp
  · rw [if_neg h, decide_eq_false (show ¬ s.size ≤ 12 by omega)]; simp
theorem implRequestOK_tells (a b c d : Int) (s : ByteArray) (hs : s.size ≤ 140737488351232) (k : Nat) (hk : s.size + 4 ≤ k) : impl_RequestOK.f k a b c d s = some (requestP a b c d s) := by
  obtain ⟨k, rfl⟩ : ∃ m, k = m + 2 := ⟨k - 2, by omega⟩
  unfold impl_RequestOK.f requestP
  simp only [impl_RequestOK.j0, impl_RequestOK.j1, within_tells, isOpName_tells s hs k (by omega), Option.bind_some]
  generalize (decide (0 ≤ a) && decide (a ≤ 255)) = b1
  generalize (decide (1 ≤ b) && decide (b ≤ 65535)) = b2
  generalize (decide (s.size ≤ 12) && nameP s) = b5
  have e0 : (decide (0 ≤ d) && decide (d ≤ 0)) = decide (d = 0) := by rw [Bool.eq_iff_iff]; simp; omega
  rw [e0]
  generalize (decide (1 ≤ d) && decide (d ≤ 1000)) = b4
  generalize decide (d = 0) = b4'
  by_cases h1 : c = 1
  · subst h1
    cases b1 <;> cases b2 <;> cases b4 <;> cases b5 <;> rfl
  by_cases h3 : c = 3
  · subst h3
    cases b1 <;> cases b2 <;> cases b4 <;> cases b5 <;> rfl
  have e1 : (c == 3) = false := beq_eq_false_iff_ne.mpr h3
  have e2 : ¬ (c = 1 ∨ c = 3) := by omega
  rw [if_neg h1, if_neg e2, e1]
  generalize (decide (1 ≤ c) && decide (c ≤ 4)) = b3
  cases b1 <;> cases b2 <;> cases b3 <;> cases b4' <;> cases b5 <;> rfl

/-! snippet specName -/
theorem specLetter_tells (c : Int) : spec_l00Letter.f c = some (letterP c) := by
  unfold spec_l00Letter.f letterP
  by_cases h1 : c ≥ 97
  · by_cases h2 : c ≤ 122
    · simp [h1, h2]
    · have h3 : ¬ c ≤ 90 := by omega
      simp [h1, h2, h3, show c ≥ 65 by omega]
      try rw [Bool.eq_iff_iff]
      try simp
  · by_cases h3 : c ≥ 65
    · by_cases h4 : c ≤ 90
      · simp [h1, h3, h4]
      · simp [h1, h3, h4]; try rw [Bool.eq_iff_iff]; simp
    · simp [h1, h3]; try rw [Bool.eq_iff_iff]; simp
theorem specDigit_tells (c : Int) : spec_l00Digit.f c = some (digitP c) := by
  unfold spec_l00Digit.f digitP
  by_cases h : c ≥ 48
  · rw [if_pos h, decide_eq_true h]; rfl
  · rw [if_neg h, decide_eq_false h]; rfl
theorem specWord_l0 (s : ByteArray) (hs : s.size ≤ 140737488351232) (d : Nat) : ∀ (k : Nat) (i : Int), 0 ≤ i → (s.size : Int) - i = d → d < k → spec_l00Word.l0 k s i = some (restP s d i) := by
  induction d with
  | zero =>
    intro k i h0 hd hk
    obtain ⟨k, rfl⟩ := nat_pos_succ hk
    simp only [spec_l00Word.l0, restP]
    rw [if_neg (by omega)]
  | succ d ih =>
    intro k i h0 hd hk
    obtain ⟨k, rfl⟩ := nat_pos_succ hk
    simp only [spec_l00Word.l0, restP]
    rw [if_pos (by omega), if_pos h0, specLetter_tells, specDigit_tells, wrap_id (by omega) (by omega), ih k (i + 1) (by omega) (by omega) (by omega)]
    simp only [Option.bind_some]
    cases hl : letterP (bt s i) <;> cases hg : digitP (bt s i) <;> simp
theorem specWord_tells (s : ByteArray) (hs : s.size ≤ 140737488351232) (k : Nat) (hk : s.size + 2 ≤ k) : spec_l00Word.f k s = some (nameP s) := by
  obtain ⟨k, rfl⟩ : ∃ m, k = m + 1 := ⟨k - 1, by omega⟩
  unfold spec_l00Word.f nameP
  simp only [spec_l00Word.j0]
  by_cases h1 : (s.size : Int) < 1
  · rw [if_pos h1]; simp; intro h; omega
  by_cases h2 : (s.size : Int) > 40
  · rw [if_neg h1, if_pos h2]; simp; intro _ h; omega
  rw [if_neg h1, if_neg h2, if_pos (by omega), specLetter_tells]
  simp only [Option.bind_some]
  rw [decide_eq_true (show 1 ≤ s.size by omega), decide_eq_true (show s.size ≤ 40 by omega), specWord_l0 s hs (s.size - 1) k 1 (by omega) (by omega) (by omega)]
  cases hl : letterP (bt s 0) <;> simp
theorem specName_tells (s : ByteArray) (hs : s.size ≤ 140737488351232) (k : Nat) (hk : s.size + 2 ≤ k) : spec_NameOK.f k s = some (nameP s) := by
  unfold spec_NameOK.f
  rw [specWord_tells s hs k hk]
  rfl

/-! snippet specIn -/
theorem specIn_tells (n low high : Int) : spec_l01In.f n low high = some (decide (low ≤ n) && decide (n ≤ high)) := by
  unfold spec_l01In.f
  by_cases h : n ≥ low
  · rw [if_pos h, decide_eq_true h]; rfl
  · rw [if_neg h, decide_eq_false h]; rfl

/-! snippet specRequestOK -/
theorem specText_tells (s : ByteArray) (hs : s.size ≤ 140737488351232) (n : Int) (hn : n = 12) (k : Nat) (hk : s.size + 2 ≤ k) : spec_l02Text.f k s n = some (decide (s.size ≤ 12) && nameP s) := by
  subst hn
  unfold spec_l02Text.f
  rw [specIn_tells, specName_tells s hs k hk]
  simp only [Option.bind_some]
  by_cases h : 1 ≤ s.size
  · by_cases h2 : s.size ≤ 12
    · rw [decide_eq_true (show (1 : Int) ≤ s.size by omega), decide_eq_true (show (s.size : Int) ≤ 12 by omega), decide_eq_true h2]; simp
    · rw [decide_eq_true (show (1 : Int) ≤ s.size by omega), decide_eq_false (show ¬ (s.size : Int) ≤ 12 by omega), decide_eq_false h2]; simp
  · have : nameP s = false := by unfold nameP; rw [decide_eq_false h]; simp
    rw [decide_eq_false (show ¬ (1 : Int) ≤ s.size by omega), this]; simp
theorem specRequestOK_tells (a b c d : Int) (s : ByteArray) (hs : s.size ≤ 140737488351232) (k : Nat) (hk : s.size + 4 ≤ k) : spec_RequestOK.f k a b c d s = some (requestP a b c d s) := by
  unfold spec_RequestOK.f requestP
  simp only [specIn_tells, specText_tells s hs 12 rfl k (by omega), Option.bind_some]
  generalize (decide (0 ≤ a) && decide (a ≤ 255)) = b1
  generalize (decide (1 ≤ b) && decide (b ≤ 65535)) = b2
  generalize (decide (s.size ≤ 12) && nameP s) = b5
  by_cases hd1 : 1 ≤ d
  · have x1 : decide (1 ≤ d) = true := decide_eq_true hd1
    have x2 : decide (0 ≤ d) = true := decide_eq_true (by omega)
    have x3 : decide (d > 0) = true := decide_eq_true (by omega)
    have x4 : decide (d = 0) = false := decide_eq_false (by omega)
    rw [x1, x2, x3, x4, Bool.true_and]
    generalize decide (d ≤ 1000) = b4
    by_cases h1 : c = 1
    · subst h1
      cases b1 <;> cases b2 <;> cases b4 <;> cases b5 <;> rfl
    by_cases h3 : c = 3
    · subst h3
      cases b1 <;> cases b2 <;> cases b4 <;> cases b5 <;> rfl
    have e1 : (c == 3) = false := beq_eq_false_iff_ne.mpr h3
    have e2 : ¬ (c = 1 ∨ c = 3) := by omega
    rw [if_neg h1, if_neg e2, e1]
    generalize (decide (1 ≤ c) && decide (c ≤ 4)) = b3
    cases b1 <;> cases b2 <;> cases b3 <;> cases b4 <;> cases b5 <;> rfl
  · have x1 : decide (1 ≤ d) = false := decide_eq_false hd1
    have x3 : decide (d > 0) = false := decide_eq_false (by omega)
    have x4 : (decide (0 ≤ d) && decide (d ≤ 1000)) = decide (d = 0) := by rw [Bool.eq_iff_iff]; simp; omega
    rw [x1, x3, x4, Bool.false_and]
    generalize decide (d = 0) = b4
    by_cases h1 : c = 1
    · subst h1
      cases b1 <;> cases b2 <;> cases b4 <;> cases b5 <;> rfl
    by_cases h3 : c = 3
    · subst h3
      cases b1 <;> cases b2 <;> cases b4 <;> cases b5 <;> rfl
    have e1 : (c == 3) = false := beq_eq_false_iff_ne.mpr h3
    have e2 : ¬ (c = 1 ∨ c = 3) := by omega
    rw [if_neg h1, if_neg e2, e1]
    generalize (decide (1 ≤ c) && decide (c ≤ 4)) = b3
    cases b1 <;> cases b2 <;> cases b3 <;> cases b4 <;> cases b5 <;> rfl

/-! snippet FnExactRequestOK -/
theorem FnExactRequestOK (a0 a1 a2 a3 : Int) (s : ByteArray) (ga : (Lit.int .i64 a0).wf = true) (gb : (Lit.int .i64 a1).wf = true) (gc : (Lit.int .i64 a2).wf = true) (gd : (Lit.int .i64 a3).wf = true) (hs : s.size ≤ 9223372036854775807) : ∃ k, laws_FnExactRequestOK.f k a0 a1 a2 a3 s = some true := by
  refine ⟨s.size + 4, ?_⟩
  unfold laws_FnExactRequestOK.f laws_szRequest.f laws_toRequest.f
  rw [wrap_id (by omega) (by omega)]
  by_cases h : (1048576 - (s.size : Int)) < 0
  · rw [if_pos h]; rfl
  rw [if_neg h]
  simp only [Option.bind_some]
  rw [if_neg h, specRequestOK_tells a0 a1 a2 a3 s (by omega) _ (Nat.le_refl _), implRequestOK_tells a0 a1 a2 a3 s (by omega) _ (Nat.le_refl _)]
  simp

end Go.Proofs.Ytngeekijgphnjaa.Pure
