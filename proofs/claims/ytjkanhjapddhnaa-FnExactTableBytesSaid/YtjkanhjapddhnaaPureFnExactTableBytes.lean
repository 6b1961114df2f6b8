/- The statement FnExactTableBytes: what the given program's printed functions answer, as the law asks; no condition. -/
import Derived.Test.YtjkanhjapddhnaaPFnExactTableBytesx8
import Derived.Test.YtjkanhjapddhnaaLawTB
set_option linter.unusedVariables false
set_option linter.unusedSimpArgs false
namespace Go.Proofs.Ytjkanhjapddhnaa.Pure
open Go.RowKit Go.Proofs.Ytjkanhjapddhnaa.PFnExactTableBytes Go.Proofs.YtjkanhjapddhnaaV.PrintWords Go.Proofs.YtjkanhjapddhnaaV.PrintLast Go.Proofs.YtjkanhjapddhnaaV.PrintMore
/-! snippet base -/
theorem wrap_id {x : Int} (h1 : -9223372036854775808 ≤ x) (h2 : x ≤ 9223372036854775807) : wrap64 x = x := by
  unfold wrap64
  omega
theorem nat_pos_succ {k d : Nat} (h : d < k) : ∃ m, k = m + 1 := ⟨k - 1, by omega⟩
theorem u8_of_wf {l : List Int} (h : ∀ x ∈ l, (Lit.int .u8 x).wf = true) (i : Int) : 0 ≤ rd l i ∧ rd l i ≤ 255 := by
  unfold rd
  rw [List.getD_eq_getElem?_getD]
  by_cases hi : i.toNat < l.length
  · rw [List.getElem?_eq_getElem hi, Option.getD_some]
    have := h _ (List.getElem_mem hi)
    simp only [Lit.wf, Bool.and_eq_true, decide_eq_true_eq] at this
    have e1 : IntKind.u8.min = 0 := rfl
    have e2 : IntKind.u8.max = 255 := rfl
    omega
  · rw [List.getElem?_eq_none (by omega)]
    simp
theorem i64_of_wf {x : Int} (h : (Lit.int .i64 x).wf = true) : -9223372036854775808 ≤ x ∧ x ≤ 9223372036854775807 := by
  simp only [Lit.wf, Bool.and_eq_true, decide_eq_true_eq] at h
  have e1 : IntKind.i64.min = -9223372036854775808 := rfl
  have e2 : IntKind.i64.max = 9223372036854775807 := rfl
  omega
theorem toList_len (s : ByteArray) : s.toList.length = s.size := by
  rw [ByteArray.toList_eq]
  exact data_length s
theorem toList_inj {a b : ByteArray} (h : a.toList = b.toList) : a = b := by
  rw [ByteArray.toList_eq, ByteArray.toList_eq] at h
  exact Go.WideShapes.bytes_inj h

/-! snippet tabTo -/
abbrev LW := S160
abbrev LL := S110
abbrev LN := S116
abbrev IW := S73
abbrev IL := S70
abbrev IN := S77
theorem rdLW_at (l : List LW) (i : Nat) (hi : i < l.length) : rd_T160 l (i : Int) = l[i] := by
  unfold rd_T160
  simp [List.getD_eq_getElem?_getD, hi]
theorem rdLL_at (l : List LL) (i : Nat) (hi : i < l.length) : rd_T110 l (i : Int) = l[i] := by
  unfold rd_T110
  simp [List.getD_eq_getElem?_getD, hi]
theorem rdLN_at (l : List LN) (i : Nat) (hi : i < l.length) : rd_T116 l (i : Int) = l[i] := by
  unfold rd_T116
  simp [List.getD_eq_getElem?_getD, hi]
def toW (x : LW) : IW := ⟨x.f0, x.f1⟩
def toL (x : LL) : IL := ⟨x.f0, x.f1, x.f2, x.f3, x.f4.map toW⟩
def toN (x : LN) : IN := ⟨x.f0, x.f1, ⟨x.f2.f0, x.f2.f1, x.f2.f2, x.f2.f3⟩⟩
def goodW (x : LW) : Prop := (Lit.int .i64 x.f0).wf = true ∧ (Lit.int .i64 x.f1).wf = true
def goodL (x : LL) : Prop := (x.f0.size ≤ 9223372036854775807) ∧ ((Lit.int .i64 x.f1).wf = true) ∧ ((Lit.int .i64 x.f2).wf = true) ∧ ((Lit.int .i64 x.f3).wf = true) ∧ (x.f4.length ≤ 9223372036854775807 ∧ ∀ y ∈ x.f4, goodW y)
/-- A lock within the bounds. -/
def smallL (x : LL) : Prop := x.f0.size ≤ 1048576 ∧ x.f4.length ≤ 1048576
theorem szL_l0 (l : List LL) (hl : l.length ≤ 1048576) (hy : ∀ y ∈ l, y.f0.size ≤ 9223372036854775807 ∧ y.f4.length ≤ 9223372036854775807) (d : Nat) : ∀ (k : Nat) (x : Int) (i : Nat), l.length = i + d → 0 ≤ x → x ≤ 1048576 → d < k → (∀ j, (h : j < l.length) → j < i → smallL l[j]) →
    ∃ v, laws_szLockS.l0 k l x i = some v ∧ (v < 0 ∨ (0 ≤ v ∧ v ≤ 1048576 ∧ ∀ j, (h : j < l.length) → smallL l[j])) := by
  induction d with
  | zero =>
    intro k x i hd h0 h1 hk hs
    obtain ⟨k, rfl⟩ : ∃ m, k = m + 1 := ⟨k - 1, by omega⟩
    exact ⟨x, by rw [laws_szLockS.l0, if_neg (by omega)], Or.inr ⟨h0, h1, fun j h => hs j h (by omega)⟩⟩
  | succ d ih =>
    intro k x i hd h0 h1 hk hs
    obtain ⟨k, rfl⟩ : ∃ m, k = m + 1 := ⟨k - 1, by omega⟩
    have hi : i < l.length := by omega
    obtain ⟨hz1, hz2⟩ := hy _ (List.getElem_mem hi)
    rw [laws_szLockS.l0, if_pos (by omega), if_pos (by omega), rdLL_at l i hi]
    unfold laws_szLock.f
    rw [wrap_id (x := x - _) (by omega) (by omega)]
    by_cases hn : x - (l[i].f0.size : Int) < 0
    · rw [if_pos hn, Option.bind_some, if_pos (by decide)]
      exact ⟨-1, rfl, Or.inl (by decide)⟩
    · rw [if_neg hn]
      unfold laws_szWaiterS.f
      rw [wrap_id (x := x - (l[i].f0.size : Int) - _) (by omega) (by omega)]
      by_cases hm : x - (l[i].f0.size : Int) - (l[i].f4.length : Int) < 0
      · rw [if_pos hm, Option.bind_some, if_pos (by decide), Option.bind_some, if_pos (by decide)]
        exact ⟨-1, rfl, Or.inl (by decide)⟩
      · rw [if_neg hm, Option.bind_some, if_neg hm, Option.bind_some, if_neg hm, wrap_id (x := (i : Int) + 1) (by omega) (by omega)]
        exact ih k (x - (l[i].f0.size : Int) - (l[i].f4.length : Int)) (i + 1) (by omega) (by omega) (by omega) (by omega) (fun j h hj => by
          by_cases e : j = i
          · subst e
            exact ⟨by omega, by omega⟩
          · exact hs j h (by omega))
theorem szT_tells (t0 t1 : Int) (l2 : List LL) (l3 : List LN) (g2 : l2.length ≤ 9223372036854775807 ∧ ∀ y ∈ l2, goodL y) (g3 : l3.length ≤ 9223372036854775807) (x : Int) (h0 : 0 ≤ x) (h1 : x ≤ 1048576) (k : Nat) (hk : 1048577 ≤ k) :
    ∃ v, laws_szTable.f k t0 t1 l2 l3 x = some v ∧ (v < 0 ∨ (0 ≤ v ∧ v ≤ 1048576 ∧ l2.length ≤ 1048576 ∧ l3.length ≤ 1048576 ∧ ∀ y ∈ l2, smallL y)) := by
  unfold laws_szTable.f laws_szLockS.f
  rw [wrap_id (x := x - _) (by omega) (by omega)]
  by_cases hn : x - (l2.length : Int) < 0
  · rw [if_pos hn, Option.bind_some, if_pos (by decide)]
    exact ⟨-1, rfl, Or.inl (by decide)⟩
  rw [if_neg hn]
  obtain ⟨v, e, hv⟩ := szL_l0 l2 (by omega) (fun y hy => ⟨(g2.2 y hy).1, (g2.2 y hy).2.2.2.2.1⟩) l2.length k (x - (l2.length : Int)) 0 (by omega) (by omega) (by omega) (by omega) (fun j h hj => by omega)
  have e' : laws_szLockS.l0 k l2 (x - (l2.length : Int)) 0 = some v := e
  rw [e', Option.bind_some]
  rcases hv with hv | ⟨ha, hb, hc⟩
  · rw [if_pos hv]
    exact ⟨-1, rfl, Or.inl (by decide)⟩
  rw [if_neg (by omega)]
  unfold laws_szSeenS.f
  rw [wrap_id (x := v - _) (by omega) (by omega)]
  by_cases hm : v - (l3.length : Int) < 0
  · rw [if_pos hm, Option.bind_some, if_pos (by decide)]
    exact ⟨-1, rfl, Or.inl (by decide)⟩
  rw [if_neg hm, Option.bind_some, if_neg hm]
  refine ⟨_, rfl, Or.inr ⟨by omega, by omega, by omega, by omega, fun y hy => ?_⟩⟩
  obtain ⟨j, hj, rfl⟩ := List.mem_iff_getElem.1 hy
  exact hc j hj
theorem toW_l0 (l : List LW) (hl : l.length ≤ 1048576) (d : Nat) : ∀ (k : Nat) (x : List IW) (i : Nat), l.length = i + d → x.length = l.length → x.take i = (l.map toW).take i → d < k → laws_toWaiterS.l0 k l x i = some (l.map toW) := by
  have hr : (l.map toW).length = l.length := by rw [List.length_map]
  induction d with
  | zero =>
    intro k x i hd hx ht hk
    obtain ⟨k, rfl⟩ : ∃ m, k = m + 1 := ⟨k - 1, by omega⟩
    rw [laws_toWaiterS.l0, if_neg (by omega)]
    rw [List.take_of_length_le (by omega), List.take_of_length_le (by omega)] at ht
    rw [ht]
  | succ d ih =>
    intro k x i hd hx ht hk
    obtain ⟨k, rfl⟩ : ∃ m, k = m + 1 := ⟨k - 1, by omega⟩
    have hi : i < l.length := by omega
    rw [laws_toWaiterS.l0, if_pos (by omega), if_pos (by omega), rdLW_at l i hi]
    unfold laws_toWaiter.f
    rw [Option.bind_some]
    dsimp only
    rw [if_pos (by omega), wrap_id (x := (i : Int) + 1) (by omega) (by omega)]
    refine ih k _ (i + 1) (by omega) (by rw [List.length_set, hx]) ?_ (by omega)
    rw [Int.toNat_natCast, List.take_succ_eq_append_getElem (by rw [List.length_set]; omega), List.take_succ_eq_append_getElem (by omega), List.getElem_set_self, List.take_set_of_le (Nat.le_refl i), ht, List.getElem_map]
    rfl
theorem toWS_tells (l : List LW) (hl : l.length ≤ 1048576) (k : Nat) (hk : 1048577 ≤ k) : laws_toWaiterS.f k l = some (l.map toW) := by
  unfold laws_toWaiterS.f
  rw [if_pos (by omega), if_pos (by omega)]
  exact toW_l0 l hl l.length k _ 0 (by omega) (by simp) (by simp) (by omega)
theorem toL_l0 (l : List LL) (hl : l.length ≤ 1048576) (hy : ∀ y ∈ l, smallL y) (d : Nat) : ∀ (k : Nat) (x : List IL) (i : Nat), l.length = i + d → x.length = l.length → x.take i = (l.map toL).take i → d + 1048577 < k → laws_toLockS.l0 k l x i = some (l.map toL) := by
  have hr : (l.map toL).length = l.length := by rw [List.length_map]
  induction d with
  | zero =>
    intro k x i hd hx ht hk
    obtain ⟨k, rfl⟩ : ∃ m, k = m + 1 := ⟨k - 1, by omega⟩
    rw [laws_toLockS.l0, if_neg (by omega)]
    rw [List.take_of_length_le (by omega), List.take_of_length_le (by omega)] at ht
    rw [ht]
  | succ d ih =>
    intro k x i hd hx ht hk
    obtain ⟨k, rfl⟩ : ∃ m, k = m + 1 := ⟨k - 1, by omega⟩
    have hi : i < l.length := by omega
    rw [laws_toLockS.l0, if_pos (by omega), if_pos (by omega), rdLL_at l i hi]
    unfold laws_toLock.f
    rw [toWS_tells _ (hy _ (List.getElem_mem hi)).2 k (by omega), Option.bind_some, Option.bind_some]
    dsimp only
    rw [if_pos (by omega), wrap_id (x := (i : Int) + 1) (by omega) (by omega)]
    refine ih k _ (i + 1) (by omega) (by rw [List.length_set, hx]) ?_ (by omega)
    rw [Int.toNat_natCast, List.take_succ_eq_append_getElem (by rw [List.length_set]; omega), List.take_succ_eq_append_getElem (by omega), List.getElem_set_self, List.take_set_of_le (Nat.le_refl i), ht, List.getElem_map]
    rfl
theorem toN_l0 (l : List LN) (hl : l.length ≤ 1048576) (d : Nat) : ∀ (k : Nat) (x : List IN) (i : Nat), l.length = i + d → x.length = l.length → x.take i = (l.map toN).take i → d < k → laws_toSeenS.l0 k l x i = some (l.map toN) := by
  have hr : (l.map toN).length = l.length := by rw [List.length_map]
  induction d with
  | zero =>
    intro k x i hd hx ht hk
    obtain ⟨k, rfl⟩ : ∃ m, k = m + 1 := ⟨k - 1, by omega⟩
    rw [laws_toSeenS.l0, if_neg (by omega)]
    rw [List.take_of_length_le (by omega), List.take_of_length_le (by omega)] at ht
    rw [ht]
  | succ d ih =>
    intro k x i hd hx ht hk
    obtain ⟨k, rfl⟩ : ∃ m, k = m + 1 := ⟨k - 1, by omega⟩
    have hi : i < l.length := by omega
    rw [laws_toSeenS.l0, if_pos (by omega), if_pos (by omega), rdLN_at l i hi]
    unfold laws_toSeen.f laws_toAnswer.f
    rw [Option.bind_some, Option.bind_some]
    dsimp only
    rw [if_pos (by omega), wrap_id (x := (i : Int) + 1) (by omega) (by omega)]
    refine ih k _ (i + 1) (by omega) (by rw [List.length_set, hx]) ?_ (by omega)
    rw [Int.toNat_natCast, List.take_succ_eq_append_getElem (by rw [List.length_set]; omega), List.take_succ_eq_append_getElem (by omega), List.getElem_set_self, List.take_set_of_le (Nat.le_refl i), ht, List.getElem_map]
    rfl
theorem toT_tells (t0 t1 : Int) (l2 : List LL) (l3 : List LN) (h2 : l2.length ≤ 1048576) (h3 : l3.length ≤ 1048576) (hy : ∀ y ∈ l2, smallL y) (k : Nat) (hk : 2097160 ≤ k) : laws_toTable.f k t0 t1 l2 l3 = some (t0, t1, l2.map toL, l3.map toN) := by
  unfold laws_toTable.f laws_toLockS.f laws_toSeenS.f
  rw [if_pos (by omega), if_pos (by omega), if_pos (by omega), if_pos (by omega)]
  have e1 := toL_l0 l2 h2 hy l2.length k (List.replicate ((l2.length : Int) : Int).toNat z70) 0 (by omega) (by simp) (by simp) (by omega)
  have e2 := toN_l0 l3 h3 l3.length k (List.replicate ((l3.length : Int) : Int).toNat z77) 0 (by omega) (by simp) (by simp) (by omega)
  have e1' : laws_toLockS.l0 k l2 (List.replicate ((l2.length : Int) : Int).toNat z70) 0 = some (l2.map toL) := e1
  have e2' : laws_toSeenS.l0 k l3 (List.replicate ((l3.length : Int) : Int).toNat z77) 0 = some (l3.map toN) := e2
  rw [e1', Option.bind_some, e2', Option.bind_some]

/-! snippet nameP -/
def letterP (c : Int) : Bool := (decide (97 ≤ c) && decide (c ≤ 122)) || (decide (65 ≤ c) && decide (c ≤ 90)) || decide (c = 95)
def digitP (c : Int) : Bool := decide (48 ≤ c) && decide (c ≤ 57)
/-- All bytes from place i on, d of them, are letters or digits. -/
def restP (s : ByteArray) : Nat → Int → Bool
  | 0, _ => true
  | d + 1, i => (letterP (bt s i) || digitP (bt s i)) && restP s d (i + 1)
def nameP (s : ByteArray) : Bool := decide (1 ≤ s.size) && decide (s.size ≤ 40) && letterP (bt s 0) && restP s (s.size - 1) 1

/-! snippet specName -/
theorem specLetter_tells (c : Int) : spec_l00Letter.f c = some (letterP c) := by
  unfold spec_l00Letter.f letterP
  by_cases h1 : c ≥ 97
  · by_cases h2 : c ≤ 122
    · simp [h1, h2]
    · have h3 : ¬ c ≤ 90 := by omega
      simp [h1, h2, h3, show c ≥ 65 by omega]
      try rw [Bool.eq_iff_iff]
      try simp
  · by_cases h3 : c ≥ 65
    · by_cases h4 : c ≤ 90
      · simp [h1, h3, h4]
      · simp [h1, h3, h4]; try rw [Bool.eq_iff_iff]; simp
    · simp [h1, h3]; try rw [Bool.eq_iff_iff]; simp
theorem specDigit_tells (c : Int) : spec_l00Digit.f c = some (digitP c) := by
  unfold spec_l00Digit.f digitP
  by_cases h : c ≥ 48
  · rw [if_pos h, decide_eq_true h]; rfl
  · rw [if_neg h, decide_eq_false h]; rfl
theorem specWord_l0 (s : ByteArray) (hs : s.size ≤ 140737488351232) (d : Nat) : ∀ (k : Nat) (i : Int), 0 ≤ i → (s.size : Int) - i = d → d < k → spec_l00Word.l0 k s i = some (restP s d i) := by
  induction d with
  | zero =>
    intro k i h0 hd hk
    obtain ⟨k, rfl⟩ := nat_pos_succ hk
    simp only [spec_l00Word.l0, restP]
    rw [if_neg (by omega)]
  | succ d ih =>
    intro k i h0 hd hk
    obtain ⟨k, rfl⟩ := nat_pos_succ hk
    simp only [spec_l00Word.l0, restP]
    rw [if_pos (by omega), if_pos h0, specLetter_tells, specDigit_tells, wrap_id (by omega) (by omega), ih k (i + 1) (by omega) (by omega) (by omega)]
    simp only [Option.bind_some]
    cases hl : letterP (bt s i) <;> cases hg : digitP (bt s i) <;> simp
theorem specWord_tells (s : ByteArray) (hs : s.size ≤ 140737488351232) (k : Nat) (hk : s.size + 2 ≤ k) : spec_l00Word.f k s = some (nameP s) := by
  obtain ⟨k, rfl⟩ : ∃ m, k = m + 1 := ⟨k - 1, by omega⟩
  unfold spec_l00Word.f nameP
  simp only [spec_l00Word.j0]
  by_cases h1 : (s.size : Int) < 1
  · rw [if_pos h1]; simp; intro h; omega
  by_cases h2 : (s.size : Int) > 40
  · rw [if_neg h1, if_pos h2]; simp; intro _ h; omega
  rw [if_neg h1, if_neg h2, if_pos (by omega), specLetter_tells]
  simp only [Option.bind_some]
  rw [decide_eq_true (show 1 ≤ s.size by omega), decide_eq_true (show s.size ≤ 40 by omega), specWord_l0 s hs (s.size - 1) k 1 (by omega) (by omega) (by omega)]
  cases hl : letterP (bt s 0) <;> simp
theorem specName_tells (s : ByteArray) (hs : s.size ≤ 140737488351232) (k : Nat) (hk : s.size + 2 ≤ k) : spec_NameOK.f k s = some (nameP s) := by
  unfold spec_NameOK.f
  rw [specWord_tells s hs k hk]
  rfl

/-! snippet implName -/
theorem isLetter_tells (c : Int) : impl_isLetter.f c = some (letterP c) := by
  unfold impl_isLetter.f letterP
  by_cases h1 : c ≥ 97
  · by_cases h2 : c ≤ 122
    · simp [h1, h2]
    · have h3 : ¬ c ≤ 90 := by omega
      simp [h1, h2, h3, show c ≥ 65 by omega]
      try rw [Bool.eq_iff_iff]
      try simp
  · by_cases h3 : c ≥ 65
    · by_cases h4 : c ≤ 90
      · simp [h1, h3, h4]
      · simp [h1, h3, h4]; try rw [Bool.eq_iff_iff]; simp
    · simp [h1, h3]; try rw [Bool.eq_iff_iff]; simp
theorem implName_l0 (s : ByteArray) (hs : s.size ≤ 140737488351232) (d : Nat) : ∀ (k : Nat) (i : Int), 0 ≤ i → (s.size : Int) - i = d → d < k → impl_NameOK.l0 k s s.size i = some (restP s d i) := by
  induction d with
  | zero =>
    intro k i h0 hd hk
    obtain ⟨k, rfl⟩ := nat_pos_succ hk
    simp only [impl_NameOK.l0, restP]
    rw [if_neg (by omega)]
  | succ d ih =>
    intro k i h0 hd hk
    obtain ⟨k, rfl⟩ := nat_pos_succ hk
    simp only [impl_NameOK.l0, restP]
    rw [if_pos (by omega), if_pos h0, if_pos (by omega), isLetter_tells, wrap_id (by omega) (by omega), ih k (i + 1) (by omega) (by omega) (by omega)]
    simp only [Option.bind_some]
    cases hl : letterP (bt s i)
    · unfold digitP
      by_cases h1 : bt s i < 48
      · simp [h1, show ¬ 48 ≤ bt s i by omega]
      · by_cases h2 : bt s i > 57
        · simp [h1, h2, show ¬ bt s i ≤ 57 by omega]
        · simp [h1, h2, show bt s i ≤ 57 by omega, show 48 ≤ bt s i by omega]
    · simp
theorem implName_tells (s : ByteArray) (hs : s.size ≤ 140737488351232) (k : Nat) (hk : s.size + 2 ≤ k) : impl_NameOK.f k s = some (nameP s) := by
  obtain ⟨k, rfl⟩ : ∃ m, k = m + 1 := ⟨k - 1, by omega⟩
  unfold impl_NameOK.f nameP
  simp only [impl_NameOK.j0]
  by_cases h1 : (s.size : Int) < 1
  · rw [if_pos h1]; simp; intro h; omega
  by_cases h2 : (s.size : Int) > 40
  · rw [if_neg h1, if_pos h2]; simp; intro _ h; omega
  rw [if_neg h1, if_neg h2, if_pos (by omega), isLetter_tells]
  simp only [Option.bind_some]
  rw [decide_eq_true (show 1 ≤ s.size by omega), decide_eq_true (show s.size ≤ 40 by omega), implName_l0 s hs s.size k 0 (by omega) (by omega) (by omega)]
  obtain ⟨d, hd⟩ : ∃ d, s.size = d + 1 := ⟨s.size - 1, by omega⟩
  rw [hd]
  cases hl : letterP (bt s 0) <;> simp [restP, hl]

/-! snippet tabText -/
theorem specText12_tells (s : ByteArray) : spec_l02Text.f 99 s 12 = some (decide (s.size ≤ 12) && nameP s) := by
  unfold spec_l02Text.f spec_l01In.f
  by_cases h1 : (s.size : Int) ≥ 1
  · rw [if_pos h1, Option.bind_some]
    by_cases h2 : (s.size : Int) ≤ 12
    · rw [decide_eq_true h2, if_pos rfl, specName_tells s (by omega) 99 (by omega), Option.bind_some, decide_eq_true (show s.size ≤ 12 by omega)]
      rfl
    · rw [decide_eq_false h2, if_neg (by decide), decide_eq_false (show ¬ s.size ≤ 12 by omega)]
      rfl
  · rw [if_neg h1, Option.bind_some, if_neg (by decide)]
    have : nameP s = false := by
      unfold nameP
      rw [decide_eq_false (show ¬ 1 ≤ s.size by omega)]
      rfl
    rw [this, Bool.and_false]
theorem implText12_tells (s : ByteArray) : impl_isOpName.f 99 s = some (decide (s.size ≤ 12) && nameP s) := by
  unfold impl_isOpName.f
  by_cases h2 : (s.size : Int) ≤ 12
  · rw [if_pos h2, implName_tells s (by omega) 99 (by omega), Option.bind_some, decide_eq_true (show s.size ≤ 12 by omega)]
    rfl
  · rw [if_neg h2, decide_eq_false (show ¬ s.size ≤ 12 by omega)]
    rfl
theorem textB_tells (s : ByteArray) : textB s 12 = (decide (s.size ≤ 12) && nameP s) := by
  unfold textB
  rw [specText12_tells]
  rfl
theorem textI_tells (s : ByteArray) : textI s = (decide (s.size ≤ 12) && nameP s) := by
  unfold textI
  rw [implText12_tells]
  rfl

/-! snippet tabEq -/
theorem rdW_at (l : List S73) (k : Nat) : rd_T73 l (k : Int) = l.getD k z73 := by
  unfold rd_T73
  rw [Int.toNat_natCast]
theorem waitsF_tells (c : Int) : ∀ (l : List S73) (i : Int) (k : Nat), k < l.length → (l.getD k z73).f0 = c →
    decide (waitsF c l i < i + k) = !((List.range k).all fun j => !((l.getD j z73).f0 == c)) := by
  intro l
  induction l with
  | nil => intro i k hk; simp at hk
  | cons s l ih =>
    intro i k hk hc
    by_cases hs : s.f0 = c
    · rw [waitsF, if_pos hs]
      cases k with
      | zero => simp
      | succ k =>
        rw [decide_eq_true (by omega), List.range_succ_eq_map, List.all_cons]
        have : (!(((s :: l).getD 0 z73).f0 == c)) = false := by simp [hs]
        rw [this]
        rfl
    · cases k with
      | zero => exact absurd (by simpa using hc) hs
      | succ k =>
        have h := ih (i + 1) k (by simpa using hk) (by simpa using hc)
        rw [waitsF, if_neg hs, List.range_succ_eq_map, List.all_cons, List.all_map]
        have h0 : (!(((s :: l).getD 0 z73).f0 == c)) = true := by simp [hs]
        rw [h0, Bool.true_and, show i + ((k + 1 : Nat) : Int) = i + 1 + (k : Int) by omega, h]
        rfl
theorem wait_same (h : Int) (ws : List S73) (k : Nat) (hk : k < ws.length) : waitB h ws k = waitI h ws k := by
  have e := waitsF_tells (ws.getD k z73).f0 ws 0 k hk rfl
  rw [Int.zero_add] at e
  unfold waitB waitI
  simp only [rdW_at]
  rw [e, Bool.not_not]
  cases inB (ws.getD k z73).f0 0 255 <;> cases inB (ws.getD k z73).f1 1 1000 <;> cases ((ws.getD k z73).f0 == h) <;> rfl
theorem all_range_congr (n : Nat) (f g : Nat → Bool) (h : ∀ k, k < n → f k = g k) : (List.range n).all f = (List.range n).all g := by
  rw [Bool.eq_iff_iff, List.all_eq_true, List.all_eq_true]
  constructor
  · intro H x hx
    rw [← h x (List.mem_range.1 hx)]
    exact H x hx
  · intro H x hx
    rw [h x (List.mem_range.1 hx)]
    exact H x hx
theorem lock_same (next : Int) (ls : List S70) (i : Nat) : lockB next ls i = lockIB next ls i := by
  unfold lockB headB lockIB lockI
  generalize rd_T70 ls (i : Int) = x
  generalize (i == 0 || Op.bytesLess (rd_T70 ls ((i : Int) - 1)).f0.toList x.f0.toList) = o
  rw [textB_tells, textI_tells, all_range_congr _ _ _ (fun k hk => wait_same x.f2 x.f4 k hk)]
  generalize (List.range x.f4.length).all (waitI x.f2 x.f4) = A
  generalize (decide (x.f0.size ≤ 12) && nameP x.f0) = T
  by_cases hb : inB x.f2 (-1) 255 = true
  · rw [hb]
    have h1 : decide (x.f2 < 0) = (x.f2 == -1) := by
      unfold inB at hb
      simp only [Bool.and_eq_true, decide_eq_true_eq] at hb
      rw [Bool.eq_iff_iff, decide_eq_true_eq, beq_iff_eq]
      omega
    have h2 : (!(x.f4.length == 0)) = decide (0 < x.f4.length) := by
      generalize x.f4.length = n
      cases n <;> simp
    rw [h1, h2]
    cases T <;> cases o <;> cases inB x.f1 0 (next - 1) <;> cases inB x.f3 0 2000000000 <;> cases decide (x.f4.length ≤ 4) <;> simp
  · rw [Bool.not_eq_true] at hb
    rw [hb]
    cases T <;> cases o <;> cases inB x.f1 0 (next - 1) <;> simp
theorem table_same (t0 t1 : Int) (l2 : List S70) (l3 : List S77) : tableB t0 t1 l2 l3 = tableI t0 t1 l2 l3 := by
  unfold tableB tableI
  rw [all_range_congr _ _ _ (fun k _ => lock_same t1 l2 k)]
theorem spec_TableOK_tells (t0 t1 : Int) (l2 : List S70) (l3 : List S77) : spec_TableOK.f t0 t1 l2 l3 = some (tableB t0 t1 l2 l3) := by
  unfold spec_TableOK.f
  rw [if_pos]
  rw [List.all_eq_true]
  intro x _
  rw [specText12_tells]
  rfl
theorem impl_TableOK_tells (t0 t1 : Int) (l2 : List S70) (l3 : List S77) : impl_TableOK.f t0 t1 l2 l3 = some (tableB t0 t1 l2 l3) := by
  rw [table_same]
  unfold impl_TableOK.f
  rw [if_pos]
  rw [List.all_eq_true]
  intro x _
  rw [implText12_tells]
  rfl

/-! snippet nums -/
namespace Sha
theorem bytesOf_nums (l : List Int) (h : ∀ x ∈ l, 0 ≤ x ∧ x < 256) : bytesOf (strOfNums l) = l := by
  unfold bytesOf strOfNums
  simp only [List.map_map]
  conv => rhs; rw [← List.map_id l]
  apply List.map_congr_left
  intro x hx
  obtain ⟨h0, h1⟩ := h x hx
  simp only [Function.comp_apply, id_eq, UInt8.toNat_ofNat']
  omega
theorem nums_bytesOf (t : ByteArray) : strOfNums (bytesOf t) = t := by
  obtain ⟨⟨l⟩⟩ := t
  unfold bytesOf strOfNums
  simp only [List.map_map]
  have h : List.map ((fun n : Int => UInt8.ofNat n.toNat) ∘ fun b : UInt8 => (b.toNat : Int)) l = l := by
    conv => rhs; rw [← List.map_id l]
    apply List.map_congr_left
    intro x _
    simp
  rw [h]
theorem bytesOf_le (t : ByteArray) : ∀ x ∈ bytesOf t, 0 ≤ x ∧ x < 256 := by
  intro x hx
  unfold bytesOf at hx
  obtain ⟨b, _, rfl⟩ := List.mem_map.1 hx
  have := b.toNat_lt
  omega
theorem ba_ext {a b : ByteArray} (h : a.data.toList = b.data.toList) : a = b := by
  obtain ⟨⟨a⟩⟩ := a
  obtain ⟨⟨b⟩⟩ := b
  simp only at h
  rw [h]
theorem ba_app (a b : ByteArray) : (a ++ b).data.toList = a.data.toList ++ b.data.toList := by simp
theorem nums_app (a b : List Int) : strOfNums (a ++ b) = strOfNums a ++ strOfNums b := by
  apply ba_ext
  rw [ba_app]
  simp [strOfNums]
theorem bytes_app (a b : ByteArray) : bytesOf (a ++ b) = bytesOf a ++ bytesOf b := by
  unfold bytesOf
  rw [ba_app, List.map_append]
def num (x : Int) : Nat → List Int → List Int
  | 0, l => l
  | k + 1, l => num (x / 256) k (l.set k (x % 256))
theorem num4 (n : Int) : num n 4 (List.replicate 4 0) = [n / 16777216 % 256, n / 65536 % 256, n / 256 % 256, n % 256] := by
  show [n / 256 / 256 / 256 % 256, n / 256 / 256 % 256, n / 256 % 256, n % 256] = _
  rw [show n / 256 / 256 = n / 65536 by omega, show n / 65536 / 256 = n / 16777216 by omega]
end Sha

/-! snippet number -/
theorem number_l0 (d : Nat) : ∀ (k : Nat) (x : Int) (l : List Int), d ≤ l.length → l.length ≤ 65536 → d < k → impl_number.l0 k x l ((d : Int) - 1) = some (strOfNums (Sha.num x d l)) := by
  induction d with
  | zero =>
    intro k x l _ _ hk
    obtain ⟨k, rfl⟩ := nat_pos_succ hk
    rw [impl_number.l0, if_neg (by omega)]
    rfl
  | succ d ih =>
    intro k x l hd hl hk
    obtain ⟨k, rfl⟩ := nat_pos_succ hk
    rw [impl_number.l0, if_pos (by omega), if_pos (by omega), if_pos (by omega)]
    have h1 : wrap64 (((d + 1 : Nat) : Int) - 1 - 1) = (d : Int) - 1 := by rw [wrap_id (by omega) (by omega)]; omega
    have h2 : (((d + 1 : Nat) : Int) - 1).toNat = d := by omega
    rw [h1, h2, ih _ _ _ (by rw [List.length_set]; omega) (by rw [List.length_set]; exact hl) (by omega)]
    rfl
theorem number_tells (n : Nat) (x : Int) (h0 : n ≤ 65536) (k : Nat) (hk : n < k) : impl_number.f k x n = some (strOfNums (Sha.num x n (List.replicate n 0))) := by
  rw [impl_number.f, if_pos (by omega), if_pos (by omega), wrap_id (by omega) (by omega), Int.toNat_natCast]
  exact number_l0 n k x _ (by simp) (by simp; omega) hk
theorem number1 (x : Int) (k : Nat) (hk : 1 < k) : impl_number.f k x 1 = some (strOfNums [x % 256]) := number_tells 1 x (by omega) k hk
theorem number2 (x : Int) (k : Nat) (hk : 2 < k) : impl_number.f k x 2 = some (strOfNums [x / 256 % 256, x % 256]) := number_tells 2 x (by omega) k hk
theorem number4 (x : Int) (k : Nat) (hk : 4 < k) : impl_number.f k x 4 = some (strOfNums [x / 16777216 % 256, x / 65536 % 256, x / 256 % 256, x % 256]) := by
  rw [← Sha.num4]
  exact number_tells 4 x (by omega) k hk
theorem ba_assoc (a b c : ByteArray) : a ++ b ++ c = a ++ (b ++ c) := by
  apply Sha.ba_ext
  simp
theorem nums_size1 (x : Int) : (strOfNums [x]).size = 1 := rfl

/-! snippet u64 -/
theorem u64_small (x : Int) (h0 : 0 ≤ x) (h1 : x ≤ 100) : IntKind.u64.wrap x = x := by
  simp only [IntKind.wrap, IntKind.bits, IntKind.signed]
  simp
  omega

/-! snippet l02 -/
def numS (n : Int) : Nat → List Int
  | 0 => []
  | d + 1 => (shr .i64 n (8 * (d : Int))) % 256 :: numS n d
theorem l02_l0 (n : Int) (d : Nat) : ∀ (k : Nat) (xs : List Int), d ≤ 8 → xs.length ≤ 1000 - d → d < k → spec_l02Number.l0 k n xs ((d : Int) - 1) = some (xs ++ numS n d) := by
  induction d with
  | zero =>
    intro k xs _ _ hk
    obtain ⟨k, rfl⟩ := nat_pos_succ hk
    rw [spec_l02Number.l0, if_neg (by omega), numS, List.append_nil]
  | succ d ih =>
    intro k xs hd hx hk
    obtain ⟨k, rfl⟩ := nat_pos_succ hk
    rw [spec_l02Number.l0, if_pos (by omega), show ((d + 1 : Nat) : Int) - 1 = d by omega, wrap_id (x := 8 * (d : Int)) (by omega) (by omega), u64_small (8 * (d : Int)) (by omega) (by omega), if_pos (by omega), if_pos (by omega), wrap_id (by omega) (by omega), ih k _ (by omega) (by rw [List.length_append]; simp only [List.length_cons, List.length_nil]; omega) (by omega), numS, List.append_assoc]
    rfl
def num4L (n : Int) : List Int := [n / 16777216 % 256, n / 65536 % 256, n / 256 % 256, n % 256]
theorem shr8 (n : Int) : shr .i64 n 8 = n / 256 := rfl
theorem shr16 (n : Int) : shr .i64 n 16 = n / 65536 := rfl
theorem shr24 (n : Int) : shr .i64 n 24 = n / 16777216 := rfl
theorem shr0 (n : Int) : shr .i64 n 0 = n := by unfold shr; simp
theorem numS4 (n : Int) : numS n 4 = num4L n := by
  simp only [numS, num4L]
  rw [show (8 : Int) * ((3 : Nat) : Int) = 24 from rfl, show (8 : Int) * ((2 : Nat) : Int) = 16 from rfl, show (8 : Int) * ((1 : Nat) : Int) = 8 from rfl, show (8 : Int) * ((0 : Nat) : Int) = 0 from rfl, shr24, shr16, shr8, shr0]
theorem l02_4 (n : Int) (k : Nat) (hk : 4 < k) : spec_l02Number.f k n 4 = some (num4L n) := by
  unfold spec_l02Number.f
  rw [wrap_id (by omega) (by omega), ← numS4]
  exact l02_l0 n 4 k [] (by omega) (by simp) hk
theorem num4L_le (n : Int) : ∀ x ∈ num4L n, 0 ≤ x ∧ x < 256 := by
  intro x hx
  simp only [num4L, List.mem_cons, List.not_mem_nil, or_false] at hx
  rcases hx with rfl | rfl | rfl | rfl <;> omega

/-! snippet l02b -/
def num2L (n : Int) : List Int := [n / 256 % 256, n % 256]
theorem numS2 (n : Int) : numS n 2 = num2L n := by
  simp only [numS, num2L]
  rw [show (8 : Int) * ((1 : Nat) : Int) = 8 from rfl, show (8 : Int) * ((0 : Nat) : Int) = 0 from rfl, shr8, shr0]
theorem l02_2 (n : Int) (k : Nat) (hk : 2 < k) : spec_l02Number.f k n 2 = some (num2L n) := by
  unfold spec_l02Number.f
  rw [wrap_id (by omega) (by omega), ← numS2]
  exact l02_l0 n 2 k [] (by omega) (by simp) hk
theorem num2L_le (n : Int) : ∀ x ∈ num2L n, 0 ≤ x ∧ x < 256 := by
  intro x hx
  simp only [num2L, List.mem_cons, List.not_mem_nil, or_false] at hx
  rcases hx with rfl | rfl <;> omega

/-! snippet tabBytesS -/
def num3L (n : Int) : List Int := [n / 65536 % 256, n / 256 % 256, n % 256]
theorem numS3 (n : Int) : numS n 3 = num3L n := by
  simp only [numS, num3L]
  rw [show (8 : Int) * ((2 : Nat) : Int) = 16 from rfl, show (8 : Int) * ((1 : Nat) : Int) = 8 from rfl, show (8 : Int) * ((0 : Nat) : Int) = 0 from rfl, shr16, shr8, shr0]
theorem l02_3 (n : Int) (k : Nat) (hk : 3 < k) : spec_l02Number.f k n 3 = some (num3L n) := by
  unfold spec_l02Number.f
  rw [wrap_id (by omega) (by omega), ← numS3]
  exact l02_l0 n 3 k [] (by omega) (by simp) hk
theorem number3 (x : Int) (k : Nat) (hk : 3 < k) : impl_number.f k x 3 = some (strOfNums (num3L x)) := by
  have h : Sha.num x 3 (List.replicate 3 0) = num3L x := by
    show [x / 256 / 256 % 256, x / 256 % 256, x % 256] = _
    rw [show x / 256 / 256 = x / 65536 by omega]
    rfl
  rw [← h]
  exact number_tells 3 x (by omega) k hk
def waiterT (x : IW) : ByteArray := strOfNums [x.f0 % 256] ++ strOfNums (num2L x.f1)
def catT (l : List ByteArray) : ByteArray := l.foldr (· ++ ·) ⟨#[]⟩
def lockH (x : IL) : ByteArray := strOfNums [(x.f0.size : Int) % 256] ++ x.f0 ++ strOfNums (num3L x.f1) ++ strOfNums (num2L (wrap64 (x.f2 + 1))) ++ strOfNums (num4L x.f3) ++ strOfNums [(x.f4.length : Int) % 256]
def lockT (x : IL) : ByteArray := lockH x ++ catT (x.f4.map waiterT)
def ansT (x : S75) : ByteArray := strOfNums [x.f0 % 256] ++ strOfNums (num3L x.f1) ++ strOfNums (num2L (wrap64 (x.f2 + 1))) ++ strOfNums (num4L x.f3)
def seenT (x : IN) : ByteArray := strOfNums [x.f0 % 256] ++ strOfNums (num2L x.f1) ++ ansT x.f2
def headT (t0 t1 : Int) (n : Nat) : ByteArray := strOfNums (num4L t0) ++ strOfNums (num3L t1) ++ strOfNums [(n : Int) % 256]
def tableT (t0 t1 : Int) (l2 : List IL) (l3 : List IN) : ByteArray := headT t0 t1 l2.length ++ catT (l2.map lockT) ++ strOfNums [(l3.length : Int) % 256] ++ catT (l3.map seenT)
theorem b1 (n : Int) : bytesOf (strOfNums [n % 256]) = [n % 256] := Sha.bytesOf_nums _ (by intro x hx; simp only [List.mem_cons, List.not_mem_nil, or_false] at hx; subst hx; omega)
theorem b2 (n : Int) : bytesOf (strOfNums (num2L n)) = num2L n := Sha.bytesOf_nums _ (num2L_le n)
theorem b3 (n : Int) : bytesOf (strOfNums (num3L n)) = num3L n := Sha.bytesOf_nums _ (by intro x hx; simp only [num3L, List.mem_cons, List.not_mem_nil, or_false] at hx; rcases hx with rfl | rfl | rfl <;> omega)
theorem b4 (n : Int) : bytesOf (strOfNums (num4L n)) = num4L n := Sha.bytesOf_nums _ (num4L_le n)
theorem s1 (n : Int) : (strOfNums [n]).size = 1 := rfl
theorem s2 (n : Int) : (strOfNums (num2L n)).size = 2 := rfl
theorem s3 (n : Int) : (strOfNums (num3L n)).size = 3 := rfl
theorem s4 (n : Int) : (strOfNums (num4L n)).size = 4 := rfl
theorem n2 (n : Int) : (num2L n).length = 2 := rfl
theorem n3 (n : Int) : (num3L n).length = 3 := rfl
theorem n4 (n : Int) : (num4L n).length = 4 := rfl
theorem bytesOf_len (s : ByteArray) : (bytesOf s).length = s.size := by
  unfold bytesOf
  rw [List.length_map]
  exact data_length s
theorem cat_nil : catT [] = ⟨#[]⟩ := rfl
theorem cat_cons (a : ByteArray) (l : List ByteArray) : catT (a :: l) = a ++ catT l := rfl
theorem app_nil (a : ByteArray) : a ++ (⟨#[]⟩ : ByteArray) = a := by apply Sha.ba_ext; simp
theorem cat_drop {α : Type} (f : α → ByteArray) (l : List α) (i : Nat) (hi : i < l.length) : catT ((l.drop i).map f) = f l[i] ++ catT ((l.drop (i + 1)).map f) := by
  rw [List.drop_eq_getElem_cons hi, List.map_cons, cat_cons]
theorem cat_end {α : Type} (f : α → ByteArray) (l : List α) (i : Nat) (hi : l.length ≤ i) : catT ((l.drop i).map f) = ⟨#[]⟩ := by
  rw [List.drop_eq_nil_of_le hi]
  rfl
theorem waiterT_size (x : IW) : (waiterT x).size = 3 := by unfold waiterT; rw [ByteArray.size_append, s1, s2]
theorem seenT_size (x : IN) : (seenT x).size = 13 := by unfold seenT ansT; simp only [ByteArray.size_append, s1, s2, s3, s4]
theorem rdIW_at (l : List IW) (i : Nat) (hi : i < l.length) : rd_T73 l (i : Int) = l[i] := by
  unfold rd_T73
  simp [List.getD_eq_getElem?_getD, hi]
theorem rdIL_at (l : List IL) (i : Nat) (hi : i < l.length) : rd_T70 l (i : Int) = l[i] := by
  unfold rd_T70
  simp [List.getD_eq_getElem?_getD, hi]
theorem rdIN_at (l : List IN) (i : Nat) (hi : i < l.length) : rd_T77 l (i : Int) = l[i] := by
  unfold rd_T77
  simp [List.getD_eq_getElem?_getD, hi]
/-! the reference -/
theorem specB_l2 (t0 t1 : Int) (l2 : List IL) (l3 : List IN) (h3 : l3.length ≤ 6) (d : Nat) : ∀ (k : Nat) (x : List Int) (i : Nat), l3.length = i + d → x.length ≤ 100000 - 13 * d → d + 6 < k → spec_l05Bytes.l2 k x i t0 t1 l2 l3 = some (x ++ bytesOf (catT ((l3.drop i).map seenT))) := by
  induction d with
  | zero =>
    intro k x i hd hx hk
    obtain ⟨k, rfl⟩ := nat_pos_succ hk
    rw [spec_l05Bytes.l2, if_neg (by omega), cat_end _ _ _ (by omega)]
    simp [bytesOf]
  | succ d ih =>
    intro k x i hd hx hk
    obtain ⟨k, rfl⟩ := nat_pos_succ hk
    have hi : i < l3.length := by omega
    rw [spec_l05Bytes.l2, if_pos (by omega), if_pos (by omega), rdIN_at l3 i hi]
    simp only [Option.bind_some, l02_2 _ k (by omega), l02_3 _ k (by omega), l02_4 _ k (by omega)]
    simp only [List.length_append, List.length_cons, List.length_nil, n2, n3, n4]
    rw [if_pos (by omega), if_pos (by omega), if_pos (by omega), if_pos (by omega), if_pos (by omega), if_pos (by omega), wrap_id (x := (i : Int) + 1) (by omega) (by omega)]
    have e := ih k (x ++ bytesOf (seenT l3[i])) (i + 1) (by omega) (by rw [List.length_append, bytesOf_len, seenT_size]; omega) (by omega)
    rw [cat_drop seenT l3 i hi, Sha.bytes_app, ← List.append_assoc, ← e]
    unfold seenT ansT
    simp only [Sha.bytes_app, b1, b2, b3, b4, List.append_assoc]
    rfl
theorem specB_l1 (t0 t1 : Int) (l2 : List IL) (l3 : List IN) (nm : ByteArray) (a b c : Int) (ws : List IW) (hw : ws.length ≤ 4) (i : Nat) (hi : i ≤ 4) (d : Nat) : ∀ (k : Nat) (x : List Int) (j : Nat), ws.length = j + d → x.length ≤ 100000 - 3 * d → 6 < k → spec_l05Bytes.l1 (k + d + 1) x i j t0 t1 l2 l3 nm a b c ws = spec_l05Bytes.l0 k (x ++ bytesOf (catT ((ws.drop j).map waiterT))) ((i + 1 : Nat) : Int) t0 t1 l2 l3 := by
  induction d with
  | zero =>
    intro k x j hd hx hk
    rw [spec_l05Bytes.l1, if_neg (by omega), cat_end _ _ _ (by omega), wrap_id (x := (i : Int) + 1) (by omega) (by omega)]
    simp [bytesOf]
  | succ d ih =>
    intro k x j hd hx hk
    have hj : j < ws.length := by omega
    rw [spec_l05Bytes.l1, if_pos (by omega), if_pos (by omega), rdIW_at ws j hj]
    simp only [Option.bind_some, l02_2 _ (k + (d + 1)) (by omega)]
    simp only [List.length_append, List.length_cons, List.length_nil, n2]
    rw [if_pos (by omega), if_pos (by omega), wrap_id (x := (j : Int) + 1) (by omega) (by omega)]
    have e := ih k (x ++ bytesOf (waiterT ws[j])) (j + 1) (by omega) (by rw [List.length_append, bytesOf_len, waiterT_size]; omega) (by omega)
    rw [cat_drop waiterT ws j hj, Sha.bytes_app, ← List.append_assoc, ← e, show k + (d + 1) = k + d + 1 by omega]
    unfold waiterT
    simp only [Sha.bytes_app, b1, b2, List.append_assoc]
    rfl
theorem catW_size (ws : List IW) : (catT (ws.map waiterT)).size = 3 * ws.length := by
  induction ws with
  | nil => rfl
  | cons s l ih => rw [List.map_cons, cat_cons, ByteArray.size_append, waiterT_size, ih, List.length_cons]; omega
theorem lockT_size (x : IL) : (lockT x).size = 11 + x.f0.size + 3 * x.f4.length := by
  unfold lockT lockH
  simp only [ByteArray.size_append, s1, s2, s3, s4, catW_size]
  omega
theorem specB_l0 (t0 t1 : Int) (l2 : List IL) (l3 : List IN) (h2 : l2.length ≤ 4) (h3 : l3.length ≤ 6) (hy : ∀ y ∈ l2, y.f0.size ≤ 12 ∧ y.f4.length ≤ 4) (d : Nat) : ∀ (k : Nat) (x : List Int) (i : Nat), l2.length = i + d → x.length ≤ 1000 - 40 * d → 6 * d + 20 < k → spec_l05Bytes.l0 k x i t0 t1 l2 l3 = some (x ++ bytesOf (catT ((l2.drop i).map lockT)) ++ [(l3.length : Int) % 256] ++ bytesOf (catT (l3.map seenT))) := by
  induction d with
  | zero =>
    intro k x i hd hx hk
    obtain ⟨k, rfl⟩ := nat_pos_succ hk
    rw [spec_l05Bytes.l0, if_neg (by omega), cat_end _ _ _ (by omega), Option.bind_some]
    simp only [List.length_cons, List.length_nil]
    have e := specB_l2 t0 t1 l2 l3 h3 l3.length k (x ++ [(l3.length : Int) % 256]) 0 (by omega) (by simp; omega) (by omega)
    rw [if_pos (by omega)]
    have e' : spec_l05Bytes.l2 k (x ++ [(l3.length : Int) % 256]) 0 t0 t1 l2 l3 = _ := e
    rw [e']
    simp [bytesOf]
  | succ d ih =>
    intro k x i hd hx hk
    obtain ⟨k, rfl⟩ := nat_pos_succ hk
    have hi : i < l2.length := by omega
    obtain ⟨hz1, hz2⟩ := hy _ (List.getElem_mem hi)
    rw [spec_l05Bytes.l0, if_pos (by omega), if_pos (by omega), rdIL_at l2 i hi]
    simp only [Option.bind_some, l02_2 _ k (by omega), l02_3 _ k (by omega), l02_4 _ k (by omega)]
    simp only [List.length_append, List.length_cons, List.length_nil, n2, n3, n4, bytesOf_len]
    rw [if_pos (by omega), if_pos (by omega), if_pos (by omega), if_pos (by omega), if_pos (by omega), if_pos (by omega)]
    obtain ⟨k', hk'⟩ : ∃ k', k = k' + l2[i].f4.length + 1 := ⟨k - l2[i].f4.length - 1, by omega⟩
    have e1 := specB_l1 t0 t1 l2 l3 l2[i].f0 l2[i].f1 l2[i].f2 l2[i].f3 l2[i].f4 hz2 i (by omega) l2[i].f4.length k' (x ++ bytesOf (lockH l2[i])) 0 (by omega) (by rw [List.length_append, bytesOf_len]; unfold lockH; simp only [ByteArray.size_append, s1, s2, s3, s4]; omega) (by omega)
    have e2 := ih k' (x ++ bytesOf (lockT l2[i])) (i + 1) (by omega) (by rw [List.length_append, bytesOf_len, lockT_size]; omega) (by omega)
    rw [cat_drop lockT l2 i hi, Sha.bytes_app, ← List.append_assoc, ← e2, hk']
    have e1' : spec_l05Bytes.l1 (k' + l2[i].f4.length + 1) (x ++ bytesOf (lockH l2[i])) i 0 t0 t1 l2 l3 l2[i].f0 l2[i].f1 l2[i].f2 l2[i].f3 l2[i].f4 = _ := e1
    rw [List.drop_zero, List.append_assoc, ← Sha.bytes_app] at e1'
    rw [show lockT l2[i] = lockH l2[i] ++ catT (l2[i].f4.map waiterT) from rfl, ← e1']
    unfold lockH
    simp only [Sha.bytes_app, b1, b2, b3, b4, List.append_assoc]
    try rfl
theorem specB_tells (t0 t1 : Int) (l2 : List IL) (l3 : List IN) (h2 : l2.length ≤ 4) (h3 : l3.length ≤ 6) (hy : ∀ y ∈ l2, y.f0.size ≤ 12 ∧ y.f4.length ≤ 4) (k : Nat) (hk : 50 < k) : spec_l05Bytes.f k t0 t1 l2 l3 = some (bytesOf (tableT t0 t1 l2 l3)) := by
  unfold spec_l05Bytes.f
  simp only [Option.bind_some, l02_3 _ k (by omega), l02_4 _ k (by omega)]
  simp only [List.length_append, List.length_cons, List.length_nil, n3, n4]
  rw [if_pos (by omega), if_pos (by omega)]
  have e := specB_l0 t0 t1 l2 l3 h2 h3 hy l2.length k (num4L t0 ++ num3L t1 ++ [(l2.length : Int) % 256]) 0 (by omega) (by simp only [List.length_append, List.length_cons, List.length_nil, n3, n4]; omega) (by omega)
  have e' : spec_l05Bytes.l0 k (num4L t0 ++ num3L t1 ++ [(l2.length : Int) % 256]) 0 t0 t1 l2 l3 = _ := e
  rw [e', List.drop_zero]
  unfold tableT headT
  simp only [Sha.bytes_app, b1, b3, b4, List.append_assoc]
theorem catL_size (ls : List IL) (hy : ∀ y ∈ ls, y.f0.size ≤ 12 ∧ y.f4.length ≤ 4) : (catT (ls.map lockT)).size ≤ 35 * ls.length := by
  induction ls with
  | nil => exact Nat.le_refl _
  | cons s l ih =>
    have h1 := hy s List.mem_cons_self
    have h2 := ih (fun y h => hy y (List.mem_cons_of_mem _ h))
    rw [List.map_cons, cat_cons, ByteArray.size_append, lockT_size, List.length_cons]
    omega
theorem catN_size (ls : List IN) : (catT (ls.map seenT)).size = 13 * ls.length := by
  induction ls with
  | nil => rfl
  | cons s l ih => rw [List.map_cons, cat_cons, ByteArray.size_append, seenT_size, ih, List.length_cons]; omega
theorem tableT_size (a0 a1 : Int) (a2 : List IL) (a3 : List IN) (h2 : a2.length ≤ 4) (h3 : a3.length ≤ 6) (hy : ∀ y ∈ a2, y.f0.size ≤ 12 ∧ y.f4.length ≤ 4) : (tableT a0 a1 a2 a3).size ≤ 1000 := by
  have e1 := catL_size a2 hy
  have e2 := catN_size a3
  unfold tableT headT
  simp only [ByteArray.size_append, s1, s3, s4]
  omega

/-! snippet small -/
theorem small_of (t0 t1 : Int) (l2 : List IL) (l3 : List IN) (h : tableB t0 t1 l2 l3 = true) : l2.length ≤ 4 ∧ l3.length ≤ 6 ∧ ∀ y ∈ l2, y.f0.size ≤ 12 ∧ y.f4.length ≤ 4 := by
  unfold tableB at h
  simp only [Bool.and_eq_true, decide_eq_true_eq, List.all_eq_true, List.mem_range] at h
  obtain ⟨_, _, h2, h3, h4, _⟩ := h
  refine ⟨h2, h3, fun y hy => ?_⟩
  obtain ⟨i, hi, rfl⟩ := List.mem_iff_getElem.1 hy
  have := h4 i hi
  unfold lockB headB at this
  rw [rdIL_at l2 i hi, textB_tells] at this
  simp only [Bool.and_eq_true, decide_eq_true_eq] at this
  obtain ⟨⟨⟨h5, _⟩, _, _, _, _, h6⟩, _⟩ := this
  exact ⟨h5, h6⟩
def goodN (y : LN) : Prop := ((Lit.int .i64 y.f0).wf = true) ∧ ((Lit.int .i64 y.f1).wf = true) ∧ (((Lit.int .i64 y.f2.f0).wf = true) ∧ ((Lit.int .i64 y.f2.f1).wf = true) ∧ ((Lit.int .i64 y.f2.f2).wf = true) ∧ (Lit.int .i64 y.f2.f3).wf = true)

/-! snippet markT -/
def mdig : Nat → Int → ByteArray → ByteArray
  | 0, _, t => (⟨#[109]⟩ : ByteArray) ++ t
  | d + 1, a, t => if a > 0 then mdig d (a / 10) (strOfNums [(48 + a % 10) % 256] ++ t) else (⟨#[109]⟩ : ByteArray) ++ t
def mtext (a : Int) : ByteArray := mdig 7 a (⟨#[]⟩ : ByteArray)
theorem mdig_l0 (d : Nat) : ∀ (k : Nat) (a : Int) (t : ByteArray), 0 ≤ a → a < 10 ^ d → a ≤ 10000000 → t.size + d ≤ 100 → d < k → laws_markText.l0 k a t = some (mdig d a t) := by
  induction d with
  | zero =>
    intro k a t h0 h1 hb ht hk
    obtain ⟨k, rfl⟩ : ∃ m, k = m + 1 := ⟨k - 1, by omega⟩
    have h1' : a < 1 := h1
    rw [laws_markText.l0, if_neg (by omega), if_pos (by omega), mdig]
  | succ d ih =>
    intro k a t h0 h1 hb ht hk
    obtain ⟨k, rfl⟩ : ∃ m, k = m + 1 := ⟨k - 1, by omega⟩
    rw [laws_markText.l0, mdig]
    by_cases h : a > 0
    · have hz : (strOfNums [(48 + a % 10) % 256]).size = 1 := by rw [strOfNums_size]; rfl
      rw [if_pos h, if_pos h, Option.bind_some, Int.tmod_eq_emod_of_nonneg h0, Int.tdiv_eq_ediv_of_nonneg h0, wrap_id (x := 48 + a % 10) (by omega) (by omega), wrap_id (x := a / 10) (by omega) (by omega), if_pos (by omega)]
      exact ih k (a / 10) _ (by omega) (Int.ediv_lt_of_lt_mul (by decide) (by rw [← Int.pow_succ]; exact h1)) (by omega) (by rw [ByteArray.size_append, hz]; omega) (by omega)
    · rw [if_neg h, if_neg h, if_pos (by omega)]
theorem markText_tells (a : Int) (h0 : 1 ≤ a) (h1 : a ≤ 5000000) (k : Nat) (hk : 8 ≤ k) : laws_markText.f k a = some (mtext a) := by
  unfold laws_markText.f
  rw [if_neg (by omega)]
  exact mdig_l0 7 k a _ (by omega) (Int.lt_of_le_of_lt h1 (by decide)) (by omega) (by decide) (by omega)

/-! snippet markBig -/
theorem mdigB_l0 (d : Nat) : ∀ (k : Nat) (a : Int) (t : ByteArray), 0 ≤ a → a < 10 ^ d → a ≤ 4611686018427387904 → t.size + d ≤ 100 → d < k → laws_markText.l0 k a t = some (mdig d a t) := by
  induction d with
  | zero =>
    intro k a t h0 h1 hb ht hk
    obtain ⟨k, rfl⟩ : ∃ m, k = m + 1 := ⟨k - 1, by omega⟩
    have h1' : a < 1 := h1
    rw [laws_markText.l0, if_neg (by omega), if_pos (by omega), mdig]
  | succ d ih =>
    intro k a t h0 h1 hb ht hk
    obtain ⟨k, rfl⟩ : ∃ m, k = m + 1 := ⟨k - 1, by omega⟩
    rw [laws_markText.l0, mdig]
    by_cases h : a > 0
    · have hz : (strOfNums [(48 + a % 10) % 256]).size = 1 := by rw [strOfNums_size]; rfl
      rw [if_pos h, if_pos h, Option.bind_some, Int.tmod_eq_emod_of_nonneg h0, Int.tdiv_eq_ediv_of_nonneg h0, wrap_id (x := 48 + a % 10) (by omega) (by omega), wrap_id (x := a / 10) (by omega) (by omega), if_pos (by omega)]
      exact ih k (a / 10) _ (by omega) (Int.ediv_lt_of_lt_mul (by decide) (by rw [← Int.pow_succ]; exact h1)) (by omega) (by rw [ByteArray.size_append, hz]; omega) (by omega)
    · rw [if_neg h, if_neg h, if_pos (by omega)]
def mbig (a : Int) : ByteArray := if a ≤ 0 then (⟨#[109,48]⟩ : ByteArray) else mdig 19 a (⟨#[]⟩ : ByteArray)
theorem markBig_tells (a : Int) (h0 : 0 ≤ a) (h1 : a ≤ 4611686018427387904) (k : Nat) (hk : 20 ≤ k) : laws_markText.f k a = some (mbig a) := by
  unfold laws_markText.f mbig
  by_cases h : a ≤ 0
  · rw [if_pos h, if_pos h]
  · rw [if_neg h, if_neg h]
    exact mdigB_l0 19 k a _ h0 (Int.lt_of_le_of_lt h1 (by decide)) h1 (by decide) (by omega)

/-! snippet byteM -/
/-- The marks that the law writes: n, n + 1, .. . -/
def marksB : Nat → Int → List Int
  | 0, _ => []
  | d + 1, m => m % 256 :: marksB d (m + 1)
theorem marksB_length (d : Nat) : ∀ m : Int, (marksB d m).length = d := by
  induction d with
  | zero => intro m; rfl
  | succ d ih => intro m; rw [marksB, List.length_cons, ih]
theorem markB_l0 (d : Nat) : ∀ (k : Nat) (x : List Int) (m : Int) (i : Nat), x.length = i + d → x.length ≤ 1048576 → 1 ≤ m → m + d ≤ 2000000 → d < k → laws_markByteS.l0 k x m i = some (m + d, x.take i ++ marksB d m) := by
  induction d with
  | zero =>
    intro k x m i hd hx h0 h1 hk
    obtain ⟨k, rfl⟩ : ∃ m, k = m + 1 := ⟨k - 1, by omega⟩
    rw [laws_markByteS.l0, if_neg (by omega), marksB, List.append_nil, List.take_of_length_le (by omega), show m + ((0 : Nat) : Int) = m by omega]
  | succ d ih =>
    intro k x m i hd hx h0 h1 hk
    obtain ⟨k, rfl⟩ : ∃ m, k = m + 1 := ⟨k - 1, by omega⟩
    rw [laws_markByteS.l0, if_pos (by omega), if_pos (by omega), wrap_id (x := m + 1) (by omega) (by omega), wrap_id (x := (i : Int) + 1) (by omega) (by omega), Int.toNat_natCast, show (i : Int) + 1 = ((i + 1 : Nat) : Int) by omega, ih k _ (m + 1) (i + 1) (by rw [List.length_set]; omega) (by rw [List.length_set]; omega) (by omega) (by omega) (by omega), marksB, List.take_succ_eq_append_getElem (by rw [List.length_set]; omega), List.getElem_set_self, List.take_set_of_le (Nat.le_refl i), List.append_assoc, show m + 1 + (d : Int) = m + ((d + 1 : Nat) : Int) by omega]
    rfl
theorem markB_tells (x : List Int) (hx : x.length ≤ 1048576) (k : Nat) (hk : 1048577 ≤ k) : laws_markByteS.f k x 1 = some (1 + (x.length : Int), marksB x.length 1) := by
  unfold laws_markByteS.f
  have := markB_l0 x.length k x 1 0 (by omega) hx (by omega) (by omega) (by omega)
  simpa using this
theorem heldB_l0 (d : Nat) : ∀ (k : Nat) (x : List Int) (m : Int) (i : Nat), x.length = i + d → x.length ≤ 1048576 → x.drop i = marksB d m → 1 ≤ m → m + d ≤ 2000000 → d < k → laws_heldByteS.l0 k x m i = some (m + d) := by
  induction d with
  | zero =>
    intro k x m i hd hx e h0 h1 hk
    obtain ⟨k, rfl⟩ : ∃ m, k = m + 1 := ⟨k - 1, by omega⟩
    rw [laws_heldByteS.l0, if_neg (by omega), show m + ((0 : Nat) : Int) = m by omega]
  | succ d ih =>
    intro k x m i hd hx e h0 h1 hk
    obtain ⟨k, rfl⟩ : ∃ m, k = m + 1 := ⟨k - 1, by omega⟩
    have hi : i < x.length := by omega
    rw [List.drop_eq_getElem_cons hi, marksB] at e
    injection e with e1 e2
    have er : rd x i = x[i] := by unfold rd; simp [List.getD_eq_getElem?_getD, hi]
    rw [laws_heldByteS.l0, if_pos (by omega), if_pos (by omega), er, e1, if_pos rfl, wrap_id (x := m + 1) (by omega) (by omega), wrap_id (x := (i : Int) + 1) (by omega) (by omega), show (i : Int) + 1 = ((i + 1 : Nat) : Int) by omega, ih k x (m + 1) (i + 1) (by omega) hx e2 (by omega) (by omega) (by omega), show m + 1 + (d : Int) = m + ((d + 1 : Nat) : Int) by omega]
theorem heldB_tells (n : Nat) (hn : n ≤ 900000) (k : Nat) (hk : 1048577 ≤ k) : laws_heldByteS.f k (marksB n 1) 1 = some (1 + (n : Int)) := by
  unfold laws_heldByteS.f
  have hl := marksB_length n 1
  exact heldB_l0 n k (marksB n 1) 1 0 (by omega) (by omega) rfl (by omega) (by omega) (by omega)

/-! snippet eqB -/
theorem eqByteS_l0 (xs : List Int) (hx : xs.length ≤ 1048576) (d : Nat) : ∀ (k : Nat) (i : Nat), xs.length - i = d → i ≤ xs.length → d < k → laws_eqByteS.l0 k xs xs i = some true := by
  induction d with
  | zero =>
    intro k i hd hi hk
    obtain ⟨k, rfl⟩ := nat_pos_succ hk
    rw [laws_eqByteS.l0, if_neg (by omega)]
  | succ d ih =>
    intro k i hd hi hk
    obtain ⟨k, rfl⟩ := nat_pos_succ hk
    rw [laws_eqByteS.l0, if_pos (by omega), if_pos (by omega), if_pos (by omega), if_pos rfl, wrap_id (by omega) (by omega), show ((i : Int) + 1) = ((i + 1 : Nat) : Int) by omega]
    exact ih k (i + 1) (by omega) (by omega) (by omega)
theorem eqByteS_same (xs : List Int) (hx : xs.length ≤ 1048576) (k : Nat) (hk : xs.length < k) : laws_eqByteS.f k xs xs = some true := by
  unfold laws_eqByteS.f
  rw [if_pos rfl]
  exact eqByteS_l0 xs hx xs.length k 0 (by omega) (by omega) hk

/-! snippet FnExactTableBytes -/
theorem tabT_same (t0 t1 : Int) (l2 : List IL) (l3 : List IN) : Go.Proofs.Ytjkanhjapddhnaa.PFnExactTableBytes.tableT t0 t1 l2 l3 = tableT t0 t1 l2 l3 := rfl
theorem bytes_both (t0 t1 : Int) (l2 : List IL) (l3 : List IN) : ∃ bs cd, bs.length ≤ 1000 ∧ (∀ k, 52 < k → spec_TableBytes.f k t0 t1 l2 l3 = some (bs, cd)) ∧ impl_TableBytes.f t0 t1 l2 l3 = some (bs, cd) := by
  unfold spec_TableBytes.f impl_TableBytes.f
  cases ha : tableB t0 t1 l2 l3
  · refine ⟨[], 1, by simp, fun k hk => ?_, ?_⟩
    · rw [spec_TableOK_tells, ha, Option.bind_some, if_neg (by decide)]
    · rw [impl_TableOK_tells, ha, Option.bind_some, if_neg (by decide)]
  obtain ⟨p1, p2, p3⟩ := small_of _ _ _ _ ha
  have hs := tableT_size t0 t1 l2 l3 p1 p2 p3
  refine ⟨bytesOf (tableT t0 t1 l2 l3), 0, by rw [bytesOf_len]; exact hs, fun k hk => ?_, ?_⟩
  · rw [spec_TableOK_tells, ha, Option.bind_some, if_pos rfl, specB_tells t0 t1 l2 l3 p1 p2 p3 k (by omega), Option.bind_some]
  · unfold impl_tableText.f
    rw [impl_TableOK_tells, ha, Option.bind_some, if_pos rfl, if_pos (by simp only [Bool.and_eq_true, decide_eq_true_eq, List.all_eq_true]; exact ⟨p1, p2, p3⟩), Option.bind_some, tabT_same, if_pos (by omega)]
theorem FnExactTableBytes (x0_0 : Int) (x0_1 : Int) (x0_2 : List LL) (x0_3 : List LN) (gx0_2 : (x0_2.length ≤ 9223372036854775807 ∧ ∀ y ∈ x0_2, goodL y)) (gx0_3 : x0_3.length ≤ 9223372036854775807) :
    ∃ k r, laws_szTable.f k x0_0 x0_1 x0_2 x0_3 1048576 = some r ∧ (r < 0 ∨ (0 ≤ r ∧ ∃ (m2 : List IL) (m3 : List IN) (bs : List Int) (cd : Int) (ms : List Int) (m : Int) (mt : Int → ByteArray), laws_toTable.f k x0_0 x0_1 x0_2 x0_3 = some (x0_0, x0_1, m2, m3) ∧ spec_TableBytes.f k x0_0 x0_1 m2 m3 = some (bs, cd) ∧ impl_TableBytes.f x0_0 x0_1 m2 m3 = some (bs, cd) ∧ laws_eqByteS.f k bs bs = some true ∧
      laws_markByteS.f k bs 1 = some (m, ms) ∧ laws_heldByteS.f k ms 1 = some m ∧ 0 ≤ m ∧ (∀ j : Int, 0 ≤ j → j ≤ 4611686018427387904 → laws_markText.f k j = some (mt j)) ∧ (m2.length ≤ 1048576 ∧ m3.length ≤ 1048576 ∧ ∀ x ∈ m2, x.f4.length ≤ 1048576))) := by
  obtain ⟨k, hk⟩ : ∃ K : Nat, 2097160 ≤ K := ⟨_, Nat.le_refl _⟩
  obtain ⟨v, e, hv⟩ := szT_tells x0_0 x0_1 x0_2 x0_3 gx0_2 gx0_3 1048576 (by omega) (by omega) k (by omega)
  refine ⟨k, v, e, ?_⟩
  rcases hv with hv | ⟨hv0, hv1, h2, h3, hy⟩
  · exact .inl hv
  obtain ⟨bs, cd, hl, e1, e2⟩ := bytes_both x0_0 x0_1 (x0_2.map toL) (x0_3.map toN)
  refine .inr ⟨hv0, x0_2.map toL, x0_3.map toN, bs, cd, marksB bs.length 1, 1 + (bs.length : Int), mbig, toT_tells x0_0 x0_1 x0_2 x0_3 h2 h3 hy k hk, e1 k (by omega), e2, eqByteS_same bs (by omega) k (by omega), markB_tells bs (by omega) k (by omega), heldB_tells bs.length (by omega) k (by omega), by omega, fun j h0 h1 => markBig_tells j h0 h1 k (by omega), by rw [List.length_map]; exact h2, by rw [List.length_map]; exact h3, fun x hx => ?_⟩
  obtain ⟨y, hy', rfl⟩ := List.mem_map.1 hx
  show (y.f4.map toW).length ≤ 1048576
  rw [List.length_map]
  exact (hy y hy').2

end Go.Proofs.Ytjkanhjapddhnaa.Pure
