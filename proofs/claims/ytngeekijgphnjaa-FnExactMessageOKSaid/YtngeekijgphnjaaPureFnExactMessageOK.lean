/- The statement FnExactMessageOK: what the given program's printed functions answer, as the law asks; no condition. -/
import Derived.Test.YtngeekijgphnjaaPFnExactMessageOKx2
set_option linter.unusedVariables false
set_option linter.unusedSimpArgs false
namespace Go.Proofs.Ytngeekijgphnjaa.Pure
open Go.RowKit Go.Proofs.Ytngeekijgphnjaa.PFnExactMessageOK Go.Proofs.YtngeekijgphnjaaW.PrintWords Go.Proofs.YtngeekijgphnjaaW.PrintLast Go.Proofs.YtngeekijgphnjaaW.PrintMore
/-! snippet base -/
theorem wrap_id {x : Int} (h1 : -9223372036854775808 ≤ x) (h2 : x ≤ 9223372036854775807) : wrap64 x = x := by
  unfold wrap64
  omega
theorem nat_pos_succ {k d : Nat} (h : d < k) : ∃ m, k = m + 1 := ⟨k - 1, by omega⟩
theorem u8_of_wf {l : List Int} (h : ∀ x ∈ l, (Lit.int .u8 x).wf = true) (i : Int) : 0 ≤ rd l i ∧ rd l i ≤ 255 := by
  unfold rd
  rw [List.getD_eq_getElem?_getD]
  by_cases hi : i.toNat < l.length
  · rw [List.getElem?_eq_getElem hi, Option.getD_some]
    have := h _ (List.getElem_mem hi)
    simp only [Lit.wf, Bool.and_eq_true, decide_eq_true_eq] at this
    have e1 : IntKind.u8.min = 0 := rfl
    have e2 : IntKind.u8.max = 255 := rfl
    omega
  · rw [List.getElem?_eq_none (by omega)]
    simp
theorem i64_of_wf {x : Int} (h : (Lit.int .i64 x).wf = true) : -9223372036854775808 ≤ x ∧ x ≤ 9223372036854775807 := by
  simp only [Lit.wf, Bool.and_eq_true, decide_eq_true_eq] at h
  have e1 : IntKind.i64.min = -9223372036854775808 := rfl
  have e2 : IntKind.i64.max = 9223372036854775807 := rfl
  omega
theorem toList_len (s : ByteArray) : s.toList.length = s.size := by
  rw [ByteArray.toList_eq]
  exact data_length s
theorem toList_inj {a b : ByteArray} (h : a.toList = b.toList) : a = b := by
  rw [ByteArray.toList_eq, ByteArray.toList_eq] at h
  exact Go.WideShapes.bytes_inj h

/-! snippet messageP -/
def messageP (kind view seq sender : Int) (digest body mac : ByteArray) : Bool :=
  (decide (0 ≤ view) && decide (view ≤ 20)) && ((decide (0 ≤ sender) && decide (sender ≤ 6)) && (decide (mac.size = 8) && (decide (body.size ≤ 20000) &&
    (if kind = 1 then (decide (1 ≤ seq) && decide (seq ≤ 8)) && (decide (digest.size = 32) && !decide (body.size = 0))
     else if kind = 2 ∨ kind = 3 then (decide (1 ≤ seq) && decide (seq ≤ 8)) && (decide (digest.size = 32) && decide (body.size = 0))
     else if kind = 4 ∨ kind = 5 then decide (seq = 0) && decide (digest.size = 0) else false))))
theorem toList_nil_iff (s : ByteArray) : (s.toList == ([] : List UInt8)) = decide (s.size = 0) := by
  have h : s.toList.length = s.size := toList_len s
  rw [← h]
  cases s.toList <;> rfl
theorem toList_ne_nil_iff (s : ByteArray) : (s.toList != ([] : List UInt8)) = !decide (s.size = 0) := by
  unfold bne
  rw [toList_nil_iff]
theorem size_is (s : ByteArray) (n : Nat) : ((s.size : Int) = n) = (decide (s.size = n) = true) := by
  simp only [decide_eq_true_eq, eq_iff_iff]
  omega
theorem size_beq (s : ByteArray) (n : Nat) : ((s.size : Int) == n) = decide (s.size = n) := by
  rw [Bool.eq_iff_iff]
  simp only [decide_eq_true_eq, beq_iff_eq]
  omega
theorem size_above (s : ByteArray) (n : Nat) : decide ((s.size : Int) > n) = !decide (s.size ≤ n) := by
  rw [Bool.eq_iff_iff]
  simp only [decide_eq_true_eq, Bool.not_eq_true', decide_eq_false_iff_not]
  omega

/-! snippet within -/
theorem within_tells (n low high : Int) : impl_within.f n low high = some (decide (low ≤ n) && decide (n ≤ high)) := by
  unfold impl_within.f
  by_cases h : n ≥ low
  · rw [if_pos h, decide_eq_true h]; rfl
  · rw [if_neg h, decide_eq_false h]; rfl

/-! snippet implMessageOK -/
theorem implMessageOK_tells (a b c d : Int) (x y z : ByteArray) (k : Nat) (hk : 2 ≤ k) : impl_MessageOK.f k a b c d x y z = some (messageP a b c d x y z) := by
  obtain ⟨k, rfl⟩ : ∃ m, k = m + 2 := ⟨k - 2, by omega⟩
  unfold impl_MessageOK.f messageP
  simp only [impl_MessageOK.j0, impl_MessageOK.j1, within_tells, impl_isHash.f, Option.bind_some, toList_nil_iff, toList_ne_nil_iff]
  simp only [show ((z.size : Int) = 8) = (decide (z.size = 8) = true) from size_is z 8, show ((x.size : Int) == 32) = decide (x.size = 32) from size_beq x 32, show decide ((y.size : Int) > 20000) = !decide (y.size ≤ 20000) from size_above y 20000]
  generalize (decide (0 ≤ b) && decide (b ≤ 20)) = b1
  generalize (decide (0 ≤ d) && decide (d ≤ 6)) = b2
  generalize (decide (1 ≤ c) && decide (c ≤ 8)) = b3
  generalize decide (z.size = 8) = b4
  generalize decide (y.size ≤ 20000) = b5
  generalize decide (x.size = 32) = b6
  generalize decide (y.size = 0) = b7
  generalize decide (x.size = 0) = b8
  by_cases h1 : a = 1
  · subst h1
    cases b1 <;> cases b2 <;> cases b3 <;> cases b4 <;> cases b5 <;> cases b6 <;> cases b7 <;> rfl
  by_cases h2 : a = 2
  · subst h2
    cases b1 <;> cases b2 <;> cases b3 <;> cases b4 <;> cases b5 <;> cases b6 <;> cases b7 <;> rfl
  by_cases h3 : a = 3
  · subst h3
    cases b1 <;> cases b2 <;> cases b3 <;> cases b4 <;> cases b5 <;> cases b6 <;> cases b7 <;> rfl
  have e2 : ¬ (a = 2 ∨ a = 3) := by omega
  have e3 : (a == 3) = false := beq_eq_false_iff_ne.mpr h3
  rw [if_neg h1, if_neg e2]
  simp only [if_neg h1, if_neg h2, e3]
  have ec : (if c = 0 then some b8 else some false) = some (decide (c = 0) && b8) := by
    by_cases hc : c = 0
    · rw [if_pos hc, decide_eq_true hc, Bool.true_and]
    · rw [if_neg hc, decide_eq_false hc, Bool.false_and]
  rw [ec]
  generalize (decide (c = 0) && b8) = b9
  by_cases h4 : a = 4
  · subst h4
    cases b1 <;> cases b2 <;> cases b4 <;> cases b5 <;> cases b9 <;> rfl
  by_cases h5 : a = 5
  · subst h5
    cases b1 <;> cases b2 <;> cases b4 <;> cases b5 <;> cases b9 <;> rfl
  have e4 : ¬ (a = 4 ∨ a = 5) := by omega
  rw [if_neg e4]
  simp only [if_neg h4, if_neg h5]
  cases b1 <;> cases b2 <;> cases b4 <;> cases b5 <;> rfl

/-! snippet specIn -/
theorem specIn_tells (n low high : Int) : spec_l01In.f n low high = some (decide (low ≤ n) && decide (n ≤ high)) := by
  unfold spec_l01In.f
  by_cases h : n ≥ low
  · rw [if_pos h, decide_eq_true h]; rfl
  · rw [if_neg h, decide_eq_false h]; rfl

/-! snippet specMessageOK -/
theorem specMessageOK_tells (a b c d : Int) (x y z : ByteArray) (k : Nat) (hk : 2 ≤ k) : spec_MessageOK.f k a b c d x y z = some (messageP a b c d x y z) := by
  obtain ⟨k, rfl⟩ : ∃ m, k = m + 2 := ⟨k - 2, by omega⟩
  unfold spec_MessageOK.f messageP
  simp only [spec_MessageOK.j0, specIn_tells, Option.bind_some, toList_nil_iff, toList_ne_nil_iff]
  simp only [show ((z.size : Int) = 8) = (decide (z.size = 8) = true) from size_is z 8, show decide ((y.size : Int) > 20000) = !decide (y.size ≤ 20000) from size_above y 20000]
  simp only [show ((x.size : Int) = 32) = (decide (x.size = 32) = true) from size_is x 32]
  generalize (decide (0 ≤ b) && decide (b ≤ 20)) = b1
  generalize (decide (0 ≤ d) && decide (d ≤ 6)) = b2
  generalize (decide (1 ≤ c) && decide (c ≤ 8)) = b3
  generalize decide (z.size = 8) = b4
  generalize decide (y.size ≤ 20000) = b5
  generalize decide (x.size = 32) = b6
  generalize decide (y.size = 0) = b7
  generalize decide (x.size = 0) = b8
  by_cases h1 : a = 1
  · subst h1
    cases b1 <;> cases b2 <;> cases b3 <;> cases b4 <;> cases b5 <;> cases b6 <;> cases b7 <;> rfl
  by_cases h2 : a = 2
  · subst h2
    cases b1 <;> cases b2 <;> cases b3 <;> cases b4 <;> cases b5 <;> cases b6 <;> cases b7 <;> rfl
  by_cases h3 : a = 3
  · subst h3
    cases b1 <;> cases b2 <;> cases b3 <;> cases b4 <;> cases b5 <;> cases b6 <;> cases b7 <;> rfl
  have e2 : ¬ (a = 2 ∨ a = 3) := by omega
  rw [if_neg h1, if_neg e2]
  simp only [if_neg h1, if_neg h2, if_neg h3]
  have ec : (if c = 0 then some b8 else some false) = some (decide (c = 0) && b8) := by
    by_cases hc : c = 0
    · rw [if_pos hc, decide_eq_true hc, Bool.true_and]
    · rw [if_neg hc, decide_eq_false hc, Bool.false_and]
  rw [ec]
  generalize (decide (c = 0) && b8) = b9
  by_cases h45 : a = 4 ∨ a = 5
  · have ea : (decide (1 ≤ a) && decide (a ≤ 5)) = true := by simp; omega
    rw [if_pos h45, ea]
    cases b1 <;> cases b2 <;> cases b4 <;> cases b5 <;> cases b9 <;> rfl
  · have ea : (decide (1 ≤ a) && decide (a ≤ 5)) = false := by simp; omega
    rw [if_neg h45, ea]
    cases b1 <;> cases b2 <;> cases b4 <;> cases b5 <;> cases b9 <;> rfl

/-! snippet FnExactMessageOK -/
theorem FnExactMessageOK (a b c d : Int) (x y z : ByteArray) (ga : (Lit.int .i64 a).wf = true) (gb : (Lit.int .i64 b).wf = true) (gc : (Lit.int .i64 c).wf = true) (gd : (Lit.int .i64 d).wf = true) (hx : x.size ≤ 9223372036854775807) (hy : y.size ≤ 9223372036854775807) (hz : z.size ≤ 9223372036854775807) : ∃ k, laws_FnExactMessageOK.f k a b c d x y z = some true := by
  refine ⟨2, ?_⟩
  unfold laws_FnExactMessageOK.f
  have h : ∃ r, laws_szMessage.f a b c d x y z 1048576 = some r := by
    unfold laws_szMessage.f
    split
    · exact ⟨_, rfl⟩
    split
    · exact ⟨_, rfl⟩
    split <;> exact ⟨_, rfl⟩
  obtain ⟨r, hr⟩ := h
  rw [hr]
  simp only [Option.bind_some]
  split
  · rfl
  unfold laws_toMessage.f
  simp only [Option.bind_some]
  rw [implMessageOK_tells _ _ _ _ _ _ _ 2 (by omega), specMessageOK_tells _ _ _ _ _ _ _ 2 (by omega)]
  simp

end Go.Proofs.Ytngeekijgphnjaa.Pure
