/- The statement FnExactTableOK: what the given program's printed functions answer, as the law asks; no condition. -/
import Derived.Test.YtjkanhjapddhnaaPFnExactTableOKx9
set_option linter.unusedVariables false
set_option linter.unusedSimpArgs false
namespace Go.Proofs.Ytjkanhjapddhnaa.Pure
open Go.RowKit Go.Proofs.Ytjkanhjapddhnaa.PFnExactTableOK Go.Proofs.YtjkanhjapddhnaaV.PrintWords Go.Proofs.YtjkanhjapddhnaaV.PrintLast Go.Proofs.YtjkanhjapddhnaaV.PrintMore
/-! snippet base -/
theorem wrap_id {x : Int} (h1 : -9223372036854775808 ≤ x) (h2 : x ≤ 9223372036854775807) : wrap64 x = x := by
  unfold wrap64
  omega
theorem nat_pos_succ {k d : Nat} (h : d < k) : ∃ m, k = m + 1 := ⟨k - 1, by omega⟩
theorem u8_of_wf {l : List Int} (h : ∀ x ∈ l, (Lit.int .u8 x).wf = true) (i : Int) : 0 ≤ rd l i ∧ rd l i ≤ 255 := by
  unfold rd
  rw [List.getD_eq_getElem?_getD]
  by_cases hi : i.toNat < l.length
  · rw [List.getElem?_eq_getElem hi, Option.getD_some]
    have := h _ (List.getElem_mem hi)
    simp only [Lit.wf, Bool.and_eq_true, decide_eq_true_eq] at this
    have e1 : IntKind.u8.min = 0 := rfl
    have e2 : IntKind.u8.max = 255 := rfl
    omega
  · rw [List.getElem?_eq_none (by omega)]
    simp
theorem i64_of_wf {x : Int} (h : (Lit.int .i64 x).wf = true) : -9223372036854775808 ≤ x ∧ x ≤ 9223372036854775807 := by
  simp only [Lit.wf, Bool.and_eq_true, decide_eq_true_eq] at h
  have e1 : IntKind.i64.min = -9223372036854775808 := rfl
  have e2 : IntKind.i64.max = 9223372036854775807 := rfl
  omega
theorem toList_len (s : ByteArray) : s.toList.length = s.size := by
  rw [ByteArray.toList_eq]
  exact data_length s
theorem toList_inj {a b : ByteArray} (h : a.toList = b.toList) : a = b := by
  rw [ByteArray.toList_eq, ByteArray.toList_eq] at h
  exact Go.WideShapes.bytes_inj h

/-! snippet tabTo -/
abbrev LW := S160
abbrev LL := S110
abbrev LN := S116
abbrev IW := S73
abbrev IL := S70
abbrev IN := S77
theorem rdLW_at (l : List LW) (i : Nat) (hi : i < l.length) : rd_T160 l (i : Int) = l[i] := by
  unfold rd_T160
  simp [List.getD_eq_getElem?_getD, hi]
theorem rdLL_at (l : List LL) (i : Nat) (hi : i < l.length) : rd_T110 l (i : Int) = l[i] := by
  unfold rd_T110
  simp [List.getD_eq_getElem?_getD, hi]
theorem rdLN_at (l : List LN) (i : Nat) (hi : i < l.length) : rd_T116 l (i : Int) = l[i] := by
  unfold rd_T116
  simp [List.getD_eq_getElem?_getD, hi]
def toW (x : LW) : IW := ⟨x.f0, x.f1⟩
def toL (x : LL) : IL := ⟨x.f0, x.f1, x.f2, x.f3, x.f4.map toW⟩
def toN (x : LN) : IN := ⟨x.f0, x.f1, ⟨x.f2.f0, x.f2.f1, x.f2.f2, x.f2.f3⟩⟩
def goodW (x : LW) : Prop := (Lit.int .i64 x.f0).wf = true ∧ (Lit.int .i64 x.f1).wf = true
def goodL (x : LL) : Prop := (x.f0.size ≤ 9223372036854775807) ∧ ((Lit.int .i64 x.f1).wf = true) ∧ ((Lit.int .i64 x.f2).wf = true) ∧ ((Lit.int .i64 x.f3).wf = true) ∧ (x.f4.length ≤ 9223372036854775807 ∧ ∀ y ∈ x.f4, goodW y)
/-- A lock within the bounds. -/
def smallL (x : LL) : Prop := x.f0.size ≤ 1048576 ∧ x.f4.length ≤ 1048576
theorem szL_l0 (l : List LL) (hl : l.length ≤ 1048576) (hy : ∀ y ∈ l, y.f0.size ≤ 9223372036854775807 ∧ y.f4.length ≤ 9223372036854775807) (d : Nat) : ∀ (k : Nat) (x : Int) (i : Nat), l.length = i + d → 0 ≤ x → x ≤ 1048576 → d < k → (∀ j, (h : j < l.length) → j < i → smallL l[j]) →
    ∃ v, laws_szLockS.l0 k l x i = some v ∧ (v < 0 ∨ (0 ≤ v ∧ v ≤ 1048576 ∧ ∀ j, (h : j < l.length) → smallL l[j])) := by
  induction d with
  | zero =>
    intro k x i hd h0 h1 hk hs
    obtain ⟨k, rfl⟩ : ∃ m, k = m + 1 := ⟨k - 1, by omega⟩
    exact ⟨x, by rw [laws_szLockS.l0, if_neg (by omega)], Or.inr ⟨h0, h1, fun j h => hs j h (by omega)⟩⟩
  | succ d ih =>
    intro k x i hd h0 h1 hk hs
    obtain ⟨k, rfl⟩ : ∃ m, k = m + 1 := ⟨k - 1, by omega⟩
    have hi : i < l.length := by omega
    obtain ⟨hz1, hz2⟩ := hy _ (List.getElem_mem hi)
    rw [laws_szLockS.l0, if_pos (by omega), if_pos (by omega), rdLL_at l i hi]
    unfold laws_szLock.f
    rw [wrap_id (x := x - _) (by omega) (by omega)]
    by_cases hn : x - (l[i].f0.size : Int) < 0
    · rw [if_pos hn, Option.bind_some, if_pos (by decide)]
      exact ⟨-1, rfl, Or.inl (by decide)⟩
    · rw [if_neg hn]
      unfold laws_szWaiterS.f
      rw [wrap_id (x := x - (l[i].f0.size : Int) - _) (by omega) (by omega)]
      by_cases hm : x - (l[i].f0.size : Int) - (l[i].f4.length : Int) < 0
      · rw [if_pos hm, Option.bind_some, if_pos (by decide), Option.bind_some, if_pos (by decide)]
        exact ⟨-1, rfl, Or.inl (by decide)⟩
      · rw [if_neg hm, Option.bind_some, if_neg hm, Option.bind_some, if_neg hm, wrap_id (x := (i : Int) + 1) (by omega) (by omega)]
        exact ih k (x - (l[i].f0.size : Int) - (l[i].f4.length : Int)) (i + 1) (by omega) (by omega) (by omega) (by omega) (fun j h hj => by
          by_cases e : j = i
          · subst e
            exact ⟨by omega, by omega⟩
          · exact hs j h (by omega))
theorem szT_tells (t0 t1 : Int) (l2 : List LL) (l3 : List LN) (g2 : l2.length ≤ 9223372036854775807 ∧ ∀ y ∈ l2, goodL y) (g3 : l3.length ≤ 9223372036854775807) (x : Int) (h0 : 0 ≤ x) (h1 : x ≤ 1048576) (k : Nat) (hk : 1048577 ≤ k) :
    ∃ v, laws_szTable.f k t0 t1 l2 l3 x = some v ∧ (v < 0 ∨ (0 ≤ v ∧ v ≤ 1048576 ∧ l2.length ≤ 1048576 ∧ l3.length ≤ 1048576 ∧ ∀ y ∈ l2, smallL y)) := by
  unfold laws_szTable.f laws_szLockS.f
  rw [wrap_id (x := x - _) (by omega) (by omega)]
  by_cases hn : x - (l2.length : Int) < 0
  · rw [if_pos hn, Option.bind_some, if_pos (by decide)]
    exact ⟨-1, rfl, Or.inl (by decide)⟩
  rw [if_neg hn]
  obtain ⟨v, e, hv⟩ := szL_l0 l2 (by omega) (fun y hy => ⟨(g2.2 y hy).1, (g2.2 y hy).2.2.2.2.1⟩) l2.length k (x - (l2.length : Int)) 0 (by omega) (by omega) (by omega) (by omega) (fun j h hj => by omega)
  have e' : laws_szLockS.l0 k l2 (x - (l2.length : Int)) 0 = some v := e
  rw [e', Option.bind_some]
  rcases hv with hv | ⟨ha, hb, hc⟩
  · rw [if_pos hv]
    exact ⟨-1, rfl, Or.inl (by decide)⟩
  rw [if_neg (by omega)]
  unfold laws_szSeenS.f
  rw [wrap_id (x := v - _) (by omega) (by omega)]
  by_cases hm : v - (l3.length : Int) < 0
  · rw [if_pos hm, Option.bind_some, if_pos (by decide)]
    exact ⟨-1, rfl, Or.inl (by decide)⟩
  rw [if_neg hm, Option.bind_some, if_neg hm]
  refine ⟨_, rfl, Or.inr ⟨by omega, by omega, by omega, by omega, fun y hy => ?_⟩⟩
  obtain ⟨j, hj, rfl⟩ := List.mem_iff_getElem.1 hy
  exact hc j hj
theorem toW_l0 (l : List LW) (hl : l.length ≤ 1048576) (d : Nat) : ∀ (k : Nat) (x : List IW) (i : Nat), l.length = i + d → x.length = l.length → x.take i = (l.map toW).take i → d < k → laws_toWaiterS.l0 k l x i = some (l.map toW) := by
  have hr : (l.map toW).length = l.length := by rw [List.length_map]
  induction d with
  | zero =>
    intro k x i hd hx ht hk
    obtain ⟨k, rfl⟩ : ∃ m, k = m + 1 := ⟨k - 1, by omega⟩
    rw [laws_toWaiterS.l0, if_neg (by omega)]
    rw [List.take_of_length_le (by omega), List.take_of_length_le (by omega)] at ht
    rw [ht]
  | succ d ih =>
    intro k x i hd hx ht hk
    obtain ⟨k, rfl⟩ : ∃ m, k = m + 1 := ⟨k - 1, by omega⟩
    have hi : i < l.length := by omega
    rw [laws_toWaiterS.l0, if_pos (by omega), if_pos (by omega), rdLW_at l i hi]
    unfold laws_toWaiter.f
    rw [Option.bind_some]
    dsimp only
    rw [if_pos (by omega), wrap_id (x := (i : Int) + 1) (by omega) (by omega)]
    refine ih k _ (i + 1) (by omega) (by rw [List.length_set, hx]) ?_ (by omega)
    rw [Int.toNat_natCast, List.take_succ_eq_append_getElem (by rw [List.length_set]; omega), List.take_succ_eq_append_getElem (by omega), List.getElem_set_self, List.take_set_of_le (Nat.le_refl i), ht, List.getElem_map]
    rfl
theorem toWS_tells (l : List LW) (hl : l.length ≤ 1048576) (k : Nat) (hk : 1048577 ≤ k) : laws_toWaiterS.f k l = some (l.map toW) := by
  unfold laws_toWaiterS.f
  rw [if_pos (by omega), if_pos (by omega)]
  exact toW_l0 l hl l.length k _ 0 (by omega) (by simp) (by simp) (by omega)
theorem toL_l0 (l : List LL) (hl : l.length ≤ 1048576) (hy : ∀ y ∈ l, smallL y) (d : Nat) : ∀ (k : Nat) (x : List IL) (i : Nat), l.length = i + d → x.length = l.length → x.take i = (l.map toL).take i → d + 1048577 < k → laws_toLockS.l0 k l x i = some (l.map toL) := by
  have hr : (l.map toL).length = l.length := by rw [List.length_map]
  induction d with
  | zero =>
    intro k x i hd hx ht hk
    obtain ⟨k, rfl⟩ : ∃ m, k = m + 1 := ⟨k - 1, by omega⟩
    rw [laws_toLockS.l0, if_neg (by omega)]
    rw [List.take_of_length_le (by omega), List.take_of_length_le (by omega)] at ht
    rw [ht]
  | succ d ih =>
    intro k x i hd hx ht hk
    obtain ⟨k, rfl⟩ : ∃ m, k = m + 1 := ⟨k - 1, by omega⟩
    have hi : i < l.length := by omega
    rw [laws_toLockS.l0, if_pos (by omega), if_pos (by omega), rdLL_at l i hi]
    unfold laws_toLock.f
    rw [toWS_tells _ (hy _ (List.getElem_mem hi)).2 k (by omega), Option.bind_some, Option.bind_some]
    dsimp only
    rw [if_pos (by omega), wrap_id (x := (i : Int) + 1) (by omega) (by omega)]
    refine ih k _ (i + 1) (by omega) (by rw [List.length_set, hx]) ?_ (by omega)
    rw [Int.toNat_natCast, List.take_succ_eq_append_getElem (by rw [List.length_set]; omega), List.take_succ_eq_append_getElem (by omega), List.getElem_set_self, List.take_set_of_le (Nat.le_refl i), ht, List.getElem_map]
    rfl
theorem toN_l0 (l : List LN) (hl : l.length ≤ 1048576) (d : Nat) : ∀ (k : Nat) (x : List IN) (i : Nat), l.length = i + d → x.length = l.length → x.take i = (l.map toN).take i → d < k → laws_toSeenS.l0 k l x i = some (l.map toN) := by
  have hr : (l.map toN).length = l.length := by rw [List.length_map]
  induction d with
  | zero =>
    intro k x i hd hx ht hk
    obtain ⟨k, rfl⟩ : ∃ m, k = m + 1 := ⟨k - 1, by omega⟩
    rw [laws_toSeenS.l0, if_neg (by omega)]
    rw [List.take_of_length_le (by omega), List.take_of_length_le (by omega)] at ht
    rw [ht]
  | succ d ih =>
    intro k x i hd hx ht hk
    obtain ⟨k, rfl⟩ : ∃ m, k = m + 1 := ⟨k - 1, by omega⟩
    have hi : i < l.length := by omega
    rw [laws_toSeenS.l0, if_pos (by omega), if_pos (by omega), rdLN_at l i hi]
    unfold laws_toSeen.f laws_toAnswer.f
    rw [Option.bind_some, Option.bind_some]
    dsimp only
    rw [if_pos (by omega), wrap_id (x := (i : Int) + 1) (by omega) (by omega)]
    refine ih k _ (i + 1) (by omega) (by rw [List.length_set, hx]) ?_ (by omega)
    rw [Int.toNat_natCast, List.take_succ_eq_append_getElem (by rw [List.length_set]; omega), List.take_succ_eq_append_getElem (by omega), List.getElem_set_self, List.take_set_of_le (Nat.le_refl i), ht, List.getElem_map]
    rfl
theorem toT_tells (t0 t1 : Int) (l2 : List LL) (l3 : List LN) (h2 : l2.length ≤ 1048576) (h3 : l3.length ≤ 1048576) (hy : ∀ y ∈ l2, smallL y) (k : Nat) (hk : 2097160 ≤ k) : laws_toTable.f k t0 t1 l2 l3 = some (t0, t1, l2.map toL, l3.map toN) := by
  unfold laws_toTable.f laws_toLockS.f laws_toSeenS.f
  rw [if_pos (by omega), if_pos (by omega), if_pos (by omega), if_pos (by omega)]
  have e1 := toL_l0 l2 h2 hy l2.length k (List.replicate ((l2.length : Int) : Int).toNat z70) 0 (by omega) (by simp) (by simp) (by omega)
  have e2 := toN_l0 l3 h3 l3.length k (List.replicate ((l3.length : Int) : Int).toNat z77) 0 (by omega) (by simp) (by simp) (by omega)
  have e1' : laws_toLockS.l0 k l2 (List.replicate ((l2.length : Int) : Int).toNat z70) 0 = some (l2.map toL) := e1
  have e2' : laws_toSeenS.l0 k l3 (List.replicate ((l3.length : Int) : Int).toNat z77) 0 = some (l3.map toN) := e2
  rw [e1', Option.bind_some, e2', Option.bind_some]
theorem eqW_l0 (l : List IW) (hl : l.length ≤ 1048576) (d : Nat) : ∀ (k : Nat) (i : Nat), l.length = i + d → d < k → laws_eqWaiterS.l0 k l l i = some true := by
  induction d with
  | zero =>
    intro k i hd hk
    obtain ⟨k, rfl⟩ : ∃ m, k = m + 1 := ⟨k - 1, by omega⟩
    rw [laws_eqWaiterS.l0, if_neg (by omega)]
  | succ d ih =>
    intro k i hd hk
    obtain ⟨k, rfl⟩ : ∃ m, k = m + 1 := ⟨k - 1, by omega⟩
    rw [laws_eqWaiterS.l0, if_pos (by omega), if_pos (by omega), if_pos (by omega)]
    unfold laws_eqWaiter.f
    rw [if_pos rfl, if_pos rfl, Option.bind_some, if_pos rfl, wrap_id (x := (i : Int) + 1) (by omega) (by omega)]
    exact ih k (i + 1) (by omega) (by omega)
theorem eqL_l0 (l : List IL) (hl : l.length ≤ 1048576) (hy : ∀ i : Nat, i < l.length → (rd_T70 l i).f4.length ≤ 1048576) (d : Nat) : ∀ (k : Nat) (i : Nat), l.length = i + d → d + 1048577 < k → laws_eqLockS.l0 k l l i = some true := by
  induction d with
  | zero =>
    intro k i hd hk
    obtain ⟨k, rfl⟩ : ∃ m, k = m + 1 := ⟨k - 1, by omega⟩
    rw [laws_eqLockS.l0, if_neg (by omega)]
  | succ d ih =>
    intro k i hd hk
    obtain ⟨k, rfl⟩ : ∃ m, k = m + 1 := ⟨k - 1, by omega⟩
    rw [laws_eqLockS.l0, if_pos (by omega), if_pos (by omega), if_pos (by omega)]
    unfold laws_eqLock.f laws_eqWaiterS.f
    have e := eqW_l0 (rd_T70 l i).f4 (hy i (by omega)) (rd_T70 l i).f4.length k 0 (by omega) (by have := hy i (by omega); omega)
    have e' : laws_eqWaiterS.l0 k (rd_T70 l i).f4 (rd_T70 l i).f4 0 = some true := e
    rw [if_pos rfl, if_pos rfl, if_pos rfl, if_pos rfl, if_pos rfl, e', Option.bind_some, if_pos rfl, Option.bind_some, if_pos rfl, wrap_id (x := (i : Int) + 1) (by omega) (by omega)]
    exact ih k (i + 1) (by omega) (by omega)
theorem eqN_l0 (l : List IN) (hl : l.length ≤ 1048576) (d : Nat) : ∀ (k : Nat) (i : Nat), l.length = i + d → d < k → laws_eqSeenS.l0 k l l i = some true := by
  induction d with
  | zero =>
    intro k i hd hk
    obtain ⟨k, rfl⟩ : ∃ m, k = m + 1 := ⟨k - 1, by omega⟩
    rw [laws_eqSeenS.l0, if_neg (by omega)]
  | succ d ih =>
    intro k i hd hk
    obtain ⟨k, rfl⟩ : ∃ m, k = m + 1 := ⟨k - 1, by omega⟩
    rw [laws_eqSeenS.l0, if_pos (by omega), if_pos (by omega), if_pos (by omega)]
    unfold laws_eqSeen.f laws_eqAnswer.f
    rw [if_pos rfl, if_pos rfl, if_pos rfl, if_pos rfl, if_pos rfl, if_pos rfl, Option.bind_some, if_pos rfl, Option.bind_some, if_pos rfl, wrap_id (x := (i : Int) + 1) (by omega) (by omega)]
    exact ih k (i + 1) (by omega) (by omega)
theorem eqT_tells (t0 t1 : Int) (l2 : List LL) (l3 : List LN) (h2 : l2.length ≤ 1048576) (h3 : l3.length ≤ 1048576) (hy : ∀ y ∈ l2, smallL y) (k : Nat) (hk : 2097160 ≤ k) : laws_eqTable.f k t0 t1 (l2.map toL) (l3.map toN) t0 t1 (l2.map toL) (l3.map toN) = some true := by
  unfold laws_eqTable.f laws_eqLockS.f laws_eqSeenS.f
  have e1 := eqL_l0 (l2.map toL) (by rw [List.length_map]; exact h2) (fun i hi => by
    have hi' : i < l2.length := by rw [List.length_map] at hi; exact hi
    have : rd_T70 (l2.map toL) (i : Int) = toL l2[i] := by unfold rd_T70; simp [List.getD_eq_getElem?_getD, hi']
    rw [this]
    unfold toL
    rw [List.length_map]
    exact (hy _ (List.getElem_mem hi')).2) (l2.map toL).length k 0 (by omega) (by rw [List.length_map]; omega)
  have e2 := eqN_l0 (l3.map toN) (by rw [List.length_map]; exact h3) (l3.map toN).length k 0 (by omega) (by rw [List.length_map]; omega)
  have e1' : laws_eqLockS.l0 k (l2.map toL) (l2.map toL) 0 = some true := e1
  have e2' : laws_eqSeenS.l0 k (l3.map toN) (l3.map toN) 0 = some true := e2
  rw [if_pos rfl, if_pos rfl, if_pos rfl, e1', Option.bind_some, if_pos rfl, if_pos rfl, e2', Option.bind_some, if_pos rfl]

/-! snippet nameP -/
def letterP (c : Int) : Bool := (decide (97 ≤ c) && decide (c ≤ 122)) || (decide (65 ≤ c) && decide (c ≤ 90)) || decide (c = 95)
def digitP (c : Int) : Bool := decide (48 ≤ c) && decide (c ≤ 57)
/-- All bytes from place i on, d of them, are letters or digits. -/
def restP (s : ByteArray) : Nat → Int → Bool
  | 0, _ => true
  | d + 1, i => (letterP (bt s i) || digitP (bt s i)) && restP s d (i + 1)
def nameP (s : ByteArray) : Bool := decide (1 ≤ s.size) && decide (s.size ≤ 40) && letterP (bt s 0) && restP s (s.size - 1) 1

/-! snippet specName -/
theorem specLetter_tells (c : Int) : spec_l00Letter.f c = some (letterP c) := by
  unfold spec_l00Letter.f letterP
  by_cases h1 : c ≥ 97
  · by_cases h2 : c ≤ 122
    · simp [h1, h2]
    · have h3 : ¬ c ≤ 90 := by omega
      simp [h1, h2, h3, show c ≥ 65 by omega]
      try rw [Bool.eq_iff_iff]
      try simp
  · by_cases h3 : c ≥ 65
    · by_cases h4 : c ≤ 90
      · simp [h1, h3, h4]
      · simp [h1, h3, h4]; try rw [Bool.eq_iff_iff]; simp
    · simp [h1, h3]; try rw [Bool.eq_iff_iff]; simp
theorem specDigit_tells (c : Int) : spec_l00Digit.f c = some (digitP c) := by
  unfold spec_l00Digit.f digitP
  by_cases h : c ≥ 48
  · rw [if_pos h, decide_eq_true h]; rfl
  · rw [if_neg h, decide_eq_false h]; rfl
theorem specWord_l0 (s : ByteArray) (hs : s.size ≤ 140737488351232) (d : Nat) : ∀ (k : Nat) (i : Int), 0 ≤ i → (s.size : Int) - i = d → d < k → spec_l00Word.l0 k s i = some (restP s d i) := by
  induction d with
  | zero =>
    intro k i h0 hd hk
    obtain ⟨k, rfl⟩ := nat_pos_succ hk
    simp only [spec_l00Word.l0, restP]
    rw [if_neg (by omega)]
  | succ d ih =>
    intro k i h0 hd hk
    obtain ⟨k, rfl⟩ := nat_pos_succ hk
    simp only [spec_l00Word.l0, restP]
    rw [if_pos (by omega), if_pos h0, specLetter_tells, specDigit_tells, wrap_id (by omega) (by omega), ih k (i + 1) (by omega) (by omega) (by omega)]
    simp only [Option.bind_some]
    cases hl : letterP (bt s i) <;> cases hg : digitP (bt s i) <;> simp
theorem specWord_tells (s : ByteArray) (hs : s.size ≤ 140737488351232) (k : Nat) (hk : s.size + 2 ≤ k) : spec_l00Word.f k s = some (nameP s) := by
  obtain ⟨k, rfl⟩ : ∃ m, k = m + 1 := ⟨k - 1, by omega⟩
  unfold spec_l00Word.f nameP
  simp only [spec_l00Word.j0]
  by_cases h1 : (s.size : Int) < 1
  · rw [if_pos h1]; simp; intro h; omega
  by_cases h2 : (s.size : Int) > 40
  · rw [if_neg h1, if_pos h2]; simp; intro _ h; omega
  rw [if_neg h1, if_neg h2, if_pos (by omega), specLetter_tells]
  simp only [Option.bind_some]
  rw [decide_eq_true (show 1 ≤ s.size by omega), decide_eq_true (show s.size ≤ 40 by omega), specWord_l0 s hs (s.size - 1) k 1 (by omega) (by omega) (by omega)]
  cases hl : letterP (bt s 0) <;> simp
theorem specName_tells (s : ByteArray) (hs : s.size ≤ 140737488351232) (k : Nat) (hk : s.size + 2 ≤ k) : spec_NameOK.f k s = some (nameP s) := by
  unfold spec_NameOK.f
  rw [specWord_tells s hs k hk]
  rfl

/-! snippet implName -/
theorem isLetter_tells (c : Int) : impl_isLetter.f c = some (letterP c) := by
  unfold impl_isLetter.f letterP
  by_cases h1 : c ≥ 97
  · by_cases h2 : c ≤ 122
    · simp [h1, h2]
    · have h3 : ¬ c ≤ 90 := by omega
      simp [h1, h2, h3, show c ≥ 65 by omega]
      try rw [Bool.eq_iff_iff]
      try simp
  · by_cases h3 : c ≥ 65
    · by_cases h4 : c ≤ 90
      · simp [h1, h3, h4]
      · simp [h1, h3, h4]; try rw [Bool.eq_iff_iff]; simp
    · simp [h1, h3]; try rw [Bool.eq_iff_iff]; simp
theorem implName_l0 (s : ByteArray) (hs : s.size ≤ 140737488351232) (d : Nat) : ∀ (k : Nat) (i : Int), 0 ≤ i → (s.size : Int) - i = d → d < k → impl_NameOK.l0 k s s.size i = some (restP s d i) := by
  induction d with
  | zero =>
    intro k i h0 hd hk
    obtain ⟨k, rfl⟩ := nat_pos_succ hk
    simp only [impl_NameOK.l0, restP]
    rw [if_neg (by omega)]
  | succ d ih =>
    intro k i h0 hd hk
    obtain ⟨k, rfl⟩ := nat_pos_succ hk
    simp only [impl_NameOK.l0, restP]
    rw [if_pos (by omega), if_pos h0, if_pos (by omega), isLetter_tells, wrap_id (by omega) (by omega), ih k (i + 1) (by omega) (by omega) (by omega)]
    simp only [Option.bind_some]
    cases hl : letterP (bt s i)
    · unfold digitP
      by_cases h1 : bt s i < 48
      · simp [h1, show ¬ 48 ≤ bt s i by omega]
      · by_cases h2 : bt s i > 57
        · simp [h1, h2, show ¬ bt s i ≤ 57 by omega]
        · simp [h1, h2, show bt s i ≤ 57 by omega, show 48 ≤ bt s i by omega]
    · simp
theorem implName_tells (s : ByteArray) (hs : s.size ≤ 140737488351232) (k : Nat) (hk : s.size + 2 ≤ k) : impl_NameOK.f k s = some (nameP s) := by
  obtain ⟨k, rfl⟩ : ∃ m, k = m + 1 := ⟨k - 1, by omega⟩
  unfold impl_NameOK.f nameP
  simp only [impl_NameOK.j0]
  by_cases h1 : (s.size : Int) < 1
  · rw [if_pos h1]; simp; intro h; omega
  by_cases h2 : (s.size : Int) > 40
  · rw [if_neg h1, if_pos h2]; simp; intro _ h; omega
  rw [if_neg h1, if_neg h2, if_pos (by omega), isLetter_tells]
  simp only [Option.bind_some]
  rw [decide_eq_true (show 1 ≤ s.size by omega), decide_eq_true (show s.size ≤ 40 by omega), implName_l0 s hs s.size k 0 (by omega) (by omega) (by omega)]
  obtain ⟨d, hd⟩ : ∃ d, s.size = d + 1 := ⟨s.size - 1, by omega⟩
  rw [hd]
  cases hl : letterP (bt s 0) <;> simp [restP, hl]

/-! snippet tabText -/
theorem specText12_tells (s : ByteArray) : spec_l02Text.f 99 s 12 = some (decide (s.size ≤ 12) && nameP s) := by
  unfold spec_l02Text.f spec_l01In.f
  by_cases h1 : (s.size : Int) ≥ 1
  · rw [if_pos h1, Option.bind_some]
    by_cases h2 : (s.size : Int) ≤ 12
    · rw [decide_eq_true h2, if_pos rfl, specName_tells s (by omega) 99 (by omega), Option.bind_some, decide_eq_true (show s.size ≤ 12 by omega)]
      rfl
    · rw [decide_eq_false h2, if_neg (by decide), decide_eq_false (show ¬ s.size ≤ 12 by omega)]
      rfl
  · rw [if_neg h1, Option.bind_some, if_neg (by decide)]
    have : nameP s = false := by
      unfold nameP
      rw [decide_eq_false (show ¬ 1 ≤ s.size by omega)]
      rfl
    rw [this, Bool.and_false]
theorem implText12_tells (s : ByteArray) : impl_isOpName.f 99 s = some (decide (s.size ≤ 12) && nameP s) := by
  unfold impl_isOpName.f
  by_cases h2 : (s.size : Int) ≤ 12
  · rw [if_pos h2, implName_tells s (by omega) 99 (by omega), Option.bind_some, decide_eq_true (show s.size ≤ 12 by omega)]
    rfl
  · rw [if_neg h2, decide_eq_false (show ¬ s.size ≤ 12 by omega)]
    rfl
theorem textB_tells (s : ByteArray) : textB s 12 = (decide (s.size ≤ 12) && nameP s) := by
  unfold textB
  rw [specText12_tells]
  rfl
theorem textI_tells (s : ByteArray) : textI s = (decide (s.size ≤ 12) && nameP s) := by
  unfold textI
  rw [implText12_tells]
  rfl

/-! snippet tabEq -/
theorem rdW_at (l : List S73) (k : Nat) : rd_T73 l (k : Int) = l.getD k z73 := by
  unfold rd_T73
  rw [Int.toNat_natCast]
theorem waitsF_tells (c : Int) : ∀ (l : List S73) (i : Int) (k : Nat), k < l.length → (l.getD k z73).f0 = c →
    decide (waitsF c l i < i + k) = !((List.range k).all fun j => !((l.getD j z73).f0 == c)) := by
  intro l
  induction l with
  | nil => intro i k hk; simp at hk
  | cons s l ih =>
    intro i k hk hc
    by_cases hs : s.f0 = c
    · rw [waitsF, if_pos hs]
      cases k with
      | zero => simp
      | succ k =>
        rw [decide_eq_true (by omega), List.range_succ_eq_map, List.all_cons]
        have : (!(((s :: l).getD 0 z73).f0 == c)) = false := by simp [hs]
        rw [this]
        rfl
    · cases k with
      | zero => exact absurd (by simpa using hc) hs
      | succ k =>
        have h := ih (i + 1) k (by simpa using hk) (by simpa using hc)
        rw [waitsF, if_neg hs, List.range_succ_eq_map, List.all_cons, List.all_map]
        have h0 : (!(((s :: l).getD 0 z73).f0 == c)) = true := by simp [hs]
        rw [h0, Bool.true_and, show i + ((k + 1 : Nat) : Int) = i + 1 + (k : Int) by omega, h]
        rfl
theorem wait_same (h : Int) (ws : List S73) (k : Nat) (hk : k < ws.length) : waitB h ws k = waitI h ws k := by
  have e := waitsF_tells (ws.getD k z73).f0 ws 0 k hk rfl
  rw [Int.zero_add] at e
  unfold waitB waitI
  simp only [rdW_at]
  rw [e, Bool.not_not]
  cases inB (ws.getD k z73).f0 0 255 <;> cases inB (ws.getD k z73).f1 1 1000 <;> cases ((ws.getD k z73).f0 == h) <;> rfl
theorem all_range_congr (n : Nat) (f g : Nat → Bool) (h : ∀ k, k < n → f k = g k) : (List.range n).all f = (List.range n).all g := by
  rw [Bool.eq_iff_iff, List.all_eq_true, List.all_eq_true]
  constructor
  · intro H x hx
    rw [← h x (List.mem_range.1 hx)]
    exact H x hx
  · intro H x hx
    rw [h x (List.mem_range.1 hx)]
    exact H x hx
theorem lock_same (next : Int) (ls : List S70) (i : Nat) : lockB next ls i = lockIB next ls i := by
  unfold lockB headB lockIB lockI
  generalize rd_T70 ls (i : Int) = x
  generalize (i == 0 || Op.bytesLess (rd_T70 ls ((i : Int) - 1)).f0.toList x.f0.toList) = o
  rw [textB_tells, textI_tells, all_range_congr _ _ _ (fun k hk => wait_same x.f2 x.f4 k hk)]
  generalize (List.range x.f4.length).all (waitI x.f2 x.f4) = A
  generalize (decide (x.f0.size ≤ 12) && nameP x.f0) = T
  by_cases hb : inB x.f2 (-1) 255 = true
  · rw [hb]
    have h1 : decide (x.f2 < 0) = (x.f2 == -1) := by
      unfold inB at hb
      simp only [Bool.and_eq_true, decide_eq_true_eq] at hb
      rw [Bool.eq_iff_iff, decide_eq_true_eq, beq_iff_eq]
      omega
    have h2 : (!(x.f4.length == 0)) = decide (0 < x.f4.length) := by
      generalize x.f4.length = n
      cases n <;> simp
    rw [h1, h2]
    cases T <;> cases o <;> cases inB x.f1 0 (next - 1) <;> cases inB x.f3 0 2000000000 <;> cases decide (x.f4.length ≤ 4) <;> simp
  · rw [Bool.not_eq_true] at hb
    rw [hb]
    cases T <;> cases o <;> cases inB x.f1 0 (next - 1) <;> simp
theorem table_same (t0 t1 : Int) (l2 : List S70) (l3 : List S77) : tableB t0 t1 l2 l3 = tableI t0 t1 l2 l3 := by
  unfold tableB tableI
  rw [all_range_congr _ _ _ (fun k _ => lock_same t1 l2 k)]
theorem spec_TableOK_tells (t0 t1 : Int) (l2 : List S70) (l3 : List S77) : spec_TableOK.f t0 t1 l2 l3 = some (tableB t0 t1 l2 l3) := by
  unfold spec_TableOK.f
  rw [if_pos]
  rw [List.all_eq_true]
  intro x _
  rw [specText12_tells]
  rfl
theorem impl_TableOK_tells (t0 t1 : Int) (l2 : List S70) (l3 : List S77) : impl_TableOK.f t0 t1 l2 l3 = some (tableB t0 t1 l2 l3) := by
  rw [table_same]
  unfold impl_TableOK.f
  rw [if_pos]
  rw [List.all_eq_true]
  intro x _
  rw [implText12_tells]
  rfl

/-! snippet FnExactTableOK -/
theorem FnExactTableOK (x0_0 : Int) (x0_1 : Int) (x0_2 : List LL) (x0_3 : List LN) (gx0_0 : (Lit.int .i64 x0_0).wf = true) (gx0_1 : (Lit.int .i64 x0_1).wf = true) (gx0_2 : (x0_2.length ≤ 9223372036854775807 ∧ ∀ y ∈ x0_2, goodL y)) (gx0_3 : (x0_3.length ≤ 9223372036854775807 ∧ ∀ y ∈ x0_3, ((Lit.int .i64 y.f0).wf = true) ∧ ((Lit.int .i64 y.f1).wf = true) ∧ (((Lit.int .i64 y.f2.f0).wf = true) ∧ ((Lit.int .i64 y.f2.f1).wf = true) ∧ ((Lit.int .i64 y.f2.f2).wf = true) ∧ (Lit.int .i64 y.f2.f3).wf = true))) : ∃ k, laws_FnExactTableOK.f k x0_0 x0_1 x0_2 x0_3 = some true := by
  obtain ⟨K, hK⟩ : ∃ K : Nat, 2097160 ≤ K := ⟨_, Nat.le_refl _⟩
  refine ⟨K, ?_⟩
  obtain ⟨v, e, hv⟩ := szT_tells x0_0 x0_1 x0_2 x0_3 gx0_2 gx0_3.1 1048576 (by omega) (by omega) K (by omega)
  unfold laws_FnExactTableOK.f
  rw [e, Option.bind_some]
  by_cases hn : v < 0
  · rw [if_pos hn]
  rw [if_neg hn]
  rcases hv with hv | ⟨_, _, h2, h3, hy⟩
  · exact absurd hv hn
  rw [toT_tells x0_0 x0_1 x0_2 x0_3 h2 h3 hy K hK, Option.bind_some]
  dsimp only
  rw [spec_TableOK_tells, Option.bind_some, Option.bind_some, impl_TableOK_tells, Option.bind_some, bne_self_eq_false, if_neg (by decide), Option.bind_some, eqT_tells x0_0 x0_1 x0_2 x0_3 h2 h3 hy K hK, Option.bind_some, if_pos rfl]

end Go.Proofs.Ytjkanhjapddhnaa.Pure
