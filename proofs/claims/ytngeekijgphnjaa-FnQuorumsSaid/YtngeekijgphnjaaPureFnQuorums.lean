/- The statement FnQuorums: what the given program's printed functions answer, as the law asks; no condition. -/
import Derived.Test.YtngeekijgphnjaaPFnQuorumsx2
set_option linter.unusedVariables false
set_option linter.unusedSimpArgs false
namespace Go.Proofs.Ytngeekijgphnjaa.Pure
open Go.RowKit Go.Proofs.Ytngeekijgphnjaa.PFnQuorums Go.Proofs.YtngeekijgphnjaaW.PrintWords Go.Proofs.YtngeekijgphnjaaW.PrintLast Go.Proofs.YtngeekijgphnjaaW.PrintMore
/-! snippet base -/
theorem wrap_id {x : Int} (h1 : -9223372036854775808 ≤ x) (h2 : x ≤ 9223372036854775807) : wrap64 x = x := by
  unfold wrap64
  omega
theorem nat_pos_succ {k d : Nat} (h : d < k) : ∃ m, k = m + 1 := ⟨k - 1, by omega⟩
theorem u8_of_wf {l : List Int} (h : ∀ x ∈ l, (Lit.int .u8 x).wf = true) (i : Int) : 0 ≤ rd l i ∧ rd l i ≤ 255 := by
  unfold rd
  rw [List.getD_eq_getElem?_getD]
  by_cases hi : i.toNat < l.length
  · rw [List.getElem?_eq_getElem hi, Option.getD_some]
    have := h _ (List.getElem_mem hi)
    simp only [Lit.wf, Bool.and_eq_true, decide_eq_true_eq] at this
    have e1 : IntKind.u8.min = 0 := rfl
    have e2 : IntKind.u8.max = 255 := rfl
    omega
  · rw [List.getElem?_eq_none (by omega)]
    simp
theorem i64_of_wf {x : Int} (h : (Lit.int .i64 x).wf = true) : -9223372036854775808 ≤ x ∧ x ≤ 9223372036854775807 := by
  simp only [Lit.wf, Bool.and_eq_true, decide_eq_true_eq] at h
  have e1 : IntKind.i64.min = -9223372036854775808 := rfl
  have e2 : IntKind.i64.max = 9223372036854775807 := rfl
  omega

/-! snippet at -/
theorem at_tells (l : List Int) (hl : l.length ≤ 1048576) (hw : ∀ x ∈ l, (Lit.int .u8 x).wf = true) (i n : Int) (hi : 0 ≤ i) (hi2 : i ≤ 1000) (hn : 1 < n) : ∃ r, laws_at.f l i n = some r ∧ 0 ≤ r ∧ r < n := by
  unfold laws_at.f
  rw [if_neg (by omega)]
  by_cases h0 : (l.length : Int) = 0
  · rw [if_pos h0, if_neg (by omega)]
    refine ⟨_, rfl, ?_⟩
    rw [wrap_id (by omega) (by omega), Int.tmod_eq_emod_of_nonneg (by omega)]
    exact ⟨Int.emod_nonneg _ (by omega), Int.emod_lt_of_pos _ (by omega)⟩
  · have hp : (0 : Int) < l.length := by omega
    have m1 : Int.tmod i (l.length : Int) = i % (l.length : Int) := Int.tmod_eq_emod_of_nonneg hi
    have e1 : wrap64 (i + 1) = i + 1 := wrap_id (by omega) (by omega)
    have m2 : Int.tmod (i + 1) (l.length : Int) = (i + 1) % (l.length : Int) := Int.tmod_eq_emod_of_nonneg (by omega)
    have d1 : Int.tdiv i (l.length : Int) = i / (l.length : Int) := Int.tdiv_eq_ediv_of_nonneg hi
    rw [if_neg h0, e1, m1, m2, d1]
    have a1 := Int.emod_nonneg i (show (l.length : Int) ≠ 0 by omega)
    have a2 := Int.emod_lt_of_pos i hp
    have b1 := Int.emod_nonneg (i + 1) (show (l.length : Int) ≠ 0 by omega)
    have b2 := Int.emod_lt_of_pos (i + 1) hp
    rw [if_pos a1, if_pos a2, if_pos b1, if_pos b2, if_neg (by omega)]
    have r1 := u8_of_wf hw (i % (l.length : Int))
    have r2 := u8_of_wf hw ((i + 1) % (l.length : Int))
    have q1 : 0 ≤ i / (l.length : Int) := Int.ediv_nonneg hi (by omega)
    have q2 : i / (l.length : Int) ≤ i := Int.ediv_le_self _ hi
    refine ⟨_, rfl, ?_⟩
    generalize rd l (i % (l.length : Int)) = x at *
    generalize rd l ((i + 1) % (l.length : Int)) = y at *
    generalize i / (l.length : Int) = q at *
    rw [wrap_id (x := x) (by omega) (by omega), wrap_id (x := y) (by omega) (by omega), wrap_id (x := x * 31) (by omega) (by omega), wrap_id (x := q) (by omega) (by omega), wrap_id (x := x * 31 + y) (by omega) (by omega), wrap_id (x := x * 31 + y + q) (by omega) (by omega), Int.tmod_eq_emod_of_nonneg (by omega)]
    exact ⟨Int.emod_nonneg _ (by omega), Int.emod_lt_of_pos _ (by omega)⟩

/-! snippet hasInt -/
theorem hasInt_l0 (xs : List Int) (n : Int) (hx : xs.length ≤ 140737488351232) (d : Nat) : ∀ (k : Nat) (i : Nat), xs.length - i = d → i ≤ xs.length → d < k → laws_hasInt.l0 k xs n i = some (decide (n ∈ xs.drop i)) := by
  induction d with
  | zero =>
    intro k i hd hi hk
    obtain ⟨k, rfl⟩ := nat_pos_succ hk
    simp only [laws_hasInt.l0]
    rw [if_neg (by omega), List.drop_eq_nil_of_le (by omega)]
    simp
  | succ d ih =>
    intro k i hd hi hk
    obtain ⟨k, rfl⟩ := nat_pos_succ hk
    simp only [laws_hasInt.l0]
    have hlt : i < xs.length := by omega
    rw [if_pos (by omega), if_pos (by omega), wrap_id (by omega) (by omega), show ((i : Int) + 1) = ((i + 1 : Nat) : Int) by omega, ih k (i + 1) (by omega) (by omega) (by omega)]
    have e : rd xs i = xs[i] := by unfold rd; simp [List.getD_eq_getElem?_getD, hlt]
    rw [e, List.drop_eq_getElem_cons hlt]
    by_cases h : xs[i] = n
    · rw [if_pos h, decide_eq_true (List.mem_cons.mpr (.inl h.symm))]
    · rw [if_neg h]
      congr 1
      rw [decide_eq_decide, List.mem_cons]
      exact ⟨.inr, fun hm => hm.elim (fun e => absurd e.symm h) id⟩
theorem hasInt_tells (xs : List Int) (n : Int) (hx : xs.length ≤ 140737488351232) (k : Nat) (hk : xs.length < k) : laws_hasInt.f k xs n = some (decide (n ∈ xs)) := by
  unfold laws_hasInt.f
  have := hasInt_l0 xs n hx xs.length k 0 (by omega) (by omega) hk
  simpa using this

/-! snippet pigeon -/
theorem nodup_bound (n : Nat) : ∀ (xs : List Int), xs.Nodup → (∀ x ∈ xs, 0 ≤ x ∧ x < n) → xs.length ≤ n := by
  induction n with
  | zero =>
    intro xs _ hb
    cases xs with
    | nil => simp
    | cons x xs => have := hb x (by simp); omega
  | succ n ih =>
    intro xs hn hb
    by_cases h : (n : Int) ∈ xs
    · have h1 := ih (xs.erase n) (hn.erase _) (fun x hx => by
        have h2 := (List.Nodup.mem_erase_iff hn).mp hx
        have h3 := hb x h2.2
        have h4 := h2.1
        omega)
      rw [List.length_erase_of_mem h] at h1
      omega
    · have h1 := ih xs hn (fun x hx => by
        have h3 := hb x hx
        have h4 : x ≠ n := fun e => h (e ▸ hx)
        omega)
      omega
theorem pigeon (n q : Nat) (a b : List Int) (ha : a.Nodup) (hb : b.Nodup) (ra : ∀ x ∈ a, 0 ≤ x ∧ x < n) (rb : ∀ x ∈ b, 0 ≤ x ∧ x < n) (la : a.length = q) (lb : b.length = q) : 2 * q ≤ n + (a.filter (fun x => decide (x ∈ b))).length := by
  have h1 : (a.filter (fun x => decide (x ∈ b))).length + (a.filter (fun x => !decide (x ∈ b))).length = a.length := by
    clear ha ra la
    induction a with
    | nil => rfl
    | cons x a ih =>
      rw [List.filter_cons, List.filter_cons]
      by_cases h : x ∈ b
      · rw [decide_eq_true h]; simp only [Bool.not_true, Bool.false_eq_true, if_true, if_false, List.length_cons]; omega
      · rw [decide_eq_false h]; simp only [Bool.not_false, Bool.false_eq_true, if_true, if_false, List.length_cons]; omega
  have h2 : (a.filter (fun x => !decide (x ∈ b)) ++ b).length ≤ n := by
    refine nodup_bound n _ ?_ ?_
    · rw [List.nodup_append]
      refine ⟨ha.filter _, hb, ?_⟩
      intro x hx y hy e
      subst e
      simp at hx
      exact hx.2 hy
    · intro x hx
      rcases List.mem_append.mp hx with hx | hx
      · exact ra x (List.mem_filter.mp hx).1
      · exact rb x hx
  rw [List.length_append] at h2
  omega

/-! snippet quorum -/
theorem areNodes_tells (a0 : Int) : impl_areNodes.f a0 = some (decide (a0 = 1) || decide (a0 = 4) || decide (a0 = 7)) := by
  unfold impl_areNodes.f impl_FaultsOf.f
  by_cases h1 : a0 = 1
  · subst h1; decide +kernel
  by_cases h4 : a0 = 4
  · subst h4; decide +kernel
  by_cases h7 : a0 = 7
  · subst h7; decide +kernel
  simp [h1, h4, h7]

/-! snippet within -/
theorem within_tells (n low high : Int) : impl_within.f n low high = some (decide (low ≤ n) && decide (n ≤ high)) := by
  unfold impl_within.f
  by_cases h : n ≥ low
  · rw [if_pos h, decide_eq_true h]; rfl
  · rw [if_neg h, decide_eq_false h]; rfl

/-! snippet FnQuorums -/
theorem at_tells1 (l : List Int) (hl : l.length ≤ 1048576) (hw : ∀ x ∈ l, (Lit.int .u8 x).wf = true) (i n : Int) (hi : 0 ≤ i) (hi2 : i ≤ 1000) (hn : 1 ≤ n) : ∃ r, laws_at.f l i n = some r ∧ 0 ≤ r ∧ r < n := by
  by_cases h : 1 < n
  · exact at_tells l hl hw i n hi hi2 h
  · refine ⟨0, ?_, by omega, by omega⟩
    unfold laws_at.f
    rw [if_pos (by omega)]
def GoodL (n : Int) (xs : List Int) : Prop := xs.Nodup ∧ ∀ x ∈ xs, 0 ≤ x ∧ x < n
theorem GoodL.snoc {n x : Int} {xs : List Int} (h : GoodL n xs) (hx : 0 ≤ x ∧ x < n) (hm : x ∉ xs) : GoodL n (xs ++ [x]) := by
  refine ⟨List.nodup_append.mpr ⟨h.1, by simp, ?_⟩, ?_⟩
  · intro a ha b hb e
    simp at hb
    subst hb
    subst e
    exact hm ha
  · intro y hy
    rcases List.mem_append.mp hy with hy | hy
    · exact h.2 y hy
    · simp at hy
      subst hy
      exact hx
section
variable (x0 x1 : List Int) (h0 : x0.length ≤ 1048576) (h1 : x1.length ≤ 1048576) (w0 : ∀ x ∈ x0, (Lit.int .u8 x).wf = true) (w1 : ∀ x ∈ x1, (Lit.int .u8 x).wf = true)
variable (n q f : Nat) (hn : n = 1 ∧ q = 1 ∧ f = 0 ∨ n = 4 ∧ q = 3 ∧ f = 1 ∨ n = 7 ∧ q = 5 ∧ f = 2)
include h0 w0 hn in
theorem quorums_l2 (a b : List Int) (la : a.length = q) (lb : b.length ≤ 10) (d : Nat) : ∀ (k : Nat) (c i : Nat), q - i = d → i ≤ q → c ≤ i → f + 1 ≤ c + ((a.drop i).filter (fun x => decide (x ∈ b))).length → d + 20 ≤ k →
    laws_FnQuorums.l2 k x0 n q f a b c i = some true := by
  induction d with
  | zero =>
    intro k c i hd hi hc hf hk
    obtain ⟨k, rfl⟩ : ∃ m, k = m + 1 := ⟨k - 1, by omega⟩
    simp only [laws_FnQuorums.l2]
    rw [if_neg (by omega)]
    obtain ⟨v, hv, v0, v1⟩ := at_tells1 x0 h0 w0 0 21 (by omega) (by omega) (by omega)
    have hd0 : a.drop i = [] := List.drop_eq_nil_of_le (by omega)
    rw [hd0] at hf
    simp at hf
    rw [hv, wrap_id (by omega) (by omega)]
    simp only [Option.bind_some]
    unfold impl_PrimaryOf.f
    rw [areNodes_tells, within_tells]
    have e1 : (decide ((n : Int) = 1) || decide ((n : Int) = 4) || decide ((n : Int) = 7)) = true := by
      rcases hn with ⟨rfl, _⟩ | ⟨rfl, _⟩ | ⟨rfl, _⟩ <;> rfl
    have e2 : (decide (0 ≤ v) && decide (v ≤ 20)) = true := by simp; omega
    rw [e1, e2]
    simp only [Option.bind_some, if_true]
    rw [if_neg (show ¬ (n : Int) = 0 by omega)]
    simp only [Option.bind_some]
    rw [if_pos (by omega)]
    simp
    try omega
  | succ d ih =>
    intro k c i hd hi hc hf hk
    obtain ⟨k, rfl⟩ : ∃ m, k = m + 1 := ⟨k - 1, by omega⟩
    simp only [laws_FnQuorums.l2]
    have hlt : i < a.length := by omega
    have e : rd a i = a[i] := by unfold rd; simp [List.getD_eq_getElem?_getD, hlt]
    rw [if_pos (by omega), if_pos (by omega), if_pos (by omega), e, hasInt_tells b _ (by omega) k (by omega), wrap_id (x := (i : Int) + 1) (by omega) (by omega), wrap_id (x := (c : Int) + 1) (by omega) (by omega), show ((i : Int) + 1) = ((i + 1 : Nat) : Int) by omega, show ((c : Int) + 1) = ((c + 1 : Nat) : Int) by omega]
    rw [List.drop_eq_getElem_cons hlt, List.filter_cons] at hf
    simp only [Option.bind_some]
    by_cases hb : a[i] ∈ b
    · rw [decide_eq_true hb] at hf ⊢
      simp only [if_true, List.length_cons] at hf ⊢
      exact ih k (c + 1) (i + 1) (by omega) (by omega) (by omega) (by omega) (by omega)
    · rw [decide_eq_false hb] at hf ⊢
      simp at hf ⊢
      exact ih k c (i + 1) (by omega) (by omega) (by omega) (by simpa using hf) (by omega)
include h0 h1 w0 w1 hn in
theorem quorums_l1 (a : List Int) (ga : GoodL n a) (la : a.length ≤ q) (d : Nat) : ∀ (k : Nat) (b : List Int) (i : Nat), 200 - i = d → i ≤ 200 → GoodL n b → b.length ≤ q → 2 * d + 40 ≤ k →
    laws_FnQuorums.l1 k x0 x1 n q f a b i = some true := by
  have stop : ∀ (k : Nat) (b : List Int), GoodL n b → b.length ≤ q → 30 ≤ k → (if (a.length : Int) < q then (laws_FnQuorums.j6 k x0 n q f a b true) else (laws_FnQuorums.j6 k x0 n q f a b (decide ((b.length : Int) < q)))) = some true := by
    intro k b gb lb hk
    obtain ⟨k, rfl⟩ : ∃ m, k = m + 1 := ⟨k - 1, by omega⟩
    simp only [laws_FnQuorums.j6]
    by_cases c1 : (a.length : Int) < q
    · rw [if_pos c1]; simp
    rw [if_neg c1]
    by_cases c2 : (b.length : Int) < q
    · rw [decide_eq_true c2]; simp
    rw [decide_eq_false c2]
    simp only [Bool.false_eq_true, if_false]
    have hp := pigeon n q a b ga.1 gb.1 ga.2 gb.2 (by omega) (by omega)
    refine quorums_l2 x0 h0 w0 n q f hn a b (by omega) (by omega) q k 0 0 (by omega) (by omega) (by omega) ?_ (by omega)
    simp only [List.drop_zero]
    omega
  induction d with
  | zero =>
    intro k b i hd hi gb lb hk
    obtain ⟨k, rfl⟩ : ∃ m, k = m + 2 := ⟨k - 2, by omega⟩
    rw [laws_FnQuorums.l1]
    have e : decide ((i : Int) < 200) = false := decide_eq_false (by omega)
    rw [e, ite_self, laws_FnQuorums.j5, if_neg Bool.false_ne_true]
    exact stop k b gb lb (by omega)
  | succ d ih =>
    intro k b i hd hi gb lb hk
    obtain ⟨k, rfl⟩ : ∃ m, k = m + 2 := ⟨k - 2, by omega⟩
    rw [laws_FnQuorums.l1]
    by_cases c1 : (b.length : Int) < q
    · rw [if_pos c1, decide_eq_true (show (i : Int) < 200 by omega), laws_FnQuorums.j5, if_pos rfl]
      obtain ⟨v, hv, v0, v1⟩ := at_tells1 x1 h1 w1 i n (by omega) (by omega) (by omega)
      rw [hv, Option.bind_some, hasInt_tells b v (by omega) k (by omega), wrap_id (by omega) (by omega), show ((i : Int) + 1) = ((i + 1 : Nat) : Int) by omega]
      simp only [Option.bind_some]
      by_cases hm : v ∈ b
      · rw [decide_eq_true hm]
        rw [if_pos rfl]
        exact ih k b (i + 1) (by omega) (by omega) gb lb (by omega)
      · rw [decide_eq_false hm]
        rw [if_neg Bool.false_ne_true, if_pos (by omega)]
        exact ih k (b ++ [v]) (i + 1) (by omega) (by omega) (gb.snoc ⟨v0, v1⟩ hm) (by simp; omega) (by omega)
    · rw [if_neg c1, laws_FnQuorums.j5, if_neg Bool.false_ne_true]
      exact stop k b gb lb (by omega)
include h0 h1 w0 w1 hn in
theorem quorums_l0 (d : Nat) : ∀ (k : Nat) (a : List Int) (i : Nat), 200 - i = d → i ≤ 200 → GoodL n a → a.length ≤ q → 2 * d + 480 ≤ k →
    laws_FnQuorums.l0 k x0 x1 n q f a [] i = some true := by
  have stop : ∀ (k : Nat) (a : List Int), GoodL n a → a.length ≤ q → 440 ≤ k → laws_FnQuorums.l1 k x0 x1 n q f a [] 0 = some true := by
    intro k a ga la hk
    exact quorums_l1 x0 x1 h0 h1 w0 w1 n q f hn a ga la 200 k [] 0 rfl (by omega) ⟨by simp, by simp⟩ (by simp) (by omega)
  induction d with
  | zero =>
    intro k a i hd hi ga la hk
    obtain ⟨k, rfl⟩ : ∃ m, k = m + 2 := ⟨k - 2, by omega⟩
    rw [laws_FnQuorums.l0]
    have e : decide ((i : Int) < 200) = false := decide_eq_false (by omega)
    rw [e, ite_self, laws_FnQuorums.j3, if_neg Bool.false_ne_true]
    exact stop k a ga la (by omega)
  | succ d ih =>
    intro k a i hd hi ga la hk
    obtain ⟨k, rfl⟩ : ∃ m, k = m + 2 := ⟨k - 2, by omega⟩
    rw [laws_FnQuorums.l0]
    by_cases c1 : (a.length : Int) < q
    · rw [if_pos c1, decide_eq_true (show (i : Int) < 200 by omega), laws_FnQuorums.j3, if_pos rfl]
      obtain ⟨v, hv, v0, v1⟩ := at_tells1 x0 h0 w0 i n (by omega) (by omega) (by omega)
      rw [hv, Option.bind_some, hasInt_tells a v (by omega) k (by omega), wrap_id (by omega) (by omega), show ((i : Int) + 1) = ((i + 1 : Nat) : Int) by omega]
      simp only [Option.bind_some]
      by_cases hm : v ∈ a
      · rw [decide_eq_true hm]
        rw [if_pos rfl]
        exact ih k a (i + 1) (by omega) (by omega) ga la (by omega)
      · rw [decide_eq_false hm]
        rw [if_neg Bool.false_ne_true, if_pos (by omega)]
        exact ih k (a ++ [v]) (i + 1) (by omega) (by omega) (ga.snoc ⟨v0, v1⟩ hm) (by simp; omega) (by omega)
    · rw [if_neg c1, laws_FnQuorums.j3, if_neg Bool.false_ne_true]
      exact stop k a ga la (by omega)
end
theorem FnQuorums (l0 : List Int) (l1 : List Int) (g0 : (l0.length ≤ 9223372036854775807 ∧ ∀ y ∈ l0, (Lit.int .u8 y).wf = true)) (g1 : (l1.length ≤ 9223372036854775807 ∧ ∀ y ∈ l1, (Lit.int .u8 y).wf = true)) : ∃ k, laws_FnQuorums.f k l0 l1 = some true := by
  obtain ⟨hm0, hw0⟩ := g0
  obtain ⟨hm1, hw1⟩ := g1
  refine ⟨1000, ?_⟩
  unfold laws_FnQuorums.f
  by_cases c0 : (l0.length : Int) > 1048576
  · rw [if_pos c0]; rfl
  rw [if_neg c0]
  by_cases c1 : (l1.length : Int) > 1048576
  · rw [decide_eq_true c1]; rfl
  rw [decide_eq_false c1]
  obtain ⟨r, hr, r0, r1⟩ := at_tells1 l1 (by omega) hw1 0 3 (by omega) (by omega) (by omega)
  have all : ∀ (n q f : Nat) (N Q F : Int), N = n → Q = q → F = f → (n = 1 ∧ q = 1 ∧ f = 0 ∨ n = 4 ∧ q = 3 ∧ f = 1 ∨ n = 7 ∧ q = 5 ∧ f = 2) → laws_FnQuorums.l0 998 l0 l1 N Q F [] [] 0 = some true := by
    rintro n q f N Q F rfl rfl rfl hn
    exact quorums_l0 l0 l1 (by omega) (by omega) hw0 hw1 n q f hn 200 998 [] 0 rfl (by omega) ⟨by simp, by simp⟩ (by simp) (by omega)
  have hr3 : r = 0 ∨ r = 1 ∨ r = 2 := by omega
  generalize hJ : (fun n q f x => laws_FnQuorums.j1 999 l0 l1 n q f x) = J
  have jj : ∀ n q f x, laws_FnQuorums.j1 999 l0 l1 n q f x = J n q f x := fun n q f x => by rw [← hJ]
  have b1 : J 1 1 0 false = some true := by rw [← jj, laws_FnQuorums.j1, if_neg Bool.false_ne_true]; exact all 1 1 0 1 1 0 rfl rfl rfl (by omega)
  have b2 : J 4 3 1 false = some true := by rw [← jj, laws_FnQuorums.j1, if_neg Bool.false_ne_true]; exact all 4 3 1 4 3 1 rfl rfl rfl (by omega)
  have b3 : J 7 5 2 false = some true := by rw [← jj, laws_FnQuorums.j1, if_neg Bool.false_ne_true]; exact all 7 5 2 7 5 2 rfl rfl rfl (by omega)
  clear all
  rw [laws_FnQuorums.j0, if_neg Bool.false_ne_true, hr]
  simp only [Option.bind_some, jj]
  clear hJ jj
  have q1 : impl_QuorumOf.f 1 = some (1, 0) := by decide +kernel
  have q4 : impl_QuorumOf.f 4 = some (3, 0) := by decide +kernel
  have q7 : impl_QuorumOf.f 7 = some (5, 0) := by decide +kernel
  have f1 : impl_FaultsOf.f 1 = some (0, 0) := by decide +kernel
  have f4 : impl_FaultsOf.f 4 = some (1, 0) := by decide +kernel
  have f7 : impl_FaultsOf.f 7 = some (2, 0) := by decide +kernel
  have e0 : rd [1, 4, 7] 0 = 1 := rfl
  have e1 : rd [1, 4, 7] 1 = 4 := rfl
  have e2 : rd [1, 4, 7] 2 = 7 := rfl
  have L : (([1, 4, 7] : List Int).length : Int) = 3 := rfl
  rcases hr3 with rfl | rfl | rfl
  · rw [e0, q1, f1, L]; simp only [Option.bind_some]
    rw [if_pos (by omega), if_pos (by omega), if_pos trivial, if_pos trivial, if_pos (by decide +kernel), if_neg (by decide +kernel), decide_eq_false (by decide +kernel)]
    exact b1
  · rw [e1, q4, f4, L]; simp only [Option.bind_some]
    rw [if_pos (by omega), if_pos (by omega), if_pos trivial, if_pos trivial, if_pos (by decide +kernel), if_neg (by decide +kernel), decide_eq_false (by decide +kernel)]
    exact b2
  · rw [e2, q7, f7, L]; simp only [Option.bind_some]
    rw [if_pos (by omega), if_pos (by omega), if_pos trivial, if_pos trivial, if_pos (by decide +kernel), if_neg (by decide +kernel), decide_eq_false (by decide +kernel)]
    exact b3

end Go.Proofs.Ytngeekijgphnjaa.Pure
