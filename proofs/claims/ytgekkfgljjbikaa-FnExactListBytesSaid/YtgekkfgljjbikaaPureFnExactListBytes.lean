/- The statement FnExactListBytes: what the given program's printed functions answer, as the law asks; no condition. -/
import Derived.Test.YtgekkfgljjbikaaPFnExactListBytesx4
set_option linter.unusedVariables false
set_option linter.unusedSimpArgs false
namespace Go.Proofs.Ytgekkfgljjbikaa.Pure
open Go.RowKit Go.Proofs.Ytgekkfgljjbikaa.PFnExactListBytes Go.Proofs.YtgekkfgljjbikaaV.PrintWords Go.Proofs.YtgekkfgljjbikaaV.PrintLast Go.Proofs.YtgekkfgljjbikaaV.PrintMore
/-! snippet base -/
theorem wrap_id {x : Int} (h1 : -9223372036854775808 ≤ x) (h2 : x ≤ 9223372036854775807) : wrap64 x = x := by
  unfold wrap64
  omega
theorem nat_pos_succ {k d : Nat} (h : d < k) : ∃ m, k = m + 1 := ⟨k - 1, by omega⟩
theorem u8_of_wf {l : List Int} (h : ∀ x ∈ l, (Lit.int .u8 x).wf = true) (i : Int) : 0 ≤ rd l i ∧ rd l i ≤ 255 := by
  unfold rd
  rw [List.getD_eq_getElem?_getD]
  by_cases hi : i.toNat < l.length
  · rw [List.getElem?_eq_getElem hi, Option.getD_some]
    have := h _ (List.getElem_mem hi)
    simp only [Lit.wf, Bool.and_eq_true, decide_eq_true_eq] at this
    have e1 : IntKind.u8.min = 0 := rfl
    have e2 : IntKind.u8.max = 255 := rfl
    omega
  · rw [List.getElem?_eq_none (by omega)]
    simp
theorem i64_of_wf {x : Int} (h : (Lit.int .i64 x).wf = true) : -9223372036854775808 ≤ x ∧ x ≤ 9223372036854775807 := by
  simp only [Lit.wf, Bool.and_eq_true, decide_eq_true_eq] at h
  have e1 : IntKind.i64.min = -9223372036854775808 := rfl
  have e2 : IntKind.i64.max = 9223372036854775807 := rfl
  omega
theorem toList_len (s : ByteArray) : s.toList.length = s.size := by
  rw [ByteArray.toList_eq]
  exact data_length s
theorem toList_inj {a b : ByteArray} (h : a.toList = b.toList) : a = b := by
  rw [ByteArray.toList_eq, ByteArray.toList_eq] at h
  exact Go.WideShapes.bytes_inj h

/-! snippet rdat -/
theorem rdOf_at (l : List ByteArray) (i : Nat) (hi : i < l.length) : rdOf ByteArray.empty l (i : Int) = l[i] := by
  unfold rdOf
  simp [List.getD_eq_getElem?_getD, hi]

/-! snippet nums -/
namespace Sha
theorem bytesOf_nums (l : List Int) (h : ∀ x ∈ l, 0 ≤ x ∧ x < 256) : bytesOf (strOfNums l) = l := by
  unfold bytesOf strOfNums
  simp only [List.map_map]
  conv => rhs; rw [← List.map_id l]
  apply List.map_congr_left
  intro x hx
  obtain ⟨h0, h1⟩ := h x hx
  simp only [Function.comp_apply, id_eq, UInt8.toNat_ofNat']
  omega
theorem nums_bytesOf (t : ByteArray) : strOfNums (bytesOf t) = t := by
  obtain ⟨⟨l⟩⟩ := t
  unfold bytesOf strOfNums
  simp only [List.map_map]
  have h : List.map ((fun n : Int => UInt8.ofNat n.toNat) ∘ fun b : UInt8 => (b.toNat : Int)) l = l := by
    conv => rhs; rw [← List.map_id l]
    apply List.map_congr_left
    intro x _
    simp
  rw [h]
theorem bytesOf_le (t : ByteArray) : ∀ x ∈ bytesOf t, 0 ≤ x ∧ x < 256 := by
  intro x hx
  unfold bytesOf at hx
  obtain ⟨b, _, rfl⟩ := List.mem_map.1 hx
  have := b.toNat_lt
  omega
theorem ba_ext {a b : ByteArray} (h : a.data.toList = b.data.toList) : a = b := by
  obtain ⟨⟨a⟩⟩ := a
  obtain ⟨⟨b⟩⟩ := b
  simp only at h
  rw [h]
theorem ba_app (a b : ByteArray) : (a ++ b).data.toList = a.data.toList ++ b.data.toList := by simp
theorem nums_app (a b : List Int) : strOfNums (a ++ b) = strOfNums a ++ strOfNums b := by
  apply ba_ext
  rw [ba_app]
  simp [strOfNums]
theorem bytes_app (a b : ByteArray) : bytesOf (a ++ b) = bytesOf a ++ bytesOf b := by
  unfold bytesOf
  rw [ba_app, List.map_append]
def num (x : Int) : Nat → List Int → List Int
  | 0, l => l
  | k + 1, l => num (x / 256) k (l.set k (x % 256))
theorem num4 (n : Int) : num n 4 (List.replicate 4 0) = [n / 16777216 % 256, n / 65536 % 256, n / 256 % 256, n % 256] := by
  show [n / 256 / 256 / 256 % 256, n / 256 / 256 % 256, n / 256 % 256, n % 256] = _
  rw [show n / 256 / 256 = n / 65536 by omega, show n / 65536 / 256 = n / 16777216 by omega]
end Sha

/-! snippet number -/
theorem number_l0 (d : Nat) : ∀ (k : Nat) (x : Int) (l : List Int), d ≤ l.length → l.length ≤ 65536 → d < k → impl_number.l0 k x l ((d : Int) - 1) = some (strOfNums (Sha.num x d l)) := by
  induction d with
  | zero =>
    intro k x l _ _ hk
    obtain ⟨k, rfl⟩ := nat_pos_succ hk
    rw [impl_number.l0, if_neg (by omega)]
    rfl
  | succ d ih =>
    intro k x l hd hl hk
    obtain ⟨k, rfl⟩ := nat_pos_succ hk
    rw [impl_number.l0, if_pos (by omega), if_pos (by omega), if_pos (by omega)]
    have h1 : wrap64 (((d + 1 : Nat) : Int) - 1 - 1) = (d : Int) - 1 := by rw [wrap_id (by omega) (by omega)]; omega
    have h2 : (((d + 1 : Nat) : Int) - 1).toNat = d := by omega
    rw [h1, h2, ih _ _ _ (by rw [List.length_set]; omega) (by rw [List.length_set]; exact hl) (by omega)]
    rfl
theorem number_tells (n : Nat) (x : Int) (h0 : n ≤ 65536) (k : Nat) (hk : n < k) : impl_number.f k x n = some (strOfNums (Sha.num x n (List.replicate n 0))) := by
  rw [impl_number.f, if_pos (by omega), if_pos (by omega), wrap_id (by omega) (by omega), Int.toNat_natCast]
  exact number_l0 n k x _ (by simp) (by simp; omega) hk
theorem number1 (x : Int) (k : Nat) (hk : 1 < k) : impl_number.f k x 1 = some (strOfNums [x % 256]) := number_tells 1 x (by omega) k hk
theorem number2 (x : Int) (k : Nat) (hk : 2 < k) : impl_number.f k x 2 = some (strOfNums [x / 256 % 256, x % 256]) := number_tells 2 x (by omega) k hk
theorem number4 (x : Int) (k : Nat) (hk : 4 < k) : impl_number.f k x 4 = some (strOfNums [x / 16777216 % 256, x / 65536 % 256, x / 256 % 256, x % 256]) := by
  rw [← Sha.num4]
  exact number_tells 4 x (by omega) k hk
theorem ba_assoc (a b c : ByteArray) : a ++ b ++ c = a ++ (b ++ c) := by
  apply Sha.ba_ext
  simp
theorem nums_size1 (x : Int) : (strOfNums [x]).size = 1 := rfl

/-! snippet u64 -/
theorem u64_small (x : Int) (h0 : 0 ≤ x) (h1 : x ≤ 100) : IntKind.u64.wrap x = x := by
  simp only [IntKind.wrap, IntKind.bits, IntKind.signed]
  simp
  omega

/-! snippet l02 -/
def numS (n : Int) : Nat → List Int
  | 0 => []
  | d + 1 => (shr .i64 n (8 * (d : Int))) % 256 :: numS n d
theorem l02_l0 (n : Int) (d : Nat) : ∀ (k : Nat) (xs : List Int), d ≤ 8 → xs.length ≤ 1000 - d → d < k → spec_l02Number.l0 k n xs ((d : Int) - 1) = some (xs ++ numS n d) := by
  induction d with
  | zero =>
    intro k xs _ _ hk
    obtain ⟨k, rfl⟩ := nat_pos_succ hk
    rw [spec_l02Number.l0, if_neg (by omega), numS, List.append_nil]
  | succ d ih =>
    intro k xs hd hx hk
    obtain ⟨k, rfl⟩ := nat_pos_succ hk
    rw [spec_l02Number.l0, if_pos (by omega), show ((d + 1 : Nat) : Int) - 1 = d by omega, wrap_id (x := 8 * (d : Int)) (by omega) (by omega), u64_small (8 * (d : Int)) (by omega) (by omega), if_pos (by omega), if_pos (by omega), wrap_id (by omega) (by omega), ih k _ (by omega) (by rw [List.length_append]; simp only [List.length_cons, List.length_nil]; omega) (by omega), numS, List.append_assoc]
    rfl
def num4L (n : Int) : List Int := [n / 16777216 % 256, n / 65536 % 256, n / 256 % 256, n % 256]
theorem shr8 (n : Int) : shr .i64 n 8 = n / 256 := rfl
theorem shr16 (n : Int) : shr .i64 n 16 = n / 65536 := rfl
theorem shr24 (n : Int) : shr .i64 n 24 = n / 16777216 := rfl
theorem shr0 (n : Int) : shr .i64 n 0 = n := by unfold shr; simp
theorem numS4 (n : Int) : numS n 4 = num4L n := by
  simp only [numS, num4L]
  rw [show (8 : Int) * ((3 : Nat) : Int) = 24 from rfl, show (8 : Int) * ((2 : Nat) : Int) = 16 from rfl, show (8 : Int) * ((1 : Nat) : Int) = 8 from rfl, show (8 : Int) * ((0 : Nat) : Int) = 0 from rfl, shr24, shr16, shr8, shr0]
theorem l02_4 (n : Int) (k : Nat) (hk : 4 < k) : spec_l02Number.f k n 4 = some (num4L n) := by
  unfold spec_l02Number.f
  rw [wrap_id (by omega) (by omega), ← numS4]
  exact l02_l0 n 4 k [] (by omega) (by simp) hk
theorem num4L_le (n : Int) : ∀ x ∈ num4L n, 0 ≤ x ∧ x < 256 := by
  intro x hx
  simp only [num4L, List.mem_cons, List.not_mem_nil, or_false] at hx
  rcases hx with rfl | rfl | rfl | rfl <;> omega

/-! snippet l02b -/
def num2L (n : Int) : List Int := [n / 256 % 256, n % 256]
theorem numS2 (n : Int) : numS n 2 = num2L n := by
  simp only [numS, num2L]
  rw [show (8 : Int) * ((1 : Nat) : Int) = 8 from rfl, show (8 : Int) * ((0 : Nat) : Int) = 0 from rfl, shr8, shr0]
theorem l02_2 (n : Int) (k : Nat) (hk : 2 < k) : spec_l02Number.f k n 2 = some (num2L n) := by
  unfold spec_l02Number.f
  rw [wrap_id (by omega) (by omega), ← numS2]
  exact l02_l0 n 2 k [] (by omega) (by simp) hk
theorem num2L_le (n : Int) : ∀ x ∈ num2L n, 0 ≤ x ∧ x < 256 := by
  intro x hx
  simp only [num2L, List.mem_cons, List.not_mem_nil, or_false] at hx
  rcases hx with rfl | rfl <;> omega

/-! snippet byteM -/
/-- The marks that the law writes: n, n + 1, .. . -/
def marksB : Nat → Int → List Int
  | 0, _ => []
  | d + 1, m => m % 256 :: marksB d (m + 1)
theorem marksB_length (d : Nat) : ∀ m : Int, (marksB d m).length = d := by
  induction d with
  | zero => intro m; rfl
  | succ d ih => intro m; rw [marksB, List.length_cons, ih]
theorem markB_l0 (d : Nat) : ∀ (k : Nat) (x : List Int) (m : Int) (i : Nat), x.length = i + d → x.length ≤ 1048576 → 1 ≤ m → m + d ≤ 2000000 → d < k → laws_markByteS.l0 k x m i = some (m + d, x.take i ++ marksB d m) := by
  induction d with
  | zero =>
    intro k x m i hd hx h0 h1 hk
    obtain ⟨k, rfl⟩ : ∃ m, k = m + 1 := ⟨k - 1, by omega⟩
    rw [laws_markByteS.l0, if_neg (by omega), marksB, List.append_nil, List.take_of_length_le (by omega), show m + ((0 : Nat) : Int) = m by omega]
  | succ d ih =>
    intro k x m i hd hx h0 h1 hk
    obtain ⟨k, rfl⟩ : ∃ m, k = m + 1 := ⟨k - 1, by omega⟩
    rw [laws_markByteS.l0, if_pos (by omega), if_pos (by omega), wrap_id (x := m + 1) (by omega) (by omega), wrap_id (x := (i : Int) + 1) (by omega) (by omega), Int.toNat_natCast, show (i : Int) + 1 = ((i + 1 : Nat) : Int) by omega, ih k _ (m + 1) (i + 1) (by rw [List.length_set]; omega) (by rw [List.length_set]; omega) (by omega) (by omega) (by omega), marksB, List.take_succ_eq_append_getElem (by rw [List.length_set]; omega), List.getElem_set_self, List.take_set_of_le (Nat.le_refl i), List.append_assoc, show m + 1 + (d : Int) = m + ((d + 1 : Nat) : Int) by omega]
    rfl
theorem markB_tells (x : List Int) (hx : x.length ≤ 1048576) (k : Nat) (hk : 1048577 ≤ k) : laws_markByteS.f k x 1 = some (1 + (x.length : Int), marksB x.length 1) := by
  unfold laws_markByteS.f
  have := markB_l0 x.length k x 1 0 (by omega) hx (by omega) (by omega) (by omega)
  simpa using this
theorem heldB_l0 (d : Nat) : ∀ (k : Nat) (x : List Int) (m : Int) (i : Nat), x.length = i + d → x.length ≤ 1048576 → x.drop i = marksB d m → 1 ≤ m → m + d ≤ 2000000 → d < k → laws_heldByteS.l0 k x m i = some (m + d) := by
  induction d with
  | zero =>
    intro k x m i hd hx e h0 h1 hk
    obtain ⟨k, rfl⟩ : ∃ m, k = m + 1 := ⟨k - 1, by omega⟩
    rw [laws_heldByteS.l0, if_neg (by omega), show m + ((0 : Nat) : Int) = m by omega]
  | succ d ih =>
    intro k x m i hd hx e h0 h1 hk
    obtain ⟨k, rfl⟩ : ∃ m, k = m + 1 := ⟨k - 1, by omega⟩
    have hi : i < x.length := by omega
    rw [List.drop_eq_getElem_cons hi, marksB] at e
    injection e with e1 e2
    have er : rd x i = x[i] := by unfold rd; simp [List.getD_eq_getElem?_getD, hi]
    rw [laws_heldByteS.l0, if_pos (by omega), if_pos (by omega), er, e1, if_pos rfl, wrap_id (x := m + 1) (by omega) (by omega), wrap_id (x := (i : Int) + 1) (by omega) (by omega), show (i : Int) + 1 = ((i + 1 : Nat) : Int) by omega, ih k x (m + 1) (i + 1) (by omega) hx e2 (by omega) (by omega) (by omega), show m + 1 + (d : Int) = m + ((d + 1 : Nat) : Int) by omega]
theorem heldB_tells (n : Nat) (hn : n ≤ 900000) (k : Nat) (hk : 1048577 ≤ k) : laws_heldByteS.f k (marksB n 1) 1 = some (1 + (n : Int)) := by
  unfold laws_heldByteS.f
  have hl := marksB_length n 1
  exact heldB_l0 n k (marksB n 1) 1 0 (by omega) (by omega) rfl (by omega) (by omega) (by omega)

/-! snippet eqB -/
theorem eqByteS_l0 (xs : List Int) (hx : xs.length ≤ 1048576) (d : Nat) : ∀ (k : Nat) (i : Nat), xs.length - i = d → i ≤ xs.length → d < k → laws_eqByteS.l0 k xs xs i = some true := by
  induction d with
  | zero =>
    intro k i hd hi hk
    obtain ⟨k, rfl⟩ := nat_pos_succ hk
    rw [laws_eqByteS.l0, if_neg (by omega)]
  | succ d ih =>
    intro k i hd hi hk
    obtain ⟨k, rfl⟩ := nat_pos_succ hk
    rw [laws_eqByteS.l0, if_pos (by omega), if_pos (by omega), if_pos (by omega), if_pos rfl, wrap_id (by omega) (by omega), show ((i : Int) + 1) = ((i + 1 : Nat) : Int) by omega]
    exact ih k (i + 1) (by omega) (by omega) (by omega)
theorem eqByteS_same (xs : List Int) (hx : xs.length ≤ 1048576) (k : Nat) (hk : xs.length < k) : laws_eqByteS.f k xs xs = some true := by
  unfold laws_eqByteS.f
  rw [if_pos rfl]
  exact eqByteS_l0 xs hx xs.length k 0 (by omega) (by omega) hk

/-! snippet szS -/
theorem szS_l0 (l : List ByteArray) (hl : l.length ≤ 1048576) (hy : ∀ y ∈ l, y.size ≤ 9223372036854775807) (d : Nat) : ∀ (k : Nat) (x : Int) (i : Nat), l.length = i + d → 0 ≤ x → x ≤ 1048576 → d < k → ∃ v, laws_szStringS.l0 k l x i = some v ∧ (v < 0 ∨ (0 ≤ v ∧ v ≤ 1048576 ∧ ∀ y ∈ l.drop i, y.size ≤ 1048576)) := by
  induction d with
  | zero =>
    intro k x i hd h0 h1 hk
    obtain ⟨k, rfl⟩ : ∃ m, k = m + 1 := ⟨k - 1, by omega⟩
    refine ⟨x, ?_, Or.inr ⟨h0, h1, ?_⟩⟩
    · rw [laws_szStringS.l0, if_neg (by omega)]
    · rw [List.drop_eq_nil_of_le (by omega)]
      intro y h
      cases h
  | succ d ih =>
    intro k x i hd h0 h1 hk
    obtain ⟨k, rfl⟩ : ∃ m, k = m + 1 := ⟨k - 1, by omega⟩
    have hi : i < l.length := by omega
    have hz := hy _ (List.getElem_mem hi)
    rw [laws_szStringS.l0, if_pos (by omega), if_pos (by omega), rdOf_at l i hi, wrap_id (x := x - _) (by omega) (by omega)]
    by_cases hn : x - (l[i].size : Int) < 0
    · rw [if_pos hn]
      exact ⟨-1, rfl, Or.inl (by decide)⟩
    · rw [if_neg hn, wrap_id (x := (i : Int) + 1) (by omega) (by omega)]
      obtain ⟨v, e, hv⟩ := ih k (x - (l[i].size : Int)) (i + 1) (by omega) (by omega) (by omega) (by omega)
      refine ⟨v, e, hv.imp id fun ⟨a, b, c⟩ => ⟨a, b, fun y h => ?_⟩⟩
      rw [List.drop_eq_getElem_cons hi] at h
      rcases List.mem_cons.1 h with rfl | h
      · omega
      · exact c y h
theorem szS_tells (l : List ByteArray) (hl : l.length ≤ 9223372036854775807) (hy : ∀ y ∈ l, y.size ≤ 9223372036854775807) (x : Int) (h0 : 0 ≤ x) (h1 : x ≤ 1048576) (k : Nat) (hk : 1048577 ≤ k) : ∃ v, laws_szStringS.f k l x = some v ∧ (v < 0 ∨ (0 ≤ v ∧ v ≤ 1048576 ∧ l.length ≤ 1048576 ∧ ∀ y ∈ l, y.size ≤ 1048576)) := by
  unfold laws_szStringS.f
  rw [wrap_id (x := x - _) (by omega) (by omega)]
  by_cases hn : x - (l.length : Int) < 0
  · rw [if_pos hn]
    exact ⟨-1, rfl, Or.inl (by decide)⟩
  · rw [if_neg hn]
    obtain ⟨v, e, hv⟩ := szS_l0 l (by omega) hy l.length k (x - (l.length : Int)) 0 (by omega) (by omega) (by omega) (by omega)
    exact ⟨v, e, hv.imp id fun ⟨a, b, c⟩ => ⟨a, b, by omega, fun y h => c y h⟩⟩

/-! snippet toS -/
theorem toS_l0 (l : List ByteArray) (hl : l.length ≤ 1048576) (d : Nat) : ∀ (k : Nat) (x : List ByteArray) (i : Nat), l.length = i + d → x.length = l.length → x.take i = l.take i → d < k → laws_toStringS.l0 k l x i = some l := by
  induction d with
  | zero =>
    intro k x i hd hx ht hk
    obtain ⟨k, rfl⟩ : ∃ m, k = m + 1 := ⟨k - 1, by omega⟩
    rw [laws_toStringS.l0, if_neg (by omega)]
    rw [List.take_of_length_le (by omega), List.take_of_length_le (by omega)] at ht
    rw [ht]
  | succ d ih =>
    intro k x i hd hx ht hk
    obtain ⟨k, rfl⟩ : ∃ m, k = m + 1 := ⟨k - 1, by omega⟩
    have hi : i < l.length := by omega
    rw [laws_toStringS.l0, if_pos (by omega), if_pos (by omega), if_pos (by omega), rdOf_at l i hi, wrap_id (x := (i : Int) + 1) (by omega) (by omega)]
    refine ih k _ (i + 1) (by omega) (by rw [List.length_set, hx]) ?_ (by omega)
    rw [Int.toNat_natCast, List.take_succ_eq_append_getElem (by rw [List.length_set]; omega), List.take_succ_eq_append_getElem hi, List.getElem_set_self, List.take_set_of_le (Nat.le_refl i), ht]
theorem toS_tells (l : List ByteArray) (hl : l.length ≤ 1048576) (k : Nat) (hk : 1048577 ≤ k) : laws_toStringS.f k l = some l := by
  unfold laws_toStringS.f
  rw [if_pos (by omega), if_pos (by omega)]
  exact toS_l0 l hl l.length k _ 0 (by omega) (by simp) (by simp) (by omega)

/-! snippet eqS -/
theorem eqS_l0 (l : List ByteArray) (hl : l.length ≤ 1048576) (d : Nat) : ∀ (k : Nat) (i : Nat), l.length = i + d → d < k → laws_eqStringS.l0 k l l i = some true := by
  induction d with
  | zero =>
    intro k i hd hk
    obtain ⟨k, rfl⟩ : ∃ m, k = m + 1 := ⟨k - 1, by omega⟩
    rw [laws_eqStringS.l0, if_neg (by omega)]
  | succ d ih =>
    intro k i hd hk
    obtain ⟨k, rfl⟩ : ∃ m, k = m + 1 := ⟨k - 1, by omega⟩
    rw [laws_eqStringS.l0, if_pos (by omega), if_pos (by omega), if_pos (by omega), if_pos rfl, wrap_id (x := (i : Int) + 1) (by omega) (by omega)]
    exact ih k (i + 1) (by omega) (by omega)
theorem eqS_tells (l : List ByteArray) (hl : l.length ≤ 1048576) (k : Nat) (hk : 1048577 ≤ k) : laws_eqStringS.f k l l = some true := by
  unfold laws_eqStringS.f
  rw [if_pos rfl]
  exact eqS_l0 l hl l.length k 0 (by omega) (by omega)

/-! snippet markS -/
def mdig : Nat → Int → ByteArray → ByteArray
  | 0, _, t => (⟨#[109]⟩ : ByteArray) ++ t
  | d + 1, a, t => if a > 0 then mdig d (a / 10) (strOfNums [(48 + a % 10) % 256] ++ t) else (⟨#[109]⟩ : ByteArray) ++ t
def mtext (a : Int) : ByteArray := mdig 7 a (⟨#[]⟩ : ByteArray)
theorem mdig_l0 (d : Nat) : ∀ (k : Nat) (a : Int) (t : ByteArray), 0 ≤ a → a < 10 ^ d → a ≤ 10000000 → t.size + d ≤ 100 → d < k → laws_markText.l0 k a t = some (mdig d a t) := by
  induction d with
  | zero =>
    intro k a t h0 h1 hb ht hk
    obtain ⟨k, rfl⟩ : ∃ m, k = m + 1 := ⟨k - 1, by omega⟩
    have h1' : a < 1 := h1
    rw [laws_markText.l0, if_neg (by omega), if_pos (by omega), mdig]
  | succ d ih =>
    intro k a t h0 h1 hb ht hk
    obtain ⟨k, rfl⟩ : ∃ m, k = m + 1 := ⟨k - 1, by omega⟩
    rw [laws_markText.l0, mdig]
    by_cases h : a > 0
    · have hz : (strOfNums [(48 + a % 10) % 256]).size = 1 := by rw [strOfNums_size]; rfl
      rw [if_pos h, if_pos h, Option.bind_some, Int.tmod_eq_emod_of_nonneg h0, Int.tdiv_eq_ediv_of_nonneg h0, wrap_id (x := 48 + a % 10) (by omega) (by omega), wrap_id (x := a / 10) (by omega) (by omega), if_pos (by omega)]
      exact ih k (a / 10) _ (by omega) (Int.ediv_lt_of_lt_mul (by decide) (by rw [← Int.pow_succ]; exact h1)) (by omega) (by rw [ByteArray.size_append, hz]; omega) (by omega)
    · rw [if_neg h, if_neg h, if_pos (by omega)]
theorem markText_tells (a : Int) (h0 : 1 ≤ a) (h1 : a ≤ 5000000) (k : Nat) (hk : 8 ≤ k) : laws_markText.f k a = some (mtext a) := by
  unfold laws_markText.f
  rw [if_neg (by omega)]
  exact mdig_l0 7 k a _ (by omega) (Int.lt_of_le_of_lt h1 (by decide)) (by omega) (by decide) (by omega)
def marks : Nat → Int → List ByteArray
  | 0, _ => []
  | d + 1, m => mtext m :: marks d (m + 1)
theorem marks_length (d : Nat) : ∀ m : Int, (marks d m).length = d := by
  induction d with
  | zero => intro m; rfl
  | succ d ih => intro m; rw [marks, List.length_cons, ih]
theorem markS_l0 (d : Nat) : ∀ (k : Nat) (x : List ByteArray) (m : Int) (i : Nat), x.length = i + d → x.length ≤ 1048576 → 1 ≤ m → m + d ≤ 5000000 → d + 8 < k → laws_markStringS.l0 k x m i = some (m + d, x.take i ++ marks d m) := by
  induction d with
  | zero =>
    intro k x m i hd hx h0 h1 hk
    obtain ⟨k, rfl⟩ : ∃ m, k = m + 1 := ⟨k - 1, by omega⟩
    rw [laws_markStringS.l0, if_neg (by omega), marks, List.append_nil, List.take_of_length_le (by omega), show m + ((0 : Nat) : Int) = m by omega]
  | succ d ih =>
    intro k x m i hd hx h0 h1 hk
    obtain ⟨k, rfl⟩ : ∃ m, k = m + 1 := ⟨k - 1, by omega⟩
    rw [laws_markStringS.l0, if_pos (by omega), markText_tells m h0 (by omega) k (by omega), Option.bind_some, if_pos (by omega), wrap_id (x := m + 1) (by omega) (by omega), wrap_id (x := (i : Int) + 1) (by omega) (by omega), Int.toNat_natCast, show (i : Int) + 1 = ((i + 1 : Nat) : Int) by omega, ih k _ (m + 1) (i + 1) (by rw [List.length_set]; omega) (by rw [List.length_set]; omega) (by omega) (by omega) (by omega), marks, List.take_succ_eq_append_getElem (by rw [List.length_set]; omega), List.getElem_set_self, List.take_set_of_le (Nat.le_refl i), List.append_assoc, show m + 1 + (d : Int) = m + ((d + 1 : Nat) : Int) by omega]
    rfl
theorem markS_tells (x : List ByteArray) (m : Int) (hx : x.length ≤ 1000) (h0 : 1 ≤ m) (h1 : m ≤ 900000) (k : Nat) (hk : 1010 ≤ k) : laws_markStringS.f k x m = some (m + x.length, marks x.length m) := by
  unfold laws_markStringS.f
  have := markS_l0 x.length k x m 0 (by omega) (by omega) h0 (by omega) (by omega)
  simpa using this

/-! snippet FnExactListBytes -/
def listErr : List ByteArray → Int → Int
  | [], _ => 0
  | s :: l, n => if (s.size : Int) > 20000 then 1 else if n + (2 + (s.size : Int)) > 65536 then 7 else listErr l (n + (2 + (s.size : Int)))
def listB : List ByteArray → List Int
  | [] => []
  | s :: l => num2L (s.size : Int) ++ bytesOf s ++ listB l
theorem listB_length : ∀ (l : List ByteArray) (n : Int), listErr l n = 0 → n ≤ 65536 → n + (listB l).length ≤ 65536 := by
  intro l
  induction l with
  | nil => intro n h hn; simp only [listB, List.length_nil]; omega
  | cons s l ih =>
    intro n h hn
    rw [listErr] at h
    by_cases h1 : (s.size : Int) > 20000
    · rw [if_pos h1] at h; cases h
    rw [if_neg h1] at h
    by_cases h2 : n + (2 + (s.size : Int)) > 65536
    · rw [if_pos h2] at h; cases h
    rw [if_neg h2] at h
    have := ih _ h (by omega)
    have z : (num2L (s.size : Int)).length = 2 := rfl
    rw [listB, List.length_append, List.length_append, bytesOf_length, z]
    omega
theorem specList_l0 (x : List ByteArray) (hx : x.length ≤ 100) (hs : ∀ y ∈ x, y.size ≤ 1048576) (d : Nat) : ∀ (k : Nat) (acc : List Int) (i : Nat), x.length = i + d → acc.length ≤ 1 + 1048600 * i → d + 4 < k → spec_l02List.l0 k x acc i = some (acc ++ listB (x.drop i)) := by
  induction d with
  | zero =>
    intro k acc i hd ha hk
    obtain ⟨k, rfl⟩ : ∃ m, k = m + 1 := ⟨k - 1, by omega⟩
    rw [spec_l02List.l0, if_neg (by omega), List.drop_eq_nil_of_le (by omega), listB, List.append_nil]
  | succ d ih =>
    intro k acc i hd ha hk
    obtain ⟨k, rfl⟩ : ∃ m, k = m + 1 := ⟨k - 1, by omega⟩
    have hi : i < x.length := by omega
    have hz := hs _ (List.getElem_mem hi)
    have z : ∀ n, (num2L n).length = 2 := fun _ => rfl
    rw [spec_l02List.l0, if_pos (by omega), if_pos (by omega), rdOf_at x i hi, l02_2 _ k (by omega), Option.bind_some, if_pos (by rw [z]; omega), Option.bind_some, if_pos (by rw [List.length_append, z]; omega), wrap_id (x := (i : Int) + 1) (by omega) (by omega), show (i : Int) + 1 = ((i + 1 : Nat) : Int) by omega, ih k _ (i + 1) (by omega) (by rw [List.length_append, List.length_append, z, bytesOf_length]; omega) (by omega), List.drop_eq_getElem_cons hi, listB]
    simp only [List.append_assoc]
theorem specBytes_l0 (x : List ByteArray) (hx : x.length ≤ 100) (hs : ∀ y ∈ x, y.size ≤ 1048576) (d : Nat) : ∀ (k : Nat) (n : Int) (i : Nat), x.length = i + d → 0 ≤ n → n ≤ 65536 → d + 200 < k → spec_ListBytes.l0 k x n i = (if listErr (x.drop i) n = 0 then some ((x.length : Int) % 256 :: listB x, 0) else some ([], listErr (x.drop i) n)) := by
  induction d with
  | zero =>
    intro k n i hd h0 h1 hk
    obtain ⟨k, rfl⟩ : ∃ m, k = m + 1 := ⟨k - 1, by omega⟩
    rw [spec_ListBytes.l0, if_neg (by omega), List.drop_eq_nil_of_le (by omega), listErr, if_pos rfl]
    unfold spec_l02List.f
    have := specList_l0 x hx hs x.length k [(x.length : Int) % 256] 0 (by omega) (by simp) (by omega)
    rw [show (0 : Int) = ((0 : Nat) : Int) from rfl, this, Option.bind_some, List.drop_zero]
    rfl
  | succ d ih =>
    intro k n i hd h0 h1 hk
    obtain ⟨k, rfl⟩ : ∃ m, k = m + 1 := ⟨k - 1, by omega⟩
    have hi : i < x.length := by omega
    have hz := hs _ (List.getElem_mem hi)
    rw [spec_ListBytes.l0, if_pos (by omega), if_pos (by omega), rdOf_at x i hi, List.drop_eq_getElem_cons hi, listErr]
    by_cases a : (x[i].size : Int) > 20000
    · rw [if_pos a, if_pos a, if_neg (by decide)]
    rw [if_neg a, if_neg a, wrap_id (x := 2 + (x[i].size : Int)) (by omega) (by omega), wrap_id (x := n + (2 + (x[i].size : Int))) (by omega) (by omega)]
    by_cases b : n + (2 + (x[i].size : Int)) > 65536
    · rw [if_pos b, if_pos b, if_neg (by decide)]
    rw [if_neg b, if_neg b, wrap_id (x := (i : Int) + 1) (by omega) (by omega), show (i : Int) + 1 = ((i + 1 : Nat) : Int) by omega]
    exact ih k _ (i + 1) (by omega) (by omega) (by omega) (by omega)
theorem implList_l0 (x : List ByteArray) (hx : x.length ≤ 100) (hs : ∀ y ∈ x, y.size ≤ 1048576) (d : Nat) : ∀ (k : Nat) (t : ByteArray) (i : Nat), x.length = i + d → 1 ≤ t.size → t.size ≤ 65536 → d + 4 < k → impl_listText.l0 k t x (x.length : Int) i = (if listErr (x.drop i) t.size = 0 then some (t ++ strOfNums (listB (x.drop i)), 0) else some ((⟨#[]⟩ : ByteArray), listErr (x.drop i) t.size)) := by
  induction d with
  | zero =>
    intro k t i hd h0 h1 hk
    obtain ⟨k, rfl⟩ : ∃ m, k = m + 1 := ⟨k - 1, by omega⟩
    rw [impl_listText.l0, if_neg (by omega), List.drop_eq_nil_of_le (by omega), listErr, if_pos rfl, listB]
    congr 2
    apply Sha.ba_ext
    simp [strOfNums]
  | succ d ih =>
    intro k t i hd h0 h1 hk
    obtain ⟨k, rfl⟩ : ∃ m, k = m + 1 := ⟨k - 1, by omega⟩
    have hi : i < x.length := by omega
    have hz := hs _ (List.getElem_mem hi)
    rw [impl_listText.l0, if_pos (by omega), if_pos (by omega), if_pos (by omega), rdOf_at x i hi, List.drop_eq_getElem_cons hi, listErr]
    by_cases a : (x[i].size : Int) > 20000
    · rw [if_pos a, if_pos a, if_neg (by decide)]
    have h2 : ∀ n m : Int, (strOfNums [n, m]).size = 2 := fun _ _ => rfl
    rw [if_neg a, if_neg a, number2 _ k (by omega), Option.bind_some, if_pos (by rw [h2]; omega), if_pos (by rw [ByteArray.size_append, h2]; omega)]
    have hsz : (t ++ (strOfNums [(x[i].size : Int) / 256 % 256, (x[i].size : Int) % 256] ++ x[i])).size = t.size + (2 + x[i].size) := by rw [ByteArray.size_append, ByteArray.size_append, h2]
    by_cases b : (t.size : Int) + (2 + (x[i].size : Int)) > 65536
    · rw [if_pos b, if_pos (by rw [hsz]; omega), if_neg (by decide)]
    rw [if_neg b, if_neg (by rw [hsz]; omega), wrap_id (x := (i : Int) + 1) (by omega) (by omega), show (i : Int) + 1 = ((i + 1 : Nat) : Int) by omega, ih k _ (i + 1) (by omega) (by omega) (by omega) (by omega), hsz, show ((t.size + (2 + x[i].size) : Nat) : Int) = (t.size : Int) + (2 + (x[i].size : Int)) by omega, listB]
    have e : t ++ (strOfNums [(x[i].size : Int) / 256 % 256, (x[i].size : Int) % 256] ++ x[i]) ++ strOfNums (listB (x.drop (i + 1))) = t ++ strOfNums (num2L (x[i].size : Int) ++ bytesOf x[i] ++ listB (x.drop (i + 1))) := by
      rw [Sha.nums_app, Sha.nums_app, Sha.nums_bytesOf, ba_assoc]
      rfl
    rw [e]
theorem listB_le : ∀ (l : List ByteArray), ∀ y ∈ listB l, 0 ≤ y ∧ y < 256 := by
  intro l
  induction l with
  | nil => intro y hy; cases hy
  | cons s l ih =>
    intro y hy
    rw [listB, List.mem_append, List.mem_append] at hy
    rcases hy with (hy | hy) | hy
    · exact num2L_le _ y hy
    · exact Sha.bytesOf_le _ y hy
    · exact ih y hy
theorem listBytes_both (x : List ByteArray) (hx : x.length ≤ 1048576) (hs : ∀ y ∈ x, y.size ≤ 1048576) : ∃ l e, l.length ≤ 900000 ∧ (∀ k, 1000 ≤ k → spec_ListBytes.f k x = some (l, e)) ∧ (∀ k, 1000 ≤ k → impl_ListBytes.f k x = some (l, e)) := by
  unfold spec_ListBytes.f impl_ListBytes.f impl_isLongList_string.f
  by_cases h1 : (x.length : Int) > 4096
  · exact ⟨[], 2, by simp, fun k hk => by rw [if_pos h1], fun k hk => by rw [Option.bind_some, if_pos (decide_eq_true h1)]⟩
  unfold impl_listText.f
  by_cases h2 : (x.length : Int) > 100
  · exact ⟨[], 1, by simp, fun k hk => by rw [if_neg h1, if_pos h2], fun k hk => by rw [Option.bind_some, if_neg (by simpa using h1), if_pos h2, Option.bind_some]; exact if_neg (by decide)⟩
  have z1 : (strOfNums [(x.length : Int) % 256]).size = 1 := rfl
  have es : ∀ k, 1000 ≤ k → spec_ListBytes.l0 k x 1 0 = (if listErr x 1 = 0 then some ((x.length : Int) % 256 :: listB x, 0) else some ([], listErr x 1)) := fun k hk => specBytes_l0 x (by omega) hs x.length k 1 0 (by omega) (by omega) (by omega) (by omega)
  have ei : ∀ k, 1000 ≤ k → impl_listText.l0 k (strOfNums [(x.length : Int) % 256]) x (x.length : Int) 0 = (if listErr x 1 = 0 then some (strOfNums [(x.length : Int) % 256] ++ strOfNums (listB x), 0) else some ((⟨#[]⟩ : ByteArray), listErr x 1)) := fun k hk => implList_l0 x (by omega) hs x.length k (strOfNums [(x.length : Int) % 256]) 0 (by omega) (by omega) (by omega) (by omega)
  by_cases he : listErr x 1 = 0
  · have hl := listB_length x 1 he (by omega)
    refine ⟨(x.length : Int) % 256 :: listB x, 0, by rw [List.length_cons]; omega, fun k hk => ?_, fun k hk => ?_⟩
    · rw [if_neg h1, if_neg h2, es k hk, if_pos he]
    · rw [Option.bind_some, if_neg (by simpa using h1), if_neg h2, number1 _ k (by omega), Option.bind_some, ei k hk]
      rw [if_pos he, Option.bind_some]
      dsimp only
      have hb : bytesOf (strOfNums [(x.length : Int) % 256] ++ strOfNums (listB x)) = (x.length : Int) % 256 :: listB x := by
        rw [← Sha.nums_app, Sha.bytesOf_nums]
        · rfl
        · intro y hy
          rcases List.mem_append.1 hy with hy | hy
          · rw [List.mem_singleton] at hy; omega
          · exact listB_le x y hy
      rw [if_pos rfl, if_pos (by rw [ByteArray.size_append, z1, strOfNums_size]; omega), hb]
  · refine ⟨[], listErr x 1, by simp, fun k hk => ?_, fun k hk => ?_⟩
    · rw [if_neg h1, if_neg h2, es k hk, if_neg he]
    · rw [Option.bind_some, if_neg (by simpa using h1), if_neg h2, number1 _ k (by omega), Option.bind_some, ei k hk]
      rw [if_neg he, Option.bind_some]
      dsimp only
      rw [if_neg he]
theorem FnExactListBytes (x0 : List ByteArray) (gx0 : (x0.length ≤ 9223372036854775807 ∧ ∀ y ∈ x0, y.size ≤ 9223372036854775807)) : ∃ k, laws_FnExactListBytes.f k x0 = some true := by
  obtain ⟨k, hk⟩ : ∃ k : Nat, 1048600 ≤ k := ⟨1048600, Nat.le_refl _⟩
  refine ⟨k + 1 + 1 + 1, ?_⟩
  unfold laws_FnExactListBytes.f
  obtain ⟨v, ev, cv⟩ := szS_tells x0 gx0.1 gx0.2 1048576 (by omega) (by omega) (k + 1 + 1 + 1) (by omega)
  rw [ev, Option.bind_some]
  by_cases hv : v < 0
  · rw [if_pos hv]
  rw [if_neg hv]
  obtain ⟨_, _, hx, hs⟩ := cv.resolve_left hv
  obtain ⟨l, e, hl, e1, e2⟩ := listBytes_both x0 hx hs
  have tos := fun k' (h : 1048600 ≤ k') => toS_tells x0 hx k' (by omega)
  have eb := fun k' (h : 1048600 ≤ k') => eqByteS_same l (by omega) k' (by omega)
  rw [tos _ (by omega), Option.bind_some, e1 _ (by omega), Option.bind_some, Option.bind_some, e2 _ (by omega), Option.bind_some]
  dsimp only
  rw [eb _ (by omega), Option.bind_some, if_pos rfl, laws_FnExactListBytes.j0, if_neg (by simp), tos _ (by omega), Option.bind_some, eqS_tells x0 hx _ (by omega), Option.bind_some, if_pos rfl]
  obtain ⟨m, y, em, hm⟩ : ∃ (m : Int) (y : List ByteArray), laws_markStringS.f (k + 1 + 1) x0 1 = some (m, y) ∧ ¬ m < 0 := by
    unfold laws_markStringS.f
    exact ⟨_, _, markS_l0 x0.length (k + 1 + 1) x0 1 0 (by omega) (by omega) (by omega) (by omega) (by omega), by omega⟩
  rw [em, Option.bind_some]
  dsimp only
  rw [if_neg hm, eb _ (by omega), Option.bind_some, if_pos rfl, laws_FnExactListBytes.j1, if_neg (by simp), markB_tells l (by omega) _ (by omega), Option.bind_some]
  dsimp only
  rw [heldB_tells _ hl _ (by omega), Option.bind_some, if_neg (by omega), if_pos rfl, tos _ (by omega), Option.bind_some, e2 _ (by omega), Option.bind_some]
  dsimp only
  rw [eb _ (by omega), Option.bind_some, if_pos rfl, laws_FnExactListBytes.j2, if_neg (by simp), heldB_tells _ hl _ (by omega), Option.bind_some, if_neg (by omega), if_pos rfl]

end Go.Proofs.Ytgekkfgljjbikaa.Pure
