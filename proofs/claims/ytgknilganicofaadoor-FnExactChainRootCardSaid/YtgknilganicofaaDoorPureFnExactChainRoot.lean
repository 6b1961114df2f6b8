/- The statement FnExactChainRoot: what the given program's printed functions answer, as the law asks; no condition. -/
import Derived.Test.YtgknilganicofaaDoorPFnExactChainRootx3
import Derived.Test.YtgknilganicofaaDoorShaE
set_option linter.unusedVariables false
set_option linter.unusedSimpArgs false
namespace Go.Proofs.YtgknilganicofaaDoor.Pure
open Go.RowKit Go.Proofs.YtgknilganicofaaDoor.PFnExactChainRoot Go.Proofs.YtgknilganicofaaDoorV.PrintWords Go.Proofs.YtgknilganicofaaDoorV.PrintLast Go.Proofs.YtgknilganicofaaDoorV.PrintMore
/-! snippet base -/
theorem wrap_id {x : Int} (h1 : -9223372036854775808 ≤ x) (h2 : x ≤ 9223372036854775807) : wrap64 x = x := by
  unfold wrap64
  omega
theorem nat_pos_succ {k d : Nat} (h : d < k) : ∃ m, k = m + 1 := ⟨k - 1, by omega⟩
theorem u8_of_wf {l : List Int} (h : ∀ x ∈ l, (Lit.int .u8 x).wf = true) (i : Int) : 0 ≤ rd l i ∧ rd l i ≤ 255 := by
  unfold rd
  rw [List.getD_eq_getElem?_getD]
  by_cases hi : i.toNat < l.length
  · rw [List.getElem?_eq_getElem hi, Option.getD_some]
    have := h _ (List.getElem_mem hi)
    simp only [Lit.wf, Bool.and_eq_true, decide_eq_true_eq] at this
    have e1 : IntKind.u8.min = 0 := rfl
    have e2 : IntKind.u8.max = 255 := rfl
    omega
  · rw [List.getElem?_eq_none (by omega)]
    simp
theorem i64_of_wf {x : Int} (h : (Lit.int .i64 x).wf = true) : -9223372036854775808 ≤ x ∧ x ≤ 9223372036854775807 := by
  simp only [Lit.wf, Bool.and_eq_true, decide_eq_true_eq] at h
  have e1 : IntKind.i64.min = -9223372036854775808 := rfl
  have e2 : IntKind.i64.max = 9223372036854775807 := rfl
  omega
theorem toList_len (s : ByteArray) : s.toList.length = s.size := by
  rw [ByteArray.toList_eq]
  exact data_length s
theorem toList_inj {a b : ByteArray} (h : a.toList = b.toList) : a = b := by
  rw [ByteArray.toList_eq, ByteArray.toList_eq] at h
  exact Go.WideShapes.bytes_inj h

/-! snippet hexD1 -/
theorem areLong_one (s : ByteArray) : impl_areLong.f [s] = some (decide ((65536 : Int) < s.size)) := by
  unfold impl_areLong.f
  simp

/-! snippet number -/
theorem number_l0 (d : Nat) : ∀ (k : Nat) (x : Int) (l : List Int), d ≤ l.length → l.length ≤ 65536 → d < k → impl_number.l0 k x l ((d : Int) - 1) = some (strOfNums (Sha.num x d l)) := by
  induction d with
  | zero =>
    intro k x l _ _ hk
    obtain ⟨k, rfl⟩ := nat_pos_succ hk
    rw [impl_number.l0, if_neg (by omega)]
    rfl
  | succ d ih =>
    intro k x l hd hl hk
    obtain ⟨k, rfl⟩ := nat_pos_succ hk
    rw [impl_number.l0, if_pos (by omega), if_pos (by omega), if_pos (by omega)]
    have h1 : wrap64 (((d + 1 : Nat) : Int) - 1 - 1) = (d : Int) - 1 := by rw [wrap_id (by omega) (by omega)]; omega
    have h2 : (((d + 1 : Nat) : Int) - 1).toNat = d := by omega
    rw [h1, h2, ih _ _ _ (by rw [List.length_set]; omega) (by rw [List.length_set]; exact hl) (by omega)]
    rfl
theorem number_tells (n : Nat) (x : Int) (h0 : n ≤ 65536) (k : Nat) (hk : n < k) : impl_number.f k x n = some (strOfNums (Sha.num x n (List.replicate n 0))) := by
  rw [impl_number.f, if_pos (by omega), if_pos (by omega), wrap_id (by omega) (by omega), Int.toNat_natCast]
  exact number_l0 n k x _ (by simp) (by simp; omega) hk
theorem number1 (x : Int) (k : Nat) (hk : 1 < k) : impl_number.f k x 1 = some (strOfNums [x % 256]) := number_tells 1 x (by omega) k hk
theorem number2 (x : Int) (k : Nat) (hk : 2 < k) : impl_number.f k x 2 = some (strOfNums [x / 256 % 256, x % 256]) := number_tells 2 x (by omega) k hk
theorem number4 (x : Int) (k : Nat) (hk : 4 < k) : impl_number.f k x 4 = some (strOfNums [x / 16777216 % 256, x / 65536 % 256, x / 256 % 256, x % 256]) := by
  rw [← Sha.num4]
  exact number_tells 4 x (by omega) k hk
theorem ba_assoc (a b c : ByteArray) : a ++ b ++ c = a ++ (b ++ c) := by
  apply Sha.ba_ext
  simp
theorem nums_size1 (x : Int) : (strOfNums [x]).size = 1 := rfl

/-! snippet secret -/
def secText (s : ByteArray) (i b v : Int) : ByteArray := (⟨#[115, 101, 99, 114, 101, 116]⟩ : ByteArray) ++ s ++ strOfNums [i % 256, b % 256, v % 256]
def secretOf (s : ByteArray) (i b v : Int) : ByteArray := Sha.sha (secText s i b v)
theorem sec_size (s : ByteArray) : ((⟨#[115, 101, 99, 114, 101, 116]⟩ : ByteArray) ++ s).size = 6 + s.size := by rw [ByteArray.size_append]; rfl
theorem secretOf_size (s : ByteArray) (i b v : Int) : (secretOf s i b v).size = 32 := Sha.sha_size _
theorem spec_l03Secret_tells (s : ByteArray) (hs : s.size ≤ 1048576) (i b v : Int) : spec_l03Secret.f s i b v = some (secretOf s i b v) := by
  unfold spec_l03Secret.f spec_l01Hash.f
  have h3 : (strOfNums [i % 256, b % 256, v % 256]).size = 3 := rfl
  rw [if_pos (by omega), Option.bind_some, if_pos (by rw [sec_size, h3]; omega), if_pos (by rw [ByteArray.size_append, sec_size, h3]; omega), if_pos (by rw [bytesOf_length, ByteArray.size_append, sec_size, h3]; omega), Sha.sha_eq, Option.bind_some]
  rfl
theorem impl_secret_tells (s : ByteArray) (hs : s.size ≤ 1048576) (i b v : Int) (k : Nat) (hk : 1 < k) : impl_secret.f k s i b v = some (secretOf s i b v) := by
  unfold impl_secret.f impl_hash.f
  have h1 := nums_size1 (i % 256)
  have h2 := nums_size1 (b % 256)
  have h3 := nums_size1 (v % 256)
  have z1 := sec_size s
  have z2 : ((⟨#[115, 101, 99, 114, 101, 116]⟩ : ByteArray) ++ s ++ strOfNums [i % 256]).size = 7 + s.size := by rw [ByteArray.size_append, z1, h1]; omega
  have z3 : ((⟨#[115, 101, 99, 114, 101, 116]⟩ : ByteArray) ++ s ++ strOfNums [i % 256] ++ strOfNums [b % 256]).size = 8 + s.size := by rw [ByteArray.size_append, z2, h2]; omega
  have z4 : ((⟨#[115, 101, 99, 114, 101, 116]⟩ : ByteArray) ++ s ++ strOfNums [i % 256] ++ strOfNums [b % 256] ++ strOfNums [v % 256]).size = 9 + s.size := by rw [ByteArray.size_append, z3, h3]; omega
  have e : (⟨#[115, 101, 99, 114, 101, 116]⟩ : ByteArray) ++ s ++ strOfNums [i % 256] ++ strOfNums [b % 256] ++ strOfNums [v % 256] = secText s i b v := by
    unfold secText
    rw [ba_assoc _ (strOfNums [i % 256]), ba_assoc _ (strOfNums [i % 256] ++ strOfNums [b % 256]), ← Sha.nums_app, ← Sha.nums_app]
    rfl
  rw [if_pos (by omega), number1 i k hk, Option.bind_some, if_pos (by omega), number1 b k hk, Option.bind_some, if_pos (by omega), number1 v k hk, Option.bind_some, if_pos (by omega), if_pos (by omega), e, Option.bind_some]
  rfl

/-! snippet key -/
def keyText (s : ByteArray) (i : Int) : Nat → Int → ByteArray → ByteArray
  | 0, _, t => t
  | d + 1, b, t => keyText s i d (b + 1) (t ++ (Sha.sha (secretOf s i b 0) ++ Sha.sha (secretOf s i b 1)))
def keyOf (s : ByteArray) (i : Int) : ByteArray := Sha.sha (keyText s i 32 0 (⟨#[107, 101, 121]⟩ : ByteArray))
theorem two_size (a b : ByteArray) : (Sha.sha a ++ Sha.sha b).size = 64 := by rw [ByteArray.size_append, Sha.sha_size, Sha.sha_size]
theorem key_impl (s : ByteArray) (hs : s.size ≤ 1048576) (i : Int) (d : Nat) : ∀ (k : Nat) (t : ByteArray) (b : Int), 0 ≤ b → 32 - b = d → (t.size : Int) = 3 + 64 * b → d + 2 < k → impl_oneTimeKey.l0 k s i t b = some (Sha.sha (keyText s i d b t)) := by
  induction d with
  | zero =>
    intro k t b h0 hd ht hk
    obtain ⟨k, rfl⟩ : ∃ m, k = m + 1 := ⟨k - 1, by omega⟩
    unfold impl_oneTimeKey.l0 impl_hash.f
    rw [if_neg (by omega), if_pos (by omega)]
    rfl
  | succ d ih =>
    intro k t b h0 hd ht hk
    obtain ⟨k, rfl⟩ : ∃ m, k = m + 1 := ⟨k - 1, by omega⟩
    have hz := two_size (secretOf s i b 0) (secretOf s i b 1)
    have e : ∀ v, impl_hash.f (secretOf s i b v) = some (Sha.sha (secretOf s i b v)) := fun v => by unfold impl_hash.f; rw [if_pos (by rw [secretOf_size]; omega)]
    rw [impl_oneTimeKey.l0, if_pos (by omega), impl_secret_tells s hs i b 0 k (by omega), Option.bind_some, e, Option.bind_some, impl_secret_tells s hs i b 1 k (by omega), Option.bind_some, e, Option.bind_some, if_pos (by rw [Sha.sha_size, Sha.sha_size]; omega), if_pos (by rw [hz]; omega), wrap_id (by omega) (by omega), ih k _ (b + 1) (by omega) (by omega) (by rw [ByteArray.size_append, hz]; omega) (by omega), keyText]
theorem impl_key_tells (s : ByteArray) (hs : s.size ≤ 1048576) (i : Int) (k : Nat) (hk : 35 ≤ k) : impl_oneTimeKey.f k s i = some (keyOf s i) :=
  key_impl s hs i 32 k _ 0 (by omega) (by omega) rfl (by omega)
theorem key_spec (s : ByteArray) (hs : s.size ≤ 1048576) (i : Int) (d : Nat) : ∀ (k : Nat) (t : ByteArray) (b : Int), 0 ≤ b → 32 - b = d → (t.size : Int) = 3 + 64 * b → 4 * d < k → spec_l03Key.l0 k s i (bytesOf t) b = some (Sha.sha (keyText s i d b t)) := by
  induction d with
  | zero =>
    intro k t b h0 hd ht hk
    obtain ⟨k, rfl⟩ : ∃ m, k = m + 1 := ⟨k - 1, by omega⟩
    unfold spec_l03Key.l0 spec_l01Hash.f
    rw [if_neg (by omega), if_pos (by rw [bytesOf_length]; omega), Sha.sha_eq]
    rfl
  | succ d ih =>
    intro k t b h0 hd ht hk
    obtain ⟨k, rfl⟩ : ∃ m, k = m + 1 + 1 + 1 + 1 := ⟨k - 4, by omega⟩
    have hz := two_size (secretOf s i b 0) (secretOf s i b 1)
    have e : ∀ v, spec_l01Hash.f (bytesOf (secretOf s i b v)) = some (Sha.sha (secretOf s i b v)) := fun v => by unfold spec_l01Hash.f; rw [if_pos (by rw [bytesOf_length, secretOf_size]; omega), Sha.sha_eq]
    rw [spec_l03Key.l0, if_pos (by omega), spec_l03Key.l1, if_pos (by omega), spec_l03Secret_tells s hs, Option.bind_some, if_pos (by rw [secretOf_size]; omega), e, Option.bind_some, if_pos (by rw [bytesOf_length, Sha.sha_size]; omega), wrap_id (x := 0 + 1) (by omega) (by omega),
      show (0 : Int) + 1 = 1 from rfl, spec_l03Key.l1, if_pos (by omega), spec_l03Secret_tells s hs, Option.bind_some, if_pos (by rw [secretOf_size]; omega), e, Option.bind_some, if_pos (by rw [List.length_append, bytesOf_length, bytesOf_length, Sha.sha_size, Sha.sha_size]; omega), wrap_id (x := 1 + 1) (by omega) (by omega),
      spec_l03Key.l1, if_neg (by omega), wrap_id (by omega) (by omega), List.append_assoc, ← Sha.bytes_app, ← Sha.bytes_app, ih k _ (b + 1) (by omega) (by omega) (by rw [ByteArray.size_append, hz]; omega) (by omega), keyText]
theorem spec_key_tells (s : ByteArray) (hs : s.size ≤ 1048576) (i : Int) (k : Nat) (hk : 129 ≤ k) : spec_l03Key.f k s i = some (keyOf s i) := by
  unfold spec_l03Key.f
  exact key_spec s hs i 32 k (⟨#[107, 101, 121]⟩ : ByteArray) 0 (by omega) (by omega) rfl (by omega)
theorem keyOf_size (s : ByteArray) (i : Int) : (keyOf s i).size = 32 := Sha.sha_size _

/-! snippet root -/
def nodeOf (a b : ByteArray) : ByteArray := Sha.sha ((⟨#[110, 111, 100, 101]⟩ : ByteArray) ++ a ++ b)
theorem node_size (a : ByteArray) : ((⟨#[110, 111, 100, 101]⟩ : ByteArray) ++ a).size = 4 + a.size := by rw [ByteArray.size_append]; rfl
theorem nodeOf_size (a b : ByteArray) : (nodeOf a b).size = 32 := Sha.sha_size _
theorem spec_l03Node_tells (a b : ByteArray) (ha : a.size ≤ 1048576) (hb : b.size ≤ 1048576) : spec_l03Node.f a b = some (nodeOf a b) := by
  unfold spec_l03Node.f spec_l01Hash.f
  have h1 := node_size a
  rw [if_pos (by omega), if_pos (by rw [h1]; omega), if_pos (by rw [ByteArray.size_append, h1]; omega), if_pos (by rw [bytesOf_length, ByteArray.size_append, h1]; omega), Option.bind_some, Sha.sha_eq]
  rfl
theorem impl_node_tells (a b : ByteArray) (ha : a.size ≤ 1048576) (hb : b.size ≤ 1048576) : impl_node.f a b = some (nodeOf a b) := by
  unfold impl_node.f impl_hash.f
  have h1 := node_size a
  rw [if_pos (by omega), if_pos (by rw [h1]; omega), if_pos (by rw [ByteArray.size_append, h1]; omega), Option.bind_some]
  rfl
def levelOf : List ByteArray → List ByteArray
  | a :: b :: l => nodeOf a b :: levelOf l
  | _ => []
theorem levelOf_nil : levelOf [] = [] := rfl
def Small (l : List ByteArray) : Prop := ∀ x ∈ l, x.size ≤ 1048576
theorem Small.at_ {l : List ByteArray} (h : Small l) (i : Nat) (hi : i < l.length) : (l[i]).size ≤ 1048576 := h _ (List.getElem_mem hi)
theorem rdOf_at (l : List ByteArray) (i : Nat) (hi : i < l.length) : rdOf ByteArray.empty l (i : Int) = l[i] := by
  unfold rdOf
  simp [List.getD_eq_getElem?_getD, hi]
theorem level_spec (l : List ByteArray) (hl : l.length ≤ 1000) (hs : Small l) (d : Nat) : ∀ (k : Nat) (acc : List ByteArray) (i : Nat), l.length = i + 2 * d → acc.length ≤ i → d < k → spec_l03Level.l0 k l acc i = some (acc ++ levelOf (l.drop i)) := by
  induction d with
  | zero =>
    intro k acc i hd ha hk
    obtain ⟨k, rfl⟩ := nat_pos_succ hk
    rw [spec_l03Level.l0, if_neg (by omega), List.drop_eq_nil_of_le (by omega), levelOf_nil, List.append_nil]
  | succ d ih =>
    intro k acc i hd ha hk
    obtain ⟨k, rfl⟩ := nat_pos_succ hk
    have h1 : i < l.length := by omega
    have h2 : i + 1 < l.length := by omega
    rw [spec_l03Level.l0, if_pos (by omega), if_pos (by omega), wrap_id (x := (i : Int) + 1) (by omega) (by omega), if_pos (by omega), if_pos (by omega), rdOf_at l i h1, show (i : Int) + 1 = ((i + 1 : Nat) : Int) by omega, rdOf_at l (i + 1) h2, spec_l03Node_tells _ _ (hs.at_ i h1) (hs.at_ _ h2), Option.bind_some, if_pos (by omega), wrap_id (x := (i : Int) + 2) (by omega) (by omega), show (i : Int) + 2 = ((i + 2 : Nat) : Int) by omega, ih k _ (i + 2) (by omega) (by rw [List.length_append]; simp only [List.length_cons, List.length_nil]; omega) (by omega), List.drop_eq_getElem_cons h1, List.drop_eq_getElem_cons h2, levelOf, List.append_assoc]
    rfl
theorem level_impl (l : List ByteArray) (hl : l.length ≤ 1000) (hs : Small l) (d : Nat) : ∀ (k : Nat) (acc : List ByteArray) (i : Nat), l.length = i + 2 * d → acc.length ≤ i → d < k → impl_above.l0 k l acc i = some (acc ++ levelOf (l.drop i)) := by
  induction d with
  | zero =>
    intro k acc i hd ha hk
    obtain ⟨k, rfl⟩ := nat_pos_succ hk
    rw [impl_above.l0, if_neg (by omega), List.drop_eq_nil_of_le (by omega), levelOf_nil, List.append_nil]
  | succ d ih =>
    intro k acc i hd ha hk
    obtain ⟨k, rfl⟩ := nat_pos_succ hk
    have h1 : i < l.length := by omega
    have h2 : i + 1 < l.length := by omega
    rw [impl_above.l0, if_pos (by omega), if_pos (by omega), wrap_id (x := (i : Int) + 1) (by omega) (by omega), if_pos (by omega), if_pos (by omega), rdOf_at l i h1, show (i : Int) + 1 = ((i + 1 : Nat) : Int) by omega, rdOf_at l (i + 1) h2, impl_node_tells _ _ (hs.at_ i h1) (hs.at_ _ h2), Option.bind_some, if_pos (by omega), wrap_id (x := (i : Int) + 2) (by omega) (by omega), show (i : Int) + 2 = ((i + 2 : Nat) : Int) by omega, ih k _ (i + 2) (by omega) (by rw [List.length_append]; simp only [List.length_cons, List.length_nil]; omega) (by omega), List.drop_eq_getElem_cons h1, List.drop_eq_getElem_cons h2, levelOf, List.append_assoc]
    rfl
theorem level_spec_tells (l : List ByteArray) (n : Nat) (hn : l.length = 2 * n) (hl : n ≤ 500) (hs : Small l) (k : Nat) (hk : n < k) : spec_l03Level.f k l = some (levelOf l) := by
  unfold spec_l03Level.f
  exact level_spec l (by omega) hs n k [] 0 (by omega) (by simp) hk
theorem level_impl_tells (l : List ByteArray) (n : Nat) (hn : l.length = 2 * n) (hl : n ≤ 500) (hs : Small l) (k : Nat) (hk : n < k) : impl_above.f k l = some (levelOf l) := by
  unfold impl_above.f
  exact level_impl l (by omega) hs n k [] 0 (by omega) (by simp) hk
theorem levelOf_length (n : Nat) : ∀ l : List ByteArray, l.length = 2 * n → (levelOf l).length = n := by
  induction n with
  | zero =>
    intro l h
    obtain rfl : l = [] := List.eq_nil_of_length_eq_zero (by omega)
    rfl
  | succ n ih =>
    intro l h
    match l, h with
    | a :: b :: l, h =>
      rw [levelOf, List.length_cons, ih l (by simp only [List.length_cons] at h; omega)]
theorem levelOf_small (n : Nat) : ∀ l : List ByteArray, l.length = 2 * n → Small (levelOf l) := by
  induction n with
  | zero =>
    intro l h
    obtain rfl : l = [] := List.eq_nil_of_length_eq_zero (by omega)
    intro x hx
    cases hx
  | succ n ih =>
    intro l h
    match l, h with
    | a :: b :: l, h =>
      intro x hx
      rw [levelOf] at hx
      rcases List.mem_cons.1 hx with rfl | hx
      · rw [nodeOf_size]; omega
      · exact ih l (by simp only [List.length_cons] at h; omega) x hx
def keysFrom (s : ByteArray) : Nat → Int → List ByteArray
  | 0, _ => []
  | d + 1, i => keyOf s i :: keysFrom s d (i + 1)
theorem keysFrom_length (s : ByteArray) (d : Nat) : ∀ i : Int, (keysFrom s d i).length = d := by
  induction d with
  | zero => intro i; rfl
  | succ d ih => intro i; rw [keysFrom, List.length_cons, ih]
theorem keysFrom_small (s : ByteArray) (d : Nat) : ∀ i : Int, Small (keysFrom s d i) := by
  induction d with
  | zero => intro i x hx; cases hx
  | succ d ih =>
    intro i x hx
    rw [keysFrom] at hx
    rcases List.mem_cons.1 hx with rfl | hx
    · rw [keyOf_size]; omega
    · exact ih (i + 1) x hx
theorem keys_spec (s : ByteArray) (hs : s.size ≤ 1048576) (d : Nat) : ∀ (k : Nat) (acc : List ByteArray) (i : Int), 0 ≤ i → 8 - i = d → acc.length ≤ i → 130 + d ≤ k → spec_l03Keys.l0 k s acc i = some (acc ++ keysFrom s d i) := by
  induction d with
  | zero =>
    intro k acc i h0 hd ha hk
    obtain ⟨k, rfl⟩ : ∃ m, k = m + 1 := ⟨k - 1, by omega⟩
    rw [spec_l03Keys.l0, if_neg (by omega), keysFrom, List.append_nil]
  | succ d ih =>
    intro k acc i h0 hd ha hk
    obtain ⟨k, rfl⟩ : ∃ m, k = m + 1 := ⟨k - 1, by omega⟩
    rw [spec_l03Keys.l0, if_pos (by omega), spec_key_tells s hs i k (by omega), Option.bind_some, if_pos (by omega), wrap_id (by omega) (by omega), ih k _ (i + 1) (by omega) (by omega) (by rw [List.length_append]; simp only [List.length_cons, List.length_nil]; omega) (by omega), keysFrom, List.append_assoc]
    rfl
theorem keys_impl (s : ByteArray) (hs : s.size ≤ 1048576) (d : Nat) : ∀ (k : Nat) (acc : List ByteArray) (i : Int), 0 ≤ i → 8 - i = d → acc.length ≤ i → 130 + d ≤ k → impl_keys.l0 k s acc i = some (acc ++ keysFrom s d i) := by
  induction d with
  | zero =>
    intro k acc i h0 hd ha hk
    obtain ⟨k, rfl⟩ : ∃ m, k = m + 1 := ⟨k - 1, by omega⟩
    rw [impl_keys.l0, if_neg (by omega), keysFrom, List.append_nil]
  | succ d ih =>
    intro k acc i h0 hd ha hk
    obtain ⟨k, rfl⟩ : ∃ m, k = m + 1 := ⟨k - 1, by omega⟩
    rw [impl_keys.l0, if_pos (by omega), impl_key_tells s hs i k (by omega), Option.bind_some, if_pos (by omega), wrap_id (by omega) (by omega), ih k _ (i + 1) (by omega) (by omega) (by rw [List.length_append]; simp only [List.length_cons, List.length_nil]; omega) (by omega), keysFrom, List.append_assoc]
    rfl
def keysOf (s : ByteArray) : List ByteArray := keysFrom s 8 0
theorem keysOf_length (s : ByteArray) : (keysOf s).length = 2 * 4 := keysFrom_length s 8 0
theorem keysOf_small (s : ByteArray) : Small (keysOf s) := keysFrom_small s 8 0
theorem spec_keys_tells (s : ByteArray) (hs : s.size ≤ 1048576) (k : Nat) (hk : 138 ≤ k) : spec_l03Keys.f k s = some (keysOf s) := by
  unfold spec_l03Keys.f
  exact keys_spec s hs 8 k [] 0 (by omega) (by omega) (by simp) (by omega)
theorem impl_keys_tells (s : ByteArray) (hs : s.size ≤ 1048576) (k : Nat) (hk : 138 ≤ k) : impl_keys.f k s = some (keysOf s) := by
  unfold impl_keys.f
  exact keys_impl s hs 8 k [] 0 (by omega) (by omega) (by simp) (by omega)

/-! snippet FnExactChainRoot -/
def rootOf (s : ByteArray) : ByteArray := rdOf ByteArray.empty (levelOf (levelOf (levelOf (keysOf s)))) 0
theorem root_spec (s : ByteArray) (k : Nat) (hk : 10 ≤ k) : spec_l03Root.f k (keysOf s) = some (rootOf s) := by
  obtain ⟨k, rfl⟩ : ∃ m, k = m + 1 + 1 + 1 + 1 := ⟨k - 4, by omega⟩
  have h8 := keysOf_length s
  have h4 := levelOf_length 4 _ h8
  have h2 := levelOf_length 2 _ (h4.trans (by rfl))
  have h1 := levelOf_length 1 _ (h2.trans (by rfl))
  have s8 := keysOf_small s
  have s4 := levelOf_small 4 _ h8
  have s2 := levelOf_small 2 _ (h4.trans (by rfl))
  unfold spec_l03Root.f
  rw [spec_l03Root.l0, if_pos (by rw [h8]; omega), level_spec_tells _ 4 h8 (by omega) s8 _ (by omega), Option.bind_some, spec_l03Root.l0, if_pos (by rw [h4]; omega), level_spec_tells _ 2 (h4.trans (by rfl)) (by omega) s4 _ (by omega), Option.bind_some, spec_l03Root.l0, if_pos (by rw [h2]; omega), level_spec_tells _ 1 (h2.trans (by rfl)) (by omega) s2 _ (by omega), Option.bind_some, spec_l03Root.l0, if_neg (by rw [h1]; omega), if_pos (by rw [h1]; omega)]
  rfl
theorem root_impl (s : ByteArray) (k : Nat) (hk : 10 ≤ k) : impl_chainRoot.l0 k (keysOf s) = some (rootOf s) := by
  obtain ⟨k, rfl⟩ : ∃ m, k = m + 1 + 1 + 1 + 1 := ⟨k - 4, by omega⟩
  have h8 := keysOf_length s
  have h4 := levelOf_length 4 _ h8
  have h2 := levelOf_length 2 _ (h4.trans (by rfl))
  have h1 := levelOf_length 1 _ (h2.trans (by rfl))
  have s8 := keysOf_small s
  have s4 := levelOf_small 4 _ h8
  have s2 := levelOf_small 2 _ (h4.trans (by rfl))
  rw [impl_chainRoot.l0, if_pos (by rw [h8]; omega), level_impl_tells _ 4 h8 (by omega) s8 _ (by omega), Option.bind_some, impl_chainRoot.l0, if_pos (by rw [h4]; omega), level_impl_tells _ 2 (h4.trans (by rfl)) (by omega) s4 _ (by omega), Option.bind_some, impl_chainRoot.l0, if_pos (by rw [h2]; omega), level_impl_tells _ 1 (h2.trans (by rfl)) (by omega) s2 _ (by omega), Option.bind_some, impl_chainRoot.l0, if_neg (by rw [h1]; omega), if_pos (by rw [h1]; omega)]
  rfl
theorem FnExactChainRoot (x0 : ByteArray) (gx0 : x0.size ≤ 9223372036854775807) : ∃ k, laws_FnExactChainRoot.f k x0 = some true := by
  obtain ⟨k, hk⟩ : ∃ k : Nat, 138 ≤ k := ⟨138, Nat.le_refl _⟩
  refine ⟨k, ?_⟩
  unfold laws_FnExactChainRoot.f
  by_cases h : (x0.size : Int) > 1048576
  · rw [if_pos h]
  rw [if_neg h]
  obtain ⟨L, K, e1, e2, e3, e4⟩ : ∃ L K, spec_l03Keys.f k x0 = some L ∧ impl_keys.f k x0 = some L ∧ spec_l03Root.f k L = some K ∧ impl_chainRoot.l0 k L = some K := ⟨_, _, spec_keys_tells x0 (by omega) k hk, impl_keys_tells x0 (by omega) k hk, root_spec x0 k (by omega), root_impl x0 k (by omega)⟩
  unfold spec_ChainRoot.f impl_ChainRoot.f impl_isHash.f impl_chainRoot.f
  rw [areLong_one]
  simp only [e1, e2, e3, e4, Option.bind_some]
  by_cases h2 : (x0.size : Int) > 65536
  · rw [if_pos h2, decide_eq_true (show (65536 : Int) < x0.size by omega)]; simp
  rw [if_neg h2, decide_eq_false (show ¬ (65536 : Int) < x0.size by omega)]
  by_cases h3 : (x0.size : Int) = 32
  · rw [if_pos h3, h3]
    simp
  · rw [if_neg h3]
    simp [h3]

end Go.Proofs.YtgknilganicofaaDoor.Pure
