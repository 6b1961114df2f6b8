/- The statement FnChain: what the given program's printed functions answer, as the law asks; no condition. -/
import Derived.Test.YtmkaknegjahjaaaDoorPFnChainx9
import Derived.Test.YtmkaknegjahjaaaDoorShaE
import Derived.Test.YtmkaknegjahjaaaDoorSeed
set_option linter.unusedVariables false
set_option linter.unusedSimpArgs false
namespace Go.Proofs.YtmkaknegjahjaaaDoor.Pure
open Go.RowKit Go.Proofs.YtmkaknegjahjaaaDoor.PFnChain Go.Proofs.YtmkaknegjahjaaaDoorV.PrintWords Go.Proofs.YtmkaknegjahjaaaDoorV.PrintLast Go.Proofs.YtmkaknegjahjaaaDoorV.PrintMore
/-! snippet base -/
theorem wrap_id {x : Int} (h1 : -9223372036854775808 ≤ x) (h2 : x ≤ 9223372036854775807) : wrap64 x = x := by
  unfold wrap64
  omega
theorem nat_pos_succ {k d : Nat} (h : d < k) : ∃ m, k = m + 1 := ⟨k - 1, by omega⟩
theorem u8_of_wf {l : List Int} (h : ∀ x ∈ l, (Lit.int .u8 x).wf = true) (i : Int) : 0 ≤ rd l i ∧ rd l i ≤ 255 := by
  unfold rd
  rw [List.getD_eq_getElem?_getD]
  by_cases hi : i.toNat < l.length
  · rw [List.getElem?_eq_getElem hi, Option.getD_some]
    have := h _ (List.getElem_mem hi)
    simp only [Lit.wf, Bool.and_eq_true, decide_eq_true_eq] at this
    have e1 : IntKind.u8.min = 0 := rfl
    have e2 : IntKind.u8.max = 255 := rfl
    omega
  · rw [List.getElem?_eq_none (by omega)]
    simp
theorem i64_of_wf {x : Int} (h : (Lit.int .i64 x).wf = true) : -9223372036854775808 ≤ x ∧ x ≤ 9223372036854775807 := by
  simp only [Lit.wf, Bool.and_eq_true, decide_eq_true_eq] at h
  have e1 : IntKind.i64.min = -9223372036854775808 := rfl
  have e2 : IntKind.i64.max = 9223372036854775807 := rfl
  omega
theorem toList_len (s : ByteArray) : s.toList.length = s.size := by
  rw [ByteArray.toList_eq]
  exact data_length s
theorem toList_inj {a b : ByteArray} (h : a.toList = b.toList) : a = b := by
  rw [ByteArray.toList_eq, ByteArray.toList_eq] at h
  exact Go.WideShapes.bytes_inj h

/-! snippet rdat -/
theorem rdOf_at (l : List ByteArray) (i : Nat) (hi : i < l.length) : rdOf ByteArray.empty l (i : Int) = l[i] := by
  unfold rdOf
  simp [List.getD_eq_getElem?_getD, hi]

/-! snippet hexD1 -/
theorem areLong_one (s : ByteArray) : impl_areLong.f [s] = some (decide ((65536 : Int) < s.size)) := by
  unfold impl_areLong.f
  simp

/-! snippet number -/
theorem number_l0 (d : Nat) : ∀ (k : Nat) (x : Int) (l : List Int), d ≤ l.length → l.length ≤ 65536 → d < k → impl_number.l0 k x l ((d : Int) - 1) = some (strOfNums (Sha.num x d l)) := by
  induction d with
  | zero =>
    intro k x l _ _ hk
    obtain ⟨k, rfl⟩ := nat_pos_succ hk
    rw [impl_number.l0, if_neg (by omega)]
    rfl
  | succ d ih =>
    intro k x l hd hl hk
    obtain ⟨k, rfl⟩ := nat_pos_succ hk
    rw [impl_number.l0, if_pos (by omega), if_pos (by omega), if_pos (by omega)]
    have h1 : wrap64 (((d + 1 : Nat) : Int) - 1 - 1) = (d : Int) - 1 := by rw [wrap_id (by omega) (by omega)]; omega
    have h2 : (((d + 1 : Nat) : Int) - 1).toNat = d := by omega
    rw [h1, h2, ih _ _ _ (by rw [List.length_set]; omega) (by rw [List.length_set]; exact hl) (by omega)]
    rfl
theorem number_tells (n : Nat) (x : Int) (h0 : n ≤ 65536) (k : Nat) (hk : n < k) : impl_number.f k x n = some (strOfNums (Sha.num x n (List.replicate n 0))) := by
  rw [impl_number.f, if_pos (by omega), if_pos (by omega), wrap_id (by omega) (by omega), Int.toNat_natCast]
  exact number_l0 n k x _ (by simp) (by simp; omega) hk
theorem number1 (x : Int) (k : Nat) (hk : 1 < k) : impl_number.f k x 1 = some (strOfNums [x % 256]) := number_tells 1 x (by omega) k hk
theorem number2 (x : Int) (k : Nat) (hk : 2 < k) : impl_number.f k x 2 = some (strOfNums [x / 256 % 256, x % 256]) := number_tells 2 x (by omega) k hk
theorem number4 (x : Int) (k : Nat) (hk : 4 < k) : impl_number.f k x 4 = some (strOfNums [x / 16777216 % 256, x / 65536 % 256, x / 256 % 256, x % 256]) := by
  rw [← Sha.num4]
  exact number_tells 4 x (by omega) k hk
theorem ba_assoc (a b c : ByteArray) : a ++ b ++ c = a ++ (b ++ c) := by
  apply Sha.ba_ext
  simp
theorem nums_size1 (x : Int) : (strOfNums [x]).size = 1 := rfl

/-! snippet secret -/
def secText (s : ByteArray) (i b v : Int) : ByteArray := (⟨#[115, 101, 99, 114, 101, 116]⟩ : ByteArray) ++ s ++ strOfNums [i % 256, b % 256, v % 256]
def secretOf (s : ByteArray) (i b v : Int) : ByteArray := Sha.sha (secText s i b v)
theorem sec_size (s : ByteArray) : ((⟨#[115, 101, 99, 114, 101, 116]⟩ : ByteArray) ++ s).size = 6 + s.size := by rw [ByteArray.size_append]; rfl
theorem secretOf_size (s : ByteArray) (i b v : Int) : (secretOf s i b v).size = 32 := Sha.sha_size _
theorem spec_l03Secret_tells (s : ByteArray) (hs : s.size ≤ 1048576) (i b v : Int) : spec_l03Secret.f s i b v = some (secretOf s i b v) := by
  unfold spec_l03Secret.f spec_l01Hash.f
  have h3 : (strOfNums [i % 256, b % 256, v % 256]).size = 3 := rfl
  rw [if_pos (by omega), Option.bind_some, if_pos (by rw [sec_size, h3]; omega), if_pos (by rw [ByteArray.size_append, sec_size, h3]; omega), if_pos (by rw [bytesOf_length, ByteArray.size_append, sec_size, h3]; omega), Sha.sha_eq, Option.bind_some]
  rfl
theorem impl_secret_tells (s : ByteArray) (hs : s.size ≤ 1048576) (i b v : Int) (k : Nat) (hk : 1 < k) : impl_secret.f k s i b v = some (secretOf s i b v) := by
  unfold impl_secret.f impl_hash.f
  have h1 := nums_size1 (i % 256)
  have h2 := nums_size1 (b % 256)
  have h3 := nums_size1 (v % 256)
  have z1 := sec_size s
  have z2 : ((⟨#[115, 101, 99, 114, 101, 116]⟩ : ByteArray) ++ s ++ strOfNums [i % 256]).size = 7 + s.size := by rw [ByteArray.size_append, z1, h1]; omega
  have z3 : ((⟨#[115, 101, 99, 114, 101, 116]⟩ : ByteArray) ++ s ++ strOfNums [i % 256] ++ strOfNums [b % 256]).size = 8 + s.size := by rw [ByteArray.size_append, z2, h2]; omega
  have z4 : ((⟨#[115, 101, 99, 114, 101, 116]⟩ : ByteArray) ++ s ++ strOfNums [i % 256] ++ strOfNums [b % 256] ++ strOfNums [v % 256]).size = 9 + s.size := by rw [ByteArray.size_append, z3, h3]; omega
  have e : (⟨#[115, 101, 99, 114, 101, 116]⟩ : ByteArray) ++ s ++ strOfNums [i % 256] ++ strOfNums [b % 256] ++ strOfNums [v % 256] = secText s i b v := by
    unfold secText
    rw [ba_assoc _ (strOfNums [i % 256]), ba_assoc _ (strOfNums [i % 256] ++ strOfNums [b % 256]), ← Sha.nums_app, ← Sha.nums_app]
    rfl
  rw [if_pos (by omega), number1 i k hk, Option.bind_some, if_pos (by omega), number1 b k hk, Option.bind_some, if_pos (by omega), number1 v k hk, Option.bind_some, if_pos (by omega), if_pos (by omega), e, Option.bind_some]
  rfl

/-! snippet key -/
def keyText (s : ByteArray) (i : Int) : Nat → Int → ByteArray → ByteArray
  | 0, _, t => t
  | d + 1, b, t => keyText s i d (b + 1) (t ++ (Sha.sha (secretOf s i b 0) ++ Sha.sha (secretOf s i b 1)))
def keyOf (s : ByteArray) (i : Int) : ByteArray := Sha.sha (keyText s i 32 0 (⟨#[107, 101, 121]⟩ : ByteArray))
theorem two_size (a b : ByteArray) : (Sha.sha a ++ Sha.sha b).size = 64 := by rw [ByteArray.size_append, Sha.sha_size, Sha.sha_size]
theorem key_impl (s : ByteArray) (hs : s.size ≤ 1048576) (i : Int) (d : Nat) : ∀ (k : Nat) (t : ByteArray) (b : Int), 0 ≤ b → 32 - b = d → (t.size : Int) = 3 + 64 * b → d + 2 < k → impl_oneTimeKey.l0 k s i t b = some (Sha.sha (keyText s i d b t)) := by
  induction d with
  | zero =>
    intro k t b h0 hd ht hk
    obtain ⟨k, rfl⟩ : ∃ m, k = m + 1 := ⟨k - 1, by omega⟩
    unfold impl_oneTimeKey.l0 impl_hash.f
    rw [if_neg (by omega), if_pos (by omega)]
    rfl
  | succ d ih =>
    intro k t b h0 hd ht hk
    obtain ⟨k, rfl⟩ : ∃ m, k = m + 1 := ⟨k - 1, by omega⟩
    have hz := two_size (secretOf s i b 0) (secretOf s i b 1)
    have e : ∀ v, impl_hash.f (secretOf s i b v) = some (Sha.sha (secretOf s i b v)) := fun v => by unfold impl_hash.f; rw [if_pos (by rw [secretOf_size]; omega)]
    rw [impl_oneTimeKey.l0, if_pos (by omega), impl_secret_tells s hs i b 0 k (by omega), Option.bind_some, e, Option.bind_some, impl_secret_tells s hs i b 1 k (by omega), Option.bind_some, e, Option.bind_some, if_pos (by rw [Sha.sha_size, Sha.sha_size]; omega), if_pos (by rw [hz]; omega), wrap_id (by omega) (by omega), ih k _ (b + 1) (by omega) (by omega) (by rw [ByteArray.size_append, hz]; omega) (by omega), keyText]
theorem impl_key_tells (s : ByteArray) (hs : s.size ≤ 1048576) (i : Int) (k : Nat) (hk : 35 ≤ k) : impl_oneTimeKey.f k s i = some (keyOf s i) :=
  key_impl s hs i 32 k _ 0 (by omega) (by omega) rfl (by omega)
theorem key_spec (s : ByteArray) (hs : s.size ≤ 1048576) (i : Int) (d : Nat) : ∀ (k : Nat) (t : ByteArray) (b : Int), 0 ≤ b → 32 - b = d → (t.size : Int) = 3 + 64 * b → 4 * d < k → spec_l03Key.l0 k s i (bytesOf t) b = some (Sha.sha (keyText s i d b t)) := by
  induction d with
  | zero =>
    intro k t b h0 hd ht hk
    obtain ⟨k, rfl⟩ : ∃ m, k = m + 1 := ⟨k - 1, by omega⟩
    unfold spec_l03Key.l0 spec_l01Hash.f
    rw [if_neg (by omega), if_pos (by rw [bytesOf_length]; omega), Sha.sha_eq]
    rfl
  | succ d ih =>
    intro k t b h0 hd ht hk
    obtain ⟨k, rfl⟩ : ∃ m, k = m + 1 + 1 + 1 + 1 := ⟨k - 4, by omega⟩
    have hz := two_size (secretOf s i b 0) (secretOf s i b 1)
    have e : ∀ v, spec_l01Hash.f (bytesOf (secretOf s i b v)) = some (Sha.sha (secretOf s i b v)) := fun v => by unfold spec_l01Hash.f; rw [if_pos (by rw [bytesOf_length, secretOf_size]; omega), Sha.sha_eq]
    rw [spec_l03Key.l0, if_pos (by omega), spec_l03Key.l1, if_pos (by omega), spec_l03Secret_tells s hs, Option.bind_some, if_pos (by rw [secretOf_size]; omega), e, Option.bind_some, if_pos (by rw [bytesOf_length, Sha.sha_size]; omega), wrap_id (x := 0 + 1) (by omega) (by omega),
      show (0 : Int) + 1 = 1 from rfl, spec_l03Key.l1, if_pos (by omega), spec_l03Secret_tells s hs, Option.bind_some, if_pos (by rw [secretOf_size]; omega), e, Option.bind_some, if_pos (by rw [List.length_append, bytesOf_length, bytesOf_length, Sha.sha_size, Sha.sha_size]; omega), wrap_id (x := 1 + 1) (by omega) (by omega),
      spec_l03Key.l1, if_neg (by omega), wrap_id (by omega) (by omega), List.append_assoc, ← Sha.bytes_app, ← Sha.bytes_app, ih k _ (b + 1) (by omega) (by omega) (by rw [ByteArray.size_append, hz]; omega) (by omega), keyText]
theorem spec_key_tells (s : ByteArray) (hs : s.size ≤ 1048576) (i : Int) (k : Nat) (hk : 129 ≤ k) : spec_l03Key.f k s i = some (keyOf s i) := by
  unfold spec_l03Key.f
  exact key_spec s hs i 32 k (⟨#[107, 101, 121]⟩ : ByteArray) 0 (by omega) (by omega) rfl (by omega)
theorem keyOf_size (s : ByteArray) (i : Int) : (keyOf s i).size = 32 := Sha.sha_size _

/-! snippet node -/
def nodeOf (a b : ByteArray) : ByteArray := Sha.sha ((⟨#[110, 111, 100, 101]⟩ : ByteArray) ++ a ++ b)
theorem node_size (a : ByteArray) : ((⟨#[110, 111, 100, 101]⟩ : ByteArray) ++ a).size = 4 + a.size := by rw [ByteArray.size_append]; rfl
theorem nodeOf_size (a b : ByteArray) : (nodeOf a b).size = 32 := Sha.sha_size _
theorem spec_l03Node_tells (a b : ByteArray) (ha : a.size ≤ 1048576) (hb : b.size ≤ 1048576) : spec_l03Node.f a b = some (nodeOf a b) := by
  unfold spec_l03Node.f spec_l01Hash.f
  have h1 := node_size a
  rw [if_pos (by omega), if_pos (by rw [h1]; omega), if_pos (by rw [ByteArray.size_append, h1]; omega), if_pos (by rw [bytesOf_length, ByteArray.size_append, h1]; omega), Option.bind_some, Sha.sha_eq]
  rfl
theorem impl_node_tells (a b : ByteArray) (ha : a.size ≤ 1048576) (hb : b.size ≤ 1048576) : impl_node.f a b = some (nodeOf a b) := by
  unfold impl_node.f impl_hash.f
  have h1 := node_size a
  rw [if_pos (by omega), if_pos (by rw [h1]; omega), if_pos (by rw [ByteArray.size_append, h1]; omega), Option.bind_some]
  rfl

/-! snippet root -/
def levelOf : List ByteArray → List ByteArray
  | a :: b :: l => nodeOf a b :: levelOf l
  | _ => []
theorem levelOf_nil : levelOf [] = [] := rfl
def Small (l : List ByteArray) : Prop := ∀ x ∈ l, x.size ≤ 1048576
theorem Small.at_ {l : List ByteArray} (h : Small l) (i : Nat) (hi : i < l.length) : (l[i]).size ≤ 1048576 := h _ (List.getElem_mem hi)
theorem level_spec (l : List ByteArray) (hl : l.length ≤ 1000) (hs : Small l) (d : Nat) : ∀ (k : Nat) (acc : List ByteArray) (i : Nat), l.length = i + 2 * d → acc.length ≤ i → d < k → spec_l03Level.l0 k l acc i = some (acc ++ levelOf (l.drop i)) := by
  induction d with
  | zero =>
    intro k acc i hd ha hk
    obtain ⟨k, rfl⟩ := nat_pos_succ hk
    rw [spec_l03Level.l0, if_neg (by omega), List.drop_eq_nil_of_le (by omega), levelOf_nil, List.append_nil]
  | succ d ih =>
    intro k acc i hd ha hk
    obtain ⟨k, rfl⟩ := nat_pos_succ hk
    have h1 : i < l.length := by omega
    have h2 : i + 1 < l.length := by omega
    rw [spec_l03Level.l0, if_pos (by omega), if_pos (by omega), wrap_id (x := (i : Int) + 1) (by omega) (by omega), if_pos (by omega), if_pos (by omega), rdOf_at l i h1, show (i : Int) + 1 = ((i + 1 : Nat) : Int) by omega, rdOf_at l (i + 1) h2, spec_l03Node_tells _ _ (hs.at_ i h1) (hs.at_ _ h2), Option.bind_some, if_pos (by omega), wrap_id (x := (i : Int) + 2) (by omega) (by omega), show (i : Int) + 2 = ((i + 2 : Nat) : Int) by omega, ih k _ (i + 2) (by omega) (by rw [List.length_append]; simp only [List.length_cons, List.length_nil]; omega) (by omega), List.drop_eq_getElem_cons h1, List.drop_eq_getElem_cons h2, levelOf, List.append_assoc]
    rfl
theorem level_impl (l : List ByteArray) (hl : l.length ≤ 1000) (hs : Small l) (d : Nat) : ∀ (k : Nat) (acc : List ByteArray) (i : Nat), l.length = i + 2 * d → acc.length ≤ i → d < k → impl_above.l0 k l acc i = some (acc ++ levelOf (l.drop i)) := by
  induction d with
  | zero =>
    intro k acc i hd ha hk
    obtain ⟨k, rfl⟩ := nat_pos_succ hk
    rw [impl_above.l0, if_neg (by omega), List.drop_eq_nil_of_le (by omega), levelOf_nil, List.append_nil]
  | succ d ih =>
    intro k acc i hd ha hk
    obtain ⟨k, rfl⟩ := nat_pos_succ hk
    have h1 : i < l.length := by omega
    have h2 : i + 1 < l.length := by omega
    rw [impl_above.l0, if_pos (by omega), if_pos (by omega), wrap_id (x := (i : Int) + 1) (by omega) (by omega), if_pos (by omega), if_pos (by omega), rdOf_at l i h1, show (i : Int) + 1 = ((i + 1 : Nat) : Int) by omega, rdOf_at l (i + 1) h2, impl_node_tells _ _ (hs.at_ i h1) (hs.at_ _ h2), Option.bind_some, if_pos (by omega), wrap_id (x := (i : Int) + 2) (by omega) (by omega), show (i : Int) + 2 = ((i + 2 : Nat) : Int) by omega, ih k _ (i + 2) (by omega) (by rw [List.length_append]; simp only [List.length_cons, List.length_nil]; omega) (by omega), List.drop_eq_getElem_cons h1, List.drop_eq_getElem_cons h2, levelOf, List.append_assoc]
    rfl
theorem level_spec_tells (l : List ByteArray) (n : Nat) (hn : l.length = 2 * n) (hl : n ≤ 500) (hs : Small l) (k : Nat) (hk : n < k) : spec_l03Level.f k l = some (levelOf l) := by
  unfold spec_l03Level.f
  exact level_spec l (by omega) hs n k [] 0 (by omega) (by simp) hk
theorem level_impl_tells (l : List ByteArray) (n : Nat) (hn : l.length = 2 * n) (hl : n ≤ 500) (hs : Small l) (k : Nat) (hk : n < k) : impl_above.f k l = some (levelOf l) := by
  unfold impl_above.f
  exact level_impl l (by omega) hs n k [] 0 (by omega) (by simp) hk
theorem levelOf_length (n : Nat) : ∀ l : List ByteArray, l.length = 2 * n → (levelOf l).length = n := by
  induction n with
  | zero =>
    intro l h
    obtain rfl : l = [] := List.eq_nil_of_length_eq_zero (by omega)
    rfl
  | succ n ih =>
    intro l h
    match l, h with
    | a :: b :: l, h =>
      rw [levelOf, List.length_cons, ih l (by simp only [List.length_cons] at h; omega)]
theorem levelOf_small (n : Nat) : ∀ l : List ByteArray, l.length = 2 * n → Small (levelOf l) := by
  induction n with
  | zero =>
    intro l h
    obtain rfl : l = [] := List.eq_nil_of_length_eq_zero (by omega)
    intro x hx
    cases hx
  | succ n ih =>
    intro l h
    match l, h with
    | a :: b :: l, h =>
      intro x hx
      rw [levelOf] at hx
      rcases List.mem_cons.1 hx with rfl | hx
      · rw [nodeOf_size]; omega
      · exact ih l (by simp only [List.length_cons] at h; omega) x hx
def keysFrom (s : ByteArray) : Nat → Int → List ByteArray
  | 0, _ => []
  | d + 1, i => keyOf s i :: keysFrom s d (i + 1)
theorem keysFrom_length (s : ByteArray) (d : Nat) : ∀ i : Int, (keysFrom s d i).length = d := by
  induction d with
  | zero => intro i; rfl
  | succ d ih => intro i; rw [keysFrom, List.length_cons, ih]
theorem keysFrom_small (s : ByteArray) (d : Nat) : ∀ i : Int, Small (keysFrom s d i) := by
  induction d with
  | zero => intro i x hx; cases hx
  | succ d ih =>
    intro i x hx
    rw [keysFrom] at hx
    rcases List.mem_cons.1 hx with rfl | hx
    · rw [keyOf_size]; omega
    · exact ih (i + 1) x hx
theorem keys_spec (s : ByteArray) (hs : s.size ≤ 1048576) (d : Nat) : ∀ (k : Nat) (acc : List ByteArray) (i : Int), 0 ≤ i → 8 - i = d → acc.length ≤ i → 130 + d ≤ k → spec_l03Keys.l0 k s acc i = some (acc ++ keysFrom s d i) := by
  induction d with
  | zero =>
    intro k acc i h0 hd ha hk
    obtain ⟨k, rfl⟩ : ∃ m, k = m + 1 := ⟨k - 1, by omega⟩
    rw [spec_l03Keys.l0, if_neg (by omega), keysFrom, List.append_nil]
  | succ d ih =>
    intro k acc i h0 hd ha hk
    obtain ⟨k, rfl⟩ : ∃ m, k = m + 1 := ⟨k - 1, by omega⟩
    rw [spec_l03Keys.l0, if_pos (by omega), spec_key_tells s hs i k (by omega), Option.bind_some, if_pos (by omega), wrap_id (by omega) (by omega), ih k _ (i + 1) (by omega) (by omega) (by rw [List.length_append]; simp only [List.length_cons, List.length_nil]; omega) (by omega), keysFrom, List.append_assoc]
    rfl
theorem keys_impl (s : ByteArray) (hs : s.size ≤ 1048576) (d : Nat) : ∀ (k : Nat) (acc : List ByteArray) (i : Int), 0 ≤ i → 8 - i = d → acc.length ≤ i → 130 + d ≤ k → impl_keys.l0 k s acc i = some (acc ++ keysFrom s d i) := by
  induction d with
  | zero =>
    intro k acc i h0 hd ha hk
    obtain ⟨k, rfl⟩ : ∃ m, k = m + 1 := ⟨k - 1, by omega⟩
    rw [impl_keys.l0, if_neg (by omega), keysFrom, List.append_nil]
  | succ d ih =>
    intro k acc i h0 hd ha hk
    obtain ⟨k, rfl⟩ : ∃ m, k = m + 1 := ⟨k - 1, by omega⟩
    rw [impl_keys.l0, if_pos (by omega), impl_key_tells s hs i k (by omega), Option.bind_some, if_pos (by omega), wrap_id (by omega) (by omega), ih k _ (i + 1) (by omega) (by omega) (by rw [List.length_append]; simp only [List.length_cons, List.length_nil]; omega) (by omega), keysFrom, List.append_assoc]
    rfl
def keysOf (s : ByteArray) : List ByteArray := keysFrom s 8 0
theorem keysOf_length (s : ByteArray) : (keysOf s).length = 2 * 4 := keysFrom_length s 8 0
theorem keysOf_small (s : ByteArray) : Small (keysOf s) := keysFrom_small s 8 0
theorem spec_keys_tells (s : ByteArray) (hs : s.size ≤ 1048576) (k : Nat) (hk : 138 ≤ k) : spec_l03Keys.f k s = some (keysOf s) := by
  unfold spec_l03Keys.f
  exact keys_spec s hs 8 k [] 0 (by omega) (by omega) (by simp) (by omega)
theorem impl_keys_tells (s : ByteArray) (hs : s.size ≤ 1048576) (k : Nat) (hk : 138 ≤ k) : impl_keys.f k s = some (keysOf s) := by
  unfold impl_keys.f
  exact keys_impl s hs 8 k [] 0 (by omega) (by omega) (by simp) (by omega)

/-! snippet u64 -/
theorem u64_small (x : Int) (h0 : 0 ≤ x) (h1 : x ≤ 100) : IntKind.u64.wrap x = x := by
  simp only [IntKind.wrap, IntKind.bits, IntKind.signed]
  simp
  omega

/-! snippet bitsI -/
def bitAt (s : ByteArray) (i j : Int) : Int := (48 + (Go.bits .and .u8 (shr .u8 (bt s i) j) 1)) % 256
/-- The bits d - 1 to 0 of a byte. -/
def byteBits (s : ByteArray) (i : Int) : Nat → List Int
  | 0 => []
  | d + 1 => bitAt s i d :: byteBits s i d
theorem byteBits_length (s : ByteArray) (i : Int) (d : Nat) : (byteBits s i d).length = d := by
  induction d with
  | zero => rfl
  | succ d ih => rw [byteBits, List.length_cons, ih]
/-- The bits of d bytes from place i on. -/
def bitsFrom (s : ByteArray) : Nat → Int → List Int
  | 0, _ => []
  | d + 1, i => byteBits s i 8 ++ bitsFrom s d (i + 1)
theorem bits_impl1 (s : ByteArray) (n i : Int) (h0 : 0 ≤ i) (h1 : i < s.size) (d : Nat) : ∀ (k : Nat) (xs : List Int), d ≤ 8 → xs.length ≤ 1000000 - d → impl_hashBits.l1 (k + d + 1) s xs i ((d : Int) - 1) n i = impl_hashBits.l0 k s (xs ++ byteBits s i d) n (wrap64 (i + 1)) := by
  induction d with
  | zero =>
    intro k xs hd hx
    rw [impl_hashBits.l1, if_neg (by omega), byteBits, List.append_nil]
  | succ d ih =>
    intro k xs hd hx
    rw [show k + (d + 1) + 1 = (k + d + 1) + 1 by omega, impl_hashBits.l1, if_pos (by omega), if_pos h0, if_pos h1, show ((d + 1 : Nat) : Int) - 1 = d by omega, if_pos (by omega), if_pos (by omega), wrap_id (by omega) (by omega), ih k _ (by omega) (by simp only [List.length_append, List.length_cons, List.length_nil]; omega), byteBits, List.append_assoc]
    rfl
theorem bits_impl (s : ByteArray) (hs : s.size ≤ 65536) (d : Nat) : ∀ (k : Nat) (xs : List Int) (i : Int), 0 ≤ i → (s.size : Int) - i = d → xs.length ≤ 8 * i → 10 * d < k → impl_hashBits.l0 k s xs s.size i = some (strOfNums (xs ++ bitsFrom s d i)) := by
  induction d with
  | zero =>
    intro k xs i h0 hd hx hk
    obtain ⟨k, rfl⟩ := nat_pos_succ hk
    rw [impl_hashBits.l0, if_neg (by omega), bitsFrom, List.append_nil]
  | succ d ih =>
    intro k xs i h0 hd hx hk
    obtain ⟨k, rfl⟩ : ∃ m, k = (m + 8 + 1) + 1 := ⟨k - 10, by omega⟩
    rw [impl_hashBits.l0, if_pos (by omega)]
    have := bits_impl1 s s.size i h0 (by omega) 8 k xs (by omega) (by omega)
    rw [show ((8 : Nat) : Int) - 1 = 7 from rfl] at this
    rw [this, wrap_id (by omega) (by omega), ih k _ (i + 1) (by omega) (by omega) (by rw [List.length_append, byteBits_length]; omega) (by omega), bitsFrom, List.append_assoc]
theorem impl_hashBits_tells (s : ByteArray) (hs : s.size ≤ 65536) (k : Nat) (hk : 10 * s.size + 1 ≤ k) : impl_hashBits.f k s = some (strOfNums (bitsFrom s s.size 0)) := by
  unfold impl_hashBits.f
  rw [wrap_id (by omega) (by omega), if_pos (by omega), if_pos (by omega), bits_impl s hs s.size k [] 0 (by omega) (by omega) (by simp) (by omega)]
  rfl

/-! snippet bits03 -/
def bits32 (s : ByteArray) : Nat → Int → List Int
  | 0, _ => []
  | d + 1, i => bitAt s (i / 8) (7 - i % 8) :: bits32 s d (i + 1)
theorem bits32_eq (s : ByteArray) : (bitsFrom s 32 0).take 32 = bits32 s 32 0 := by rfl
theorem bits03_l0 (s : ByteArray) (hs : s.size = 32) (d : Nat) : ∀ (k : Nat) (xs : List Int) (i : Int), 0 ≤ i → 32 - i = d → xs.length ≤ i → d < k → spec_l03Bits.l0 k s xs i = some (strOfNums (xs ++ bits32 s d i)) := by
  induction d with
  | zero =>
    intro k xs i h0 hd hx hk
    obtain ⟨k, rfl⟩ := nat_pos_succ hk
    rw [spec_l03Bits.l0, if_neg (by omega), bits32, List.append_nil]
  | succ d ih =>
    intro k xs i h0 hd hx hk
    obtain ⟨k, rfl⟩ := nat_pos_succ hk
    rw [spec_l03Bits.l0, if_pos (by omega), Int.tdiv_eq_ediv_of_nonneg h0, Int.tmod_eq_emod_of_nonneg h0, wrap_id (x := i / 8) (by omega) (by omega), wrap_id (x := 7 - i % 8) (by omega) (by omega), u64_small _ (by omega) (by omega), if_pos (by omega), if_pos (by omega), if_pos (by omega), if_pos (by omega), wrap_id (by omega) (by omega), ih k _ (i + 1) (by omega) (by omega) (by rw [List.length_append]; simp only [List.length_cons, List.length_nil]; omega) (by omega), bits32, List.append_assoc]
    rfl
theorem nums_take (l : List Int) (n : Nat) (h : n ≤ l.length) : (strOfNums l).extract 0 n = strOfNums (l.take n) := by
  apply Sha.ba_ext
  simp [strOfNums, List.map_take]
theorem bitsFrom_length (s : ByteArray) (d : Nat) : ∀ i : Int, (bitsFrom s d i).length = 8 * d := by
  induction d with
  | zero => intro i; rfl
  | succ d ih => intro i; rw [bitsFrom, List.length_append, byteBits_length, ih]; omega
/-- What the bits of a text are. -/
def msgBits (t : ByteArray) : ByteArray := strOfNums (bits32 (Sha.sha ((⟨#[100, 105, 103, 101, 115, 116]⟩ : ByteArray) ++ t)) 32 0)
theorem dig_size (t : ByteArray) : ((⟨#[100, 105, 103, 101, 115, 116]⟩ : ByteArray) ++ t).size = 6 + t.size := by rw [ByteArray.size_append]; rfl
theorem spec_l03Bits_tells (t : ByteArray) (ht : t.size ≤ 1048577) (k : Nat) (hk : 33 ≤ k) : spec_l03Bits.f k t = some (msgBits t) := by
  unfold spec_l03Bits.f spec_l01Hash.f
  rw [if_pos (by omega), if_pos (by rw [dig_size]; omega), if_pos (by rw [bytesOf_length, dig_size]; omega), Option.bind_some, Sha.sha_eq, bits03_l0 _ (Sha.sha_size _) 32 k [] 0 (by omega) (by omega) (by simp) (by omega)]
  rfl
theorem impl_messageBits_tells (t : ByteArray) (ht : t.size ≤ 1048577) (k : Nat) (hk : 321 ≤ k) : impl_messageBits.f k t = some (msgBits t) := by
  unfold impl_messageBits.f impl_hash.f
  have hz := Sha.sha_size ((⟨#[100, 105, 103, 101, 115, 116]⟩ : ByteArray) ++ t)
  rw [if_pos (by omega), if_pos (by rw [dig_size]; omega), Option.bind_some, impl_hashBits_tells _ (by omega) k (by omega), Option.bind_some, if_pos (by decide), if_pos (by rw [strOfNums_size, bitsFrom_length]; omega), nums_take _ _ (by rw [bitsFrom_length]; omega), hz, bits32_eq]
  rfl

/-! snippet specIn -/
theorem specIn_tells (n low high : Int) : spec_l01In.f n low high = some (decide (low ≤ n) && decide (n ≤ high)) := by
  unfold spec_l01In.f
  by_cases h : n ≥ low
  · rw [if_pos h, decide_eq_true h]; rfl
  · rw [if_neg h, decide_eq_false h]; rfl

/-! snippet within -/
theorem within_tells (n low high : Int) : impl_within.f n low high = some (decide (low ≤ n) && decide (n ≤ high)) := by
  unfold impl_within.f
  by_cases h : n ≥ low
  · rw [if_pos h, decide_eq_true h]; rfl
  · rw [if_neg h, decide_eq_false h]; rfl

/-! snippet sign -/
def onesFrom (s : ByteArray) (i : Int) (b : ByteArray) : Nat → Int → List ByteArray
  | 0, _ => []
  | d + 1, j => secretOf s i j ((bt b j - 48) % 256) :: onesFrom s i b d (j + 1)
def restFrom (s : ByteArray) (i : Int) (b : ByteArray) : Nat → Int → List ByteArray
  | 0, _ => []
  | d + 1, j => Sha.sha (secretOf s i j (wrap64 (1 - (bt b j - 48) % 256))) :: restFrom s i b d (j + 1)
theorem onesFrom_length (s : ByteArray) (i : Int) (b : ByteArray) (d : Nat) : ∀ j : Int, (onesFrom s i b d j).length = d := by
  induction d with
  | zero => intro j; rfl
  | succ d ih => intro j; rw [onesFrom, List.length_cons, ih]
theorem restFrom_length (s : ByteArray) (i : Int) (b : ByteArray) (d : Nat) : ∀ j : Int, (restFrom s i b d j).length = d := by
  induction d with
  | zero => intro j; rfl
  | succ d ih => intro j; rw [restFrom, List.length_cons, ih]
theorem xor1 (i : Int) (h0 : 0 ≤ i) (h7 : i ≤ 7) : 0 ≤ Go.bits .xor .i64 i 1 ∧ Go.bits .xor .i64 i 1 ≤ 7 ∧ (i ≤ 3 → Go.bits .xor .i64 i 1 ≤ 3) ∧ (i ≤ 1 → Go.bits .xor .i64 i 1 ≤ 1) := by
  obtain rfl | rfl | rfl | rfl | rfl | rfl | rfl | rfl : i = 0 ∨ i = 1 ∨ i = 2 ∨ i = 3 ∨ i = 4 ∨ i = 5 ∨ i = 6 ∨ i = 7 := by omega
  all_goals decide +kernel
def pathOf (s : ByteArray) (i : Int) : List ByteArray := [rdOf ByteArray.empty (keysOf s) (Go.bits .xor .i64 i 1), rdOf ByteArray.empty (levelOf (keysOf s)) (Go.bits .xor .i64 (i / 2) 1), rdOf ByteArray.empty (levelOf (levelOf (keysOf s))) (Go.bits .xor .i64 (i / 2 / 2) 1)]
theorem msgBits_size (t : ByteArray) : (msgBits t).size = 32 := by
  unfold msgBits
  rw [strOfNums_size]
  rfl
theorem path_spec (s : ByteArray) (i n : Int) (h0 : 0 ≤ i) (h7 : i ≤ 7) (o r : List ByteArray) (k : Nat) (hk : 14 ≤ k) : spec_l03Sign.l1 k i (keysOf s) n o r [] = some (n, o, r, pathOf s i) := by
  obtain ⟨k, rfl⟩ : ∃ m, k = m + 1 + 1 + 1 + 1 := ⟨k - 4, by omega⟩
  have h8 := keysOf_length s
  have h4 := levelOf_length 4 _ h8
  have h2 := levelOf_length 2 _ (h4.trans (by rfl))
  have h1 := levelOf_length 1 _ (h2.trans (by rfl))
  have s8 := keysOf_small s
  have s4 := levelOf_small 4 _ h8
  have s2 := levelOf_small 2 _ (h4.trans (by rfl))
  obtain ⟨a0, a1, -, -⟩ := xor1 i h0 h7
  obtain ⟨b0, -, b1, -⟩ := xor1 (i / 2) (by omega) (by omega)
  obtain ⟨c0, -, -, c1⟩ := xor1 (i / 2 / 2) (by omega) (by omega)
  have b1 := b1 (by omega)
  have c1 := c1 (by omega)
  have d1 : wrap64 (Int.tdiv i 2) = i / 2 := by rw [Int.tdiv_eq_ediv_of_nonneg h0, wrap_id (by omega) (by omega)]
  have d2 : wrap64 (Int.tdiv (i / 2) 2) = i / 2 / 2 := by rw [Int.tdiv_eq_ediv_of_nonneg (by omega), wrap_id (by omega) (by omega)]
  rw [spec_l03Sign.l1, if_pos (by rw [h8]; omega), if_pos a0, if_pos (by rw [h8]; omega), if_pos (by simp), level_spec_tells _ 4 h8 (by omega) s8 _ (by omega), Option.bind_some, d1,
    spec_l03Sign.l1, if_pos (by rw [h4]; omega), if_pos b0, if_pos (by rw [h4]; omega), if_pos (by simp), level_spec_tells _ 2 (h4.trans (by rfl)) (by omega) s4 _ (by omega), Option.bind_some, d2,
    spec_l03Sign.l1, if_pos (by rw [h2]; omega), if_pos c0, if_pos (by rw [h2]; omega), if_pos (by simp), level_spec_tells _ 1 (h2.trans (by rfl)) (by omega) s2 _ (by omega), Option.bind_some,
    spec_l03Sign.l1, if_neg (by rw [h1]; omega)]
  rfl
theorem path_impl (s : ByteArray) (i n : Int) (h0 : 0 ≤ i) (h7 : i ≤ 7) (o r : List ByteArray) (k : Nat) (hk : 14 ≤ k) : impl_signAt.l1 k i (keysOf s) n o r [] = some (n, o, r, pathOf s i) := by
  obtain ⟨k, rfl⟩ : ∃ m, k = m + 1 + 1 + 1 + 1 := ⟨k - 4, by omega⟩
  have h8 := keysOf_length s
  have h4 := levelOf_length 4 _ h8
  have h2 := levelOf_length 2 _ (h4.trans (by rfl))
  have h1 := levelOf_length 1 _ (h2.trans (by rfl))
  have s8 := keysOf_small s
  have s4 := levelOf_small 4 _ h8
  have s2 := levelOf_small 2 _ (h4.trans (by rfl))
  obtain ⟨a0, a1, -, -⟩ := xor1 i h0 h7
  obtain ⟨b0, -, b1, -⟩ := xor1 (i / 2) (by omega) (by omega)
  obtain ⟨c0, -, -, c1⟩ := xor1 (i / 2 / 2) (by omega) (by omega)
  have b1 := b1 (by omega)
  have c1 := c1 (by omega)
  have d1 : wrap64 (Int.tdiv i 2) = i / 2 := by rw [Int.tdiv_eq_ediv_of_nonneg h0, wrap_id (by omega) (by omega)]
  have d2 : wrap64 (Int.tdiv (i / 2) 2) = i / 2 / 2 := by rw [Int.tdiv_eq_ediv_of_nonneg (by omega), wrap_id (by omega) (by omega)]
  rw [impl_signAt.l1, if_pos (by rw [h8]; omega), if_pos a0, if_pos (by rw [h8]; omega), if_pos (by simp), level_impl_tells _ 4 h8 (by omega) s8 _ (by omega), Option.bind_some, d1,
    impl_signAt.l1, if_pos (by rw [h4]; omega), if_pos b0, if_pos (by rw [h4]; omega), if_pos (by simp), level_impl_tells _ 2 (h4.trans (by rfl)) (by omega) s4 _ (by omega), Option.bind_some, d2,
    impl_signAt.l1, if_pos (by rw [h2]; omega), if_pos c0, if_pos (by rw [h2]; omega), if_pos (by simp), level_impl_tells _ 1 (h2.trans (by rfl)) (by omega) s2 _ (by omega), Option.bind_some,
    impl_signAt.l1, if_neg (by rw [h1]; omega)]
  rfl
theorem sign_spec (s : ByteArray) (hs : s.size ≤ 1048576) (i : Int) (h0' : 0 ≤ i) (h7 : i ≤ 7) (b : ByteArray) (hb : b.size = 32) (d : Nat) : ∀ (k : Nat) (j : Int) (o r : List ByteArray), 0 ≤ j → 32 - j = d → o.length ≤ j → r.length ≤ j → d + 200 < k →
    spec_l03Sign.l0 k s i b j i o r [] = some (i, o ++ onesFrom s i b d j, r ++ restFrom s i b d j, pathOf s i) := by
  induction d with
  | zero =>
    intro k j o r h0 hd ho hr hk
    obtain ⟨k, rfl⟩ : ∃ m, k = m + 1 := ⟨k - 1, by omega⟩
    rw [spec_l03Sign.l0, if_neg (by omega), spec_keys_tells s hs k (by omega), Option.bind_some, path_spec s i i h0' h7 o r k (by omega), onesFrom, restFrom, List.append_nil, List.append_nil]
  | succ d ih =>
    intro k j o r h0 hd ho hr hk
    obtain ⟨k, rfl⟩ : ∃ m, k = m + 1 := ⟨k - 1, by omega⟩
    have e : ∀ v, spec_l01Hash.f (bytesOf (secretOf s i j v)) = some (Sha.sha (secretOf s i j v)) := fun v => by unfold spec_l01Hash.f; rw [if_pos (by rw [bytesOf_length, secretOf_size]; omega), Sha.sha_eq]
    rw [spec_l03Sign.l0, if_pos (by omega), if_pos (by omega), if_pos (by omega), spec_l03Secret_tells s hs, Option.bind_some, if_pos (by omega), spec_l03Secret_tells s hs, Option.bind_some, if_pos (by rw [secretOf_size]; omega), e, Option.bind_some, if_pos (by omega), wrap_id (x := j + 1) (by omega) (by omega), ih k (j + 1) _ _ (by omega) (by omega) (by rw [List.length_append]; simp only [List.length_cons, List.length_nil]; omega) (by rw [List.length_append]; simp only [List.length_cons, List.length_nil]; omega) (by omega), onesFrom, restFrom, List.append_assoc, List.append_assoc, List.singleton_append, List.singleton_append]
theorem sign_impl (s : ByteArray) (hs : s.size ≤ 1048576) (i : Int) (h0' : 0 ≤ i) (h7 : i ≤ 7) (b : ByteArray) (hb : b.size = 32) (d : Nat) : ∀ (k : Nat) (j : Int) (o r : List ByteArray), 0 ≤ j → 32 - j = d → o.length ≤ j → r.length ≤ j → d + 200 < k →
    impl_signAt.l0 k s i (bytesOf b) 32 j i o r = some (i, o ++ onesFrom s i b d j, r ++ restFrom s i b d j, pathOf s i) := by
  have hl := bytesOf_length b
  induction d with
  | zero =>
    intro k j o r h0 hd ho hr hk
    obtain ⟨k, rfl⟩ : ∃ m, k = m + 1 := ⟨k - 1, by omega⟩
    rw [impl_signAt.l0, if_neg (by omega), impl_keys_tells s hs k (by omega), Option.bind_some, path_impl s i i h0' h7 o r k (by omega), onesFrom, restFrom, List.append_nil, List.append_nil]
  | succ d ih =>
    intro k j o r h0 hd ho hr hk
    obtain ⟨k, rfl⟩ : ∃ m, k = m + 1 := ⟨k - 1, by omega⟩
    have e : ∀ v, impl_hash.f (secretOf s i j v) = some (Sha.sha (secretOf s i j v)) := fun v => by unfold impl_hash.f; rw [if_pos (by rw [secretOf_size]; omega)]
    rw [impl_signAt.l0, if_pos (by omega), if_pos (by omega), if_pos (by omega), rd_bytesOf, impl_secret_tells s hs i j _ k (by omega), Option.bind_some, if_pos (by omega), impl_secret_tells s hs i j _ k (by omega), Option.bind_some, e, Option.bind_some, if_pos (by omega), wrap_id (x := j + 1) (by omega) (by omega), ih k (j + 1) _ _ (by omega) (by omega) (by rw [List.length_append]; simp only [List.length_cons, List.length_nil]; omega) (by rw [List.length_append]; simp only [List.length_cons, List.length_nil]; omega) (by omega), onesFrom, restFrom, List.append_assoc, List.append_assoc, List.singleton_append, List.singleton_append]
/-- Signing answers alike. -/
theorem sign_both (s : ByteArray) (hs : s.size ≤ 1048576) (i : Int) (h0 : 0 ≤ i) (h7 : i ≤ 7) (t : ByteArray) (ht : t.size ≤ 1048577) : ∃ o r p, (∀ k, 400 ≤ k → spec_l03Sign.f k s i t = some (i, o, r, p)) ∧ (∀ k, 400 ≤ k → impl_signAt.f k s i t = some (i, o, r, p)) ∧ o.length = 32 ∧ r.length = 32 ∧ p.length = 3 := by
  have hz := msgBits_size t
  refine ⟨onesFrom s i (msgBits t) 32 0, restFrom s i (msgBits t) 32 0, pathOf s i, ?_, ?_, onesFrom_length _ _ _ _ _, restFrom_length _ _ _ _ _, rfl⟩
  · intro k hk
    unfold spec_l03Sign.f
    rw [spec_l03Bits_tells t ht k (by omega), Option.bind_some]
    exact sign_spec s hs i h0 h7 _ hz 32 k 0 [] [] (by omega) (by omega) (by simp) (by simp) (by omega)
  · intro k hk
    unfold impl_signAt.f
    rw [impl_messageBits_tells t ht k (by omega), Option.bind_some, if_pos (by omega), Option.bind_some, bytesOf_length, hz]
    exact sign_impl s hs i h0 h7 _ hz 32 k 0 [] [] (by omega) (by omega) (by simp) (by simp) (by omega)

/-! snippet u8r -/
theorem u8_range {xs : List Int} (hw : ∀ x ∈ xs, (Lit.int .u8 x).wf = true) : ∀ x ∈ xs, 0 ≤ x ∧ x < 256 := by
  intro x hx
  have := hw x hx
  simp only [Lit.wf, Bool.and_eq_true, decide_eq_true_eq] at this
  have e1 : IntKind.u8.min = 0 := rfl
  have e2 : IntKind.u8.max = 255 := rfl
  omega

/-! snippet FnChain -/
theorem sameT_l0 (l : List ByteArray) (hl : l.length ≤ 1048576) (d : Nat) : ∀ (k : Nat) (i : Nat), l.length = i + d → d < k → laws_sameTexts.l0 k l l i = some true := by
  induction d with
  | zero =>
    intro k i hd hk
    obtain ⟨k, rfl⟩ : ∃ m, k = m + 1 := ⟨k - 1, by omega⟩
    rw [laws_sameTexts.l0, if_neg (by omega)]
  | succ d ih =>
    intro k i hd hk
    obtain ⟨k, rfl⟩ : ∃ m, k = m + 1 := ⟨k - 1, by omega⟩
    rw [laws_sameTexts.l0, if_pos (by omega), if_pos (by omega), if_pos (by omega), if_pos rfl, wrap_id (x := (i : Int) + 1) (by omega) (by omega)]
    exact ih k (i + 1) (by omega) (by omega)
theorem sameT_tells (l : List ByteArray) (hl : l.length ≤ 100) (k : Nat) (hk : 101 ≤ k) : laws_sameTexts.f k l l = some true := by
  unfold laws_sameTexts.f
  rw [if_pos rfl]
  exact sameT_l0 l (by omega) l.length k 0 (by omega) (by omega)
theorem sameS_tells (n : Int) (o r p : List ByteArray) (h1 : o.length ≤ 100) (h2 : r.length ≤ 100) (h3 : p.length ≤ 100) (k : Nat) (hk : 101 ≤ k) : laws_sameSignature.f k n o r p n o r p = some true := by
  unfold laws_sameSignature.f
  rw [sameT_tells o h1 k hk, sameT_tells r h2 k hk, sameT_tells p h3 k hk]
  simp
theorem at_small (l : List Int) (hl : l.length ≤ 1048576) (hu : ∀ i : Int, 0 ≤ rd l i ∧ rd l i ≤ 255) : ∃ n, laws_at.f l 0 8 = some n ∧ 0 ≤ n ∧ n ≤ 7 := by
  unfold laws_at.f
  rw [if_neg (by omega)]
  by_cases h0 : (l.length : Int) = 0
  · rw [if_pos h0, if_neg (by omega), wrap_id (x := 0 * 7) (by omega) (by omega)]
    exact ⟨0, rfl, by omega, by omega⟩
  rw [if_neg h0]
  have e0 : Int.tmod 0 (l.length : Int) = 0 := Int.zero_tmod _
  have q0 : Int.tdiv 0 (l.length : Int) = 0 := Int.zero_tdiv _
  have w1 : wrap64 (0 + 1) = 1 := wrap_id (by omega) (by omega)
  have m0 : 0 ≤ Int.tmod 1 (l.length : Int) := Int.tmod_nonneg _ (by omega)
  have m1 : Int.tmod 1 (l.length : Int) < (l.length : Int) := Int.tmod_lt_of_pos _ (by omega)
  have a := hu 0
  have b := hu (Int.tmod 1 (l.length : Int))
  rw [e0, q0, w1, if_pos (by omega), if_pos (by omega), if_pos m0, if_pos m1, if_neg (by omega), wrap_id (x := rd l 0) (by omega) (by omega), wrap_id (x := rd l 0 * 31) (by omega) (by omega), wrap_id (x := rd l (Int.tmod 1 (l.length : Int))) (by omega) (by omega), wrap_id (x := rd l 0 * 31 + rd l (Int.tmod 1 (l.length : Int))) (by omega) (by omega), wrap_id (x := 0) (by omega) (by omega), wrap_id (by omega) (by omega), Int.tmod_eq_emod_of_nonneg (by omega)]
  exact ⟨_, rfl, by omega, by omega⟩
theorem next_and_at (s : ByteArray) (hs : s.size = 32) (i : Int) (h0 : 0 ≤ i) (h7 : i ≤ 7) (t : ByteArray) (ht : t.size ≤ 65530) : ∃ o r p, o.length ≤ 100 ∧ r.length ≤ 100 ∧ p.length ≤ 100 ∧ (∀ k, 401 ≤ k → impl_SignNext.f k s i t = some (s, wrap64 (i + 1), i, o, r, p, 0)) ∧ (∀ k, 401 ≤ k → spec_SignAt.f k s i t = some (i, o, r, p, 0)) := by
  obtain ⟨o, r, p, e1, e2, l1, l2, l3⟩ := sign_both s (by omega) i h0 h7 t (by omega)
  refine ⟨o, r, p, by omega, by omega, by omega, fun k hk => ?_, fun k hk => ?_⟩
  · unfold impl_SignNext.f impl_KeyChainOK.f impl_isHash.f
    have hA' : ((s.size : Int) == 32) = true := by rw [hs]; rfl
    rw [if_neg (by omega), Option.bind_some, if_pos hA', within_tells, Option.bind_some, Option.bind_some, if_pos (by rw [Bool.and_eq_true, decide_eq_true_eq, decide_eq_true_eq]; omega), if_neg (by omega), e2 k (by omega), Option.bind_some]
  · unfold spec_SignAt.f
    rw [if_neg (by omega), if_neg (by omega), if_pos (by omega), specIn_tells, Option.bind_some, if_pos (by rw [Bool.and_eq_true, decide_eq_true_eq, decide_eq_true_eq]; omega), e1 k (by omega), Option.bind_some]
theorem chainOK_tells (s : ByteArray) (hs : s.size = 32) (i : Int) (h0 : 0 ≤ i) (h8 : i ≤ 8) : impl_KeyChainOK.f s i = some true := by
  unfold impl_KeyChainOK.f impl_isHash.f
  have hA' : ((s.size : Int) == 32) = true := by rw [hs]; rfl
  rw [Option.bind_some, if_pos hA', within_tells, Option.bind_some]
  congr 1
  rw [Bool.and_eq_true, decide_eq_true_eq, decide_eq_true_eq]
  omega
theorem key_both (s : ByteArray) (hs : s.size = 32) (k : Nat) (hk : 130 ≤ k) : ∃ K, impl_OneTimeKey.f k s 0 = some (K, 0) ∧ spec_OneTimeKey.f k s 0 = some (K, 0) := by
  obtain ⟨K, e1, e2⟩ : ∃ K, spec_l03Key.f k s 0 = some K ∧ impl_oneTimeKey.f k s 0 = some K := ⟨_, spec_key_tells s (by omega) _ k (by omega), impl_key_tells s (by omega) _ k (by omega)⟩
  refine ⟨K, ?_, ?_⟩
  · unfold impl_OneTimeKey.f impl_isHash.f impl_isIndex.f
    rw [areLong_one]
    simp [within_tells, e2, hs]
  · unfold spec_OneTimeKey.f
    simp [specIn_tells, e1, hs]
theorem chain_l0 (s : ByteArray) (hs : s.size = 32) (d : Nat) : ∀ (k : Nat) (i : Int), 0 ≤ i → 8 - i = d → d + 500 < k → laws_FnChain.l0 k s i s i = some true := by
  have ht : (⟨#[116, 101, 120, 116]⟩ : ByteArray).size = 4 := rfl
  induction d with
  | zero =>
    intro k i h0 hd hk
    obtain ⟨k, rfl⟩ : ∃ m, k = m + 1 := ⟨k - 1, by omega⟩
    obtain ⟨K, k1, k2⟩ := key_both s hs k (by omega)
    have e : impl_SignNext.f k s i (⟨#[116, 101, 120, 116]⟩ : ByteArray) = some (s, i, 0, [], [], [], 13) := by
      unfold impl_SignNext.f
      rw [if_neg (by rw [ht]; omega), chainOK_tells s hs i h0 (by omega), Option.bind_some, if_pos rfl, if_pos (by omega)]
    rw [laws_FnChain.l0, if_neg (by omega), e, Option.bind_some, k1, Option.bind_some, k2, Option.bind_some]
    simp
  | succ d ih =>
    intro k i h0 hd hk
    obtain ⟨k, rfl⟩ : ∃ m, k = m + 1 := ⟨k - 1, by omega⟩
    obtain ⟨o, r, p, l1, l2, l3, e1, e2⟩ := next_and_at s hs i h0 (by omega) (⟨#[116, 101, 120, 116]⟩ : ByteArray) (by rw [ht]; omega)
    rw [laws_FnChain.l0, if_pos (by omega), e1 k (by omega), Option.bind_some, e2 k (by omega), Option.bind_some]
    dsimp only
    rw [if_pos rfl, if_pos rfl, sameS_tells i o r p l1 l2 l3 k (by omega), Option.bind_some, if_pos rfl, if_pos rfl, wrap_id (x := i + 1) (by omega) (by omega), chainOK_tells s hs (i + 1) (by omega) (by omega), Option.bind_some, if_pos rfl]
    exact ih k (i + 1) (by omega) (by omega) (by omega)
theorem FnChain (x0 : List Int) (x1 : List Int) (gx0 : (x0.length ≤ 9223372036854775807 ∧ ∀ y ∈ x0, (Lit.int .u8 y).wf = true)) (gx1 : (x1.length ≤ 9223372036854775807 ∧ ∀ y ∈ x1, (Lit.int .u8 y).wf = true)) : ∃ k, laws_FnChain.f k x0 x1 = some true := by
  obtain ⟨k, hk⟩ : ∃ k : Nat, 1000 ≤ k := ⟨1000, Nat.le_refl _⟩
  refine ⟨k + 1, ?_⟩
  unfold laws_FnChain.f
  by_cases h : (x0.length : Int) > 1048576
  · rw [if_pos h, laws_FnChain.j0, if_pos rfl]
  rw [if_neg h, laws_FnChain.j0]
  by_cases h' : (x1.length : Int) > 1048576
  · rw [if_pos (decide_eq_true h')]
  rw [if_neg (by simpa using h')]
  obtain ⟨s, es, hs⟩ : ∃ s, spec_SeedOf.f x0 = some s ∧ s.size = 32 := by
    refine ⟨Src.seedF x0, ?_, Sha.sha_size (strOfNums [(Src.byteF x0 0 ((x0.length : Int) % 1000)).1 % 250])⟩
    unfold spec_SeedOf.f
    rw [if_pos ⟨by omega, fun x hx => by have := u8_range gx0.2 x hx; omega⟩]
  obtain ⟨n, en, n0, n7⟩ := at_small x1 (by omega) (u8_of_wf gx1.2)
  rw [es, Option.bind_some, en, Option.bind_some]
  exact chain_l0 s hs (8 - n).toNat k n n0 (by omega) (by omega)

end Go.Proofs.YtmkaknegjahjaaaDoor.Pure
