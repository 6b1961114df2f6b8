/- The statement FnLamport: what the given program's printed functions answer, as the law asks; no condition. -/
import Derived.Test.YtmkaknegjahjaaaDoorPFnLamportx12
import Derived.Test.YtmkaknegjahjaaaDoorShaE
import Derived.Test.YtmkaknegjahjaaaDoorSeed
import Derived.Test.YtmkaknegjahjaaaDoorMsg
set_option linter.unusedVariables false
set_option linter.unusedSimpArgs false
namespace Go.Proofs.YtmkaknegjahjaaaDoor.Pure
open Go.RowKit Go.Proofs.YtmkaknegjahjaaaDoor.PFnLamport Go.Proofs.YtmkaknegjahjaaaDoorV.PrintWords Go.Proofs.YtmkaknegjahjaaaDoorV.PrintLast Go.Proofs.YtmkaknegjahjaaaDoorV.PrintMore
/-! snippet base -/
theorem wrap_id {x : Int} (h1 : -9223372036854775808 ≤ x) (h2 : x ≤ 9223372036854775807) : wrap64 x = x:=by
  unfold wrap64
  omega
theorem nat_pos_succ {k d : Nat} (h : d < k) : ∃ m,k = m + 1:=⟨k - 1,by omega⟩
theorem u8_of_wf {l : List Int} (h : ∀ x ∈ l,(Lit.int .u8 x).wf = true) (i : Int) : 0 ≤ rd l i ∧ rd l i ≤ 255:=by
  unfold rd
  rw [List.getD_eq_getElem?_getD]
  by_cases hi : i.toNat < l.length
  · rw [List.getElem?_eq_getElem hi,Option.getD_some]
    have:=h _ (List.getElem_mem hi)
    simp only [Lit.wf,Bool.and_eq_true,decide_eq_true_eq] at this
    have e1 : IntKind.u8.min = 0:=rfl
    have e2 : IntKind.u8.max = 255:=rfl
    omega
  · rw [List.getElem?_eq_none (by omega)]
    simp
theorem i64_of_wf {x : Int} (h : (Lit.int .i64 x).wf = true) : -9223372036854775808 ≤ x ∧ x ≤ 9223372036854775807:=by
  simp only [Lit.wf,Bool.and_eq_true,decide_eq_true_eq] at h
  have e1 : IntKind.i64.min = -9223372036854775808:=rfl
  have e2 : IntKind.i64.max = 9223372036854775807:=rfl
  omega
theorem toList_len (s : ByteArray) : s.toList.length = s.size:=by
  rw [ByteArray.toList_eq]
  exact data_length s
theorem toList_inj {a b : ByteArray} (h : a.toList = b.toList) : a = b:=by
  rw [ByteArray.toList_eq,ByteArray.toList_eq] at h
  exact Go.WideShapes.bytes_inj h

/-! snippet hexD1 -/
theorem areLong_one (s : ByteArray) : impl_areLong.f [s] = some (decide ((65536 : Int) < s.size)):=by
  unfold impl_areLong.f
  simp

/-! snippet number -/
theorem number_l0 (d : Nat) : ∀ (k : Nat) (x : Int) (l : List Int),d ≤ l.length → l.length ≤ 65536 → d < k → impl_number.l0 k x l ((d : Int) - 1) = some (strOfNums (Sha.num x d l)):=by
  induction d with
  | zero =>
    intro k x l _ _ hk
    obtain ⟨k,rfl⟩:=nat_pos_succ hk
    rw [impl_number.l0,if_neg (by omega)]
    rfl
  | succ d ih =>
    intro k x l hd hl hk
    obtain ⟨k,rfl⟩:=nat_pos_succ hk
    rw [impl_number.l0,if_pos (by omega),if_pos (by omega),if_pos (by omega)]
    have h1 : wrap64 (((d + 1 : Nat) : Int) - 1 - 1) = (d : Int) - 1:=by rw [wrap_id (by omega) (by omega)];omega
    have h2 : (((d + 1 : Nat) : Int) - 1).toNat = d:=by omega
    rw [h1,h2,ih _ _ _ (by rw [List.length_set];omega) (by rw [List.length_set];exact hl) (by omega)]
    rfl
theorem number_tells (n : Nat) (x : Int) (h0 : n ≤ 65536) (k : Nat) (hk : n < k) : impl_number.f k x n = some (strOfNums (Sha.num x n (List.replicate n 0))):=by
  rw [impl_number.f,if_pos (by omega),if_pos (by omega),wrap_id (by omega) (by omega),Int.toNat_natCast]
  exact number_l0 n k x _ (by simp) (by simp;omega) hk
theorem number1 (x : Int) (k : Nat) (hk : 1 < k) : impl_number.f k x 1 = some (strOfNums [x % 256]):=number_tells 1 x (by omega) k hk
theorem number2 (x : Int) (k : Nat) (hk : 2 < k) : impl_number.f k x 2 = some (strOfNums [x / 256 % 256,x % 256]):=number_tells 2 x (by omega) k hk
theorem number4 (x : Int) (k : Nat) (hk : 4 < k) : impl_number.f k x 4 = some (strOfNums [x / 16777216 % 256,x / 65536 % 256,x / 256 % 256,x % 256]):=by
  rw [← Sha.num4]
  exact number_tells 4 x (by omega) k hk
theorem ba_assoc (a b c : ByteArray) : a ++ b ++ c = a ++ (b ++ c):=by
  apply Sha.ba_ext
  simp
theorem nums_size1 (x : Int) : (strOfNums [x]).size = 1:=rfl

/-! snippet secret -/
def secText (s : ByteArray) (i b v : Int) : ByteArray:=(⟨#[115,101,99,114,101,116]⟩ : ByteArray) ++ s ++ strOfNums [i % 256,b % 256,v % 256]
def secretOf (s : ByteArray) (i b v : Int) : ByteArray:=Sha.sha (secText s i b v)
theorem sec_size (s : ByteArray) : ((⟨#[115,101,99,114,101,116]⟩ : ByteArray) ++ s).size = 6 + s.size:=by rw [ByteArray.size_append];rfl
theorem secretOf_size (s : ByteArray) (i b v : Int) : (secretOf s i b v).size = 32:=Sha.sha_size _
theorem spec_l03Secret_tells (s : ByteArray) (hs : s.size ≤ 1048576) (i b v : Int) : spec_l03Secret.f s i b v = some (secretOf s i b v):=by
  unfold spec_l03Secret.f spec_l01Hash.f
  have h3 : (strOfNums [i % 256,b % 256,v % 256]).size = 3:=rfl
  rw [if_pos (by omega),Option.bind_some,if_pos (by rw [sec_size,h3];omega),if_pos (by rw [ByteArray.size_append,sec_size,h3];omega),if_pos (by rw [bytesOf_length,ByteArray.size_append,sec_size,h3];omega),Sha.sha_eq,Option.bind_some]
  rfl
theorem impl_secret_tells (s : ByteArray) (hs : s.size ≤ 1048576) (i b v : Int) (k : Nat) (hk : 1 < k) : impl_secret.f k s i b v = some (secretOf s i b v):=by
  unfold impl_secret.f impl_hash.f
  have h1:=nums_size1 (i % 256)
  have h2:=nums_size1 (b % 256)
  have h3:=nums_size1 (v % 256)
  have z1:=sec_size s
  have z2 : ((⟨#[115,101,99,114,101,116]⟩ : ByteArray) ++ s ++ strOfNums [i % 256]).size = 7 + s.size:=by rw [ByteArray.size_append,z1,h1];omega
  have z3 : ((⟨#[115,101,99,114,101,116]⟩ : ByteArray) ++ s ++ strOfNums [i % 256] ++ strOfNums [b % 256]).size = 8 + s.size:=by rw [ByteArray.size_append,z2,h2];omega
  have z4 : ((⟨#[115,101,99,114,101,116]⟩ : ByteArray) ++ s ++ strOfNums [i % 256] ++ strOfNums [b % 256] ++ strOfNums [v % 256]).size = 9 + s.size:=by rw [ByteArray.size_append,z3,h3];omega
  have e : (⟨#[115,101,99,114,101,116]⟩ : ByteArray) ++ s ++ strOfNums [i % 256] ++ strOfNums [b % 256] ++ strOfNums [v % 256] = secText s i b v:=by
    unfold secText
    rw [ba_assoc _ (strOfNums [i % 256]),ba_assoc _ (strOfNums [i % 256] ++ strOfNums [b % 256]),← Sha.nums_app,← Sha.nums_app]
    rfl
  rw [if_pos (by omega),number1 i k hk,Option.bind_some,if_pos (by omega),number1 b k hk,Option.bind_some,if_pos (by omega),number1 v k hk,Option.bind_some,if_pos (by omega),if_pos (by omega),e,Option.bind_some]
  rfl

/-! snippet key -/
def keyText (s : ByteArray) (i : Int) : Nat → Int → ByteArray → ByteArray
  | 0,_,t => t
  | d + 1,b,t => keyText s i d (b + 1) (t ++ (Sha.sha (secretOf s i b 0) ++ Sha.sha (secretOf s i b 1)))
def keyOf (s : ByteArray) (i : Int) : ByteArray:=Sha.sha (keyText s i 32 0 (⟨#[107,101,121]⟩ : ByteArray))
theorem two_size (a b : ByteArray) : (Sha.sha a ++ Sha.sha b).size = 64:=by rw [ByteArray.size_append,Sha.sha_size,Sha.sha_size]
theorem key_impl (s : ByteArray) (hs : s.size ≤ 1048576) (i : Int) (d : Nat) : ∀ (k : Nat) (t : ByteArray) (b : Int),0 ≤ b → 32 - b = d → (t.size : Int) = 3 + 64 * b → d + 2 < k → impl_oneTimeKey.l0 k s i t b = some (Sha.sha (keyText s i d b t)):=by
  induction d with
  | zero =>
    intro k t b h0 hd ht hk
    obtain ⟨k,rfl⟩ : ∃ m,k = m + 1:=⟨k - 1,by omega⟩
    unfold impl_oneTimeKey.l0 impl_hash.f
    rw [if_neg (by omega),if_pos (by omega)]
    rfl
  | succ d ih =>
    intro k t b h0 hd ht hk
    obtain ⟨k,rfl⟩ : ∃ m,k = m + 1:=⟨k - 1,by omega⟩
    have hz:=two_size (secretOf s i b 0) (secretOf s i b 1)
    have e : ∀ v,impl_hash.f (secretOf s i b v) = some (Sha.sha (secretOf s i b v)):=fun v => by unfold impl_hash.f;rw [if_pos (by rw [secretOf_size];omega)]
    rw [impl_oneTimeKey.l0,if_pos (by omega),impl_secret_tells s hs i b 0 k (by omega),Option.bind_some,e,Option.bind_some,impl_secret_tells s hs i b 1 k (by omega),Option.bind_some,e,Option.bind_some,if_pos (by rw [Sha.sha_size,Sha.sha_size];omega),if_pos (by rw [hz];omega),wrap_id (by omega) (by omega),ih k _ (b + 1) (by omega) (by omega) (by rw [ByteArray.size_append,hz];omega) (by omega),keyText]
theorem impl_key_tells (s : ByteArray) (hs : s.size ≤ 1048576) (i : Int) (k : Nat) (hk : 35 ≤ k) : impl_oneTimeKey.f k s i = some (keyOf s i) :=
  key_impl s hs i 32 k _ 0 (by omega) (by omega) rfl (by omega)
theorem key_spec (s : ByteArray) (hs : s.size ≤ 1048576) (i : Int) (d : Nat) : ∀ (k : Nat) (t : ByteArray) (b : Int),0 ≤ b → 32 - b = d → (t.size : Int) = 3 + 64 * b → 4 * d < k → spec_l03Key.l0 k s i (bytesOf t) b = some (Sha.sha (keyText s i d b t)):=by
  induction d with
  | zero =>
    intro k t b h0 hd ht hk
    obtain ⟨k,rfl⟩ : ∃ m,k = m + 1:=⟨k - 1,by omega⟩
    unfold spec_l03Key.l0 spec_l01Hash.f
    rw [if_neg (by omega),if_pos (by rw [bytesOf_length];omega),Sha.sha_eq]
    rfl
  | succ d ih =>
    intro k t b h0 hd ht hk
    obtain ⟨k,rfl⟩ : ∃ m,k = m + 1 + 1 + 1 + 1:=⟨k - 4,by omega⟩
    have hz:=two_size (secretOf s i b 0) (secretOf s i b 1)
    have e : ∀ v,spec_l01Hash.f (bytesOf (secretOf s i b v)) = some (Sha.sha (secretOf s i b v)):=fun v => by unfold spec_l01Hash.f;rw [if_pos (by rw [bytesOf_length,secretOf_size];omega),Sha.sha_eq]
    rw [spec_l03Key.l0,if_pos (by omega),spec_l03Key.l1,if_pos (by omega),spec_l03Secret_tells s hs,Option.bind_some,if_pos (by rw [secretOf_size];omega),e,Option.bind_some,if_pos (by rw [bytesOf_length,Sha.sha_size];omega),wrap_id (x:=0 + 1) (by omega) (by omega),
      show (0 : Int) + 1 = 1 from rfl,spec_l03Key.l1,if_pos (by omega),spec_l03Secret_tells s hs,Option.bind_some,if_pos (by rw [secretOf_size];omega),e,Option.bind_some,if_pos (by rw [List.length_append,bytesOf_length,bytesOf_length,Sha.sha_size,Sha.sha_size];omega),wrap_id (x:=1 + 1) (by omega) (by omega),
      spec_l03Key.l1,if_neg (by omega),wrap_id (by omega) (by omega),List.append_assoc,← Sha.bytes_app,← Sha.bytes_app,ih k _ (b + 1) (by omega) (by omega) (by rw [ByteArray.size_append,hz];omega) (by omega),keyText]
theorem spec_key_tells (s : ByteArray) (hs : s.size ≤ 1048576) (i : Int) (k : Nat) (hk : 129 ≤ k) : spec_l03Key.f k s i = some (keyOf s i):=by
  unfold spec_l03Key.f
  exact key_spec s hs i 32 k (⟨#[107,101,121]⟩ : ByteArray) 0 (by omega) (by omega) rfl (by omega)
theorem keyOf_size (s : ByteArray) (i : Int) : (keyOf s i).size = 32:=Sha.sha_size _

/-! snippet node -/
def nodeOf (a b : ByteArray) : ByteArray:=Sha.sha ((⟨#[110,111,100,101]⟩ : ByteArray) ++ a ++ b)
theorem node_size (a : ByteArray) : ((⟨#[110,111,100,101]⟩ : ByteArray) ++ a).size = 4 + a.size:=by rw [ByteArray.size_append];rfl
theorem nodeOf_size (a b : ByteArray) : (nodeOf a b).size = 32:=Sha.sha_size _
theorem spec_l03Node_tells (a b : ByteArray) (ha : a.size ≤ 1048576) (hb : b.size ≤ 1048576) : spec_l03Node.f a b = some (nodeOf a b):=by
  unfold spec_l03Node.f spec_l01Hash.f
  have h1:=node_size a
  rw [if_pos (by omega),if_pos (by rw [h1];omega),if_pos (by rw [ByteArray.size_append,h1];omega),if_pos (by rw [bytesOf_length,ByteArray.size_append,h1];omega),Option.bind_some,Sha.sha_eq]
  rfl
theorem impl_node_tells (a b : ByteArray) (ha : a.size ≤ 1048576) (hb : b.size ≤ 1048576) : impl_node.f a b = some (nodeOf a b):=by
  unfold impl_node.f impl_hash.f
  have h1:=node_size a
  rw [if_pos (by omega),if_pos (by rw [h1];omega),if_pos (by rw [ByteArray.size_append,h1];omega),Option.bind_some]
  rfl

/-! snippet rdat -/
theorem rdOf_at (l : List ByteArray) (i : Nat) (hi : i < l.length) : rdOf ByteArray.empty l (i : Int) = l[i]:=by
  unfold rdOf
  simp [List.getD_eq_getElem?_getD,hi]

/-! snippet root -/
def levelOf : List ByteArray → List ByteArray
  | a :: b :: l => nodeOf a b :: levelOf l
  | _ => []
theorem levelOf_nil : levelOf [] = []:=rfl
def Small (l : List ByteArray) : Prop:=∀ x ∈ l,x.size ≤ 1048576
theorem Small.at_ {l : List ByteArray} (h : Small l) (i : Nat) (hi : i < l.length) : (l[i]).size ≤ 1048576:=h _ (List.getElem_mem hi)
theorem level_spec (l : List ByteArray) (hl : l.length ≤ 1000) (hs : Small l) (d : Nat) : ∀ (k : Nat) (acc : List ByteArray) (i : Nat),l.length = i + 2 * d → acc.length ≤ i → d < k → spec_l03Level.l0 k l acc i = some (acc ++ levelOf (l.drop i)):=by
  induction d with
  | zero =>
    intro k acc i hd ha hk
    obtain ⟨k,rfl⟩:=nat_pos_succ hk
    rw [spec_l03Level.l0,if_neg (by omega),List.drop_eq_nil_of_le (by omega),levelOf_nil,List.append_nil]
  | succ d ih =>
    intro k acc i hd ha hk
    obtain ⟨k,rfl⟩:=nat_pos_succ hk
    have h1 : i < l.length:=by omega
    have h2 : i + 1 < l.length:=by omega
    rw [spec_l03Level.l0,if_pos (by omega),if_pos (by omega),wrap_id (x:=(i : Int) + 1) (by omega) (by omega),if_pos (by omega),if_pos (by omega),rdOf_at l i h1,show (i : Int) + 1 = ((i + 1 : Nat) : Int) by omega,rdOf_at l (i + 1) h2,spec_l03Node_tells _ _ (hs.at_ i h1) (hs.at_ _ h2),Option.bind_some,if_pos (by omega),wrap_id (x:=(i : Int) + 2) (by omega) (by omega),show (i : Int) + 2 = ((i + 2 : Nat) : Int) by omega,ih k _ (i + 2) (by omega) (by rw [List.length_append];simp only [List.length_cons,List.length_nil];omega) (by omega),List.drop_eq_getElem_cons h1,List.drop_eq_getElem_cons h2,levelOf,List.append_assoc]
    rfl
theorem level_impl (l : List ByteArray) (hl : l.length ≤ 1000) (hs : Small l) (d : Nat) : ∀ (k : Nat) (acc : List ByteArray) (i : Nat),l.length = i + 2 * d → acc.length ≤ i → d < k → impl_above.l0 k l acc i = some (acc ++ levelOf (l.drop i)):=by
  induction d with
  | zero =>
    intro k acc i hd ha hk
    obtain ⟨k,rfl⟩:=nat_pos_succ hk
    rw [impl_above.l0,if_neg (by omega),List.drop_eq_nil_of_le (by omega),levelOf_nil,List.append_nil]
  | succ d ih =>
    intro k acc i hd ha hk
    obtain ⟨k,rfl⟩:=nat_pos_succ hk
    have h1 : i < l.length:=by omega
    have h2 : i + 1 < l.length:=by omega
    rw [impl_above.l0,if_pos (by omega),if_pos (by omega),wrap_id (x:=(i : Int) + 1) (by omega) (by omega),if_pos (by omega),if_pos (by omega),rdOf_at l i h1,show (i : Int) + 1 = ((i + 1 : Nat) : Int) by omega,rdOf_at l (i + 1) h2,impl_node_tells _ _ (hs.at_ i h1) (hs.at_ _ h2),Option.bind_some,if_pos (by omega),wrap_id (x:=(i : Int) + 2) (by omega) (by omega),show (i : Int) + 2 = ((i + 2 : Nat) : Int) by omega,ih k _ (i + 2) (by omega) (by rw [List.length_append];simp only [List.length_cons,List.length_nil];omega) (by omega),List.drop_eq_getElem_cons h1,List.drop_eq_getElem_cons h2,levelOf,List.append_assoc]
    rfl
theorem level_spec_tells (l : List ByteArray) (n : Nat) (hn : l.length = 2 * n) (hl : n ≤ 500) (hs : Small l) (k : Nat) (hk : n < k) : spec_l03Level.f k l = some (levelOf l):=by
  unfold spec_l03Level.f
  exact level_spec l (by omega) hs n k [] 0 (by omega) (by simp) hk
theorem level_impl_tells (l : List ByteArray) (n : Nat) (hn : l.length = 2 * n) (hl : n ≤ 500) (hs : Small l) (k : Nat) (hk : n < k) : impl_above.f k l = some (levelOf l):=by
  unfold impl_above.f
  exact level_impl l (by omega) hs n k [] 0 (by omega) (by simp) hk
theorem levelOf_length (n : Nat) : ∀ l : List ByteArray,l.length = 2 * n → (levelOf l).length = n:=by
  induction n with
  | zero =>
    intro l h
    obtain rfl : l = []:=List.eq_nil_of_length_eq_zero (by omega)
    rfl
  | succ n ih =>
    intro l h
    match l,h with
    | a :: b :: l,h =>
      rw [levelOf,List.length_cons,ih l (by simp only [List.length_cons] at h;omega)]
theorem levelOf_small (n : Nat) : ∀ l : List ByteArray,l.length = 2 * n → Small (levelOf l):=by
  induction n with
  | zero =>
    intro l h
    obtain rfl : l = []:=List.eq_nil_of_length_eq_zero (by omega)
    intro x hx
    cases hx
  | succ n ih =>
    intro l h
    match l,h with
    | a :: b :: l,h =>
      intro x hx
      rw [levelOf] at hx
      rcases List.mem_cons.1 hx with rfl|hx
      · rw [nodeOf_size];omega
      · exact ih l (by simp only [List.length_cons] at h;omega) x hx
def keysFrom (s : ByteArray) : Nat → Int → List ByteArray
  | 0,_ => []
  | d + 1,i => keyOf s i :: keysFrom s d (i + 1)
theorem keysFrom_length (s : ByteArray) (d : Nat) : ∀ i : Int,(keysFrom s d i).length = d:=by
  induction d with
  | zero => intro i;rfl
  | succ d ih => intro i;rw [keysFrom,List.length_cons,ih]
theorem keysFrom_small (s : ByteArray) (d : Nat) : ∀ i : Int,Small (keysFrom s d i):=by
  induction d with
  | zero => intro i x hx;cases hx
  | succ d ih =>
    intro i x hx
    rw [keysFrom] at hx
    rcases List.mem_cons.1 hx with rfl|hx
    · rw [keyOf_size];omega
    · exact ih (i + 1) x hx
theorem keys_spec (s : ByteArray) (hs : s.size ≤ 1048576) (d : Nat) : ∀ (k : Nat) (acc : List ByteArray) (i : Int),0 ≤ i → 8 - i = d → acc.length ≤ i → 130 + d ≤ k → spec_l03Keys.l0 k s acc i = some (acc ++ keysFrom s d i):=by
  induction d with
  | zero =>
    intro k acc i h0 hd ha hk
    obtain ⟨k,rfl⟩ : ∃ m,k = m + 1:=⟨k - 1,by omega⟩
    rw [spec_l03Keys.l0,if_neg (by omega),keysFrom,List.append_nil]
  | succ d ih =>
    intro k acc i h0 hd ha hk
    obtain ⟨k,rfl⟩ : ∃ m,k = m + 1:=⟨k - 1,by omega⟩
    rw [spec_l03Keys.l0,if_pos (by omega),spec_key_tells s hs i k (by omega),Option.bind_some,if_pos (by omega),wrap_id (by omega) (by omega),ih k _ (i + 1) (by omega) (by omega) (by rw [List.length_append];simp only [List.length_cons,List.length_nil];omega) (by omega),keysFrom,List.append_assoc]
    rfl
theorem keys_impl (s : ByteArray) (hs : s.size ≤ 1048576) (d : Nat) : ∀ (k : Nat) (acc : List ByteArray) (i : Int),0 ≤ i → 8 - i = d → acc.length ≤ i → 130 + d ≤ k → impl_keys.l0 k s acc i = some (acc ++ keysFrom s d i):=by
  induction d with
  | zero =>
    intro k acc i h0 hd ha hk
    obtain ⟨k,rfl⟩ : ∃ m,k = m + 1:=⟨k - 1,by omega⟩
    rw [impl_keys.l0,if_neg (by omega),keysFrom,List.append_nil]
  | succ d ih =>
    intro k acc i h0 hd ha hk
    obtain ⟨k,rfl⟩ : ∃ m,k = m + 1:=⟨k - 1,by omega⟩
    rw [impl_keys.l0,if_pos (by omega),impl_key_tells s hs i k (by omega),Option.bind_some,if_pos (by omega),wrap_id (by omega) (by omega),ih k _ (i + 1) (by omega) (by omega) (by rw [List.length_append];simp only [List.length_cons,List.length_nil];omega) (by omega),keysFrom,List.append_assoc]
    rfl
def keysOf (s : ByteArray) : List ByteArray:=keysFrom s 8 0
theorem keysOf_length (s : ByteArray) : (keysOf s).length = 2 * 4:=keysFrom_length s 8 0
theorem keysOf_small (s : ByteArray) : Small (keysOf s):=keysFrom_small s 8 0
theorem spec_keys_tells (s : ByteArray) (hs : s.size ≤ 1048576) (k : Nat) (hk : 138 ≤ k) : spec_l03Keys.f k s = some (keysOf s):=by
  unfold spec_l03Keys.f
  exact keys_spec s hs 8 k [] 0 (by omega) (by omega) (by simp) (by omega)
theorem impl_keys_tells (s : ByteArray) (hs : s.size ≤ 1048576) (k : Nat) (hk : 138 ≤ k) : impl_keys.f k s = some (keysOf s):=by
  unfold impl_keys.f
  exact keys_impl s hs 8 k [] 0 (by omega) (by omega) (by simp) (by omega)

/-! snippet u64 -/
theorem u64_small (x : Int) (h0 : 0 ≤ x) (h1 : x ≤ 100) : IntKind.u64.wrap x = x:=by
  simp only [IntKind.wrap,IntKind.bits,IntKind.signed]
  simp
  omega

/-! snippet bitsI -/
def bitAt (s : ByteArray) (i j : Int) : Int:=(48 + (Go.bits .and .u8 (shr .u8 (bt s i) j) 1)) % 256
/-- The bits d - 1 to 0 of a byte. -/
def byteBits (s : ByteArray) (i : Int) : Nat → List Int
  | 0 => []
  | d + 1 => bitAt s i d :: byteBits s i d
theorem byteBits_length (s : ByteArray) (i : Int) (d : Nat) : (byteBits s i d).length = d:=by
  induction d with
  | zero => rfl
  | succ d ih => rw [byteBits,List.length_cons,ih]
/-- The bits of d bytes from place i on. -/
def bitsFrom (s : ByteArray) : Nat → Int → List Int
  | 0,_ => []
  | d + 1,i => byteBits s i 8 ++ bitsFrom s d (i + 1)
theorem bits_impl1 (s : ByteArray) (n i : Int) (h0 : 0 ≤ i) (h1 : i < s.size) (d : Nat) : ∀ (k : Nat) (xs : List Int),d ≤ 8 → xs.length ≤ 1000000 - d → impl_hashBits.l1 (k + d + 1) s xs i ((d : Int) - 1) n i = impl_hashBits.l0 k s (xs ++ byteBits s i d) n (wrap64 (i + 1)):=by
  induction d with
  | zero =>
    intro k xs hd hx
    rw [impl_hashBits.l1,if_neg (by omega),byteBits,List.append_nil]
  | succ d ih =>
    intro k xs hd hx
    rw [show k + (d + 1) + 1 = (k + d + 1) + 1 by omega,impl_hashBits.l1,if_pos (by omega),if_pos h0,if_pos h1,show ((d + 1 : Nat) : Int) - 1 = d by omega,if_pos (by omega),if_pos (by omega),wrap_id (by omega) (by omega),ih k _ (by omega) (by simp only [List.length_append,List.length_cons,List.length_nil];omega),byteBits,List.append_assoc]
    rfl
theorem bits_impl (s : ByteArray) (hs : s.size ≤ 65536) (d : Nat) : ∀ (k : Nat) (xs : List Int) (i : Int),0 ≤ i → (s.size : Int) - i = d → xs.length ≤ 8 * i → 10 * d < k → impl_hashBits.l0 k s xs s.size i = some (strOfNums (xs ++ bitsFrom s d i)):=by
  induction d with
  | zero =>
    intro k xs i h0 hd hx hk
    obtain ⟨k,rfl⟩:=nat_pos_succ hk
    rw [impl_hashBits.l0,if_neg (by omega),bitsFrom,List.append_nil]
  | succ d ih =>
    intro k xs i h0 hd hx hk
    obtain ⟨k,rfl⟩ : ∃ m,k = (m + 8 + 1) + 1:=⟨k - 10,by omega⟩
    rw [impl_hashBits.l0,if_pos (by omega)]
    have:=bits_impl1 s s.size i h0 (by omega) 8 k xs (by omega) (by omega)
    rw [show ((8 : Nat) : Int) - 1 = 7 from rfl] at this
    rw [this,wrap_id (by omega) (by omega),ih k _ (i + 1) (by omega) (by omega) (by rw [List.length_append,byteBits_length];omega) (by omega),bitsFrom,List.append_assoc]
theorem impl_hashBits_tells (s : ByteArray) (hs : s.size ≤ 65536) (k : Nat) (hk : 10 * s.size + 1 ≤ k) : impl_hashBits.f k s = some (strOfNums (bitsFrom s s.size 0)):=by
  unfold impl_hashBits.f
  rw [wrap_id (by omega) (by omega),if_pos (by omega),if_pos (by omega),bits_impl s hs s.size k [] 0 (by omega) (by omega) (by simp) (by omega)]
  rfl

/-! snippet bits03 -/
def bits32 (s : ByteArray) : Nat → Int → List Int
  | 0,_ => []
  | d + 1,i => bitAt s (i / 8) (7 - i % 8) :: bits32 s d (i + 1)
theorem bits32_eq (s : ByteArray) : (bitsFrom s 32 0).take 32 = bits32 s 32 0:=by rfl
theorem bits03_l0 (s : ByteArray) (hs : s.size = 32) (d : Nat) : ∀ (k : Nat) (xs : List Int) (i : Int),0 ≤ i → 32 - i = d → xs.length ≤ i → d < k → spec_l03Bits.l0 k s xs i = some (strOfNums (xs ++ bits32 s d i)):=by
  induction d with
  | zero =>
    intro k xs i h0 hd hx hk
    obtain ⟨k,rfl⟩:=nat_pos_succ hk
    rw [spec_l03Bits.l0,if_neg (by omega),bits32,List.append_nil]
  | succ d ih =>
    intro k xs i h0 hd hx hk
    obtain ⟨k,rfl⟩:=nat_pos_succ hk
    rw [spec_l03Bits.l0,if_pos (by omega),Int.tdiv_eq_ediv_of_nonneg h0,Int.tmod_eq_emod_of_nonneg h0,wrap_id (x:=i / 8) (by omega) (by omega),wrap_id (x:=7 - i % 8) (by omega) (by omega),u64_small _ (by omega) (by omega),if_pos (by omega),if_pos (by omega),if_pos (by omega),if_pos (by omega),wrap_id (by omega) (by omega),ih k _ (i + 1) (by omega) (by omega) (by rw [List.length_append];simp only [List.length_cons,List.length_nil];omega) (by omega),bits32,List.append_assoc]
    rfl
theorem nums_take (l : List Int) (n : Nat) (h : n ≤ l.length) : (strOfNums l).extract 0 n = strOfNums (l.take n):=by
  apply Sha.ba_ext
  simp [strOfNums,List.map_take]
theorem bitsFrom_length (s : ByteArray) (d : Nat) : ∀ i : Int,(bitsFrom s d i).length = 8 * d:=by
  induction d with
  | zero => intro i;rfl
  | succ d ih => intro i;rw [bitsFrom,List.length_append,byteBits_length,ih];omega
/-- What the bits of a text are. -/
def msgBits (t : ByteArray) : ByteArray:=strOfNums (bits32 (Sha.sha ((⟨#[100,105,103,101,115,116]⟩ : ByteArray) ++ t)) 32 0)
theorem dig_size (t : ByteArray) : ((⟨#[100,105,103,101,115,116]⟩ : ByteArray) ++ t).size = 6 + t.size:=by rw [ByteArray.size_append];rfl
theorem spec_l03Bits_tells (t : ByteArray) (ht : t.size ≤ 1048577) (k : Nat) (hk : 33 ≤ k) : spec_l03Bits.f k t = some (msgBits t):=by
  unfold spec_l03Bits.f spec_l01Hash.f
  rw [if_pos (by omega),if_pos (by rw [dig_size];omega),if_pos (by rw [bytesOf_length,dig_size];omega),Option.bind_some,Sha.sha_eq,bits03_l0 _ (Sha.sha_size _) 32 k [] 0 (by omega) (by omega) (by simp) (by omega)]
  rfl
theorem impl_messageBits_tells (t : ByteArray) (ht : t.size ≤ 1048577) (k : Nat) (hk : 321 ≤ k) : impl_messageBits.f k t = some (msgBits t):=by
  unfold impl_messageBits.f impl_hash.f
  have hz:=Sha.sha_size ((⟨#[100,105,103,101,115,116]⟩ : ByteArray) ++ t)
  rw [if_pos (by omega),if_pos (by rw [dig_size];omega),Option.bind_some,impl_hashBits_tells _ (by omega) k (by omega),Option.bind_some,if_pos (by decide),if_pos (by rw [strOfNums_size,bitsFrom_length];omega),nums_take _ _ (by rw [bitsFrom_length];omega),hz,bits32_eq]
  rfl

/-! snippet specIn -/
theorem specIn_tells (n low high : Int) : spec_l01In.f n low high = some (decide (low ≤ n) && decide (n ≤ high)):=by
  unfold spec_l01In.f
  by_cases h : n ≥ low
  · rw [if_pos h,decide_eq_true h];rfl
  · rw [if_neg h,decide_eq_false h];rfl

/-! snippet within -/
theorem within_tells (n low high : Int) : impl_within.f n low high = some (decide (low ≤ n) && decide (n ≤ high)):=by
  unfold impl_within.f
  by_cases h : n ≥ low
  · rw [if_pos h,decide_eq_true h];rfl
  · rw [if_neg h,decide_eq_false h];rfl

/-! snippet mbsize -/
theorem msgBits_size (t : ByteArray) : (msgBits t).size = 32:=by
  unfold msgBits
  rw [strOfNums_size]
  rfl

/-! snippet sign -/
def onesFrom (s : ByteArray) (i : Int) (b : ByteArray) : Nat → Int → List ByteArray
  | 0,_ => []
  | d + 1,j => secretOf s i j ((bt b j - 48) % 256) :: onesFrom s i b d (j + 1)
def restFrom (s : ByteArray) (i : Int) (b : ByteArray) : Nat → Int → List ByteArray
  | 0,_ => []
  | d + 1,j => Sha.sha (secretOf s i j (wrap64 (1 - (bt b j - 48) % 256))) :: restFrom s i b d (j + 1)
theorem onesFrom_length (s : ByteArray) (i : Int) (b : ByteArray) (d : Nat) : ∀ j : Int,(onesFrom s i b d j).length = d:=by
  induction d with
  | zero => intro j;rfl
  | succ d ih => intro j;rw [onesFrom,List.length_cons,ih]
theorem restFrom_length (s : ByteArray) (i : Int) (b : ByteArray) (d : Nat) : ∀ j : Int,(restFrom s i b d j).length = d:=by
  induction d with
  | zero => intro j;rfl
  | succ d ih => intro j;rw [restFrom,List.length_cons,ih]
theorem xor1 (i : Int) (h0 : 0 ≤ i) (h7 : i ≤ 7) : 0 ≤ Go.bits .xor .i64 i 1 ∧ Go.bits .xor .i64 i 1 ≤ 7 ∧ (i ≤ 3 → Go.bits .xor .i64 i 1 ≤ 3) ∧ (i ≤ 1 → Go.bits .xor .i64 i 1 ≤ 1):=by
  obtain rfl|rfl|rfl|rfl|rfl|rfl|rfl|rfl : i = 0 ∨ i = 1 ∨ i = 2 ∨ i = 3 ∨ i = 4 ∨ i = 5 ∨ i = 6 ∨ i = 7:=by omega
  all_goals decide +kernel
def pathOf (s : ByteArray) (i : Int) : List ByteArray:=[rdOf ByteArray.empty (keysOf s) (Go.bits .xor .i64 i 1),rdOf ByteArray.empty (levelOf (keysOf s)) (Go.bits .xor .i64 (i / 2) 1),rdOf ByteArray.empty (levelOf (levelOf (keysOf s))) (Go.bits .xor .i64 (i / 2 / 2) 1)]
theorem path_spec (s : ByteArray) (i n : Int) (h0 : 0 ≤ i) (h7 : i ≤ 7) (o r : List ByteArray) (k : Nat) (hk : 14 ≤ k) : spec_l03Sign.l1 k i (keysOf s) n o r [] = some (n,o,r,pathOf s i):=by
  obtain ⟨k,rfl⟩ : ∃ m,k = m + 1 + 1 + 1 + 1:=⟨k - 4,by omega⟩
  have h8:=keysOf_length s
  have h4:=levelOf_length 4 _ h8
  have h2:=levelOf_length 2 _ (h4.trans (by rfl))
  have h1:=levelOf_length 1 _ (h2.trans (by rfl))
  have s8:=keysOf_small s
  have s4:=levelOf_small 4 _ h8
  have s2:=levelOf_small 2 _ (h4.trans (by rfl))
  obtain ⟨a0,a1,-,-⟩:=xor1 i h0 h7
  obtain ⟨b0,-,b1,-⟩:=xor1 (i / 2) (by omega) (by omega)
  obtain ⟨c0,-,-,c1⟩:=xor1 (i / 2 / 2) (by omega) (by omega)
  have b1:=b1 (by omega)
  have c1:=c1 (by omega)
  have d1 : wrap64 (Int.tdiv i 2) = i / 2:=by rw [Int.tdiv_eq_ediv_of_nonneg h0,wrap_id (by omega) (by omega)]
  have d2 : wrap64 (Int.tdiv (i / 2) 2) = i / 2 / 2:=by rw [Int.tdiv_eq_ediv_of_nonneg (by omega),wrap_id (by omega) (by omega)]
  rw [spec_l03Sign.l1,if_pos (by rw [h8];omega),if_pos a0,if_pos (by rw [h8];omega),if_pos (by simp),level_spec_tells _ 4 h8 (by omega) s8 _ (by omega),Option.bind_some,d1,
    spec_l03Sign.l1,if_pos (by rw [h4];omega),if_pos b0,if_pos (by rw [h4];omega),if_pos (by simp),level_spec_tells _ 2 (h4.trans (by rfl)) (by omega) s4 _ (by omega),Option.bind_some,d2,
    spec_l03Sign.l1,if_pos (by rw [h2];omega),if_pos c0,if_pos (by rw [h2];omega),if_pos (by simp),level_spec_tells _ 1 (h2.trans (by rfl)) (by omega) s2 _ (by omega),Option.bind_some,
    spec_l03Sign.l1,if_neg (by rw [h1];omega)]
  rfl
theorem path_impl (s : ByteArray) (i n : Int) (h0 : 0 ≤ i) (h7 : i ≤ 7) (o r : List ByteArray) (k : Nat) (hk : 14 ≤ k) : impl_signAt.l1 k i (keysOf s) n o r [] = some (n,o,r,pathOf s i):=by
  obtain ⟨k,rfl⟩ : ∃ m,k = m + 1 + 1 + 1 + 1:=⟨k - 4,by omega⟩
  have h8:=keysOf_length s
  have h4:=levelOf_length 4 _ h8
  have h2:=levelOf_length 2 _ (h4.trans (by rfl))
  have h1:=levelOf_length 1 _ (h2.trans (by rfl))
  have s8:=keysOf_small s
  have s4:=levelOf_small 4 _ h8
  have s2:=levelOf_small 2 _ (h4.trans (by rfl))
  obtain ⟨a0,a1,-,-⟩:=xor1 i h0 h7
  obtain ⟨b0,-,b1,-⟩:=xor1 (i / 2) (by omega) (by omega)
  obtain ⟨c0,-,-,c1⟩:=xor1 (i / 2 / 2) (by omega) (by omega)
  have b1:=b1 (by omega)
  have c1:=c1 (by omega)
  have d1 : wrap64 (Int.tdiv i 2) = i / 2:=by rw [Int.tdiv_eq_ediv_of_nonneg h0,wrap_id (by omega) (by omega)]
  have d2 : wrap64 (Int.tdiv (i / 2) 2) = i / 2 / 2:=by rw [Int.tdiv_eq_ediv_of_nonneg (by omega),wrap_id (by omega) (by omega)]
  rw [impl_signAt.l1,if_pos (by rw [h8];omega),if_pos a0,if_pos (by rw [h8];omega),if_pos (by simp),level_impl_tells _ 4 h8 (by omega) s8 _ (by omega),Option.bind_some,d1,
    impl_signAt.l1,if_pos (by rw [h4];omega),if_pos b0,if_pos (by rw [h4];omega),if_pos (by simp),level_impl_tells _ 2 (h4.trans (by rfl)) (by omega) s4 _ (by omega),Option.bind_some,d2,
    impl_signAt.l1,if_pos (by rw [h2];omega),if_pos c0,if_pos (by rw [h2];omega),if_pos (by simp),level_impl_tells _ 1 (h2.trans (by rfl)) (by omega) s2 _ (by omega),Option.bind_some,
    impl_signAt.l1,if_neg (by rw [h1];omega)]
  rfl
theorem sign_spec (s : ByteArray) (hs : s.size ≤ 1048576) (i : Int) (h0' : 0 ≤ i) (h7 : i ≤ 7) (b : ByteArray) (hb : b.size = 32) (d : Nat) : ∀ (k : Nat) (j : Int) (o r : List ByteArray),0 ≤ j → 32 - j = d → o.length ≤ j → r.length ≤ j → d + 200 < k →
    spec_l03Sign.l0 k s i b j i o r [] = some (i,o ++ onesFrom s i b d j,r ++ restFrom s i b d j,pathOf s i):=by
  induction d with
  | zero =>
    intro k j o r h0 hd ho hr hk
    obtain ⟨k,rfl⟩ : ∃ m,k = m + 1:=⟨k - 1,by omega⟩
    rw [spec_l03Sign.l0,if_neg (by omega),spec_keys_tells s hs k (by omega),Option.bind_some,path_spec s i i h0' h7 o r k (by omega),onesFrom,restFrom,List.append_nil,List.append_nil]
  | succ d ih =>
    intro k j o r h0 hd ho hr hk
    obtain ⟨k,rfl⟩ : ∃ m,k = m + 1:=⟨k - 1,by omega⟩
    have e : ∀ v,spec_l01Hash.f (bytesOf (secretOf s i j v)) = some (Sha.sha (secretOf s i j v)):=fun v => by unfold spec_l01Hash.f;rw [if_pos (by rw [bytesOf_length,secretOf_size];omega),Sha.sha_eq]
    rw [spec_l03Sign.l0,if_pos (by omega),if_pos (by omega),if_pos (by omega),spec_l03Secret_tells s hs,Option.bind_some,if_pos (by omega),spec_l03Secret_tells s hs,Option.bind_some,if_pos (by rw [secretOf_size];omega),e,Option.bind_some,if_pos (by omega),wrap_id (x:=j + 1) (by omega) (by omega),ih k (j + 1) _ _ (by omega) (by omega) (by rw [List.length_append];simp only [List.length_cons,List.length_nil];omega) (by rw [List.length_append];simp only [List.length_cons,List.length_nil];omega) (by omega),onesFrom,restFrom,List.append_assoc,List.append_assoc,List.singleton_append,List.singleton_append]
theorem sign_impl (s : ByteArray) (hs : s.size ≤ 1048576) (i : Int) (h0' : 0 ≤ i) (h7 : i ≤ 7) (b : ByteArray) (hb : b.size = 32) (d : Nat) : ∀ (k : Nat) (j : Int) (o r : List ByteArray),0 ≤ j → 32 - j = d → o.length ≤ j → r.length ≤ j → d + 200 < k →
    impl_signAt.l0 k s i (bytesOf b) 32 j i o r = some (i,o ++ onesFrom s i b d j,r ++ restFrom s i b d j,pathOf s i):=by
  have hl:=bytesOf_length b
  induction d with
  | zero =>
    intro k j o r h0 hd ho hr hk
    obtain ⟨k,rfl⟩ : ∃ m,k = m + 1:=⟨k - 1,by omega⟩
    rw [impl_signAt.l0,if_neg (by omega),impl_keys_tells s hs k (by omega),Option.bind_some,path_impl s i i h0' h7 o r k (by omega),onesFrom,restFrom,List.append_nil,List.append_nil]
  | succ d ih =>
    intro k j o r h0 hd ho hr hk
    obtain ⟨k,rfl⟩ : ∃ m,k = m + 1:=⟨k - 1,by omega⟩
    have e : ∀ v,impl_hash.f (secretOf s i j v) = some (Sha.sha (secretOf s i j v)):=fun v => by unfold impl_hash.f;rw [if_pos (by rw [secretOf_size];omega)]
    rw [impl_signAt.l0,if_pos (by omega),if_pos (by omega),if_pos (by omega),rd_bytesOf,impl_secret_tells s hs i j _ k (by omega),Option.bind_some,if_pos (by omega),impl_secret_tells s hs i j _ k (by omega),Option.bind_some,e,Option.bind_some,if_pos (by omega),wrap_id (x:=j + 1) (by omega) (by omega),ih k (j + 1) _ _ (by omega) (by omega) (by rw [List.length_append];simp only [List.length_cons,List.length_nil];omega) (by rw [List.length_append];simp only [List.length_cons,List.length_nil];omega) (by omega),onesFrom,restFrom,List.append_assoc,List.append_assoc,List.singleton_append,List.singleton_append]
/-- Signing answers alike. -/
theorem sign_both (s : ByteArray) (hs : s.size ≤ 1048576) (i : Int) (h0 : 0 ≤ i) (h7 : i ≤ 7) (t : ByteArray) (ht : t.size ≤ 1048577) : ∃ o r p,(∀ k,400 ≤ k → spec_l03Sign.f k s i t = some (i,o,r,p)) ∧ (∀ k,400 ≤ k → impl_signAt.f k s i t = some (i,o,r,p)) ∧ o.length = 32 ∧ r.length = 32 ∧ p.length = 3:=by
  have hz:=msgBits_size t
  refine ⟨onesFrom s i (msgBits t) 32 0,restFrom s i (msgBits t) 32 0,pathOf s i,?_,?_,onesFrom_length _ _ _ _ _,restFrom_length _ _ _ _ _,rfl⟩
  · intro k hk
    unfold spec_l03Sign.f
    rw [spec_l03Bits_tells t ht k (by omega),Option.bind_some]
    exact sign_spec s hs i h0 h7 _ hz 32 k 0 [] [] (by omega) (by omega) (by simp) (by simp) (by omega)
  · intro k hk
    unfold impl_signAt.f
    rw [impl_messageBits_tells t ht k (by omega),Option.bind_some,if_pos (by omega),Option.bind_some,bytesOf_length,hz]
    exact sign_impl s hs i h0 h7 _ hz 32 k 0 [] [] (by omega) (by omega) (by simp) (by simp) (by omega)

/-! snippet rootOf -/
def rootOf (s : ByteArray) : ByteArray:=rdOf ByteArray.empty (levelOf (levelOf (levelOf (keysOf s)))) 0
theorem root_spec (s : ByteArray) (k : Nat) (hk : 10 ≤ k) : spec_l03Root.f k (keysOf s) = some (rootOf s):=by
  obtain ⟨k,rfl⟩ : ∃ m,k = m + 1 + 1 + 1 + 1:=⟨k - 4,by omega⟩
  have h8:=keysOf_length s
  have h4:=levelOf_length 4 _ h8
  have h2:=levelOf_length 2 _ (h4.trans (by rfl))
  have h1:=levelOf_length 1 _ (h2.trans (by rfl))
  have s8:=keysOf_small s
  have s4:=levelOf_small 4 _ h8
  have s2:=levelOf_small 2 _ (h4.trans (by rfl))
  unfold spec_l03Root.f
  rw [spec_l03Root.l0,if_pos (by rw [h8];omega),level_spec_tells _ 4 h8 (by omega) s8 _ (by omega),Option.bind_some,spec_l03Root.l0,if_pos (by rw [h4];omega),level_spec_tells _ 2 (h4.trans (by rfl)) (by omega) s4 _ (by omega),Option.bind_some,spec_l03Root.l0,if_pos (by rw [h2];omega),level_spec_tells _ 1 (h2.trans (by rfl)) (by omega) s2 _ (by omega),Option.bind_some,spec_l03Root.l0,if_neg (by rw [h1];omega),if_pos (by rw [h1];omega)]
  rfl
theorem root_impl (s : ByteArray) (k : Nat) (hk : 10 ≤ k) : impl_chainRoot.l0 k (keysOf s) = some (rootOf s):=by
  obtain ⟨k,rfl⟩ : ∃ m,k = m + 1 + 1 + 1 + 1:=⟨k - 4,by omega⟩
  have h8:=keysOf_length s
  have h4:=levelOf_length 4 _ h8
  have h2:=levelOf_length 2 _ (h4.trans (by rfl))
  have h1:=levelOf_length 1 _ (h2.trans (by rfl))
  have s8:=keysOf_small s
  have s4:=levelOf_small 4 _ h8
  have s2:=levelOf_small 2 _ (h4.trans (by rfl))
  rw [impl_chainRoot.l0,if_pos (by rw [h8];omega),level_impl_tells _ 4 h8 (by omega) s8 _ (by omega),Option.bind_some,impl_chainRoot.l0,if_pos (by rw [h4];omega),level_impl_tells _ 2 (h4.trans (by rfl)) (by omega) s4 _ (by omega),Option.bind_some,impl_chainRoot.l0,if_pos (by rw [h2];omega),level_impl_tells _ 1 (h2.trans (by rfl)) (by omega) s2 _ (by omega),Option.bind_some,impl_chainRoot.l0,if_neg (by rw [h1];omega),if_pos (by rw [h1];omega)]
  rfl

/-! snippet leads -/
def hashesB (l : List ByteArray) (n : Int) : Bool:=decide ((l.length : Int) = n) && l.all fun s => decide ((s.size : Int) = 32)
theorem impl_areHashes_tells (l : List ByteArray) (n : Int) : impl_areHashes.f l n = some (hashesB l n):=rfl
theorem hashes_l0 (l : List ByteArray) (hl : l.length ≤ 1000) (d : Nat) : ∀ (k : Nat) (i : Nat),l.length = i + d → d < k → spec_l03Hashes.l0 k l (l.length : Int) i = some ((l.drop i).all fun s => decide ((s.size : Int) = 32)):=by
  induction d with
  | zero =>
    intro k i hd hk
    obtain ⟨k,rfl⟩ : ∃ m,k = m + 1:=⟨k - 1,by omega⟩
    rw [spec_l03Hashes.l0,if_neg (by omega),List.drop_eq_nil_of_le (by omega)]
    rfl
  | succ d ih =>
    intro k i hd hk
    obtain ⟨k,rfl⟩ : ∃ m,k = m + 1:=⟨k - 1,by omega⟩
    have hi : i < l.length:=by omega
    rw [spec_l03Hashes.l0,if_pos (by omega),if_pos (by omega),if_pos (by omega),rdOf_at l i hi,List.drop_eq_getElem_cons hi,List.all_cons]
    by_cases h : ((l[i]).size : Int) = 32
    · rw [if_pos h,decide_eq_true h,Bool.true_and,wrap_id (x:=(i : Int) + 1) (by omega) (by omega)]
      exact ih k (i + 1) (by omega) (by omega)
    · rw [if_neg h,decide_eq_false h,Bool.false_and]
theorem spec_hashes_tells (l : List ByteArray) (n : Int) (hn : n ≤ 1000) (k : Nat) (hk : 1001 ≤ k) : spec_l03Hashes.f k l n = some (hashesB l n):=by
  unfold spec_l03Hashes.f hashesB
  by_cases h : (l.length : Int) = n
  · rw [if_pos h,decide_eq_true h,Bool.true_and,← h]
    exact hashes_l0 l (by omega) l.length k 0 (by omega) (by omega)
  · rw [if_neg h,decide_eq_false h,Bool.false_and]
theorem hashesB_true {l : List ByteArray} {n : Int} (h : hashesB l n = true) : (l.length : Int) = n ∧ ∀ i : Int,0 ≤ i → i < n → (rdOf ByteArray.empty l i).size = 32:=by
  unfold hashesB at h
  rw [Bool.and_eq_true,decide_eq_true_eq,List.all_eq_true] at h
  refine ⟨h.1,fun i h0 h1 => ?_⟩
  have hi : i.toNat < l.length:=by omega
  have e : rdOf ByteArray.empty l i = l[i.toNat]:=by
    have:=rdOf_at l i.toNat hi
    rwa [Int.toNat_of_nonneg h0] at this
  have:=h.2 _ (List.getElem_mem hi)
  rw [decide_eq_true_eq] at this
  rw [e]
  omega
def pairOf (b : ByteArray) (o r : List ByteArray) (i : Int) : ByteArray:=if bt b i = 48 then Sha.sha (rdOf ByteArray.empty o i) ++ rdOf ByteArray.empty r i else rdOf ByteArray.empty r i ++ Sha.sha (rdOf ByteArray.empty o i)
def leadText (b : ByteArray) (o r : List ByteArray) : Nat → Int → ByteArray → ByteArray
  | 0,_,t => t
  | d + 1,i,t => leadText b o r d (i + 1) (t ++ pairOf b o r i)
def climb (p : List ByteArray) : Nat → Int → Int → ByteArray → ByteArray
  | 0,_,_,h => h
  | d + 1,j,x,h => climb p d (j + 1) (x / 2) (if x % 2 = 0 then nodeOf h (rdOf ByteArray.empty p j) else nodeOf (rdOf ByteArray.empty p j) h)
def leadsOf (b : ByteArray) (x : Int) (o r p : List ByteArray) : ByteArray:=climb p 3 0 x (Sha.sha (leadText b o r 32 0 (⟨#[107,101,121]⟩ : ByteArray)))
theorem climb_spec (a0 : ByteArray) (n : Int) (o r p : List ByteArray) (hp : (p.length : Int) = 3) (hs : ∀ i : Int,0 ≤ i → i < 3 → (rdOf ByteArray.empty p i).size = 32) (d : Nat) : ∀ (k : Nat) (j x : Int) (h : ByteArray),0 ≤ j → 3 - j = d → 0 ≤ x → x ≤ 7 → h.size = 32 → d < k → spec_CheckSignature.l1 k a0 h x j n o r p = (if (climb p d j x h).toList = a0.toList then some 0 else some 12):=by
  induction d with
  | zero =>
    intro k j x h h0 hd hx0 hx7 hh hk
    obtain ⟨k,rfl⟩ : ∃ m,k = m + 1:=⟨k - 1,by omega⟩
    rw [spec_CheckSignature.l1,if_neg (by omega),climb]
  | succ d ih =>
    intro k j x h h0 hd hx0 hx7 hh hk
    obtain ⟨k,rfl⟩ : ∃ m,k = m + 1:=⟨k - 1,by omega⟩
    have hz:=hs j h0 (by omega)
    rw [spec_CheckSignature.l1,if_pos (by omega),Int.tmod_eq_emod_of_nonneg hx0,climb]
    by_cases h2 : x % 2 = 0
    · rw [if_pos h2,if_pos h2,if_pos (by omega),if_pos (by omega),spec_l03Node_tells _ _ (by omega) (by omega),Option.bind_some,Int.tdiv_eq_ediv_of_nonneg hx0,wrap_id (x:=x / 2) (by omega) (by omega),wrap_id (x:=j + 1) (by omega) (by omega)]
      exact ih k (j + 1) (x / 2) _ (by omega) (by omega) (by omega) (by omega) (nodeOf_size _ _) (by omega)
    · rw [if_neg h2,if_neg h2,if_pos (by omega),if_pos (by omega),spec_l03Node_tells _ _ (by omega) (by omega),Option.bind_some,Int.tdiv_eq_ediv_of_nonneg hx0,wrap_id (x:=x / 2) (by omega) (by omega),wrap_id (x:=j + 1) (by omega) (by omega)]
      exact ih k (j + 1) (x / 2) _ (by omega) (by omega) (by omega) (by omega) (nodeOf_size _ _) (by omega)
theorem climb_impl (p : List ByteArray) (hp : (p.length : Int) = 3) (hs : ∀ i : Int,0 ≤ i → i < 3 → (rdOf ByteArray.empty p i).size = 32) (d : Nat) : ∀ (k : Nat) (j x : Int) (h : ByteArray),0 ≤ j → 3 - j = d → 0 ≤ x → x ≤ 7 → h.size = 32 → d < k → impl_KeySignature_leads.l1 k h x p (p.length : Int) j = some (climb p d j x h):=by
  induction d with
  | zero =>
    intro k j x h h0 hd hx0 hx7 hh hk
    obtain ⟨k,rfl⟩ : ∃ m,k = m + 1:=⟨k - 1,by omega⟩
    rw [impl_KeySignature_leads.l1,if_neg (by omega),climb]
  | succ d ih =>
    intro k j x h h0 hd hx0 hx7 hh hk
    obtain ⟨k,rfl⟩ : ∃ m,k = m + 1:=⟨k - 1,by omega⟩
    have hz:=hs j h0 (by omega)
    rw [impl_KeySignature_leads.l1,if_pos (by omega),if_pos (by omega),if_pos (by omega),Int.tmod_eq_emod_of_nonneg hx0,climb]
    by_cases h2 : x % 2 = 0
    · rw [if_pos h2,if_pos h2,impl_node_tells _ _ (by omega) (by omega),Option.bind_some,Int.tdiv_eq_ediv_of_nonneg hx0,wrap_id (x:=x / 2) (by omega) (by omega),wrap_id (x:=j + 1) (by omega) (by omega)]
      exact ih k (j + 1) (x / 2) _ (by omega) (by omega) (by omega) (by omega) (nodeOf_size _ _) (by omega)
    · rw [if_neg h2,if_neg h2,impl_node_tells _ _ (by omega) (by omega),Option.bind_some,Int.tdiv_eq_ediv_of_nonneg hx0,wrap_id (x:=x / 2) (by omega) (by omega),wrap_id (x:=j + 1) (by omega) (by omega)]
      exact ih k (j + 1) (x / 2) _ (by omega) (by omega) (by omega) (by omega) (nodeOf_size _ _) (by omega)
theorem pair_size (b : ByteArray) (o r : List ByteArray) (i : Int) (hr : (rdOf ByteArray.empty r i).size = 32) : (pairOf b o r i).size = 64:=by
  unfold pairOf
  have:=Sha.sha_size (rdOf ByteArray.empty o i)
  by_cases h : bt b i = 48
  · rw [if_pos h,ByteArray.size_append];omega
  · rw [if_neg h,ByteArray.size_append];omega
theorem leads_spec (a0 b : ByteArray) (hb : b.size = 32) (n : Int) (hn0 : 0 ≤ n) (hn7 : n ≤ 7) (o r p : List ByteArray) (ho : (o.length : Int) = 32) (hr : (r.length : Int) = 32) (hp : (p.length : Int) = 3) (hos : ∀ i : Int,0 ≤ i → i < 32 → (rdOf ByteArray.empty o i).size = 32) (hrs : ∀ i : Int,0 ≤ i → i < 32 → (rdOf ByteArray.empty r i).size = 32) (hps : ∀ i : Int,0 ≤ i → i < 3 → (rdOf ByteArray.empty p i).size = 32) (d : Nat) : ∀ (k : Nat) (i : Int) (t : ByteArray),0 ≤ i → 32 - i = d → (t.size : Int) = 3 + 64 * i → d + 10 < k →
    spec_CheckSignature.l0 k a0 b (bytesOf t) i n o r p = (if (climb p 3 0 n (Sha.sha (leadText b o r d i t))).toList = a0.toList then some 0 else some 12):=by
  induction d with
  | zero =>
    intro k i t h0 hd ht hk
    obtain ⟨k,rfl⟩ : ∃ m,k = m + 1:=⟨k - 1,by omega⟩
    unfold spec_CheckSignature.l0 spec_l01Hash.f
    rw [if_neg (by omega),if_pos (by rw [bytesOf_length];omega),Option.bind_some,Sha.sha_eq,climb_spec a0 n o r p hp hps 3 k 0 n _ (by omega) (by omega) hn0 hn7 (Sha.sha_size _) (by omega)]
    rfl
  | succ d ih =>
    intro k i t h0 hd ht hk
    obtain ⟨k,rfl⟩ : ∃ m,k = m + 1:=⟨k - 1,by omega⟩
    have zo:=hos i h0 (by omega)
    have zr:=hrs i h0 (by omega)
    have zs:=Sha.sha_size (rdOf ByteArray.empty o i)
    have zp:=pair_size b o r i zr
    have e : spec_l01Hash.f (bytesOf (rdOf ByteArray.empty o i)) = some (Sha.sha (rdOf ByteArray.empty o i)):=by unfold spec_l01Hash.f;rw [if_pos (by rw [bytesOf_length];omega),Sha.sha_eq]
    rw [spec_CheckSignature.l0,if_pos (by omega),if_pos (by omega),if_pos (by omega),if_pos (by omega),e,Option.bind_some,if_pos (by omega),leadText]
    by_cases h : bt b i = 48
    · rw [if_pos h,if_pos (by rw [bytesOf_length];omega),Option.bind_some,if_pos (by omega),if_pos (by rw [List.length_append,bytesOf_length,bytesOf_length];omega),wrap_id (by omega) (by omega),List.append_assoc,← Sha.bytes_app,← Sha.bytes_app]
      have hp : Sha.sha (rdOf ByteArray.empty o i) ++ rdOf ByteArray.empty r i = pairOf b o r i:=by unfold pairOf;rw [if_pos h]
      rw [hp]
      exact ih k (i + 1) _ (by omega) (by omega) (by rw [ByteArray.size_append];omega) (by omega)
    · rw [if_neg h,if_pos (by omega),if_pos (by rw [bytesOf_length];omega),Option.bind_some,if_pos (by rw [List.length_append,bytesOf_length,bytesOf_length];omega),wrap_id (by omega) (by omega),List.append_assoc,← Sha.bytes_app,← Sha.bytes_app]
      have hp : rdOf ByteArray.empty r i ++ Sha.sha (rdOf ByteArray.empty o i) = pairOf b o r i:=by unfold pairOf;rw [if_neg h]
      rw [hp]
      exact ih k (i + 1) _ (by omega) (by omega) (by rw [ByteArray.size_append];omega) (by omega)
theorem leads_impl (b : ByteArray) (hb : b.size = 32) (n : Int) (hn0 : 0 ≤ n) (hn7 : n ≤ 7) (o r p : List ByteArray) (ho : (o.length : Int) = 32) (hr : (r.length : Int) = 32) (hp : (p.length : Int) = 3) (hos : ∀ i : Int,0 ≤ i → i < 32 → (rdOf ByteArray.empty o i).size = 32) (hrs : ∀ i : Int,0 ≤ i → i < 32 → (rdOf ByteArray.empty r i).size = 32) (hps : ∀ i : Int,0 ≤ i → i < 3 → (rdOf ByteArray.empty p i).size = 32) (d : Nat) : ∀ (k : Nat) (i : Int) (t : ByteArray),0 ≤ i → 32 - i = d → (t.size : Int) = 3 + 64 * i → d + 10 < k →
    impl_KeySignature_leads.l0 k t (bytesOf b) 32 i n o r p = some (climb p 3 0 n (Sha.sha (leadText b o r d i t))):=by
  have hl:=bytesOf_length b
  induction d with
  | zero =>
    intro k i t h0 hd ht hk
    obtain ⟨k,rfl⟩ : ∃ m,k = m + 1:=⟨k - 1,by omega⟩
    unfold impl_KeySignature_leads.l0 impl_hash.f
    rw [if_neg (by omega),if_pos (by omega),Option.bind_some,climb_impl p hp hps 3 k 0 n _ (by omega) (by omega) hn0 hn7 (Sha.sha_size _) (by omega)]
    rfl
  | succ d ih =>
    intro k i t h0 hd ht hk
    obtain ⟨k,rfl⟩ : ∃ m,k = m + 1:=⟨k - 1,by omega⟩
    have zo:=hos i h0 (by omega)
    have zr:=hrs i h0 (by omega)
    have zs:=Sha.sha_size (rdOf ByteArray.empty o i)
    have zp:=pair_size b o r i zr
    have e : impl_hash.f (rdOf ByteArray.empty o i) = some (Sha.sha (rdOf ByteArray.empty o i)):=by unfold impl_hash.f;rw [if_pos (by omega)]
    rw [impl_KeySignature_leads.l0,if_pos (by omega),if_pos (by omega),if_pos (by omega),rd_bytesOf,leadText]
    by_cases h : bt b i = 48
    · rw [if_pos h,if_pos (by omega),e,Option.bind_some,if_pos (by omega),if_pos (by omega),if_pos (by rw [ByteArray.size_append];omega),wrap_id (by omega) (by omega)]
      have hp : Sha.sha (rdOf ByteArray.empty o i) ++ rdOf ByteArray.empty r i = pairOf b o r i:=by unfold pairOf;rw [if_pos h]
      rw [hp]
      exact ih k (i + 1) _ (by omega) (by omega) (by rw [ByteArray.size_append];omega) (by omega)
    · rw [if_neg h,if_pos (by omega),if_pos (by omega),e,Option.bind_some,if_pos (by omega),if_pos (by rw [ByteArray.size_append];omega),wrap_id (by omega) (by omega)]
      have hp : rdOf ByteArray.empty r i ++ Sha.sha (rdOf ByteArray.empty o i) = pairOf b o r i:=by unfold pairOf;rw [if_neg h]
      rw [hp]
      exact ih k (i + 1) _ (by omega) (by omega) (by rw [ByteArray.size_append];omega) (by omega)
theorem check_both (a0 a1 : ByteArray) (n : Int) (o r p : List ByteArray) (h1 : a1.size ≤ 1048576) (k : Nat) (hk : 1010 ≤ k) : ∃ v,spec_CheckSignature.f k a0 a1 n o r p = some v ∧ impl_CheckSignature.f k a0 a1 n o r p = some v:=by
  obtain ⟨k,rfl⟩ : ∃ m,k = m + 1 + 1:=⟨k - 2,by omega⟩
  unfold spec_CheckSignature.f impl_CheckSignature.f
  rw [areLong_one,Option.bind_some]
  by_cases hl : 65536 < a0.size ∨ 65530 < a1.size
  · refine ⟨2,?_,?_⟩
    · by_cases h2 : (a1.size : Int) > 65530
      · rw [if_pos h2,spec_CheckSignature.j0,if_pos rfl]
      · rw [if_neg h2,spec_CheckSignature.j0,if_pos (by rw [decide_eq_true_eq];omega)]
    · by_cases h2 : (65536 : Int) < a0.size
      · rw [if_pos (by rw [decide_eq_true_eq];omega),impl_CheckSignature.j0,if_pos rfl]
      · rw [if_neg (by rw [decide_eq_true_eq];omega),impl_CheckSignature.j0,if_pos (by rw [decide_eq_true_eq];omega)]
  rw [if_neg (by omega),if_neg (by rw [decide_eq_true_eq];omega),spec_CheckSignature.j0,impl_CheckSignature.j0,if_neg (c:=decide ((a0.size : Int) > 65536) = true) (by rw [decide_eq_true_eq];omega),if_neg (c:=decide ((a1.size : Int) > 65530) = true) (by rw [decide_eq_true_eq];omega)]
  unfold impl_isHash.f
  rw [spec_hashes_tells o 32 (by omega) _ (by omega),spec_hashes_tells r 32 (by omega) _ (by omega),spec_hashes_tells p 3 (by omega) _ (by omega),impl_areHashes_tells,impl_areHashes_tells,impl_areHashes_tells]
  simp only [Option.bind_some]
  by_cases hA : (a0.size : Int) = 32
  rotate_left
  · refine ⟨1,?_,?_⟩
    · rw [if_neg hA,spec_CheckSignature.j1,if_pos rfl]
    · rw [if_neg (by simpa using hA),impl_CheckSignature.j1,if_pos rfl]
  have hA' : ((a0.size : Int) == 32) = true:=by simpa using hA
  rw [if_pos hA,if_pos hA']
  cases hB : hashesB o 32
  · refine ⟨1,?_,?_⟩
    · rw [if_neg (by simp),spec_CheckSignature.j1,if_pos rfl]
    · rw [if_neg (by simp),impl_CheckSignature.j1,if_pos rfl]
  rw [if_pos rfl,if_pos rfl]
  cases hC : hashesB r 32
  · refine ⟨1,?_,?_⟩
    · rw [if_neg (by simp),spec_CheckSignature.j1,if_pos rfl]
    · rw [if_neg (by simp),impl_CheckSignature.j1,if_pos rfl]
  rw [if_pos rfl,if_pos rfl]
  cases hD : hashesB p 3
  · refine ⟨1,?_,?_⟩
    · rw [spec_CheckSignature.j1,if_pos (by simp)]
    · rw [impl_CheckSignature.j1,if_pos (by simp)]
  rw [spec_CheckSignature.j1,impl_CheckSignature.j1,if_neg (by simp),if_neg (by simp)]
  unfold impl_isIndex.f
  rw [specIn_tells,within_tells,Option.bind_some,Option.bind_some,Option.bind_some]
  cases hE : (decide ((0 : Int) ≤ n) && decide (n ≤ 7))
  · exact ⟨4,by rw [if_neg (by simp)],by rw [if_neg (by simp)]⟩
  rw [if_pos rfl,if_pos rfl,spec_l03Bits_tells a1 (by omega) _ (by omega),Option.bind_some]
  rw [Bool.and_eq_true,decide_eq_true_eq,decide_eq_true_eq] at hE
  obtain ⟨o1,o2⟩:=hashesB_true hB
  obtain ⟨r1,r2⟩:=hashesB_true hC
  obtain ⟨p1,p2⟩:=hashesB_true hD
  have hz:=msgBits_size a1
  obtain ⟨L,e1,e2⟩ : ∃ L : ByteArray,spec_CheckSignature.l0 k a0 (msgBits a1) [107,101,121] 0 n o r p = (if L.toList = a0.toList then some 0 else some 12) ∧ impl_KeySignature_leads.f k n o r p a1 = some L:=by
    refine ⟨leadsOf (msgBits a1) n o r p,leads_spec a0 (msgBits a1) hz n hE.1 hE.2 o r p o1 r1 p1 o2 r2 p2 32 k 0 (⟨#[107,101,121]⟩ : ByteArray) (by omega) (by omega) rfl (by omega),?_⟩
    unfold impl_KeySignature_leads.f
    rw [impl_messageBits_tells a1 (by omega) k (by omega),Option.bind_some,if_pos (by omega),Option.bind_some,bytesOf_length,hz]
    exact leads_impl (msgBits a1) hz n hE.1 hE.2 o r p o1 r1 p1 o2 r2 p2 32 k 0 (⟨#[107,101,121]⟩ : ByteArray) (by omega) (by omega) rfl (by omega)
  rw [e1,e2,Option.bind_some]
  by_cases hL : L.toList = a0.toList
  · exact ⟨0,by rw [if_pos hL],by rw [if_pos hL]⟩
  · exact ⟨12,by rw [if_neg hL],by rw [if_neg hL]⟩

/-! snippet at -/
theorem at_tells (l : List Int) (hl : l.length ≤ 1048576) (hw : ∀ x ∈ l,(Lit.int .u8 x).wf = true) (i n : Int) (hi : 0 ≤ i) (hi2 : i ≤ 1000) (hn : 1 < n) : ∃ r,laws_at.f l i n = some r ∧ 0 ≤ r ∧ r < n:=by
  unfold laws_at.f
  rw [if_neg (by omega)]
  by_cases h0 : (l.length : Int) = 0
  · rw [if_pos h0,if_neg (by omega)]
    refine ⟨_,rfl,?_⟩
    rw [wrap_id (by omega) (by omega),Int.tmod_eq_emod_of_nonneg (by omega)]
    exact ⟨Int.emod_nonneg _ (by omega),Int.emod_lt_of_pos _ (by omega)⟩
  · have hp : (0 : Int) < l.length:=by omega
    have m1 : Int.tmod i (l.length : Int) = i % (l.length : Int):=Int.tmod_eq_emod_of_nonneg hi
    have e1 : wrap64 (i + 1) = i + 1:=wrap_id (by omega) (by omega)
    have m2 : Int.tmod (i + 1) (l.length : Int) = (i + 1) % (l.length : Int):=Int.tmod_eq_emod_of_nonneg (by omega)
    have d1 : Int.tdiv i (l.length : Int) = i / (l.length : Int):=Int.tdiv_eq_ediv_of_nonneg hi
    rw [if_neg h0,e1,m1,m2,d1]
    have a1:=Int.emod_nonneg i (show (l.length : Int) ≠ 0 by omega)
    have a2:=Int.emod_lt_of_pos i hp
    have b1:=Int.emod_nonneg (i + 1) (show (l.length : Int) ≠ 0 by omega)
    have b2:=Int.emod_lt_of_pos (i + 1) hp
    rw [if_pos a1,if_pos a2,if_pos b1,if_pos b2,if_neg (by omega)]
    have r1:=u8_of_wf hw (i % (l.length : Int))
    have r2:=u8_of_wf hw ((i + 1) % (l.length : Int))
    have q1 : 0 ≤ i / (l.length : Int):=Int.ediv_nonneg hi (by omega)
    have q2 : i / (l.length : Int) ≤ i:=Int.ediv_le_self _ hi
    refine ⟨_,rfl,?_⟩
    generalize rd l (i % (l.length : Int)) = x at *
    generalize rd l ((i + 1) % (l.length : Int)) = y at *
    generalize i / (l.length : Int) = q at *
    rw [wrap_id (x:=x) (by omega) (by omega),wrap_id (x:=y) (by omega) (by omega),wrap_id (x:=x * 31) (by omega) (by omega),wrap_id (x:=q) (by omega) (by omega),wrap_id (x:=x * 31 + y) (by omega) (by omega),wrap_id (x:=x * 31 + y + q) (by omega) (by omega),Int.tmod_eq_emod_of_nonneg (by omega)]
    exact ⟨Int.emod_nonneg _ (by omega),Int.emod_lt_of_pos _ (by omega)⟩

/-! snippet lamport -/
theorem rdOf_zero (a : ByteArray) (l : List ByteArray) : rdOf ByteArray.empty (a :: l) ((0 : Nat) : Int) = a:=rfl
theorem rdOf_succ (a : ByteArray) (l : List ByteArray) (m : Nat) : rdOf ByteArray.empty (a :: l) ((m + 1 : Nat) : Int) = rdOf ByteArray.empty l (m : Int):=by
  unfold rdOf
  simp
theorem ones_at (s : ByteArray) (i : Int) (b : ByteArray) (d : Nat) : ∀ (j0 : Int) (m : Nat),m < d → rdOf ByteArray.empty (onesFrom s i b d j0) (m : Int) = secretOf s i (j0 + m) ((bt b (j0 + m) - 48) % 256):=by
  induction d with
  | zero => intro j0 m h;omega
  | succ d ih =>
    intro j0 m h
    cases m with
    | zero => rw [onesFrom,rdOf_zero,show j0 + ((0 : Nat) : Int) = j0 by omega]
    | succ m => rw [onesFrom,rdOf_succ,ih (j0 + 1) m (by omega),show j0 + 1 + (m : Int) = j0 + ((m + 1 : Nat) : Int) by omega]
theorem rest_at (s : ByteArray) (i : Int) (b : ByteArray) (d : Nat) : ∀ (j0 : Int) (m : Nat),m < d → rdOf ByteArray.empty (restFrom s i b d j0) (m : Int) = Sha.sha (secretOf s i (j0 + m) (wrap64 (1 - (bt b (j0 + m) - 48) % 256))):=by
  induction d with
  | zero => intro j0 m h;omega
  | succ d ih =>
    intro j0 m h
    cases m with
    | zero => rw [restFrom,rdOf_zero,show j0 + ((0 : Nat) : Int) = j0 by omega]
    | succ m => rw [restFrom,rdOf_succ,ih (j0 + 1) m (by omega),show j0 + 1 + (m : Int) = j0 + ((m + 1 : Nat) : Int) by omega]
theorem ones_sizes (s : ByteArray) (i : Int) (b : ByteArray) (d : Nat) : ∀ j : Int,(onesFrom s i b d j).all (fun s => decide ((s.size : Int) = 32)) = true:=by
  induction d with
  | zero => intro j;rfl
  | succ d ih => intro j;rw [onesFrom,List.all_cons,ih,secretOf_size];rfl
theorem rest_sizes (s : ByteArray) (i : Int) (b : ByteArray) (d : Nat) : ∀ j : Int,(restFrom s i b d j).all (fun s => decide ((s.size : Int) = 32)) = true:=by
  induction d with
  | zero => intro j;rfl
  | succ d ih => intro j;rw [restFrom,List.all_cons,ih,Sha.sha_size];rfl
def bitC (b j : Int) : Int:=(48 + (Go.bits .and .u8 (shr .u8 b j) 1)) % 256
theorem bitC_all : ∀ (b : Fin 256) (j : Fin 8),bitC b.val j.val = 48 ∨ bitC b.val j.val = 49:=by decide +kernel
theorem bitAt_01 (s : ByteArray) (i j : Int) (h0 : 0 ≤ j) (h7 : j ≤ 7) : bitAt s i j = 48 ∨ bitAt s i j = 49:=by
  have hb:=bt_range s i
  have:=bitC_all ⟨(bt s i).toNat,by omega⟩ ⟨j.toNat,by omega⟩
  rw [show (((bt s i).toNat : Nat) : Int) = bt s i by omega,show ((j.toNat : Nat) : Int) = j by omega] at this
  exact this
/-- A digest's bits are the bytes 0 and 1. -/
theorem bits32_01 (s : ByteArray) (d : Nat) : ∀ (i : Int),∀ x ∈ bits32 s d i,x = 48 ∨ x = 49:=by
  induction d with
  | zero => intro i x hx;cases hx
  | succ d ih =>
    intro i x hx
    rw [bits32] at hx
    rcases List.mem_cons.1 hx with rfl|hx
    · exact bitAt_01 s (i / 8) (7 - i % 8) (by omega) (by omega)
    · exact ih (i + 1) x hx
theorem msgBit (t : ByteArray) (m : Nat) (hm : m < 32) : bt (msgBits t) (m : Int) = 48 ∨ bt (msgBits t) (m : Int) = 49:=by
  have hall:=bits32_01 (Sha.sha ((⟨#[100,105,103,101,115,116]⟩ : ByteArray) ++ t)) 32 0
  have hlen : (bits32 (Sha.sha ((⟨#[100,105,103,101,115,116]⟩ : ByteArray) ++ t)) 32 0).length = 32:=by
    have:=msgBits_size t
    unfold msgBits at this
    rwa [strOfNums_size] at this
  unfold msgBits
  generalize bits32 (Sha.sha ((⟨#[100,105,103,101,115,116]⟩ : ByteArray) ++ t)) 32 0 = L at hall hlen ⊢
  rw [← rd_bytesOf,Sha.bytesOf_nums L (fun x hx => by rcases hall x hx with h|h <;> omega)]
  have e : rd L (m : Int) = L[m]'(by omega):=by unfold rd;simp [List.getD_eq_getElem?_getD,hlen,hm]
  rw [e]
  exact hall _ (List.getElem_mem _)
theorem lead_key (s : ByteArray) (x : Int) (b : ByteArray) (hb : ∀ m : Nat,m < 32 → bt b (m : Int) = 48 ∨ bt b (m : Int) = 49) (d : Nat) : ∀ (m : Nat) (t : ByteArray),m + d = 32 →
    leadText b (onesFrom s x b 32 0) (restFrom s x b 32 0) d (m : Int) t = keyText s x d (m : Int) t:=by
  induction d with
  | zero => intro m t h;rfl
  | succ d ih =>
    intro m t h
    have e : pairOf b (onesFrom s x b 32 0) (restFrom s x b 32 0) (m : Int) = Sha.sha (secretOf s x (m : Int) 0) ++ Sha.sha (secretOf s x (m : Int) 1):=by
      unfold pairOf
      rw [ones_at s x b 32 0 m (by omega),rest_at s x b 32 0 m (by omega),show (0 : Int) + (m : Int) = (m : Int) by omega]
      rcases hb m (by omega) with h48|h49
      · rw [if_pos h48,h48,show ((48 : Int) - 48) % 256 = 0 by omega,show wrap64 (1 - 0) = 1 from wrap_id (by omega) (by omega)]
      · rw [if_neg (by omega),h49,show ((49 : Int) - 48) % 256 = 1 by omega,show wrap64 (1 - 1) = 0 from wrap_id (by omega) (by omega)]
    rw [leadText,keyText,e,show (m : Int) + 1 = ((m + 1 : Nat) : Int) by omega]
    exact ih (m + 1) _ (by omega)
def pathL (L : List ByteArray) (i : Int) : List ByteArray:=[rdOf ByteArray.empty L (Go.bits .xor .i64 i 1),rdOf ByteArray.empty (levelOf L) (Go.bits .xor .i64 (i / 2) 1),rdOf ByteArray.empty (levelOf (levelOf L)) (Go.bits .xor .i64 (i / 2 / 2) 1)]
theorem climb8 (a0 a1 a2 a3 a4 a5 a6 a7 : ByteArray) (i : Int) (h0 : 0 ≤ i) (h7 : i ≤ 7) :
    climb (pathL [a0,a1,a2,a3,a4,a5,a6,a7] i) 3 0 i (rdOf ByteArray.empty [a0,a1,a2,a3,a4,a5,a6,a7] i) = rdOf ByteArray.empty (levelOf (levelOf (levelOf [a0,a1,a2,a3,a4,a5,a6,a7]))) 0:=by
  have x0 : Go.bits .xor .i64 0 1 = 1:=by decide +kernel
  have x1 : Go.bits .xor .i64 1 1 = 0:=by decide +kernel
  have x2 : Go.bits .xor .i64 2 1 = 3:=by decide +kernel
  have x3 : Go.bits .xor .i64 3 1 = 2:=by decide +kernel
  have x4 : Go.bits .xor .i64 4 1 = 5:=by decide +kernel
  have x5 : Go.bits .xor .i64 5 1 = 4:=by decide +kernel
  have x6 : Go.bits .xor .i64 6 1 = 7:=by decide +kernel
  have x7 : Go.bits .xor .i64 7 1 = 6:=by decide +kernel
  obtain rfl|rfl|rfl|rfl|rfl|rfl|rfl|rfl : i = 0 ∨ i = 1 ∨ i = 2 ∨ i = 3 ∨ i = 4 ∨ i = 5 ∨ i = 6 ∨ i = 7:=by omega
  all_goals simp [pathL,climb,levelOf,rdOf,x0,x1,x2,x3,x4,x5,x6,x7]
theorem path8_sizes (a0 a1 a2 a3 a4 a5 a6 a7 : ByteArray) (z0 : a0.size = 32) (z1 : a1.size = 32) (z2 : a2.size = 32) (z3 : a3.size = 32) (z4 : a4.size = 32) (z5 : a5.size = 32) (z6 : a6.size = 32) (z7 : a7.size = 32) (i : Int) (h0 : 0 ≤ i) (h7 : i ≤ 7) :
    (pathL [a0,a1,a2,a3,a4,a5,a6,a7] i).all (fun s => decide ((s.size : Int) = 32)) = true:=by
  have x0 : Go.bits .xor .i64 0 1 = 1:=by decide +kernel
  have x1 : Go.bits .xor .i64 1 1 = 0:=by decide +kernel
  have x2 : Go.bits .xor .i64 2 1 = 3:=by decide +kernel
  have x3 : Go.bits .xor .i64 3 1 = 2:=by decide +kernel
  have x4 : Go.bits .xor .i64 4 1 = 5:=by decide +kernel
  have x5 : Go.bits .xor .i64 5 1 = 4:=by decide +kernel
  have x6 : Go.bits .xor .i64 6 1 = 7:=by decide +kernel
  have x7 : Go.bits .xor .i64 7 1 = 6:=by decide +kernel
  obtain rfl|rfl|rfl|rfl|rfl|rfl|rfl|rfl : i = 0 ∨ i = 1 ∨ i = 2 ∨ i = 3 ∨ i = 4 ∨ i = 5 ∨ i = 6 ∨ i = 7:=by omega
  all_goals simp [pathL,levelOf,rdOf,x0,x1,x2,x3,x4,x5,x6,x7,nodeOf_size,z0,z1,z2,z3,z4,z5,z6,z7]
theorem keys8 (s : ByteArray) : keysOf s = [keyOf s 0,keyOf s 1,keyOf s 2,keyOf s 3,keyOf s 4,keyOf s 5,keyOf s 6,keyOf s 7]:=by
  unfold keysOf
  simp only [keysFrom,Int.reduceAdd]
theorem key8_at (s : ByteArray) (i : Int) (h0 : 0 ≤ i) (h7 : i ≤ 7) : rdOf ByteArray.empty (keysOf s) i = keyOf s i:=by
  rw [keys8]
  obtain rfl|rfl|rfl|rfl|rfl|rfl|rfl|rfl : i = 0 ∨ i = 1 ∨ i = 2 ∨ i = 3 ∨ i = 4 ∨ i = 5 ∨ i = 6 ∨ i = 7:=by omega
  all_goals simp [rdOf]
theorem pathOf_L (s : ByteArray) (i : Int) : pathOf s i = pathL (keysOf s) i:=rfl
theorem leads_right (s : ByteArray) (i : Int) (h0 : 0 ≤ i) (h7 : i ≤ 7) (t : ByteArray) : leadsOf (msgBits t) i (onesFrom s i (msgBits t) 32 0) (restFrom s i (msgBits t) 32 0) (pathOf s i) = rootOf s:=by
  unfold leadsOf
  have e:=lead_key s i (msgBits t) (msgBit t) 32 0 (⟨#[107,101,121]⟩ : ByteArray) (by omega)
  rw [show ((0 : Nat) : Int) = 0 from rfl] at e
  rw [e]
  have e2 : Sha.sha (keyText s i 32 0 (⟨#[107,101,121]⟩ : ByteArray)) = rdOf ByteArray.empty (keysOf s) i:=by rw [key8_at s i h0 h7,keyOf]
  rw [e2,pathOf_L]
  unfold rootOf
  rw [keys8]
  exact climb8 _ _ _ _ _ _ _ _ i h0 h7
theorem path_sizes (s : ByteArray) (i : Int) (h0 : 0 ≤ i) (h7 : i ≤ 7) : (pathOf s i).all (fun s => decide ((s.size : Int) = 32)) = true:=by
  rw [pathOf_L,keys8]
  exact path8_sizes _ _ _ _ _ _ _ _ (keyOf_size _ _) (keyOf_size _ _) (keyOf_size _ _) (keyOf_size _ _) (keyOf_size _ _) (keyOf_size _ _) (keyOf_size _ _) (keyOf_size _ _) i h0 h7
theorem check_right (a0 a1 : ByteArray) (n : Int) (o r p : List ByteArray) (h1 : a1.size ≤ 65530) (hA : a0.size = 32) (hB : hashesB o 32 = true) (hC : hashesB r 32 = true) (hD : hashesB p 3 = true) (n0 : 0 ≤ n) (n7 : n ≤ 7) (hL : leadsOf (msgBits a1) n o r p = a0) (k : Nat) (hk : 1010 ≤ k) :
    impl_CheckSignature.f k a0 a1 n o r p = some 0:=by
  obtain ⟨k,rfl⟩ : ∃ m,k = m + 1 + 1:=⟨k - 2,by omega⟩
  unfold impl_CheckSignature.f
  rw [areLong_one,Option.bind_some,if_neg (by rw [decide_eq_true_eq];omega),impl_CheckSignature.j0,if_neg (by rw [decide_eq_true_eq];omega)]
  unfold impl_isHash.f
  rw [impl_areHashes_tells,impl_areHashes_tells,impl_areHashes_tells]
  simp only [Option.bind_some]
  have hA' : ((a0.size : Int) == 32) = true:=by rw [hA];rfl
  rw [if_pos hA',hB,if_pos rfl,hC,if_pos rfl,hD,impl_CheckSignature.j1,if_neg (by simp)]
  unfold impl_isIndex.f
  rw [within_tells,Option.bind_some,Option.bind_some,if_pos (by rw [Bool.and_eq_true,decide_eq_true_eq,decide_eq_true_eq];omega)]
  obtain ⟨o1,o2⟩:=hashesB_true hB
  obtain ⟨r1,r2⟩:=hashesB_true hC
  obtain ⟨p1,p2⟩:=hashesB_true hD
  have hz:=msgBits_size a1
  have e2 : impl_KeySignature_leads.f k n o r p a1 = some (leadsOf (msgBits a1) n o r p):=by
    unfold impl_KeySignature_leads.f
    rw [impl_messageBits_tells a1 (by omega) k (by omega),Option.bind_some,if_pos (by omega),Option.bind_some,bytesOf_length,hz]
    exact leads_impl (msgBits a1) hz n n0 n7 o r p o1 r1 p1 o2 r2 p2 32 k 0 (⟨#[107,101,121]⟩ : ByteArray) (by omega) (by omega) rfl (by omega)
  rw [e2,Option.bind_some,hL,if_pos rfl]

/-! snippet sameS -/
theorem sameT_l0 (l : List ByteArray) (hl : l.length ≤ 1048576) (d : Nat) : ∀ (k : Nat) (i : Nat),l.length = i + d → d < k → laws_sameTexts.l0 k l l i = some true:=by
  induction d with
  | zero =>
    intro k i hd hk
    obtain ⟨k,rfl⟩ : ∃ m,k = m + 1:=⟨k - 1,by omega⟩
    rw [laws_sameTexts.l0,if_neg (by omega)]
  | succ d ih =>
    intro k i hd hk
    obtain ⟨k,rfl⟩ : ∃ m,k = m + 1:=⟨k - 1,by omega⟩
    rw [laws_sameTexts.l0,if_pos (by omega),if_pos (by omega),if_pos (by omega),if_pos rfl,wrap_id (x:=(i : Int) + 1) (by omega) (by omega)]
    exact ih k (i + 1) (by omega) (by omega)
theorem sameT_tells (l : List ByteArray) (hl : l.length ≤ 100) (k : Nat) (hk : 101 ≤ k) : laws_sameTexts.f k l l = some true:=by
  unfold laws_sameTexts.f
  rw [if_pos rfl]
  exact sameT_l0 l (by omega) l.length k 0 (by omega) (by omega)
theorem sameS_tells (n : Int) (o r p : List ByteArray) (h1 : o.length ≤ 100) (h2 : r.length ≤ 100) (h3 : p.length ≤ 100) (k : Nat) (hk : 101 ≤ k) : laws_sameSignature.f k n o r p n o r p = some true:=by
  unfold laws_sameSignature.f
  rw [sameT_tells o h1 k hk,sameT_tells r h2 k hk,sameT_tells p h3 k hk]
  simp

/-! snippet u8r -/
theorem u8_range {xs : List Int} (hw : ∀ x ∈ xs,(Lit.int .u8 x).wf = true) : ∀ x ∈ xs,0 ≤ x ∧ x < 256:=by
  intro x hx
  have:=hw x hx
  simp only [Lit.wf,Bool.and_eq_true,decide_eq_true_eq] at this
  have e1 : IntKind.u8.min = 0:=rfl
  have e2 : IntKind.u8.max = 255:=rfl
  omega

/-! snippet FnLamport -/
theorem getD_small (L : List ByteArray) (h : ∀ x ∈ L,x.size ≤ 20) (i : Nat) : (L.getD i ByteArray.empty).size ≤ 20:=by
  rw [List.getD_eq_getElem?_getD]
  by_cases hi : i < L.length
  · rw [List.getElem?_eq_getElem hi,Option.getD_some]
    exact h _ (List.getElem_mem hi)
  · rw [List.getElem?_eq_none (by omega)]
    exact Nat.zero_le _
theorem msgF_small (l : List Int) : (Src.msgF l).size ≤ 20:=by
  unfold Src.msgF
  have hb : (strOfNums (Src.bytesF l 20 0 ((l.length : Int) % 1000)).1).size ≤ 20:=by
    rw [strOfNums_size]
    unfold Src.bytesF
    rw [Src.drawsF_length]
    omega
  generalize strOfNums (Src.bytesF l 20 0 ((l.length : Int) % 1000)).1 = X at hb ⊢
  refine getD_small _ ?_ _
  intro x hx
  simp only [List.mem_cons,List.not_mem_nil,or_false] at hx
  rcases hx with rfl|rfl|rfl|rfl|rfl
  · exact Nat.zero_le _
  · exact show 7 ≤ 20 by decide
  · exact show 7 ≤ 20 by decide
  · exact show 9 ≤ 20 by decide
  · exact hb
theorem root_both (s : ByteArray) (hs : s.size = 32) (k : Nat) (hk : 138 ≤ k) : spec_ChainRoot.f k s = some (rootOf s,0) ∧ impl_ChainRoot.f k s = some (rootOf s,0):=by
  have e1:=spec_keys_tells s (by omega) k hk
  have e2:=impl_keys_tells s (by omega) k hk
  have e3:=root_spec s k (by omega)
  have e4:=root_impl s k (by omega)
  generalize keysOf s = L at e1 e2 e3 e4
  generalize rootOf s = R at e3 e4 ⊢
  unfold spec_ChainRoot.f impl_ChainRoot.f impl_isHash.f impl_chainRoot.f
  rw [areLong_one]
  simp only [e1,e2,e3,e4,Option.bind_some]
  refine ⟨?_,?_⟩
  · rw [if_neg (by omega),if_pos (by omega)]
  · simp [hs]
theorem signAt_right (s : ByteArray) (hs : s.size = 32) (i : Int) (h0 : 0 ≤ i) (h7 : i ≤ 7) (t : ByteArray) (ht : t.size ≤ 1000) (k : Nat) (hk : 402 ≤ k) :
    spec_SignAt.f k s i t = some (i,onesFrom s i (msgBits t) 32 0,restFrom s i (msgBits t) 32 0,pathOf s i,0) ∧ impl_SignAt.f k s i t = some (i,onesFrom s i (msgBits t) 32 0,restFrom s i (msgBits t) 32 0,pathOf s i,0):=by
  have hz:=msgBits_size t
  have e1 : ∀ k,400 ≤ k → spec_l03Sign.f k s i t = some (i,onesFrom s i (msgBits t) 32 0,restFrom s i (msgBits t) 32 0,pathOf s i):=by
    intro k hk
    unfold spec_l03Sign.f
    rw [spec_l03Bits_tells t (by omega) k (by omega),Option.bind_some]
    exact sign_spec s (by omega) i h0 h7 _ hz 32 k 0 [] [] (by omega) (by omega) (by simp) (by simp) (by omega)
  have e2 : ∀ k,400 ≤ k → impl_signAt.f k s i t = some (i,onesFrom s i (msgBits t) 32 0,restFrom s i (msgBits t) 32 0,pathOf s i):=by
    intro k hk
    unfold impl_signAt.f
    rw [impl_messageBits_tells t (by omega) k (by omega),Option.bind_some,if_pos (by omega),Option.bind_some,bytesOf_length,hz]
    exact sign_impl s (by omega) i h0 h7 _ hz 32 k 0 [] [] (by omega) (by omega) (by simp) (by simp) (by omega)
  generalize onesFrom s i (msgBits t) 32 0 = o at e1 e2 ⊢
  generalize restFrom s i (msgBits t) 32 0 = r at e1 e2 ⊢
  generalize pathOf s i = p at e1 e2 ⊢
  have hA' : ((s.size : Int) == 32) = true:=by rw [hs];rfl
  have hE : (decide ((0 : Int) ≤ i) && decide (i ≤ 7)) = true:=by rw [Bool.and_eq_true,decide_eq_true_eq,decide_eq_true_eq];omega
  unfold spec_SignAt.f impl_SignAt.f
  simp only [areLong_one,Option.bind_some,specIn_tells]
  refine ⟨?_,?_⟩
  · rw [if_neg (by omega),if_neg (by omega),if_pos (by omega),if_pos hE,e1 k (by omega),Option.bind_some]
  · obtain ⟨k,rfl⟩ : ∃ m,k = m + 1:=⟨k - 1,by omega⟩
    rw [if_neg (by rw [decide_eq_true_eq];omega),impl_SignAt.j0,if_neg (by rw [decide_eq_true_eq];omega)]
    unfold impl_isHash.f impl_isIndex.f
    rw [Option.bind_some,if_pos hA',within_tells,Option.bind_some,Option.bind_some,if_pos hE,e2 k (by omega),Option.bind_some]
theorem secretAt_right (s : ByteArray) (hs : s.size = 32) (i j v : Int) (i0 : 0 ≤ i) (i7 : i ≤ 7) (j0 : 0 ≤ j) (j1 : j ≤ 31) (v0 : 0 ≤ v) (v1 : v ≤ 1) (k : Nat) (hk : 2 ≤ k) : impl_SecretAt.f k s i j v = some (secretOf s i j v,0):=by
  have e:=impl_secret_tells s (by omega) i j v k (by omega)
  generalize secretOf s i j v = S at e ⊢
  unfold impl_SecretAt.f impl_isHash.f impl_isIndex.f
  rw [areLong_one]
  have hA' : ((s.size : Int) == 32) = true:=by rw [hs];rfl
  have b1 : (decide ((0 : Int) ≤ i) && decide (i ≤ 7)) = true:=by rw [Bool.and_eq_true,decide_eq_true_eq,decide_eq_true_eq];omega
  have b2 : (decide ((0 : Int) ≤ j) && decide (j ≤ 31)) = true:=by rw [Bool.and_eq_true,decide_eq_true_eq,decide_eq_true_eq];omega
  have b3 : (decide ((0 : Int) ≤ v) && decide (v ≤ 1)) = true:=by rw [Bool.and_eq_true,decide_eq_true_eq,decide_eq_true_eq];omega
  simp only [within_tells,e,Option.bind_some]
  rw [if_neg (by rw [decide_eq_true_eq];omega),if_pos hA',if_pos b1,if_pos b2,if_pos b3]
theorem hash_right (b : ByteArray) (hb : b.size ≤ 1000) : impl_Hash.f (bytesOf b) = some (Sha.sha b):=by
  unfold impl_Hash.f impl_hash.f
  rw [if_neg (by rw [bytesOf_length];omega),Sha.nums_bytesOf,if_pos (by omega),Option.bind_some]
theorem FnLamport (x0 : List Int) (x1 : List Int) (gx0 : (x0.length ≤ 9223372036854775807 ∧ ∀ y ∈ x0,(Lit.int .u8 y).wf = true)) (gx1 : (x1.length ≤ 9223372036854775807 ∧ ∀ y ∈ x1,(Lit.int .u8 y).wf = true)) : ∃ k,laws_FnLamport.f k x0 x1 = some true:=by
  obtain ⟨K,hK⟩ : ∃ K : Nat,3000 ≤ K:=⟨3000,Nat.le_refl _⟩
  refine ⟨K + 1 + 1 + 1 + 1,?_⟩
  unfold laws_FnLamport.f
  by_cases h : (x0.length : Int) > 1048576
  · rw [if_pos h,laws_FnLamport.j0,if_pos rfl]
  rw [if_neg h,laws_FnLamport.j0]
  by_cases h' : (x1.length : Int) > 1048576
  · rw [if_pos (decide_eq_true h')]
  rw [if_neg (by simpa using h')]
  obtain ⟨s,es,hs⟩ : ∃ s,spec_SeedOf.f x0 = some s ∧ s.size = 32:=by
    refine ⟨Src.seedF x0,?_,Sha.sha_size (strOfNums [(Src.byteF x0 0 ((x0.length : Int) % 1000)).1 % 250])⟩
    unfold spec_SeedOf.f
    rw [if_pos ⟨by omega,fun x hx => by have:=u8_range gx0.2 x hx;omega⟩]
  obtain ⟨t,et,ht⟩ : ∃ t,spec_MsgOf.f x1 = some t ∧ t.size ≤ 20:=by
    refine ⟨Src.msgF x1,?_,msgF_small x1⟩
    unfold spec_MsgOf.f
    rw [if_pos ⟨by omega,fun x hx => by have:=u8_range gx1.2 x hx;omega⟩]
  obtain ⟨i,ei,i0,i8⟩:=at_tells x1 (by omega) gx1.2 0 8 (by omega) (by omega) (by omega)
  obtain ⟨j,ej,j0,j32⟩:=at_tells x1 (by omega) gx1.2 1 32 (by omega) (by omega) (by omega)
  obtain ⟨q,eq,q0,q8⟩:=at_tells x1 (by omega) gx1.2 2 8 (by omega) (by omega) (by omega)
  obtain ⟨r1,r2⟩:=root_both s hs (K + 1 + 1 + 1) (by omega)
  obtain ⟨s1,s2⟩:=signAt_right s hs i i0 (by omega) t (by omega) (K + 1 + 1 + 1) (by omega)
  have hL:=leads_right s i i0 (by omega) t
  have hRs : (rootOf s).size = 32:=by
    have:=leads_right s i i0 (by omega) t
    unfold leadsOf at this
    rw [← this,climb,climb,climb,climb]
    split <;> exact nodeOf_size _ _
  have o32:=onesFrom_length s i (msgBits t) 32 0
  have r32:=restFrom_length s i (msgBits t) 32 0
  have p3 : (pathOf s i).length = 3:=rfl
  have hB : hashesB (onesFrom s i (msgBits t) 32 0) 32 = true:=by unfold hashesB;rw [ones_sizes,o32];rfl
  have hC : hashesB (restFrom s i (msgBits t) 32 0) 32 = true:=by unfold hashesB;rw [rest_sizes,r32];rfl
  have hD : hashesB (pathOf s i) 3 = true:=by unfold hashesB;rw [path_sizes s i i0 (by omega),p3];rfl
  have hok:=check_right (rootOf s) t i _ _ _ (by omega) hRs hB hC hD i0 (by omega) hL (K + 1 + 1 + 1) (by omega)
  have a1:=ones_at s i (msgBits t) 32 0 j.toNat (by omega)
  have a2:=rest_at s i (msgBits t) 32 0 j.toNat (by omega)
  rw [show (0 : Int) + ((j.toNat : Nat) : Int) = j by omega,show ((j.toNat : Nat) : Int) = j by omega] at a1 a2
  have hbit:=msgBit t j.toNat (by omega)
  rw [show ((j.toNat : Nat) : Int) = j by omega] at hbit
  have hmb : impl_MessageBits.f (K + 1 + 1) t = some (msgBits t,0):=by
    unfold impl_MessageBits.f
    rw [if_neg (by omega),impl_messageBits_tells t (by omega) _ (by omega),Option.bind_some]
  have hz:=msgBits_size t
  clear hL hB hC hD
  generalize rootOf s = R at r1 r2 hok hRs ⊢
  generalize onesFrom s i (msgBits t) 32 0 = O at s1 s2 hok o32 a1 ⊢
  generalize restFrom s i (msgBits t) 32 0 = E at s1 s2 hok r32 a2 ⊢
  generalize pathOf s i = P at s1 s2 hok p3 ⊢
  rw [es,Option.bind_some,et,Option.bind_some,ei,Option.bind_some,r2,Option.bind_some,r1,Option.bind_some,s2,Option.bind_some,s1,Option.bind_some]
  dsimp only
  rw [if_pos rfl,if_pos rfl,if_pos rfl,sameS_tells i O E P (by omega) (by omega) (by omega) _ (by omega),Option.bind_some,if_pos rfl,hok,Option.bind_some]
  rw [laws_FnLamport.j1,if_neg (by simp),hmb,Option.bind_some,ej,Option.bind_some]
  dsimp only
  generalize msgBits t = B at a1 a2 hbit hz ⊢
  rw [if_pos rfl,laws_FnLamport.j2,if_neg (by rw [hz];simp),if_pos j0,if_pos (by omega)]
  have v1 : (bt B j - 48) % 256 = 0 ∨ (bt B j - 48) % 256 = 1:=by omega
  generalize (bt B j - 48) % 256 = v at v1 a1 a2 ⊢
  have w1 : wrap64 (1 - v) = 1 - v:=wrap_id (by omega) (by omega)
  rw [w1] at a2 ⊢
  have c1:=secretAt_right s hs i j v i0 (by omega) j0 (by omega) (by omega) (by omega) (K + 1) (by omega)
  have c2:=secretAt_right s hs i j (1 - v) i0 (by omega) j0 (by omega) (by omega) (by omega) (K + 1) (by omega)
  have z2:=secretOf_size s i j (1 - v)
  generalize secretOf s i j v = S1 at c1 a1
  generalize secretOf s i j (1 - v) = S2 at c2 a2 z2
  have c3:=hash_right S2 (by omega)
  generalize Sha.sha S2 = S3 at c3 a2
  rw [c1,Option.bind_some,c2,Option.bind_some]
  dsimp only
  rw [if_pos rfl,if_pos rfl,if_pos (by omega),a1,if_pos rfl,if_pos (by omega),if_pos (by omega),c3,Option.bind_some,a2,laws_FnLamport.j3,if_neg (by simp),if_pos (by omega)]
  obtain ⟨u1,d1,d2⟩:=check_both R (t ++ (⟨#[33]⟩ : ByteArray)) i O E P (by rw [ByteArray.size_append];show t.size + 1 ≤ _;omega) K (by omega)
  obtain ⟨u2,d3,d4⟩:=check_both R t q O E P (by omega) K (by omega)
  rw [d2,Option.bind_some,d1,Option.bind_some,if_pos rfl,eq,Option.bind_some,d4,Option.bind_some,d3,Option.bind_some]
  simp

end Go.Proofs.YtmkaknegjahjaaaDoor.Pure
