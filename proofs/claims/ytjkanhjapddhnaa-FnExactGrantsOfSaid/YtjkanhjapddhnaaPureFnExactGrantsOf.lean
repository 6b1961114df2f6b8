/- The statement FnExactGrantsOf: what the given program's printed functions answer, as the law asks; no condition. -/
-- squeezed
import Derived.Test.YtjkanhjapddhnaaLawGR
set_option linter.unusedVariables false
set_option linter.unusedSimpArgs false
namespace Go.Proofs.Ytjkanhjapddhnaa.Pure
open Go.RowKit Go.Proofs.Ytjkanhjapddhnaa.PFnExactRunRequests Go.Proofs.YtjkanhjapddhnaaV.PrintWords Go.Proofs.YtjkanhjapddhnaaV.PrintLast Go.Proofs.YtjkanhjapddhnaaV.PrintMore
theorem wrap_id {x : Int} (h1 : -9223372036854775808 ≤ x) (h2 : x ≤ 9223372036854775807) : wrap64 x = x:=by
 unfold wrap64
 omega
theorem nat_pos_succ {k d : Nat} (h : d < k) : ∃ m,k = m + 1:=⟨k - 1,by omega⟩
theorem set_take {xs ys : List Int} {i : Nat} (h : ys.take i = xs.take i) (hi : i < xs.length) (hl : ys.length = xs.length) : (ys.set i (rd xs i)).take (i + 1) = xs.take (i + 1):=by
 have e : rd xs i = xs[i]:=by unfold rd;simp [List.getD_eq_getElem?_getD,hi]
 rw [List.take_succ_eq_append_getElem (by rw [List.length_set];omega),List.take_succ_eq_append_getElem hi,List.getElem_set_self,e,List.take_set_of_le (Nat.le_refl _),h]
theorem toIntS_l0 (xs : List Int) (hx : xs.length ≤ 1048576) (d : Nat) : ∀ (k : Nat) (ys : List Int) (i : Nat),xs.length - i = d → i ≤ xs.length → ys.length = xs.length → ys.take i = xs.take i → d < k → laws_toIntS.l0 k xs ys i = some xs:=by
 induction d with
 | zero =>
  intro k ys i hd hi hl ht hk
  obtain ⟨k,rfl⟩:=nat_pos_succ hk
  rw [laws_toIntS.l0,if_neg (by omega)]
  rw [List.take_of_length_le (by omega),List.take_of_length_le (by omega)] at ht
  rw [ht]
 | succ d ih =>
  intro k ys i hd hi hl ht hk
  obtain ⟨k,rfl⟩:=nat_pos_succ hk
  rw [laws_toIntS.l0,if_pos (by omega),if_pos (by omega),if_pos (by omega),wrap_id (by omega) (by omega),show ((i : Int) + 1) = ((i + 1 : Nat) : Int) by omega,show ((i : Int)).toNat = i by omega]
  exact ih k _ (i + 1) (by omega) (by omega) (by rw [List.length_set];exact hl) (set_take ht (by omega) hl) (by omega)
theorem toIntS_tells (xs : List Int) (hx : xs.length ≤ 1048576) (k : Nat) (hk : xs.length < k) : laws_toIntS.f k xs = some xs:=by
 unfold laws_toIntS.f
 rw [if_pos (by omega),if_pos (by omega)]
 exact toIntS_l0 xs hx xs.length k _ 0 (by omega) (by omega) (by rw [List.length_replicate];omega) (by simp) hk
theorem eqIntS_l0 (xs : List Int) (hx : xs.length ≤ 1048576) (d : Nat) : ∀ (k : Nat) (i : Nat),xs.length - i = d → i ≤ xs.length → d < k → laws_eqIntS.l0 k xs xs i = some true:=by
 induction d with
 | zero =>
  intro k i hd hi hk
  obtain ⟨k,rfl⟩:=nat_pos_succ hk
  rw [laws_eqIntS.l0,if_neg (by omega)]
 | succ d ih =>
  intro k i hd hi hk
  obtain ⟨k,rfl⟩:=nat_pos_succ hk
  rw [laws_eqIntS.l0,if_pos (by omega),if_pos (by omega),if_pos (by omega),if_pos rfl,wrap_id (by omega) (by omega),show ((i : Int) + 1) = ((i + 1 : Nat) : Int) by omega]
  exact ih k (i + 1) (by omega) (by omega) (by omega)
theorem eqIntS_same (xs : List Int) (hx : xs.length ≤ 1048576) (k : Nat) (hk : xs.length < k) : laws_eqIntS.f k xs xs = some true:=by
 unfold laws_eqIntS.f
 rw [if_pos rfl]
 exact eqIntS_l0 xs hx xs.length k 0 (by omega) (by omega) hk
def mdig : Nat → Int → ByteArray → ByteArray
 | 0,_,t => (⟨#[109]⟩ : ByteArray) ++ t
 | d + 1,a,t => if a > 0 then mdig d (a / 10) (strOfNums [(48 + a % 10) % 256] ++ t) else (⟨#[109]⟩ : ByteArray) ++ t
theorem mdigB_l0 (d : Nat) : ∀ (k : Nat) (a : Int) (t : ByteArray),0 ≤ a → a < 10 ^ d → a ≤ 4611686018427387904 → t.size + d ≤ 100 → d < k → laws_markText.l0 k a t = some (mdig d a t):=by
 induction d with
 | zero =>
  intro k a t h0 h1 hb ht hk
  obtain ⟨k,rfl⟩ : ∃ m,k = m + 1:=⟨k - 1,by omega⟩
  have h1' : a < 1:=h1
  rw [laws_markText.l0,if_neg (by omega),if_pos (by omega),mdig]
 | succ d ih =>
  intro k a t h0 h1 hb ht hk
  obtain ⟨k,rfl⟩ : ∃ m,k = m + 1:=⟨k - 1,by omega⟩
  rw [laws_markText.l0,mdig]
  by_cases h : a > 0
  ·
   have hz : (strOfNums [(48 + a % 10) % 256]).size = 1:=by rw [strOfNums_size];rfl
   rw [if_pos h,if_pos h,Option.bind_some,Int.tmod_eq_emod_of_nonneg h0,Int.tdiv_eq_ediv_of_nonneg h0,wrap_id (x:=48 + a % 10) (by omega) (by omega),wrap_id (x:=a / 10) (by omega) (by omega),if_pos (by omega)]
   exact ih k (a / 10) _ (by omega) (Int.ediv_lt_of_lt_mul (by decide) (by rw [← Int.pow_succ];exact h1)) (by omega) (by rw [ByteArray.size_append,hz];omega) (by omega)
  ·
   rw [if_neg h,if_neg h,if_pos (by omega)]
def mbig (a : Int) : ByteArray:=if a ≤ 0 then (⟨#[109,48]⟩ : ByteArray) else mdig 19 a (⟨#[]⟩ : ByteArray)
theorem markBig_tells (a : Int) (h0 : 0 ≤ a) (h1 : a ≤ 4611686018427387904) (k : Nat) (hk : 20 ≤ k) : laws_markText.f k a = some (mbig a):=by
 unfold laws_markText.f mbig
 by_cases h : a ≤ 0
 ·
  rw [if_pos h,if_pos h]
 ·
  rw [if_neg h,if_neg h]
  exact mdigB_l0 19 k a _ h0 (Int.lt_of_le_of_lt h1 (by decide)) h1 (by decide) (by omega)
abbrev LR:=S90
abbrev IR:=S94
theorem rdLR_at (l : List LR) (i : Nat) (hi : i < l.length) : rd_T90 l (i : Int) = l[i]:=by
 unfold rd_T90
 simp [List.getD_eq_getElem?_getD,hi]
def toRq (x : LR) : IR:=⟨x.f0,x.f1,x.f2,x.f3,x.f4⟩
theorem szRq_l0 (l : List LR) (hl : l.length ≤ 1048576) (hy : ∀ y ∈ l,y.f4.size ≤ 9223372036854775807) (d : Nat) : ∀ (k : Nat) (x : Int) (i : Nat),l.length = i + d → 0 ≤ x → x ≤ 1048576 → d < k → (∀ j (hj : j < l.length),j < i → (l[j]).f4.size ≤ 1048576) → ∃ v,laws_szRequestS.l0 k l x i = some v ∧ (v < 0 ∨ (0 ≤ v ∧ ∀ y ∈ l,y.f4.size ≤ 1048576)):=by
 induction d with
 | zero =>
  intro k x i hd h0 h1 hk hs
  obtain ⟨k,rfl⟩ : ∃ m,k = m + 1:=⟨k - 1,by omega⟩
  refine ⟨x,by rw [laws_szRequestS.l0,if_neg (by omega)],Or.inr ⟨h0,fun y hy => ?_⟩⟩
  obtain ⟨j,hj,rfl⟩:=List.mem_iff_getElem.1 hy
  exact hs j hj (by omega)
 | succ d ih =>
  intro k x i hd h0 h1 hk hs
  obtain ⟨k,rfl⟩ : ∃ m,k = m + 1:=⟨k - 1,by omega⟩
  have hi : i < l.length:=by omega
  have hz:=hy _ (List.getElem_mem hi)
  rw [laws_szRequestS.l0,if_pos (by omega),if_pos (by omega),rdLR_at l i hi]
  unfold laws_szRequest.f
  rw [wrap_id (x:=x - _) (by omega) (by omega)]
  by_cases hn : x - (l[i].f4.size : Int) < 0
  ·
   rw [if_pos hn,Option.bind_some,if_pos (by decide)]
   exact ⟨-1,rfl,Or.inl (by decide)⟩
  ·
   rw [if_neg hn,Option.bind_some,if_neg hn,wrap_id (x:=(i : Int) + 1) (by omega) (by omega)]
   refine ih k (x - (l[i].f4.size : Int)) (i + 1) (by omega) (by omega) (by omega) (by omega) (fun j hj hji => ?_)
   by_cases hje : j = i
   ·
    subst hje;omega
   ·
    exact hs j hj (by omega)
theorem szRq_tells (l : List LR) (hl : l.length ≤ 9223372036854775807) (hy : ∀ y ∈ l,y.f4.size ≤ 9223372036854775807) (k : Nat) (hk : 1048577 ≤ k) : ∃ v,laws_szRequestS.f k l 1048576 = some v ∧ (v < 0 ∨ (0 ≤ v ∧ l.length ≤ 1048576 ∧ ∀ y ∈ l,y.f4.size ≤ 1048576)):=by
 unfold laws_szRequestS.f
 rw [wrap_id (x:=1048576 - _) (by omega) (by omega)]
 by_cases hn : 1048576 - (l.length : Int) < 0
 ·
  rw [if_pos hn]
  exact ⟨-1,rfl,Or.inl (by decide)⟩
 ·
  rw [if_neg hn]
  obtain ⟨v,e,hv⟩:=szRq_l0 l (by omega) hy l.length k (1048576 - (l.length : Int)) 0 (by omega) (by omega) (by omega) (by omega) (fun j hj h => by omega)
  exact ⟨v,e,hv.imp id fun ⟨a,b⟩ => ⟨a,by omega,b⟩⟩
theorem toRq_l0 (l : List LR) (hl : l.length ≤ 1048576) (d : Nat) : ∀ (k : Nat) (x : List IR) (i : Nat),l.length = i + d → x.length = l.length → x.take i = (l.map toRq).take i → d < k → laws_toRequestS.l0 k l x i = some (l.map toRq):=by
 have hr : (l.map toRq).length = l.length:=List.length_map _
 induction d with
 | zero =>
  intro k x i hd hx ht hk
  obtain ⟨k,rfl⟩ : ∃ m,k = m + 1:=⟨k - 1,by omega⟩
  rw [laws_toRequestS.l0,if_neg (by omega)]
  rw [List.take_of_length_le (by omega),List.take_of_length_le (by omega)] at ht
  rw [ht]
 | succ d ih =>
  intro k x i hd hx ht hk
  obtain ⟨k,rfl⟩ : ∃ m,k = m + 1:=⟨k - 1,by omega⟩
  have hi : i < l.length:=by omega
  rw [laws_toRequestS.l0,if_pos (by omega),if_pos (by omega),rdLR_at l i hi]
  unfold laws_toRequest.f
  rw [Option.bind_some]
  dsimp only
  rw [if_pos (by omega),wrap_id (x:=(i : Int) + 1) (by omega) (by omega)]
  refine ih k _ (i + 1) (by omega) (by rw [List.length_set,hx]) ?_ (by omega)
  rw [Int.toNat_natCast,List.take_succ_eq_append_getElem (by rw [List.length_set];omega),List.take_succ_eq_append_getElem (by omega),List.getElem_set_self,List.take_set_of_le (Nat.le_refl i),ht,List.getElem_map]
  rfl
theorem toRq_tells (l : List LR) (hl : l.length ≤ 1048576) (k : Nat) (hk : 1048577 ≤ k) : laws_toRequestS.f k l = some (l.map toRq):=by
 unfold laws_toRequestS.f
 rw [if_pos (by omega),if_pos (by omega)]
 exact toRq_l0 l hl l.length k _ 0 (by omega) (by rw [List.length_replicate];omega) rfl (by omega)
theorem eqRq_l0 (l : List IR) (hl : l.length ≤ 1048576) (d : Nat) : ∀ (k : Nat) (i : Nat),l.length = i + d → d < k → laws_eqRequestS.l0 k l l i = some true:=by
 induction d with
 | zero =>
  intro k i hd hk
  obtain ⟨k,rfl⟩ : ∃ m,k = m + 1:=⟨k - 1,by omega⟩
  rw [laws_eqRequestS.l0,if_neg (by omega)]
 | succ d ih =>
  intro k i hd hk
  obtain ⟨k,rfl⟩ : ∃ m,k = m + 1:=⟨k - 1,by omega⟩
  rw [laws_eqRequestS.l0,if_pos (by omega),if_pos (by omega),if_pos (by omega)]
  unfold laws_eqRequest.f
  rw [if_pos rfl,if_pos rfl,if_pos rfl,if_pos rfl,if_pos rfl,Option.bind_some,if_pos rfl,wrap_id (x:=(i : Int) + 1) (by omega) (by omega)]
  exact ih k (i + 1) (by omega) (by omega)
theorem eqRq_same (l : List IR) (hl : l.length ≤ 1048576) (k : Nat) (hk : 1048577 ≤ k) : laws_eqRequestS.f k l l = some true:=by
 unfold laws_eqRequestS.f
 rw [if_pos rfl]
 exact eqRq_l0 l hl l.length k 0 (by omega) (by omega)
theorem FnExactGrantsOf (x0 : List LR) (x1 : List Int) (gx0 : x0.length ≤ 9223372036854775807) (gs : ∀ y ∈ x0,y.f4.size ≤ 9223372036854775807) :
  ∃ k,(1048576 < x1.length ∨ (x1.length ≤ 1048576 ∧ ∃ r,laws_szRequestS.f k x0 1048576 = some r ∧ r < 0)) ∨
   ∃ (r : Int) (m : List IR) (mt : Int → ByteArray),laws_szRequestS.f k x0 1048576 = some r ∧ 0 ≤ r ∧ x1.length ≤ 1048576 ∧ laws_toRequestS.f k x0 = some m ∧ laws_toIntS.f k x1 = some x1 ∧ laws_eqRequestS.f k m m = some true ∧ laws_eqIntS.f k x1 x1 = some true ∧
    (∀ j : Int,0 ≤ j → j ≤ 4611686018427387904 → laws_markText.f k j = some (mt j)) ∧ m.length ≤ 1048576 ∧ ∀ r ∈ m,r.f4.size ≤ 140737488351232:=by
 obtain ⟨k,hk⟩ : ∃ K : Nat,2097160 ≤ K:=⟨_,Nat.le_refl _⟩
 refine ⟨k,?_⟩
 by_cases ht : 1048576 < x1.length
 ·
  exact .inl (.inl ht)
 obtain ⟨v,e,hv⟩:=szRq_tells x0 gx0 gs k (by omega)
 rcases hv with hv|⟨h0,hl,hy⟩
 ·
  exact .inl (.inr ⟨by omega,v,e,hv⟩)
 have hm : (x0.map toRq).length = x0.length:=List.length_map _
 refine .inr ⟨v,x0.map toRq,mbig,e,h0,by omega,toRq_tells x0 hl k (by omega),toIntS_tells x1 (by omega) k (by omega),eqRq_same _ (by omega) k (by omega),eqIntS_same x1 (by omega) k (by omega),fun j h1 h2 => markBig_tells j h1 h2 k (by omega),by omega,fun r hr => ?_⟩
 obtain ⟨y,hy',rfl⟩:=List.mem_map.1 hr
 have:=hy y hy'
 show y.f4.size ≤ _
 omega
end Go.Proofs.Ytjkanhjapddhnaa.Pure
