/- The implementation's Lock.waits, walked by hand. No condition. -/
-- squeezed
import Derived.Test.YtjkanhjapddhnaaTb
import Derived.Test.YtjkanhjapddhnaaProg
import Derived.Deep.LoopGhost
import Derived.WalkKit
import Derived.Test.YtjkanhjapddhnaaFind
import Derived.Test.YtjkanhjapddhnaaGo
namespace Go.Proofs.Ytjkanhjapddhnaa.Pos
open Go.RowKit Go.Proofs.YtjkanhjapddhnaaV.PrintWords Go.Proofs.YtjkanhjapddhnaaV.PrintMore Go.Lib Go.Proofs.Ytjkanhjapddhnaa.PFnExactRunRequests
set_option linter.unusedVariables false
set_option linter.unusedSimpArgs false
set_option linter.unnecessarySimpa false
set_option maxHeartbeats 20000000
set_option maxRecDepth 100000
def waitsF (c : Int) : List S73 → Int → Int
 | [],_ => -1
 | s :: l,i => if s.f0 = c then i else waitsF c l (i + 1)
theorem waits1_calls (c0 l0 c : Int) (a : Addr) (w : World) (hc : w.cell? a = some (.int .i64 c)) : Calls Try.prog 106 #[.agg #[.int .i64 c0,.int .i64 l0],.pointer (some a)] w fun e w' => e = .returned (.bool (c0 == c)) ∧ Below w.heap.size w w':=by
 have HB0:=Aside0.mk ((Below.refl _ w).alloc (Nat.le_refl _) (.cells #[.int .i64 c0,.int .i64 l0] 73 (0,0)))
 have h2 : (w.alloc (.cells #[.int .i64 c0,.int .i64 l0] 73 (0,0))).cell? a = some (.int .i64 c):=pw_cell_below HB0.out hc
 clear hc
 go_enter Try.func106,Try.ntmps106
 go_wp2_with fail
 go_ret
 exact ⟨rfl,HB0.out⟩
theorem waitsI_calls (A : Option Addr) (c0 : Nat) (l : List S73) (c : Int) (a : Addr) (w : World) (hr : Kd.C k73 w A l.length l) (hc : w.cell? a = some (.int .i64 c)) :
  Calls Try.prog 105 #[.slice A l.length c0,.func (.func 106) #[] #[.pointer (some a)]] w fun e w' => e = .returned (.int .i64 (waitsF c l 0)) ∧ Below w.heap.size w w':=by
 have hn : l.length ≤ 9223372036854775807:=hr.2.1
 have HR:=Aside0.mk hr
 have HC:=Aside0.mk hc
 have HB0:=Aside0.mk (Below.refl w.heap.size w)
 clear hr hc
 go_enter Try.func105,Try.ntmps105
 go_wp2_with fail
 go_loopg [8] l.length (fun g v8 wx => ∃ k : Nat,v8 = .int .i64 k ∧ k ≤ l.length ∧ Aside0 (k + g = l.length) ∧ Aside0 (waitsF c l 0 = waitsF c (l.drop k) k) ∧ Aside0 (Below w.heap.size w wx))
 case atStart => exact ⟨0,rfl,Nat.zero_le _,⟨by omega⟩,⟨rfl⟩,HB0⟩
 case round =>
  clear HB0
  obtain ⟨k,rfl,hk,HM,hf,HB⟩:=hrel
  by_cases hlt : k < l.length
  ·
   obtain ⟨ad,eA,z0,z1⟩:=at_T73 (Kd.C_below HR.out HB.out) (k : Int) (by omega) (by omega)
   cases eA
   simp only [Int.toNat_natCast] at z0 z1
   have hd : Aside0 (l.drop k = rd_T73 l k :: l.drop (k + 1)):=⟨by rw [List.drop_eq_getElem_cons hlt];simp [rd_T73,hlt]⟩
   have q0 : ((k : Int) < (l.length : Int)) = True:=eq_true (by omega)
   have q1 : (0 ≤ (k : Int)) = True:=eq_true (by omega)
   have q2 : decide ((k : Int) < (l.length : Int)) = true:=decide_eq_true (by omega)
   have hcw:=Aside0.mk (pw_cell_below HB.out HC.out)
   by_cases hp : (rd_T73 l k).f0 = c
   ·
    have hb : Aside0 (((rd_T73 l k).f0 == c) = true):=⟨beq_iff_eq.2 hp⟩
    have hfin : Aside0 ((k : Int) = waitsF c l 0):=⟨by rw [hf.out,hd.out,waitsF,if_pos hp]⟩
    clear hp
    go_wp2_with (go_at_call 106;refine (waits1_calls _ _ _ _ _ hcw.out).mono ?_;rintro e w' ⟨rfl,hw⟩;rw [hb.out];have HW:=Aside0.mk (below_then HB.out HB.out.size hw);clear hw)
    go_ret
    exact ⟨congrArg (fun x => Ending.returned (.int .i64 x)) hfin.out,HW.out⟩
   ·
    have hb : Aside0 (((rd_T73 l k).f0 == c) = false):=⟨beq_eq_false_iff_ne.2 hp⟩
    have hfin : Aside0 (waitsF c l 0 = waitsF c (l.drop (k + 1)) ((k + 1 : Nat) : Int)):=⟨by rw [hf.out,hd.out,waitsF,if_neg hp];rfl⟩
    clear hp
    go_wp2_with (go_at_call 106;refine (waits1_calls _ _ _ _ _ hcw.out).mono ?_;rintro e w' ⟨rfl,hw⟩;rw [hb.out];have HW:=Aside0.mk (below_then HB.out HB.out.size hw);clear hw)
    go_roundg (gk - 1)
    case measure => have:=HM.out;omega
    case rel => exact ⟨k + 1,by go_num,by omega,⟨by have:=HM.out;omega⟩,hfin,HW⟩
  ·
   have hfin : Aside0 ((-1 : Int) = waitsF c l 0):=⟨by rw [hf.out,List.drop_eq_nil_of_le (by omega)];rfl⟩
   go_wp2_with fail
   go_ret
   exact ⟨congrArg (fun x => Ending.returned (.int .i64 x)) hfin.out,HB.out⟩
theorem waits_calls (s : ByteArray) (tok hol exp : Int) (A : Option Addr) (c0 : Nat) (l : List S73) (c : Int) (w : World) (hr : Kd.C k73 w A l.length l) :
  Calls Try.prog 76 #[.agg #[.string s,.int .i64 tok,.int .i64 hol,.int .i64 exp,.slice A l.length c0],.int .i64 c] w fun e w' => e = .returned (.int .i64 (waitsF c l 0)) ∧ Below w.heap.size w w':=by
 have HR:=Aside0.mk hr
 have HB:=Aside0.mk (((Below.refl _ w).alloc (Nat.le_refl _) (.cells #[.string s,.int .i64 tok,.int .i64 hol,.int .i64 exp,.slice A l.length c0] 70 (0,0))).alloc (by simp) (.cells #[.int .i64 c] 3 (0,0)))
 have HC : Aside0 (((w.alloc (.cells #[.string s,.int .i64 tok,.int .i64 hol,.int .i64 exp,.slice A l.length c0] 70 (0,0))).alloc (.cells #[.int .i64 c] 3 (0,0))).cell? ⟨w.heap.size + 1,0,none⟩ = some (.int .i64 c)):=⟨by
  simp⟩
 clear hr
 go_enter Try.func76,Try.ntmps76
 go_wp2_with fail
 refine (waitsI_calls _ _ _ _ _ _ (Kd.C_below HR.out HB.out) HC.out).mono ?_
 rintro e w' ⟨rfl,hb⟩
 have HW:=Aside0.mk (below_then HB.out HB.out.size hb)
 clear hb
 go_wp2_with fail
 go_ret
 exact ⟨rfl,HW.out⟩
end Go.Proofs.Ytjkanhjapddhnaa.Pos
namespace Go.Proofs.Ytjkanhjapddhnaa.Pu
open Go Go.Lib Go.Proofs.Ytjkanhjapddhnaa.Tb Go.Proofs.Ytjkanhjapddhnaa.Find Go.Proofs.Ytjkanhjapddhnaa.Gr Go.Proofs.Ytjkanhjapddhnaa.Gon Go.Proofs.Ytjkanhjapddhnaa.Pos Go.Proofs.Ytjkanhjapddhnaa.PFnExactRunRequests
set_option linter.unusedVariables false
set_option linter.unusedSimpArgs false
theorem cmp_lt : ∀ a b : List UInt8,compareBytes a b < 0 ↔ Op.bytesLess a b = true
 | [],[] => by simp [compareBytes,Op.bytesLess]
 | [],_ :: _ => by simp [compareBytes,Op.bytesLess]
 | _ :: _,[] => by simp [compareBytes,Op.bytesLess]
 | x :: a,y :: b => by
  have ih:=cmp_lt a b
  unfold compareBytes Op.bytesLess
  by_cases h : x < y
  ·
   simp [h]
  ·
   by_cases h' : y < x
   ·
    have hne : ¬ x = y:=fun e => by rw [e] at h';exact UInt8.lt_irrefl y h'
    simp [h,h',hne]
   ·
    have e : x = y:=by
     apply UInt8.le_antisymm
     ·
      exact UInt8.not_lt.1 h'
     ·
      exact UInt8.not_lt.1 h
    subst e
    simp [UInt8.lt_irrefl,ih]
theorem cmp_zero : ∀ a b : List UInt8,compareBytes a b = 0 ↔ a = b
 | [],[] => by simp [compareBytes]
 | [],_ :: _ => by simp [compareBytes]
 | _ :: _,[] => by simp [compareBytes]
 | x :: a,y :: b => by
  have ih:=cmp_zero a b
  unfold compareBytes
  by_cases h : x < y
  ·
   have hne : ¬ x = y:=fun e => by rw [e] at h;exact UInt8.lt_irrefl y h
   simp [h,hne]
  ·
   by_cases h' : y < x
   ·
    have hne : ¬ x = y:=fun e => by rw [e] at h';exact UInt8.lt_irrefl y h'
    simp [h,h',hne]
   ·
    have e : x = y:=by
     apply UInt8.le_antisymm
     ·
      exact UInt8.not_lt.1 h'
     ·
      exact UInt8.not_lt.1 h
    subst e
    simp [UInt8.lt_irrefl,ih]
theorem less_irrefl : ∀ a : List UInt8,Op.bytesLess a a = false
 | [] => rfl
 | x :: a => by simp [Op.bytesLess,UInt8.lt_irrefl,less_irrefl a]
theorem less_trans : ∀ a b c : List UInt8,Op.bytesLess a b = true → Op.bytesLess b c = true → Op.bytesLess a c = true
 | _,[],_,h,_ => by simp [Op.bytesLess] at h
 | _,_ :: _,[],_,h => by simp [Op.bytesLess] at h
 | [],_ :: _,_ :: _,_,_ => rfl
 | x :: a,y :: b,z :: c,h,k => by
  have ih:=less_trans a b c
  simp only [Op.bytesLess,Bool.or_eq_true,Bool.and_eq_true,decide_eq_true_eq,beq_iff_eq] at h k ⊢
  rcases h with h|⟨rfl,h⟩
  ·
   rcases k with k|⟨rfl,k⟩
   ·
    exact .inl (UInt8.lt_trans h k)
   ·
    exact .inl h
  ·
   rcases k with k|⟨rfl,k⟩
   ·
    exact .inl k
   ·
    exact .inr ⟨rfl,ih h k⟩
theorem toList_data (a : ByteArray) : a.toList = a.data.toList:=by
 rw [ByteArray.toList_eq]
def lessB (a b : ByteArray) : Bool:=Op.bytesLess a.toList b.toList
theorem ba_ext {a b : ByteArray} (h : a.data.toList = b.data.toList) : a = b:=by
 cases a;cases b
 simp only at h
 exact congrArg ByteArray.mk (Array.toList_inj.1 h)
theorem cmpB_lt (a b : ByteArray) : cmpB a b < 0 ↔ lessB a b = true:=by
 unfold cmpB lessB
 rw [cmp_lt,toList_data,toList_data]
theorem cmpB_zero (a b : ByteArray) : cmpB a b = 0 ↔ a = b:=by
 unfold cmpB
 rw [cmp_zero]
 exact ⟨ba_ext,fun h => by rw [h]⟩
theorem lessB_irrefl (a : ByteArray) : lessB a a = false:=less_irrefl _
theorem lessB_trans {a b c : ByteArray} (h : lessB a b = true) (k : lessB b c = true) : lessB a c = true:=less_trans _ _ _ h k
theorem takeWhile_sorted {α : Type} (q : α → Bool) : ∀ (l : List α),l.Pairwise (fun x y => q y = true → q x = true) → ∀ (h : Nat) (hl : h < l.length),(q l[h] = true ↔ h < (l.takeWhile q).length)
 | [],_,h,hl => by simp at hl
 | x :: l,hs,h,hl => by
  rw [List.pairwise_cons] at hs
  obtain ⟨h1,h2⟩:=hs
  by_cases hx : q x = true
  ·
   rw [List.takeWhile_cons_of_pos hx]
   cases h with
   | zero => simp [hx]
   | succ h =>
    have:=takeWhile_sorted q l h2 h (by simpa using hl)
    simpa using this
  ·
   rw [List.takeWhile_cons_of_neg hx]
   simp only [List.length_nil,Nat.not_lt_zero,iff_false]
   cases h with
   | zero => simpa using hx
   | succ h =>
    intro hq
    exact hx (h1 _ (List.getElem_mem (by simpa using hl)) hq)
theorem takeWhile_le {α : Type} (q : α → Bool) (l : List α) : (l.takeWhile q).length ≤ l.length:=(List.takeWhile_sublist q).length_le
def posB (nm : ByteArray) (l : List IL) : Nat:=(l.takeWhile fun x => lessB x.f0 nm).length
def posS (cl : Int) (l : List IN) : Nat:=(l.takeWhile fun x => decide (x.f0 < cl)).length
def sortB (l : List IL) : Prop:=l.Pairwise fun x y => lessB x.f0 y.f0 = true
def sortS (l : List IN) : Prop:=l.Pairwise fun x y => x.f0 < y.f0
theorem rdL_at (l : List IL) (i : Nat) (hi : i < l.length) : rd_T70 l (i : Int) = l[i]:=by
 unfold rd_T70
 simp [List.getD_eq_getElem?_getD,hi]
theorem rdN_at (l : List IN) (i : Nat) (hi : i < l.length) : rd_T77 l (i : Int) = l[i]:=by
 unfold rd_T77
 simp [List.getD_eq_getElem?_getD,hi]
theorem posB_cmp {l : List IL} (hs : sortB l) (nm : ByteArray) (h : Nat) (hl : h < l.length) : cmpB (rd_T70 l h).f0 nm < 0 ↔ h < posB nm l:=by
 rw [cmpB_lt,rdL_at l h hl]
 exact takeWhile_sorted (fun x : IL => lessB x.f0 nm) l (hs.imp (fun {a b} hab hb => lessB_trans hab hb)) h hl
theorem posS_cmp {l : List IN} (hs : sortS l) (cl : Int) (h : Nat) (hl : h < l.length) : (rd_T77 l h).f0 - cl < 0 ↔ h < posS cl l:=by
 rw [rdN_at l h hl]
 have:=takeWhile_sorted (fun x : IN => decide (x.f0 < cl)) l (hs.imp (fun {a b} hab hb => by simp only [decide_eq_true_eq] at hb ⊢;omega)) h hl
 simp only [decide_eq_true_eq] at this
 rw [show posS cl l = (l.takeWhile fun x => decide (x.f0 < cl)).length from rfl,← this]
 omega
def thereB (nm : ByteArray) (l : List IL) : Bool:=decide (posB nm l < l.length) && (cmpB (rd_T70 l (posB nm l : Nat)).f0 nm == 0)
def thereS (cl : Int) (l : List IN) : Bool:=decide (posS cl l < l.length) && ((rd_T77 l (posS cl l : Nat)).f0 - cl == 0)
structure Tp where
 tm : Int
 nx : Int
 ls : List IL
 ss : List IN
def Tv.pu (T : Tv) : Tp:=⟨T.tm,T.nx,T.ls.map EL.x,T.ss⟩
def tellA (k : Int) (x : IL) : AN:=⟨k,x.f1,x.f2,x.f3⟩
def bareA (k : Int) : AN:=⟨k,0,-1,0⟩
def acq1 (tm nx : Int) (x : IL) (r : RQ) : IL × Int × AN :=
 if x.f2 = r.f0 ∨ 0 ≤ waitsF r.f0 x.f4 0 then (x,nx,tellA 8 x)
 else if x.f2 = -1 then (grX x tm nx r.f0 r.f3,nx + 1,tellA 1 (grX x tm nx r.f0 r.f3))
 else if x.f4.length = 4 then (x,nx,tellA 6 x)
 else ({ x with f4:=x.f4 ++ [⟨r.f0,r.f3⟩] },nx,tellA 2 x)
def putAt (l : List IL) (p q : Nat) (o : IL × Int × AN) : List IL × Int × AN:=(l.take p ++ o.1 :: l.drop q,o.2.1,o.2.2)
def newL (nm : ByteArray) : IL:=⟨nm,0,-1,0,[]⟩
def acqX (tm nx : Int) (l : List IL) (r : RQ) : List IL × Int × AN :=
 if thereB r.f4 l = true then putAt l (posB r.f4 l) (posB r.f4 l + 1) (acq1 tm nx (rd_T70 l (posB r.f4 l : Nat)) r)
 else if l.length = 4 then (l,nx,bareA 6)
 else putAt l (posB r.f4 l) (posB r.f4 l) (acq1 tm nx (newL r.f4) r)
def do1 (tm nx : Int) (x : IL) (r : RQ) : IL × Int × AN :=
 if 0 ≤ waitsF r.f0 x.f4 0 ∧ r.f2 = 2 then ({ x with f4:=x.f4.eraseIdx (waitsF r.f0 x.f4 0).toNat },nx,tellA 1 x)
 else if x.f2 = -1 then (x,nx,tellA 4 x)
 else if r.f2 = 4 ∨ x.f2 ≠ r.f0 then (x,nx,tellA 5 x)
 else if r.f2 = 3 then ({ x with f3:=tm + r.f3 },nx,tellA 1 { x with f3:=tm + r.f3 })
 else ((frX x tm nx).1,(frX x tm nx).2,tellA 1 (frX x tm nx).1)
def doX (tm nx : Int) (l : List IL) (r : RQ) : List IL × Int × AN :=
 if r.f2 = 1 then acqX tm nx l r
 else if thereB r.f4 l = true then putAt l (posB r.f4 l) (posB r.f4 l + 1) (do1 tm nx (rd_T70 l (posB r.f4 l : Nat)) r)
 else (l,nx,bareA 3)
def reqX (T : Tp) (now : Int) (r : RQ) : Tp × AN :=
 let tm:=max T.tm now
 let o:=outX tm T.nx T.ls
 let k:=posS r.f0 T.ss
 let s:=rd_T77 T.ss (k : Nat)
 if thereS r.f0 T.ss = true ∧ s.f1 = r.f1 then (⟨tm,o.2,o.1,T.ss⟩,s.f2)
 else if thereS r.f0 T.ss = true ∧ r.f1 < s.f1 then (⟨tm,o.2,o.1,T.ss⟩,bareA 7)
 else if thereS r.f0 T.ss = false ∧ T.ss.length = 6 then (⟨tm,o.2,o.1,T.ss⟩,bareA 6)
 else
  let d:=doX tm o.2 o.1 r
  (⟨tm,d.2.1,d.1,if thereS r.f0 T.ss = true then T.ss.set k ⟨r.f0,r.f1,d.2.2⟩ else T.ss.take k ++ ⟨r.f0,r.f1,d.2.2⟩ :: T.ss.drop k⟩,d.2.2)
end Go.Proofs.Ytjkanhjapddhnaa.Pu
