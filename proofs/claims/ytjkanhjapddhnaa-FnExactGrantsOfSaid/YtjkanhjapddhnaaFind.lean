/- The implementation's find, slices.BinarySearchFunc at []Lock and []Seen, strings.Compare: walked by hand. No condition. -/
-- squeezed
import Derived.Test.YtjkanhjapddhnaaTb
import Derived.Test.YtjkanhjapddhnaaProg
import Derived.Deep.LoopGhost
import Derived.WalkKit
import Derived.Lib.Bytealg
import Derived.Sort.Walk0
import Derived.Laws.Externs
namespace Go.Proofs.Ytjkanhjapddhnaa.Find
open Go.RowKit Go.Proofs.YtjkanhjapddhnaaV.PrintWords Go.Proofs.YtjkanhjapddhnaaV.PrintMore Go.Lib Go.Proofs.Ytjkanhjapddhnaa.Own Go.Proofs.Ytjkanhjapddhnaa.Tb Go.Proofs.Ytjkanhjapddhnaa.PFnExactRunRequests
set_option linter.unusedVariables false
set_option linter.unusedSimpArgs false
set_option linter.unnecessarySimpa false
set_option maxHeartbeats 20000000
set_option maxRecDepth 100000
def cmpB (a b : ByteArray) : Int:=compareBytes a.data.toList b.data.toList
theorem compare_calls (a b : ByteArray) (w : World) : Calls Try.prog 133 #[.string a,.string b] w fun e w' => e = .returned (.int .i64 (cmpB a b)) ∧ w' = w:=by
 have h : ∀ w,(callFunc 140 #[.string a,.string b]).run Try.prog w = .ok (.value (.int .i64 (cmpB a b))) w:=fun w => by
  rw [run_callFunc_extern Try.func140 (by kernel_rfl) (by kernel_rfl) (by kernel_rfl) (e:=Extern.BytealgCompare.compare) (by kernel_rfl),Lib.run_compareString]
  rfl
 have h137 : Calls Try.prog 137 #[.string a,.string b] w fun e w' => e = .returned (.int .i64 (cmpB a b)) ∧ w' = w:=by
  go_enter Try.func137,Try.ntmps137
  go_wp2_with (simp only [h])
  go_ret
  exact ⟨rfl,rfl⟩
 go_enter Try.func133,Try.ntmps133
 go_wp2_with fail
 refine h137.mono ?_
 rintro _ w1 ⟨rfl,rfl⟩
 go_wp2_with fail
 go_ret
 exact ⟨rfl,rfl⟩
theorem find1_calls (s : ByteArray) (a b c : Int) (v : Value) (nm : ByteArray) (w : World) (hv : v.oneCell' = true) : Calls Try.prog 132 #[.agg #[.string s,.int .i64 a,.int .i64 b,.int .i64 c,v],.string nm] w fun e w' => e = .returned (.int .i64 (cmpB s nm)) ∧ Below w.heap.size w w':=by
 have HB:=Aside0.mk (below_alloc (Below.refl w.heap.size w) (.cells #[.string s,.int .i64 a,.int .i64 b,.int .i64 c,v] 70 (0,0)))
 go_enter Try.func132,Try.ntmps132
 go_wp2_with fail
 refine (compare_calls s nm _).mono ?_
 rintro _ w1 ⟨rfl,rfl⟩
 go_wp2_with fail
 go_ret
 exact ⟨rfl,HB.out⟩
theorem request1_calls (c st x0 x1 x2 x3 : Int) (cl : Int) (w : World) (h : -1000 ≤ c ∧ c ≤ 1000) (h' : -1000 ≤ cl ∧ cl ≤ 1000) : Calls Try.prog 95 #[.agg #[.int .i64 c,.int .i64 st,.int .i64 x0,.int .i64 x1,.int .i64 x2,.int .i64 x3],.int .i64 cl] w fun e w' => e = .returned (.int .i64 (c - cl)) ∧ Below w.heap.size w w':=by
 have HB:=Aside0.mk (below_alloc (Below.refl w.heap.size w) (.cells #[.int .i64 c,.int .i64 st,.int .i64 x0,.int .i64 x1,.int .i64 x2,.int .i64 x3] 77 (0,0)))
 obtain ⟨h0,h1⟩:=h
 obtain ⟨h2,h3⟩:=h'
 go_enter Try.func95,Try.ntmps95
 go_wp2_with fail
 go_ret
 exact ⟨rfl,HB.out⟩
theorem search_calls (A : Option Addr) (c0 : Nat) (l : List IL) (nm : ByteArray) (p : Nat) (w : World) (hr : Kd.C k70 w A l.length l) (hl : l.length ≤ 1000) (hp : p ≤ l.length) (hc : ∀ h,h < l.length → (cmpB (rd_T70 l h).f0 nm < 0 ↔ h < p)) :
  Calls Try.prog 131 #[.slice A l.length c0,.string nm,.func (.func 132) #[] #[]] w fun e w' => e = .returned (.tuple #[.int .i64 p,.bool (decide (p < l.length) && (cmpB (rd_T70 l p).f0 nm == 0))]) ∧ Below w.heap.size w w':=by
 have HR:=Aside0.mk hr
 have HC:=Aside0.mk hc
 have HB0:=Aside0.mk (Below.refl w.heap.size w)
 clear hr hc
 go_enter Try.func131,Try.ntmps131
 go_wp2_with fail
 go_loopg [9,10] l.length (fun g v9 v10 wx => ∃ i j : Nat,v9 = .int .i64 i ∧ v10 = .int .i64 j ∧ i ≤ p ∧ p ≤ j ∧ j ≤ l.length ∧ Aside0 (j - i ≤ g) ∧ Aside0 (Below w.heap.size w wx))
 case atStart => exact ⟨0,l.length,rfl,rfl,Nat.zero_le _,hp,Nat.le_refl _,⟨by omega⟩,HB0⟩
 case round =>
  clear HB0
  obtain ⟨i,j,rfl,rfl,hi,hj,hjl,HM,HB⟩:=hrel
  by_cases hlt : i < j
  ·
   have q0 : ((i : Int) < (j : Int)) = True:=eq_true (by omega)
   have q2 : decide ((i : Int) < (j : Int)) = true:=decide_eq_true (by omega)
   go_upto_region 5 with fail
   obtain ⟨h,hh,h1,h2⟩ : ∃ h : Nat,((i : Int) + (j : Int)) / 2 = (h : Int) ∧ i ≤ h ∧ h < j:=⟨(i + j) / 2,by omega,by omega,by omega⟩
   rw [hh]
   clear hh
   obtain ⟨ad,A4,c4,eA,z0,z1,z2,z3,z4,hl4,hk4⟩:=at_T70 (Kd.C_below HR.out HB.out) (h : Int) (by omega) (by omega)
   cases eA
   simp only [Int.toNat_natCast] at z0 z1 z2 z3 z4
   have p0 : ((h : Int) < (l.length : Int)) = True:=eq_true (by omega)
   have p1 : (0 ≤ (h : Int)) = True:=eq_true (by omega)
   have hk:=HC.out h (by omega)
   clear hl4 hk4
   by_cases hlo : h < p
   ·
    have e1 : Aside0 (decide (cmpB (rd_T70 l h).f0 nm < 0) = true):=⟨decide_eq_true (hk.2 hlo)⟩
    clear hk
    go_wp2_with (go_at_call 132;refine (find1_calls _ _ _ _ _ _ _ rfl).mono ?_;rintro e w' ⟨rfl,hw⟩;have HW:=Aside0.mk (below_then HB.out HB.out.size hw);clear hw;have e2:=e1.out)
    go_roundg (gk - 1)
    case measure => have:=HM.out;omega
    case rel => exact ⟨h + 1,j,by go_num,rfl,by omega,by omega,by omega,⟨by have:=HM.out;omega⟩,HW⟩
   ·
    have e1 : Aside0 (decide (cmpB (rd_T70 l h).f0 nm < 0) = false):=⟨decide_eq_false (fun hh => hlo (hk.1 hh))⟩
    clear hk
    go_wp2_with (go_at_call 132;refine (find1_calls _ _ _ _ _ _ _ rfl).mono ?_;rintro e w' ⟨rfl,hw⟩;have HW:=Aside0.mk (below_then HB.out HB.out.size hw);clear hw;have e2:=e1.out)
    go_roundg (gk - 1)
    case measure => have:=HM.out;omega
    case rel => exact ⟨i,h,rfl,rfl,by omega,by omega,by omega,⟨by have:=HM.out;omega⟩,HW⟩
  ·
   obtain rfl : i = p:=by omega
   obtain rfl : j = i:=by omega
   have q0 : ((j : Int) < (j : Int)) = False:=eq_false (by omega)
   by_cases hlo : j < l.length
   ·
    obtain ⟨ad,A4,c4,eA,z0,z1,z2,z3,z4,hl4,hk4⟩:=at_T70 (Kd.C_below HR.out HB.out) (j : Int) (by omega) (by omega)
    cases eA
    simp only [Int.toNat_natCast] at z0 z1 z2 z3 z4
    have p0 : ((j : Int) < (l.length : Int)) = True:=eq_true (by omega)
    have p1 : (0 ≤ (j : Int)) = True:=eq_true (by omega)
    have p2 : decide ((j : Int) < (l.length : Int)) = true:=decide_eq_true (by omega)
    have p3 : Aside0 (decide (j < l.length) = true):=⟨decide_eq_true hlo⟩
    clear hl4 hk4
    go_wp2_with (go_at_call 132;refine (find1_calls _ _ _ _ _ _ _ rfl).mono ?_;rintro e w' ⟨rfl,hw⟩;have HW:=Aside0.mk (below_then HB.out HB.out.size hw);clear hw)
    go_ret2
    refine ⟨?_,HW.out⟩
    rw [p3.out,Bool.true_and]
    rfl
   ·
    have p2 : decide ((j : Int) < (l.length : Int)) = false:=decide_eq_false (by omega)
    have p3 : Aside0 (decide (j < l.length) = false):=⟨decide_eq_false hlo⟩
    go_wp2_with fail
    go_ret2
    refine ⟨?_,HB.out⟩
    rw [p3.out,Bool.false_and]
    rfl
theorem searchS_calls (A : Option Addr) (c0 : Nat) (l : List IN) (cl : Int) (p : Nat) (w : World) (hr : Kd.C k77 w A l.length l) (hl : l.length ≤ 1000) (hp : p ≤ l.length) (hb : ∀ h : Nat,h < l.length → -1000 ≤ (rd_T77 l h).f0 ∧ (rd_T77 l h).f0 ≤ 1000) (hb' : -1000 ≤ cl ∧ cl ≤ 1000) (hc : ∀ h : Nat,h < l.length → ((rd_T77 l h).f0 - cl < 0 ↔ h < p)) :
  Calls Try.prog 94 #[.slice A l.length c0,.int .i64 cl,.func (.func 95) #[] #[]] w fun e w' => e = .returned (.tuple #[.int .i64 p,.bool (decide (p < l.length) && ((rd_T77 l p).f0 - cl == 0))]) ∧ Below w.heap.size w w':=by
 have HR:=Aside0.mk hr
 have HC:=Aside0.mk hc
 have HBB:=Aside0.mk hb
 have b2:=Aside0.mk hb'
 have HB0:=Aside0.mk (Below.refl w.heap.size w)
 clear hr hc hb hb'
 go_enter Try.func94,Try.ntmps94
 go_wp2_with fail
 go_loopg [9,10] l.length (fun g v9 v10 wx => ∃ i j : Nat,v9 = .int .i64 i ∧ v10 = .int .i64 j ∧ i ≤ p ∧ p ≤ j ∧ j ≤ l.length ∧ Aside0 (j - i ≤ g) ∧ Aside0 (Below w.heap.size w wx))
 case atStart => exact ⟨0,l.length,rfl,rfl,Nat.zero_le _,hp,Nat.le_refl _,⟨by omega⟩,HB0⟩
 case round =>
  clear HB0
  obtain ⟨i,j,rfl,rfl,hi,hj,hjl,HM,HB⟩:=hrel
  by_cases hlt : i < j
  ·
   have q0 : ((i : Int) < (j : Int)) = True:=eq_true (by omega)
   have q2 : decide ((i : Int) < (j : Int)) = true:=decide_eq_true (by omega)
   go_upto_region 5 with fail
   obtain ⟨h,hh,h1,h2⟩ : ∃ h : Nat,((i : Int) + (j : Int)) / 2 = (h : Int) ∧ i ≤ h ∧ h < j:=⟨(i + j) / 2,by omega,by omega,by omega⟩
   rw [hh]
   clear hh
   obtain ⟨ad,eA,z0,z1,z2,z3,z4,z5⟩:=at_T77 (Kd.C_below HR.out HB.out) (h : Int) (by omega) (by omega)
   cases eA
   simp only [Int.toNat_natCast] at z0 z1 z2 z3 z4 z5
   have p0 : ((h : Int) < (l.length : Int)) = True:=eq_true (by omega)
   have p1 : (0 ≤ (h : Int)) = True:=eq_true (by omega)
   have hk:=HC.out h (by omega)
   have b1:=Aside0.mk (HBB.out h (by omega))
   by_cases hlo : h < p
   ·
    have e1 : Aside0 (decide ((rd_T77 l h).f0 - cl < 0) = true):=⟨decide_eq_true (hk.2 hlo)⟩
    clear hk
    go_wp2_with (go_at_call 95;refine (request1_calls _ _ _ _ _ _ _ _ b1.out b2.out).mono ?_;rintro e w' ⟨rfl,hw⟩;have HW:=Aside0.mk (below_then HB.out HB.out.size hw);clear hw;have e2:=e1.out)
    go_roundg (gk - 1)
    case measure => have:=HM.out;omega
    case rel => exact ⟨h + 1,j,by go_num,rfl,by omega,by omega,by omega,⟨by have:=HM.out;omega⟩,HW⟩
   ·
    have e1 : Aside0 (decide ((rd_T77 l h).f0 - cl < 0) = false):=⟨decide_eq_false (fun hh => hlo (hk.1 hh))⟩
    clear hk
    go_wp2_with (go_at_call 95;refine (request1_calls _ _ _ _ _ _ _ _ b1.out b2.out).mono ?_;rintro e w' ⟨rfl,hw⟩;have HW:=Aside0.mk (below_then HB.out HB.out.size hw);clear hw;have e2:=e1.out)
    go_roundg (gk - 1)
    case measure => have:=HM.out;omega
    case rel => exact ⟨i,h,rfl,rfl,by omega,by omega,by omega,⟨by have:=HM.out;omega⟩,HW⟩
  ·
   obtain rfl : i = p:=by omega
   obtain rfl : j = i:=by omega
   have q0 : ((j : Int) < (j : Int)) = False:=eq_false (by omega)
   by_cases hlo : j < l.length
   ·
    obtain ⟨ad,eA,z0,z1,z2,z3,z4,z5⟩:=at_T77 (Kd.C_below HR.out HB.out) (j : Int) (by omega) (by omega)
    cases eA
    simp only [Int.toNat_natCast] at z0 z1 z2 z3 z4 z5
    have p0 : ((j : Int) < (l.length : Int)) = True:=eq_true (by omega)
    have p1 : (0 ≤ (j : Int)) = True:=eq_true (by omega)
    have p2 : decide ((j : Int) < (l.length : Int)) = true:=decide_eq_true (by omega)
    have p3 : Aside0 (decide (j < l.length) = true):=⟨decide_eq_true hlo⟩
    have b1:=Aside0.mk (HBB.out j (by omega))
    go_wp2_with (go_at_call 95;refine (request1_calls _ _ _ _ _ _ _ _ b1.out b2.out).mono ?_;rintro e w' ⟨rfl,hw⟩;have HW:=Aside0.mk (below_then HB.out HB.out.size hw);clear hw)
    go_ret2
    refine ⟨?_,HW.out⟩
    rw [p3.out,Bool.true_and]
    rfl
   ·
    have p2 : decide ((j : Int) < (l.length : Int)) = false:=decide_eq_false (by omega)
    have p3 : Aside0 (decide (j < l.length) = false):=⟨decide_eq_false hlo⟩
    go_wp2_with fail
    go_ret2
    refine ⟨?_,HB.out⟩
    rw [p3.out,Bool.false_and]
    rfl
theorem find_calls (g : Nat) (w : World) (T : Tv) (nm : ByteArray) (p : Nat) (hT : TB w g T) (hl : T.ls.length ≤ 1000) (hp : p ≤ T.ls.length) (hc : ∀ h : Nat,h < T.ls.length → (cmpB (rd_T70 (T.ls.map EL.x) h).f0 nm < 0 ↔ h < p)) :
  Calls Try.prog 118 #[.pointer (some ⟨g,0,none⟩),.string nm] w fun e w' => e = .returned (.tuple #[.int .i64 p,.bool (decide (p < T.ls.length) && (cmpB (rd_T70 (T.ls.map EL.x) p).f0 nm == 0))]) ∧ Below w.heap.size w w':=by
 obtain ⟨A,c,hv,hlc,hk⟩:=hT.v.locks
 have x2:=hT.cells.2.2.1
 rw [hv] at x2
 have hlen : (T.ls.map EL.x).length = T.ls.length:=List.length_map _
 rw [← hlen] at hk hl hp hc x2 ⊢
 have HK:=Aside0.mk hk
 have HC:=Aside0.mk hc
 have HL:=Aside0.mk hl
 have HP:=Aside0.mk hp
 clear hk hc hl hp hT hlen hv hlc
 generalize T.ls.map EL.x = l at HK HC HL HP x2 ⊢
 obtain ⟨v,hv⟩ : ∃ v,v = (decide (p < l.length) && (cmpB (rd_T70 l p).f0 nm == 0)):=⟨_,rfl⟩
 rw [← hv]
 have HV:=Aside0.mk hv
 clear hv
 go_enter Try.func118,Try.ntmps118
 go_wp2_with fail
 refine (search_calls A c l nm p w HK.out HL.out HP.out HC.out).mono ?_
 rintro _ w1 ⟨rfl,hb⟩
 have HB:=Aside0.mk hb
 clear hb
 rw [← HV.out]
 go_wp2_with fail
 go_ret2
 exact ⟨rfl,HB.out⟩
end Go.Proofs.Ytjkanhjapddhnaa.Find
