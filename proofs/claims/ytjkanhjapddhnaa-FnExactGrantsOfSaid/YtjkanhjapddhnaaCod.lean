/- The implementation's requestsCode with its library calls, walked by hand. No condition. -/
-- squeezed
import Derived.Test.YtjkanhjapddhnaaCtx
import Derived.Test.YtjkanhjapddhnaaRp
namespace Go.Proofs.Ytjkanhjapddhnaa.Cod
open Go.RowKit Go.Lib Go.Proofs.YtjkanhjapddhnaaV.PrintWords Go.Proofs.YtjkanhjapddhnaaV.PrintMore Go.Proofs.Ytjkanhjapddhnaa.Tb Go.Proofs.Ytjkanhjapddhnaa.Ctx Go.Proofs.Ytjkanhjapddhnaa.Rp Go.Proofs.Ytjkanhjapddhnaa.PFnExactRunRequests Go.Proofs.Ytjkanhjapddhnaa.PRok
set_option linter.unusedVariables false
set_option linter.unusedSimpArgs false
set_option linter.unnecessarySimpa false
set_option maxHeartbeats 20000000
set_option maxRecDepth 100000
def okR (r : RQ) : Bool:=requestP r.f0 r.f1 r.f2 r.f3 r.f4
def okT (t : Int) : Bool:=decide (0 ≤ t) && decide (t ≤ 1000000000)
theorem reqI_calls (r : RQ) (w : World) (hs : r.f4.size ≤ 140737488351232) : Calls Try.prog 89 #[rqV r] w fun e w' => e = .returned (.bool (okR r)) ∧ Below w.heap.size w w' :=
 impl_RequestOK.calls (r.f4.size + 4) r.f0 r.f1 r.f2 r.f3 r.f4 _ w (implRequestOK_tells r.f0 r.f1 r.f2 r.f3 r.f4 hs _ (Nat.le_refl _))
theorem cl1_calls (r : RQ) (w : World) (hs : r.f4.size ≤ 140737488351232) : Calls Try.prog 88 #[rqV r] w fun e w' => e = .returned (.bool (!okR r)) ∧ Below w.heap.size w w':=by
 have HB:=Aside0.mk (below_alloc (Below.refl w.heap.size w) (rqO r))
 have HG:=heap_alloc_new w (rqO r)
 have HS:=Aside0.mk hs
 clear hs
 unfold rqV
 go_enter Try.func88,Try.ntmps88
 go_upto_region 1 with fail
 change Code.wp _ _ _ _ (w.alloc (rqO r))
 generalize w.alloc (rqO r) = W at HB HG ⊢
 have r0 : W.cell? ⟨w.heap.size,0,none⟩ = some (.int .i64 r.f0):=(blk_cell HG 0).trans rfl
 have r1 : W.cell? ⟨w.heap.size,1,none⟩ = some (.int .i64 r.f1):=(blk_cell HG 1).trans rfl
 have r2 : W.cell? ⟨w.heap.size,2,none⟩ = some (.int .i64 r.f2):=(blk_cell HG 2).trans rfl
 have r3 : W.cell? ⟨w.heap.size,3,none⟩ = some (.int .i64 r.f3):=(blk_cell HG 3).trans rfl
 have r4 : W.cell? ⟨w.heap.size,4,none⟩ = some (.string r.f4):=(blk_cell HG 4).trans rfl
 clear HG
 go_wp2_with fail
 have hq:=reqI_calls r W HS.out
 unfold rqV at hq
 with_reducible refine hq.mono ?_
 clear hq
 rintro _ W1 ⟨rfl,hb⟩
 have HB1:=Aside0.mk (below_then HB.out HB.out.size hb)
 clear hb
 go_wp2_with fail
 go_ret
 exact ⟨rfl,HB1.out⟩
theorem cl2_calls (t : Int) (w : World) : Calls Try.prog 91 #[.int .i64 t] w fun e w' => e = .returned (.bool (!okT t)) ∧ Below w.heap.size w w':=by
 have HB:=Aside0.mk (Below.refl w.heap.size w)
 go_enter Try.func91,Try.ntmps91
 go_wp2_with fail
 have hq:=PTim.impl_isTime.calls t (okT t) w (by
  unfold PTim.impl_isTime.f PTim.impl_within.f okT
  by_cases h0 : 0 ≤ t <;> simp [h0])
 with_reducible refine hq.mono ?_
 clear hq
 rintro _ W1 ⟨rfl,hb⟩
 have HB1:=Aside0.mk (below_then HB.out HB.out.size hb.below)
 clear hb
 go_wp2_with fail
 go_ret
 exact ⟨rfl,HB1.out⟩
theorem idxR_calls (A : Option Addr) (c0 : Nat) (l : List RQ) (w : World) (hr : Kd.C k94 w A l.length l) (hs : ∀ r ∈ l,r.f4.size ≤ 140737488351232) :
  Calls Try.prog 114 #[.slice A l.length c0,.func (.func 88) #[] #[]] w fun e w' => ∃ v : Int,e = .returned (.int .i64 v) ∧ decide (0 ≤ v) = !(l.all okR) ∧ Below w.heap.size w w':=by
 have hn : l.length ≤ 9223372036854775807:=hr.2.1
 have HR:=Aside0.mk hr
 have HS:=Aside0.mk hs
 have HB0:=Aside0.mk (Below.refl w.heap.size w)
 clear hr hs
 go_enter Try.func114,Try.ntmps114
 go_wp2_with fail
 go_loopg [8] l.length (fun g v8 wx => ∃ k : Nat,v8 = .int .i64 k ∧ k ≤ l.length ∧ Aside0 (k + g = l.length) ∧ Aside0 ((l.take k).all okR = true) ∧ Aside0 (Below w.heap.size w wx))
 case atStart => exact ⟨0,rfl,Nat.zero_le _,⟨by omega⟩,⟨rfl⟩,HB0⟩
 case round =>
  clear HB0
  obtain ⟨k,rfl,hk,HM,hf,HB⟩:=hrel
  by_cases hlt : k < l.length
  ·
   obtain ⟨ad,eA,z0,z1,z2,z3,z4⟩:=at_T94 (Kd.C_below HR.out HB.out) (k : Int) (by omega) (by omega)
   cases eA
   simp only [Int.toNat_natCast] at z0 z1 z2 z3 z4
   have hd:=Aside0.mk (show rd_T94 l (k : Int) = l[k] by unfold rd_T94;simp [hlt])
   have q0 : ((k : Int) < (l.length : Int)) = True:=eq_true (by omega)
   have q1 : (0 ≤ (k : Int)) = True:=eq_true (by omega)
   have q2 : decide ((k : Int) < (l.length : Int)) = true:=decide_eq_true (by omega)
   have HSZ:=Aside0.mk (HS.out l[k] (List.getElem_mem hlt))
   rw [hd.out] at z0 z1 z2 z3 z4
   have HLT:=Aside0.mk hlt
   obtain ⟨r,hrk⟩ : ∃ r,r = l[k]:=⟨_,rfl⟩
   rw [← hrk] at z0 z1 z2 z3 z4 HSZ
   have HRK:=Aside0.mk hrk.symm
   clear hrk hd
   by_cases hp : okR r = true
   ·
    have hb : Aside0 ((!okR r) = false):=⟨by rw [hp];rfl⟩
    have hfin : Aside0 ((l.take (k + 1)).all okR = true):=⟨by rw [List.take_succ_eq_append_getElem HLT.out,List.all_append,hf.out,HRK.out];simp [hp]⟩
    clear hp
    have hq:=fun W => cl1_calls r W HSZ.out
    unfold rqV at hq
    have HQ:=Aside0.mk hq
    clear hq
    go_wp2_with (go_at_call 88;refine (HQ.out _).mono ?_;rintro e w' ⟨rfl,hw⟩;rw [hb.out];have HW:=Aside0.mk (below_then HB.out HB.out.size hw);clear hw)
    go_roundg (gk - 1)
    case measure => have:=HM.out;omega
    case rel => exact ⟨k + 1,by go_num,by omega,⟨by have:=HM.out;omega⟩,hfin,HW⟩
   ·
    have hb : Aside0 ((!okR r) = true):=⟨by simpa using hp⟩
    have hfin : Aside0 (l.all okR = false):=⟨by
     rw [List.all_eq_false]
     exact ⟨r,HRK.out ▸ List.getElem_mem HLT.out,hp⟩⟩
    clear hp
    have hq:=fun W => cl1_calls r W HSZ.out
    unfold rqV at hq
    have HQ:=Aside0.mk hq
    clear hq
    go_wp2_with (go_at_call 88;refine (HQ.out _).mono ?_;rintro e w' ⟨rfl,hw⟩;rw [hb.out];have HW:=Aside0.mk (below_then HB.out HB.out.size hw);clear hw)
    go_ret
    exact ⟨k,rfl,by rw [hfin.out];exact decide_eq_true (by omega),HW.out⟩
  ·
   obtain rfl : k = l.length:=by omega
   have hfin : Aside0 (l.all okR = true):=⟨by have:=hf.out;rwa [List.take_length] at this⟩
   go_wp2_with fail
   go_ret
   exact ⟨-1,rfl,by rw [hfin.out];rfl,HB.out⟩
theorem hasR_calls (A : Option Addr) (c0 : Nat) (l : List RQ) (w : World) (hr : Kd.C k94 w A l.length l) (hs : ∀ r ∈ l,r.f4.size ≤ 140737488351232) :
  Calls Try.prog 87 #[.slice A l.length c0,.func (.func 88) #[] #[]] w fun e w' => e = .returned (.bool (!(l.all okR))) ∧ Below w.heap.size w w':=by
 have HR:=Aside0.mk hr
 have HS:=Aside0.mk hs
 clear hr hs
 go_enter Try.func87,Try.ntmps87
 go_wp2_with fail
 with_reducible refine (idxR_calls A c0 l w HR.out HS.out).mono ?_
 rintro _ W1 ⟨v,rfl,hv,hb⟩
 have HB:=Aside0.mk hb
 have HV:=Aside0.mk hv
 clear hb hv
 go_wp2_with fail
 go_ret
 exact ⟨congrArg (fun x => Ending.returned (.bool x)) HV.out,HB.out⟩
theorem idxT_calls (A : Option Addr) (c0 : Nat) (l : List Int) (w : World) (hr : Kd.C (Kd.int .i64) w A l.length l) :
  Calls Try.prog 115 #[.slice A l.length c0,.func (.func 91) #[] #[]] w fun e w' => ∃ v : Int,e = .returned (.int .i64 v) ∧ decide (0 ≤ v) = !(l.all okT) ∧ Below w.heap.size w w':=by
 have hn : l.length ≤ 9223372036854775807:=hr.2.1
 have HR:=Aside0.mk hr
 have HB0:=Aside0.mk (Below.refl w.heap.size w)
 clear hr
 go_enter Try.func115,Try.ntmps115
 go_wp2_with fail
 go_loopg [8] l.length (fun g v8 wx => ∃ k : Nat,v8 = .int .i64 k ∧ k ≤ l.length ∧ Aside0 (k + g = l.length) ∧ Aside0 ((l.take k).all okT = true) ∧ Aside0 (Below w.heap.size w wx))
 case atStart => exact ⟨0,rfl,Nat.zero_le _,⟨by omega⟩,⟨rfl⟩,HB0⟩
 case round =>
  clear HB0
  obtain ⟨k,rfl,hk,HM,hf,HB⟩:=hrel
  by_cases hlt : k < l.length
  ·
   obtain ⟨ad,eA,z0⟩  :=Kd.at_int (Kd.C_below HR.out HB.out) (k : Int) (by omega) (by omega)
   cases eA
   simp only [Int.toNat_natCast] at z0
   have hd:=Aside0.mk (show rd l (k : Int) = l[k] by unfold rd;simp [hlt])
   have q0 : ((k : Int) < (l.length : Int)) = True:=eq_true (by omega)
   have q1 : (0 ≤ (k : Int)) = True:=eq_true (by omega)
   have q2 : decide ((k : Int) < (l.length : Int)) = true:=decide_eq_true (by omega)
   rw [hd.out] at z0
   have HLT:=Aside0.mk hlt
   obtain ⟨r,hrk⟩ : ∃ r,r = l[k]:=⟨_,rfl⟩
   rw [← hrk] at z0
   have HRK:=Aside0.mk hrk.symm
   clear hrk hd
   by_cases hp : okT r = true
   ·
    have hb : Aside0 ((!okT r) = false):=⟨by rw [hp];rfl⟩
    have hfin : Aside0 ((l.take (k + 1)).all okT = true):=⟨by rw [List.take_succ_eq_append_getElem HLT.out,List.all_append,hf.out,HRK.out];simp [hp]⟩
    clear hp
    go_wp2_with (go_at_call 91;refine (cl2_calls _ _).mono ?_;rintro e w' ⟨rfl,hw⟩;rw [hb.out];have HW:=Aside0.mk (below_then HB.out HB.out.size hw);clear hw)
    go_roundg (gk - 1)
    case measure => have:=HM.out;omega
    case rel => exact ⟨k + 1,by go_num,by omega,⟨by have:=HM.out;omega⟩,hfin,HW⟩
   ·
    have hb : Aside0 ((!okT r) = true):=⟨by simpa using hp⟩
    have hfin : Aside0 (l.all okT = false):=⟨by
     rw [List.all_eq_false]
     exact ⟨r,HRK.out ▸ List.getElem_mem HLT.out,hp⟩⟩
    clear hp
    go_wp2_with (go_at_call 91;refine (cl2_calls _ _).mono ?_;rintro e w' ⟨rfl,hw⟩;rw [hb.out];have HW:=Aside0.mk (below_then HB.out HB.out.size hw);clear hw)
    go_ret
    exact ⟨k,rfl,by rw [hfin.out];exact decide_eq_true (by omega),HW.out⟩
  ·
   obtain rfl : k = l.length:=by omega
   have hfin : Aside0 (l.all okT = true):=⟨by have:=hf.out;rwa [List.take_length] at this⟩
   go_wp2_with fail
   go_ret
   exact ⟨-1,rfl,by rw [hfin.out];rfl,HB.out⟩
theorem hasT_calls (A : Option Addr) (c0 : Nat) (l : List Int) (w : World) (hr : Kd.C (Kd.int .i64) w A l.length l) :
  Calls Try.prog 90 #[.slice A l.length c0,.func (.func 91) #[] #[]] w fun e w' => e = .returned (.bool (!(l.all okT))) ∧ Below w.heap.size w w':=by
 have HR:=Aside0.mk hr
 clear hr
 go_enter Try.func90,Try.ntmps90
 go_wp2_with fail
 with_reducible refine (idxT_calls A c0 l w HR.out).mono ?_
 rintro _ W1 ⟨v,rfl,hv,hb⟩
 have HB:=Aside0.mk hb
 have HV:=Aside0.mk hv
 clear hb hv
 go_wp2_with fail
 go_ret
 exact ⟨congrArg (fun x => Ending.returned (.bool x)) HV.out,HB.out⟩
def codeP (l : List RQ) (ts : List Int) : Int:=if 4096 < l.length ∨ 4096 < ts.length then 2 else if 200 < l.length ∨ l.length ≠ ts.length then 6 else if l.all okR = true ∧ ts.all okT = true then 0 else 1
theorem code_calls (A : Option Addr) (c0 : Nat) (l : List RQ) (B : Option Addr) (c1 : Nat) (ts : List Int) (w : World) (hr : Kd.C k94 w A l.length l) (hs : ∀ r ∈ l,r.f4.size ≤ 140737488351232) (hr' : Kd.C (Kd.int .i64) w B ts.length ts) (hc : l.length ≤ c0) (hc' : ts.length ≤ c1) :
  Calls Try.prog 59 #[.slice A l.length c0,.slice B ts.length c1] w fun e w' => e = .returned (.int .i64 (codeP l ts)) ∧ Below w.heap.size w w':=by
 have HR:=Aside0.mk hr
 have HR':=Aside0.mk hr'
 have HC:=Aside0.mk hc
 have HC':=Aside0.mk hc'
 have HS:=Aside0.mk hs
 have hn : l.length ≤ 9223372036854775807:=hr.2.1
 have hn' : ts.length ≤ 9223372036854775807:=hr'.2.1
 clear hr hr' hs hc hc'
 have long1 : ∀ W,Below w.heap.size w W → Calls Try.prog 85 #[.slice A l.length c0] W fun e w' => e = .returned (.bool (decide (4096 < l.length))) ∧ Below w.heap.size w w':=fun W hb => by
  have HB:=Aside0.mk hb
  go_enter Try.func85,Try.ntmps85
  go_wp2_with fail
  go_ret
  exact ⟨congrArg (fun x => Ending.returned (.bool x)) (by rw [Bool.eq_iff_iff,decide_eq_true_eq,decide_eq_true_eq];omega),HB.out⟩
 have long2 : ∀ W,Below w.heap.size w W → Calls Try.prog 86 #[.slice B ts.length c1] W fun e w' => e = .returned (.bool (decide (4096 < ts.length))) ∧ Below w.heap.size w w':=fun W hb => by
  have HB:=Aside0.mk hb
  go_enter Try.func86,Try.ntmps86
  go_wp2_with fail
  go_ret
  exact ⟨congrArg (fun x => Ending.returned (.bool x)) (by rw [Bool.eq_iff_iff,decide_eq_true_eq,decide_eq_true_eq];omega),HB.out⟩
 have L1:=Aside0.mk long1
 have L2:=Aside0.mk long2
 clear long1 long2
 obtain ⟨cd,hcd⟩ : ∃ cd,cd = codeP l ts:=⟨_,rfl⟩
 rw [← hcd]
 have HCD:=Aside0.mk hcd
 clear hcd
 go_enter Try.func59,Try.ntmps59
 by_cases h1 : 4096 < l.length
 ·
  have q1:=Aside0.mk (show decide (4096 < l.length) = true from decide_eq_true h1)
  have HF:=Aside0.mk (show (2 : Int) = cd by rw [HCD.out];exact (if_pos (.inl h1)).symm)
  clear h1
  go_wp2_with fail
  with_reducible refine (L1.out w (Below.refl _ _)).mono ?_
  rintro _ W1 ⟨rfl,hb⟩
  have HB:=Aside0.mk hb
  clear hb
  rw [q1.out]
  go_wp2_with fail
  go_ret
  exact ⟨congrArg (fun x => Ending.returned (.int .i64 x)) HF.out,HB.out⟩
 have q1:=Aside0.mk (show decide (4096 < l.length) = false from decide_eq_false h1)
 go_wp2_with fail
 with_reducible refine (L1.out w (Below.refl _ _)).mono ?_
 rintro _ W1 ⟨rfl,hb⟩
 have HB1:=Aside0.mk hb
 clear hb
 rw [q1.out]
 go_wp2_with fail
 with_reducible refine (L2.out W1 HB1.out).mono ?_
 rintro _ W2 ⟨rfl,hb⟩
 have HB2:=Aside0.mk hb
 clear hb
 by_cases h2 : 4096 < ts.length
 ·
  have q2:=Aside0.mk (show decide (4096 < ts.length) = true from decide_eq_true h2)
  have HF:=Aside0.mk (show (2 : Int) = cd by rw [HCD.out];exact (if_pos (.inr h2)).symm)
  clear h1 h2
  rw [q2.out]
  go_wp2_with fail
  go_ret
  exact ⟨congrArg (fun x => Ending.returned (.int .i64 x)) HF.out,HB2.out⟩
 have q2:=Aside0.mk (show decide (4096 < ts.length) = false from decide_eq_false h2)
 rw [q2.out]
 have HF0:=Aside0.mk (show codeP l ts = _ from if_neg (show ¬ (4096 < l.length ∨ 4096 < ts.length) from fun h => h.elim h1 h2))
 clear h1 h2
 by_cases h3 : 200 < l.length
 ·
  have q3 : decide ((200 : Int) < (l.length : Int)) = true:=decide_eq_true (by omega)
  have HF:=Aside0.mk (show (6 : Int) = cd by rw [HCD.out,HF0.out];exact (if_pos (.inl h3)).symm)
  clear h3
  go_wp2_with fail
  go_ret
  exact ⟨congrArg (fun x => Ending.returned (.int .i64 x)) HF.out,HB2.out⟩
 have q3 : decide ((200 : Int) < (l.length : Int)) = false:=decide_eq_false (by omega)
 by_cases h4 : l.length ≠ ts.length
 ·
  have q4 : ((l.length : Int) != (ts.length : Int)) = true:=by simp;omega
  have HF:=Aside0.mk (show (6 : Int) = cd by rw [HCD.out,HF0.out];exact (if_pos (.inr h4)).symm)
  clear h3 h4
  go_wp2_with fail
  go_ret
  exact ⟨congrArg (fun x => Ending.returned (.int .i64 x)) HF.out,HB2.out⟩
 have q4 : ((l.length : Int) != (ts.length : Int)) = false:=by simp;omega
 have HF1:=Aside0.mk (HF0.out.trans (if_neg (show ¬ (200 < l.length ∨ l.length ≠ ts.length) from fun h => h.elim h3 h4)))
 clear h3 h4
 go_wp2_with fail
 with_reducible refine (hasR_calls A c0 l W2 (Kd.C_below HR.out HB2.out) HS.out).mono ?_
 rintro _ W3 ⟨rfl,hb⟩
 have HB3:=Aside0.mk (below_then HB2.out HB2.out.size hb)
 clear hb q3 q4
 by_cases h5 : l.all okR = true
 rotate_left
 ·
  have q5:=Aside0.mk (show (!(l.all okR)) = true by simpa using h5)
  have HF:=Aside0.mk (show (1 : Int) = cd by rw [HCD.out,HF1.out];exact (if_neg (fun h => h5 h.1)).symm)
  clear h5
  rw [q5.out]
  go_wp2_with fail
  go_ret
  exact ⟨congrArg (fun x => Ending.returned (.int .i64 x)) HF.out,HB3.out⟩
 have q5:=Aside0.mk (show (!(l.all okR)) = false by rw [h5];rfl)
 rw [q5.out]
 go_wp2_with fail
 with_reducible refine (hasT_calls B c1 ts W3 (Kd.C_below HR'.out HB3.out)).mono ?_
 rintro _ W4 ⟨rfl,hb⟩
 have HB4:=Aside0.mk (below_then HB3.out HB3.out.size hb)
 clear hb
 by_cases h6 : ts.all okT = true
 ·
  have q6:=Aside0.mk (show (!(ts.all okT)) = false by rw [h6];rfl)
  have HF:=Aside0.mk (show (0 : Int) = cd by rw [HCD.out,HF1.out];exact (if_pos ⟨h5,h6⟩).symm)
  clear h5 h6
  rw [q6.out]
  go_wp2_with fail
  go_ret
  exact ⟨congrArg (fun x => Ending.returned (.int .i64 x)) HF.out,HB4.out⟩
 ·
  have q6:=Aside0.mk (show (!(ts.all okT)) = true by simpa using h6)
  have HF:=Aside0.mk (show (1 : Int) = cd by rw [HCD.out,HF1.out];exact (if_neg (fun h => h6 h.2)).symm)
  clear h5 h6
  rw [q6.out]
  go_wp2_with fail
  go_ret
  exact ⟨congrArg (fun x => Ending.returned (.int .i64 x)) HF.out,HB4.out⟩
end Go.Proofs.Ytjkanhjapddhnaa.Cod
