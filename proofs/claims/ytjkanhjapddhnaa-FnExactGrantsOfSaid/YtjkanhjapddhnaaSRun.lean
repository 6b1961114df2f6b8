/- The specification's RunRequests, walked by hand (written by mksrun.py). No condition. -/
-- squeezed
import Derived.Test.YtjkanhjapddhnaaSApp
import Derived.Test.YtjkanhjapddhnaaGr
namespace Go.Proofs.Ytjkanhjapddhnaa.SRun
open Go.RowKit Go.Lib Go.Proofs.YtjkanhjapddhnaaV.PrintWords Go.Proofs.YtjkanhjapddhnaaV.PrintMore Go.Proofs.YtjkanhjapddhnaaV.PrintLast Go.Proofs.Ytjkanhjapddhnaa.Sq Go.Proofs.Ytjkanhjapddhnaa.Own Go.Proofs.Ytjkanhjapddhnaa.MarkT Go.Proofs.Ytjkanhjapddhnaa.Tb Go.Proofs.Ytjkanhjapddhnaa.Gr Go.Proofs.Ytjkanhjapddhnaa.Gon Go.Proofs.Ytjkanhjapddhnaa.Find Go.Proofs.Ytjkanhjapddhnaa.Pos Go.Proofs.Ytjkanhjapddhnaa.Pu Go.Proofs.Ytjkanhjapddhnaa.Ctx Go.Proofs.Ytjkanhjapddhnaa.InsR Go.Proofs.Ytjkanhjapddhnaa.AppA Go.Proofs.Ytjkanhjapddhnaa.AppN Go.Proofs.Ytjkanhjapddhnaa.Inv Go.Proofs.Ytjkanhjapddhnaa.Sns Go.Proofs.Ytjkanhjapddhnaa.Rp Go.Proofs.Ytjkanhjapddhnaa.Cod Go.Proofs.Ytjkanhjapddhnaa.Run Go.Proofs.Ytjkanhjapddhnaa.SGr Go.Proofs.Ytjkanhjapddhnaa.SOwn Go.Proofs.Ytjkanhjapddhnaa.SLib Go.Proofs.Ytjkanhjapddhnaa.SExp Go.Proofs.Ytjkanhjapddhnaa.SDo Go.Proofs.Ytjkanhjapddhnaa.SApp Go.Proofs.Ytjkanhjapddhnaa.PFnExactRunRequests
set_option linter.unusedVariables false
set_option linter.unusedSimpArgs false
set_option maxHeartbeats 20000000
set_option maxRecDepth 100000
theorem newS_calls (w : World) : Calls Try.prog 56 #[] w fun e w' => ∃ T : Tv,e = .returned (tvV T) ∧ Tv.pu T = newT ∧ TV w' T ∧ (∀ b,some b ∈ T.blocks → w.heap.size ≤ b) ∧ Below w.heap.size w w':=by
 refine (spec_l05New.calls 0 1 [] [] w rfl).mono ?_
 rintro _ w' ⟨v2,v3,rfl,h2,h3,hb⟩
 obtain ⟨T,e1,e2,e3,e4,hp,hv,hk⟩:=tv_of (t:=0) (n:=1) h2 h3
 exact ⟨T,by unfold tvV;rw [e1,e2,e3,e4],hp,hv,hk,hb⟩
theorem sreq_calls (r : RQ) (w : World) (hs : r.f4.size ≤ 140737488351232) : Calls Try.prog 64 #[rqV r] w fun e w' => e = .returned (.bool (okR r)) ∧ Below w.heap.size w w' :=
 spec_RequestOK.calls (r.f4.size + 4) r.f0 r.f1 r.f2 r.f3 r.f4 _ w (specRequestOK_tells r.f0 r.f1 r.f2 r.f3 r.f4 hs _ (Nat.le_refl _))
theorem sin_calls (t : Int) (w : World) : Calls Try.prog 41 #[.int .i64 t,.int .i64 0,.int .i64 1000000000] w fun e w' => e = .returned (.bool (okT t)) ∧ Below w.heap.size w w' :=
 (spec_l01In.calls t 0 1000000000 _ w (specIn_tells t 0 1000000000)).mono fun e w' h => ⟨h.1,h.2.below⟩
theorem O2.put {w wx : World} {g : Nat} {T T2 : Tv} {av : Value} {an_ : List AN} {oa : Option Nat} (h : O2 w wx g T av an_ oa) (ht : TV wx T2) (hk : ∀ b,some b ∈ T2.blocks → w.heap.size < b ∧ b ≠ g ∧ oa ≠ some b) : O2 w (w4 wx g (.int .i64 T2.tm) (.int .i64 T2.nx) T2.vl T2.vs) g T2 av an_ oa:=by
 have hf : Fr (fun x => x = g) wx (w4 wx g (.int .i64 T2.tm) (.int .i64 T2.nx) T2.vl T2.vs):=Fr.four (S:=fun x => x = g) (Fr.refl _ wx) (.inl rfl) _ _ _ _
 obtain ⟨b1,b2⟩:=h.fr hf (fun x hx => hx ▸ h.gw)
 refine ⟨⟨ht.kept (fun b hb => hf.block b (ht.lt b hb) (hk b hb).2.1),four_set h.tb.bx _ _ _ _,fun o ho e => by subst e;exact (hk g ho).2.1 rfl⟩,h.row.kept (fun b hb => hf.block b (h.row.lt b hb) (fun e => h.og (by rw [hb,e]))),fun b hb => hb.elim (fun hb => (hk b hb).1) (fun hb => h.ow b (.inr hb)),h.og,fun x hx b hb hb' => ?_,b1,b2,h.gw⟩
 subst hb
 exact (hk b hx).2.2 hb'
theorem nil_row' (w : World) (A : Option Addr) : Row w 75 4 (.slice A 0 0) ([] : List AN).length (([] : List AN).flatMap ac) none:=⟨A,0,rfl,Nat.le_refl _,by omega,by simp,.inl ⟨rfl,rfl⟩⟩
theorem Res.none_ (w w' : World) (A : Option Addr) : Res w w' (tbV 0 0 (.slice none 0 0) (.slice none 0 0)) (.slice A 0 0) ⟨0,0,[],[]⟩ [] :=
 ⟨nilT 0 0,none,rfl,rfl,nil_tv w' 0 0,nil_row' w' A,fun b hb => by simp [Tv.blocks,nilT] at hb,fun x _ => apart_none' _⟩
theorem all_take {α : Type} {f : α → Bool} {l : List α} {i : Nat} (hi : i < l.length) (h : (l.take i).all f = true) (hx : f l[i] = true) : (l.take (i + 1)).all f = true:=by
 rw [List.take_succ_eq_append_getElem hi,List.all_append,h,List.all_cons,hx];rfl
theorem all_not {α : Type} {f : α → Bool} {l : List α} {i : Nat} (hi : i < l.length) (hx : ¬ f l[i] = true) : ¬ l.all f = true:=fun h => hx (List.all_eq_true.1 h _ (List.getElem_mem hi))
theorem runSS_calls (A : Option Addr) (c0 : Nat) (l : List RQ) (B : Option Addr) (c1 : Nat) (ts : List Int) (w : World) (hr : Kd.C k94 w A l.length l) (hs : ∀ r ∈ l,r.f4.size ≤ 140737488351232) (hr' : Kd.C (Kd.int .i64) w B ts.length ts) (hc : l.length ≤ c0) (hc' : ts.length ≤ c1) :
  Calls Try.prog 33 #[.slice A l.length c0,.slice B ts.length c1] w fun e w' => ∃ tv av,e = .returned (.tuple #[tv,av,.int .i64 (runAll l ts).2.2]) ∧ Res w w' tv av (runAll l ts).1 (runAll l ts).2.1 ∧ Below w.heap.size w w':=by
 have HR:=Aside0.mk hr
 have HR':=Aside0.mk hr'
 have HC:=Aside0.mk hc
 have HC':=Aside0.mk hc'
 have HS:=Aside0.mk hs
 have hn : l.length ≤ 9223372036854775807:=hr.2.1
 have hn' : ts.length ≤ 9223372036854775807:=hr'.2.1
 clear hr hr' hs hc hc'
 obtain ⟨RA,hRA⟩ : ∃ RA,RA = runAll l ts:=⟨_,rfl⟩
 rw [← hRA]
 have HRA:=Aside0.mk hRA
 clear hRA
 go_enter Try.func33,Try.ntmps33
 go_upto_region 1 with fail
 change Code.wp _ _ _ _ (w.alloc (tbO 0 0 (.slice none 0 0) (.slice none 0 0)))
 have HB0:=Aside0.mk (below_alloc (Below.refl w.heap.size w) (tbO 0 0 (.slice none 0 0) (.slice none 0 0)))
 have HG0:=Aside0.mk (heap_alloc_new w (tbO 0 0 (.slice none 0 0) (.slice none 0 0)))
 generalize w.alloc (tbO 0 0 (.slice none 0 0) (.slice none 0 0)) = W0 at HB0 HG0 ⊢
 have HF2:=Aside0.mk (fun (h : 4096 < l.length ∨ 4096 < ts.length) => show RA = (⟨0,0,[],[]⟩,[],2) by
  have : codeP l ts = 2:=if_pos h
  rw [HRA.out,runAll,this];rfl)
 have HF6:=Aside0.mk (fun (h : ¬ (4096 < l.length ∨ 4096 < ts.length)) (h' : 200 < l.length ∨ l.length ≠ ts.length) => show RA = (⟨0,0,[],[]⟩,[],6) by
  have : codeP l ts = 6:=by rw [codeP,if_neg h,if_pos h']
  rw [HRA.out,runAll,this];rfl)
 have HF1:=Aside0.mk (fun (h : ¬ (4096 < l.length ∨ 4096 < ts.length)) (h' : ¬ (200 < l.length ∨ l.length ≠ ts.length)) (h2 : ¬ (l.all okR = true ∧ ts.all okT = true)) => show RA = (⟨0,0,[],[]⟩,[],1) by
  have : codeP l ts = 1:=by rw [codeP,if_neg h,if_neg h',if_neg h2]
  rw [HRA.out,runAll,this];rfl)
 have HF0:=Aside0.mk (fun (h : ¬ (4096 < l.length ∨ 4096 < ts.length)) (h' : ¬ (200 < l.length ∨ l.length ≠ ts.length)) (h2 : l.all okR = true ∧ ts.all okT = true) => show RA = ((runS (newT,[]) (l.zip ts)).1,(runS (newT,[]) (l.zip ts)).2,0) by
  have : codeP l ts = 0:=by rw [codeP,if_neg h,if_neg h',if_pos h2]
  rw [HRA.out,runAll,if_pos this])
 clear HRA
 by_cases h1 : 4096 < (l.length : Int)
 ·
  have HF:=Aside0.mk (HF2.out (.inl (by omega)))
  have q0 : decide (4096 < (l.length : Int)) = true:=decide_eq_true h1
  clear HF2 HF6 HF1 HF0
  have hb9:=below_alloc (Below.refl _ W0) (.cells #[] 75 (0,0))
  obtain ⟨n0,n1,n2,n3,m0,m1,m2,m3⟩:=box_facts ((hb9.block _ (blk_lt HG0.out)).trans HG0.out)
  go_wp2_with fail
  have hgr:=four_set ((hb9.block _ (blk_lt HG0.out)).trans HG0.out) (.int .i64 0) (.int .i64 0) (.slice none 0 0) (.slice none 0 0)
  refine bodyPost_ret (results_three rfl _ _ w.heap.size 31 _ (0,0) _ rfl hgr Try.underlying31 rfl (by kernel_rfl)) rfl ?_
  rw [HF.out]
  exact ⟨_,_,rfl,Res.none_ _ _ _,(Fr.four (S:=fun _ => False) (Fr.of_below (below_then HB0.out HB0.out.size hb9)) (.inr (Nat.le_refl _)) _ _ _ _).to_below (Nat.le_refl _) (fun _ h => h.elim)⟩
 have q0 : decide (4096 < (l.length : Int)) = false:=decide_eq_false h1
 by_cases h2 : 4096 < (ts.length : Int)
 ·
  have HF:=Aside0.mk (HF2.out (.inr (by omega)))
  have q1 : decide (4096 < (ts.length : Int)) = true:=decide_eq_true h2
  clear HF2 HF6 HF1 HF0
  have hb9:=below_alloc (Below.refl _ W0) (.cells #[] 75 (0,0))
  obtain ⟨n0,n1,n2,n3,m0,m1,m2,m3⟩:=box_facts ((hb9.block _ (blk_lt HG0.out)).trans HG0.out)
  go_wp2_with fail
  have hgr:=four_set ((hb9.block _ (blk_lt HG0.out)).trans HG0.out) (.int .i64 0) (.int .i64 0) (.slice none 0 0) (.slice none 0 0)
  refine bodyPost_ret (results_three rfl _ _ w.heap.size 31 _ (0,0) _ rfl hgr Try.underlying31 rfl (by kernel_rfl)) rfl ?_
  rw [HF.out]
  exact ⟨_,_,rfl,Res.none_ _ _ _,(Fr.four (S:=fun _ => False) (Fr.of_below (below_then HB0.out HB0.out.size hb9)) (.inr (Nat.le_refl _)) _ _ _ _).to_below (Nat.le_refl _) (fun _ h => h.elim)⟩
 have q1 : decide (4096 < (ts.length : Int)) = false:=decide_eq_false h2
 have HM:=Aside0.mk (show ¬ (4096 < l.length ∨ 4096 < ts.length) by omega)
 by_cases h3 : 200 < (l.length : Int)
 ·
  have HF:=Aside0.mk (HF6.out HM.out (.inl (by omega)))
  have q2 : decide (200 < (l.length : Int)) = true:=decide_eq_true h3
  clear HF2 HF6 HF1 HF0
  have hb9:=below_alloc (Below.refl _ W0) (.cells #[] 75 (0,0))
  obtain ⟨n0,n1,n2,n3,m0,m1,m2,m3⟩:=box_facts ((hb9.block _ (blk_lt HG0.out)).trans HG0.out)
  go_wp2_with fail
  have hgr:=four_set ((hb9.block _ (blk_lt HG0.out)).trans HG0.out) (.int .i64 0) (.int .i64 0) (.slice none 0 0) (.slice none 0 0)
  refine bodyPost_ret (results_three rfl _ _ w.heap.size 31 _ (0,0) _ rfl hgr Try.underlying31 rfl (by kernel_rfl)) rfl ?_
  rw [HF.out]
  exact ⟨_,_,rfl,Res.none_ _ _ _,(Fr.four (S:=fun _ => False) (Fr.of_below (below_then HB0.out HB0.out.size hb9)) (.inr (Nat.le_refl _)) _ _ _ _).to_below (Nat.le_refl _) (fun _ h => h.elim)⟩
 have q2 : decide (200 < (l.length : Int)) = false:=decide_eq_false h3
 by_cases h4 : ts.length = l.length
 rotate_left
 ·
  have HF:=Aside0.mk (HF6.out HM.out (.inr (fun e => h4 e.symm)))
  have q3 : ((ts.length : Int) != (l.length : Int)) = true:=by simp;omega
  clear HF2 HF6 HF1 HF0
  have hb9:=below_alloc (Below.refl _ W0) (.cells #[] 75 (0,0))
  obtain ⟨n0,n1,n2,n3,m0,m1,m2,m3⟩:=box_facts ((hb9.block _ (blk_lt HG0.out)).trans HG0.out)
  go_wp2_with fail
  have hgr:=four_set ((hb9.block _ (blk_lt HG0.out)).trans HG0.out) (.int .i64 0) (.int .i64 0) (.slice none 0 0) (.slice none 0 0)
  refine bodyPost_ret (results_three rfl _ _ w.heap.size 31 _ (0,0) _ rfl hgr Try.underlying31 rfl (by kernel_rfl)) rfl ?_
  rw [HF.out]
  exact ⟨_,_,rfl,Res.none_ _ _ _,(Fr.four (S:=fun _ => False) (Fr.of_below (below_then HB0.out HB0.out.size hb9)) (.inr (Nat.le_refl _)) _ _ _ _).to_below (Nat.le_refl _) (fun _ h => h.elim)⟩
 have q3 : ((ts.length : Int) != (l.length : Int)) = false:=by simp;omega
 have HM2:=Aside0.mk (show ¬ (200 < l.length ∨ l.length ≠ ts.length) by omega)
 have HLT:=Aside0.mk h4
 have HL2:=Aside0.mk (show l.length ≤ 200 by omega)
 clear HF2 HF6
 go_wp2_with fail
 with_reducible refine (newS_calls W0).mono ?_
 rintro _ W1 ⟨T0,rfl,hp0,ht0,hk0,hb⟩
 have HB1:=Aside0.mk (below_then HB0.out HB0.out.size hb)
 have HG1:=Aside0.mk ((hb.block _ (blk_lt HG0.out)).trans HG0.out)
 have HP0:=Aside0.mk hp0
 have HT0:=Aside0.mk ht0
 have HK0:=Aside0.mk (show ∀ b,some b ∈ T0.blocks → w.heap.size < b from fun b hb' => Nat.lt_of_lt_of_le (blk_lt HG0.out) (hk0 b hb'))
 obtain ⟨la,lc,hlv⟩:=ht0.rl.slice
 obtain ⟨sa,sc_,hsv⟩:=ht0.rs.slice
 unfold tvV
 rw [hlv,hsv]
 have HLV:=Aside0.mk hlv
 have HSV:=Aside0.mk hsv
 clear hb hp0 ht0 hk0 hlv hsv q0 q1 q2 q3
 go_upto_region 6 with fail
 change Code.wp _ _ _ _ (W1.alloc (tbO T0.tm T0.nx (.slice la T0.ls.length lc) (.slice sa T0.ss.length sc_)))
 rw [← HLV.out,← HSV.out]
 have hb2:=below_alloc (Below.refl W1.heap.size W1) (tbO T0.tm T0.nx T0.vl T0.vs)
 have HB2:=Aside0.mk (below_then HB1.out HB1.out.size hb2)
 have HG2:=Aside0.mk ((hb2.block _ (blk_lt HG1.out)).trans HG1.out)
 have HT2:=Aside0.mk (tv_box HT0.out hb2 (show (W1.alloc (tbO T0.tm T0.nx T0.vl T0.vs)).heap[W1.heap.size]? = some T0.box from heap_alloc_new W1 _) (Nat.le_refl _))
 have HGW:=Aside0.mk (show w.heap.size < W1.heap.size from blk_lt HG1.out)
 generalize W1.alloc (tbO T0.tm T0.nx T0.vl T0.vs) = W2 at HB2 HG2 HT2 ⊢
 generalize W1.heap.size = g at HT2 HGW ⊢
 clear hb2
 go_upto_region 7 with fail
 have hb3:=below_alloc (Below.refl W2.heap.size W2) (.cells #[] 75 (0,0))
 have HO0:=Aside0.mk (show O2 w (W2.alloc (.cells #[] 75 (0,0))) g T0 (.slice (some ⟨W2.heap.size,0,none⟩) 0 0) [] none from ⟨HT2.out.below hb3,nil_row' _ _,fun b hb => hb.elim (fun h => HK0.out b h) (fun h => by cases h),by simp,fun x _ => apart_none' _,(hb3.block _ (blk_lt HG2.out)).trans HG2.out,below_then HB2.out HB2.out.size hb3,HGW.out⟩)
 generalize W2.alloc (.cells #[] 75 (0,0)) = W3 at HO0 ⊢
 generalize (Value.slice (some ⟨W2.heap.size,0,none⟩) 0 0) = av0 at HO0 ⊢
 clear hb3
 go_wp2_with fail
 go_loopg [8,9] l.length (fun gh v8 v9 wx => ∃ (i : Nat) (T : Tv) (an_ : List AN) (oa : Option Nat),v9 = .int .i64 i ∧ i ≤ l.length ∧ Aside0 (i + gh = l.length) ∧ Aside0 (an_.length = i) ∧ Aside0 ((Tv.pu T,an_) = runS (newT,[]) ((l.zip ts).take i)) ∧ Aside0 (TGood (1 + 5 * i) (Tv.pu T)) ∧ Aside0 (O2 w wx g T v8 an_ oa) ∧ Aside0 ((l.take i).all okR = true ∧ (ts.take i).all okT = true))
 case atStart => exact ⟨0,T0,[],none,rfl,Nat.zero_le _,⟨by omega⟩,⟨rfl⟩,⟨by rw [HP0.out];rfl⟩,⟨by rw [HP0.out];exact new_good⟩,HO0,⟨rfl,rfl⟩⟩
 case round =>
  obtain ⟨wi,rfl⟩ : ∃ wi : World,wi = wr:=⟨_,rfl⟩
  obtain ⟨i,T,an_,oa,rfl,hi,HMM,HLA,HRS,HGD,HO,HAL⟩:=hrel
  have HL2c:=HL2.out
  by_cases hlt : i < l.length
  ·
   have HRQ0 : Aside0 (∀ W_ : World,Below w.heap.size w W_ → ∃ ad,A = some ad ∧ W_.cell? (ad.add (i * 5)) = some (.int .i64 (l[i]).f0) ∧ W_.cell? ⟨(ad.add (i * 5)).block,(ad.add (i * 5)).off + 1,none⟩ = some (.int .i64 (l[i]).f1) ∧ W_.cell? ⟨(ad.add (i * 5)).block,(ad.add (i * 5)).off + 2,none⟩ = some (.int .i64 (l[i]).f2) ∧ W_.cell? ⟨(ad.add (i * 5)).block,(ad.add (i * 5)).off + 3,none⟩ = some (.int .i64 (l[i]).f3) ∧ W_.cell? ⟨(ad.add (i * 5)).block,(ad.add (i * 5)).off + 4,none⟩ = some (.string (l[i]).f4)):=⟨fun W_ hb => by
    obtain ⟨ad,eA,z0,z1,z2,z3,z4⟩:=at_T94 (Kd.C_below HR.out hb) (i : Int) (by omega) (by omega)
    simp only [Int.toNat_natCast] at z0 z1 z2 z3 z4
    have hd : rd_T94 l (i : Int) = l[i]:=by unfold rd_T94;simp [hlt]
    rw [hd] at z0 z1 z2 z3 z4
    exact ⟨ad,eA,z0,z1,z2,z3,z4⟩⟩
   obtain ⟨ad,eA,-⟩:=HRQ0.out wi HO.out.be
   have hlt' : i < ts.length:=by have:=HLT.out;omega
   have HTI0 : Aside0 (∀ W_ : World,Below w.heap.size w W_ → ∃ ad,B = some ad ∧ W_.cell? (ad.add i) = some (.int .i64 ts[i])):=⟨fun W_ hb => by
    obtain ⟨ad',eB,y0⟩:=Kd.at_int (Kd.C_below HR'.out hb) (i : Int) (by omega) (by omega)
    simp only [Int.toNat_natCast] at y0
    have hd : rd ts (i : Int) = ts[i]:=by unfold rd;simp [hlt']
    rw [hd] at y0
    exact ⟨ad',eB,y0⟩⟩
   obtain ⟨ad',eB,-⟩:=HTI0.out wi HO.out.be
   subst eA
   subst eB
   have HSZ:=Aside0.mk (HS.out _ (List.getElem_mem hlt))
   have HKR:=Aside0.mk (fun (h : ¬ okR l[i] = true) => all_not hlt h)
   have HKT:=Aside0.mk (fun (h : ¬ okT ts[i] = true) => all_not hlt' h)
   have HKA:=Aside0.mk (fun (h : okR l[i] = true) (h' : okT ts[i] = true) => show (l.take (i + 1)).all okR = true ∧ (ts.take (i + 1)).all okT = true from ⟨all_take hlt HAL.out.1 h,all_take hlt' HAL.out.2 h'⟩)
   have HZT:=Aside0.mk (zip_take (l:=l) (ts:=ts) i hlt hlt')
   obtain ⟨r,hrk⟩ : ∃ r,r = l[i]:=⟨_,rfl⟩
   obtain ⟨tn,htn⟩ : ∃ tn,tn = ts[i]:=⟨_,rfl⟩
   rw [← hrk] at HRQ0 HSZ HKR HKA HZT
   rw [← htn] at HTI0 HKT HKA HZT
   have HRQ : Aside0 (∀ W_ : World,Below w.heap.size w W_ → W_.cell? (ad.add (i * 5)) = some (.int .i64 r.f0) ∧ W_.cell? ⟨(ad.add (i * 5)).block,(ad.add (i * 5)).off + 1,none⟩ = some (.int .i64 r.f1) ∧ W_.cell? ⟨(ad.add (i * 5)).block,(ad.add (i * 5)).off + 2,none⟩ = some (.int .i64 r.f2) ∧ W_.cell? ⟨(ad.add (i * 5)).block,(ad.add (i * 5)).off + 3,none⟩ = some (.int .i64 r.f3) ∧ W_.cell? ⟨(ad.add (i * 5)).block,(ad.add (i * 5)).off + 4,none⟩ = some (.string r.f4)):=⟨fun W_ hb => by
    obtain ⟨ad2,e,h⟩:=HRQ0.out W_ hb
    injection e with e
    rw [e]
    exact h⟩
   have HTI : Aside0 (∀ W_ : World,Below w.heap.size w W_ → W_.cell? (ad'.add i) = some (.int .i64 tn)):=⟨fun W_ hb => by
    obtain ⟨ad2,e,h⟩:=HTI0.out W_ hb
    injection e with e
    rw [e]
    exact h⟩
   clear HRQ0 HTI0 hrk htn
   obtain ⟨z0,z1,z2,z3,z4⟩:=HRQ.out wi HO.out.be
   have q0 : ((i : Int) < (l.length : Int)) = True:=eq_true (by omega)
   have q1 : (0 ≤ (i : Int)) = True:=eq_true (by omega)
   have q2 : decide ((i : Int) < (l.length : Int)) = true:=decide_eq_true (by omega)
   have q3 : ((i : Int) < (ts.length : Int)) = True:=eq_true (by omega)
   go_wp2_with fail
   have hq:=sreq_calls r wi HSZ.out
   unfold rqV at hq
   with_reducible refine hq.mono ?_
   clear hq
   rintro _ W1' ⟨rfl,hb⟩
   have HO1:=Aside0.mk (HO.out.below hb)
   clear hb z0 z1 z2 z3 z4
   by_cases hok : okR r = true
   rotate_left
   ·
    have HF:=Aside0.mk (HF1.out HM.out HM2.out (fun h => HKR.out hok h.1))
    have hok' : okR r = false:=by simpa using hok
    rw [hok']
    clear hok hok'
    have hb9:=below_alloc (Below.refl _ W1') (.cells #[] 75 (0,0))
    obtain ⟨n0,n1,n2,n3,m0,m1,m2,m3⟩:=box_facts ((hb9.block _ (blk_lt HO1.out.bx)).trans HO1.out.bx)
    go_wp2_with fail
    have hgr:=four_set ((hb9.block _ (blk_lt HO1.out.bx)).trans HO1.out.bx) (.int .i64 0) (.int .i64 0) (.slice none 0 0) (.slice none 0 0)
    refine bodyPost_ret (results_three rfl _ _ w.heap.size 31 _ (0,0) _ rfl hgr Try.underlying31 rfl (by kernel_rfl)) rfl ?_
    rw [HF.out]
    exact ⟨_,_,rfl,Res.none_ _ _ _,(Fr.four (S:=fun _ => False) (Fr.of_below (below_then HO1.out.be HO1.out.be.size hb9)) (.inr (Nat.le_refl _)) _ _ _ _).to_below (Nat.le_refl _) (fun _ h => h.elim)⟩
   have HRG:=Aside0.mk (okR_good hok)
   rw [hok]
   have t0:=HTI.out W1' HO1.out.be
   go_wp2_with fail
   with_reducible refine (sin_calls tn W1').mono ?_
   rintro _ W3 ⟨rfl,hb⟩
   have HO3:=Aside0.mk (HO1.out.below hb)
   clear hb t0
   by_cases hokt : okT tn = true
   rotate_left
   ·
    have HF:=Aside0.mk (HF1.out HM.out HM2.out (fun h => HKT.out hokt h.2))
    have hokt' : okT tn = false:=by simpa using hokt
    rw [hokt']
    clear hokt hokt'
    have hb9:=below_alloc (Below.refl _ W3) (.cells #[] 75 (0,0))
    obtain ⟨n0,n1,n2,n3,m0,m1,m2,m3⟩:=box_facts ((hb9.block _ (blk_lt HO3.out.bx)).trans HO3.out.bx)
    go_wp2_with fail
    have hgr:=four_set ((hb9.block _ (blk_lt HO3.out.bx)).trans HO3.out.bx) (.int .i64 0) (.int .i64 0) (.slice none 0 0) (.slice none 0 0)
    refine bodyPost_ret (results_three rfl _ _ w.heap.size 31 _ (0,0) _ rfl hgr Try.underlying31 rfl (by kernel_rfl)) rfl ?_
    rw [HF.out]
    exact ⟨_,_,rfl,Res.none_ _ _ _,(Fr.four (S:=fun _ => False) (Fr.of_below (below_then HO3.out.be HO3.out.be.size hb9)) (.inr (Nat.le_refl _)) _ _ _ _).to_below (Nat.le_refl _) (fun _ h => h.elim)⟩
   have HTG:=Aside0.mk (okT_good hokt)
   have HAL2:=Aside0.mk (HKA.out hok hokt)
   rw [hokt]
   clear hok hokt HKR HKT HKA
   go_upto_region 12 with fail
   have HO4:=Aside0.mk (HO3.out.below (below_drew (Below.refl _ _)))
   obtain ⟨la,lc,hlv⟩:=HO4.out.tb.v.rl.slice
   obtain ⟨sa,sc_,hsv⟩:=HO4.out.tb.v.rs.slice
   obtain ⟨y0,y1,y2,y3,-,-,-,-⟩:=HO4.out.tb.cells
   rw [hlv] at y2
   rw [hsv] at y3
   have HLV:=Aside0.mk hlv
   have HSV:=Aside0.mk hsv
   clear hlv hsv
   have t0:=HTI.out _ HO4.out.be
   obtain ⟨z0,z1,z2,z3,z4⟩:=HRQ.out _ HO4.out.be
   refine start_ (n:=17) (S:=fun w' => w'.cell? ⟨g,0,none⟩ = some (.int .i64 T.tm) ∧ w'.cell? ⟨g,1,none⟩ = some (.int .i64 T.nx) ∧ w'.cell? ⟨g,2,none⟩ = some (.slice la T.ls.length lc) ∧ w'.cell? ⟨g,3,none⟩ = some (.slice sa T.ss.length sc_) ∧ w'.cell? (ad'.add i) = some (.int .i64 tn) ∧ w'.cell? (ad.add (i * 5)) = some (.int .i64 r.f0) ∧ w'.cell? ⟨(ad.add (i * 5)).block,(ad.add (i * 5)).off + 1,none⟩ = some (.int .i64 r.f1) ∧ w'.cell? ⟨(ad.add (i * 5)).block,(ad.add (i * 5)).off + 2,none⟩ = some (.int .i64 r.f2) ∧ w'.cell? ⟨(ad.add (i * 5)).block,(ad.add (i * 5)).off + 3,none⟩ = some (.int .i64 r.f3) ∧ w'.cell? ⟨(ad.add (i * 5)).block,(ad.add (i * 5)).off + 4,none⟩ = some (.string r.f4)) (ds:=[16]) #[false,false,false,false,false,false,false,false,false,false,false,false,false,false,false,false,false] (by kernel_rfl) rfl rfl ⟨y0,y1,y2,y3,t0,z0,z1,z2,z3,z4⟩ (fun hHeld => ?_)
   clear y0 y1 y2 y3 t0 z0 z1 z2 z3 z4
   generalize W3.drew = V at HO4 hHeld ⊢
   have HSF : Aside0 (∀ W_ : World,Below V.heap.size V W_ → (W_.cell? ⟨g,0,none⟩ = some (.int .i64 T.tm) ∧ W_.cell? ⟨g,1,none⟩ = some (.int .i64 T.nx) ∧ W_.cell? ⟨g,2,none⟩ = some (.slice la T.ls.length lc) ∧ W_.cell? ⟨g,3,none⟩ = some (.slice sa T.ss.length sc_) ∧ W_.cell? (ad'.add i) = some (.int .i64 tn) ∧ W_.cell? (ad.add (i * 5)) = some (.int .i64 r.f0) ∧ W_.cell? ⟨(ad.add (i * 5)).block,(ad.add (i * 5)).off + 1,none⟩ = some (.int .i64 r.f1) ∧ W_.cell? ⟨(ad.add (i * 5)).block,(ad.add (i * 5)).off + 2,none⟩ = some (.int .i64 r.f2) ∧ W_.cell? ⟨(ad.add (i * 5)).block,(ad.add (i * 5)).off + 3,none⟩ = some (.int .i64 r.f3) ∧ W_.cell? ⟨(ad.add (i * 5)).block,(ad.add (i * 5)).off + 4,none⟩ = some (.string r.f4))):=⟨fun W_ hb_ => by have h_:=HO4.out.below hb_;obtain ⟨y0_,y1_,y2_,y3_,-,-,-,-⟩:=h_.tb.cells;rw [HLV.out] at y2_;rw [HSV.out] at y3_;obtain ⟨p0_,p1_,p2_,p3_,p4_⟩:=HRQ.out W_ h_.be;exact ⟨y0_,y1_,y2_,y3_,HTI.out W_ h_.be,p0_,p1_,p2_,p3_,p4_⟩⟩
   have HBV:=Aside0.mk (Below.refl V.heap.size V)
   have HNN:=Aside0.mk (show (1 + 5 * (i : Int)) ≤ 800000 by omega)
   refine pq 1 (some 60) ?_
   refine pq 2 (some 61) ?_
   refine pq 3 (some 62) ?_
   refine pq 5 (some 64) ?_
   refine pq 6 (some 65) ?_
   refine pq 7 (some 66) ?_
   refine tq 0 (some 59) hHeld ?_
   refine tq 4 (some 63) hHeld ?_
   refine tq 8 (some 67) hHeld ?_
   refine join_ (σ:=Tv × AN × Nat × Nat) 2 #[true,true,true,true,true,true,true,true,true,true,true,true,true,true,true,false,false] (fun s_ => [(68,.tuple #[tvV s_.1,anV s_.2.1]),(58,.tuple #[tvV s_.1,anV s_.2.1]),(69,tvV s_.1),(70,anV s_.2.1),(10,.pointer (some ⟨s_.2.2.1,0,none⟩)),(11,.pointer (some ⟨s_.2.2.2,0,none⟩))]) (fun s_ w_ => Below V.heap.size V w_ ∧ (Tv.pu s_.1,s_.2.1) = reqX (Tv.pu T) tn r ∧ TV w_ s_.1 ∧ (∀ b,some b ∈ s_.1.blocks → V.heap.size ≤ b) ∧ w_.heap[s_.2.2.1]? = some (tbO 0 0 (.slice none 0 0) (.slice none 0 0)) ∧ w_.heap[s_.2.2.2]? = some (anO ⟨0,0,0,0⟩) ∧ V.heap.size ≤ s_.2.2.1 ∧ V.heap.size ≤ s_.2.2.2 ∧ s_.2.2.1 ≠ s_.2.2.2 ∧ (∀ b,some b ∈ s_.1.blocks → b ≠ s_.2.2.1) ∧ (∀ b,some b ∈ s_.1.blocks → b ≠ s_.2.2.2)) ?_ ?_
   rotate_left
   ·
    intro hCont
    refine three_ (i:=9) (j:=13) (k:=14) (Ni:=some 68) (Nj:=some 10) (Nk:=some 11) #[true,true,true,true,true,true,true,true,true,true,false,false,false,false,false,false,false] #[true,true,true,true,true,true,true,true,true,false,false,false,false,true,false,false,false] #[true,true,true,true,true,true,true,true,true,false,false,false,false,false,true,false,false] rfl rfl rfl rfl rfl rfl (by kernel_rfl) (by decide) (by decide) (by decide) (fun K hK => ?_) (fun K hK => ?_) (fun K hK => ?_)
    ·
     skip
     have hq:=sapply_calls V T tn r (1 + 5 * i) (HO4.out.tb.v.below HBV.out) HGD.out HNN.out HTG.out HRG.out
     unfold tvV rqV at hq
     rw [HLV.out,HSV.out] at hq
     refine goes_ Try.func57 (by kernel_rfl) rfl #[.agg #[.int .i64 T.tm,.int .i64 T.nx,.slice la T.ls.length lc,.slice sa T.ss.length sc_],.int .i64 tn,.agg #[.int .i64 r.f0,.int .i64 r.f1,.int .i64 r.f2,.int .i64 r.f3,.string r.f4]] (by rfl) rfl rfl (by simp only [List.map_toArray,List.map_cons,List.map_nil];rfl) ?_
     with_reducible refine (hq).mono ?_
     rintro _ Y9 ⟨T2,a,rfl,hp2,ht2,hk2,hb_⟩
     refine ⟨_,rfl,?_⟩
     have HBY9:=Aside0.mk (below_then HBV.out HBV.out.size hb_)
     have HTY9:=Aside0.mk ht2
     have HP2:=Aside0.mk hp2
     have HK2:=Aside0.mk hk2
     clear hq hp2 ht2 hk2 hb_ hHeld
     refine hK.out _ _ ⟨(HSF.out Y9 HBY9.out).1,(HSF.out Y9 HBY9.out).2.1,(HSF.out Y9 HBY9.out).2.2.1,(HSF.out Y9 HBY9.out).2.2.2.1,(HSF.out Y9 HBY9.out).2.2.2.2.1,(HSF.out Y9 HBY9.out).2.2.2.2.2.1,(HSF.out Y9 HBY9.out).2.2.2.2.2.2.1,(HSF.out Y9 HBY9.out).2.2.2.2.2.2.2.1,(HSF.out Y9 HBY9.out).2.2.2.2.2.2.2.2.1,(HSF.out Y9 HBY9.out).2.2.2.2.2.2.2.2.2⟩ (fun hHeld => ?_)
     clear hK K
     refine mq ?_
     refine pq 10 (some 58) ?_
     refine pq 11 (some 69) ?_
     refine pq 12 (some 70) ?_
     refine two_ (i:=13) (j:=14) (Ni:=some 10) (Nj:=some 11) #[true,true,true,true,true,true,true,true,true,true,true,true,true,true,false,false,false] #[true,true,true,true,true,true,true,true,true,true,true,true,true,false,true,false,false] rfl rfl rfl rfl (by kernel_rfl) (by decide) (by decide) (fun K hK => ?_) (fun K hK => ?_)
     ·
      skip
      refine vq ?_
      have hb_:=below_alloc (Below.refl Y9.heap.size Y9) (.cells #[.int .i64 0,.int .i64 0,.slice none 0 0,.slice none 0 0] 31 (0,0))
      have HBY9_13:=Aside0.mk (below_then HBY9.out HBY9.out.size hb_)
      have HN13Y9_13:=Aside0.mk (heap_alloc_new Y9 (.cells #[.int .i64 0,.int .i64 0,.slice none 0 0,.slice none 0 0] 31 (0,0)))
      have HTY9_13:=Aside0.mk (HTY9.out.below hb_)
      clear hb_ hHeld
      generalize hY_ : Y9.alloc _ = Y9_13 at HBY9_13 HN13Y9_13 HTY9_13 ⊢
      clear hY_
      refine hK.out _ _ ⟨(HSF.out Y9_13 HBY9_13.out).1,(HSF.out Y9_13 HBY9_13.out).2.1,(HSF.out Y9_13 HBY9_13.out).2.2.1,(HSF.out Y9_13 HBY9_13.out).2.2.2.1,(HSF.out Y9_13 HBY9_13.out).2.2.2.2.1,(HSF.out Y9_13 HBY9_13.out).2.2.2.2.2.1,(HSF.out Y9_13 HBY9_13.out).2.2.2.2.2.2.1,(HSF.out Y9_13 HBY9_13.out).2.2.2.2.2.2.2.1,(HSF.out Y9_13 HBY9_13.out).2.2.2.2.2.2.2.2.1,(HSF.out Y9_13 HBY9_13.out).2.2.2.2.2.2.2.2.2⟩ (fun hHeld => ?_)
      clear hK K
      refine mq ?_
      refine nq 14 (some 11) fun K hK => ?_
      refine vq ?_
      have hb_:=below_alloc (Below.refl Y9_13.heap.size Y9_13) (.cells #[.int .i64 0,.int .i64 0,.int .i64 0,.int .i64 0] 75 (0,0))
      have HBY9_13_14:=Aside0.mk (below_then HBY9_13.out HBY9_13.out.size hb_)
      have HN14Y9_13_14:=Aside0.mk (heap_alloc_new Y9_13 (.cells #[.int .i64 0,.int .i64 0,.int .i64 0,.int .i64 0] 75 (0,0)))
      have HN13Y9_13_14:=Aside0.mk ((hb_.block _ (blk_lt HN13Y9_13.out)).trans HN13Y9_13.out)
      have HTY9_13_14:=Aside0.mk (HTY9_13.out.below hb_)
      clear hb_ hHeld
      generalize hY_ : Y9_13.alloc _ = Y9_13_14 at HBY9_13_14 HN13Y9_13_14 HN14Y9_13_14 HTY9_13_14 ⊢
      clear hY_
      refine hK.out _ _ ⟨(HSF.out Y9_13_14 HBY9_13_14.out).1,(HSF.out Y9_13_14 HBY9_13_14.out).2.1,(HSF.out Y9_13_14 HBY9_13_14.out).2.2.1,(HSF.out Y9_13_14 HBY9_13_14.out).2.2.2.1,(HSF.out Y9_13_14 HBY9_13_14.out).2.2.2.2.1,(HSF.out Y9_13_14 HBY9_13_14.out).2.2.2.2.2.1,(HSF.out Y9_13_14 HBY9_13_14.out).2.2.2.2.2.2.1,(HSF.out Y9_13_14 HBY9_13_14.out).2.2.2.2.2.2.2.1,(HSF.out Y9_13_14 HBY9_13_14.out).2.2.2.2.2.2.2.2.1,(HSF.out Y9_13_14 HBY9_13_14.out).2.2.2.2.2.2.2.2.2⟩ (fun hHeld => ?_)
      clear hK K
      refine mq ?_
      exact norm_ (by simp only [putAll,Act.put,List.setIfInBounds_toArray,List.set_cons_zero,List.set_cons_succ]) (hCont (T2,a,Y9.heap.size,Y9_13.heap.size) _ ⟨HBY9_13_14.out,HP2.out,HTY9_13_14.out,fun b hb => Nat.le_trans HBV.out.size (HK2.out b hb),HN13Y9_13_14.out,HN14Y9_13_14.out,HBY9.out.size,HBY9_13.out.size,fun (e : Y9.heap.size = Y9_13.heap.size) => by have h1:=blk_lt HN13Y9_13.out;omega,fun b hb (e : b = Y9.heap.size) => by have h1:=HTY9.out.lt b hb;omega,fun b hb (e : b = Y9_13.heap.size) => by have h1:=HTY9_13.out.lt b hb;omega⟩)
     ·
      skip
      refine vq ?_
      have hb_:=below_alloc (Below.refl Y9.heap.size Y9) (.cells #[.int .i64 0,.int .i64 0,.int .i64 0,.int .i64 0] 75 (0,0))
      have HBY9_14:=Aside0.mk (below_then HBY9.out HBY9.out.size hb_)
      have HN14Y9_14:=Aside0.mk (heap_alloc_new Y9 (.cells #[.int .i64 0,.int .i64 0,.int .i64 0,.int .i64 0] 75 (0,0)))
      have HTY9_14:=Aside0.mk (HTY9.out.below hb_)
      clear hb_ hHeld
      generalize hY_ : Y9.alloc _ = Y9_14 at HBY9_14 HN14Y9_14 HTY9_14 ⊢
      clear hY_
      refine hK.out _ _ ⟨(HSF.out Y9_14 HBY9_14.out).1,(HSF.out Y9_14 HBY9_14.out).2.1,(HSF.out Y9_14 HBY9_14.out).2.2.1,(HSF.out Y9_14 HBY9_14.out).2.2.2.1,(HSF.out Y9_14 HBY9_14.out).2.2.2.2.1,(HSF.out Y9_14 HBY9_14.out).2.2.2.2.2.1,(HSF.out Y9_14 HBY9_14.out).2.2.2.2.2.2.1,(HSF.out Y9_14 HBY9_14.out).2.2.2.2.2.2.2.1,(HSF.out Y9_14 HBY9_14.out).2.2.2.2.2.2.2.2.1,(HSF.out Y9_14 HBY9_14.out).2.2.2.2.2.2.2.2.2⟩ (fun hHeld => ?_)
      clear hK K
      refine mq ?_
      refine nq 13 (some 10) fun K hK => ?_
      refine vq ?_
      have hb_:=below_alloc (Below.refl Y9_14.heap.size Y9_14) (.cells #[.int .i64 0,.int .i64 0,.slice none 0 0,.slice none 0 0] 31 (0,0))
      have HBY9_14_13:=Aside0.mk (below_then HBY9_14.out HBY9_14.out.size hb_)
      have HN13Y9_14_13:=Aside0.mk (heap_alloc_new Y9_14 (.cells #[.int .i64 0,.int .i64 0,.slice none 0 0,.slice none 0 0] 31 (0,0)))
      have HN14Y9_14_13:=Aside0.mk ((hb_.block _ (blk_lt HN14Y9_14.out)).trans HN14Y9_14.out)
      have HTY9_14_13:=Aside0.mk (HTY9_14.out.below hb_)
      clear hb_ hHeld
      generalize hY_ : Y9_14.alloc _ = Y9_14_13 at HBY9_14_13 HN13Y9_14_13 HN14Y9_14_13 HTY9_14_13 ⊢
      clear hY_
      refine hK.out _ _ ⟨(HSF.out Y9_14_13 HBY9_14_13.out).1,(HSF.out Y9_14_13 HBY9_14_13.out).2.1,(HSF.out Y9_14_13 HBY9_14_13.out).2.2.1,(HSF.out Y9_14_13 HBY9_14_13.out).2.2.2.1,(HSF.out Y9_14_13 HBY9_14_13.out).2.2.2.2.1,(HSF.out Y9_14_13 HBY9_14_13.out).2.2.2.2.2.1,(HSF.out Y9_14_13 HBY9_14_13.out).2.2.2.2.2.2.1,(HSF.out Y9_14_13 HBY9_14_13.out).2.2.2.2.2.2.2.1,(HSF.out Y9_14_13 HBY9_14_13.out).2.2.2.2.2.2.2.2.1,(HSF.out Y9_14_13 HBY9_14_13.out).2.2.2.2.2.2.2.2.2⟩ (fun hHeld => ?_)
      clear hK K
      refine mq ?_
      exact norm_ (by simp only [putAll,Act.put,List.setIfInBounds_toArray,List.set_cons_zero,List.set_cons_succ]) (hCont (T2,a,Y9_14.heap.size,Y9.heap.size) _ ⟨HBY9_14_13.out,HP2.out,HTY9_14_13.out,fun b hb => Nat.le_trans HBV.out.size (HK2.out b hb),HN13Y9_14_13.out,HN14Y9_14_13.out,HBY9_14.out.size,HBY9.out.size,fun (e : Y9_14.heap.size = Y9.heap.size) => by have h1:=blk_lt HN14Y9_14.out;omega,fun b hb (e : b = Y9_14.heap.size) => by have h1:=HTY9_14.out.lt b hb;omega,fun b hb (e : b = Y9.heap.size) => by have h1:=HTY9.out.lt b hb;omega⟩)
    ·
     skip
     refine vq ?_
     have hb_:=below_alloc (Below.refl V.heap.size V) (.cells #[.int .i64 0,.int .i64 0,.slice none 0 0,.slice none 0 0] 31 (0,0))
     have HBY13:=Aside0.mk (below_then HBV.out HBV.out.size hb_)
     have HN13Y13:=Aside0.mk (heap_alloc_new V (.cells #[.int .i64 0,.int .i64 0,.slice none 0 0,.slice none 0 0] 31 (0,0)))
     clear hb_ hHeld
     generalize hY_ : V.alloc _ = Y13 at HBY13 HN13Y13 ⊢
     clear hY_
     refine hK.out _ _ ⟨(HSF.out Y13 HBY13.out).1,(HSF.out Y13 HBY13.out).2.1,(HSF.out Y13 HBY13.out).2.2.1,(HSF.out Y13 HBY13.out).2.2.2.1,(HSF.out Y13 HBY13.out).2.2.2.2.1,(HSF.out Y13 HBY13.out).2.2.2.2.2.1,(HSF.out Y13 HBY13.out).2.2.2.2.2.2.1,(HSF.out Y13 HBY13.out).2.2.2.2.2.2.2.1,(HSF.out Y13 HBY13.out).2.2.2.2.2.2.2.2.1,(HSF.out Y13 HBY13.out).2.2.2.2.2.2.2.2.2⟩ (fun hHeld => ?_)
     clear hK K
     refine mq ?_
     refine two_ (i:=9) (j:=14) (Ni:=some 68) (Nj:=some 11) #[true,true,true,true,true,true,true,true,true,true,false,false,false,true,false,false,false] #[true,true,true,true,true,true,true,true,true,false,false,false,false,true,true,false,false] rfl rfl rfl rfl (by kernel_rfl) (by decide) (by decide) (fun K hK => ?_) (fun K hK => ?_)
     ·
      skip
      have hq:=sapply_calls Y13 T tn r (1 + 5 * i) (HO4.out.tb.v.below HBY13.out) HGD.out HNN.out HTG.out HRG.out
      unfold tvV rqV at hq
      rw [HLV.out,HSV.out] at hq
      refine goes_ Try.func57 (by kernel_rfl) rfl #[.agg #[.int .i64 T.tm,.int .i64 T.nx,.slice la T.ls.length lc,.slice sa T.ss.length sc_],.int .i64 tn,.agg #[.int .i64 r.f0,.int .i64 r.f1,.int .i64 r.f2,.int .i64 r.f3,.string r.f4]] (by rfl) rfl rfl (by simp only [List.map_toArray,List.map_cons,List.map_nil];rfl) ?_
      with_reducible refine (hq).mono ?_
      rintro _ Y13_9 ⟨T2,a,rfl,hp2,ht2,hk2,hb_⟩
      refine ⟨_,rfl,?_⟩
      have HBY13_9:=Aside0.mk (below_then HBY13.out HBY13.out.size hb_)
      have HTY13_9:=Aside0.mk ht2
      have HP2:=Aside0.mk hp2
      have HK2:=Aside0.mk hk2
      have HN13Y13_9:=Aside0.mk ((hb_.block _ (blk_lt HN13Y13.out)).trans HN13Y13.out)
      clear hq hp2 ht2 hk2 hb_ hHeld
      refine hK.out _ _ ⟨(HSF.out Y13_9 HBY13_9.out).1,(HSF.out Y13_9 HBY13_9.out).2.1,(HSF.out Y13_9 HBY13_9.out).2.2.1,(HSF.out Y13_9 HBY13_9.out).2.2.2.1,(HSF.out Y13_9 HBY13_9.out).2.2.2.2.1,(HSF.out Y13_9 HBY13_9.out).2.2.2.2.2.1,(HSF.out Y13_9 HBY13_9.out).2.2.2.2.2.2.1,(HSF.out Y13_9 HBY13_9.out).2.2.2.2.2.2.2.1,(HSF.out Y13_9 HBY13_9.out).2.2.2.2.2.2.2.2.1,(HSF.out Y13_9 HBY13_9.out).2.2.2.2.2.2.2.2.2⟩ (fun hHeld => ?_)
      clear hK K
      refine mq ?_
      refine pq 10 (some 58) ?_
      refine pq 11 (some 69) ?_
      refine pq 12 (some 70) ?_
      refine nq 14 (some 11) fun K hK => ?_
      refine vq ?_
      have hb_:=below_alloc (Below.refl Y13_9.heap.size Y13_9) (.cells #[.int .i64 0,.int .i64 0,.int .i64 0,.int .i64 0] 75 (0,0))
      have HBY13_9_14:=Aside0.mk (below_then HBY13_9.out HBY13_9.out.size hb_)
      have HN14Y13_9_14:=Aside0.mk (heap_alloc_new Y13_9 (.cells #[.int .i64 0,.int .i64 0,.int .i64 0,.int .i64 0] 75 (0,0)))
      have HN13Y13_9_14:=Aside0.mk ((hb_.block _ (blk_lt HN13Y13_9.out)).trans HN13Y13_9.out)
      have HTY13_9_14:=Aside0.mk (HTY13_9.out.below hb_)
      clear hb_ hHeld
      generalize hY_ : Y13_9.alloc _ = Y13_9_14 at HBY13_9_14 HN13Y13_9_14 HN14Y13_9_14 HTY13_9_14 ⊢
      clear hY_
      refine hK.out _ _ ⟨(HSF.out Y13_9_14 HBY13_9_14.out).1,(HSF.out Y13_9_14 HBY13_9_14.out).2.1,(HSF.out Y13_9_14 HBY13_9_14.out).2.2.1,(HSF.out Y13_9_14 HBY13_9_14.out).2.2.2.1,(HSF.out Y13_9_14 HBY13_9_14.out).2.2.2.2.1,(HSF.out Y13_9_14 HBY13_9_14.out).2.2.2.2.2.1,(HSF.out Y13_9_14 HBY13_9_14.out).2.2.2.2.2.2.1,(HSF.out Y13_9_14 HBY13_9_14.out).2.2.2.2.2.2.2.1,(HSF.out Y13_9_14 HBY13_9_14.out).2.2.2.2.2.2.2.2.1,(HSF.out Y13_9_14 HBY13_9_14.out).2.2.2.2.2.2.2.2.2⟩ (fun hHeld => ?_)
      clear hK K
      refine mq ?_
      exact norm_ (by simp only [putAll,Act.put,List.setIfInBounds_toArray,List.set_cons_zero,List.set_cons_succ]) (hCont (T2,a,V.heap.size,Y13_9.heap.size) _ ⟨HBY13_9_14.out,HP2.out,HTY13_9_14.out,fun b hb => Nat.le_trans HBY13.out.size (HK2.out b hb),HN13Y13_9_14.out,HN14Y13_9_14.out,HBV.out.size,HBY13_9.out.size,fun (e : V.heap.size = Y13_9.heap.size) => by have h1:=blk_lt HN13Y13_9.out;omega,fun b hb (e : b = V.heap.size) => by have h1:=HK2.out b hb;have h2:=blk_lt HN13Y13.out;omega,fun b hb (e : b = Y13_9.heap.size) => by have h1:=HTY13_9.out.lt b hb;omega⟩)
     ·
      skip
      refine vq ?_
      have hb_:=below_alloc (Below.refl Y13.heap.size Y13) (.cells #[.int .i64 0,.int .i64 0,.int .i64 0,.int .i64 0] 75 (0,0))
      have HBY13_14:=Aside0.mk (below_then HBY13.out HBY13.out.size hb_)
      have HN14Y13_14:=Aside0.mk (heap_alloc_new Y13 (.cells #[.int .i64 0,.int .i64 0,.int .i64 0,.int .i64 0] 75 (0,0)))
      have HN13Y13_14:=Aside0.mk ((hb_.block _ (blk_lt HN13Y13.out)).trans HN13Y13.out)
      clear hb_ hHeld
      generalize hY_ : Y13.alloc _ = Y13_14 at HBY13_14 HN13Y13_14 HN14Y13_14 ⊢
      clear hY_
      refine hK.out _ _ ⟨(HSF.out Y13_14 HBY13_14.out).1,(HSF.out Y13_14 HBY13_14.out).2.1,(HSF.out Y13_14 HBY13_14.out).2.2.1,(HSF.out Y13_14 HBY13_14.out).2.2.2.1,(HSF.out Y13_14 HBY13_14.out).2.2.2.2.1,(HSF.out Y13_14 HBY13_14.out).2.2.2.2.2.1,(HSF.out Y13_14 HBY13_14.out).2.2.2.2.2.2.1,(HSF.out Y13_14 HBY13_14.out).2.2.2.2.2.2.2.1,(HSF.out Y13_14 HBY13_14.out).2.2.2.2.2.2.2.2.1,(HSF.out Y13_14 HBY13_14.out).2.2.2.2.2.2.2.2.2⟩ (fun hHeld => ?_)
      clear hK K
      refine mq ?_
      refine nq 9 (some 68) fun K hK => ?_
      have hq:=sapply_calls Y13_14 T tn r (1 + 5 * i) (HO4.out.tb.v.below HBY13_14.out) HGD.out HNN.out HTG.out HRG.out
      unfold tvV rqV at hq
      rw [HLV.out,HSV.out] at hq
      refine goes_ Try.func57 (by kernel_rfl) rfl #[.agg #[.int .i64 T.tm,.int .i64 T.nx,.slice la T.ls.length lc,.slice sa T.ss.length sc_],.int .i64 tn,.agg #[.int .i64 r.f0,.int .i64 r.f1,.int .i64 r.f2,.int .i64 r.f3,.string r.f4]] (by rfl) rfl rfl (by simp only [List.map_toArray,List.map_cons,List.map_nil];rfl) ?_
      with_reducible refine (hq).mono ?_
      rintro _ Y13_14_9 ⟨T2,a,rfl,hp2,ht2,hk2,hb_⟩
      refine ⟨_,rfl,?_⟩
      have HBY13_14_9:=Aside0.mk (below_then HBY13_14.out HBY13_14.out.size hb_)
      have HTY13_14_9:=Aside0.mk ht2
      have HP2:=Aside0.mk hp2
      have HK2:=Aside0.mk hk2
      have HN13Y13_14_9:=Aside0.mk ((hb_.block _ (blk_lt HN13Y13_14.out)).trans HN13Y13_14.out)
      have HN14Y13_14_9:=Aside0.mk ((hb_.block _ (blk_lt HN14Y13_14.out)).trans HN14Y13_14.out)
      clear hq hp2 ht2 hk2 hb_ hHeld
      refine hK.out _ _ ⟨(HSF.out Y13_14_9 HBY13_14_9.out).1,(HSF.out Y13_14_9 HBY13_14_9.out).2.1,(HSF.out Y13_14_9 HBY13_14_9.out).2.2.1,(HSF.out Y13_14_9 HBY13_14_9.out).2.2.2.1,(HSF.out Y13_14_9 HBY13_14_9.out).2.2.2.2.1,(HSF.out Y13_14_9 HBY13_14_9.out).2.2.2.2.2.1,(HSF.out Y13_14_9 HBY13_14_9.out).2.2.2.2.2.2.1,(HSF.out Y13_14_9 HBY13_14_9.out).2.2.2.2.2.2.2.1,(HSF.out Y13_14_9 HBY13_14_9.out).2.2.2.2.2.2.2.2.1,(HSF.out Y13_14_9 HBY13_14_9.out).2.2.2.2.2.2.2.2.2⟩ (fun hHeld => ?_)
      clear hK K
      refine mq ?_
      refine pq 10 (some 58) ?_
      refine pq 11 (some 69) ?_
      refine pq 12 (some 70) ?_
      exact norm_ (by simp only [putAll,Act.put,List.setIfInBounds_toArray,List.set_cons_zero,List.set_cons_succ]) (hCont (T2,a,V.heap.size,Y13.heap.size) _ ⟨HBY13_14_9.out,HP2.out,HTY13_14_9.out,fun b hb => Nat.le_trans HBY13_14.out.size (HK2.out b hb),HN13Y13_14_9.out,HN14Y13_14_9.out,HBV.out.size,HBY13.out.size,fun (e : V.heap.size = Y13.heap.size) => by have h1:=blk_lt HN13Y13.out;omega,fun b hb (e : b = V.heap.size) => by have h1:=HK2.out b hb;have h2:=blk_lt HN13Y13_14.out;omega,fun b hb (e : b = Y13.heap.size) => by have h1:=HK2.out b hb;have h2:=blk_lt HN14Y13_14.out;omega⟩)
    ·
     skip
     refine vq ?_
     have hb_:=below_alloc (Below.refl V.heap.size V) (.cells #[.int .i64 0,.int .i64 0,.int .i64 0,.int .i64 0] 75 (0,0))
     have HBY14:=Aside0.mk (below_then HBV.out HBV.out.size hb_)
     have HN14Y14:=Aside0.mk (heap_alloc_new V (.cells #[.int .i64 0,.int .i64 0,.int .i64 0,.int .i64 0] 75 (0,0)))
     clear hb_ hHeld
     generalize hY_ : V.alloc _ = Y14 at HBY14 HN14Y14 ⊢
     clear hY_
     refine hK.out _ _ ⟨(HSF.out Y14 HBY14.out).1,(HSF.out Y14 HBY14.out).2.1,(HSF.out Y14 HBY14.out).2.2.1,(HSF.out Y14 HBY14.out).2.2.2.1,(HSF.out Y14 HBY14.out).2.2.2.2.1,(HSF.out Y14 HBY14.out).2.2.2.2.2.1,(HSF.out Y14 HBY14.out).2.2.2.2.2.2.1,(HSF.out Y14 HBY14.out).2.2.2.2.2.2.2.1,(HSF.out Y14 HBY14.out).2.2.2.2.2.2.2.2.1,(HSF.out Y14 HBY14.out).2.2.2.2.2.2.2.2.2⟩ (fun hHeld => ?_)
     clear hK K
     refine mq ?_
     refine two_ (i:=9) (j:=13) (Ni:=some 68) (Nj:=some 10) #[true,true,true,true,true,true,true,true,true,true,false,false,false,false,true,false,false] #[true,true,true,true,true,true,true,true,true,false,false,false,false,true,true,false,false] rfl rfl rfl rfl (by kernel_rfl) (by decide) (by decide) (fun K hK => ?_) (fun K hK => ?_)
     ·
      skip
      have hq:=sapply_calls Y14 T tn r (1 + 5 * i) (HO4.out.tb.v.below HBY14.out) HGD.out HNN.out HTG.out HRG.out
      unfold tvV rqV at hq
      rw [HLV.out,HSV.out] at hq
      refine goes_ Try.func57 (by kernel_rfl) rfl #[.agg #[.int .i64 T.tm,.int .i64 T.nx,.slice la T.ls.length lc,.slice sa T.ss.length sc_],.int .i64 tn,.agg #[.int .i64 r.f0,.int .i64 r.f1,.int .i64 r.f2,.int .i64 r.f3,.string r.f4]] (by rfl) rfl rfl (by simp only [List.map_toArray,List.map_cons,List.map_nil];rfl) ?_
      with_reducible refine (hq).mono ?_
      rintro _ Y14_9 ⟨T2,a,rfl,hp2,ht2,hk2,hb_⟩
      refine ⟨_,rfl,?_⟩
      have HBY14_9:=Aside0.mk (below_then HBY14.out HBY14.out.size hb_)
      have HTY14_9:=Aside0.mk ht2
      have HP2:=Aside0.mk hp2
      have HK2:=Aside0.mk hk2
      have HN14Y14_9:=Aside0.mk ((hb_.block _ (blk_lt HN14Y14.out)).trans HN14Y14.out)
      clear hq hp2 ht2 hk2 hb_ hHeld
      refine hK.out _ _ ⟨(HSF.out Y14_9 HBY14_9.out).1,(HSF.out Y14_9 HBY14_9.out).2.1,(HSF.out Y14_9 HBY14_9.out).2.2.1,(HSF.out Y14_9 HBY14_9.out).2.2.2.1,(HSF.out Y14_9 HBY14_9.out).2.2.2.2.1,(HSF.out Y14_9 HBY14_9.out).2.2.2.2.2.1,(HSF.out Y14_9 HBY14_9.out).2.2.2.2.2.2.1,(HSF.out Y14_9 HBY14_9.out).2.2.2.2.2.2.2.1,(HSF.out Y14_9 HBY14_9.out).2.2.2.2.2.2.2.2.1,(HSF.out Y14_9 HBY14_9.out).2.2.2.2.2.2.2.2.2⟩ (fun hHeld => ?_)
      clear hK K
      refine mq ?_
      refine pq 10 (some 58) ?_
      refine pq 11 (some 69) ?_
      refine pq 12 (some 70) ?_
      refine nq 13 (some 10) fun K hK => ?_
      refine vq ?_
      have hb_:=below_alloc (Below.refl Y14_9.heap.size Y14_9) (.cells #[.int .i64 0,.int .i64 0,.slice none 0 0,.slice none 0 0] 31 (0,0))
      have HBY14_9_13:=Aside0.mk (below_then HBY14_9.out HBY14_9.out.size hb_)
      have HN13Y14_9_13:=Aside0.mk (heap_alloc_new Y14_9 (.cells #[.int .i64 0,.int .i64 0,.slice none 0 0,.slice none 0 0] 31 (0,0)))
      have HN14Y14_9_13:=Aside0.mk ((hb_.block _ (blk_lt HN14Y14_9.out)).trans HN14Y14_9.out)
      have HTY14_9_13:=Aside0.mk (HTY14_9.out.below hb_)
      clear hb_ hHeld
      generalize hY_ : Y14_9.alloc _ = Y14_9_13 at HBY14_9_13 HN13Y14_9_13 HN14Y14_9_13 HTY14_9_13 ⊢
      clear hY_
      refine hK.out _ _ ⟨(HSF.out Y14_9_13 HBY14_9_13.out).1,(HSF.out Y14_9_13 HBY14_9_13.out).2.1,(HSF.out Y14_9_13 HBY14_9_13.out).2.2.1,(HSF.out Y14_9_13 HBY14_9_13.out).2.2.2.1,(HSF.out Y14_9_13 HBY14_9_13.out).2.2.2.2.1,(HSF.out Y14_9_13 HBY14_9_13.out).2.2.2.2.2.1,(HSF.out Y14_9_13 HBY14_9_13.out).2.2.2.2.2.2.1,(HSF.out Y14_9_13 HBY14_9_13.out).2.2.2.2.2.2.2.1,(HSF.out Y14_9_13 HBY14_9_13.out).2.2.2.2.2.2.2.2.1,(HSF.out Y14_9_13 HBY14_9_13.out).2.2.2.2.2.2.2.2.2⟩ (fun hHeld => ?_)
      clear hK K
      refine mq ?_
      exact norm_ (by simp only [putAll,Act.put,List.setIfInBounds_toArray,List.set_cons_zero,List.set_cons_succ]) (hCont (T2,a,Y14_9.heap.size,V.heap.size) _ ⟨HBY14_9_13.out,HP2.out,HTY14_9_13.out,fun b hb => Nat.le_trans HBY14.out.size (HK2.out b hb),HN13Y14_9_13.out,HN14Y14_9_13.out,HBY14_9.out.size,HBV.out.size,fun (e : Y14_9.heap.size = V.heap.size) => by have h1:=blk_lt HN14Y14_9.out;omega,fun b hb (e : b = Y14_9.heap.size) => by have h1:=HTY14_9.out.lt b hb;omega,fun b hb (e : b = V.heap.size) => by have h1:=HK2.out b hb;have h2:=blk_lt HN14Y14.out;omega⟩)
     ·
      skip
      refine vq ?_
      have hb_:=below_alloc (Below.refl Y14.heap.size Y14) (.cells #[.int .i64 0,.int .i64 0,.slice none 0 0,.slice none 0 0] 31 (0,0))
      have HBY14_13:=Aside0.mk (below_then HBY14.out HBY14.out.size hb_)
      have HN13Y14_13:=Aside0.mk (heap_alloc_new Y14 (.cells #[.int .i64 0,.int .i64 0,.slice none 0 0,.slice none 0 0] 31 (0,0)))
      have HN14Y14_13:=Aside0.mk ((hb_.block _ (blk_lt HN14Y14.out)).trans HN14Y14.out)
      clear hb_ hHeld
      generalize hY_ : Y14.alloc _ = Y14_13 at HBY14_13 HN13Y14_13 HN14Y14_13 ⊢
      clear hY_
      refine hK.out _ _ ⟨(HSF.out Y14_13 HBY14_13.out).1,(HSF.out Y14_13 HBY14_13.out).2.1,(HSF.out Y14_13 HBY14_13.out).2.2.1,(HSF.out Y14_13 HBY14_13.out).2.2.2.1,(HSF.out Y14_13 HBY14_13.out).2.2.2.2.1,(HSF.out Y14_13 HBY14_13.out).2.2.2.2.2.1,(HSF.out Y14_13 HBY14_13.out).2.2.2.2.2.2.1,(HSF.out Y14_13 HBY14_13.out).2.2.2.2.2.2.2.1,(HSF.out Y14_13 HBY14_13.out).2.2.2.2.2.2.2.2.1,(HSF.out Y14_13 HBY14_13.out).2.2.2.2.2.2.2.2.2⟩ (fun hHeld => ?_)
      clear hK K
      refine mq ?_
      refine nq 9 (some 68) fun K hK => ?_
      have hq:=sapply_calls Y14_13 T tn r (1 + 5 * i) (HO4.out.tb.v.below HBY14_13.out) HGD.out HNN.out HTG.out HRG.out
      unfold tvV rqV at hq
      rw [HLV.out,HSV.out] at hq
      refine goes_ Try.func57 (by kernel_rfl) rfl #[.agg #[.int .i64 T.tm,.int .i64 T.nx,.slice la T.ls.length lc,.slice sa T.ss.length sc_],.int .i64 tn,.agg #[.int .i64 r.f0,.int .i64 r.f1,.int .i64 r.f2,.int .i64 r.f3,.string r.f4]] (by rfl) rfl rfl (by simp only [List.map_toArray,List.map_cons,List.map_nil];rfl) ?_
      with_reducible refine (hq).mono ?_
      rintro _ Y14_13_9 ⟨T2,a,rfl,hp2,ht2,hk2,hb_⟩
      refine ⟨_,rfl,?_⟩
      have HBY14_13_9:=Aside0.mk (below_then HBY14_13.out HBY14_13.out.size hb_)
      have HTY14_13_9:=Aside0.mk ht2
      have HP2:=Aside0.mk hp2
      have HK2:=Aside0.mk hk2
      have HN13Y14_13_9:=Aside0.mk ((hb_.block _ (blk_lt HN13Y14_13.out)).trans HN13Y14_13.out)
      have HN14Y14_13_9:=Aside0.mk ((hb_.block _ (blk_lt HN14Y14_13.out)).trans HN14Y14_13.out)
      clear hq hp2 ht2 hk2 hb_ hHeld
      refine hK.out _ _ ⟨(HSF.out Y14_13_9 HBY14_13_9.out).1,(HSF.out Y14_13_9 HBY14_13_9.out).2.1,(HSF.out Y14_13_9 HBY14_13_9.out).2.2.1,(HSF.out Y14_13_9 HBY14_13_9.out).2.2.2.1,(HSF.out Y14_13_9 HBY14_13_9.out).2.2.2.2.1,(HSF.out Y14_13_9 HBY14_13_9.out).2.2.2.2.2.1,(HSF.out Y14_13_9 HBY14_13_9.out).2.2.2.2.2.2.1,(HSF.out Y14_13_9 HBY14_13_9.out).2.2.2.2.2.2.2.1,(HSF.out Y14_13_9 HBY14_13_9.out).2.2.2.2.2.2.2.2.1,(HSF.out Y14_13_9 HBY14_13_9.out).2.2.2.2.2.2.2.2.2⟩ (fun hHeld => ?_)
      clear hK K
      refine mq ?_
      refine pq 10 (some 58) ?_
      refine pq 11 (some 69) ?_
      refine pq 12 (some 70) ?_
      exact norm_ (by simp only [putAll,Act.put,List.setIfInBounds_toArray,List.set_cons_zero,List.set_cons_succ]) (hCont (T2,a,Y14.heap.size,V.heap.size) _ ⟨HBY14_13_9.out,HP2.out,HTY14_13_9.out,fun b hb => Nat.le_trans HBY14_13.out.size (HK2.out b hb),HN13Y14_13_9.out,HN14Y14_13_9.out,HBY14.out.size,HBV.out.size,fun (e : Y14.heap.size = V.heap.size) => by have h1:=blk_lt HN14Y14.out;omega,fun b hb (e : b = Y14.heap.size) => by have h1:=HK2.out b hb;have h2:=blk_lt HN13Y14_13.out;omega,fun b hb (e : b = V.heap.size) => by have h1:=HK2.out b hb;have h2:=blk_lt HN14Y14_13.out;omega⟩)
   rintro ⟨T2,a,n10,n11⟩ V2 ⟨hb2,hp2,ht2,hk2,h10,h11,g10,g11,hne,k10,k11⟩
   have HB2:=Aside0.mk hb2
   have HP2:=Aside0.mk (show (Tv.pu T2,a) = reqX (Tv.pu T) tn r from hp2)
   have HT2:=Aside0.mk (show TV V2 T2 from ht2)
   have HK2:=Aside0.mk (show ∀ b,some b ∈ T2.blocks → V.heap.size ≤ b from hk2)
   have HN10:=Aside0.mk (show V2.heap[n10]? = some (tbO 0 0 (.slice none 0 0) (.slice none 0 0)) from h10)
   have HN11:=Aside0.mk (show V2.heap[n11]? = some (anO ⟨0,0,0,0⟩) from h11)
   have HG10:=Aside0.mk (show V.heap.size ≤ n10 from g10)
   have HG11:=Aside0.mk (show V.heap.size ≤ n11 from g11)
   have HNE:=Aside0.mk (show n10 ≠ n11 from hne)
   have HK10:=Aside0.mk (show ∀ b,some b ∈ T2.blocks → b ≠ n10 from k10)
   have HK11:=Aside0.mk (show ∀ b,some b ∈ T2.blocks → b ≠ n11 from k11)
   clear hb2 hp2 ht2 hk2 h10 h11 g10 g11 hne k10 k11
   have hHeld:=HSF.out V2 HB2.out
   refine mq ?_
   refine nq 15 none fun K hK => ?_
   obtain ⟨la2,lc2,hlv2⟩:=HT2.out.rl.slice
   obtain ⟨sa2,sc2,hsv2⟩:=HT2.out.rs.slice
   have HLV2:=Aside0.mk hlv2
   have HSV2:=Aside0.mk hsv2
   unfold tvV
   rw [hlv2,hsv2]
   clear hlv2 hsv2
   obtain ⟨n0,n1,n2,n3,m0,m1,m2,m3⟩:=box_facts HN10.out
   refine sq ?_
   clear n0 n1 n2 n3 m0 m1 m2 m3 hHeld
   have hf_ : Fr (fun x => x = n10) V2 (w4 V2 n10 (.int .i64 T2.tm) (.int .i64 T2.nx) (.slice la2 T2.ls.length lc2) (.slice sa2 T2.ss.length sc2)):=Fr.four (S:=fun x => x = n10) (Fr.refl _ V2) (.inl rfl) _ _ _ _
   have HN10b:=Aside0.mk (four_set HN10.out (.int .i64 T2.tm) (.int .i64 T2.nx) (.slice la2 T2.ls.length lc2) (.slice sa2 T2.ss.length sc2))
   have HN11b:=Aside0.mk (hf_.blk HN11.out (fun e => HNE.out e.symm))
   have HT3:=Aside0.mk (HT2.out.kept (fun b hb => hf_.block b (HT2.out.lt b hb) (fun e => HK10.out b hb e)))
   have HB3:=Aside0.mk (Fr.keep hf_ (fun x hx => by have:=HG10.out;omega) HB2.out)
   clear hf_
   obtain ⟨V3,hV3⟩ : ∃ V3,V3 = w4 V2 n10 (.int .i64 T2.tm) (.int .i64 T2.nx) (.slice la2 T2.ls.length lc2) (.slice sa2 T2.ss.length sc2):=⟨_,rfl⟩
   rw [← hV3] at HN11b HT3 HB3
   unfold w4 at hV3
   rw [← hV3] at HN10b ⊢
   clear hV3
   refine hK.out _ _ ⟨(HSF.out V3 HB3.out).1,(HSF.out V3 HB3.out).2.1,(HSF.out V3 HB3.out).2.2.1,(HSF.out V3 HB3.out).2.2.2.1,(HSF.out V3 HB3.out).2.2.2.2.1,(HSF.out V3 HB3.out).2.2.2.2.2.1,(HSF.out V3 HB3.out).2.2.2.2.2.2.1,(HSF.out V3 HB3.out).2.2.2.2.2.2.2.1,(HSF.out V3 HB3.out).2.2.2.2.2.2.2.2.1,(HSF.out V3 HB3.out).2.2.2.2.2.2.2.2.2⟩ (fun hHeld => ?_)
   clear hK K
   refine lq 16 none fun K hK => ?_
   unfold anV
   obtain ⟨n0,n1,n2,n3,m0,m1,m2,m3⟩:=box_facts HN11b.out
   refine sq ?_
   clear n0 n1 n2 n3 m0 m1 m2 m3 hHeld
   refine hK.out _ _ ?_
   clear hK K
   refine done_ (by kernel_rfl) ?_
   (try clear hHeld)
   have hf4 : Fr (fun x => x = n11) V3 (w4 V3 n11 (.int .i64 a.f0) (.int .i64 a.f1) (.int .i64 a.f2) (.int .i64 a.f3)):=Fr.four (S:=fun x => x = n11) (Fr.refl _ V3) (.inl rfl) _ _ _ _
   have HA4:=Aside0.mk (show (w4 V3 n11 (.int .i64 a.f0) (.int .i64 a.f1) (.int .i64 a.f2) (.int .i64 a.f3)).heap[n11]? = some (anO a) from four_set HN11b.out _ _ _ _)
   have HN4:=Aside0.mk (hf4.blk HN10b.out HNE.out)
   have HT4:=Aside0.mk (HT3.out.kept (fun b hb => hf4.block b (HT3.out.lt b hb) (fun e => HK11.out b hb e)))
   have HB4:=Aside0.mk (Fr.keep hf4 (fun x hx => by have:=HG11.out;omega) HB3.out)
   clear hf4
   obtain ⟨V4,hV4⟩ : ∃ V4,V4 = w4 V3 n11 (.int .i64 a.f0) (.int .i64 a.f1) (.int .i64 a.f2) (.int .i64 a.f3):=⟨_,rfl⟩
   rw [← hV4] at HA4 HN4 HT4 HB4
   unfold w4 at hV4
   rw [← hV4]
   clear hV4
   have HO5:=Aside0.mk (HO4.out.below HB4.out)
   obtain ⟨n0,n1,n2,n3,-,-,-,-⟩:=box_facts HN4.out
   obtain ⟨y0,y1,y2,y3,f0,f1,f2,f3⟩:=HO5.out.tb.cells
   go_upto_region 14 with fail
   clear n0 n1 n2 n3 y0 y1 y2 y3 f0 f1 f2 f3
   change Code.wp _ _ _ _ (w4 V4 g (.int .i64 T2.tm) (.int .i64 T2.nx) (.slice la2 T2.ls.length lc2) (.slice sa2 T2.ss.length sc2))
   rw [← HLV2.out,← HSV2.out]
   have HO6:=Aside0.mk (O2.put HO5.out HT4.out (fun b hb => by
    have h1:=HK2.out b hb
    have h2:=HO4.out.tb.lt
    have h3:=blk_lt HO4.out.bx
    exact ⟨by omega,by omega,fun e => by have:=HO4.out.row.lt b e;omega⟩))
   have hf6 : Fr (fun x => x = g) V4 (w4 V4 g (.int .i64 T2.tm) (.int .i64 T2.nx) T2.vl T2.vs):=Fr.four (S:=fun x => x = g) (Fr.refl _ V4) (.inl rfl) _ _ _ _
   have HA6:=Aside0.mk (hf6.blk HA4.out (fun e => by have h1:=HG11.out;have h2:=HO4.out.tb.lt;omega))
   generalize w4 V4 g (.int .i64 T2.tm) (.int .i64 T2.nx) T2.vl T2.vs = V6 at hf6 HO6 HA6 ⊢
   clear hf6
   obtain ⟨a0,a1,a2,a3⟩:=an_cells HA6.out
   have hb7:=below_alloc (Below.refl V6.heap.size V6) (.cells #[.int .i64 a.f0,.int .i64 a.f1,.int .i64 a.f2,.int .i64 a.f3] 75 (0,0))
   have HO7:=HO6.out.below hb7
   obtain ⟨v5,V7,oa5,hrun,hrow5,hob5,hfr5⟩:=appA_run (V6.alloc (.cells #[.int .i64 a.f0,.int .i64 a.f1,.int .i64 a.f2,.int .i64 a.f3] 75 (0,0))) _ an_.length (an_.flatMap ac) (ac a) oa V6.heap.size HO7.row (by have:=HLA.out;omega) rfl (heap_alloc_new V6 _) (ac_one a)
   have HO8:=Aside0.mk (HO7.app hrow5 hob5 hfr5)
   clear HO7 hrow5 hob5 hfr5 hb7
   go_wp2_with (at_builtin;refine Lib.wpList_append_run _ rfl _ _ _ _ rfl _ _ rfl rfl _ _ hrun ?_)
   go_roundg (gk - 1)
   case measure => have:=HMM.out;omega
   case rel =>
    refine ⟨i + 1,T2,an_ ++ [a],oa5,by go_num,by omega,⟨by have:=HMM.out;omega⟩,⟨by rw [List.length_append,HLA.out];rfl⟩,⟨?_⟩,⟨?_⟩,HO8,HAL2⟩
    ·
     rw [HZT.out,runS_snoc,← HRS.out,stepS,← HP2.out]
    ·
     have h:=good_req HGD.out HTG.out HRG.out
     rw [← HP2.out] at h
     rw [show 1 + 5 * ((i + 1 : Nat) : Int) = 1 + 5 * (i : Int) + 5 by omega]
     exact h
  ·
   obtain rfl : i = l.length:=by omega
   have hal : l.all okR = true ∧ ts.all okT = true:=by
    have h:=HAL.out
    rw [List.take_of_length_le (Nat.le_refl _),List.take_of_length_le (by have:=HLT.out;omega)] at h
    exact h
   have HFIN:=Aside0.mk (show RA = (Tv.pu T,an_,0) by
    have h:=HRS.out
    rw [List.take_of_length_le (by rw [List.length_zip];have:=HLT.out;omega)] at h
    rw [HF0.out HM.out HM2.out hal,← h])
   have q2 : decide ((l.length : Int) < (l.length : Int)) = false:=decide_eq_false (by omega)
   obtain ⟨y0,y1,y2,y3,-,-,-,-⟩:=HO.out.tb.cells
   obtain ⟨la,lc,hlv⟩:=HO.out.tb.v.rl.slice
   obtain ⟨sa,sc_,hsv⟩:=HO.out.tb.v.rs.slice
   rw [hlv] at y2
   rw [hsv] at y3
   have HLV:=Aside0.mk hlv
   have HSV:=Aside0.mk hsv
   clear hlv hsv
   go_wp2_with fail
   have hq:=sown_calls wi T HO.out.tb.v (by have h1 : (T.ls.map EL.x).length ≤ 4:=HGD.out.l4;rw [List.length_map] at h1;omega) (by have h1 : T.ss.length ≤ 6:=HGD.out.s6;omega) (fun e he => by have h1:=(HGD.out.gl e.x (List.mem_map_of_mem he)).1;omega)
   unfold tvV at hq
   rw [HLV.out,HSV.out] at hq
   with_reducible refine hq.mono ?_
   clear hq
   rintro _ W5 ⟨T5,rfl,hp5,ht5,hk5,hb⟩
   have HO5:=Aside0.mk (HO.out.below hb)
   have HP5:=Aside0.mk hp5
   have HT5:=Aside0.mk ht5
   have HK5:=Aside0.mk hk5
   obtain ⟨la5,lc5,hlv5⟩:=ht5.rl.slice
   obtain ⟨sa5,sc5,hsv5⟩:=ht5.rs.slice
   have HLV5:=Aside0.mk hlv5
   have HSV5:=Aside0.mk hsv5
   obtain ⟨n0,n1,n2,n3,m0,m1,m2,m3⟩:=box_facts HO5.out.bx
   rw [hlv5,hsv5]
   clear hb hp5 ht5 hk5 hlv5 hsv5 y0 y1 y2 y3
   go_wp2_with fail
   have hgr:=four_set HO5.out.bx (.int .i64 T5.tm) (.int .i64 T5.nx) (.slice la5 T5.ls.length lc5) (.slice sa5 T5.ss.length sc5)
   refine bodyPost_ret (results_three rfl _ _ w.heap.size 31 _ (0,0) _ rfl hgr Try.underlying31 rfl (by kernel_rfl)) rfl ?_
   have hfr:=Fr.four (S:=fun x => x = w.heap.size) (Fr.refl _ W5) (.inl rfl) (.int .i64 T5.tm) (.int .i64 T5.nx) (.slice la5 T5.ls.length lc5) (.slice sa5 T5.ss.length sc5)
   have hlt:=blk_lt HO.out.bx
   have hbl:=HO5.out.be.trans (hfr.to_below HO5.out.be.size (fun x hx => by rw [hx];exact Nat.le_refl _))
   rw [HFIN.out]
   refine ⟨_,_,rfl,⟨T5,oa,?_,HP5.out,HT5.out.kept (fun b hb => hfr.block b (HT5.out.lt b hb) (fun e => by have:=HK5.out b hb;omega)),HO5.out.row.kept (fun b hb => hfr.block b (HO5.out.row.lt b hb) (fun e => by have:=HO.out.ow b (.inr hb);omega)),fun b hb => ?_,fun x hx b hb hb' => ?_⟩,hbl⟩
   ·
    unfold tbV
    rw [HLV5.out,HSV5.out]
   ·
    rcases hb with hb|hb
    ·
     have:=HK5.out b hb;omega
    ·
     exact Nat.le_of_lt (HO.out.ow b (.inr hb))
   ·
    subst hb
    have h1:=HK5.out b hx
    have h2:=HO.out.row.lt b hb'
    omega
end Go.Proofs.Ytjkanhjapddhnaa.SRun
