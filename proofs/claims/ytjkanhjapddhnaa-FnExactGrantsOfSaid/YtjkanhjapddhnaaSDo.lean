/- The specification's l05Do, walked by hand (written by mksdo.py). No condition. -/
-- squeezed
import Derived.Test.YtjkanhjapddhnaaAppN
import Derived.Test.YtjkanhjapddhnaaGr
import Derived.Test.YtjkanhjapddhnaaSGr
import Derived.Test.YtjkanhjapddhnaaSAcq
import Derived.Test.YtjkanhjapddhnaaDo
namespace Go.Proofs.Ytjkanhjapddhnaa.SDo
open Go.RowKit Go.Lib Go.Proofs.YtjkanhjapddhnaaV.PrintWords Go.Proofs.YtjkanhjapddhnaaV.PrintMore Go.Proofs.YtjkanhjapddhnaaV.PrintLast Go.Proofs.Ytjkanhjapddhnaa.Sq Go.Proofs.Ytjkanhjapddhnaa.Own Go.Proofs.Ytjkanhjapddhnaa.MarkT Go.Proofs.Ytjkanhjapddhnaa.Tb Go.Proofs.Ytjkanhjapddhnaa.Gr Go.Proofs.Ytjkanhjapddhnaa.Find Go.Proofs.Ytjkanhjapddhnaa.Pos Go.Proofs.Ytjkanhjapddhnaa.Pu Go.Proofs.Ytjkanhjapddhnaa.Ctx Go.Proofs.Ytjkanhjapddhnaa.InsR Go.Proofs.Ytjkanhjapddhnaa.AppN Go.Proofs.Ytjkanhjapddhnaa.Inv Go.Proofs.Ytjkanhjapddhnaa.SGr Go.Proofs.Ytjkanhjapddhnaa.SOwn Go.Proofs.Ytjkanhjapddhnaa.SLib Go.Proofs.Ytjkanhjapddhnaa.Acq Go.Proofs.Ytjkanhjapddhnaa.SAcq Go.Proofs.Ytjkanhjapddhnaa.Doo Go.Proofs.Ytjkanhjapddhnaa.PFnExactRunRequests
set_option linter.unusedVariables false
set_option linter.unusedSimpArgs false
set_option maxHeartbeats 20000000
set_option maxRecDepth 100000
theorem sdo_calls (g : Nat) (w : World) (T : Tv) (r : RQ) (hT : TB w g T) (h0 : 0 ≤ T.tm ∧ T.tm ≤ 1000000000) (h1 : 0 ≤ T.nx ∧ T.nx ≤ 900000) (h4 : T.ls.length ≤ 4) (hs : sortB (T.ls.map EL.x)) (hw4 : ∀ e ∈ T.ls,goodL e.x) (hr0 : 0 ≤ r.f0) (hr3 : 0 ≤ r.f3 ∧ r.f3 ≤ 1000) :
  Calls Try.prog 84 #[.pointer (some ⟨g,0,none⟩),rqV r] w fun o w' => ∃ a T',o = .returned (anV a) ∧ T'.tm = T.tm ∧ T'.ss = T.ss ∧ (T'.ls.map EL.x,T'.nx,a) = doX T.tm T.nx (T.ls.map EL.x) r ∧ St g w T w' T':=by
 have C0:=Aside0.mk (Ctx.start hT r)
 have HT:=Aside0.mk hT
 have H0:=Aside0.mk h0
 have H1:=Aside0.mk h1
 have H4:=Aside0.mk h4
 have HS:=Aside0.mk hs
 have HW4:=Aside0.mk hw4
 have HR0:=Aside0.mk hr0
 have HR3:=Aside0.mk hr3
 obtain ⟨la,lc,hlv⟩:=hT.v.rl.slice
 obtain ⟨sa,sc_,hsv⟩:=hT.v.rs.slice
 have HLV:=Aside0.mk hlv
 have HSV:=Aside0.mk hsv
 clear hT h0 h1 h4 hs hw4 hr3 hlv hsv
 unfold rqV
 go_enter Try.func84,Try.ntmps84
 go_upto_region 1 with fail
 change Code.wp _ _ _ _ ((w.alloc (rqO r)).alloc (anO ⟨0,0,0,0⟩))
 generalize (w.alloc (rqO r)).alloc (anO ⟨0,0,0,0⟩) = W0 at C0 ⊢
 obtain ⟨r0,r1,r2,r3,r4⟩:=C0.out.rqs
 by_cases hk1 : r.f2 = 1
 ·
  have q1 : (r.f2 == 1) = true:=by rw [hk1];rfl
  have HK1:=Aside0.mk hk1
  clear hk1
  go_wp2_with fail
  have hq:=sacquire_calls g W0 T r C0.out.st.tb H0.out H1.out H4.out HS.out HW4.out HR0.out HR3.out
  unfold rqV at hq
  with_reducible refine hq.mono ?_
  clear hq
  rintro _ W1 ⟨a,T1,rfl,ht1,ht2,ht3,hst1⟩
  have C1:=Aside0.mk (C0.out.step hst1)
  have HD:=Aside0.mk (show (T1.ls.map EL.x,T1.nx,a) = doX T.tm T.nx (T.ls.map EL.x) r by rw [doX,if_pos HK1.out];exact ht3)
  have HT1:=Aside0.mk ht1
  have HT2:=Aside0.mk ht2
  clear hst1 ht1 ht2 ht3 r0 r1 r2 r3 r4 q1
  unfold anV
  obtain ⟨n0,n1,n2,n3,m0,m1,m2,m3⟩:=C1.out.ans
  go_wp2_with fail
  obtain ⟨hd,hst⟩:=C1.out.done a
  refine bodyPost_ret (results_cell_row rfl _ _ (w.heap.size + 1) 75 _ (0,0) _ rfl hd Try.underlying75 rfl (by kernel_rfl)) rfl ?_
  exact ⟨a,T1,rfl,HT1.out,HT2.out,HD.out,hst⟩
 have q1 : (r.f2 == 1) = false:=by simpa using hk1
 have HK1:=Aside0.mk hk1
 clear hk1
 go_upto_region 3 with fail
 clear r0 r1 r2 r3 r4 q1
 have C0d:=Aside0.mk (C0.out.below (below_drew (Below.refl _ _)))
 obtain ⟨-,-,-,-,r4⟩:=C0d.out.rqs
 obtain ⟨y0,y1,y2,y3,-,-,-,-⟩:=C0d.out.st.tb.cells
 rw [HLV.out] at y2
 rw [HSV.out] at y3
 refine start_ (n:=7) (S:=fun w' => w'.cell? ⟨g,0,none⟩ = some (.int .i64 T.tm) ∧ w'.cell? ⟨g,1,none⟩ = some (.int .i64 T.nx) ∧ w'.cell? ⟨g,2,none⟩ = some (.slice la T.ls.length lc) ∧ w'.cell? ⟨g,3,none⟩ = some (.slice sa T.ss.length sc_) ∧ w'.cell? ⟨w.heap.size,4,none⟩ = some (.string r.f4)) (ds:=[]) #[false,false,false,false,false,false,false] (by kernel_rfl) rfl rfl ⟨y0,y1,y2,y3,r4⟩ (fun hHeld => ?_)
 clear y0 y1 y2 y3 r4
 generalize W0.drew = V0 at C0d hHeld ⊢
 refine pq 0 (some 14) ?_
 refine pq 1 (some 15) ?_
 refine pq 3 (some 17) ?_
 refine tq 2 (some 16) hHeld ?_
 refine tq 4 (some 18) hHeld ?_
 refine nq 5 (some 19) fun K hK => ?_
 have hq:=sfind_calls V0 T r.f4 C0d.out.st.tb.v (by have:=H4.out;omega) HS.out
 unfold tvV at hq
 rw [HLV.out,HSV.out] at hq
 refine goes_ Try.func110 (by kernel_rfl) rfl #[.agg #[.int .i64 T.tm,.int .i64 T.nx,.slice la T.ls.length lc,.slice sa T.ss.length sc_],.string r.f4] (by rfl) rfl rfl (by simp only [List.map_toArray,List.map_cons,List.map_nil];rfl) ?_
 with_reducible refine (hq).mono ?_
 rintro _ W1 ⟨rfl,hb⟩
 refine ⟨_,rfl,?_⟩
 have C1:=Aside0.mk (C0d.out.below hb)
 obtain ⟨-,-,-,-,r4⟩:=C1.out.rqs
 obtain ⟨y0,y1,y2,y3,-,-,-,-⟩:=C1.out.st.tb.cells
 rw [HLV.out] at y2
 rw [HSV.out] at y3
 clear hq hb hHeld
 refine hK.out _ _ ⟨y0,y1,y2,y3,r4⟩ (fun hHeld => ?_)
 clear hK K
 refine mq ?_
 refine pq 6 (some 5) ?_
 refine done_ (by kernel_rfl) ?_
 clear hHeld y0 y1 y2 y3 r4
 obtain ⟨p,hp⟩ : ∃ p,p = posB r.f4 (T.ls.map EL.x):=⟨_,rfl⟩
 have HP:=Aside0.mk hp
 clear hp
 by_cases hth : ¬ thereB r.f4 (T.ls.map EL.x) = true
 ·
  have hfp : findP r.f4 (T.ls.map EL.x) = -1:=by rw [findP,if_neg hth]
  rw [hfp]
  have p2 : decide ((-1 : Int) < 0) = true:=rfl
  have HD:=Aside0.mk (show doX T.tm T.nx (T.ls.map EL.x) r = (T.ls.map EL.x,T.nx,bareA 3) by rw [doX,if_neg HK1.out,if_neg hth])
  clear hth hfp
  obtain ⟨n0,n1,n2,n3,m0,m1,m2,m3⟩:=C1.out.ans
  go_wp2_with fail
  obtain ⟨hd,hst⟩:=C1.out.done ⟨3,0,-1,0⟩
  refine bodyPost_ret (results_cell_row rfl _ _ (w.heap.size + 1) 75 _ (0,0) _ rfl hd Try.underlying75 rfl (by kernel_rfl)) rfl ?_
  exact ⟨_,T,rfl,rfl,rfl,by rw [HD.out];rfl,hst⟩
 have hth : thereB r.f4 (T.ls.map EL.x) = true:=Classical.byContradiction hth
 have hplt : p < T.ls.length:=by
  have:=there_lt hth
  rw [← HP.out] at this
  simpa using this
 obtain ⟨e,hls,hex,hpl⟩:=lock_split hplt
 have hacq : doX T.tm T.nx (T.ls.map EL.x) r = putAt (T.ls.map EL.x) p (p + 1) (do1 T.tm T.nx e.x r):=by
  rw [doX,if_neg HK1.out,if_pos hth,← HP.out,hex]
 have HACQ:=Aside0.mk hacq
 have hfp : findP r.f4 (T.ls.map EL.x) = (p : Int):=by rw [findP,if_pos hth,HP.out]
 rw [hfp]
 clear hth hacq hex hfp
 obtain ⟨A,hA⟩ : ∃ A,A = T.ls.take p:=⟨_,rfl⟩
 obtain ⟨B,hB⟩ : ∃ B,B = T.ls.drop (p + 1):=⟨_,rfl⟩
 rw [← hA,← hB] at hls
 rw [← hA] at hpl
 have HLS:=Aside0.mk hls
 have HA:=Aside0.mk hA
 have HB:=Aside0.mk hB
 have HPL:=Aside0.mk hpl
 obtain ⟨b,o,c,hv,hat⟩:=C1.out.st.tb.v.at_ hls
 rw [hpl] at hat
 have HV:=Aside0.mk hv
 have HAT:=Aside0.mk hat
 obtain ⟨rfl,rfl⟩ : la = some ⟨b,o,none⟩ ∧ lc = c:=by
  have h:=HLV.out
  rw [hv] at h
  injection h with h1 _ h3
  exact ⟨h1.symm,h3.symm⟩
 have x2:=C1.out.st.tb.cells.2.2.1
 rw [hv] at x2
 have p0 : ((p : Int) < (T.ls.length : Int)) = True:=eq_true (by omega)
 have p1 : (0 ≤ (p : Int)) = True:=eq_true (by omega)
 have p2 : decide ((p : Int) < 0) = false:=decide_eq_false (by omega)
 clear hls hA hB hpl hat hv
 go_upto_region 7 with fail
 clear x2 hplt
 have hww:=C1.out.st.tb.v.rw e (by rw [HLS.out];simp)
 have HE4:=Aside0.mk (HW4.out e (by rw [HLS.out];simp))
 obtain ⟨⟨nm,tok,hol,exp,ws⟩,v_,ob_⟩:=e
 obtain ⟨wa,wcap,hv,hwl,hwk⟩:=hww.reads
 simp only at hv hwl hwk HE4 HACQ
 subst hv
 have HRL:=Aside0.mk hwl
 clear hww hwk
 obtain ⟨wf,hwf⟩ : ∃ wf,wf = waitsF r.f0 ws 0:=⟨_,rfl⟩
 have HWF:=Aside0.mk hwf
 have hwb:=waitsF_lt r.f0 ws 0
 rw [← hwf] at hwb
 have HWB:=Aside0.mk hwb
 have HHB:=Aside0.mk (show -1 ≤ hol from HE4.out.2.1)
 have HWL:=Aside0.mk (show ws.length ≤ 4 from HE4.out.1)
 clear hwf hwb
 obtain ⟨r0,-,r2,r3,-⟩:=C1.out.rqs
 obtain ⟨-,-,x2,-,-,-,-,-,-,-⟩:=HAT.out.cells C1.out.st.tb.v
 simp only at x2
 have HSW:=Aside0.mk (show ∀ W,Ctx g w T r W T → WR W ⟨⟨nm,tok,hol,exp,ws⟩,.slice wa ws.length wcap,ob_⟩ from fun W h => h.st.tb.v.rw ⟨⟨nm,tok,hol,exp,ws⟩,.slice wa ws.length wcap,ob_⟩ (by rw [HLS.out];exact List.mem_append_right _ List.mem_cons_self))
 by_cases hk4 : r.f2 = 4
 ·
  have q4 : (r.f2 == 4) = true:=by rw [hk4];rfl
  have hnd : ¬ (0 ≤ waitsF r.f0 ws 0 ∧ r.f2 = 2):=fun h => by omega
  by_cases hm : hol = -1
  ·
   have q5 : decide (hol < 0) = true:=decide_eq_true (by omega)
   have HH:=Aside0.mk (show do1 T.tm T.nx ⟨nm,tok,hol,exp,ws⟩ r = (⟨nm,tok,hol,exp,ws⟩,T.nx,tellA 4 ⟨nm,tok,hol,exp,ws⟩) from (if_neg hnd).trans (if_pos hm))
   clear hm hnd hk4 r0 r3
   obtain ⟨t0,t1,t2,t3,t4,-,-,-,-,-⟩:=HAT.out.cells C1.out.st.tb.v
   simp only at t0 t1 t2 t3 t4
   have hq:=stell_calls 4 ⟨⟨nm,tok,hol,exp,ws⟩,.slice wa ws.length wcap,ob_⟩ _ (C1.out.st.tb.v.rw ⟨⟨nm,tok,hol,exp,ws⟩,.slice wa ws.length wcap,ob_⟩ (by rw [HLS.out];exact List.mem_append_right _ List.mem_cons_self))
   unfold elV at hq
   have HQ:=Aside0.mk hq
   clear hq
   go_wp2_with fail
   with_reducible refine HQ.out.mono ?_
   rintro _ Wt ⟨rfl,hb⟩
   have Ct:=Aside0.mk (C1.out.below hb)
   clear hb t0 t1 t2 t3 t4 HQ
   unfold anV tellA
   obtain ⟨n0,n1,n2,n3,m0,m1,m2,m3⟩:=Ct.out.ans
   go_wp2_with fail
   obtain ⟨hd,hst⟩:=Ct.out.done ⟨4,(⟨⟨nm,tok,hol,exp,ws⟩,.slice wa ws.length wcap,ob_⟩ : EL).x.f1,(⟨⟨nm,tok,hol,exp,ws⟩,.slice wa ws.length wcap,ob_⟩ : EL).x.f2,(⟨⟨nm,tok,hol,exp,ws⟩,.slice wa ws.length wcap,ob_⟩ : EL).x.f3⟩
   refine bodyPost_ret (results_cell_row rfl _ _ (w.heap.size + 1) 75 _ (0,0) _ rfl hd Try.underlying75 rfl (by kernel_rfl)) rfl ?_
   exact ⟨_,T,rfl,rfl,rfl,by rw [HACQ.out,HH.out,← putAt_split (e':=⟨⟨nm,tok,hol,exp,ws⟩,.slice wa ws.length wcap,ob_⟩) HA.out HB.out,← HLS.out];rfl,hst⟩
  ·
   have q5 : decide (hol < 0) = false:=decide_eq_false (by have:=HHB.out;omega)
   have HH:=Aside0.mk (show do1 T.tm T.nx ⟨nm,tok,hol,exp,ws⟩ r = (⟨nm,tok,hol,exp,ws⟩,T.nx,tellA 5 ⟨nm,tok,hol,exp,ws⟩) from (if_neg hnd).trans ((if_neg hm).trans (if_pos (.inl hk4))))
   clear hm hnd hk4 r0 r3
   obtain ⟨t0,t1,t2,t3,t4,-,-,-,-,-⟩:=HAT.out.cells C1.out.st.tb.v
   simp only at t0 t1 t2 t3 t4
   have hq:=stell_calls 5 ⟨⟨nm,tok,hol,exp,ws⟩,.slice wa ws.length wcap,ob_⟩ _ (C1.out.st.tb.v.rw ⟨⟨nm,tok,hol,exp,ws⟩,.slice wa ws.length wcap,ob_⟩ (by rw [HLS.out];exact List.mem_append_right _ List.mem_cons_self))
   unfold elV at hq
   have HQ:=Aside0.mk hq
   clear hq
   go_wp2_with fail
   with_reducible refine HQ.out.mono ?_
   rintro _ Wt ⟨rfl,hb⟩
   have Ct:=Aside0.mk (C1.out.below hb)
   clear hb t0 t1 t2 t3 t4 HQ
   unfold anV tellA
   obtain ⟨n0,n1,n2,n3,m0,m1,m2,m3⟩:=Ct.out.ans
   go_wp2_with fail
   obtain ⟨hd,hst⟩:=Ct.out.done ⟨5,(⟨⟨nm,tok,hol,exp,ws⟩,.slice wa ws.length wcap,ob_⟩ : EL).x.f1,(⟨⟨nm,tok,hol,exp,ws⟩,.slice wa ws.length wcap,ob_⟩ : EL).x.f2,(⟨⟨nm,tok,hol,exp,ws⟩,.slice wa ws.length wcap,ob_⟩ : EL).x.f3⟩
   refine bodyPost_ret (results_cell_row rfl _ _ (w.heap.size + 1) 75 _ (0,0) _ rfl hd Try.underlying75 rfl (by kernel_rfl)) rfl ?_
   exact ⟨_,T,rfl,rfl,rfl,by rw [HACQ.out,HH.out,← putAt_split (e':=⟨⟨nm,tok,hol,exp,ws⟩,.slice wa ws.length wcap,ob_⟩) HA.out HB.out,← HLS.out];rfl,hst⟩
 have q4 : (r.f2 == 4) = false:=by simpa using hk4
 have HK4:=Aside0.mk hk4
 clear hk4
 by_cases hk2 : r.f2 = 2
 ·
  have q2 : (r.f2 == 2) = true:=by rw [hk2];rfl
  have HK2:=Aside0.mk hk2
  clear hk2
  go_upto_region 12 with fail
  clear q2 q4 r2 r0 r3 x2
  have C3:=Aside0.mk (C1.out.below (below_drew (Below.refl _ _)))
  obtain ⟨x0,x1,x2,x3,x4,-,-,-,-,-⟩:=HAT.out.cells C3.out.st.tb.v
  simp only at x0 x1 x2 x3 x4
  obtain ⟨r0,-,-,-,-⟩:=C3.out.rqs
  refine start_ (n:=7) (S:=fun w' => w'.cell? ⟨b,o + p * 5,none⟩ = some (.string nm) ∧ w'.cell? ⟨b,o + p * 5 + 1,none⟩ = some (.int .i64 tok) ∧ w'.cell? ⟨b,o + p * 5 + 2,none⟩ = some (.int .i64 hol) ∧ w'.cell? ⟨b,o + p * 5 + 3,none⟩ = some (.int .i64 exp) ∧ w'.cell? ⟨b,o + p * 5 + 4,none⟩ = some (.slice wa ws.length wcap) ∧ w'.cell? ⟨w.heap.size,0,none⟩ = some (.int .i64 r.f0)) (ds:=[]) #[false,false,false,false,false,false,false] (by kernel_rfl) rfl rfl ⟨x0,x1,x2,x3,x4,r0⟩ (fun hHeld => ?_)
  clear x0 x1 x2 x3 x4 r0
  generalize W1.drew = V at C3 hHeld ⊢
  refine pq 0 (some 48) ?_
  refine pq 1 (some 49) ?_
  refine pq 3 (some 51) ?_
  refine tq 2 (some 50) hHeld ?_
  refine tq 4 (some 52) hHeld ?_
  refine nq 5 (some 53) fun K hK => ?_
  have hq:=swaits_calls ⟨⟨nm,tok,hol,exp,ws⟩,.slice wa ws.length wcap,ob_⟩ r.f0 V (HSW.out V C3.out) (by have:=HWL.out;show ws.length ≤ 1000;omega)
  unfold elV at hq
  simp only at hq
  rw [← HWF.out] at hq
  refine goes_ Try.func112 (by kernel_rfl) rfl #[.agg #[.string nm,.int .i64 tok,.int .i64 hol,.int .i64 exp,.slice wa ws.length wcap],.int .i64 r.f0] (by rfl) rfl rfl (by simp only [List.map_toArray,List.map_cons,List.map_nil];rfl) ?_
  with_reducible refine (hq).mono ?_
  rintro _ W4 ⟨rfl,hb⟩
  refine ⟨_,rfl,?_⟩
  have C4:=Aside0.mk (C3.out.below hb)
  obtain ⟨x0,x1,x2,x3,x4,-,-,-,-,-⟩:=HAT.out.cells C4.out.st.tb.v
  simp only at x0 x1 x2 x3 x4
  obtain ⟨r0,-,-,-,-⟩:=C4.out.rqs
  clear hq hb hHeld
  refine hK.out _ _ ⟨x0,x1,x2,x3,x4,r0⟩ (fun hHeld => ?_)
  clear hK K
  refine mq ?_
  refine pq 6 (some 7) ?_
  refine done_ (by kernel_rfl) ?_
  clear hHeld r0 x0 x1 x2 x3 x4
  by_cases hwp : 0 ≤ wf
  ·
   obtain ⟨j,rfl⟩ : ∃ j : Nat,wf = (j : Int):=⟨wf.toNat,by omega⟩
   have hj : j < ws.length:=by have:=HWB.out;omega
   have hwl4 : ws.length ≤ 4:=HWL.out
   have hwc : ws.length ≤ wcap:=HRL.out
   have q6 : decide (0 ≤ (j : Int)) = true:=decide_eq_true (by omega)
   have q6' : (0 ≤ (j : Int)) = True:=eq_true (by omega)
   have HH:=Aside0.mk (show do1 T.tm T.nx ⟨nm,tok,hol,exp,ws⟩ r = ({ (⟨nm,tok,hol,exp,ws⟩ : IL) with f4:=ws.eraseIdx j },T.nx,tellA 1 ⟨nm,tok,hol,exp,ws⟩) by
    rw [do1,if_pos (show 0 ≤ waitsF r.f0 ws 0 ∧ r.f2 = 2 from ⟨by rw [← HWF.out];exact hwp,HK2.out⟩)]
    show (({ (⟨nm,tok,hol,exp,ws⟩ : IL) with f4:=ws.eraseIdx (waitsF r.f0 ws 0).toNat } : IL),T.nx,_) = _
    rw [← HWF.out,Int.toNat_natCast])
   clear hwp
   go_upto_region 14 with fail
   clear q6 q6'
   have hjn : j ≤ ws.length:=by omega
   have hjn2 : j + 1 ≤ ws.length:=by omega
   have hjc : j ≤ wcap:=by omega
   have hjc2 : j + 1 ≤ wcap:=by omega
   have wj : wrap64 ((j : Int) + 1) = ((j + 1 : Nat) : Int):=by unfold wrap64;omega
   have wj0 : (0 ≤ (j : Int) + 1) = True:=eq_true (by omega)
   have wj1 : ((j : Int) + 1 ≤ (ws.length : Int)) = True:=eq_true (by omega)
   have C5:=Aside0.mk (C4.out.below (below_drew (Below.refl _ _)))
   obtain ⟨-,-,-,-,x4,-,-,-,-,-⟩:=HAT.out.cells C5.out.st.tb.v
   simp only at x4
   refine start_ (n:=20) (S:=fun w' => w'.cell? ⟨b,o + p * 5 + 4,none⟩ = some (.slice wa ws.length wcap)) (ds:=[19]) #[false,false,false,false,false,false,false,false,false,false,false,false,false,false,false,false,false,false,false,false] (by kernel_rfl) rfl rfl (x4) (fun hHeld => ?_)
   clear x4
   generalize W4.drew = V5 at C5 hHeld ⊢
   have HX : Aside0 (∀ W_ : World,Below V5.heap.size V5 W_ → W_.cell? ⟨b,o + p * 5 + 4,none⟩ = some (.slice wa ws.length wcap)):=⟨fun W_ hb_ => (HAT.out.cell (C5.out.below hb_).st.tb.v 4 (by omega)).1⟩
   have HWS : Aside0 (∀ W_ : World,Below V5.heap.size V5 W_ → Row W_ 73 2 (.slice wa ws.length wcap) ws.length (ws.flatMap wc) ob_):=⟨fun W_ hb_ => HSW.out W_ (C5.out.below hb_)⟩
   refine pq 0 (some 56) ?_
   refine pq 2 (some 58) ?_
   refine pq 3 (some 59) ?_
   refine pq 4 (some 60) ?_
   refine pq 6 (some 62) ?_
   refine pq 9 (some 65) ?_
   refine pq 10 (some 66) ?_
   refine pq 11 (some 67) ?_
   refine pq 13 (some 69) ?_
   refine pq 14 (some 70) ?_
   refine tq 5 (some 61) hHeld ?_
   refine pq 7 (some 63) ?_
   refine tq 12 (some 68) hHeld ?_
   refine pq 15 (some 71) ?_
   refine nq 1 (some 57) fun K hK => ?_
   refine vq ?_
   have HB6:=Aside0.mk (below_alloc (Below.refl V5.heap.size V5) (.cells #[] 73 (0,0)))
   clear hHeld
   generalize V5.alloc _ = V6 at HB6 ⊢
   refine hK.out _ _ (HX.out V6 HB6.out) (fun hHeld => ?_)
   clear hK K
   refine mq ?_
   refine nq 8 (some 64) fun K hK => ?_
   have hw6:=HWS.out V6 HB6.out
   obtain ⟨v8,V7,ob8,hrun,hrow,hob,hfr⟩:=app_row (P:=Try.prog) V6 68 68 73 2 16 Try.underlying68 (by kernel_rfl) (by omega) (by omega) (.slice (some ⟨V5.heap.size,0,none⟩) 0 0) (.slice wa j wcap) 0 j [] ((ws.flatMap wc).take (j * 2)) none ob_ (row_nil _ _ _ _) (row_take hw6 hjn) (by omega) (fun x hx => wcs_one ws x (List.mem_of_mem_take hx))
   refine value_ (w1:=V7) (v:=v8) (by rfl) rfl ?_ ?_
   ·
    exact run_append_op (.tmp 57) (.tmp 63) 68 68 rfl _ _ rfl rfl hrun
   have HB7:=Aside0.mk (below_then HB6.out HB6.out.size (fr_none hfr))
   rw [Nat.zero_add,List.nil_append] at hrow
   have HR8:=Aside0.mk hrow
   have HO8:=Aside0.mk (show ∀ k_,ob8 = some k_ → V5.heap.size ≤ k_ from fun k_ hk_ => by rcases hob with h|h;(rw [h] at hk_;cases hk_);(have h1:=h k_ hk_;have h2:=HB6.out.size;omega))
   clear hw6 hrun hrow hob hfr hHeld
   refine hK.out _ _ (HX.out V7 HB7.out) (fun hHeld => ?_)
   clear hK K
   refine mq ?_
   refine nq 16 (some 72) fun K hK => ?_
   have hdr:=row_dropA (HWS.out V7 HB7.out) hjn2
   obtain ⟨v16,V8,ob16,hrun,hrow,hob,hfr⟩:=app_row (P:=Try.prog) V7 68 68 73 2 16 Try.underlying68 (by kernel_rfl) (by omega) (by omega) v8 (.slice (if wcap = j + 1 then wa else Option.map (fun x => x.add ((j + 1) * 2)) wa) (ws.length - (j + 1)) (wcap - (j + 1))) j (ws.length - (j + 1)) _ _ ob8 _ HR8.out hdr (by omega) (fun x hx => wcs_one ws x (List.mem_of_mem_drop hx))
   obtain ⟨va,vc,rfl⟩:=hrow.slice
   refine value_ (w1:=V8) (v:=.slice va (j + (ws.length - (j + 1))) vc) (by rfl) rfl ?_ ?_
   ·
    exact run_append_op (.tmp 64) (.tmp 71) 68 68 rfl _ _ rfl rfl hrun
   have HB8:=Aside0.mk (HB7.out.trans (hfr.to_below HB7.out.size (fun x hx => HO8.out x hx)))
   have HR16:=Aside0.mk hrow
   have HO16:=Aside0.mk (show ∀ k_,ob16 = some k_ → V5.heap.size ≤ k_ from fun k_ hk_ => by rcases hob with h|h;(exact HO8.out k_ (h ▸ hk_));(have h1:=h k_ hk_;have h2:=HB7.out.size;omega))
   clear hdr hrun hrow hob hfr hHeld
   obtain ⟨y4,g4⟩:=HAT.out.cell (C5.out.below HB8.out).st.tb.v 4 (by omega)
   refine hK.out _ _ (HX.out V8 HB8.out) (fun hHeld => ?_)
   clear hK K
   refine mq ?_
   refine pq 17 (some 73) ?_
   refine pq 18 (some 74) ?_
   refine lq 19 none fun K hK => ?_
   refine sq ?_
   refine hK.out _ _ ?_
   clear hK K
   refine done_ (by kernel_rfl) ?_
   (try clear hHeld)
   have hN : j + (ws.length - (j + 1)) = (ws.eraseIdx j).length:=by rw [List.length_eraseIdx_of_lt hj];omega
   have hrw : Row V8 73 2 (.slice va (ws.eraseIdx j).length vc) (ws.eraseIdx j).length ((ws.eraseIdx j).flatMap wc) ob16:=by
    have h:=HR16.out
    rw [hN] at h
    rw [List.eraseIdx_eq_take_drop_succ,List.flatMap_append,← (flat_take (f:=wc) (sz:=2) (fun x => rfl) ws j).1,← (flat_take (f:=wc) (sz:=2) (fun x => rfl) ws (j + 1)).2,← List.eraseIdx_eq_take_drop_succ]
    exact h
   have hS8:=(St.refl C5.out.st.tb).wts HAT.out (ws.eraseIdx j) (.slice va (ws.eraseIdx j).length vc) ob16 (Fr.of_below HB8.out) hrw (.inr HO16.out)
   rw [hN]
   obtain ⟨T8,hT8⟩ : ∃ T8 : Tv,T8 = { T with ls:=A ++ ⟨⟨nm,tok,hol,exp,ws.eraseIdx j⟩,.slice va (ws.eraseIdx j).length vc,ob16⟩ :: B }:=⟨_,rfl⟩
   have C8 : Aside0 (Ctx g w T r (V8.setCell ⟨b,o + p * 5 + 4,none⟩ (.slice va (ws.eraseIdx j).length vc)) T8):=⟨by rw [hT8];exact C5.out.step hS8⟩
   have HAT8 : Aside0 (At T8 A ⟨⟨nm,tok,hol,exp,ws.eraseIdx j⟩,.slice va (ws.eraseIdx j).length vc,ob16⟩ B b (o + p * 5)):=⟨by rw [hT8];exact HAT.out.put ⟨⟨nm,tok,hol,exp,ws.eraseIdx j⟩,.slice va (ws.eraseIdx j).length vc,ob16⟩⟩
   have HLS8:=Aside0.mk (show T8.ls = A ++ ⟨⟨nm,tok,hol,exp,ws.eraseIdx j⟩,.slice va (ws.eraseIdx j).length vc,ob16⟩ :: B by rw [hT8])
   have HQ8:=Aside0.mk hT8
   clear hS8 hrw y4 g4 hT8 hN hj hjn hjn2 hjc hjc2 hwc hwl4 wj wj0 wj1
   generalize V8.setCell ⟨b,o + p * 5 + 4,none⟩ (.slice va (ws.eraseIdx j).length vc) = V9 at C8 ⊢
   (try generalize (Value.slice (if wcap = j + 1 then wa else Option.map (fun x => x.add ((j + 1) * 2)) wa) (ws.length - (j + 1)) (wcap - (j + 1))) = vdr_)
   obtain ⟨t0,t1,t2,t3,t4,-,-,-,-,-⟩:=HAT8.out.cells C8.out.st.tb.v
   simp only at t0 t1 t2 t3 t4
   have hq:=stell_calls 1 ⟨⟨nm,tok,hol,exp,ws.eraseIdx j⟩,.slice va (ws.eraseIdx j).length vc,ob16⟩ _ (C8.out.st.tb.v.rw ⟨⟨nm,tok,hol,exp,ws.eraseIdx j⟩,.slice va (ws.eraseIdx j).length vc,ob16⟩ (by rw [HLS8.out];exact List.mem_append_right _ List.mem_cons_self))
   unfold elV at hq
   have HQ:=Aside0.mk hq
   clear hq
   go_wp2_with fail
   with_reducible refine HQ.out.mono ?_
   rintro _ Wt ⟨rfl,hb⟩
   have Ct:=Aside0.mk (C8.out.below hb)
   clear hb t0 t1 t2 t3 t4 HQ
   unfold anV tellA
   obtain ⟨n0,n1,n2,n3,m0,m1,m2,m3⟩:=Ct.out.ans
   go_wp2_with fail
   obtain ⟨hd,hst⟩:=Ct.out.done ⟨1,(⟨⟨nm,tok,hol,exp,ws.eraseIdx j⟩,.slice va (ws.eraseIdx j).length vc,ob16⟩ : EL).x.f1,(⟨⟨nm,tok,hol,exp,ws.eraseIdx j⟩,.slice va (ws.eraseIdx j).length vc,ob16⟩ : EL).x.f2,(⟨⟨nm,tok,hol,exp,ws.eraseIdx j⟩,.slice va (ws.eraseIdx j).length vc,ob16⟩ : EL).x.f3⟩
   refine bodyPost_ret (results_cell_row rfl _ _ (w.heap.size + 1) 75 _ (0,0) _ rfl hd Try.underlying75 rfl (by kernel_rfl)) rfl ?_
   exact ⟨_,T8,rfl,by rw [HQ8.out],by rw [HQ8.out],by rw [HACQ.out,HH.out,HQ8.out];exact putAt_split (e':=⟨⟨nm,tok,hol,exp,ws.eraseIdx j⟩,.slice va (ws.eraseIdx j).length vc,ob16⟩) HA.out HB.out,hst⟩
  ·
   have q6 : decide (0 ≤ wf) = false:=decide_eq_false hwp
   have q6' : (0 ≤ wf) = False:=eq_false hwp
   have HH0:=Aside0.mk (show do1 T.tm T.nx ⟨nm,tok,hol,exp,ws⟩ r = _ from if_neg (show ¬ (0 ≤ waitsF r.f0 ws 0 ∧ r.f2 = 2) by rw [← HWF.out];exact fun h => hwp h.1))
   clear hwp
   go_upto_region 16 with fail
   clear q6 q6'
   have C5:=Aside0.mk (C4.out.below (below_drew (Below.refl _ _)))
   obtain ⟨r0,-,-,-,-⟩:=C5.out.rqs
   obtain ⟨-,-,y2,-,-,-,-,-,-,-⟩:=HAT.out.cells C5.out.st.tb.v
   simp only at y2
   by_cases hcl : hol = r.f0
   rotate_left
   ·
    have q5 : (hol != r.f0) = true:=by simpa using hcl
    have HCL:=Aside0.mk hcl
    clear hcl
    refine start_ (n:=7) (S:=fun w' => w'.cell? ⟨b,o + p * 5 + 2,none⟩ = some (.int .i64 hol) ∧ w'.cell? ⟨w.heap.size,0,none⟩ = some (.int .i64 r.f0)) (ds:=[]) #[false,false,false,false,false,false,false] (by kernel_rfl) rfl rfl ⟨y2,r0⟩ (fun hHeld => ?_)
    clear y2 r0
    generalize W4.drew = V5 at C5 hHeld ⊢
    refine pq 0 (some 79) ?_
    refine pq 1 (some 80) ?_
    refine pq 2 (some 81) ?_
    refine pq 4 (some 83) ?_
    refine tq 3 (some 82) hHeld ?_
    refine tq 5 (some 84) hHeld ?_
    refine pq 6 (some 85) ?_
    refine done_ (by kernel_rfl) ?_
    clear hHeld q5
    obtain ⟨-,-,x2,-,-,-,-,-,-,-⟩:=HAT.out.cells C5.out.st.tb.v
    simp only at x2
    by_cases hm : hol = -1
    ·
     have q6 : decide (hol < 0) = true:=decide_eq_true (by omega)
     have HH:=Aside0.mk (HH0.out.trans (if_pos hm))
     clear hm
     obtain ⟨t0,t1,t2,t3,t4,-,-,-,-,-⟩:=HAT.out.cells C5.out.st.tb.v
     simp only at t0 t1 t2 t3 t4
     have hq:=stell_calls 4 ⟨⟨nm,tok,hol,exp,ws⟩,.slice wa ws.length wcap,ob_⟩ _ (C5.out.st.tb.v.rw ⟨⟨nm,tok,hol,exp,ws⟩,.slice wa ws.length wcap,ob_⟩ (by rw [HLS.out];exact List.mem_append_right _ List.mem_cons_self))
     unfold elV at hq
     have HQ:=Aside0.mk hq
     clear hq
     go_wp2_with fail
     with_reducible refine HQ.out.mono ?_
     rintro _ Wt ⟨rfl,hb⟩
     have Ct:=Aside0.mk (C5.out.below hb)
     clear hb t0 t1 t2 t3 t4 HQ
     unfold anV tellA
     obtain ⟨n0,n1,n2,n3,m0,m1,m2,m3⟩:=Ct.out.ans
     go_wp2_with fail
     obtain ⟨hd,hst⟩:=Ct.out.done ⟨4,(⟨⟨nm,tok,hol,exp,ws⟩,.slice wa ws.length wcap,ob_⟩ : EL).x.f1,(⟨⟨nm,tok,hol,exp,ws⟩,.slice wa ws.length wcap,ob_⟩ : EL).x.f2,(⟨⟨nm,tok,hol,exp,ws⟩,.slice wa ws.length wcap,ob_⟩ : EL).x.f3⟩
     refine bodyPost_ret (results_cell_row rfl _ _ (w.heap.size + 1) 75 _ (0,0) _ rfl hd Try.underlying75 rfl (by kernel_rfl)) rfl ?_
     exact ⟨_,T,rfl,rfl,rfl,by rw [HACQ.out,HH.out,← putAt_split (e':=⟨⟨nm,tok,hol,exp,ws⟩,.slice wa ws.length wcap,ob_⟩) HA.out HB.out,← HLS.out];rfl,hst⟩
    ·
     have q6 : decide (hol < 0) = false:=decide_eq_false (by have:=HHB.out;omega)
     have HH:=Aside0.mk (HH0.out.trans ((if_neg hm).trans (if_pos (.inr HCL.out))))
     clear hm
     obtain ⟨t0,t1,t2,t3,t4,-,-,-,-,-⟩:=HAT.out.cells C5.out.st.tb.v
     simp only at t0 t1 t2 t3 t4
     have hq:=stell_calls 5 ⟨⟨nm,tok,hol,exp,ws⟩,.slice wa ws.length wcap,ob_⟩ _ (C5.out.st.tb.v.rw ⟨⟨nm,tok,hol,exp,ws⟩,.slice wa ws.length wcap,ob_⟩ (by rw [HLS.out];exact List.mem_append_right _ List.mem_cons_self))
     unfold elV at hq
     have HQ:=Aside0.mk hq
     clear hq
     go_wp2_with fail
     with_reducible refine HQ.out.mono ?_
     rintro _ Wt ⟨rfl,hb⟩
     have Ct:=Aside0.mk (C5.out.below hb)
     clear hb t0 t1 t2 t3 t4 HQ
     unfold anV tellA
     obtain ⟨n0,n1,n2,n3,m0,m1,m2,m3⟩:=Ct.out.ans
     go_wp2_with fail
     obtain ⟨hd,hst⟩:=Ct.out.done ⟨5,(⟨⟨nm,tok,hol,exp,ws⟩,.slice wa ws.length wcap,ob_⟩ : EL).x.f1,(⟨⟨nm,tok,hol,exp,ws⟩,.slice wa ws.length wcap,ob_⟩ : EL).x.f2,(⟨⟨nm,tok,hol,exp,ws⟩,.slice wa ws.length wcap,ob_⟩ : EL).x.f3⟩
     refine bodyPost_ret (results_cell_row rfl _ _ (w.heap.size + 1) 75 _ (0,0) _ rfl hd Try.underlying75 rfl (by kernel_rfl)) rfl ?_
     exact ⟨_,T,rfl,rfl,rfl,by rw [HACQ.out,HH.out,← putAt_split (e':=⟨⟨nm,tok,hol,exp,ws⟩,.slice wa ws.length wcap,ob_⟩) HA.out HB.out,← HLS.out];rfl,hst⟩
   ·
    have q5 : (hol != r.f0) = false:=by simpa using hcl
    have HH1:=Aside0.mk (HH0.out.trans ((if_neg (show ¬ hol = -1 by have:=HR0.out;omega)).trans (if_neg (show ¬ (r.f2 = 4 ∨ hol ≠ r.f0) from fun h => h.elim HK4.out (fun h => h hcl)))))
    clear hcl
    refine start_ (n:=7) (S:=fun w' => w'.cell? ⟨b,o + p * 5 + 2,none⟩ = some (.int .i64 hol) ∧ w'.cell? ⟨w.heap.size,0,none⟩ = some (.int .i64 r.f0)) (ds:=[]) #[false,false,false,false,false,false,false] (by kernel_rfl) rfl rfl ⟨y2,r0⟩ (fun hHeld => ?_)
    clear y2 r0
    generalize W4.drew = V5 at C5 hHeld ⊢
    refine pq 0 (some 79) ?_
    refine pq 1 (some 80) ?_
    refine pq 2 (some 81) ?_
    refine pq 4 (some 83) ?_
    refine tq 3 (some 82) hHeld ?_
    refine tq 5 (some 84) hHeld ?_
    refine pq 6 (some 85) ?_
    refine done_ (by kernel_rfl) ?_
    clear hHeld q5
    obtain ⟨-,-,r2,-,-⟩:=C5.out.rqs
    by_cases hk3 : r.f2 = 3
    ·
     have q6 : (r.f2 == 3) = true:=by rw [hk3];rfl
     have HH:=Aside0.mk (HH1.out.trans (if_pos hk3))
     clear hk3
     go_upto_region 21 with fail
     clear r2 q6
     have C6:=Aside0.mk (C5.out.below (below_drew (Below.refl _ _)))
     have y0:=C6.out.st.tb.cells.1
     obtain ⟨-,-,-,r3,-⟩:=C6.out.rqs
     refine start_ (n:=11) (S:=fun w' => w'.cell? ⟨g,0,none⟩ = some (.int .i64 T.tm) ∧ w'.cell? ⟨w.heap.size,3,none⟩ = some (.int .i64 r.f3)) (ds:=[10]) #[false,false,false,false,false,false,false,false,false,false,false] (by kernel_rfl) rfl rfl ⟨y0,r3⟩ (fun hHeld => ?_)
     clear y0 r3
     generalize V5.drew = V6 at C6 hHeld ⊢
     refine pq 0 (some 102) ?_
     refine pq 1 (some 103) ?_
     refine pq 2 (some 104) ?_
     refine pq 3 (some 105) ?_
     refine pq 5 (some 107) ?_
     refine tq 4 (some 106) hHeld ?_
     refine tq 6 (some 108) hHeld ?_
     refine nq 7 (some 109) fun K hK => ?_
     refine goes_ Try.func113 (by kernel_rfl) rfl #[.int .i64 T.tm,.int .i64 r.f3] (by rfl) rfl rfl (by simp only [List.map_toArray,List.map_cons,List.map_nil];rfl) ?_
     with_reducible refine (addTime_calls T.tm r.f3 V6 (by have:=H0.out;omega) (by have:=HR3.out;omega)).mono ?_
     rintro _ V7 ⟨rfl,hb⟩
     refine ⟨_,rfl,?_⟩
     have C7:=Aside0.mk (C6.out.below hb)
     have y0:=C7.out.st.tb.cells.1
     obtain ⟨-,-,-,r3,-⟩:=C7.out.rqs
     obtain ⟨-,-,-,y3,-,-,-,-,g3,-⟩:=HAT.out.cells C7.out.st.tb.v
     clear hb hHeld
     refine hK.out _ _ ⟨y0,r3⟩ (fun hHeld => ?_)
     clear hK K
     refine mq ?_
     refine pq 8 (some 110) ?_
     refine pq 9 (some 111) ?_
     refine lq 10 none fun K hK => ?_
     refine sq ?_
     refine hK.out _ _ ?_
     clear hK K
     refine done_ (by kernel_rfl) ?_
     clear hHeld y0 r3
     obtain ⟨T8,hT8⟩ : ∃ T8 : Tv,T8 = { T with ls:=A ++ ⟨⟨nm,tok,hol,T.tm + r.f3,ws⟩,.slice wa ws.length wcap,ob_⟩ :: B }:=⟨_,rfl⟩
     have C8 : Aside0 (Ctx g w T r (V7.setCell ⟨b,o + p * 5 + 3,none⟩ (.int .i64 (T.tm + r.f3))) T8):=⟨by rw [hT8];exact C7.out.step ((St.refl C7.out.st.tb).exp HAT.out (T.tm + r.f3))⟩
     have HAT8 : Aside0 (At T8 A ⟨⟨nm,tok,hol,T.tm + r.f3,ws⟩,.slice wa ws.length wcap,ob_⟩ B b (o + p * 5)):=⟨by rw [hT8];exact HAT.out.put ⟨⟨nm,tok,hol,T.tm + r.f3,ws⟩,.slice wa ws.length wcap,ob_⟩⟩
     have HLS8:=Aside0.mk (show T8.ls = A ++ ⟨⟨nm,tok,hol,T.tm + r.f3,ws⟩,.slice wa ws.length wcap,ob_⟩ :: B by rw [hT8])
     have HQ8:=Aside0.mk hT8
     clear y3 g3 hT8
     generalize V7.setCell ⟨b,o + p * 5 + 3,none⟩ (.int .i64 (T.tm + r.f3)) = V8 at C8 ⊢
     obtain ⟨t0,t1,t2,t3,t4,-,-,-,-,-⟩:=HAT8.out.cells C8.out.st.tb.v
     simp only at t0 t1 t2 t3 t4
     have hq:=stell_calls 1 ⟨⟨nm,tok,hol,T.tm + r.f3,ws⟩,.slice wa ws.length wcap,ob_⟩ _ (C8.out.st.tb.v.rw ⟨⟨nm,tok,hol,T.tm + r.f3,ws⟩,.slice wa ws.length wcap,ob_⟩ (by rw [HLS8.out];exact List.mem_append_right _ List.mem_cons_self))
     unfold elV at hq
     have HQ:=Aside0.mk hq
     clear hq
     go_wp2_with fail
     with_reducible refine HQ.out.mono ?_
     rintro _ Wt ⟨rfl,hb⟩
     have Ct:=Aside0.mk (C8.out.below hb)
     clear hb t0 t1 t2 t3 t4 HQ
     unfold anV tellA
     obtain ⟨n0,n1,n2,n3,m0,m1,m2,m3⟩:=Ct.out.ans
     go_wp2_with fail
     obtain ⟨hd,hst⟩:=Ct.out.done ⟨1,(⟨⟨nm,tok,hol,T.tm + r.f3,ws⟩,.slice wa ws.length wcap,ob_⟩ : EL).x.f1,(⟨⟨nm,tok,hol,T.tm + r.f3,ws⟩,.slice wa ws.length wcap,ob_⟩ : EL).x.f2,(⟨⟨nm,tok,hol,T.tm + r.f3,ws⟩,.slice wa ws.length wcap,ob_⟩ : EL).x.f3⟩
     refine bodyPost_ret (results_cell_row rfl _ _ (w.heap.size + 1) 75 _ (0,0) _ rfl hd Try.underlying75 rfl (by kernel_rfl)) rfl ?_
     exact ⟨_,T8,rfl,by rw [HQ8.out],by rw [HQ8.out],by rw [HACQ.out,HH.out,HQ8.out];exact putAt_split (e':=⟨⟨nm,tok,hol,T.tm + r.f3,ws⟩,.slice wa ws.length wcap,ob_⟩) HA.out HB.out,hst⟩
    ·
     have q6 : (r.f2 == 3) = false:=by simpa using hk3
     have HH:=Aside0.mk (HH1.out.trans (if_neg hk3))
     clear hk3
     go_wp2_with fail
     have hq:=sfree_calls g V5 T A ⟨⟨nm,tok,hol,exp,ws⟩,.slice wa ws.length wcap,ob_⟩ B b o lc p C5.out.st.tb HLV.out HPL.out HAT.out (by have:=H0.out;omega) H1.out (fun u hu => by have:=HE4.out.2.2 u hu;omega) HWL.out
     with_reducible refine hq.mono ?_
     clear hq
     rintro _ W8 ⟨rfl,e',he',hs8⟩
     obtain ⟨⟨nm',tok',hol',exp',ws'⟩,v',ob'⟩:=e'
     obtain ⟨T8,hT8⟩ : ∃ T8 : Tv,T8 = { T with nx:=(frX (⟨nm,tok,hol,exp,ws⟩ : IL) T.tm T.nx).2,ls:=A ++ ⟨⟨nm',tok',hol',exp',ws'⟩,v',ob'⟩ :: B }:=⟨_,rfl⟩
     have C8 : Aside0 (Ctx g w T r W8 T8):=⟨by rw [hT8];exact C5.out.step hs8⟩
     have HAT8 : Aside0 (At T8 A ⟨⟨nm',tok',hol',exp',ws'⟩,v',ob'⟩ B b (o + p * 5)):=⟨by rw [hT8];exact (HAT.out.put ⟨⟨nm',tok',hol',exp',ws'⟩,v',ob'⟩).next _⟩
     have HLS8:=Aside0.mk (show T8.ls = A ++ ⟨⟨nm',tok',hol',exp',ws'⟩,v',ob'⟩ :: B by rw [hT8])
     have HQ8:=Aside0.mk hT8
     have HE:=Aside0.mk he'
     have z2:=C8.out.st.tb.cells.2.2.1
     rw [show T8.vl = .slice (some ⟨b,o,none⟩) T.ls.length lc by rw [hT8];exact HLV.out] at z2
     obtain ⟨wa',wcap',hv',-,-⟩:=(C8.out.st.tb.v.rw ⟨⟨nm',tok',hol',exp',ws'⟩,v',ob'⟩ (by rw [HLS8.out];exact List.mem_append_right _ List.mem_cons_self)).reads
     simp only at hv'
     subst hv'
     clear hs8 he' hT8 r2 q6
     obtain ⟨t0,t1,t2,t3,t4,-,-,-,-,-⟩:=HAT8.out.cells C8.out.st.tb.v
     simp only at t0 t1 t2 t3 t4
     have hq:=stell_calls 1 ⟨⟨nm',tok',hol',exp',ws'⟩,.slice wa' ws'.length wcap',ob'⟩ _ (C8.out.st.tb.v.rw ⟨⟨nm',tok',hol',exp',ws'⟩,.slice wa' ws'.length wcap',ob'⟩ (by rw [HLS8.out];exact List.mem_append_right _ List.mem_cons_self))
     unfold elV at hq
     have HQ:=Aside0.mk hq
     clear hq
     go_wp2_with fail
     with_reducible refine HQ.out.mono ?_
     rintro _ Wt ⟨rfl,hb⟩
     have Ct:=Aside0.mk (C8.out.below hb)
     clear hb t0 t1 t2 t3 t4 HQ
     unfold anV tellA
     obtain ⟨n0,n1,n2,n3,m0,m1,m2,m3⟩:=Ct.out.ans
     go_wp2_with fail
     obtain ⟨hd,hst⟩:=Ct.out.done ⟨1,(⟨⟨nm',tok',hol',exp',ws'⟩,.slice wa' ws'.length wcap',ob'⟩ : EL).x.f1,(⟨⟨nm',tok',hol',exp',ws'⟩,.slice wa' ws'.length wcap',ob'⟩ : EL).x.f2,(⟨⟨nm',tok',hol',exp',ws'⟩,.slice wa' ws'.length wcap',ob'⟩ : EL).x.f3⟩
     refine bodyPost_ret (results_cell_row rfl _ _ (w.heap.size + 1) 75 _ (0,0) _ rfl hd Try.underlying75 rfl (by kernel_rfl)) rfl ?_
     exact ⟨_,T8,rfl,by rw [HQ8.out],by rw [HQ8.out],by rw [HACQ.out,HH.out,HQ8.out];show _ = putAt _ _ _ ((frX (⟨nm,tok,hol,exp,ws⟩ : IL) T.tm T.nx).1,_,tellA 1 (frX (⟨nm,tok,hol,exp,ws⟩ : IL) T.tm T.nx).1);rw [← HE.out];exact putAt_split (e':=⟨⟨nm',tok',hol',exp',ws'⟩,.slice wa' ws'.length wcap',ob'⟩) HA.out HB.out,hst⟩
 ·
  have q2 : (r.f2 == 2) = false:=by simpa using hk2
  have HH0:=Aside0.mk (show do1 T.tm T.nx ⟨nm,tok,hol,exp,ws⟩ r = _ from if_neg (show ¬ (0 ≤ waitsF r.f0 ws 0 ∧ r.f2 = 2) from fun h => hk2 h.2))
  have C4:=C1
  clear hk2
  go_upto_region 16 with fail
  clear q2 q4 r2 r0 r3 x2
  have C5:=Aside0.mk (C4.out.below (below_drew (Below.refl _ _)))
  obtain ⟨r0,-,-,-,-⟩:=C5.out.rqs
  obtain ⟨-,-,y2,-,-,-,-,-,-,-⟩:=HAT.out.cells C5.out.st.tb.v
  simp only at y2
  by_cases hcl : hol = r.f0
  rotate_left
  ·
   have q5 : (hol != r.f0) = true:=by simpa using hcl
   have HCL:=Aside0.mk hcl
   clear hcl
   refine start_ (n:=7) (S:=fun w' => w'.cell? ⟨b,o + p * 5 + 2,none⟩ = some (.int .i64 hol) ∧ w'.cell? ⟨w.heap.size,0,none⟩ = some (.int .i64 r.f0)) (ds:=[]) #[false,false,false,false,false,false,false] (by kernel_rfl) rfl rfl ⟨y2,r0⟩ (fun hHeld => ?_)
   clear y2 r0
   generalize W1.drew = V5 at C5 hHeld ⊢
   refine pq 0 (some 79) ?_
   refine pq 1 (some 80) ?_
   refine pq 2 (some 81) ?_
   refine pq 4 (some 83) ?_
   refine tq 3 (some 82) hHeld ?_
   refine tq 5 (some 84) hHeld ?_
   refine pq 6 (some 85) ?_
   refine done_ (by kernel_rfl) ?_
   clear hHeld q5
   obtain ⟨-,-,x2,-,-,-,-,-,-,-⟩:=HAT.out.cells C5.out.st.tb.v
   simp only at x2
   by_cases hm : hol = -1
   ·
    have q6 : decide (hol < 0) = true:=decide_eq_true (by omega)
    have HH:=Aside0.mk (HH0.out.trans (if_pos hm))
    clear hm
    obtain ⟨t0,t1,t2,t3,t4,-,-,-,-,-⟩:=HAT.out.cells C5.out.st.tb.v
    simp only at t0 t1 t2 t3 t4
    have hq:=stell_calls 4 ⟨⟨nm,tok,hol,exp,ws⟩,.slice wa ws.length wcap,ob_⟩ _ (C5.out.st.tb.v.rw ⟨⟨nm,tok,hol,exp,ws⟩,.slice wa ws.length wcap,ob_⟩ (by rw [HLS.out];exact List.mem_append_right _ List.mem_cons_self))
    unfold elV at hq
    have HQ:=Aside0.mk hq
    clear hq
    go_wp2_with fail
    with_reducible refine HQ.out.mono ?_
    rintro _ Wt ⟨rfl,hb⟩
    have Ct:=Aside0.mk (C5.out.below hb)
    clear hb t0 t1 t2 t3 t4 HQ
    unfold anV tellA
    obtain ⟨n0,n1,n2,n3,m0,m1,m2,m3⟩:=Ct.out.ans
    go_wp2_with fail
    obtain ⟨hd,hst⟩:=Ct.out.done ⟨4,(⟨⟨nm,tok,hol,exp,ws⟩,.slice wa ws.length wcap,ob_⟩ : EL).x.f1,(⟨⟨nm,tok,hol,exp,ws⟩,.slice wa ws.length wcap,ob_⟩ : EL).x.f2,(⟨⟨nm,tok,hol,exp,ws⟩,.slice wa ws.length wcap,ob_⟩ : EL).x.f3⟩
    refine bodyPost_ret (results_cell_row rfl _ _ (w.heap.size + 1) 75 _ (0,0) _ rfl hd Try.underlying75 rfl (by kernel_rfl)) rfl ?_
    exact ⟨_,T,rfl,rfl,rfl,by rw [HACQ.out,HH.out,← putAt_split (e':=⟨⟨nm,tok,hol,exp,ws⟩,.slice wa ws.length wcap,ob_⟩) HA.out HB.out,← HLS.out];rfl,hst⟩
   ·
    have q6 : decide (hol < 0) = false:=decide_eq_false (by have:=HHB.out;omega)
    have HH:=Aside0.mk (HH0.out.trans ((if_neg hm).trans (if_pos (.inr HCL.out))))
    clear hm
    obtain ⟨t0,t1,t2,t3,t4,-,-,-,-,-⟩:=HAT.out.cells C5.out.st.tb.v
    simp only at t0 t1 t2 t3 t4
    have hq:=stell_calls 5 ⟨⟨nm,tok,hol,exp,ws⟩,.slice wa ws.length wcap,ob_⟩ _ (C5.out.st.tb.v.rw ⟨⟨nm,tok,hol,exp,ws⟩,.slice wa ws.length wcap,ob_⟩ (by rw [HLS.out];exact List.mem_append_right _ List.mem_cons_self))
    unfold elV at hq
    have HQ:=Aside0.mk hq
    clear hq
    go_wp2_with fail
    with_reducible refine HQ.out.mono ?_
    rintro _ Wt ⟨rfl,hb⟩
    have Ct:=Aside0.mk (C5.out.below hb)
    clear hb t0 t1 t2 t3 t4 HQ
    unfold anV tellA
    obtain ⟨n0,n1,n2,n3,m0,m1,m2,m3⟩:=Ct.out.ans
    go_wp2_with fail
    obtain ⟨hd,hst⟩:=Ct.out.done ⟨5,(⟨⟨nm,tok,hol,exp,ws⟩,.slice wa ws.length wcap,ob_⟩ : EL).x.f1,(⟨⟨nm,tok,hol,exp,ws⟩,.slice wa ws.length wcap,ob_⟩ : EL).x.f2,(⟨⟨nm,tok,hol,exp,ws⟩,.slice wa ws.length wcap,ob_⟩ : EL).x.f3⟩
    refine bodyPost_ret (results_cell_row rfl _ _ (w.heap.size + 1) 75 _ (0,0) _ rfl hd Try.underlying75 rfl (by kernel_rfl)) rfl ?_
    exact ⟨_,T,rfl,rfl,rfl,by rw [HACQ.out,HH.out,← putAt_split (e':=⟨⟨nm,tok,hol,exp,ws⟩,.slice wa ws.length wcap,ob_⟩) HA.out HB.out,← HLS.out];rfl,hst⟩
  ·
   have q5 : (hol != r.f0) = false:=by simpa using hcl
   have HH1:=Aside0.mk (HH0.out.trans ((if_neg (show ¬ hol = -1 by have:=HR0.out;omega)).trans (if_neg (show ¬ (r.f2 = 4 ∨ hol ≠ r.f0) from fun h => h.elim HK4.out (fun h => h hcl)))))
   clear hcl
   refine start_ (n:=7) (S:=fun w' => w'.cell? ⟨b,o + p * 5 + 2,none⟩ = some (.int .i64 hol) ∧ w'.cell? ⟨w.heap.size,0,none⟩ = some (.int .i64 r.f0)) (ds:=[]) #[false,false,false,false,false,false,false] (by kernel_rfl) rfl rfl ⟨y2,r0⟩ (fun hHeld => ?_)
   clear y2 r0
   generalize W1.drew = V5 at C5 hHeld ⊢
   refine pq 0 (some 79) ?_
   refine pq 1 (some 80) ?_
   refine pq 2 (some 81) ?_
   refine pq 4 (some 83) ?_
   refine tq 3 (some 82) hHeld ?_
   refine tq 5 (some 84) hHeld ?_
   refine pq 6 (some 85) ?_
   refine done_ (by kernel_rfl) ?_
   clear hHeld q5
   obtain ⟨-,-,r2,-,-⟩:=C5.out.rqs
   by_cases hk3 : r.f2 = 3
   ·
    have q6 : (r.f2 == 3) = true:=by rw [hk3];rfl
    have HH:=Aside0.mk (HH1.out.trans (if_pos hk3))
    clear hk3
    go_upto_region 21 with fail
    clear r2 q6
    have C6:=Aside0.mk (C5.out.below (below_drew (Below.refl _ _)))
    have y0:=C6.out.st.tb.cells.1
    obtain ⟨-,-,-,r3,-⟩:=C6.out.rqs
    refine start_ (n:=11) (S:=fun w' => w'.cell? ⟨g,0,none⟩ = some (.int .i64 T.tm) ∧ w'.cell? ⟨w.heap.size,3,none⟩ = some (.int .i64 r.f3)) (ds:=[10]) #[false,false,false,false,false,false,false,false,false,false,false] (by kernel_rfl) rfl rfl ⟨y0,r3⟩ (fun hHeld => ?_)
    clear y0 r3
    generalize V5.drew = V6 at C6 hHeld ⊢
    refine pq 0 (some 102) ?_
    refine pq 1 (some 103) ?_
    refine pq 2 (some 104) ?_
    refine pq 3 (some 105) ?_
    refine pq 5 (some 107) ?_
    refine tq 4 (some 106) hHeld ?_
    refine tq 6 (some 108) hHeld ?_
    refine nq 7 (some 109) fun K hK => ?_
    refine goes_ Try.func113 (by kernel_rfl) rfl #[.int .i64 T.tm,.int .i64 r.f3] (by rfl) rfl rfl (by simp only [List.map_toArray,List.map_cons,List.map_nil];rfl) ?_
    with_reducible refine (addTime_calls T.tm r.f3 V6 (by have:=H0.out;omega) (by have:=HR3.out;omega)).mono ?_
    rintro _ V7 ⟨rfl,hb⟩
    refine ⟨_,rfl,?_⟩
    have C7:=Aside0.mk (C6.out.below hb)
    have y0:=C7.out.st.tb.cells.1
    obtain ⟨-,-,-,r3,-⟩:=C7.out.rqs
    obtain ⟨-,-,-,y3,-,-,-,-,g3,-⟩:=HAT.out.cells C7.out.st.tb.v
    clear hb hHeld
    refine hK.out _ _ ⟨y0,r3⟩ (fun hHeld => ?_)
    clear hK K
    refine mq ?_
    refine pq 8 (some 110) ?_
    refine pq 9 (some 111) ?_
    refine lq 10 none fun K hK => ?_
    refine sq ?_
    refine hK.out _ _ ?_
    clear hK K
    refine done_ (by kernel_rfl) ?_
    clear hHeld y0 r3
    obtain ⟨T8,hT8⟩ : ∃ T8 : Tv,T8 = { T with ls:=A ++ ⟨⟨nm,tok,hol,T.tm + r.f3,ws⟩,.slice wa ws.length wcap,ob_⟩ :: B }:=⟨_,rfl⟩
    have C8 : Aside0 (Ctx g w T r (V7.setCell ⟨b,o + p * 5 + 3,none⟩ (.int .i64 (T.tm + r.f3))) T8):=⟨by rw [hT8];exact C7.out.step ((St.refl C7.out.st.tb).exp HAT.out (T.tm + r.f3))⟩
    have HAT8 : Aside0 (At T8 A ⟨⟨nm,tok,hol,T.tm + r.f3,ws⟩,.slice wa ws.length wcap,ob_⟩ B b (o + p * 5)):=⟨by rw [hT8];exact HAT.out.put ⟨⟨nm,tok,hol,T.tm + r.f3,ws⟩,.slice wa ws.length wcap,ob_⟩⟩
    have HLS8:=Aside0.mk (show T8.ls = A ++ ⟨⟨nm,tok,hol,T.tm + r.f3,ws⟩,.slice wa ws.length wcap,ob_⟩ :: B by rw [hT8])
    have HQ8:=Aside0.mk hT8
    clear y3 g3 hT8
    generalize V7.setCell ⟨b,o + p * 5 + 3,none⟩ (.int .i64 (T.tm + r.f3)) = V8 at C8 ⊢
    obtain ⟨t0,t1,t2,t3,t4,-,-,-,-,-⟩:=HAT8.out.cells C8.out.st.tb.v
    simp only at t0 t1 t2 t3 t4
    have hq:=stell_calls 1 ⟨⟨nm,tok,hol,T.tm + r.f3,ws⟩,.slice wa ws.length wcap,ob_⟩ _ (C8.out.st.tb.v.rw ⟨⟨nm,tok,hol,T.tm + r.f3,ws⟩,.slice wa ws.length wcap,ob_⟩ (by rw [HLS8.out];exact List.mem_append_right _ List.mem_cons_self))
    unfold elV at hq
    have HQ:=Aside0.mk hq
    clear hq
    go_wp2_with fail
    with_reducible refine HQ.out.mono ?_
    rintro _ Wt ⟨rfl,hb⟩
    have Ct:=Aside0.mk (C8.out.below hb)
    clear hb t0 t1 t2 t3 t4 HQ
    unfold anV tellA
    obtain ⟨n0,n1,n2,n3,m0,m1,m2,m3⟩:=Ct.out.ans
    go_wp2_with fail
    obtain ⟨hd,hst⟩:=Ct.out.done ⟨1,(⟨⟨nm,tok,hol,T.tm + r.f3,ws⟩,.slice wa ws.length wcap,ob_⟩ : EL).x.f1,(⟨⟨nm,tok,hol,T.tm + r.f3,ws⟩,.slice wa ws.length wcap,ob_⟩ : EL).x.f2,(⟨⟨nm,tok,hol,T.tm + r.f3,ws⟩,.slice wa ws.length wcap,ob_⟩ : EL).x.f3⟩
    refine bodyPost_ret (results_cell_row rfl _ _ (w.heap.size + 1) 75 _ (0,0) _ rfl hd Try.underlying75 rfl (by kernel_rfl)) rfl ?_
    exact ⟨_,T8,rfl,by rw [HQ8.out],by rw [HQ8.out],by rw [HACQ.out,HH.out,HQ8.out];exact putAt_split (e':=⟨⟨nm,tok,hol,T.tm + r.f3,ws⟩,.slice wa ws.length wcap,ob_⟩) HA.out HB.out,hst⟩
   ·
    have q6 : (r.f2 == 3) = false:=by simpa using hk3
    have HH:=Aside0.mk (HH1.out.trans (if_neg hk3))
    clear hk3
    go_wp2_with fail
    have hq:=sfree_calls g V5 T A ⟨⟨nm,tok,hol,exp,ws⟩,.slice wa ws.length wcap,ob_⟩ B b o lc p C5.out.st.tb HLV.out HPL.out HAT.out (by have:=H0.out;omega) H1.out (fun u hu => by have:=HE4.out.2.2 u hu;omega) HWL.out
    with_reducible refine hq.mono ?_
    clear hq
    rintro _ W8 ⟨rfl,e',he',hs8⟩
    obtain ⟨⟨nm',tok',hol',exp',ws'⟩,v',ob'⟩:=e'
    obtain ⟨T8,hT8⟩ : ∃ T8 : Tv,T8 = { T with nx:=(frX (⟨nm,tok,hol,exp,ws⟩ : IL) T.tm T.nx).2,ls:=A ++ ⟨⟨nm',tok',hol',exp',ws'⟩,v',ob'⟩ :: B }:=⟨_,rfl⟩
    have C8 : Aside0 (Ctx g w T r W8 T8):=⟨by rw [hT8];exact C5.out.step hs8⟩
    have HAT8 : Aside0 (At T8 A ⟨⟨nm',tok',hol',exp',ws'⟩,v',ob'⟩ B b (o + p * 5)):=⟨by rw [hT8];exact (HAT.out.put ⟨⟨nm',tok',hol',exp',ws'⟩,v',ob'⟩).next _⟩
    have HLS8:=Aside0.mk (show T8.ls = A ++ ⟨⟨nm',tok',hol',exp',ws'⟩,v',ob'⟩ :: B by rw [hT8])
    have HQ8:=Aside0.mk hT8
    have HE:=Aside0.mk he'
    have z2:=C8.out.st.tb.cells.2.2.1
    rw [show T8.vl = .slice (some ⟨b,o,none⟩) T.ls.length lc by rw [hT8];exact HLV.out] at z2
    obtain ⟨wa',wcap',hv',-,-⟩:=(C8.out.st.tb.v.rw ⟨⟨nm',tok',hol',exp',ws'⟩,v',ob'⟩ (by rw [HLS8.out];exact List.mem_append_right _ List.mem_cons_self)).reads
    simp only at hv'
    subst hv'
    clear hs8 he' hT8 r2 q6
    obtain ⟨t0,t1,t2,t3,t4,-,-,-,-,-⟩:=HAT8.out.cells C8.out.st.tb.v
    simp only at t0 t1 t2 t3 t4
    have hq:=stell_calls 1 ⟨⟨nm',tok',hol',exp',ws'⟩,.slice wa' ws'.length wcap',ob'⟩ _ (C8.out.st.tb.v.rw ⟨⟨nm',tok',hol',exp',ws'⟩,.slice wa' ws'.length wcap',ob'⟩ (by rw [HLS8.out];exact List.mem_append_right _ List.mem_cons_self))
    unfold elV at hq
    have HQ:=Aside0.mk hq
    clear hq
    go_wp2_with fail
    with_reducible refine HQ.out.mono ?_
    rintro _ Wt ⟨rfl,hb⟩
    have Ct:=Aside0.mk (C8.out.below hb)
    clear hb t0 t1 t2 t3 t4 HQ
    unfold anV tellA
    obtain ⟨n0,n1,n2,n3,m0,m1,m2,m3⟩:=Ct.out.ans
    go_wp2_with fail
    obtain ⟨hd,hst⟩:=Ct.out.done ⟨1,(⟨⟨nm',tok',hol',exp',ws'⟩,.slice wa' ws'.length wcap',ob'⟩ : EL).x.f1,(⟨⟨nm',tok',hol',exp',ws'⟩,.slice wa' ws'.length wcap',ob'⟩ : EL).x.f2,(⟨⟨nm',tok',hol',exp',ws'⟩,.slice wa' ws'.length wcap',ob'⟩ : EL).x.f3⟩
    refine bodyPost_ret (results_cell_row rfl _ _ (w.heap.size + 1) 75 _ (0,0) _ rfl hd Try.underlying75 rfl (by kernel_rfl)) rfl ?_
    exact ⟨_,T8,rfl,by rw [HQ8.out],by rw [HQ8.out],by rw [HACQ.out,HH.out,HQ8.out];show _ = putAt _ _ _ ((frX (⟨nm,tok,hol,exp,ws⟩ : IL) T.tm T.nx).1,_,tellA 1 (frX (⟨nm,tok,hol,exp,ws⟩ : IL) T.tm T.nx).1);rw [← HE.out];exact putAt_split (e':=⟨⟨nm',tok',hol',exp',ws'⟩,.slice wa' ws'.length wcap',ob'⟩) HA.out HB.out,hst⟩
end Go.Proofs.Ytjkanhjapddhnaa.SDo
