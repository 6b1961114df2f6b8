/- The specification's l05Acquire, walked by hand (written by mksacq.py). No condition. -/
-- squeezed
import Derived.Test.YtjkanhjapddhnaaAppN
import Derived.Test.YtjkanhjapddhnaaGr
import Derived.Test.YtjkanhjapddhnaaSGr
import Derived.Test.YtjkanhjapddhnaaAcq
namespace Go.Proofs.Ytjkanhjapddhnaa.SAcq
open Go.RowKit Go.Lib Go.Proofs.YtjkanhjapddhnaaV.PrintWords Go.Proofs.YtjkanhjapddhnaaV.PrintMore Go.Proofs.YtjkanhjapddhnaaV.PrintLast Go.Proofs.Ytjkanhjapddhnaa.Sq Go.Proofs.Ytjkanhjapddhnaa.Own Go.Proofs.Ytjkanhjapddhnaa.MarkT Go.Proofs.Ytjkanhjapddhnaa.Tb Go.Proofs.Ytjkanhjapddhnaa.Gr Go.Proofs.Ytjkanhjapddhnaa.Find Go.Proofs.Ytjkanhjapddhnaa.Pos Go.Proofs.Ytjkanhjapddhnaa.Pu Go.Proofs.Ytjkanhjapddhnaa.Ctx Go.Proofs.Ytjkanhjapddhnaa.InsR Go.Proofs.Ytjkanhjapddhnaa.AppN Go.Proofs.Ytjkanhjapddhnaa.Inv Go.Proofs.Ytjkanhjapddhnaa.SGr Go.Proofs.Ytjkanhjapddhnaa.SOwn Go.Proofs.Ytjkanhjapddhnaa.SLib Go.Proofs.Ytjkanhjapddhnaa.Acq Go.Proofs.Ytjkanhjapddhnaa.PFnExactRunRequests
set_option linter.unusedVariables false
set_option linter.unusedSimpArgs false
set_option maxHeartbeats 20000000
set_option maxRecDepth 100000
theorem sacquire_calls (g : Nat) (w : World) (T : Tv) (r : RQ) (hT : TB w g T) (h0 : 0 ≤ T.tm ∧ T.tm ≤ 1000000000) (h1 : 0 ≤ T.nx ∧ T.nx ≤ 900000) (h4 : T.ls.length ≤ 4) (hs : sortB (T.ls.map EL.x)) (hw4 : ∀ e ∈ T.ls,goodL e.x) (hr0 : 0 ≤ r.f0) (hr3 : 0 ≤ r.f3 ∧ r.f3 ≤ 1000) :
  Calls Try.prog 109 #[.pointer (some ⟨g,0,none⟩),rqV r] w fun o w' => ∃ a T',o = .returned (anV a) ∧ T'.tm = T.tm ∧ T'.ss = T.ss ∧ (T'.ls.map EL.x,T'.nx,a) = acqX T.tm T.nx (T.ls.map EL.x) r ∧ St g w T w' T':=by
 have C0:=Aside0.mk (Ctx.start hT r)
 have HT:=Aside0.mk hT
 have H0:=Aside0.mk h0
 have H1:=Aside0.mk h1
 have H4:=Aside0.mk h4
 have HS:=Aside0.mk hs
 have HW4:=Aside0.mk hw4
 have HR0:=Aside0.mk hr0
 have HR3:=Aside0.mk hr3
 obtain ⟨la,lc,hlv⟩:=hT.v.rl.slice
 obtain ⟨sa,sc_,hsv⟩:=hT.v.rs.slice
 have HLV:=Aside0.mk hlv
 have HSV:=Aside0.mk hsv
 clear hT h0 h1 h4 hs hw4 hr3 hlv hsv
 unfold rqV
 go_enter Try.func109,Try.ntmps109
 go_upto_region 1 with fail
 change Code.wp _ _ _ _ ((w.alloc (rqO r)).alloc (anO ⟨0,0,0,0⟩))
 generalize (w.alloc (rqO r)).alloc (anO ⟨0,0,0,0⟩) = W0 at C0 ⊢
 have C0d:=Aside0.mk (C0.out.below (below_drew (Below.refl _ _)))
 obtain ⟨-,-,-,-,r4⟩:=C0d.out.rqs
 obtain ⟨y0,y1,y2,y3,-,-,-,-⟩:=C0d.out.st.tb.cells
 rw [HLV.out] at y2
 rw [HSV.out] at y3
 refine start_ (n:=7) (S:=fun w' => w'.cell? ⟨g,0,none⟩ = some (.int .i64 T.tm) ∧ w'.cell? ⟨g,1,none⟩ = some (.int .i64 T.nx) ∧ w'.cell? ⟨g,2,none⟩ = some (.slice la T.ls.length lc) ∧ w'.cell? ⟨g,3,none⟩ = some (.slice sa T.ss.length sc_) ∧ w'.cell? ⟨w.heap.size,4,none⟩ = some (.string r.f4)) (ds:=[]) #[false,false,false,false,false,false,false] (by kernel_rfl) rfl rfl ⟨y0,y1,y2,y3,r4⟩ (fun hHeld => ?_)
 clear y0 y1 y2 y3 r4
 generalize W0.drew = V0 at C0d hHeld ⊢
 refine pq 0 (some 8) ?_
 refine pq 1 (some 9) ?_
 refine pq 3 (some 11) ?_
 refine tq 2 (some 10) hHeld ?_
 refine tq 4 (some 12) hHeld ?_
 refine nq 5 (some 13) fun K hK => ?_
 have hq:=sfind_calls V0 T r.f4 C0d.out.st.tb.v (by have:=H4.out;omega) HS.out
 unfold tvV at hq
 rw [HLV.out,HSV.out] at hq
 refine goes_ Try.func110 (by kernel_rfl) rfl #[.agg #[.int .i64 T.tm,.int .i64 T.nx,.slice la T.ls.length lc,.slice sa T.ss.length sc_],.string r.f4] (by rfl) rfl rfl (by simp only [List.map_toArray,List.map_cons,List.map_nil];rfl) ?_
 with_reducible refine (hq).mono ?_
 rintro _ W1 ⟨rfl,hb⟩
 refine ⟨_,rfl,?_⟩
 have C1:=Aside0.mk (C0d.out.below hb)
 obtain ⟨-,-,-,-,r4⟩:=C1.out.rqs
 obtain ⟨y0,y1,y2,y3,-,-,-,-⟩:=C1.out.st.tb.cells
 rw [HLV.out] at y2
 rw [HSV.out] at y3
 clear hq hb hHeld
 refine hK.out _ _ ⟨y0,y1,y2,y3,r4⟩ (fun hHeld => ?_)
 clear hK K
 refine mq ?_
 refine pq 6 (some 5) ?_
 refine done_ (by kernel_rfl) ?_
 clear hHeld y0 y1 y2 y3 r4
 obtain ⟨p,hp⟩ : ∃ p,p = posB r.f4 (T.ls.map EL.x):=⟨_,rfl⟩
 have HP:=Aside0.mk hp
 clear hp
 by_cases hth : thereB r.f4 (T.ls.map EL.x) = true
 ·
  have hplt : p < T.ls.length:=by
   have:=there_lt hth
   rw [← HP.out] at this
   simpa using this
  obtain ⟨e,hls,hex,hpl⟩:=lock_split hplt
  have hacq : acqX T.tm T.nx (T.ls.map EL.x) r = putAt (T.ls.map EL.x) p (p + 1) (acq1 T.tm T.nx e.x r):=by
   rw [acqX,if_pos hth,← HP.out,hex]
  have HACQ:=Aside0.mk hacq
  have hfp : findP r.f4 (T.ls.map EL.x) = (p : Int):=by rw [findP,if_pos hth,HP.out]
  rw [hfp]
  clear hth hacq hex hfp
  obtain ⟨A,hA⟩ : ∃ A,A = T.ls.take p:=⟨_,rfl⟩
  obtain ⟨B,hB⟩ : ∃ B,B = T.ls.drop (p + 1):=⟨_,rfl⟩
  rw [← hA,← hB] at hls
  rw [← hA] at hpl
  have HLS:=Aside0.mk hls
  have HA:=Aside0.mk hA
  have HB:=Aside0.mk hB
  have HPL:=Aside0.mk hpl
  obtain ⟨b,o,c,hv,hat⟩:=C1.out.st.tb.v.at_ hls
  rw [hpl] at hat
  have HV:=Aside0.mk hv
  have HAT:=Aside0.mk hat
  obtain ⟨rfl,rfl⟩ : la = some ⟨b,o,none⟩ ∧ lc = c:=by
   have h:=HLV.out
   rw [hv] at h
   injection h with h1 _ h3
   exact ⟨h1.symm,h3.symm⟩
  have x2:=C1.out.st.tb.cells.2.2.1
  rw [hv] at x2
  have p0 : ((p : Int) < (T.ls.length : Int)) = True:=eq_true (by omega)
  have p1 : (0 ≤ (p : Int)) = True:=eq_true (by omega)
  have p2 : decide ((p : Int) < 0) = false:=decide_eq_false (by omega)
  clear hls hA hB hpl hat hv
  go_upto_region 11 with fail
  clear x2 hplt
  have hww:=C1.out.st.tb.v.rw e (by rw [HLS.out];simp)
  have HE4:=Aside0.mk (HW4.out e (by rw [HLS.out];simp))
  obtain ⟨⟨nm,tok,hol,exp,ws⟩,v_,ob_⟩:=e
  obtain ⟨wa,wcap,hv,hwl,hwk⟩:=hww.reads
  simp only at hv hwl hwk HE4 HACQ
  subst hv
  have C3:=Aside0.mk (C1.out.below (below_drew (Below.refl _ _)))
  obtain ⟨x0,x1,x2,x3,x4,-,-,-,-,-⟩:=HAT.out.cells C3.out.st.tb.v
  simp only at x0 x1 x2 x3 x4
  obtain ⟨r0,-,-,-,-⟩:=C3.out.rqs
  have HRL:=Aside0.mk hwl
  clear hww hwk
  by_cases hhol : hol = r.f0
  ·
   have q0 : (hol == r.f0) = true:=by simpa using hhol
   have HH:=Aside0.mk (show acq1 T.tm T.nx ⟨nm,tok,hol,exp,ws⟩ r = (⟨nm,tok,hol,exp,ws⟩,T.nx,tellA 8 ⟨nm,tok,hol,exp,ws⟩) from if_pos (.inl hhol))
   have HHO:=Aside0.mk hhol
   clear hhol
   refine start_ (n:=17) (S:=fun w' => w'.cell? ⟨b,o + p * 5,none⟩ = some (.string nm) ∧ w'.cell? ⟨b,o + p * 5 + 1,none⟩ = some (.int .i64 tok) ∧ w'.cell? ⟨b,o + p * 5 + 2,none⟩ = some (.int .i64 hol) ∧ w'.cell? ⟨b,o + p * 5 + 3,none⟩ = some (.int .i64 exp) ∧ w'.cell? ⟨b,o + p * 5 + 4,none⟩ = some (.slice wa ws.length wcap) ∧ w'.cell? ⟨w.heap.size,0,none⟩ = some (.int .i64 r.f0)) (ds:=[]) #[false,false,false,false,false,false,false,false,false,false,false,false,false,false,false,false,false] (by kernel_rfl) rfl rfl ⟨x0,x1,x2,x3,x4,r0⟩ (fun hHeld => ?_)
   clear x0 x1 x2 x3 x4 r0
   generalize W1.drew = V at C3 hHeld ⊢
   refine pq 0 (some 77) ?_
   refine pq 1 (some 78) ?_
   refine pq 2 (some 79) ?_
   refine pq 4 (some 81) ?_
   refine tq 3 (some 80) hHeld ?_
   refine tq 5 (some 82) hHeld ?_
   refine pq 6 (some 83) ?_
   refine pq 7 (some 84) ?_
   refine oq 8 (some 85) ?_
   refine oq 9 (some 86) ?_
   refine oq 10 (some 87) ?_
   refine oq 11 (some 88) ?_
   refine oq 12 (some 89) ?_
   refine oq 13 (some 90) ?_
   refine oq 14 (some 91) ?_
   refine pq 15 (some 92) ?_
   refine pq 16 (some 76) ?_
   refine done_ (by kernel_rfl) ?_
   clear hHeld
   obtain ⟨t0,t1,t2,t3,t4,-,-,-,-,-⟩:=HAT.out.cells C3.out.st.tb.v
   simp only at t0 t1 t2 t3 t4
   have hq:=stell_calls 8 ⟨⟨nm,tok,hol,exp,ws⟩,.slice wa ws.length wcap,ob_⟩ _ (C3.out.st.tb.v.rw ⟨⟨nm,tok,hol,exp,ws⟩,.slice wa ws.length wcap,ob_⟩ (by rw [HLS.out];exact List.mem_append_right _ List.mem_cons_self))
   unfold elV at hq
   have HQ:=Aside0.mk hq
   clear hq
   go_wp2_with fail
   with_reducible refine HQ.out.mono ?_
   rintro _ Wt ⟨rfl,hb⟩
   have Ct:=Aside0.mk (C3.out.below hb)
   clear hb t0 t1 t2 t3 t4 HQ
   unfold anV tellA
   obtain ⟨n0,n1,n2,n3,m0,m1,m2,m3⟩:=Ct.out.ans
   go_wp2_with fail
   obtain ⟨hd,hst⟩:=Ct.out.done ⟨8,(⟨⟨nm,tok,hol,exp,ws⟩,.slice wa ws.length wcap,ob_⟩ : EL).x.f1,(⟨⟨nm,tok,hol,exp,ws⟩,.slice wa ws.length wcap,ob_⟩ : EL).x.f2,(⟨⟨nm,tok,hol,exp,ws⟩,.slice wa ws.length wcap,ob_⟩ : EL).x.f3⟩
   refine bodyPost_ret (results_cell_row rfl _ _ (w.heap.size + 1) 75 _ (0,0) _ rfl hd Try.underlying75 rfl (by kernel_rfl)) rfl ?_
   exact ⟨_,T,rfl,rfl,rfl,by rw [HACQ.out,HH.out,← putAt_split (e':=⟨⟨nm,tok,hol,exp,ws⟩,.slice wa ws.length wcap,ob_⟩) HA.out HB.out,← HLS.out];rfl,hst⟩
  ·
   have q0 : (hol == r.f0) = false:=by simpa using hhol
   have HNH:=Aside0.mk hhol
   clear hhol
   obtain ⟨wf,hwf⟩ : ∃ wf,wf = waitsF r.f0 ws 0:=⟨_,rfl⟩
   have HWF:=Aside0.mk hwf
   clear hwf
   refine start_ (n:=17) (S:=fun w' => w'.cell? ⟨b,o + p * 5,none⟩ = some (.string nm) ∧ w'.cell? ⟨b,o + p * 5 + 1,none⟩ = some (.int .i64 tok) ∧ w'.cell? ⟨b,o + p * 5 + 2,none⟩ = some (.int .i64 hol) ∧ w'.cell? ⟨b,o + p * 5 + 3,none⟩ = some (.int .i64 exp) ∧ w'.cell? ⟨b,o + p * 5 + 4,none⟩ = some (.slice wa ws.length wcap) ∧ w'.cell? ⟨w.heap.size,0,none⟩ = some (.int .i64 r.f0)) (ds:=[]) #[false,false,false,false,false,false,false,false,false,false,false,false,false,false,false,false,false] (by kernel_rfl) rfl rfl ⟨x0,x1,x2,x3,x4,r0⟩ (fun hHeld => ?_)
   clear x0 x1 x2 x3 x4 r0
   generalize W1.drew = V at C3 hHeld ⊢
   refine pq 0 (some 77) ?_
   refine pq 1 (some 78) ?_
   refine pq 2 (some 79) ?_
   refine pq 4 (some 81) ?_
   refine tq 3 (some 80) hHeld ?_
   refine tq 5 (some 82) hHeld ?_
   refine pq 6 (some 83) ?_
   refine pq 7 (some 84) ?_
   refine pq 8 (some 85) ?_
   refine pq 9 (some 86) ?_
   refine pq 11 (some 88) ?_
   refine tq 10 (some 87) hHeld ?_
   refine tq 12 (some 89) hHeld ?_
   refine nq 13 (some 90) fun K hK => ?_
   have hq:=swaits_calls ⟨⟨nm,tok,hol,exp,ws⟩,.slice wa ws.length wcap,ob_⟩ r.f0 V (C3.out.st.tb.v.rw ⟨⟨nm,tok,hol,exp,ws⟩,.slice wa ws.length wcap,ob_⟩ (by rw [HLS.out];exact List.mem_append_right _ List.mem_cons_self)) (by have:=HE4.out.1;show ws.length ≤ 1000;simp only at this;omega)
   unfold elV at hq
   simp only at hq
   rw [← HWF.out] at hq
   refine goes_ Try.func112 (by kernel_rfl) rfl #[.agg #[.string nm,.int .i64 tok,.int .i64 hol,.int .i64 exp,.slice wa ws.length wcap],.int .i64 r.f0] (by rfl) rfl rfl (by simp only [List.map_toArray,List.map_cons,List.map_nil];rfl) ?_
   with_reducible refine (hq).mono ?_
   rintro _ W4 ⟨rfl,hb⟩
   refine ⟨_,rfl,?_⟩
   have C4:=Aside0.mk (C3.out.below hb)
   obtain ⟨x0,x1,x2,x3,x4,-,-,-,-,-⟩:=HAT.out.cells C4.out.st.tb.v
   simp only at x0 x1 x2 x3 x4
   obtain ⟨r0,-,-,-,-⟩:=C4.out.rqs
   clear hq hb hHeld
   refine hK.out _ _ ⟨x0,x1,x2,x3,x4,r0⟩ (fun hHeld => ?_)
   clear hK K
   refine mq ?_
   refine pq 14 (some 91) ?_
   refine pq 15 (some 92) ?_
   refine pq 16 (some 76) ?_
   refine done_ (by kernel_rfl) ?_
   clear hHeld r0 x0 x1 x2 x3 x4
   by_cases hwp : 0 ≤ wf
   ·
    have q1 : decide (0 ≤ wf) = true:=decide_eq_true hwp
    have HH:=Aside0.mk (show acq1 T.tm T.nx ⟨nm,tok,hol,exp,ws⟩ r = (⟨nm,tok,hol,exp,ws⟩,T.nx,tellA 8 ⟨nm,tok,hol,exp,ws⟩) from if_pos (.inr (by show 0 ≤ waitsF r.f0 ws 0;rw [← HWF.out];exact hwp)))
    rw [q1]
    clear hwp
    obtain ⟨t0,t1,t2,t3,t4,-,-,-,-,-⟩:=HAT.out.cells C4.out.st.tb.v
    simp only at t0 t1 t2 t3 t4
    have hq:=stell_calls 8 ⟨⟨nm,tok,hol,exp,ws⟩,.slice wa ws.length wcap,ob_⟩ _ (C4.out.st.tb.v.rw ⟨⟨nm,tok,hol,exp,ws⟩,.slice wa ws.length wcap,ob_⟩ (by rw [HLS.out];exact List.mem_append_right _ List.mem_cons_self))
    unfold elV at hq
    have HQ:=Aside0.mk hq
    clear hq
    go_wp2_with fail
    with_reducible refine HQ.out.mono ?_
    rintro _ Wt ⟨rfl,hb⟩
    have Ct:=Aside0.mk (C4.out.below hb)
    clear hb t0 t1 t2 t3 t4 HQ
    unfold anV tellA
    obtain ⟨n0,n1,n2,n3,m0,m1,m2,m3⟩:=Ct.out.ans
    go_wp2_with fail
    obtain ⟨hd,hst⟩:=Ct.out.done ⟨8,(⟨⟨nm,tok,hol,exp,ws⟩,.slice wa ws.length wcap,ob_⟩ : EL).x.f1,(⟨⟨nm,tok,hol,exp,ws⟩,.slice wa ws.length wcap,ob_⟩ : EL).x.f2,(⟨⟨nm,tok,hol,exp,ws⟩,.slice wa ws.length wcap,ob_⟩ : EL).x.f3⟩
    refine bodyPost_ret (results_cell_row rfl _ _ (w.heap.size + 1) 75 _ (0,0) _ rfl hd Try.underlying75 rfl (by kernel_rfl)) rfl ?_
    exact ⟨_,T,rfl,rfl,rfl,by rw [HACQ.out,HH.out,← putAt_split (e':=⟨⟨nm,tok,hol,exp,ws⟩,.slice wa ws.length wcap,ob_⟩) HA.out HB.out,← HLS.out];rfl,hst⟩
   ·
    have q1 : decide (0 ≤ wf) = false:=decide_eq_false hwp
    have HH0:=Aside0.mk (show acq1 T.tm T.nx ⟨nm,tok,hol,exp,ws⟩ r = _ from if_neg (by rintro (h|h);exact HNH.out h;exact hwp (HWF.out ▸ h)))
    rw [q1]
    clear hwp
    obtain ⟨-,-,x2,-,x4,-,-,-,-,-⟩:=HAT.out.cells C4.out.st.tb.v
    simp only at x2 x4
    by_cases hm : hol = -1
    ·
     have q2 : decide (hol < 0) = true:=decide_eq_true (by omega)
     have HH:=Aside0.mk (HH0.out.trans (if_pos hm))
     obtain ⟨r0,-,-,r3,-⟩:=C4.out.rqs
     clear hm
     go_wp2_with fail
     have hq:=sgrant_calls g W4 T A ⟨⟨nm,tok,hol,exp,ws⟩,.slice wa ws.length wcap,ob_⟩ B b o lc p r.f0 r.f3 C4.out.st.tb HLV.out HPL.out HAT.out (by have:=H0.out;omega) H1.out (by have:=HR3.out;omega)
     with_reducible refine hq.mono ?_
     clear hq
     rintro _ W5 ⟨rfl,hs5⟩
     obtain ⟨T5,hT5⟩ : ∃ T5 : Tv,T5 = { T with nx:=T.nx + 1,ls:=A ++ ⟨⟨nm,T.nx,r.f0,T.tm + r.f3,ws⟩,.slice wa ws.length wcap,ob_⟩ :: B }:=⟨_,rfl⟩
     have C5 : Aside0 (Ctx g w T r W5 T5):=⟨by rw [hT5];exact C4.out.step hs5⟩
     have HAT5 : Aside0 (At T5 A ⟨⟨nm,T.nx,r.f0,T.tm + r.f3,ws⟩,.slice wa ws.length wcap,ob_⟩ B b (o + p * 5)):=⟨by rw [hT5];exact (HAT.out.put ⟨⟨nm,T.nx,r.f0,T.tm + r.f3,ws⟩,.slice wa ws.length wcap,ob_⟩).next (T.nx + 1)⟩
     have HLS5:=Aside0.mk (show T5.ls = A ++ ⟨⟨nm,T.nx,r.f0,T.tm + r.f3,ws⟩,.slice wa ws.length wcap,ob_⟩ :: B by rw [hT5])
     have y2:=C5.out.st.tb.cells.2.2.1
     have HQ5:=Aside0.mk hT5
     rw [show T5.vl = .slice (some ⟨b,o,none⟩) T.ls.length lc by rw [hT5];exact HLV.out] at y2
     clear hs5 r0 r3 x2 x4 hT5
     obtain ⟨t0,t1,t2,t3,t4,-,-,-,-,-⟩:=HAT5.out.cells C5.out.st.tb.v
     simp only at t0 t1 t2 t3 t4
     have hq:=stell_calls 1 ⟨⟨nm,T.nx,r.f0,T.tm + r.f3,ws⟩,.slice wa ws.length wcap,ob_⟩ _ (C5.out.st.tb.v.rw ⟨⟨nm,T.nx,r.f0,T.tm + r.f3,ws⟩,.slice wa ws.length wcap,ob_⟩ (by rw [HLS5.out];exact List.mem_append_right _ List.mem_cons_self))
     unfold elV at hq
     have HQ:=Aside0.mk hq
     clear hq
     go_wp2_with fail
     with_reducible refine HQ.out.mono ?_
     rintro _ Wt ⟨rfl,hb⟩
     have Ct:=Aside0.mk (C5.out.below hb)
     clear hb t0 t1 t2 t3 t4 HQ
     unfold anV tellA
     obtain ⟨n0,n1,n2,n3,m0,m1,m2,m3⟩:=Ct.out.ans
     go_wp2_with fail
     obtain ⟨hd,hst⟩:=Ct.out.done ⟨1,(⟨⟨nm,T.nx,r.f0,T.tm + r.f3,ws⟩,.slice wa ws.length wcap,ob_⟩ : EL).x.f1,(⟨⟨nm,T.nx,r.f0,T.tm + r.f3,ws⟩,.slice wa ws.length wcap,ob_⟩ : EL).x.f2,(⟨⟨nm,T.nx,r.f0,T.tm + r.f3,ws⟩,.slice wa ws.length wcap,ob_⟩ : EL).x.f3⟩
     refine bodyPost_ret (results_cell_row rfl _ _ (w.heap.size + 1) 75 _ (0,0) _ rfl hd Try.underlying75 rfl (by kernel_rfl)) rfl ?_
     exact ⟨_,T5,rfl,by rw [HQ5.out],by rw [HQ5.out],by rw [HACQ.out,HH.out,HQ5.out];exact putAt_split (e':=⟨⟨nm,T.nx,r.f0,T.tm + r.f3,ws⟩,.slice wa ws.length wcap,ob_⟩) HA.out HB.out,hst⟩
    ·
     have q2 : decide (hol < 0) = false:=decide_eq_false (by have:=HE4.out.2.1;simp only at this;omega)
     have HH1:=Aside0.mk (HH0.out.trans (if_neg hm))
     clear hm
     by_cases hl4 : ws.length = 4
     ·
      have q3 : ((ws.length : Int) == 4) = true:=by rw [hl4];rfl
      have HH:=Aside0.mk (HH1.out.trans (if_pos hl4))
      clear hl4
      obtain ⟨t0,t1,t2,t3,t4,-,-,-,-,-⟩:=HAT.out.cells C4.out.st.tb.v
      simp only at t0 t1 t2 t3 t4
      have hq:=stell_calls 6 ⟨⟨nm,tok,hol,exp,ws⟩,.slice wa ws.length wcap,ob_⟩ _ (C4.out.st.tb.v.rw ⟨⟨nm,tok,hol,exp,ws⟩,.slice wa ws.length wcap,ob_⟩ (by rw [HLS.out];exact List.mem_append_right _ List.mem_cons_self))
      unfold elV at hq
      have HQ:=Aside0.mk hq
      clear hq
      go_wp2_with fail
      with_reducible refine HQ.out.mono ?_
      rintro _ Wt ⟨rfl,hb⟩
      have Ct:=Aside0.mk (C4.out.below hb)
      clear hb t0 t1 t2 t3 t4 HQ
      unfold anV tellA
      obtain ⟨n0,n1,n2,n3,m0,m1,m2,m3⟩:=Ct.out.ans
      go_wp2_with fail
      obtain ⟨hd,hst⟩:=Ct.out.done ⟨6,(⟨⟨nm,tok,hol,exp,ws⟩,.slice wa ws.length wcap,ob_⟩ : EL).x.f1,(⟨⟨nm,tok,hol,exp,ws⟩,.slice wa ws.length wcap,ob_⟩ : EL).x.f2,(⟨⟨nm,tok,hol,exp,ws⟩,.slice wa ws.length wcap,ob_⟩ : EL).x.f3⟩
      refine bodyPost_ret (results_cell_row rfl _ _ (w.heap.size + 1) 75 _ (0,0) _ rfl hd Try.underlying75 rfl (by kernel_rfl)) rfl ?_
      exact ⟨_,T,rfl,rfl,rfl,by rw [HACQ.out,HH.out,← putAt_split (e':=⟨⟨nm,tok,hol,exp,ws⟩,.slice wa ws.length wcap,ob_⟩) HA.out HB.out,← HLS.out];rfl,hst⟩
     ·
      have q3 : ((ws.length : Int) == 4) = false:=by simp;omega
      have HH:=Aside0.mk (HH1.out.trans (if_neg hl4))
      clear hl4
      go_upto_region 18 with fail
      have C5:=Aside0.mk (C4.out.below (below_drew (Below.refl _ _)))
      obtain ⟨-,-,-,-,x4,-,-,-,-,-⟩:=HAT.out.cells C5.out.st.tb.v
      obtain ⟨r0,-,-,r3,-⟩:=C5.out.rqs
      simp only at x4
      refine start_ (n:=15) (S:=fun w' => w'.cell? ⟨b,o + p * 5 + 4,none⟩ = some (.slice wa ws.length wcap) ∧ w'.cell? ⟨w.heap.size,0,none⟩ = some (.int .i64 r.f0) ∧ w'.cell? ⟨w.heap.size,3,none⟩ = some (.int .i64 r.f3)) (ds:=[11,14]) #[false,false,false,false,false,false,false,false,false,false,false,false,false,false,false] (by kernel_rfl) rfl rfl ⟨x4,r0,r3⟩ (fun hHeld => ?_)
      clear x4 r0 r3
      generalize W4.drew = V5 at C5 hHeld ⊢
      refine pq 0 (some 129) ?_
      refine pq 1 (some 130) ?_
      refine pq 2 (some 131) ?_
      refine pq 3 (some 132) ?_
      refine pq 5 (some 134) ?_
      refine pq 7 (some 136) ?_
      refine tq 4 (some 133) hHeld ?_
      refine tq 6 (some 135) hHeld ?_
      refine tq 8 (some 137) hHeld ?_
      refine pq 9 (some 138) ?_
      refine nq 10 (some 139) fun K hK => ?_
      refine vq ?_
      have C6:=Aside0.mk (C5.out.below (below_alloc (Below.refl _ _) (.cells #[.int .i64 r.f0,.int .i64 r.f3] 73 (0,0))))
      have HG6:=Aside0.mk (heap_alloc_new V5 (.cells #[.int .i64 r.f0,.int .i64 r.f3] 73 (0,0)))
      generalize V5.alloc _ = V6 at C6 HG6 ⊢
      obtain ⟨-,-,-,-,x4,-,-,-,-,g4⟩:=HAT.out.cells C6.out.st.tb.v
      obtain ⟨r0,-,-,r3,-⟩:=C6.out.rqs
      simp only at x4
      clear hHeld
      refine hK.out _ _ ⟨x4,r0,r3⟩ (fun hHeld => ?_)
      clear hK K
      refine mq ?_
      refine lq 11 (some 140) fun K hK => ?_
      have hww:=C6.out.st.tb.v.rw _ (by rw [HLS.out];exact List.mem_append_right _ List.mem_cons_self)
      obtain ⟨v7,V7,ob7,hrun,hrow,hob,hfr⟩:=appW_run V6 (.slice wa ws.length wcap) ws.length (ws.flatMap wc) (wc ⟨r.f0,r.f3⟩) ob_ V5.heap.size hww (by have:=HE4.out.1;simp only at this;omega) rfl HG6.out (by intro u hu;simp [wc] at hu;rcases hu with rfl|rfl <;> rfl)
      obtain ⟨va,vc,rfl⟩:=hrow.slice
      have hneb:=At.ne C6.out.st.tb.v HAT.out
      have x7:=Fr.cell hfr x4 hneb
      have g7:=Fr.frozen hfr g4 (World.block_lt_of_cell? _ _ x4) hneb
      have HRW:=Aside0.mk hrow
      have HOB:=Aside0.mk hob
      have HFR:=Aside0.mk hfr
      clear hrow hob hfr hww r0 r3 x4 g4
      refine value_ (w1:=V7) (v:=.slice va (ws.length + 1) vc) (by rfl) rfl ?_ ?_
      ·
       exact run_append_op (.tmp 133) (.tmp 139) 68 68 rfl _ _ rfl rfl hrun
      clear hrun
      refine hK.out _ _ ?_
      clear hK K
      refine mq ?_
      refine pq 12 (some 141) ?_
      refine pq 13 (some 142) ?_
      refine lq 14 none fun K hK => ?_
      refine sq ?_
      refine hK.out _ _ ?_
      clear hK K
      refine done_ (by kernel_rfl) ?_
      have hrw : Row V7 73 2 (.slice va (ws.length + 1) vc) (ws ++ [(⟨r.f0,r.f3⟩ : IW)]).length ((ws ++ [(⟨r.f0,r.f3⟩ : IW)]).flatMap wc) ob7:=by
       rw [List.length_append,List.flatMap_append]
       exact HRW.out
      have hS8:=(St.refl C6.out.st.tb).wts HAT.out (ws ++ [⟨r.f0,r.f3⟩]) _ ob7 HFR.out hrw HOB.out
      obtain ⟨T8,hT8⟩ : ∃ T8 : Tv,T8 = { T with ls:=A ++ ⟨⟨nm,tok,hol,exp,ws ++ [⟨r.f0,r.f3⟩]⟩,.slice va (ws.length + 1) vc,ob7⟩ :: B }:=⟨_,rfl⟩
      have C8 : Aside0 (Ctx g w T r (V7.setCell ⟨b,o + p * 5 + 4,none⟩ (.slice va (ws.length + 1) vc)) T8):=⟨by rw [hT8];exact C6.out.step hS8⟩
      have HAT8 : Aside0 (At T8 A ⟨⟨nm,tok,hol,exp,ws ++ [⟨r.f0,r.f3⟩]⟩,.slice va (ws.length + 1) vc,ob7⟩ B b (o + p * 5)):=⟨by rw [hT8];exact HAT.out.put ⟨⟨nm,tok,hol,exp,ws ++ [⟨r.f0,r.f3⟩]⟩,.slice va (ws.length + 1) vc,ob7⟩⟩
      have HLS8:=Aside0.mk (show T8.ls = A ++ ⟨⟨nm,tok,hol,exp,ws ++ [⟨r.f0,r.f3⟩]⟩,.slice va (ws.length + 1) vc,ob7⟩ :: B by rw [hT8])
      have HQ8:=Aside0.mk hT8
      clear hS8 hrw x7 g7 hneb hT8
      generalize V7.setCell ⟨b,o + p * 5 + 4,none⟩ (.slice va (ws.length + 1) vc) = V8 at C8 ⊢
      have hll : (ws ++ [(⟨r.f0,r.f3⟩ : IW)]).length = ws.length + 1:=by simp
      obtain ⟨t0,t1,t2,t3,t4,-,-,-,-,-⟩:=HAT8.out.cells C8.out.st.tb.v
      simp only at t0 t1 t2 t3 t4
      have hq:=stell_calls 2 ⟨⟨nm,tok,hol,exp,ws ++ [⟨r.f0,r.f3⟩]⟩,.slice va (ws.length + 1) vc,ob7⟩ _ (C8.out.st.tb.v.rw ⟨⟨nm,tok,hol,exp,ws ++ [⟨r.f0,r.f3⟩]⟩,.slice va (ws.length + 1) vc,ob7⟩ (by rw [HLS8.out];exact List.mem_append_right _ List.mem_cons_self))
      unfold elV at hq
      have HQ:=Aside0.mk hq
      clear hq
      go_wp2_with fail
      with_reducible refine HQ.out.mono ?_
      rintro _ Wt ⟨rfl,hb⟩
      have Ct:=Aside0.mk (C8.out.below hb)
      clear hb t0 t1 t2 t3 t4 HQ
      unfold anV tellA
      obtain ⟨n0,n1,n2,n3,m0,m1,m2,m3⟩:=Ct.out.ans
      go_wp2_with fail
      obtain ⟨hd,hst⟩:=Ct.out.done ⟨2,(⟨⟨nm,tok,hol,exp,ws ++ [⟨r.f0,r.f3⟩]⟩,.slice va (ws.length + 1) vc,ob7⟩ : EL).x.f1,(⟨⟨nm,tok,hol,exp,ws ++ [⟨r.f0,r.f3⟩]⟩,.slice va (ws.length + 1) vc,ob7⟩ : EL).x.f2,(⟨⟨nm,tok,hol,exp,ws ++ [⟨r.f0,r.f3⟩]⟩,.slice va (ws.length + 1) vc,ob7⟩ : EL).x.f3⟩
      refine bodyPost_ret (results_cell_row rfl _ _ (w.heap.size + 1) 75 _ (0,0) _ rfl hd Try.underlying75 rfl (by kernel_rfl)) rfl ?_
      exact ⟨_,T8,rfl,by rw [HQ8.out],by rw [HQ8.out],by rw [HACQ.out,HH.out,HQ8.out];exact putAt_split (e':=⟨⟨nm,tok,hol,exp,ws ++ [⟨r.f0,r.f3⟩]⟩,.slice va (ws.length + 1) vc,ob7⟩) HA.out HB.out,hst⟩
 ·
  have hfp : findP r.f4 (T.ls.map EL.x) = -1:=by rw [findP,if_neg hth]
  rw [hfp]
  have p2 : decide ((-1 : Int) < 0) = true:=rfl
  have y2:=C1.out.st.tb.cells.2.2.1
  rw [HLV.out] at y2
  by_cases hl4 : T.ls.length = 4
  ·
   have HACQ:=Aside0.mk (show acqX T.tm T.nx (T.ls.map EL.x) r = (T.ls.map EL.x,T.nx,bareA 6) by rw [acqX,if_neg hth,if_pos (by simpa using hl4)])
   have q1 : ((T.ls.length : Int) == 4) = true:=by rw [hl4];rfl
   clear hth hl4 hfp
   obtain ⟨n0,n1,n2,n3,m0,m1,m2,m3⟩:=C1.out.ans
   go_wp2_with fail
   obtain ⟨hd,hst⟩:=C1.out.done ⟨6,0,-1,0⟩
   refine bodyPost_ret (results_cell_row rfl _ _ (w.heap.size + 1) 75 _ (0,0) _ rfl hd Try.underlying75 rfl (by kernel_rfl)) rfl ?_
   exact ⟨_,T,rfl,rfl,rfl,by rw [HACQ.out];rfl,hst⟩
  ·
   have HACQ:=Aside0.mk (show acqX T.tm T.nx (T.ls.map EL.x) r = putAt (T.ls.map EL.x) p p (acq1 T.tm T.nx (newL r.f4) r) by rw [acqX,if_neg hth,if_neg (by simpa using hl4),HP.out])
   have q1 : ((T.ls.length : Int) == 4) = false:=by simp;omega
   have HL3:=Aside0.mk (show T.ls.length ≤ 3 by have:=H4.out;omega)
   have HPL:=Aside0.mk (show p ≤ T.ls.length by
    have:=takeWhile_le (fun x : IL => lessB x.f0 r.f4) (T.ls.map EL.x)
    rw [List.length_map] at this
    rw [HP.out]
    exact this)
   have HLESS:=Aside0.mk (show ∀ i (hi : i < T.ls.length),Op.bytesLess (T.ls[i]).x.f0.toList r.f4.toList = decide (i < p) from fun i hi => by
    have h:=posB_cmp HS.out r.f4 i (by simpa using hi)
    rw [cmpB_lt,rdL_at _ i (by simpa using hi),← HP.out,List.getElem_map] at h
    rw [Bool.eq_iff_iff,decide_eq_true_eq]
    exact h)
   clear hth hl4 hfp
   go_wp2_with fail
   clear p2 q1 y2
   go_loopg [5] p (fun gh v5 wx => ∃ i : Nat,v5 = .int .i64 i ∧ i ≤ p ∧ Aside0 (i + gh = p) ∧ Aside0 (Ctx g w T r wx T))
   case atStart => exact ⟨0,rfl,Nat.zero_le _,⟨by omega⟩,C1⟩
   case round =>
    obtain ⟨wi,rfl⟩ : ∃ wi : World,wi = wr:=⟨_,rfl⟩
    obtain ⟨i,rfl,hi,HM,CI⟩:=hrel
    have hL3:=HL3.out
    have hPL:=HPL.out
    go_upto_region 6 with fail
    have C2:=Aside0.mk (CI.out.below (below_drew (Below.refl _ _)))
    have y2:=C2.out.st.tb.cells.2.2.1
    rw [HLV.out] at y2
    obtain ⟨-,-,-,-,r4⟩:=C2.out.rqs
    by_cases hil : i < T.ls.length
    ·
     obtain ⟨e,hls,hex,hpl⟩:=lock_split hil
     obtain ⟨b,o,c,hv,hat⟩:=C2.out.st.tb.v.at_ hls
     rw [hpl] at hat
     obtain ⟨rfl,rfl⟩ : la = some ⟨b,o,none⟩ ∧ lc = c:=by
      have h:=HLV.out
      rw [hv] at h
      injection h with h1 _ h3
      exact ⟨h1.symm,h3.symm⟩
     have x0:=(hat.cells C2.out.st.tb.v).1
     have hee : e = T.ls[i]:=by
      have h : T.ls[i]? = (T.ls.take i ++ e :: T.ls.drop (i + 1))[i]?:=by rw [← hls]
      rw [List.getElem?_append_right (by rw [List.length_take];omega),List.length_take,Nat.min_eq_left (by omega),Nat.sub_self,List.getElem?_cons_zero,List.getElem?_eq_getElem hil] at h
      injection h with h
      exact h.symm
     have hles:=HLESS.out i hil
     rw [← hee] at hles
     obtain ⟨en,hen⟩ : ∃ en,en = e.x.f0:=⟨_,rfl⟩
     rw [← hen] at x0 hles
     have p0 : ((i : Int) < (T.ls.length : Int)) = True:=eq_true (by omega)
     have p1 : (0 ≤ (i : Int)) = True:=eq_true (by omega)
     have p2 : decide ((i : Int) < (T.ls.length : Int)) = true:=decide_eq_true (by omega)
     have HV:=Aside0.mk hv
     clear hls hex hpl hat hv hee hen
     by_cases hlt : i < p
     ·
      have q3 : Op.bytesLess en.toList r.f4.toList = true:=by rw [hles];exact decide_eq_true hlt
      clear hles
      refine start_ (n:=20) (S:=fun w' => w'.cell? ⟨g,2,none⟩ = some (.slice (some ⟨b,o,none⟩) T.ls.length lc) ∧ w'.cell? ⟨b,o + i * 5,none⟩ = some (.string en) ∧ w'.cell? ⟨w.heap.size,4,none⟩ = some (.string r.f4)) (ds:=[]) #[false,false,false,false,false,false,false,false,false,false,false,false,false,false,false,false,false,false,false,false] (by kernel_rfl) rfl rfl ⟨y2,x0,r4⟩ (fun hHeld => ?_)
      clear y2 x0 r4
      generalize wi.drew = V2 at C2 hHeld ⊢
      refine pq 0 (some 23) ?_
      refine pq 1 (some 24) ?_
      refine pq 2 (some 25) ?_
      refine pq 3 (some 26) ?_
      refine tq 4 (some 27) hHeld ?_
      refine pq 5 (some 28) ?_
      refine pq 6 (some 29) ?_
      refine pq 7 (some 30) ?_
      refine pq 8 (some 31) ?_
      refine pq 9 (some 32) ?_
      refine pq 10 (some 33) ?_
      refine pq 12 (some 35) ?_
      refine pq 16 (some 39) ?_
      refine tq 11 (some 34) hHeld ?_
      refine pq 13 (some 36) ?_
      refine pq 14 (some 37) ?_
      refine tq 15 (some 38) hHeld ?_
      refine tq 17 (some 40) hHeld ?_
      refine pq 18 (some 41) ?_
      refine pq 19 (some 42) ?_
      refine done_ (by kernel_rfl) ?_
      clear hHeld
      go_wp2_with fail
      go_roundg (gk - 1)
      case measure => have:=HM.out;omega
      case rel => exact ⟨i + 1,by go_num,by omega,⟨by have:=HM.out;omega⟩,C2⟩
     ·
      have q3 : Op.bytesLess en.toList r.f4.toList = false:=by rw [hles];exact decide_eq_false hlt
      clear hles
      obtain rfl : i = p:=by omega
      refine start_ (n:=20) (S:=fun w' => w'.cell? ⟨g,2,none⟩ = some (.slice (some ⟨b,o,none⟩) T.ls.length lc) ∧ w'.cell? ⟨b,o + i * 5,none⟩ = some (.string en) ∧ w'.cell? ⟨w.heap.size,4,none⟩ = some (.string r.f4)) (ds:=[]) #[false,false,false,false,false,false,false,false,false,false,false,false,false,false,false,false,false,false,false,false] (by kernel_rfl) rfl rfl ⟨y2,x0,r4⟩ (fun hHeld => ?_)
      clear y2 x0 r4
      generalize wi.drew = V2 at C2 hHeld ⊢
      refine pq 0 (some 23) ?_
      refine pq 1 (some 24) ?_
      refine pq 2 (some 25) ?_
      refine pq 3 (some 26) ?_
      refine tq 4 (some 27) hHeld ?_
      refine pq 5 (some 28) ?_
      refine pq 6 (some 29) ?_
      refine pq 7 (some 30) ?_
      refine pq 8 (some 31) ?_
      refine pq 9 (some 32) ?_
      refine pq 10 (some 33) ?_
      refine pq 12 (some 35) ?_
      refine pq 16 (some 39) ?_
      refine tq 11 (some 34) hHeld ?_
      refine pq 13 (some 36) ?_
      refine pq 14 (some 37) ?_
      refine tq 15 (some 38) hHeld ?_
      refine tq 17 (some 40) hHeld ?_
      refine pq 18 (some 41) ?_
      refine pq 19 (some 42) ?_
      refine done_ (by kernel_rfl) ?_
      clear hHeld
      clear q3
      obtain ⟨-,-,-,-,r4⟩:=C2.out.rqs
      go_upto_region 9 with fail
      clear r4
      change Code.wp _ _ _ _ ((V2.alloc (.cells #[] 73 (0,0))).alloc (.cells #[.string r.f4,.int .i64 0,.int .i64 (-1),.int .i64 0,.slice (some ⟨V2.heap.size,0,none⟩) 0 0] 70 (0,0)))
      have hb3:=below_alloc (below_alloc (Below.refl V2.heap.size V2) (.cells #[] 73 (0,0))) (.cells #[.string r.f4,.int .i64 0,.int .i64 (-1),.int .i64 0,.slice (some ⟨V2.heap.size,0,none⟩) 0 0] 70 (0,0))
      have hg3:=heap_alloc_new (V2.alloc (.cells #[] 73 (0,0))) (.cells #[.string r.f4,.int .i64 0,.int .i64 (-1),.int .i64 0,.slice (some ⟨V2.heap.size,0,none⟩) 0 0] 70 (0,0))
      have hsz3 : (V2.alloc (.cells #[] 73 (0,0))).heap.size = V2.heap.size + 1:=by show (V2.heap.push _).size = _;simp
      rw [hsz3] at hg3
      have C3:=Aside0.mk (C2.out.below hb3)
      (try rw [hsz3])
      obtain ⟨n1,hn1⟩ : ∃ n1,n1 = V2.heap.size:=⟨_,rfl⟩
      rw [← hn1] at hg3 C3 ⊢
      generalize (V2.alloc (.cells #[] 73 (0,0))).alloc (.cells #[.string r.f4,.int .i64 0,.int .i64 (-1),.int .i64 0,.slice (some ⟨n1,0,none⟩) 0 0] 70 (0,0)) = W3 at C3 hg3 ⊢
      have HG3:=Aside0.mk hg3
      have HN1:=Aside0.mk hn1
      clear hb3 hg3 hsz3 hn1
      have C4:=Aside0.mk (C3.out.below (below_drew (Below.refl _ _)))
      have hg4 : W3.drew.heap[n1 + 1]? = some (.cells #[.string r.f4,.int .i64 0,.int .i64 (-1),.int .i64 0,.slice (some ⟨n1,0,none⟩) 0 0] 70 (0,0)):=HG3.out
      have HG4:=Aside0.mk hg4
      have y2:=C4.out.st.tb.cells.2.2.1
      rw [HLV.out] at y2
      have k0:=(blk_cell hg4 0).trans (rfl : _ = some (Value.string r.f4))
      have k1:=(blk_cell hg4 1).trans (rfl : _ = some (Value.int .i64 0))
      have k2:=(blk_cell hg4 2).trans (rfl : _ = some (Value.int .i64 (-1)))
      have k3:=(blk_cell hg4 3).trans (rfl : _ = some (Value.int .i64 0))
      have k4:=(blk_cell hg4 4).trans (rfl : _ = some (Value.slice (some ⟨n1,0,none⟩) 0 0))
      clear hg4
      have hlc : T.ls.length ≤ lc:=by
       obtain ⟨_,_,hv,h,_⟩:=C4.out.st.tb.v.rl
       rw [HLV.out] at hv
       injection hv with _ _ h3
       rw [h3];exact h
      have hic : i ≤ lc:=by have:=HPL.out;omega
      refine start_ (n:=22) (S:=fun w' => w'.cell? ⟨g,2,none⟩ = some (.slice (some ⟨b,o,none⟩) T.ls.length lc) ∧ w'.cell? ⟨n1 + 1,0,none⟩ = some (.string r.f4) ∧ w'.cell? ⟨n1 + 1,1,none⟩ = some (.int .i64 0) ∧ w'.cell? ⟨n1 + 1,2,none⟩ = some (.int .i64 (-1)) ∧ w'.cell? ⟨n1 + 1,3,none⟩ = some (.int .i64 0) ∧ w'.cell? ⟨n1 + 1,4,none⟩ = some (.slice (some ⟨n1,0,none⟩) 0 0)) (ds:=[21]) #[false,false,false,false,false,false,false,false,false,false,false,false,false,false,false,false,false,false,false,false,false,false] (by kernel_rfl) rfl rfl ⟨y2,k0,k1,k2,k3,k4⟩ (fun hHeld => ?_)
      clear y2 k0 k1 k2 k3 k4
      generalize W3.drew = V4 at C4 HG4 hHeld ⊢
      have HSF : Aside0 (∀ W_ : World,Below V4.heap.size V4 W_ → (W_.cell? ⟨g,2,none⟩ = some (.slice (some ⟨b,o,none⟩) T.ls.length lc) ∧ W_.cell? ⟨n1 + 1,0,none⟩ = some (.string r.f4) ∧ W_.cell? ⟨n1 + 1,1,none⟩ = some (.int .i64 0) ∧ W_.cell? ⟨n1 + 1,2,none⟩ = some (.int .i64 (-1)) ∧ W_.cell? ⟨n1 + 1,3,none⟩ = some (.int .i64 0) ∧ W_.cell? ⟨n1 + 1,4,none⟩ = some (.slice (some ⟨n1,0,none⟩) 0 0))):=⟨fun W_ hb_ => by have y2_:=(C4.out.below hb_).st.tb.cells.2.2.1;rw [HLV.out] at y2_;have g_:=(hb_.block _ (blk_lt HG4.out)).trans HG4.out;exact ⟨y2_,(blk_cell g_ 0).trans rfl,(blk_cell g_ 1).trans rfl,(blk_cell g_ 2).trans rfl,(blk_cell g_ 3).trans rfl,(blk_cell g_ 4).trans rfl⟩⟩
      have NONE1:=Aside0.mk (show ∀ u_ ∈ ([.string r.f4,.int .i64 0,.int .i64 (-1),.int .i64 0,.slice (some ⟨n1,0,none⟩) 0 0] : List Value),u_.oneCell' = true from fun u_ hu_ => by simp only [List.mem_cons,List.not_mem_nil,or_false] at hu_;rcases hu_ with rfl|rfl|rfl|rfl|rfl;exact str_one _;rfl;rfl;rfl;rfl)
      have HBV4:=Aside0.mk (Below.refl V4.heap.size V4)
      refine pq 0 (some 49) ?_
      refine pq 2 (some 51) ?_
      refine pq 3 (some 52) ?_
      refine pq 4 (some 53) ?_
      refine pq 6 (some 55) ?_
      refine pq 12 (some 61) ?_
      refine pq 13 (some 62) ?_
      refine pq 14 (some 63) ?_
      refine pq 16 (some 65) ?_
      refine tq 5 (some 54) hHeld ?_
      refine pq 7 (some 56) ?_
      refine tq 9 (some 58) hHeld ?_
      refine tq 15 (some 64) hHeld ?_
      refine pq 17 (some 66) ?_
      refine join_ (σ:=Value × Value × Nat) 5 #[true,true,true,true,true,true,true,true,true,true,true,false,true,true,true,true,true,true,false,false,false,false] (fun s_ => [(50,s_.1),(57,s_.2.1),(59,.slice (some ⟨s_.2.2,0,none⟩) 1 1)]) (fun s_ w_ => Below V4.heap.size V4 w_ ∧ (∃ ob_,Row w_ 70 5 s_.2.1 i ((T.ls.flatMap EL.cs).take (i * 5)) ob_ ∧ ∀ k_,ob_ = some k_ → V4.heap.size ≤ k_) ∧ w_.heap[s_.2.2]? = some (.cells #[.string r.f4,.int .i64 0,.int .i64 (-1),.int .i64 0,.slice (some ⟨n1,0,none⟩) 0 0] 70 (0,0)) ∧ V4.heap.size ≤ s_.2.2) ?_ ?_
      rotate_left
      ·
       intro hCont
       refine two_ (i:=1) (j:=10) (Ni:=some 50) (Nj:=some 59) #[true,true,true,true,true,true,true,true,false,true,false,false,true,true,true,true,true,true,false,false,false,false] #[true,false,true,true,true,true,true,true,false,true,true,false,true,true,true,true,true,true,false,false,false,false] rfl rfl rfl rfl (by kernel_rfl) (by decide) (by decide) (fun K hK => ?_) (fun K hK => ?_)
       ·
        skip
        refine vq ?_
        have hb_:=below_alloc (Below.refl V4.heap.size V4) (.cells #[] 70 (0,0))
        have HBY1:=Aside0.mk (below_then HBV4.out HBV4.out.size hb_)
        clear hb_ hHeld
        generalize V4.alloc _ = Y1 at HBY1 ⊢
        refine hK.out _ _ ⟨(HSF.out Y1 HBY1.out).1,(HSF.out Y1 HBY1.out).2.1,(HSF.out Y1 HBY1.out).2.2.1,(HSF.out Y1 HBY1.out).2.2.2.1,(HSF.out Y1 HBY1.out).2.2.2.2.1,(HSF.out Y1 HBY1.out).2.2.2.2.2⟩ (fun hHeld => ?_)
        clear hK K
        refine mq ?_
        refine two_ (i:=8) (j:=10) (Ni:=some 57) (Nj:=some 59) #[true,true,true,true,true,true,true,true,true,true,false,false,true,true,true,true,true,true,false,false,false,false] #[true,true,true,true,true,true,true,true,false,true,true,false,true,true,true,true,true,true,false,false,false,false] rfl rfl rfl rfl (by kernel_rfl) (by decide) (by decide) (fun K hK => ?_) (fun K hK => ?_)
        ·
         skip
         have hrl : Row Y1 70 5 (.slice (some ⟨b,o,none⟩) T.ls.length lc) T.ls.length (T.ls.flatMap EL.cs) T.ol:=by have h:=(C4.out.below HBY1.out).st.tb.v.rl;rw [HLV.out] at h;exact h
         have hone:=cs_one (C4.out.below HBY1.out).st.tb.v
         obtain ⟨v8,Y1_8,ob8,hrun,hrow,hob,hfr⟩:=app_row (P:=Try.prog) Y1 28 28 70 5 64 Try.underlying28 (by kernel_rfl) (by omega) (by omega) (.slice (some ⟨V4.heap.size,0,none⟩) 0 0) (.slice (some ⟨b,o,none⟩) i lc) 0 i [] ((T.ls.flatMap EL.cs).take (i * 5)) none T.ol (row_nil _ _ _ _) (row_take hrl hPL) (by omega) (fun x hx => hone x (List.mem_of_mem_take hx))
         refine value_ (w1:=Y1_8) (v:=v8) (by rfl) rfl ?_ ?_
         ·
          exact run_append_op (.tmp 50) (.tmp 56) 28 28 rfl _ _ rfl rfl hrun
         have HBY1_8:=Aside0.mk (below_then HBY1.out HBY1.out.size (fr_none hfr))
         rw [Nat.zero_add,List.nil_append] at hrow
         have HRY1_8:=Aside0.mk hrow
         have HO8:=Aside0.mk (show ∀ k_,ob8 = some k_ → V4.heap.size ≤ k_ from fun k_ hk_ => by rcases hob with h|h;(rw [h] at hk_;cases hk_);(have h1:=h k_ hk_;have h2:=HBY1.out.size;omega))
         clear hrl hone hrun hrow hob hfr hHeld
         refine hK.out _ _ ⟨(HSF.out Y1_8 HBY1_8.out).1,(HSF.out Y1_8 HBY1_8.out).2.1,(HSF.out Y1_8 HBY1_8.out).2.2.1,(HSF.out Y1_8 HBY1_8.out).2.2.2.1,(HSF.out Y1_8 HBY1_8.out).2.2.2.2.1,(HSF.out Y1_8 HBY1_8.out).2.2.2.2.2⟩ (fun hHeld => ?_)
         clear hK K
         refine mq ?_
         refine nq 10 (some 59) fun K hK => ?_
         refine vq ?_
         have hb_:=below_alloc (Below.refl Y1_8.heap.size Y1_8) (.cells #[.string r.f4,.int .i64 0,.int .i64 (-1),.int .i64 0,.slice (some ⟨n1,0,none⟩) 0 0] 70 (0,0))
         have HBY1_8_10:=Aside0.mk (below_then HBY1_8.out HBY1_8.out.size hb_)
         have HGY1_8_10:=Aside0.mk (heap_alloc_new Y1_8 (.cells #[.string r.f4,.int .i64 0,.int .i64 (-1),.int .i64 0,.slice (some ⟨n1,0,none⟩) 0 0] 70 (0,0)))
         have HRY1_8_10:=Aside0.mk (HRY1_8.out.kept (fun b_ hb2_ => hb_.block b_ (HRY1_8.out.lt b_ hb2_)))
         clear hb_ hHeld
         generalize Y1_8.alloc _ = Y1_8_10 at HBY1_8_10 HGY1_8_10 HRY1_8_10 ⊢
         refine hK.out _ _ ⟨(HSF.out Y1_8_10 HBY1_8_10.out).1,(HSF.out Y1_8_10 HBY1_8_10.out).2.1,(HSF.out Y1_8_10 HBY1_8_10.out).2.2.1,(HSF.out Y1_8_10 HBY1_8_10.out).2.2.2.1,(HSF.out Y1_8_10 HBY1_8_10.out).2.2.2.2.1,(HSF.out Y1_8_10 HBY1_8_10.out).2.2.2.2.2⟩ (fun hHeld => ?_)
         clear hK K
         refine mq ?_
         exact norm_ (by simp only [putAll,Act.put,List.setIfInBounds_toArray,List.set_cons_zero,List.set_cons_succ]) (hCont (.slice (some ⟨V4.heap.size,0,none⟩) 0 0,v8,Y1_8.heap.size) _ ⟨HBY1_8_10.out,⟨ob8,HRY1_8_10.out,HO8.out⟩,HGY1_8_10.out,HBY1_8.out.size⟩)
        ·
         skip
         refine vq ?_
         have hb_:=below_alloc (Below.refl Y1.heap.size Y1) (.cells #[.string r.f4,.int .i64 0,.int .i64 (-1),.int .i64 0,.slice (some ⟨n1,0,none⟩) 0 0] 70 (0,0))
         have HBY1_10:=Aside0.mk (below_then HBY1.out HBY1.out.size hb_)
         have HGY1_10:=Aside0.mk (heap_alloc_new Y1 (.cells #[.string r.f4,.int .i64 0,.int .i64 (-1),.int .i64 0,.slice (some ⟨n1,0,none⟩) 0 0] 70 (0,0)))
         clear hb_ hHeld
         generalize Y1.alloc _ = Y1_10 at HBY1_10 HGY1_10 ⊢
         refine hK.out _ _ ⟨(HSF.out Y1_10 HBY1_10.out).1,(HSF.out Y1_10 HBY1_10.out).2.1,(HSF.out Y1_10 HBY1_10.out).2.2.1,(HSF.out Y1_10 HBY1_10.out).2.2.2.1,(HSF.out Y1_10 HBY1_10.out).2.2.2.2.1,(HSF.out Y1_10 HBY1_10.out).2.2.2.2.2⟩ (fun hHeld => ?_)
         clear hK K
         refine mq ?_
         refine nq 8 (some 57) fun K hK => ?_
         have hrl : Row Y1_10 70 5 (.slice (some ⟨b,o,none⟩) T.ls.length lc) T.ls.length (T.ls.flatMap EL.cs) T.ol:=by have h:=(C4.out.below HBY1_10.out).st.tb.v.rl;rw [HLV.out] at h;exact h
         have hone:=cs_one (C4.out.below HBY1_10.out).st.tb.v
         obtain ⟨v8,Y1_10_8,ob8,hrun,hrow,hob,hfr⟩:=app_row (P:=Try.prog) Y1_10 28 28 70 5 64 Try.underlying28 (by kernel_rfl) (by omega) (by omega) (.slice (some ⟨V4.heap.size,0,none⟩) 0 0) (.slice (some ⟨b,o,none⟩) i lc) 0 i [] ((T.ls.flatMap EL.cs).take (i * 5)) none T.ol (row_nil _ _ _ _) (row_take hrl hPL) (by omega) (fun x hx => hone x (List.mem_of_mem_take hx))
         refine value_ (w1:=Y1_10_8) (v:=v8) (by rfl) rfl ?_ ?_
         ·
          exact run_append_op (.tmp 50) (.tmp 56) 28 28 rfl _ _ rfl rfl hrun
         have HBY1_10_8:=Aside0.mk (below_then HBY1_10.out HBY1_10.out.size (fr_none hfr))
         rw [Nat.zero_add,List.nil_append] at hrow
         have HRY1_10_8:=Aside0.mk hrow
         have HO8:=Aside0.mk (show ∀ k_,ob8 = some k_ → V4.heap.size ≤ k_ from fun k_ hk_ => by rcases hob with h|h;(rw [h] at hk_;cases hk_);(have h1:=h k_ hk_;have h2:=HBY1_10.out.size;omega))
         have HGY1_10_8:=Aside0.mk (((fr_none hfr).block _ (blk_lt HGY1_10.out)).trans HGY1_10.out)
         clear hrl hone hrun hrow hob hfr hHeld
         refine hK.out _ _ ⟨(HSF.out Y1_10_8 HBY1_10_8.out).1,(HSF.out Y1_10_8 HBY1_10_8.out).2.1,(HSF.out Y1_10_8 HBY1_10_8.out).2.2.1,(HSF.out Y1_10_8 HBY1_10_8.out).2.2.2.1,(HSF.out Y1_10_8 HBY1_10_8.out).2.2.2.2.1,(HSF.out Y1_10_8 HBY1_10_8.out).2.2.2.2.2⟩ (fun hHeld => ?_)
         clear hK K
         refine mq ?_
         exact norm_ (by simp only [putAll,Act.put,List.setIfInBounds_toArray,List.set_cons_zero,List.set_cons_succ]) (hCont (.slice (some ⟨V4.heap.size,0,none⟩) 0 0,v8,Y1.heap.size) _ ⟨HBY1_10_8.out,⟨ob8,HRY1_10_8.out,HO8.out⟩,HGY1_10_8.out,HBY1.out.size⟩)
       ·
        skip
        refine vq ?_
        have hb_:=below_alloc (Below.refl V4.heap.size V4) (.cells #[.string r.f4,.int .i64 0,.int .i64 (-1),.int .i64 0,.slice (some ⟨n1,0,none⟩) 0 0] 70 (0,0))
        have HBY10:=Aside0.mk (below_then HBV4.out HBV4.out.size hb_)
        have HGY10:=Aside0.mk (heap_alloc_new V4 (.cells #[.string r.f4,.int .i64 0,.int .i64 (-1),.int .i64 0,.slice (some ⟨n1,0,none⟩) 0 0] 70 (0,0)))
        clear hb_ hHeld
        generalize V4.alloc _ = Y10 at HBY10 HGY10 ⊢
        refine hK.out _ _ ⟨(HSF.out Y10 HBY10.out).1,(HSF.out Y10 HBY10.out).2.1,(HSF.out Y10 HBY10.out).2.2.1,(HSF.out Y10 HBY10.out).2.2.2.1,(HSF.out Y10 HBY10.out).2.2.2.2.1,(HSF.out Y10 HBY10.out).2.2.2.2.2⟩ (fun hHeld => ?_)
        clear hK K
        refine mq ?_
        refine nq 1 (some 50) fun K hK => ?_
        refine vq ?_
        have hb_:=below_alloc (Below.refl Y10.heap.size Y10) (.cells #[] 70 (0,0))
        have HBY10_1:=Aside0.mk (below_then HBY10.out HBY10.out.size hb_)
        have HGY10_1:=Aside0.mk ((hb_.block _ (blk_lt HGY10.out)).trans HGY10.out)
        clear hb_ hHeld
        generalize Y10.alloc _ = Y10_1 at HBY10_1 HGY10_1 ⊢
        refine hK.out _ _ ⟨(HSF.out Y10_1 HBY10_1.out).1,(HSF.out Y10_1 HBY10_1.out).2.1,(HSF.out Y10_1 HBY10_1.out).2.2.1,(HSF.out Y10_1 HBY10_1.out).2.2.2.1,(HSF.out Y10_1 HBY10_1.out).2.2.2.2.1,(HSF.out Y10_1 HBY10_1.out).2.2.2.2.2⟩ (fun hHeld => ?_)
        clear hK K
        refine mq ?_
        refine nq 8 (some 57) fun K hK => ?_
        have hrl : Row Y10_1 70 5 (.slice (some ⟨b,o,none⟩) T.ls.length lc) T.ls.length (T.ls.flatMap EL.cs) T.ol:=by have h:=(C4.out.below HBY10_1.out).st.tb.v.rl;rw [HLV.out] at h;exact h
        have hone:=cs_one (C4.out.below HBY10_1.out).st.tb.v
        obtain ⟨v8,Y10_1_8,ob8,hrun,hrow,hob,hfr⟩:=app_row (P:=Try.prog) Y10_1 28 28 70 5 64 Try.underlying28 (by kernel_rfl) (by omega) (by omega) (.slice (some ⟨Y10.heap.size,0,none⟩) 0 0) (.slice (some ⟨b,o,none⟩) i lc) 0 i [] ((T.ls.flatMap EL.cs).take (i * 5)) none T.ol (row_nil _ _ _ _) (row_take hrl hPL) (by omega) (fun x hx => hone x (List.mem_of_mem_take hx))
        refine value_ (w1:=Y10_1_8) (v:=v8) (by rfl) rfl ?_ ?_
        ·
         exact run_append_op (.tmp 50) (.tmp 56) 28 28 rfl _ _ rfl rfl hrun
        have HBY10_1_8:=Aside0.mk (below_then HBY10_1.out HBY10_1.out.size (fr_none hfr))
        rw [Nat.zero_add,List.nil_append] at hrow
        have HRY10_1_8:=Aside0.mk hrow
        have HO8:=Aside0.mk (show ∀ k_,ob8 = some k_ → V4.heap.size ≤ k_ from fun k_ hk_ => by rcases hob with h|h;(rw [h] at hk_;cases hk_);(have h1:=h k_ hk_;have h2:=HBY10_1.out.size;omega))
        have HGY10_1_8:=Aside0.mk (((fr_none hfr).block _ (blk_lt HGY10_1.out)).trans HGY10_1.out)
        clear hrl hone hrun hrow hob hfr hHeld
        refine hK.out _ _ ⟨(HSF.out Y10_1_8 HBY10_1_8.out).1,(HSF.out Y10_1_8 HBY10_1_8.out).2.1,(HSF.out Y10_1_8 HBY10_1_8.out).2.2.1,(HSF.out Y10_1_8 HBY10_1_8.out).2.2.2.1,(HSF.out Y10_1_8 HBY10_1_8.out).2.2.2.2.1,(HSF.out Y10_1_8 HBY10_1_8.out).2.2.2.2.2⟩ (fun hHeld => ?_)
        clear hK K
        refine mq ?_
        exact norm_ (by simp only [putAll,Act.put,List.setIfInBounds_toArray,List.set_cons_zero,List.set_cons_succ]) (hCont (.slice (some ⟨Y10.heap.size,0,none⟩) 0 0,v8,V4.heap.size) _ ⟨HBY10_1_8.out,⟨ob8,HRY10_1_8.out,HO8.out⟩,HGY10_1_8.out,HBV4.out.size⟩)
      rintro ⟨e1_,v8,m10⟩ V5 ⟨hb5,⟨ob8,hr8,ho8⟩,hg10,hm10⟩
      have HBV5:=Aside0.mk hb5
      have HR8:=Aside0.mk hr8
      have HO8:=Aside0.mk ho8
      have HG10:=Aside0.mk hg10
      have HM10:=Aside0.mk hm10
      clear hb5 hr8 ho8 hg10 hm10
      have hHeld:=HSF.out V5 HBV5.out
      refine mq ?_
      refine nq 11 (some 60) fun K hK => ?_
      obtain ⟨v11,V6,ob11,hrun,hrow,hob,hfr⟩:=app_row (P:=Try.prog) V5 28 28 70 5 64 Try.underlying28 (by kernel_rfl) (by omega) (by omega) v8 (.slice (some ⟨m10,0,none⟩) 1 1) i 1 ((T.ls.flatMap EL.cs).take (i * 5)) [.string r.f4,.int .i64 0,.int .i64 (-1),.int .i64 0,.slice (some ⟨n1,0,none⟩) 0 0] ob8 (some m10) HR8.out (row_one HG10.out rfl) (by omega) NONE1.out
      refine value_ (w1:=V6) (v:=v11) (by rfl) rfl ?_ ?_
      ·
       exact run_append_op (.tmp 57) (.tmp 59) 28 28 rfl _ _ rfl rfl hrun
      have HBV6:=Aside0.mk (HBV5.out.trans (hfr.to_below HBV5.out.size (fun x hx => HO8.out x hx)))
      have HR11:=Aside0.mk hrow
      have HO11:=Aside0.mk (show ∀ k_,ob11 = some k_ → V4.heap.size ≤ k_ from fun k_ hk_ => by rcases hob with h|h;(exact HO8.out k_ (h ▸ hk_));(have h1:=h k_ hk_;have h2:=HBV5.out.size;omega))
      clear hrun hrow hob hfr hHeld
      refine hK.out _ _ ⟨(HSF.out V6 HBV6.out).1,(HSF.out V6 HBV6.out).2.1,(HSF.out V6 HBV6.out).2.2.1,(HSF.out V6 HBV6.out).2.2.2.1,(HSF.out V6 HBV6.out).2.2.2.2.1,(HSF.out V6 HBV6.out).2.2.2.2.2⟩ (fun hHeld => ?_)
      clear hK K
      refine mq ?_
      refine nq 18 (some 67) fun K hK => ?_
      have hrl : Row V6 70 5 (.slice (some ⟨b,o,none⟩) T.ls.length lc) T.ls.length (T.ls.flatMap EL.cs) T.ol:=by have h:=(C4.out.below HBV6.out).st.tb.v.rl;rw [HLV.out] at h;exact h
      have hone:=cs_one (C4.out.below HBV6.out).st.tb.v
      have hdr:=row_drop hrl hPL
      obtain ⟨v18,V7,ob18,hrun,hrow,hob,hfr⟩:=app_row (P:=Try.prog) V6 28 28 70 5 64 Try.underlying28 (by kernel_rfl) (by omega) (by omega) v11 (.slice (if lc = i then some ⟨b,o,none⟩ else some ⟨b,o + i * 5,none⟩) (T.ls.length - i) (lc - i)) (i + 1) (T.ls.length - i) _ _ ob11 _ HR11.out hdr (by omega) (fun x hx => hone x (List.mem_of_mem_drop hx))
      obtain ⟨va,vc,rfl⟩:=hrow.slice
      refine value_ (w1:=V7) (v:=.slice va (i + 1 + (T.ls.length - i)) vc) (by rfl) rfl ?_ ?_
      ·
       exact run_append_op (.tmp 60) (.tmp 66) 28 28 rfl _ _ rfl rfl hrun
      have HBV7:=Aside0.mk (HBV6.out.trans (hfr.to_below HBV6.out.size (fun x hx => HO11.out x hx)))
      have HR18:=Aside0.mk hrow
      have HO18:=Aside0.mk (show ∀ k_,ob18 = some k_ → V4.heap.size ≤ k_ from fun k_ hk_ => by rcases hob with h|h;(exact HO11.out k_ (h ▸ hk_));(have h1:=h k_ hk_;have h2:=HBV6.out.size;omega))
      clear hrun hrow hob hfr hHeld hrl hone hdr
      obtain ⟨-,-,y2,-,-,-,z2,-⟩:=(C4.out.below HBV7.out).st.tb.cells
      rw [HLV.out] at y2
      refine hK.out _ _ ⟨(HSF.out V7 HBV7.out).1,(HSF.out V7 HBV7.out).2.1,(HSF.out V7 HBV7.out).2.2.1,(HSF.out V7 HBV7.out).2.2.2.1,(HSF.out V7 HBV7.out).2.2.2.2.1,(HSF.out V7 HBV7.out).2.2.2.2.2⟩ (fun hHeld => ?_)
      clear hK K
      refine mq ?_
      refine pq 19 (some 68) ?_
      refine pq 20 (some 69) ?_
      refine lq 21 none fun K hK => ?_
      refine sq ?_
      refine hK.out _ _ ?_
      clear hK K
      refine done_ (by kernel_rfl) ?_
      (try clear hHeld)
      (try clear HV)
      obtain ⟨ne,hne⟩ : ∃ ne : EL,ne = ⟨newL r.f4,.slice (some ⟨n1,0,none⟩) 0 0,none⟩:=⟨_,rfl⟩
      obtain ⟨A,hA⟩ : ∃ A,A = T.ls.take i:=⟨_,rfl⟩
      obtain ⟨B,hB⟩ : ∃ B,B = T.ls.drop i:=⟨_,rfl⟩
      have hpl : A.length = i:=by rw [hA,List.length_take];omega
      have hN : i + 1 + (T.ls.length - i) = (A ++ ne :: B).length:=by rw [List.length_append,List.length_cons,hpl,hB,List.length_drop];omega
      have hrw : Row V7 70 5 (.slice va (A ++ ne :: B).length vc) (A ++ ne :: B).length ((A ++ ne :: B).flatMap EL.cs) ob18:=by
       have h:=HR18.out
       rw [hN,(flat_take (f:=EL.cs) (sz:=5) (fun x => rfl) T.ls i).1,(flat_take (f:=EL.cs) (sz:=5) (fun x => rfl) T.ls i).2,← hA,← hB] at h
       rw [cs_mid,hne]
       rw [hne] at h
       simp only [List.append_assoc] at h
       exact h
      have hS5:=St.locks (St.refl C4.out.st.tb) (A ++ ne :: B) (.slice va (A ++ ne :: B).length vc) ob18 (Fr.of_below HBV7.out) hrw (.inr HO18.out) (fun e he => by
       have he : e ∈ A ∨ e = ne ∨ e ∈ B:=by simpa using he
       rcases he with he|rfl|he
       ·
        exact .inl (List.mem_of_mem_take (hA ▸ he))
       ·
        refine .inr ⟨by rw [hne],?_⟩
        rw [hne]
        exact row_nil _ _ _ _
       ·
        exact .inl (List.mem_of_mem_drop (hB ▸ he))) (by
       rw [hA,hB]
       have hap:=C4.out.st.tb.v.ap
       unfold Tv.blocks at hap
       rw [List.pairwise_cons,List.pairwise_cons] at hap
       exact pair_ins hap.2.2 (by rw [hne]))
      rw [hN]
      obtain ⟨T2,hT2⟩ : ∃ T2 : Tv,T2 = { T with ls:=A ++ ne :: B,vl:=.slice va (A ++ ne :: B).length vc,ol:=ob18 }:=⟨_,rfl⟩
      rw [← hT2] at hS5
      have D5:=Aside0.mk (C4.out.step hS5)
      have hls : T2.ls = A ++ ne :: B:=by rw [hT2]
      have HLS:=Aside0.mk hls
      have HT2:=Aside0.mk (show T2.tm = T.tm ∧ T2.nx = T.nx ∧ T2.ss = T.ss by rw [hT2];exact ⟨rfl,rfl,rfl⟩)
      have HA:=Aside0.mk hA
      have HB:=Aside0.mk hB
      have HPA:=Aside0.mk hpl
      clear hS5 hrw y2 z2 hT2 hN
      generalize V7.setCell ⟨g,2,none⟩ (.slice va (A ++ ne :: B).length vc) = W5 at D5 ⊢
      obtain ⟨b',o',c',hv,hat⟩:=D5.out.st.tb.v.at_ hls
      rw [hpl] at hat
      have HAT:=Aside0.mk hat
      have HV2:=Aside0.mk hv
      have x2:=D5.out.st.tb.cells.2.2.1
      rw [hv] at x2
      have hplt : i < T2.ls.length:=by rw [hls,List.length_append,List.length_cons];omega
      have p0 : ((i : Int) < (T2.ls.length : Int)) = True:=eq_true (by omega)
      have p1 : (0 ≤ (i : Int)) = True:=eq_true (by omega)
      clear hls hA hB hpl hat hv
      (try clear p2)
      (try generalize (Value.slice (if lc = i then some ⟨b,o,none⟩ else some ⟨b,o + i * 5,none⟩) (T.ls.length - i) (lc - i)) = vdr_)
      go_upto_region 11 with fail
      clear x2 hplt
      have D6:=Aside0.mk (D5.out.below (below_drew (Below.refl _ _)))
      obtain ⟨x0,x1,x2,x3,x4,-,-,-,-,-⟩:=HAT.out.cells D6.out.st.tb.v
      rw [hne] at x0 x1 x2 x3 x4
      simp only [newL] at x0 x1 x2 x3 x4
      obtain ⟨r0,-,-,-,-⟩:=D6.out.rqs
      have q0 : ((-1 : Int) == r.f0) = false:=by simp;omega
      have HNE:=Aside0.mk hne
      have HMEM:=Aside0.mk (show ne ∈ T2.ls by rw [HLS.out];simp)
      clear hne
      refine start_ (n:=17) (S:=fun w' => w'.cell? ⟨b',o' + i * 5,none⟩ = some (.string r.f4) ∧ w'.cell? ⟨b',o' + i * 5 + 1,none⟩ = some (.int .i64 0) ∧ w'.cell? ⟨b',o' + i * 5 + 2,none⟩ = some (.int .i64 (-1)) ∧ w'.cell? ⟨b',o' + i * 5 + 3,none⟩ = some (.int .i64 0) ∧ w'.cell? ⟨b',o' + i * 5 + 4,none⟩ = some (.slice (some ⟨n1,0,none⟩) 0 0) ∧ w'.cell? ⟨w.heap.size,0,none⟩ = some (.int .i64 r.f0)) (ds:=[]) #[false,false,false,false,false,false,false,false,false,false,false,false,false,false,false,false,false] (by kernel_rfl) rfl rfl ⟨x0,x1,x2,x3,x4,r0⟩ (fun hHeld => ?_)
      clear x0 x1 x2 x3 x4 r0
      generalize W5.drew = V6 at D6 hHeld ⊢
      refine pq 0 (some 77) ?_
      refine pq 1 (some 78) ?_
      refine pq 2 (some 79) ?_
      refine pq 4 (some 81) ?_
      refine tq 3 (some 80) hHeld ?_
      refine tq 5 (some 82) hHeld ?_
      refine pq 6 (some 83) ?_
      refine pq 7 (some 84) ?_
      refine pq 8 (some 85) ?_
      refine pq 9 (some 86) ?_
      refine pq 11 (some 88) ?_
      refine tq 10 (some 87) hHeld ?_
      refine tq 12 (some 89) hHeld ?_
      refine nq 13 (some 90) fun K hK => ?_
      have hq:=swaits_calls ne r.f0 V6 (D6.out.st.tb.v.rw ne HMEM.out) (by rw [HNE.out];show 0 ≤ 1000;omega)
      rw [HNE.out] at hq
      unfold elV newL at hq
      simp only at hq
      rw [show waitsF r.f0 [] 0 = -1 from rfl] at hq
      refine goes_ Try.func112 (by kernel_rfl) rfl #[.agg #[.string r.f4,.int .i64 0,.int .i64 (-1),.int .i64 0,.slice (some ⟨n1,0,none⟩) 0 0],.int .i64 r.f0] (by rfl) rfl rfl (by simp only [List.map_toArray,List.map_cons,List.map_nil];rfl) ?_
      with_reducible refine (hq).mono ?_
      rintro _ W7 ⟨rfl,hb⟩
      refine ⟨_,rfl,?_⟩
      have D7:=Aside0.mk (D6.out.below hb)
      obtain ⟨x0,x1,x2,x3,x4,-,-,-,-,-⟩:=HAT.out.cells D7.out.st.tb.v
      rw [HNE.out] at x0 x1 x2 x3 x4
      simp only [newL] at x0 x1 x2 x3 x4
      obtain ⟨r0,-,-,-,-⟩:=D7.out.rqs
      clear hq hb hHeld
      refine hK.out _ _ ⟨x0,x1,x2,x3,x4,r0⟩ (fun hHeld => ?_)
      clear hK K
      refine mq ?_
      refine pq 14 (some 91) ?_
      refine pq 15 (some 92) ?_
      refine pq 16 (some 76) ?_
      refine done_ (by kernel_rfl) ?_
      clear hHeld r0 x0 x1 x3 x4
      (try simp only [show decide ((0 : Int) ≤ -1) = false from rfl])
      obtain ⟨r0,-,-,r3,-⟩:=D7.out.rqs
      have q2 : decide ((-1 : Int) < 0) = true:=rfl
      go_wp2_with fail
      have hq:=sgrant_calls g W7 T2 A ne B b' o' c' i r.f0 r.f3 D7.out.st.tb HV2.out HPA.out HAT.out (by have:=H0.out;have:=HT2.out;omega) (by have:=H1.out;have:=HT2.out;omega) (by have:=HR3.out;omega)
      with_reducible refine hq.mono ?_
      clear hq
      rintro _ W8 ⟨rfl,hs8⟩
      obtain ⟨e8,he8⟩ : ∃ e8 : EL,e8 = ⟨⟨r.f4,T2.nx,r.f0,T2.tm + r.f3,[]⟩,.slice (some ⟨n1,0,none⟩) 0 0,none⟩:=⟨_,rfl⟩
      have he8' : ({ ne with x:=grX ne.x T2.tm T2.nx r.f0 r.f3 } : EL) = e8:=by rw [HNE.out,he8];rfl
      rw [he8'] at hs8
      obtain ⟨T8,hT8⟩ : ∃ T8 : Tv,T8 = { T2 with nx:=T2.nx + 1,ls:=A ++ e8 :: B }:=⟨_,rfl⟩
      have C8 : Aside0 (Ctx g w T r W8 T8):=⟨by rw [hT8];exact D7.out.step hs8⟩
      have HAT8 : Aside0 (At T8 A e8 B b' (o' + i * 5)):=⟨by rw [hT8];exact (HAT.out.put e8).next (T2.nx + 1)⟩
      have HLS8:=Aside0.mk (show T8.ls = A ++ e8 :: B by rw [hT8])
      have y2:=C8.out.st.tb.cells.2.2.1
      rw [show T8.vl = .slice (some ⟨b',o',none⟩) T2.ls.length c' by rw [hT8];exact HV2.out] at y2
      have HQ8:=Aside0.mk hT8
      have HE8:=Aside0.mk he8
      obtain ⟨t0,t1,t2,t3,t4,-,-,-,-,-⟩:=HAT8.out.cells C8.out.st.tb.v
      rw [he8] at t0 t1 t2 t3 t4
      simp only at t0 t1 t2 t3 t4
      have hq:=stell_calls 1 e8 W8 (C8.out.st.tb.v.rw e8 (by rw [HLS8.out];exact List.mem_append_right _ List.mem_cons_self))
      rw [he8] at hq
      unfold elV tellA anV at hq
      simp only at hq
      have HQ:=Aside0.mk hq
      clear hs8 r0 r3 x2 hT8 he8 he8' hq
      go_wp2_with fail
      with_reducible refine HQ.out.mono ?_
      rintro _ Wt ⟨rfl,hb⟩
      have Ct:=Aside0.mk (C8.out.below hb)
      clear hb t0 t1 t2 t3 t4 HQ y2
      obtain ⟨n0,n1,n2,n3,m0,m1,m2,m3⟩:=Ct.out.ans
      go_wp2_with fail
      obtain ⟨hd,hst⟩:=Ct.out.done ⟨1,T2.nx,r.f0,T2.tm + r.f3⟩
      refine bodyPost_ret (results_cell_row rfl _ _ (w.heap.size + 1) 75 _ (0,0) _ rfl hd Try.underlying75 rfl (by kernel_rfl)) rfl ?_
      exact ⟨_,T8,rfl,by rw [HQ8.out];exact HT2.out.1,by rw [HQ8.out];exact HT2.out.2.2,by rw [HACQ.out,HQ8.out,← HT2.out.1,← HT2.out.2.1,acq1_new rfl HR0.out];show ((A ++ e8 :: B).map EL.x,T2.nx + 1,_) = _;rw [putAt_split (e':=e8) HA.out HB.out,HE8.out];rfl,hst⟩
    ·
     obtain rfl : i = p:=by omega
     have hip : i = T.ls.length:=by omega
     have p2 : decide ((i : Int) < (T.ls.length : Int)) = false:=decide_eq_false (by omega)
     refine start_ (n:=20) (S:=fun w' => w'.cell? ⟨g,2,none⟩ = some (.slice la T.ls.length lc)) (ds:=[]) #[false,false,false,false,false,false,false,false,false,false,false,false,false,false,false,false,false,false,false,false] (by kernel_rfl) rfl rfl (y2) (fun hHeld => ?_)
     clear y2 r4
     generalize wi.drew = V2 at C2 hHeld ⊢
     refine pq 0 (some 23) ?_
     refine pq 1 (some 24) ?_
     refine pq 2 (some 25) ?_
     refine pq 3 (some 26) ?_
     refine tq 4 (some 27) hHeld ?_
     refine pq 5 (some 28) ?_
     refine pq 6 (some 29) ?_
     refine pq 7 (some 30) ?_
     refine oq 8 (some 31) ?_
     refine oq 9 (some 32) ?_
     refine oq 10 (some 33) ?_
     refine oq 11 (some 34) ?_
     refine oq 12 (some 35) ?_
     refine oq 13 (some 36) ?_
     refine oq 14 (some 37) ?_
     refine oq 15 (some 38) ?_
     refine oq 16 (some 39) ?_
     refine oq 17 (some 40) ?_
     refine oq 18 (some 41) ?_
     refine pq 19 (some 42) ?_
     refine done_ (by kernel_rfl) ?_
     clear hHeld
     have q3:=hip
     have HIP:=Aside0.mk hip
     clear hip
     clear q3
     obtain ⟨-,-,-,-,r4⟩:=C2.out.rqs
     go_upto_region 9 with fail
     clear r4
     change Code.wp _ _ _ _ ((V2.alloc (.cells #[] 73 (0,0))).alloc (.cells #[.string r.f4,.int .i64 0,.int .i64 (-1),.int .i64 0,.slice (some ⟨V2.heap.size,0,none⟩) 0 0] 70 (0,0)))
     have hb3:=below_alloc (below_alloc (Below.refl V2.heap.size V2) (.cells #[] 73 (0,0))) (.cells #[.string r.f4,.int .i64 0,.int .i64 (-1),.int .i64 0,.slice (some ⟨V2.heap.size,0,none⟩) 0 0] 70 (0,0))
     have hg3:=heap_alloc_new (V2.alloc (.cells #[] 73 (0,0))) (.cells #[.string r.f4,.int .i64 0,.int .i64 (-1),.int .i64 0,.slice (some ⟨V2.heap.size,0,none⟩) 0 0] 70 (0,0))
     have hsz3 : (V2.alloc (.cells #[] 73 (0,0))).heap.size = V2.heap.size + 1:=by show (V2.heap.push _).size = _;simp
     rw [hsz3] at hg3
     have C3:=Aside0.mk (C2.out.below hb3)
     (try rw [hsz3])
     obtain ⟨n1,hn1⟩ : ∃ n1,n1 = V2.heap.size:=⟨_,rfl⟩
     rw [← hn1] at hg3 C3 ⊢
     generalize (V2.alloc (.cells #[] 73 (0,0))).alloc (.cells #[.string r.f4,.int .i64 0,.int .i64 (-1),.int .i64 0,.slice (some ⟨n1,0,none⟩) 0 0] 70 (0,0)) = W3 at C3 hg3 ⊢
     have HG3:=Aside0.mk hg3
     have HN1:=Aside0.mk hn1
     clear hb3 hg3 hsz3 hn1
     have C4:=Aside0.mk (C3.out.below (below_drew (Below.refl _ _)))
     have hg4 : W3.drew.heap[n1 + 1]? = some (.cells #[.string r.f4,.int .i64 0,.int .i64 (-1),.int .i64 0,.slice (some ⟨n1,0,none⟩) 0 0] 70 (0,0)):=HG3.out
     have HG4:=Aside0.mk hg4
     have y2:=C4.out.st.tb.cells.2.2.1
     rw [HLV.out] at y2
     have k0:=(blk_cell hg4 0).trans (rfl : _ = some (Value.string r.f4))
     have k1:=(blk_cell hg4 1).trans (rfl : _ = some (Value.int .i64 0))
     have k2:=(blk_cell hg4 2).trans (rfl : _ = some (Value.int .i64 (-1)))
     have k3:=(blk_cell hg4 3).trans (rfl : _ = some (Value.int .i64 0))
     have k4:=(blk_cell hg4 4).trans (rfl : _ = some (Value.slice (some ⟨n1,0,none⟩) 0 0))
     clear hg4
     have hlc : T.ls.length ≤ lc:=by
      obtain ⟨_,_,hv,h,_⟩:=C4.out.st.tb.v.rl
      rw [HLV.out] at hv
      injection hv with _ _ h3
      rw [h3];exact h
     have hic : i ≤ lc:=by have:=HPL.out;omega
     refine start_ (n:=22) (S:=fun w' => w'.cell? ⟨g,2,none⟩ = some (.slice la T.ls.length lc) ∧ w'.cell? ⟨n1 + 1,0,none⟩ = some (.string r.f4) ∧ w'.cell? ⟨n1 + 1,1,none⟩ = some (.int .i64 0) ∧ w'.cell? ⟨n1 + 1,2,none⟩ = some (.int .i64 (-1)) ∧ w'.cell? ⟨n1 + 1,3,none⟩ = some (.int .i64 0) ∧ w'.cell? ⟨n1 + 1,4,none⟩ = some (.slice (some ⟨n1,0,none⟩) 0 0)) (ds:=[21]) #[false,false,false,false,false,false,false,false,false,false,false,false,false,false,false,false,false,false,false,false,false,false] (by kernel_rfl) rfl rfl ⟨y2,k0,k1,k2,k3,k4⟩ (fun hHeld => ?_)
     clear y2 k0 k1 k2 k3 k4
     generalize W3.drew = V4 at C4 HG4 hHeld ⊢
     have HSF : Aside0 (∀ W_ : World,Below V4.heap.size V4 W_ → (W_.cell? ⟨g,2,none⟩ = some (.slice la T.ls.length lc) ∧ W_.cell? ⟨n1 + 1,0,none⟩ = some (.string r.f4) ∧ W_.cell? ⟨n1 + 1,1,none⟩ = some (.int .i64 0) ∧ W_.cell? ⟨n1 + 1,2,none⟩ = some (.int .i64 (-1)) ∧ W_.cell? ⟨n1 + 1,3,none⟩ = some (.int .i64 0) ∧ W_.cell? ⟨n1 + 1,4,none⟩ = some (.slice (some ⟨n1,0,none⟩) 0 0))):=⟨fun W_ hb_ => by have y2_:=(C4.out.below hb_).st.tb.cells.2.2.1;rw [HLV.out] at y2_;have g_:=(hb_.block _ (blk_lt HG4.out)).trans HG4.out;exact ⟨y2_,(blk_cell g_ 0).trans rfl,(blk_cell g_ 1).trans rfl,(blk_cell g_ 2).trans rfl,(blk_cell g_ 3).trans rfl,(blk_cell g_ 4).trans rfl⟩⟩
     have NONE1:=Aside0.mk (show ∀ u_ ∈ ([.string r.f4,.int .i64 0,.int .i64 (-1),.int .i64 0,.slice (some ⟨n1,0,none⟩) 0 0] : List Value),u_.oneCell' = true from fun u_ hu_ => by simp only [List.mem_cons,List.not_mem_nil,or_false] at hu_;rcases hu_ with rfl|rfl|rfl|rfl|rfl;exact str_one _;rfl;rfl;rfl;rfl)
     have HBV4:=Aside0.mk (Below.refl V4.heap.size V4)
     refine pq 0 (some 49) ?_
     refine pq 2 (some 51) ?_
     refine pq 3 (some 52) ?_
     refine pq 4 (some 53) ?_
     refine pq 6 (some 55) ?_
     refine pq 12 (some 61) ?_
     refine pq 13 (some 62) ?_
     refine pq 14 (some 63) ?_
     refine pq 16 (some 65) ?_
     refine tq 5 (some 54) hHeld ?_
     refine pq 7 (some 56) ?_
     refine tq 9 (some 58) hHeld ?_
     refine tq 15 (some 64) hHeld ?_
     refine pq 17 (some 66) ?_
     refine join_ (σ:=Value × Value × Nat) 5 #[true,true,true,true,true,true,true,true,true,true,true,false,true,true,true,true,true,true,false,false,false,false] (fun s_ => [(50,s_.1),(57,s_.2.1),(59,.slice (some ⟨s_.2.2,0,none⟩) 1 1)]) (fun s_ w_ => Below V4.heap.size V4 w_ ∧ (∃ ob_,Row w_ 70 5 s_.2.1 i ((T.ls.flatMap EL.cs).take (i * 5)) ob_ ∧ ∀ k_,ob_ = some k_ → V4.heap.size ≤ k_) ∧ w_.heap[s_.2.2]? = some (.cells #[.string r.f4,.int .i64 0,.int .i64 (-1),.int .i64 0,.slice (some ⟨n1,0,none⟩) 0 0] 70 (0,0)) ∧ V4.heap.size ≤ s_.2.2) ?_ ?_
     rotate_left
     ·
      intro hCont
      refine two_ (i:=1) (j:=10) (Ni:=some 50) (Nj:=some 59) #[true,true,true,true,true,true,true,true,false,true,false,false,true,true,true,true,true,true,false,false,false,false] #[true,false,true,true,true,true,true,true,false,true,true,false,true,true,true,true,true,true,false,false,false,false] rfl rfl rfl rfl (by kernel_rfl) (by decide) (by decide) (fun K hK => ?_) (fun K hK => ?_)
      ·
       skip
       refine vq ?_
       have hb_:=below_alloc (Below.refl V4.heap.size V4) (.cells #[] 70 (0,0))
       have HBY1:=Aside0.mk (below_then HBV4.out HBV4.out.size hb_)
       clear hb_ hHeld
       generalize V4.alloc _ = Y1 at HBY1 ⊢
       refine hK.out _ _ ⟨(HSF.out Y1 HBY1.out).1,(HSF.out Y1 HBY1.out).2.1,(HSF.out Y1 HBY1.out).2.2.1,(HSF.out Y1 HBY1.out).2.2.2.1,(HSF.out Y1 HBY1.out).2.2.2.2.1,(HSF.out Y1 HBY1.out).2.2.2.2.2⟩ (fun hHeld => ?_)
       clear hK K
       refine mq ?_
       refine two_ (i:=8) (j:=10) (Ni:=some 57) (Nj:=some 59) #[true,true,true,true,true,true,true,true,true,true,false,false,true,true,true,true,true,true,false,false,false,false] #[true,true,true,true,true,true,true,true,false,true,true,false,true,true,true,true,true,true,false,false,false,false] rfl rfl rfl rfl (by kernel_rfl) (by decide) (by decide) (fun K hK => ?_) (fun K hK => ?_)
       ·
        skip
        have hrl : Row Y1 70 5 (.slice la T.ls.length lc) T.ls.length (T.ls.flatMap EL.cs) T.ol:=by have h:=(C4.out.below HBY1.out).st.tb.v.rl;rw [HLV.out] at h;exact h
        have hone:=cs_one (C4.out.below HBY1.out).st.tb.v
        obtain ⟨v8,Y1_8,ob8,hrun,hrow,hob,hfr⟩:=app_row (P:=Try.prog) Y1 28 28 70 5 64 Try.underlying28 (by kernel_rfl) (by omega) (by omega) (.slice (some ⟨V4.heap.size,0,none⟩) 0 0) (.slice la i lc) 0 i [] ((T.ls.flatMap EL.cs).take (i * 5)) none T.ol (row_nil _ _ _ _) (row_take hrl hPL) (by omega) (fun x hx => hone x (List.mem_of_mem_take hx))
        refine value_ (w1:=Y1_8) (v:=v8) (by rfl) rfl ?_ ?_
        ·
         exact run_append_op (.tmp 50) (.tmp 56) 28 28 rfl _ _ rfl rfl hrun
        have HBY1_8:=Aside0.mk (below_then HBY1.out HBY1.out.size (fr_none hfr))
        rw [Nat.zero_add,List.nil_append] at hrow
        have HRY1_8:=Aside0.mk hrow
        have HO8:=Aside0.mk (show ∀ k_,ob8 = some k_ → V4.heap.size ≤ k_ from fun k_ hk_ => by rcases hob with h|h;(rw [h] at hk_;cases hk_);(have h1:=h k_ hk_;have h2:=HBY1.out.size;omega))
        clear hrl hone hrun hrow hob hfr hHeld
        refine hK.out _ _ ⟨(HSF.out Y1_8 HBY1_8.out).1,(HSF.out Y1_8 HBY1_8.out).2.1,(HSF.out Y1_8 HBY1_8.out).2.2.1,(HSF.out Y1_8 HBY1_8.out).2.2.2.1,(HSF.out Y1_8 HBY1_8.out).2.2.2.2.1,(HSF.out Y1_8 HBY1_8.out).2.2.2.2.2⟩ (fun hHeld => ?_)
        clear hK K
        refine mq ?_
        refine nq 10 (some 59) fun K hK => ?_
        refine vq ?_
        have hb_:=below_alloc (Below.refl Y1_8.heap.size Y1_8) (.cells #[.string r.f4,.int .i64 0,.int .i64 (-1),.int .i64 0,.slice (some ⟨n1,0,none⟩) 0 0] 70 (0,0))
        have HBY1_8_10:=Aside0.mk (below_then HBY1_8.out HBY1_8.out.size hb_)
        have HGY1_8_10:=Aside0.mk (heap_alloc_new Y1_8 (.cells #[.string r.f4,.int .i64 0,.int .i64 (-1),.int .i64 0,.slice (some ⟨n1,0,none⟩) 0 0] 70 (0,0)))
        have HRY1_8_10:=Aside0.mk (HRY1_8.out.kept (fun b_ hb2_ => hb_.block b_ (HRY1_8.out.lt b_ hb2_)))
        clear hb_ hHeld
        generalize Y1_8.alloc _ = Y1_8_10 at HBY1_8_10 HGY1_8_10 HRY1_8_10 ⊢
        refine hK.out _ _ ⟨(HSF.out Y1_8_10 HBY1_8_10.out).1,(HSF.out Y1_8_10 HBY1_8_10.out).2.1,(HSF.out Y1_8_10 HBY1_8_10.out).2.2.1,(HSF.out Y1_8_10 HBY1_8_10.out).2.2.2.1,(HSF.out Y1_8_10 HBY1_8_10.out).2.2.2.2.1,(HSF.out Y1_8_10 HBY1_8_10.out).2.2.2.2.2⟩ (fun hHeld => ?_)
        clear hK K
        refine mq ?_
        exact norm_ (by simp only [putAll,Act.put,List.setIfInBounds_toArray,List.set_cons_zero,List.set_cons_succ]) (hCont (.slice (some ⟨V4.heap.size,0,none⟩) 0 0,v8,Y1_8.heap.size) _ ⟨HBY1_8_10.out,⟨ob8,HRY1_8_10.out,HO8.out⟩,HGY1_8_10.out,HBY1_8.out.size⟩)
       ·
        skip
        refine vq ?_
        have hb_:=below_alloc (Below.refl Y1.heap.size Y1) (.cells #[.string r.f4,.int .i64 0,.int .i64 (-1),.int .i64 0,.slice (some ⟨n1,0,none⟩) 0 0] 70 (0,0))
        have HBY1_10:=Aside0.mk (below_then HBY1.out HBY1.out.size hb_)
        have HGY1_10:=Aside0.mk (heap_alloc_new Y1 (.cells #[.string r.f4,.int .i64 0,.int .i64 (-1),.int .i64 0,.slice (some ⟨n1,0,none⟩) 0 0] 70 (0,0)))
        clear hb_ hHeld
        generalize Y1.alloc _ = Y1_10 at HBY1_10 HGY1_10 ⊢
        refine hK.out _ _ ⟨(HSF.out Y1_10 HBY1_10.out).1,(HSF.out Y1_10 HBY1_10.out).2.1,(HSF.out Y1_10 HBY1_10.out).2.2.1,(HSF.out Y1_10 HBY1_10.out).2.2.2.1,(HSF.out Y1_10 HBY1_10.out).2.2.2.2.1,(HSF.out Y1_10 HBY1_10.out).2.2.2.2.2⟩ (fun hHeld => ?_)
        clear hK K
        refine mq ?_
        refine nq 8 (some 57) fun K hK => ?_
        have hrl : Row Y1_10 70 5 (.slice la T.ls.length lc) T.ls.length (T.ls.flatMap EL.cs) T.ol:=by have h:=(C4.out.below HBY1_10.out).st.tb.v.rl;rw [HLV.out] at h;exact h
        have hone:=cs_one (C4.out.below HBY1_10.out).st.tb.v
        obtain ⟨v8,Y1_10_8,ob8,hrun,hrow,hob,hfr⟩:=app_row (P:=Try.prog) Y1_10 28 28 70 5 64 Try.underlying28 (by kernel_rfl) (by omega) (by omega) (.slice (some ⟨V4.heap.size,0,none⟩) 0 0) (.slice la i lc) 0 i [] ((T.ls.flatMap EL.cs).take (i * 5)) none T.ol (row_nil _ _ _ _) (row_take hrl hPL) (by omega) (fun x hx => hone x (List.mem_of_mem_take hx))
        refine value_ (w1:=Y1_10_8) (v:=v8) (by rfl) rfl ?_ ?_
        ·
         exact run_append_op (.tmp 50) (.tmp 56) 28 28 rfl _ _ rfl rfl hrun
        have HBY1_10_8:=Aside0.mk (below_then HBY1_10.out HBY1_10.out.size (fr_none hfr))
        rw [Nat.zero_add,List.nil_append] at hrow
        have HRY1_10_8:=Aside0.mk hrow
        have HO8:=Aside0.mk (show ∀ k_,ob8 = some k_ → V4.heap.size ≤ k_ from fun k_ hk_ => by rcases hob with h|h;(rw [h] at hk_;cases hk_);(have h1:=h k_ hk_;have h2:=HBY1_10.out.size;omega))
        have HGY1_10_8:=Aside0.mk (((fr_none hfr).block _ (blk_lt HGY1_10.out)).trans HGY1_10.out)
        clear hrl hone hrun hrow hob hfr hHeld
        refine hK.out _ _ ⟨(HSF.out Y1_10_8 HBY1_10_8.out).1,(HSF.out Y1_10_8 HBY1_10_8.out).2.1,(HSF.out Y1_10_8 HBY1_10_8.out).2.2.1,(HSF.out Y1_10_8 HBY1_10_8.out).2.2.2.1,(HSF.out Y1_10_8 HBY1_10_8.out).2.2.2.2.1,(HSF.out Y1_10_8 HBY1_10_8.out).2.2.2.2.2⟩ (fun hHeld => ?_)
        clear hK K
        refine mq ?_
        exact norm_ (by simp only [putAll,Act.put,List.setIfInBounds_toArray,List.set_cons_zero,List.set_cons_succ]) (hCont (.slice (some ⟨V4.heap.size,0,none⟩) 0 0,v8,Y1.heap.size) _ ⟨HBY1_10_8.out,⟨ob8,HRY1_10_8.out,HO8.out⟩,HGY1_10_8.out,HBY1.out.size⟩)
      ·
       skip
       refine vq ?_
       have hb_:=below_alloc (Below.refl V4.heap.size V4) (.cells #[.string r.f4,.int .i64 0,.int .i64 (-1),.int .i64 0,.slice (some ⟨n1,0,none⟩) 0 0] 70 (0,0))
       have HBY10:=Aside0.mk (below_then HBV4.out HBV4.out.size hb_)
       have HGY10:=Aside0.mk (heap_alloc_new V4 (.cells #[.string r.f4,.int .i64 0,.int .i64 (-1),.int .i64 0,.slice (some ⟨n1,0,none⟩) 0 0] 70 (0,0)))
       clear hb_ hHeld
       generalize V4.alloc _ = Y10 at HBY10 HGY10 ⊢
       refine hK.out _ _ ⟨(HSF.out Y10 HBY10.out).1,(HSF.out Y10 HBY10.out).2.1,(HSF.out Y10 HBY10.out).2.2.1,(HSF.out Y10 HBY10.out).2.2.2.1,(HSF.out Y10 HBY10.out).2.2.2.2.1,(HSF.out Y10 HBY10.out).2.2.2.2.2⟩ (fun hHeld => ?_)
       clear hK K
       refine mq ?_
       refine nq 1 (some 50) fun K hK => ?_
       refine vq ?_
       have hb_:=below_alloc (Below.refl Y10.heap.size Y10) (.cells #[] 70 (0,0))
       have HBY10_1:=Aside0.mk (below_then HBY10.out HBY10.out.size hb_)
       have HGY10_1:=Aside0.mk ((hb_.block _ (blk_lt HGY10.out)).trans HGY10.out)
       clear hb_ hHeld
       generalize Y10.alloc _ = Y10_1 at HBY10_1 HGY10_1 ⊢
       refine hK.out _ _ ⟨(HSF.out Y10_1 HBY10_1.out).1,(HSF.out Y10_1 HBY10_1.out).2.1,(HSF.out Y10_1 HBY10_1.out).2.2.1,(HSF.out Y10_1 HBY10_1.out).2.2.2.1,(HSF.out Y10_1 HBY10_1.out).2.2.2.2.1,(HSF.out Y10_1 HBY10_1.out).2.2.2.2.2⟩ (fun hHeld => ?_)
       clear hK K
       refine mq ?_
       refine nq 8 (some 57) fun K hK => ?_
       have hrl : Row Y10_1 70 5 (.slice la T.ls.length lc) T.ls.length (T.ls.flatMap EL.cs) T.ol:=by have h:=(C4.out.below HBY10_1.out).st.tb.v.rl;rw [HLV.out] at h;exact h
       have hone:=cs_one (C4.out.below HBY10_1.out).st.tb.v
       obtain ⟨v8,Y10_1_8,ob8,hrun,hrow,hob,hfr⟩:=app_row (P:=Try.prog) Y10_1 28 28 70 5 64 Try.underlying28 (by kernel_rfl) (by omega) (by omega) (.slice (some ⟨Y10.heap.size,0,none⟩) 0 0) (.slice la i lc) 0 i [] ((T.ls.flatMap EL.cs).take (i * 5)) none T.ol (row_nil _ _ _ _) (row_take hrl hPL) (by omega) (fun x hx => hone x (List.mem_of_mem_take hx))
       refine value_ (w1:=Y10_1_8) (v:=v8) (by rfl) rfl ?_ ?_
       ·
        exact run_append_op (.tmp 50) (.tmp 56) 28 28 rfl _ _ rfl rfl hrun
       have HBY10_1_8:=Aside0.mk (below_then HBY10_1.out HBY10_1.out.size (fr_none hfr))
       rw [Nat.zero_add,List.nil_append] at hrow
       have HRY10_1_8:=Aside0.mk hrow
       have HO8:=Aside0.mk (show ∀ k_,ob8 = some k_ → V4.heap.size ≤ k_ from fun k_ hk_ => by rcases hob with h|h;(rw [h] at hk_;cases hk_);(have h1:=h k_ hk_;have h2:=HBY10_1.out.size;omega))
       have HGY10_1_8:=Aside0.mk (((fr_none hfr).block _ (blk_lt HGY10_1.out)).trans HGY10_1.out)
       clear hrl hone hrun hrow hob hfr hHeld
       refine hK.out _ _ ⟨(HSF.out Y10_1_8 HBY10_1_8.out).1,(HSF.out Y10_1_8 HBY10_1_8.out).2.1,(HSF.out Y10_1_8 HBY10_1_8.out).2.2.1,(HSF.out Y10_1_8 HBY10_1_8.out).2.2.2.1,(HSF.out Y10_1_8 HBY10_1_8.out).2.2.2.2.1,(HSF.out Y10_1_8 HBY10_1_8.out).2.2.2.2.2⟩ (fun hHeld => ?_)
       clear hK K
       refine mq ?_
       exact norm_ (by simp only [putAll,Act.put,List.setIfInBounds_toArray,List.set_cons_zero,List.set_cons_succ]) (hCont (.slice (some ⟨Y10.heap.size,0,none⟩) 0 0,v8,V4.heap.size) _ ⟨HBY10_1_8.out,⟨ob8,HRY10_1_8.out,HO8.out⟩,HGY10_1_8.out,HBV4.out.size⟩)
     rintro ⟨e1_,v8,m10⟩ V5 ⟨hb5,⟨ob8,hr8,ho8⟩,hg10,hm10⟩
     have HBV5:=Aside0.mk hb5
     have HR8:=Aside0.mk hr8
     have HO8:=Aside0.mk ho8
     have HG10:=Aside0.mk hg10
     have HM10:=Aside0.mk hm10
     clear hb5 hr8 ho8 hg10 hm10
     have hHeld:=HSF.out V5 HBV5.out
     refine mq ?_
     refine nq 11 (some 60) fun K hK => ?_
     obtain ⟨v11,V6,ob11,hrun,hrow,hob,hfr⟩:=app_row (P:=Try.prog) V5 28 28 70 5 64 Try.underlying28 (by kernel_rfl) (by omega) (by omega) v8 (.slice (some ⟨m10,0,none⟩) 1 1) i 1 ((T.ls.flatMap EL.cs).take (i * 5)) [.string r.f4,.int .i64 0,.int .i64 (-1),.int .i64 0,.slice (some ⟨n1,0,none⟩) 0 0] ob8 (some m10) HR8.out (row_one HG10.out rfl) (by omega) NONE1.out
     refine value_ (w1:=V6) (v:=v11) (by rfl) rfl ?_ ?_
     ·
      exact run_append_op (.tmp 57) (.tmp 59) 28 28 rfl _ _ rfl rfl hrun
     have HBV6:=Aside0.mk (HBV5.out.trans (hfr.to_below HBV5.out.size (fun x hx => HO8.out x hx)))
     have HR11:=Aside0.mk hrow
     have HO11:=Aside0.mk (show ∀ k_,ob11 = some k_ → V4.heap.size ≤ k_ from fun k_ hk_ => by rcases hob with h|h;(exact HO8.out k_ (h ▸ hk_));(have h1:=h k_ hk_;have h2:=HBV5.out.size;omega))
     clear hrun hrow hob hfr hHeld
     refine hK.out _ _ ⟨(HSF.out V6 HBV6.out).1,(HSF.out V6 HBV6.out).2.1,(HSF.out V6 HBV6.out).2.2.1,(HSF.out V6 HBV6.out).2.2.2.1,(HSF.out V6 HBV6.out).2.2.2.2.1,(HSF.out V6 HBV6.out).2.2.2.2.2⟩ (fun hHeld => ?_)
     clear hK K
     refine mq ?_
     refine nq 18 (some 67) fun K hK => ?_
     have hrl : Row V6 70 5 (.slice la T.ls.length lc) T.ls.length (T.ls.flatMap EL.cs) T.ol:=by have h:=(C4.out.below HBV6.out).st.tb.v.rl;rw [HLV.out] at h;exact h
     have hone:=cs_one (C4.out.below HBV6.out).st.tb.v
     have hdr:=row_dropA hrl hPL
     obtain ⟨v18,V7,ob18,hrun,hrow,hob,hfr⟩:=app_row (P:=Try.prog) V6 28 28 70 5 64 Try.underlying28 (by kernel_rfl) (by omega) (by omega) v11 (.slice (if lc = i then la else Option.map (fun x => x.add (i * 5)) la) (T.ls.length - i) (lc - i)) (i + 1) (T.ls.length - i) _ _ ob11 _ HR11.out hdr (by omega) (fun x hx => hone x (List.mem_of_mem_drop hx))
     obtain ⟨va,vc,rfl⟩:=hrow.slice
     refine value_ (w1:=V7) (v:=.slice va (i + 1 + (T.ls.length - i)) vc) (by rfl) rfl ?_ ?_
     ·
      exact run_append_op (.tmp 60) (.tmp 66) 28 28 rfl _ _ rfl rfl hrun
     have HBV7:=Aside0.mk (HBV6.out.trans (hfr.to_below HBV6.out.size (fun x hx => HO11.out x hx)))
     have HR18:=Aside0.mk hrow
     have HO18:=Aside0.mk (show ∀ k_,ob18 = some k_ → V4.heap.size ≤ k_ from fun k_ hk_ => by rcases hob with h|h;(exact HO11.out k_ (h ▸ hk_));(have h1:=h k_ hk_;have h2:=HBV6.out.size;omega))
     clear hrun hrow hob hfr hHeld hrl hone hdr
     obtain ⟨-,-,y2,-,-,-,z2,-⟩:=(C4.out.below HBV7.out).st.tb.cells
     rw [HLV.out] at y2
     refine hK.out _ _ ⟨(HSF.out V7 HBV7.out).1,(HSF.out V7 HBV7.out).2.1,(HSF.out V7 HBV7.out).2.2.1,(HSF.out V7 HBV7.out).2.2.2.1,(HSF.out V7 HBV7.out).2.2.2.2.1,(HSF.out V7 HBV7.out).2.2.2.2.2⟩ (fun hHeld => ?_)
     clear hK K
     refine mq ?_
     refine pq 19 (some 68) ?_
     refine pq 20 (some 69) ?_
     refine lq 21 none fun K hK => ?_
     refine sq ?_
     refine hK.out _ _ ?_
     clear hK K
     refine done_ (by kernel_rfl) ?_
     (try clear hHeld)
     (try clear HV)
     obtain ⟨ne,hne⟩ : ∃ ne : EL,ne = ⟨newL r.f4,.slice (some ⟨n1,0,none⟩) 0 0,none⟩:=⟨_,rfl⟩
     obtain ⟨A,hA⟩ : ∃ A,A = T.ls.take i:=⟨_,rfl⟩
     obtain ⟨B,hB⟩ : ∃ B,B = T.ls.drop i:=⟨_,rfl⟩
     have hpl : A.length = i:=by rw [hA,List.length_take];omega
     have hN : i + 1 + (T.ls.length - i) = (A ++ ne :: B).length:=by rw [List.length_append,List.length_cons,hpl,hB,List.length_drop];omega
     have hrw : Row V7 70 5 (.slice va (A ++ ne :: B).length vc) (A ++ ne :: B).length ((A ++ ne :: B).flatMap EL.cs) ob18:=by
      have h:=HR18.out
      rw [hN,(flat_take (f:=EL.cs) (sz:=5) (fun x => rfl) T.ls i).1,(flat_take (f:=EL.cs) (sz:=5) (fun x => rfl) T.ls i).2,← hA,← hB] at h
      rw [cs_mid,hne]
      rw [hne] at h
      simp only [List.append_assoc] at h
      exact h
     have hS5:=St.locks (St.refl C4.out.st.tb) (A ++ ne :: B) (.slice va (A ++ ne :: B).length vc) ob18 (Fr.of_below HBV7.out) hrw (.inr HO18.out) (fun e he => by
      have he : e ∈ A ∨ e = ne ∨ e ∈ B:=by simpa using he
      rcases he with he|rfl|he
      ·
       exact .inl (List.mem_of_mem_take (hA ▸ he))
      ·
       refine .inr ⟨by rw [hne],?_⟩
       rw [hne]
       exact row_nil _ _ _ _
      ·
       exact .inl (List.mem_of_mem_drop (hB ▸ he))) (by
      rw [hA,hB]
      have hap:=C4.out.st.tb.v.ap
      unfold Tv.blocks at hap
      rw [List.pairwise_cons,List.pairwise_cons] at hap
      exact pair_ins hap.2.2 (by rw [hne]))
     rw [hN]
     obtain ⟨T2,hT2⟩ : ∃ T2 : Tv,T2 = { T with ls:=A ++ ne :: B,vl:=.slice va (A ++ ne :: B).length vc,ol:=ob18 }:=⟨_,rfl⟩
     rw [← hT2] at hS5
     have D5:=Aside0.mk (C4.out.step hS5)
     have hls : T2.ls = A ++ ne :: B:=by rw [hT2]
     have HLS:=Aside0.mk hls
     have HT2:=Aside0.mk (show T2.tm = T.tm ∧ T2.nx = T.nx ∧ T2.ss = T.ss by rw [hT2];exact ⟨rfl,rfl,rfl⟩)
     have HA:=Aside0.mk hA
     have HB:=Aside0.mk hB
     have HPA:=Aside0.mk hpl
     clear hS5 hrw y2 z2 hT2 hN
     generalize V7.setCell ⟨g,2,none⟩ (.slice va (A ++ ne :: B).length vc) = W5 at D5 ⊢
     obtain ⟨b',o',c',hv,hat⟩:=D5.out.st.tb.v.at_ hls
     rw [hpl] at hat
     have HAT:=Aside0.mk hat
     have HV2:=Aside0.mk hv
     have x2:=D5.out.st.tb.cells.2.2.1
     rw [hv] at x2
     have hplt : i < T2.ls.length:=by rw [hls,List.length_append,List.length_cons];omega
     have p0 : ((i : Int) < (T2.ls.length : Int)) = True:=eq_true (by omega)
     have p1 : (0 ≤ (i : Int)) = True:=eq_true (by omega)
     clear hls hA hB hpl hat hv
     (try clear p2)
     (try generalize (Value.slice (if lc = i then la else Option.map (fun x => x.add (i * 5)) la) (T.ls.length - i) (lc - i)) = vdr_)
     go_upto_region 11 with fail
     clear x2 hplt
     have D6:=Aside0.mk (D5.out.below (below_drew (Below.refl _ _)))
     obtain ⟨x0,x1,x2,x3,x4,-,-,-,-,-⟩:=HAT.out.cells D6.out.st.tb.v
     rw [hne] at x0 x1 x2 x3 x4
     simp only [newL] at x0 x1 x2 x3 x4
     obtain ⟨r0,-,-,-,-⟩:=D6.out.rqs
     have q0 : ((-1 : Int) == r.f0) = false:=by simp;omega
     have HNE:=Aside0.mk hne
     have HMEM:=Aside0.mk (show ne ∈ T2.ls by rw [HLS.out];simp)
     clear hne
     refine start_ (n:=17) (S:=fun w' => w'.cell? ⟨b',o' + i * 5,none⟩ = some (.string r.f4) ∧ w'.cell? ⟨b',o' + i * 5 + 1,none⟩ = some (.int .i64 0) ∧ w'.cell? ⟨b',o' + i * 5 + 2,none⟩ = some (.int .i64 (-1)) ∧ w'.cell? ⟨b',o' + i * 5 + 3,none⟩ = some (.int .i64 0) ∧ w'.cell? ⟨b',o' + i * 5 + 4,none⟩ = some (.slice (some ⟨n1,0,none⟩) 0 0) ∧ w'.cell? ⟨w.heap.size,0,none⟩ = some (.int .i64 r.f0)) (ds:=[]) #[false,false,false,false,false,false,false,false,false,false,false,false,false,false,false,false,false] (by kernel_rfl) rfl rfl ⟨x0,x1,x2,x3,x4,r0⟩ (fun hHeld => ?_)
     clear x0 x1 x2 x3 x4 r0
     generalize W5.drew = V6 at D6 hHeld ⊢
     refine pq 0 (some 77) ?_
     refine pq 1 (some 78) ?_
     refine pq 2 (some 79) ?_
     refine pq 4 (some 81) ?_
     refine tq 3 (some 80) hHeld ?_
     refine tq 5 (some 82) hHeld ?_
     refine pq 6 (some 83) ?_
     refine pq 7 (some 84) ?_
     refine pq 8 (some 85) ?_
     refine pq 9 (some 86) ?_
     refine pq 11 (some 88) ?_
     refine tq 10 (some 87) hHeld ?_
     refine tq 12 (some 89) hHeld ?_
     refine nq 13 (some 90) fun K hK => ?_
     have hq:=swaits_calls ne r.f0 V6 (D6.out.st.tb.v.rw ne HMEM.out) (by rw [HNE.out];show 0 ≤ 1000;omega)
     rw [HNE.out] at hq
     unfold elV newL at hq
     simp only at hq
     rw [show waitsF r.f0 [] 0 = -1 from rfl] at hq
     refine goes_ Try.func112 (by kernel_rfl) rfl #[.agg #[.string r.f4,.int .i64 0,.int .i64 (-1),.int .i64 0,.slice (some ⟨n1,0,none⟩) 0 0],.int .i64 r.f0] (by rfl) rfl rfl (by simp only [List.map_toArray,List.map_cons,List.map_nil];rfl) ?_
     with_reducible refine (hq).mono ?_
     rintro _ W7 ⟨rfl,hb⟩
     refine ⟨_,rfl,?_⟩
     have D7:=Aside0.mk (D6.out.below hb)
     obtain ⟨x0,x1,x2,x3,x4,-,-,-,-,-⟩:=HAT.out.cells D7.out.st.tb.v
     rw [HNE.out] at x0 x1 x2 x3 x4
     simp only [newL] at x0 x1 x2 x3 x4
     obtain ⟨r0,-,-,-,-⟩:=D7.out.rqs
     clear hq hb hHeld
     refine hK.out _ _ ⟨x0,x1,x2,x3,x4,r0⟩ (fun hHeld => ?_)
     clear hK K
     refine mq ?_
     refine pq 14 (some 91) ?_
     refine pq 15 (some 92) ?_
     refine pq 16 (some 76) ?_
     refine done_ (by kernel_rfl) ?_
     clear hHeld r0 x0 x1 x3 x4
     (try simp only [show decide ((0 : Int) ≤ -1) = false from rfl])
     obtain ⟨r0,-,-,r3,-⟩:=D7.out.rqs
     have q2 : decide ((-1 : Int) < 0) = true:=rfl
     go_wp2_with fail
     have hq:=sgrant_calls g W7 T2 A ne B b' o' c' i r.f0 r.f3 D7.out.st.tb HV2.out HPA.out HAT.out (by have:=H0.out;have:=HT2.out;omega) (by have:=H1.out;have:=HT2.out;omega) (by have:=HR3.out;omega)
     with_reducible refine hq.mono ?_
     clear hq
     rintro _ W8 ⟨rfl,hs8⟩
     obtain ⟨e8,he8⟩ : ∃ e8 : EL,e8 = ⟨⟨r.f4,T2.nx,r.f0,T2.tm + r.f3,[]⟩,.slice (some ⟨n1,0,none⟩) 0 0,none⟩:=⟨_,rfl⟩
     have he8' : ({ ne with x:=grX ne.x T2.tm T2.nx r.f0 r.f3 } : EL) = e8:=by rw [HNE.out,he8];rfl
     rw [he8'] at hs8
     obtain ⟨T8,hT8⟩ : ∃ T8 : Tv,T8 = { T2 with nx:=T2.nx + 1,ls:=A ++ e8 :: B }:=⟨_,rfl⟩
     have C8 : Aside0 (Ctx g w T r W8 T8):=⟨by rw [hT8];exact D7.out.step hs8⟩
     have HAT8 : Aside0 (At T8 A e8 B b' (o' + i * 5)):=⟨by rw [hT8];exact (HAT.out.put e8).next (T2.nx + 1)⟩
     have HLS8:=Aside0.mk (show T8.ls = A ++ e8 :: B by rw [hT8])
     have y2:=C8.out.st.tb.cells.2.2.1
     rw [show T8.vl = .slice (some ⟨b',o',none⟩) T2.ls.length c' by rw [hT8];exact HV2.out] at y2
     have HQ8:=Aside0.mk hT8
     have HE8:=Aside0.mk he8
     obtain ⟨t0,t1,t2,t3,t4,-,-,-,-,-⟩:=HAT8.out.cells C8.out.st.tb.v
     rw [he8] at t0 t1 t2 t3 t4
     simp only at t0 t1 t2 t3 t4
     have hq:=stell_calls 1 e8 W8 (C8.out.st.tb.v.rw e8 (by rw [HLS8.out];exact List.mem_append_right _ List.mem_cons_self))
     rw [he8] at hq
     unfold elV tellA anV at hq
     simp only at hq
     have HQ:=Aside0.mk hq
     clear hs8 r0 r3 x2 hT8 he8 he8' hq
     go_wp2_with fail
     with_reducible refine HQ.out.mono ?_
     rintro _ Wt ⟨rfl,hb⟩
     have Ct:=Aside0.mk (C8.out.below hb)
     clear hb t0 t1 t2 t3 t4 HQ y2
     obtain ⟨n0,n1,n2,n3,m0,m1,m2,m3⟩:=Ct.out.ans
     go_wp2_with fail
     obtain ⟨hd,hst⟩:=Ct.out.done ⟨1,T2.nx,r.f0,T2.tm + r.f3⟩
     refine bodyPost_ret (results_cell_row rfl _ _ (w.heap.size + 1) 75 _ (0,0) _ rfl hd Try.underlying75 rfl (by kernel_rfl)) rfl ?_
     exact ⟨_,T8,rfl,by rw [HQ8.out];exact HT2.out.1,by rw [HQ8.out];exact HT2.out.2.2,by rw [HACQ.out,HQ8.out,← HT2.out.1,← HT2.out.2.1,acq1_new rfl HR0.out];show ((A ++ e8 :: B).map EL.x,T2.nx + 1,_) = _;rw [putAt_split (e':=e8) HA.out HB.out,HE8.out];rfl,hst⟩
end Go.Proofs.Ytjkanhjapddhnaa.SAcq
