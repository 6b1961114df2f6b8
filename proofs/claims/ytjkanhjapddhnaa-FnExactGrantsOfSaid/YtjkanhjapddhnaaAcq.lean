/- The implementation's acquire, walked by hand (written by mkacq.py). No condition. -/
-- squeezed
import Derived.Test.YtjkanhjapddhnaaCtx
import Derived.Test.YtjkanhjapddhnaaGr
namespace Go.Proofs.Ytjkanhjapddhnaa.Acq
open Go.RowKit Go.Lib Go.Proofs.YtjkanhjapddhnaaV.PrintWords Go.Proofs.YtjkanhjapddhnaaV.PrintMore Go.Proofs.YtjkanhjapddhnaaV.PrintLast Go.Proofs.Ytjkanhjapddhnaa.Sq Go.Proofs.Ytjkanhjapddhnaa.Own Go.Proofs.Ytjkanhjapddhnaa.MarkT Go.Proofs.Ytjkanhjapddhnaa.Tb Go.Proofs.Ytjkanhjapddhnaa.Gr Go.Proofs.Ytjkanhjapddhnaa.Find Go.Proofs.Ytjkanhjapddhnaa.Pos Go.Proofs.Ytjkanhjapddhnaa.Pu Go.Proofs.Ytjkanhjapddhnaa.Ctx Go.Proofs.Ytjkanhjapddhnaa.InsR Go.Proofs.Ytjkanhjapddhnaa.PFnExactRunRequests
set_option linter.unusedVariables false
set_option linter.unusedSimpArgs false
set_option maxHeartbeats 20000000
set_option maxRecDepth 100000
theorem acq1_new {nm : ByteArray} {x : IL} {r : RQ} {tm nx : Int} (hx : x = newL nm) (hr : 0 ≤ r.f0) : acq1 tm nx (newL nm) r = (grX x tm nx r.f0 r.f3,nx + 1,tellA 1 (grX x tm nx r.f0 r.f3)):=by
 subst hx
 rw [acq1,if_neg (by rintro (h|h);(have h : (-1 : Int) = r.f0:=h;omega);exact absurd h (by show ¬ (0 : Int) ≤ -1;omega)),if_pos (show (newL nm).f2 = -1 from rfl)]
theorem acquire_calls (g : Nat) (w : World) (T : Tv) (r : RQ) (hT : TB w g T) (h0 : 0 ≤ T.tm ∧ T.tm ≤ 1000000000) (h1 : 0 ≤ T.nx ∧ T.nx ≤ 1000000) (h4 : T.ls.length ≤ 4) (hs : sortB (T.ls.map EL.x)) (hw4 : ∀ e ∈ T.ls,e.x.f4.length ≤ 4) (hr0 : 0 ≤ r.f0) (hr3 : 0 ≤ r.f3 ∧ r.f3 ≤ 1000) :
  Calls Try.prog 117 #[.pointer (some ⟨g,0,none⟩),rqV r] w fun o w' => ∃ a T',o = .returned (anV a) ∧ T'.tm = T.tm ∧ T'.ss = T.ss ∧ (T'.ls.map EL.x,T'.nx,a) = acqX T.tm T.nx (T.ls.map EL.x) r ∧ St g w T w' T':=by
 have C0:=Aside0.mk (Ctx.start hT r)
 have HT:=Aside0.mk hT
 have H0:=Aside0.mk h0
 have H1:=Aside0.mk h1
 have H4:=Aside0.mk h4
 have HS:=Aside0.mk hs
 have HW4:=Aside0.mk hw4
 have HR3:=Aside0.mk hr3
 have HR0:=Aside0.mk hr0
 clear hT h0 h1 h4 hs hw4 hr3
 unfold rqV
 go_enter Try.func117,Try.ntmps117
 go_upto_region 1 with fail
 change Code.wp _ _ _ _ ((w.alloc (rqO r)).alloc (anO ⟨0,0,0,0⟩))
 generalize (w.alloc (rqO r)).alloc (anO ⟨0,0,0,0⟩) = W0 at C0 ⊢
 obtain ⟨r0,r1,r2,r3,r4⟩:=C0.out.rqs
 go_wp2_with fail
 with_reducible refine (findB_calls g W0 T r.f4 C0.out.st.tb H4.out HS.out).mono ?_
 rintro _ W1 ⟨rfl,hb⟩
 have C1:=Aside0.mk (C0.out.below hb)
 clear hb r0 r1 r2 r3 r4
 obtain ⟨p,hp⟩ : ∃ p,p = posB r.f4 (T.ls.map EL.x):=⟨_,rfl⟩
 have HP:=Aside0.mk hp
 rw [← hp]
 clear hp
 by_cases hth : thereB r.f4 (T.ls.map EL.x) = true
 ·
  have hplt : p < T.ls.length:=by
   have:=there_lt hth
   rw [← HP.out] at this
   simpa using this
  obtain ⟨e,hls,hex,hpl⟩:=lock_split hplt
  have hacq : acqX T.tm T.nx (T.ls.map EL.x) r = putAt (T.ls.map EL.x) p (p + 1) (acq1 T.tm T.nx e.x r):=by
   rw [acqX,if_pos hth,← HP.out,hex]
  have HACQ:=Aside0.mk hacq
  have HTH:=Aside0.mk hth
  rw [hth]
  clear hth hacq hex
  obtain ⟨W2,hW2⟩ : ∃ W2,W2 = W1:=⟨_,rfl⟩
  have C2:=C1
  rw [← hW2] at C2 ⊢
  clear C1 hW2
  obtain ⟨A,hA⟩ : ∃ A,A = T.ls.take p:=⟨_,rfl⟩
  obtain ⟨B,hB⟩ : ∃ B,B = T.ls.drop (p + 1):=⟨_,rfl⟩
  rw [← hA,← hB] at hls
  rw [← hA] at hpl
  have HLS:=Aside0.mk hls
  have HA:=Aside0.mk hA
  have HB:=Aside0.mk hB
  obtain ⟨b,o,c,hv,hat⟩:=C2.out.st.tb.v.at_ hls
  rw [hpl] at hat
  obtain ⟨q,hq⟩ : ∃ q,q = o + p * 5:=⟨_,rfl⟩
  rw [← hq] at hat
  have HAT:=Aside0.mk hat
  have x2:=C2.out.st.tb.cells.2.2.1
  rw [hv] at x2
  have p0 : ((p : Int) < (T.ls.length : Int)) = True:=eq_true (by omega)
  have p1 : (0 ≤ (p : Int)) = True:=eq_true (by omega)
  clear hls hA hB hpl hat hv
  go_upto_region 7 with fail
  rw [← hq]
  clear hq x2 p0 p1 hplt
  have hww:=C2.out.st.tb.v.rw e (by rw [HLS.out];simp)
  have HE4:=Aside0.mk (HW4.out e (by rw [HLS.out];simp))
  obtain ⟨⟨nm,tok,hol,exp,ws⟩,v_,ob_⟩:=e
  obtain ⟨wa,wcap,hv,hwl,hwk⟩:=hww.reads
  simp only at hv hwl hwk HE4 HACQ
  subst hv
  have C3:=Aside0.mk (C2.out.below (below_drew (Below.refl _ _)))
  have HWK:=Aside0.mk hwk
  obtain ⟨x0,x1,x2,x3,x4,-,-,-,-,-⟩:=HAT.out.cells C3.out.st.tb.v
  simp only at x0 x1 x2 x3 x4
  obtain ⟨r0,-,-,-,-⟩:=C3.out.rqs
  clear hww hwk
  by_cases hhol : hol = r.f0
  ·
   have q0 : (hol == r.f0) = true:=by simpa using hhol
   have HH:=Aside0.mk (show acq1 T.tm T.nx ⟨nm,tok,hol,exp,ws⟩ r = (⟨nm,tok,hol,exp,ws⟩,T.nx,tellA 8 ⟨nm,tok,hol,exp,ws⟩) from if_pos (.inl hhol))
   refine start_ (n:=17) (S:=fun w' => w'.cell? ⟨b,q,none⟩ = some (.string nm) ∧ w'.cell? ⟨b,q + 1,none⟩ = some (.int .i64 tok) ∧ w'.cell? ⟨b,q + 2,none⟩ = some (.int .i64 hol) ∧ w'.cell? ⟨b,q + 3,none⟩ = some (.int .i64 exp) ∧ w'.cell? ⟨b,q + 4,none⟩ = some (.slice wa ws.length wcap) ∧ w'.cell? ⟨w.heap.size,0,none⟩ = some (.int .i64 r.f0)) (ds:=[]) #[false,false,false,false,false,false,false,false,false,false,false,false,false,false,false,false,false] (by kernel_rfl) rfl rfl ⟨x0,x1,x2,x3,x4,r0⟩ (fun hHeld => ?_)
   clear x0 x1 x2 x3 x4 r0
   generalize W2.drew = V at C3 hHeld ⊢
   refine pq 0 (some 44) ?_
   refine pq 1 (some 45) ?_
   refine pq 2 (some 46) ?_
   refine pq 4 (some 48) ?_
   refine tq 3 (some 47) hHeld ?_
   refine tq 5 (some 49) hHeld ?_
   refine pq 6 (some 50) ?_
   refine pq 7 (some 51) ?_
   refine oq 8 (some 52) ?_
   refine oq 9 (some 53) ?_
   refine oq 10 (some 54) ?_
   refine oq 11 (some 55) ?_
   refine oq 12 (some 56) ?_
   refine oq 13 (some 57) ?_
   refine oq 14 (some 58) ?_
   refine pq 15 (some 59) ?_
   refine pq 16 (some 43) ?_
   refine done_ (by kernel_rfl) ?_
   have HHO:=Aside0.mk hhol
   clear hHeld hhol
   obtain ⟨-,t1,t2,t3,-,-,-,-,-,-⟩:=HAT.out.cells C3.out.st.tb.v
   go_wp2_with fail
   with_reducible refine (tell_calls b q _ _ _ 8 _ t1 t2 t3).mono ?_
   rintro _ Wt ⟨rfl,hb⟩
   have Ct:=Aside0.mk (C3.out.below hb)
   clear hb t1 t2 t3
   unfold anV
   obtain ⟨n0,n1,n2,n3,m0,m1,m2,m3⟩:=Ct.out.ans
   go_wp2_with fail
   obtain ⟨hd,hst⟩:=Ct.out.done ⟨8,(⟨nm,tok,hol,exp,ws⟩ : IL).f1,(⟨nm,tok,hol,exp,ws⟩ : IL).f2,(⟨nm,tok,hol,exp,ws⟩ : IL).f3⟩
   refine bodyPost_ret (results_cell_row rfl _ _ (w.heap.size + 1) 75 _ (0,0) _ rfl hd Try.underlying75 rfl (by kernel_rfl)) rfl ?_
   exact ⟨_,T,rfl,rfl,rfl,by rw [HACQ.out,HH.out,← putAt_split (e':=⟨⟨nm,tok,hol,exp,ws⟩,.slice wa ws.length wcap,ob_⟩) HA.out HB.out,← HLS.out];rfl,hst⟩
  ·
   have q0 : (hol == r.f0) = false:=by simpa using hhol
   have HNH:=Aside0.mk hhol
   clear hhol
   obtain ⟨wf,hwf⟩ : ∃ wf,wf = waitsF r.f0 ws 0:=⟨_,rfl⟩
   have HWF:=Aside0.mk hwf
   clear hwf
   have HWK3:=Aside0.mk (Kd.C_below HWK.out (below_drew (Below.refl _ _)))
   refine start_ (n:=17) (S:=fun w' => w'.cell? ⟨b,q,none⟩ = some (.string nm) ∧ w'.cell? ⟨b,q + 1,none⟩ = some (.int .i64 tok) ∧ w'.cell? ⟨b,q + 2,none⟩ = some (.int .i64 hol) ∧ w'.cell? ⟨b,q + 3,none⟩ = some (.int .i64 exp) ∧ w'.cell? ⟨b,q + 4,none⟩ = some (.slice wa ws.length wcap) ∧ w'.cell? ⟨w.heap.size,0,none⟩ = some (.int .i64 r.f0)) (ds:=[]) #[false,false,false,false,false,false,false,false,false,false,false,false,false,false,false,false,false] (by kernel_rfl) rfl rfl ⟨x0,x1,x2,x3,x4,r0⟩ (fun hHeld => ?_)
   clear x0 x1 x2 x3 x4 r0
   generalize W2.drew = V at C3 HWK3 hHeld ⊢
   refine pq 0 (some 44) ?_
   refine pq 1 (some 45) ?_
   refine pq 2 (some 46) ?_
   refine pq 4 (some 48) ?_
   refine tq 3 (some 47) hHeld ?_
   refine tq 5 (some 49) hHeld ?_
   refine pq 6 (some 50) ?_
   refine pq 7 (some 51) ?_
   refine pq 8 (some 52) ?_
   refine pq 9 (some 53) ?_
   refine pq 11 (some 55) ?_
   refine tq 10 (some 54) hHeld ?_
   refine tq 12 (some 56) hHeld ?_
   refine nq 13 (some 57) fun K hK => ?_
   refine goes_ Try.func76 (by kernel_rfl) rfl #[.agg #[.string nm,.int .i64 tok,.int .i64 hol,.int .i64 exp,.slice wa ws.length wcap],.int .i64 r.f0] (by rfl) rfl rfl (by simp only [List.map_toArray,List.map_cons,List.map_nil];rfl) ?_
   with_reducible refine (waits_calls nm tok hol exp wa wcap ws r.f0 _ HWK3.out).mono ?_
   rintro _ W4 ⟨rfl,hb⟩
   refine ⟨_,rfl,?_⟩
   have C4:=Aside0.mk (C3.out.below hb)
   have HWK4:=Aside0.mk (Kd.C_below HWK3.out hb)
   obtain ⟨x0,x1,x2,x3,x4,-,-,-,-,-⟩:=HAT.out.cells C4.out.st.tb.v
   simp only at x0 x1 x2 x3 x4
   obtain ⟨r0,-,-,-,-⟩:=C4.out.rqs
   clear hb hHeld
   rw [← HWF.out]
   refine hK.out _ _ ⟨x0,x1,x2,x3,x4,r0⟩ (fun hHeld => ?_)
   clear hK K
   refine mq ?_
   refine pq 14 (some 58) ?_
   refine pq 15 (some 59) ?_
   refine pq 16 (some 43) ?_
   refine done_ (by kernel_rfl) ?_
   clear hHeld r0 x0 x1 x2 x3 x4
   by_cases hwp : 0 ≤ wf
   ·
    have q1 : decide (0 ≤ wf) = true:=decide_eq_true hwp
    have HH:=Aside0.mk (show acq1 T.tm T.nx ⟨nm,tok,hol,exp,ws⟩ r = (⟨nm,tok,hol,exp,ws⟩,T.nx,tellA 8 ⟨nm,tok,hol,exp,ws⟩) from if_pos (.inr (by show 0 ≤ waitsF r.f0 ws 0;rw [← HWF.out];exact hwp)))
    rw [q1]
    clear hwp
    obtain ⟨-,t1,t2,t3,-,-,-,-,-,-⟩:=HAT.out.cells C4.out.st.tb.v
    go_wp2_with fail
    with_reducible refine (tell_calls b q _ _ _ 8 _ t1 t2 t3).mono ?_
    rintro _ Wt ⟨rfl,hb⟩
    have Ct:=Aside0.mk (C4.out.below hb)
    clear hb t1 t2 t3
    unfold anV
    obtain ⟨n0,n1,n2,n3,m0,m1,m2,m3⟩:=Ct.out.ans
    go_wp2_with fail
    obtain ⟨hd,hst⟩:=Ct.out.done ⟨8,(⟨nm,tok,hol,exp,ws⟩ : IL).f1,(⟨nm,tok,hol,exp,ws⟩ : IL).f2,(⟨nm,tok,hol,exp,ws⟩ : IL).f3⟩
    refine bodyPost_ret (results_cell_row rfl _ _ (w.heap.size + 1) 75 _ (0,0) _ rfl hd Try.underlying75 rfl (by kernel_rfl)) rfl ?_
    exact ⟨_,T,rfl,rfl,rfl,by rw [HACQ.out,HH.out,← putAt_split (e':=⟨⟨nm,tok,hol,exp,ws⟩,.slice wa ws.length wcap,ob_⟩) HA.out HB.out,← HLS.out];rfl,hst⟩
   ·
    have q1 : decide (0 ≤ wf) = false:=decide_eq_false hwp
    have HH0:=Aside0.mk (show acq1 T.tm T.nx ⟨nm,tok,hol,exp,ws⟩ r = _ from if_neg (by rintro (h|h);exact HNH.out h;exact hwp (HWF.out ▸ h)))
    rw [q1]
    clear hwp
    obtain ⟨-,-,x2,-,x4,-,-,-,-,-⟩:=HAT.out.cells C4.out.st.tb.v
    simp only at x2 x4
    by_cases hm : hol = -1
    ·
     have q2 : (hol == -1) = true:=by simpa using hm
     have HH:=Aside0.mk (HH0.out.trans (if_pos hm))
     obtain ⟨r0,-,-,r3,-⟩:=C4.out.rqs
     clear hm
     go_wp2_with fail
     with_reducible refine (grant_calls g W4 T A _ B b q r.f0 r.f3 C4.out.st.tb HAT.out (by have:=H0.out;omega) (by have:=H1.out;omega) (by have:=HR3.out;omega)).mono ?_
     rintro _ W5 ⟨rfl,hs5⟩
     have C5:=Aside0.mk (C4.out.step hs5)
     have HAT5:=Aside0.mk ((HAT.out.put { x:=grX ⟨nm,tok,hol,exp,ws⟩ T.tm T.nx r.f0 r.f3,v:=.slice wa ws.length wcap,ob:=ob_ }).next (T.nx + 1))
     clear hs5 r0 r3 x2 x4
     obtain ⟨-,t1,t2,t3,-,-,-,-,-,-⟩:=HAT5.out.cells C5.out.st.tb.v
     go_wp2_with fail
     with_reducible refine (tell_calls b q _ _ _ 1 _ t1 t2 t3).mono ?_
     rintro _ Wt ⟨rfl,hb⟩
     have Ct:=Aside0.mk (C5.out.below hb)
     clear hb t1 t2 t3
     unfold anV
     obtain ⟨n0,n1,n2,n3,m0,m1,m2,m3⟩:=Ct.out.ans
     go_wp2_with fail
     obtain ⟨hd,hst⟩:=Ct.out.done ⟨1,(grX ⟨nm,tok,hol,exp,ws⟩ T.tm T.nx r.f0 r.f3).f1,(grX ⟨nm,tok,hol,exp,ws⟩ T.tm T.nx r.f0 r.f3).f2,(grX ⟨nm,tok,hol,exp,ws⟩ T.tm T.nx r.f0 r.f3).f3⟩
     refine bodyPost_ret (results_cell_row rfl _ _ (w.heap.size + 1) 75 _ (0,0) _ rfl hd Try.underlying75 rfl (by kernel_rfl)) rfl ?_
     exact ⟨_,{ T with nx:=T.nx + 1,ls:=A ++ ⟨grX ⟨nm,tok,hol,exp,ws⟩ T.tm T.nx r.f0 r.f3,.slice wa ws.length wcap,ob_⟩ :: B },rfl,rfl,rfl,by rw [HACQ.out,HH.out];exact putAt_split (e':=⟨grX ⟨nm,tok,hol,exp,ws⟩ T.tm T.nx r.f0 r.f3,.slice wa ws.length wcap,ob_⟩) HA.out HB.out,hst⟩
    ·
     have q2 : (hol == -1) = false:=by simpa using hm
     have HH1:=Aside0.mk (HH0.out.trans (if_neg hm))
     clear hm
     by_cases hl4 : ws.length = 4
     ·
      have q3 : ((ws.length : Int) == 4) = true:=by rw [hl4];rfl
      have HH:=Aside0.mk (HH1.out.trans (if_pos hl4))
      clear hl4
      obtain ⟨-,t1,t2,t3,-,-,-,-,-,-⟩:=HAT.out.cells C4.out.st.tb.v
      go_wp2_with fail
      with_reducible refine (tell_calls b q _ _ _ 6 _ t1 t2 t3).mono ?_
      rintro _ Wt ⟨rfl,hb⟩
      have Ct:=Aside0.mk (C4.out.below hb)
      clear hb t1 t2 t3
      unfold anV
      obtain ⟨n0,n1,n2,n3,m0,m1,m2,m3⟩:=Ct.out.ans
      go_wp2_with fail
      obtain ⟨hd,hst⟩:=Ct.out.done ⟨6,(⟨nm,tok,hol,exp,ws⟩ : IL).f1,(⟨nm,tok,hol,exp,ws⟩ : IL).f2,(⟨nm,tok,hol,exp,ws⟩ : IL).f3⟩
      refine bodyPost_ret (results_cell_row rfl _ _ (w.heap.size + 1) 75 _ (0,0) _ rfl hd Try.underlying75 rfl (by kernel_rfl)) rfl ?_
      exact ⟨_,T,rfl,rfl,rfl,by rw [HACQ.out,HH.out,← putAt_split (e':=⟨⟨nm,tok,hol,exp,ws⟩,.slice wa ws.length wcap,ob_⟩) HA.out HB.out,← HLS.out];rfl,hst⟩
     ·
      have q3 : ((ws.length : Int) == 4) = false:=by simp;omega
      have HH:=Aside0.mk (HH1.out.trans (if_neg hl4))
      clear hl4
      go_upto_region 14 with fail
      have C5:=Aside0.mk (C4.out.below (below_drew (Below.refl _ _)))
      obtain ⟨-,-,-,-,x4,-,-,-,-,-⟩:=HAT.out.cells C5.out.st.tb.v
      obtain ⟨r0,-,-,r3,-⟩:=C5.out.rqs
      simp only at x4
      refine start_ (n:=15) (S:=fun w' => w'.cell? ⟨b,q + 4,none⟩ = some (.slice wa ws.length wcap) ∧ w'.cell? ⟨w.heap.size,0,none⟩ = some (.int .i64 r.f0) ∧ w'.cell? ⟨w.heap.size,3,none⟩ = some (.int .i64 r.f3)) (ds:=[11,14]) #[false,false,false,false,false,false,false,false,false,false,false,false,false,false,false] (by kernel_rfl) rfl rfl ⟨x4,r0,r3⟩ (fun hHeld => ?_)
      clear x4 r0 r3
      generalize W4.drew = V5 at C5 hHeld ⊢
      refine pq 0 (some 86) ?_
      refine pq 1 (some 87) ?_
      refine pq 2 (some 88) ?_
      refine pq 3 (some 89) ?_
      refine pq 5 (some 91) ?_
      refine pq 7 (some 93) ?_
      refine tq 4 (some 90) hHeld ?_
      refine tq 6 (some 92) hHeld ?_
      refine tq 8 (some 94) hHeld ?_
      refine pq 9 (some 95) ?_
      refine nq 10 (some 96) fun K hK => ?_
      refine vq ?_
      have C6:=Aside0.mk (C5.out.below (below_alloc (Below.refl _ _) (.cells #[.int .i64 r.f0,.int .i64 r.f3] 73 (0,0))))
      have HG6:=Aside0.mk (heap_alloc_new V5 (.cells #[.int .i64 r.f0,.int .i64 r.f3] 73 (0,0)))
      generalize V5.alloc _ = V6 at C6 HG6 ⊢
      obtain ⟨-,-,-,-,x4,-,-,-,-,g4⟩:=HAT.out.cells C6.out.st.tb.v
      obtain ⟨r0,-,-,r3,-⟩:=C6.out.rqs
      simp only at x4
      clear hHeld
      refine hK.out _ _ ⟨x4,r0,r3⟩ (fun hHeld => ?_)
      clear hK K
      refine mq ?_
      refine lq 11 (some 97) fun K hK => ?_
      have hww:=C6.out.st.tb.v.rw _ (by rw [HLS.out];exact List.mem_append_right _ List.mem_cons_self)
      obtain ⟨v7,V7,ob7,hrun,hrow,hob,hfr⟩:=appW_run V6 (.slice wa ws.length wcap) ws.length (ws.flatMap wc) (wc ⟨r.f0,r.f3⟩) ob_ V5.heap.size hww (by have:=HE4.out;omega) rfl HG6.out (by intro u hu;simp [wc] at hu;rcases hu with rfl|rfl <;> rfl)
      obtain ⟨va,vc,rfl⟩:=hrow.slice
      have hneb:=At.ne C6.out.st.tb.v HAT.out
      have x7:=Fr.cell hfr x4 hneb
      have g7:=Fr.frozen hfr g4 (World.block_lt_of_cell? _ _ x4) hneb
      have HRW:=Aside0.mk hrow
      have HOB:=Aside0.mk hob
      have HFR:=Aside0.mk hfr
      clear hrow hob hfr hww r0 r3 x4 g4
      refine value_ (w1:=V7) (v:=.slice va (ws.length + 1) vc) (by rfl) rfl ?_ ?_
      ·
       exact run_append_op (.tmp 90) (.tmp 96) 68 68 rfl _ _ rfl rfl hrun
      clear hrun
      refine hK.out _ _ ?_
      clear hK K
      refine mq ?_
      refine pq 12 (some 98) ?_
      refine pq 13 (some 99) ?_
      refine lq 14 none fun K hK => ?_
      refine sq ?_
      refine hK.out _ _ ?_
      clear hK K
      refine done_ (by kernel_rfl) ?_
      have hrw : Row V7 73 2 (.slice va (ws.length + 1) vc) (ws ++ [(⟨r.f0,r.f3⟩ : IW)]).length ((ws ++ [(⟨r.f0,r.f3⟩ : IW)]).flatMap wc) ob7:=by
       rw [List.length_append,List.flatMap_append]
       exact HRW.out
      have hS8:=(St.refl C6.out.st.tb).wts HAT.out (ws ++ [⟨r.f0,r.f3⟩]) _ ob7 HFR.out hrw HOB.out
      have C8:=Aside0.mk (C6.out.step hS8)
      have HAT8:=Aside0.mk (HAT.out.put { x:=⟨nm,tok,hol,exp,ws ++ [⟨r.f0,r.f3⟩]⟩,v:=.slice va (ws.length + 1) vc,ob:=ob7 })
      clear hS8 hrw x7 g7 hneb
      generalize V7.setCell ⟨b,q + 4,none⟩ (.slice va (ws.length + 1) vc) = V8 at C8 ⊢
      obtain ⟨-,t1,t2,t3,-,-,-,-,-,-⟩:=HAT8.out.cells C8.out.st.tb.v
      go_wp2_with fail
      with_reducible refine (tell_calls b q _ _ _ 2 _ t1 t2 t3).mono ?_
      rintro _ Wt ⟨rfl,hb⟩
      have Ct:=Aside0.mk (C8.out.below hb)
      clear hb t1 t2 t3
      unfold anV
      obtain ⟨n0,n1,n2,n3,m0,m1,m2,m3⟩:=Ct.out.ans
      go_wp2_with fail
      obtain ⟨hd,hst⟩:=Ct.out.done ⟨2,(⟨nm,tok,hol,exp,ws⟩ : IL).f1,(⟨nm,tok,hol,exp,ws⟩ : IL).f2,(⟨nm,tok,hol,exp,ws⟩ : IL).f3⟩
      refine bodyPost_ret (results_cell_row rfl _ _ (w.heap.size + 1) 75 _ (0,0) _ rfl hd Try.underlying75 rfl (by kernel_rfl)) rfl ?_
      exact ⟨_,{ T with ls:=A ++ ⟨⟨nm,tok,hol,exp,ws ++ [⟨r.f0,r.f3⟩]⟩,.slice va (ws.length + 1) vc,ob7⟩ :: B },rfl,rfl,rfl,by rw [HACQ.out,HH.out];exact putAt_split (e':=⟨⟨nm,tok,hol,exp,ws ++ [⟨r.f0,r.f3⟩]⟩,.slice va (ws.length + 1) vc,ob7⟩) HA.out HB.out,hst⟩
 ·
  have hthf : thereB r.f4 (T.ls.map EL.x) = false:=by simpa using hth
  rw [hthf]
  obtain ⟨la,lcap,hlv⟩:=C1.out.st.tb.v.rl.slice
  by_cases hl4 : T.ls.length = 4
  ·
   have HACQ:=Aside0.mk (show acqX T.tm T.nx (T.ls.map EL.x) r = (T.ls.map EL.x,T.nx,bareA 6) by rw [acqX,if_neg hth,if_pos (by simpa using hl4)])
   have q1 : ((T.ls.length : Int) == 4) = true:=by rw [hl4];rfl
   have x2:=C1.out.st.tb.cells.2.2.1
   rw [hlv] at x2
   clear hth hthf hl4 hlv
   go_wp2_with fail
   with_reducible refine (bare_calls 6 _).mono ?_
   rintro _ W2 ⟨rfl,hb⟩
   have C2:=Aside0.mk (C1.out.below hb)
   clear hb x2
   unfold anV bareA
   obtain ⟨n0,n1,n2,n3,m0,m1,m2,m3⟩:=C2.out.ans
   go_wp2_with fail
   obtain ⟨hd,hst⟩:=C2.out.done ⟨6,0,-1,0⟩
   refine bodyPost_ret (results_cell_row rfl _ _ (w.heap.size + 1) 75 _ (0,0) _ rfl hd Try.underlying75 rfl (by kernel_rfl)) rfl ?_
   exact ⟨_,T,rfl,rfl,rfl,by rw [HACQ.out];rfl,hst⟩
  ·
   have HACQ:=Aside0.mk (show acqX T.tm T.nx (T.ls.map EL.x) r = putAt (T.ls.map EL.x) p p (acq1 T.tm T.nx (newL r.f4) r) by rw [acqX,if_neg hth,if_neg (by simpa using hl4),HP.out])
   have q1 : ((T.ls.length : Int) == 4) = false:=by simp;omega
   have HL3:=Aside0.mk (show T.ls.length ≤ 3 by have:=H4.out;omega)
   have HPL:=Aside0.mk (show p ≤ T.ls.length by
    have:=takeWhile_le (fun x : IL => lessB x.f0 r.f4) (T.ls.map EL.x)
    rw [List.length_map] at this
    rw [HP.out]
    exact this)
   have x2:=C1.out.st.tb.cells.2.2.1
   rw [hlv] at x2
   have HLV:=Aside0.mk hlv
   clear hth hthf hl4 hlv
   go_upto_region 5 with fail
   have C2:=Aside0.mk (C1.out.below (below_drew (Below.refl _ _)))
   have y2:=C2.out.st.tb.cells.2.2.1
   rw [HLV.out] at y2
   obtain ⟨-,-,-,-,r4⟩:=C2.out.rqs
   refine start_ (n:=14) (S:=fun w' => w'.cell? ⟨g,2,none⟩ = some (.slice la T.ls.length lcap) ∧ w'.cell? ⟨w.heap.size,4,none⟩ = some (.string r.f4)) (ds:=[10,13]) #[false,false,false,false,false,false,false,false,false,false,false,false,false,false] (by kernel_rfl) rfl rfl ⟨y2,r4⟩ (fun hHeld => ?_)
   clear x2 y2 r4
   generalize W1.drew = V2 at C2 hHeld ⊢
   refine pq 0 (some 24) ?_
   refine pq 1 (some 25) ?_
   refine pq 2 (some 26) ?_
   refine pq 3 (some 27) ?_
   refine pq 5 (some 29) ?_
   refine pq 6 (some 30) ?_
   refine tq 4 (some 28) hHeld ?_
   refine tq 7 (some 31) hHeld ?_
   refine pq 8 (some 32) ?_
   refine nq 9 (some 33) fun K hK => ?_
   refine vq ?_
   have C3:=Aside0.mk (C2.out.below (below_alloc (Below.refl _ _) (.cells #[.string r.f4,.int .i64 0,.int .i64 (-1),.int .i64 0,.slice none 0 0] 70 (0,0))))
   have HG3:=Aside0.mk (heap_alloc_new V2 (.cells #[.string r.f4,.int .i64 0,.int .i64 (-1),.int .i64 0,.slice none 0 0] 70 (0,0)))
   have HN3:=Aside0.mk (show T.ol ≠ some V2.heap.size from fun e => by have:=C2.out.st.tb.v.lt V2.heap.size (by simp [Tv.blocks,e]);omega)
   generalize V2.alloc _ = V3 at C3 HG3 ⊢
   have y2:=C3.out.st.tb.cells.2.2.1
   rw [HLV.out] at y2
   obtain ⟨-,-,-,-,r4⟩:=C3.out.rqs
   clear hHeld
   refine hK.out _ _ ⟨y2,r4⟩ (fun hHeld => ?_)
   clear hK K
   refine mq ?_
   refine lq 10 (some 34) fun K hK => ?_
   have hrow0:=C3.out.st.tb.v.rl
   rw [HLV.out] at hrow0
   refine goes_ Try.func130 (by kernel_rfl) rfl #[.slice la T.ls.length lcap,.int .i64 p,.slice (some ⟨V2.heap.size,0,none⟩) 1 1] (by rfl) rfl rfl (by simp only [List.map_toArray,List.map_cons,List.map_nil];rfl) ?_
   with_reducible refine (insL_row V3 (.slice la T.ls.length lcap) T.ls.length p (T.ls.flatMap EL.cs) [.string r.f4,.int .i64 0,.int .i64 (-1),.int .i64 0,.slice none 0 0] T.ol V2.heap.size hrow0 HPL.out (by have:=HL3.out;omega) rfl HG3.out HN3.out (cs_one C3.out.st.tb.v) (new_one r.f4)).mono ?_
   rintro _ V4 ⟨v4,ol4,rfl,hrow,hob,hfr⟩
   refine ⟨_,rfl,?_⟩
   obtain ⟨va,vc,rfl⟩:=hrow.slice
   have hng : ¬ T.ol = some g:=fun e => C3.out.st.tb.ng _ (by simp [Tv.blocks]) e
   have z2:=C3.out.st.tb.cells.2.2.2.2.2.2.1
   have x7:=Fr.cell hfr y2 hng
   have g7:=Fr.frozen hfr z2 C3.out.st.tb.lt hng
   have HRW:=Aside0.mk hrow
   have HOB:=Aside0.mk hob
   have HFR:=Aside0.mk hfr
   clear hrow hob hfr hrow0 hng z2 y2 r4
   refine hK.out _ _ ?_
   clear hK K
   refine mq ?_
   refine pq 11 (some 35) ?_
   refine pq 12 (some 36) ?_
   refine lq 13 none fun K hK => ?_
   refine sq ?_
   refine hK.out _ _ ?_
   clear hK K
   refine done_ (by kernel_rfl) ?_
   obtain ⟨ne,hne⟩ : ∃ ne : EL,ne = ⟨newL r.f4,.slice none 0 0,none⟩:=⟨_,rfl⟩
   obtain ⟨A,hA⟩ : ∃ A,A = T.ls.take p:=⟨_,rfl⟩
   obtain ⟨B,hB⟩ : ∃ B,B = T.ls.drop p:=⟨_,rfl⟩
   have hpl : A.length = p:=by rw [hA,List.length_take];have:=HPL.out;omega
   have hrw : Row V4 70 5 (.slice va (T.ls.length + 1) vc) (A ++ ne :: B).length ((A ++ ne :: B).flatMap EL.cs) ol4:=by
    have e1 : (A ++ ne :: B).length = T.ls.length + 1:=by rw [hA,hB];simp;have:=HPL.out;omega
    have e2 : (A ++ ne :: B).flatMap EL.cs = (T.ls.flatMap EL.cs).take (p * 5) ++ [.string r.f4,.int .i64 0,.int .i64 (-1),.int .i64 0,.slice none 0 0] ++ (T.ls.flatMap EL.cs).drop (p * 5):=by
     rw [(flat_take (f:=EL.cs) (fun x => rfl) T.ls p).1,(flat_take (f:=EL.cs) (fun x => rfl) T.ls p).2,cs_mid,hA,hB,hne,List.append_assoc]
     rfl
    rw [e1,e2]
    exact HRW.out
   have hS5:=St.locks (St.refl C3.out.st.tb) (A ++ ne :: B) _ ol4 HFR.out hrw HOB.out (fun e he => by
    have he : e ∈ A ∨ e = ne ∨ e ∈ B:=by simpa using he
    rcases he with he|rfl|he
    ·
     exact .inl (List.mem_of_mem_take (hA ▸ he))
    ·
     refine .inr ⟨by rw [hne],?_⟩
     rw [hne]
     exact ⟨none,0,rfl,Nat.le_refl _,by omega,rfl,.inl ⟨rfl,rfl⟩⟩
    ·
     exact .inl (List.mem_of_mem_drop (hB ▸ he))) (by
    rw [hA,hB]
    have hap:=C3.out.st.tb.v.ap
    unfold Tv.blocks at hap
    rw [List.pairwise_cons,List.pairwise_cons] at hap
    exact pair_ins hap.2.2 (by rw [hne]))
   obtain ⟨T2,hT2⟩ : ∃ T2 : Tv,T2 = { T with ls:=A ++ ne :: B,vl:=.slice va (T.ls.length + 1) vc,ol:=ol4 }:=⟨_,rfl⟩
   rw [← hT2] at hS5
   have C5:=Aside0.mk (C3.out.step hS5)
   have hls : T2.ls = A ++ ne :: B:=by rw [hT2]
   have HLS:=Aside0.mk hls
   have HT2:=Aside0.mk (show T2.tm = T.tm ∧ T2.nx = T.nx ∧ T2.ss = T.ss by rw [hT2];exact ⟨rfl,rfl,rfl⟩)
   have HA:=Aside0.mk hA
   have HB:=Aside0.mk hB
   clear hS5 hrw x7 g7 hT2
   generalize V4.setCell ⟨g,2,none⟩ (.slice va (T.ls.length + 1) vc) = V5 at C5 ⊢
   obtain ⟨b,o,c,hv,hat⟩:=C5.out.st.tb.v.at_ hls
   rw [hpl] at hat
   obtain ⟨q,hq⟩ : ∃ q,q = o + p * 5:=⟨_,rfl⟩
   rw [← hq] at hat
   have HAT:=Aside0.mk hat
   have x2:=C5.out.st.tb.cells.2.2.1
   rw [hv] at x2
   have hplt : p < T2.ls.length:=by rw [hls,List.length_append,List.length_cons];omega
   have p0 : ((p : Int) < (T2.ls.length : Int)) = True:=eq_true (by omega)
   have p1 : (0 ≤ (p : Int)) = True:=eq_true (by omega)
   clear hls hA hB hpl hat hv q1
   go_upto_region 7 with fail
   rw [← hq]
   clear hq x2 p0 p1 hplt
   have C6:=Aside0.mk (C5.out.below (below_drew (Below.refl _ _)))
   have hww:=C6.out.st.tb.v.rw ne (by rw [HLS.out];simp)
   obtain ⟨wa,wcap,hv,hwl,hwk⟩:=hww.reads
   rw [hne] at hv hwk
   injection hv with e1 e2 e3
   clear e2
   subst e1
   subst e3
   obtain ⟨x0,x1,x2,x3,x4,-,-,-,-,-⟩:=HAT.out.cells C6.out.st.tb.v
   rw [hne] at x0 x1 x2 x3 x4
   simp only [newL] at x0 x1 x2 x3 x4
   obtain ⟨r0,-,-,-,-⟩:=C6.out.rqs
   have q0 : ((-1 : Int) == r.f0) = false:=by simp;omega
   have HNE:=Aside0.mk hne
   clear hww hwk hwl hne
   refine start_ (n:=17) (S:=fun w' => w'.cell? ⟨b,q,none⟩ = some (.string r.f4) ∧ w'.cell? ⟨b,q + 1,none⟩ = some (.int .i64 0) ∧ w'.cell? ⟨b,q + 2,none⟩ = some (.int .i64 (-1)) ∧ w'.cell? ⟨b,q + 3,none⟩ = some (.int .i64 0) ∧ w'.cell? ⟨b,q + 4,none⟩ = some (.slice none 0 0) ∧ w'.cell? ⟨w.heap.size,0,none⟩ = some (.int .i64 r.f0)) (ds:=[]) #[false,false,false,false,false,false,false,false,false,false,false,false,false,false,false,false,false] (by kernel_rfl) rfl rfl ⟨x0,x1,x2,x3,x4,r0⟩ (fun hHeld => ?_)
   clear x0 x1 x2 x3 x4 r0
   generalize V5.drew = V6 at C6 hHeld ⊢
   refine pq 0 (some 44) ?_
   refine pq 1 (some 45) ?_
   refine pq 2 (some 46) ?_
   refine pq 4 (some 48) ?_
   refine tq 3 (some 47) hHeld ?_
   refine tq 5 (some 49) hHeld ?_
   refine pq 6 (some 50) ?_
   refine pq 7 (some 51) ?_
   refine pq 8 (some 52) ?_
   refine pq 9 (some 53) ?_
   refine pq 11 (some 55) ?_
   refine tq 10 (some 54) hHeld ?_
   refine tq 12 (some 56) hHeld ?_
   refine nq 13 (some 57) fun K hK => ?_
   refine goes_ Try.func76 (by kernel_rfl) rfl #[.agg #[.string r.f4,.int .i64 0,.int .i64 (-1),.int .i64 0,.slice none 0 0],.int .i64 r.f0] (by rfl) rfl rfl (by simp only [List.map_toArray,List.map_cons,List.map_nil];rfl) ?_
   with_reducible refine (waits_new r.f4 r.f0 _).mono ?_
   rintro _ W7 ⟨rfl,hb⟩
   refine ⟨_,rfl,?_⟩
   have C7:=Aside0.mk (C6.out.below hb)
   obtain ⟨x0,x1,x2,x3,x4,-,-,-,-,-⟩:=HAT.out.cells C7.out.st.tb.v
   rw [HNE.out] at x0 x1 x2 x3 x4
   simp only [newL] at x0 x1 x2 x3 x4
   obtain ⟨r0,-,-,-,-⟩:=C7.out.rqs
   clear hb hHeld
   refine hK.out _ _ ⟨x0,x1,x2,x3,x4,r0⟩ (fun hHeld => ?_)
   clear hK K
   refine mq ?_
   refine pq 14 (some 58) ?_
   refine pq 15 (some 59) ?_
   refine pq 16 (some 43) ?_
   refine done_ (by kernel_rfl) ?_
   clear hHeld r0 x0 x1 x3 x4
   (try simp only [show decide ((0 : Int) ≤ -1) = false from rfl])
   obtain ⟨r0,-,-,r3,-⟩:=C7.out.rqs
   have q2 : ((-1 : Int) == -1) = true:=rfl
   go_wp2_with fail
   with_reducible refine (grant_calls g W7 T2 A ne B b q r.f0 r.f3 C7.out.st.tb HAT.out (by have:=H0.out;have:=HT2.out;omega) (by have:=H1.out;have:=HT2.out;omega) (by have:=HR3.out;omega)).mono ?_
   rintro _ W8 ⟨rfl,hs8⟩
   have C8:=Aside0.mk (C7.out.step hs8)
   have HAT8:=Aside0.mk ((HAT.out.put { ne with x:=grX ne.x T2.tm T2.nx r.f0 r.f3 }).next (T2.nx + 1))
   clear hs8 r0 r3 x2
   obtain ⟨-,t1,t2,t3,-,-,-,-,-,-⟩:=HAT8.out.cells C8.out.st.tb.v
   go_wp2_with fail
   with_reducible refine (tell_calls b q _ _ _ 1 _ t1 t2 t3).mono ?_
   rintro _ Wt ⟨rfl,hb⟩
   have Ct:=Aside0.mk (C8.out.below hb)
   clear hb t1 t2 t3
   unfold anV
   obtain ⟨n0,n1,n2,n3,m0,m1,m2,m3⟩:=Ct.out.ans
   go_wp2_with fail
   obtain ⟨hd,hst⟩:=Ct.out.done ⟨1,(grX ne.x T2.tm T2.nx r.f0 r.f3).f1,(grX ne.x T2.tm T2.nx r.f0 r.f3).f2,(grX ne.x T2.tm T2.nx r.f0 r.f3).f3⟩
   refine bodyPost_ret (results_cell_row rfl _ _ (w.heap.size + 1) 75 _ (0,0) _ rfl hd Try.underlying75 rfl (by kernel_rfl)) rfl ?_
   exact ⟨_,{ T2 with nx:=T2.nx + 1,ls:=A ++ { ne with x:=grX ne.x T2.tm T2.nx r.f0 r.f3 } :: B },rfl,HT2.out.1,HT2.out.2.2,by rw [HACQ.out,← HT2.out.1,← HT2.out.2.1];exact (putAt_split (e':={ ne with x:=grX ne.x T2.tm T2.nx r.f0 r.f3 }) HA.out HB.out).trans (congrArg _ (acq1_new (HNE.out ▸ rfl) HR0.out).symm),hst⟩
end Go.Proofs.Ytjkanhjapddhnaa.Acq
