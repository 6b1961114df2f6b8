/- The implementation's do, walked by hand (written by mkdo.py). No condition. -/
-- squeezed
import Derived.Test.YtjkanhjapddhnaaAcq
import Derived.Test.YtjkanhjapddhnaaGr
namespace Go.Proofs.Ytjkanhjapddhnaa.Doo
open Go.RowKit Go.Lib Go.Proofs.YtjkanhjapddhnaaV.PrintWords Go.Proofs.YtjkanhjapddhnaaV.PrintMore Go.Proofs.YtjkanhjapddhnaaV.PrintLast Go.Proofs.Ytjkanhjapddhnaa.Sq Go.Proofs.Ytjkanhjapddhnaa.Own Go.Proofs.Ytjkanhjapddhnaa.MarkT Go.Proofs.Ytjkanhjapddhnaa.Tb Go.Proofs.Ytjkanhjapddhnaa.Gr Go.Proofs.Ytjkanhjapddhnaa.Find Go.Proofs.Ytjkanhjapddhnaa.Pos Go.Proofs.Ytjkanhjapddhnaa.Pu Go.Proofs.Ytjkanhjapddhnaa.Ctx Go.Proofs.Ytjkanhjapddhnaa.InsR Go.Proofs.Ytjkanhjapddhnaa.Acq Go.Proofs.Ytjkanhjapddhnaa.PFnExactRunRequests
set_option linter.unusedVariables false
set_option linter.unusedSimpArgs false
set_option maxHeartbeats 20000000
set_option maxRecDepth 100000
theorem wc_one (ws : List IW) : ∀ u ∈ ws.flatMap wc,u.oneCell' = true:=by
 intro u hu
 obtain ⟨e,he,hu⟩:=List.mem_flatMap.1 hu
 simp only [wc,List.mem_cons,List.not_mem_nil,or_false] at hu
 rcases hu with rfl|rfl <;> rfl
theorem waitsF_lt (c : Int) : ∀ (l : List IW) (i : Int),waitsF c l i = -1 ∨ (i ≤ waitsF c l i ∧ waitsF c l i < i + l.length)
 | [],i => .inl rfl
 | x :: l,i => by
  rw [waitsF]
  split
  ·
   right
   simp only [List.length_cons]
   omega
  ·
   rcases waitsF_lt c l (i + 1) with h|h
   ·
    exact .inl h
   ·
    right
    simp only [List.length_cons]
    omega
theorem do_calls (g : Nat) (w : World) (T : Tv) (r : RQ) (hT : TB w g T) (h0 : 0 ≤ T.tm ∧ T.tm ≤ 1000000000) (h1 : 0 ≤ T.nx ∧ T.nx ≤ 1000000) (h4 : T.ls.length ≤ 4) (hs : sortB (T.ls.map EL.x)) (hw4 : ∀ e ∈ T.ls,e.x.f4.length ≤ 4) (h2 : ∀ e ∈ T.ls,∀ u ∈ e.x.f4,0 ≤ u.f1 ∧ u.f1 ≤ 1000000) (hr0 : 0 ≤ r.f0) (hr3 : 0 ≤ r.f3 ∧ r.f3 ≤ 1000) :
  Calls Try.prog 97 #[.pointer (some ⟨g,0,none⟩),rqV r] w fun o w' => ∃ a T',o = .returned (anV a) ∧ T'.tm = T.tm ∧ T'.ss = T.ss ∧ (T'.ls.map EL.x,T'.nx,a) = doX T.tm T.nx (T.ls.map EL.x) r ∧ St g w T w' T':=by
 have C0:=Aside0.mk (Ctx.start hT r)
 have HT:=Aside0.mk hT
 have H0:=Aside0.mk h0
 have H1:=Aside0.mk h1
 have H2:=Aside0.mk h2
 have H4:=Aside0.mk h4
 have HS:=Aside0.mk hs
 have HW4:=Aside0.mk hw4
 have HR0:=Aside0.mk hr0
 have HR3:=Aside0.mk hr3
 clear hT h0 h1 h2 h4 hs hw4 hr3
 unfold rqV
 go_enter Try.func97,Try.ntmps97
 go_upto_region 1 with fail
 change Code.wp _ _ _ _ ((w.alloc (rqO r)).alloc (anO ⟨0,0,0,0⟩))
 generalize (w.alloc (rqO r)).alloc (anO ⟨0,0,0,0⟩) = W0 at C0 ⊢
 obtain ⟨r0,r1,r2,r3,r4⟩:=C0.out.rqs
 by_cases hk1 : r.f2 = 1
 ·
  have q1 : (r.f2 == 1) = true:=by rw [hk1];rfl
  have HK1:=Aside0.mk hk1
  clear hk1
  go_wp2_with fail
  have hq:=acquire_calls g W0 T r C0.out.st.tb H0.out H1.out H4.out HS.out HW4.out HR0.out HR3.out
  unfold rqV at hq
  with_reducible refine hq.mono ?_
  clear hq
  rintro _ W1 ⟨a,T1,rfl,ht1,ht2,ht3,hst1⟩
  have C1:=Aside0.mk (C0.out.step hst1)
  have HD:=Aside0.mk (show (T1.ls.map EL.x,T1.nx,a) = doX T.tm T.nx (T.ls.map EL.x) r by rw [doX,if_pos HK1.out];exact ht3)
  have HT1:=Aside0.mk ht1
  have HT2:=Aside0.mk ht2
  clear hst1 ht1 ht2 ht3 r0 r1 r2 r3 r4 q1
  unfold anV
  obtain ⟨n0,n1,n2,n3,m0,m1,m2,m3⟩:=C1.out.ans
  go_wp2_with fail
  obtain ⟨hd,hst⟩:=C1.out.done a
  refine bodyPost_ret (results_cell_row rfl _ _ (w.heap.size + 1) 75 _ (0,0) _ rfl hd Try.underlying75 rfl (by kernel_rfl)) rfl ?_
  exact ⟨a,T1,rfl,HT1.out,HT2.out,HD.out,hst⟩
 have q1 : (r.f2 == 1) = false:=by simpa using hk1
 have HK1:=Aside0.mk hk1
 clear hk1
 go_wp2_with fail
 with_reducible refine (findB_calls g W0 T r.f4 C0.out.st.tb H4.out HS.out).mono ?_
 rintro _ W1 ⟨rfl,hb⟩
 have C1:=Aside0.mk (C0.out.below hb)
 clear hb r0 r1 r2 r3 r4 q1
 obtain ⟨p,hp⟩ : ∃ p,p = posB r.f4 (T.ls.map EL.x):=⟨_,rfl⟩
 have HP:=Aside0.mk hp
 rw [← hp]
 clear hp
 by_cases hth : ¬ thereB r.f4 (T.ls.map EL.x) = true
 ·
  have hthf : thereB r.f4 (T.ls.map EL.x) = false:=by simpa using hth
  rw [hthf]
  have HD:=Aside0.mk (show doX T.tm T.nx (T.ls.map EL.x) r = (T.ls.map EL.x,T.nx,bareA 3) by rw [doX,if_neg HK1.out,if_neg hth])
  clear hth hthf
  go_wp2_with fail
  with_reducible refine (bare_calls 3 _).mono ?_
  rintro _ W2 ⟨rfl,hb⟩
  have C2:=Aside0.mk (C1.out.below hb)
  clear hb
  unfold anV bareA
  obtain ⟨n0,n1,n2,n3,m0,m1,m2,m3⟩:=C2.out.ans
  go_wp2_with fail
  obtain ⟨hd,hst⟩:=C2.out.done ⟨3,0,-1,0⟩
  refine bodyPost_ret (results_cell_row rfl _ _ (w.heap.size + 1) 75 _ (0,0) _ rfl hd Try.underlying75 rfl (by kernel_rfl)) rfl ?_
  exact ⟨_,T,rfl,rfl,rfl,by rw [HD.out];rfl,hst⟩
 have hth : thereB r.f4 (T.ls.map EL.x) = true:=Classical.byContradiction hth
 have hplt : p < T.ls.length:=by
  have:=there_lt hth
  rw [← HP.out] at this
  simpa using this
 obtain ⟨e,hls,hex,hpl⟩:=lock_split hplt
 have hacq : doX T.tm T.nx (T.ls.map EL.x) r = putAt (T.ls.map EL.x) p (p + 1) (do1 T.tm T.nx e.x r):=by
  rw [doX,if_neg HK1.out,if_pos hth,← HP.out,hex]
 have HACQ:=Aside0.mk hacq
 have HTH:=Aside0.mk hth
 rw [hth]
 clear hth hacq hex
 obtain ⟨W2,hW2⟩ : ∃ W2,W2 = W1:=⟨_,rfl⟩
 have C2:=C1
 rw [← hW2] at C2 ⊢
 clear C1 hW2
 obtain ⟨A,hA⟩ : ∃ A,A = T.ls.take p:=⟨_,rfl⟩
 obtain ⟨B,hB⟩ : ∃ B,B = T.ls.drop (p + 1):=⟨_,rfl⟩
 rw [← hA,← hB] at hls
 rw [← hA] at hpl
 have HLS:=Aside0.mk hls
 have HA:=Aside0.mk hA
 have HB:=Aside0.mk hB
 obtain ⟨b,o,c,hv,hat⟩:=C2.out.st.tb.v.at_ hls
 rw [hpl] at hat
 obtain ⟨q,hq⟩ : ∃ q,q = o + p * 5:=⟨_,rfl⟩
 rw [← hq] at hat
 have HAT:=Aside0.mk hat
 have x2:=C2.out.st.tb.cells.2.2.1
 rw [hv] at x2
 have p0 : ((p : Int) < (T.ls.length : Int)) = True:=eq_true (by omega)
 have p1 : (0 ≤ (p : Int)) = True:=eq_true (by omega)
 clear hls hA hB hpl hat hv
 go_upto_region 7 with fail
 rw [← hq]
 clear hq x2 p0 p1 hplt
 have hww:=C2.out.st.tb.v.rw e (by rw [HLS.out];simp)
 have HE4:=Aside0.mk (HW4.out e (by rw [HLS.out];simp))
 have HE2:=Aside0.mk (H2.out e (by rw [HLS.out];simp))
 obtain ⟨⟨nm,tok,hol,exp,ws⟩,v_,ob_⟩:=e
 obtain ⟨wa,wcap,hv,hwl,hwk⟩:=hww.reads
 simp only at hv hwl hwk HE4 HE2 HACQ
 subst hv
 have C3:=Aside0.mk (C2.out.below (below_drew (Below.refl _ _)))
 have HWK3:=Aside0.mk (Kd.C_below hwk (below_drew (Below.refl _ _)))
 obtain ⟨x0,x1,x2,x3,x4,-,-,-,-,-⟩:=HAT.out.cells C3.out.st.tb.v
 simp only at x0 x1 x2 x3 x4
 obtain ⟨r0,-,-,-,-⟩:=C3.out.rqs
 clear hww hwk
 obtain ⟨wf,hwf⟩ : ∃ wf,wf = waitsF r.f0 ws 0:=⟨_,rfl⟩
 have HWF:=Aside0.mk hwf
 have hwb:=waitsF_lt r.f0 ws 0
 rw [← hwf] at hwb
 have HWB:=Aside0.mk hwb
 clear hwf hwb
 refine start_ (n:=7) (S:=fun w' => w'.cell? ⟨b,q,none⟩ = some (.string nm) ∧ w'.cell? ⟨b,q + 1,none⟩ = some (.int .i64 tok) ∧ w'.cell? ⟨b,q + 2,none⟩ = some (.int .i64 hol) ∧ w'.cell? ⟨b,q + 3,none⟩ = some (.int .i64 exp) ∧ w'.cell? ⟨b,q + 4,none⟩ = some (.slice wa ws.length wcap) ∧ w'.cell? ⟨w.heap.size,0,none⟩ = some (.int .i64 r.f0)) (ds:=[]) #[false,false,false,false,false,false,false] (by kernel_rfl) rfl rfl ⟨x0,x1,x2,x3,x4,r0⟩ (fun hHeld => ?_)
 clear x0 x1 x2 x3 x4 r0
 generalize W2.drew = V at C3 HWK3 hHeld ⊢
 refine pq 0 (some 31) ?_
 refine pq 1 (some 32) ?_
 refine pq 3 (some 34) ?_
 refine tq 2 (some 33) hHeld ?_
 refine tq 4 (some 35) hHeld ?_
 refine nq 5 (some 36) fun K hK => ?_
 refine goes_ Try.func76 (by kernel_rfl) rfl #[.agg #[.string nm,.int .i64 tok,.int .i64 hol,.int .i64 exp,.slice wa ws.length wcap],.int .i64 r.f0] (by rfl) rfl rfl (by simp only [List.map_toArray,List.map_cons,List.map_nil];rfl) ?_
 with_reducible refine (waits_calls nm tok hol exp wa wcap ws r.f0 _ HWK3.out).mono ?_
 rintro _ W4 ⟨rfl,hb⟩
 refine ⟨_,rfl,?_⟩
 have C4:=Aside0.mk (C3.out.below hb)
 have HWK4:=Aside0.mk (Kd.C_below HWK3.out hb)
 obtain ⟨x0,x1,x2,x3,x4,-,-,-,-,-⟩:=HAT.out.cells C4.out.st.tb.v
 simp only at x0 x1 x2 x3 x4
 obtain ⟨r0,-,-,-,-⟩:=C4.out.rqs
 clear hb hHeld
 rw [← HWF.out]
 refine hK.out _ _ ⟨x0,x1,x2,x3,x4,r0⟩ (fun hHeld => ?_)
 clear hK K
 refine mq ?_
 refine pq 6 (some 8) ?_
 refine done_ (by kernel_rfl) ?_
 clear hHeld r0 x0 x1 x2 x3 x4
 obtain ⟨-,-,r2,-,-⟩:=C4.out.rqs
 obtain ⟨-,-,x2,-,x4,-,-,-,-,g4⟩:=HAT.out.cells C4.out.st.tb.v
 simp only at x2 x4
 by_cases hdel : 0 ≤ wf ∧ r.f2 = 2
 ·
  obtain ⟨hwp,hk2⟩:=hdel
  obtain ⟨i,rfl⟩ : ∃ i : Nat,wf = (i : Int):=⟨wf.toNat,by omega⟩
  have hi : i < ws.length:=by have:=HWB.out;omega
  have HI:=Aside0.mk hi
  have hl4 : ws.length ≤ 4:=HE4.out
  have hi4 : i ≤ 4:=by omega
  have q1 : decide (0 ≤ (i : Int)) = true:=decide_eq_true hwp
  have q1' : (0 ≤ (i : Int)) = True:=eq_true hwp
  have q2 : (r.f2 == 2) = true:=by rw [hk2];rfl
  have HH:=Aside0.mk (show do1 T.tm T.nx ⟨nm,tok,hol,exp,ws⟩ r = ({ (⟨nm,tok,hol,exp,ws⟩ : IL) with f4:=ws.eraseIdx i },T.nx,tellA 1 ⟨nm,tok,hol,exp,ws⟩) by
   rw [do1,if_pos (show 0 ≤ waitsF r.f0 ws 0 ∧ r.f2 = 2 from ⟨by rw [← HWF.out];exact hwp,hk2⟩)]
   show (({ (⟨nm,tok,hol,exp,ws⟩ : IL) with f4:=ws.eraseIdx (waitsF r.f0 ws 0).toNat } : IL),T.nx,_) = _
   rw [← HWF.out,Int.toNat_natCast])
  clear hk2
  go_wp2_with fail
  have hww : Row W4 73 2 (.slice wa ws.length wcap) ws.length (ws.flatMap wc) ob_:=C4.out.st.tb.v.rw ⟨⟨nm,tok,hol,exp,ws⟩,.slice wa ws.length wcap,ob_⟩ (by rw [HLS.out];exact List.mem_append_right _ List.mem_cons_self)
  with_reducible refine (delW_row W4 (.slice wa ws.length wcap) ws.length i (ws.flatMap wc) ob_ hww HI.out (wc_one ws)).mono ?_
  rintro _ W5 ⟨v5,rfl,hrow,hfr⟩
  obtain ⟨va,vc,rfl⟩:=hrow.slice
  have hneb:=At.ne C4.out.st.tb.v HAT.out
  have x7:=Fr.cell hfr x4 hneb
  have g7:=Fr.frozen hfr g4 (World.block_lt_of_cell? _ _ x4) hneb
  have HRW:=Aside0.mk hrow
  have HFR:=Aside0.mk hfr
  clear hrow hfr hww x4 g4 x2
  go_upto_region 10 with fail
  have hrw : Row W5 73 2 (.slice va (ws.length - 1) vc) (ws.eraseIdx i).length ((ws.eraseIdx i).flatMap wc) ob_:=by
   rw [List.length_eraseIdx_of_lt HI.out,List.eraseIdx_eq_take_drop_succ,List.flatMap_append,← (flat_take (f:=wc) (sz:=2) (fun x => rfl) ws i).1,← (flat_take (f:=wc) (sz:=2) (fun x => rfl) ws (i + 1)).2]
   exact HRW.out
  have hS8:=(St.refl C4.out.st.tb).wts HAT.out (ws.eraseIdx i) _ ob_ HFR.out hrw (.inl rfl)
  have C8:=Aside0.mk (C4.out.step hS8)
  have HAT8:=Aside0.mk (HAT.out.put { x:=⟨nm,tok,hol,exp,ws.eraseIdx i⟩,v:=.slice va (ws.length - 1) vc,ob:=ob_ })
  clear hS8 hrw x7 g7 hneb
  generalize W5.setCell ⟨b,q + 4,none⟩ (.slice va (ws.length - 1) vc) = V8 at C8 ⊢
  obtain ⟨-,t1,t2,t3,-,-,-,-,-,-⟩:=HAT8.out.cells C8.out.st.tb.v
  go_wp2_with fail
  with_reducible refine (tell_calls b q _ _ _ 1 _ t1 t2 t3).mono ?_
  rintro _ Wt ⟨rfl,hb⟩
  have Ct:=Aside0.mk (C8.out.below hb)
  clear hb t1 t2 t3
  unfold anV
  obtain ⟨n0,n1,n2,n3,m0,m1,m2,m3⟩:=Ct.out.ans
  go_wp2_with fail
  obtain ⟨hd,hst⟩:=Ct.out.done ⟨1,(⟨nm,tok,hol,exp,ws⟩ : IL).f1,(⟨nm,tok,hol,exp,ws⟩ : IL).f2,(⟨nm,tok,hol,exp,ws⟩ : IL).f3⟩
  refine bodyPost_ret (results_cell_row rfl _ _ (w.heap.size + 1) 75 _ (0,0) _ rfl hd Try.underlying75 rfl (by kernel_rfl)) rfl ?_
  exact ⟨_,{ T with ls:=A ++ ⟨⟨nm,tok,hol,exp,ws.eraseIdx i⟩,.slice va (ws.length - 1) vc,ob_⟩ :: B },rfl,rfl,rfl,by rw [HACQ.out,HH.out];exact putAt_split (e':=⟨⟨nm,tok,hol,exp,ws.eraseIdx i⟩,.slice va (ws.length - 1) vc,ob_⟩) HA.out HB.out,hst⟩
 have HH0:=Aside0.mk (show do1 T.tm T.nx ⟨nm,tok,hol,exp,ws⟩ r = _ from if_neg (show ¬ (0 ≤ waitsF r.f0 ws 0 ∧ r.f2 = 2) by rw [← HWF.out];exact hdel))
 by_cases hwp : 0 ≤ wf
 ·
  have q1 : decide (0 ≤ wf) = true:=decide_eq_true hwp
  have q1' : (0 ≤ wf) = True:=eq_true hwp
  have q2 : (r.f2 == 2) = false:=by
   simp only [beq_eq_false_iff_ne,ne_eq]
   exact fun e => hdel ⟨hwp,e⟩
  clear hdel hwp
  go_upto_region 12 with fail
  clear q1 q1' q2 r2
  by_cases hm : hol = -1
  ·
   have q3 : (hol == -1) = true:=by simpa using hm
   have HH:=Aside0.mk (HH0.out.trans (if_pos hm))
   clear hm
   obtain ⟨-,t1,t2,t3,-,-,-,-,-,-⟩:=HAT.out.cells C4.out.st.tb.v
   go_wp2_with fail
   with_reducible refine (tell_calls b q _ _ _ 4 _ t1 t2 t3).mono ?_
   rintro _ Wt ⟨rfl,hb⟩
   have Ct:=Aside0.mk (C4.out.below hb)
   clear hb t1 t2 t3
   unfold anV
   obtain ⟨n0,n1,n2,n3,m0,m1,m2,m3⟩:=Ct.out.ans
   go_wp2_with fail
   obtain ⟨hd,hst⟩:=Ct.out.done ⟨4,(⟨nm,tok,hol,exp,ws⟩ : IL).f1,(⟨nm,tok,hol,exp,ws⟩ : IL).f2,(⟨nm,tok,hol,exp,ws⟩ : IL).f3⟩
   refine bodyPost_ret (results_cell_row rfl _ _ (w.heap.size + 1) 75 _ (0,0) _ rfl hd Try.underlying75 rfl (by kernel_rfl)) rfl ?_
   exact ⟨_,T,rfl,rfl,rfl,by rw [HACQ.out,HH.out,← putAt_split (e':=⟨⟨nm,tok,hol,exp,ws⟩,.slice wa ws.length wcap,ob_⟩) HA.out HB.out,← HLS.out];rfl,hst⟩
  have q3 : (hol == -1) = false:=by simpa using hm
  have HH1:=Aside0.mk (HH0.out.trans (if_neg hm))
  clear hm
  go_upto_region 14 with fail
  clear q3 x2
  have C5:=Aside0.mk (C4.out.below (below_drew (Below.refl _ _)))
  obtain ⟨r0,-,r2,-,-⟩:=C5.out.rqs
  obtain ⟨-,-,y2,-,-,-,-,-,-,-⟩:=HAT.out.cells C5.out.st.tb.v
  simp only at y2
  by_cases hk4 : r.f2 = 4
  ·
   have q4 : (r.f2 == 4) = true:=by rw [hk4];rfl
   have HH:=Aside0.mk (HH1.out.trans (if_pos (.inl hk4)))
   clear hk4
   refine start_ (n:=13) (S:=fun w' => w'.cell? ⟨w.heap.size,2,none⟩ = some (.int .i64 r.f2) ∧ w'.cell? ⟨b,q + 2,none⟩ = some (.int .i64 hol) ∧ w'.cell? ⟨w.heap.size,0,none⟩ = some (.int .i64 r.f0)) (ds:=[]) #[false,false,false,false,false,false,false,false,false,false,false,false,false] (by kernel_rfl) rfl rfl ⟨r2,y2,r0⟩ (fun hHeld => ?_)
   clear r2 y2 r0
   generalize W4.drew = V5 at C5 hHeld ⊢
   refine pq 0 (some 69) ?_
   refine tq 1 (some 70) hHeld ?_
   refine pq 2 (some 71) ?_
   refine pq 3 (some 72) ?_
   refine oq 4 (some 73) ?_
   refine oq 5 (some 74) ?_
   refine oq 6 (some 75) ?_
   refine oq 7 (some 76) ?_
   refine oq 8 (some 77) ?_
   refine oq 9 (some 78) ?_
   refine oq 10 (some 79) ?_
   refine pq 11 (some 80) ?_
   refine pq 12 (some 68) ?_
   refine done_ (by kernel_rfl) ?_
   clear hHeld
   obtain ⟨-,t1,t2,t3,-,-,-,-,-,-⟩:=HAT.out.cells C5.out.st.tb.v
   go_wp2_with fail
   with_reducible refine (tell_calls b q _ _ _ 5 _ t1 t2 t3).mono ?_
   rintro _ Wt ⟨rfl,hb⟩
   have Ct:=Aside0.mk (C5.out.below hb)
   clear hb t1 t2 t3
   unfold anV
   obtain ⟨n0,n1,n2,n3,m0,m1,m2,m3⟩:=Ct.out.ans
   go_wp2_with fail
   obtain ⟨hd,hst⟩:=Ct.out.done ⟨5,(⟨nm,tok,hol,exp,ws⟩ : IL).f1,(⟨nm,tok,hol,exp,ws⟩ : IL).f2,(⟨nm,tok,hol,exp,ws⟩ : IL).f3⟩
   refine bodyPost_ret (results_cell_row rfl _ _ (w.heap.size + 1) 75 _ (0,0) _ rfl hd Try.underlying75 rfl (by kernel_rfl)) rfl ?_
   exact ⟨_,T,rfl,rfl,rfl,by rw [HACQ.out,HH.out,← putAt_split (e':=⟨⟨nm,tok,hol,exp,ws⟩,.slice wa ws.length wcap,ob_⟩) HA.out HB.out,← HLS.out];rfl,hst⟩
  have q4 : (r.f2 == 4) = false:=by simpa using hk4
  by_cases hcl : hol = r.f0
  rotate_left
  ·
   have q5 : (hol != r.f0) = true:=by simpa using hcl
   have HH:=Aside0.mk (HH1.out.trans (if_pos (.inr hcl)))
   clear hk4 hcl
   refine start_ (n:=13) (S:=fun w' => w'.cell? ⟨w.heap.size,2,none⟩ = some (.int .i64 r.f2) ∧ w'.cell? ⟨b,q + 2,none⟩ = some (.int .i64 hol) ∧ w'.cell? ⟨w.heap.size,0,none⟩ = some (.int .i64 r.f0)) (ds:=[]) #[false,false,false,false,false,false,false,false,false,false,false,false,false] (by kernel_rfl) rfl rfl ⟨r2,y2,r0⟩ (fun hHeld => ?_)
   clear r2 y2 r0
   generalize W4.drew = V5 at C5 hHeld ⊢
   refine pq 0 (some 69) ?_
   refine tq 1 (some 70) hHeld ?_
   refine pq 2 (some 71) ?_
   refine pq 3 (some 72) ?_
   refine pq 4 (some 73) ?_
   refine pq 5 (some 74) ?_
   refine pq 6 (some 75) ?_
   refine pq 8 (some 77) ?_
   refine tq 7 (some 76) hHeld ?_
   refine tq 9 (some 78) hHeld ?_
   refine pq 10 (some 79) ?_
   refine pq 11 (some 80) ?_
   refine pq 12 (some 68) ?_
   refine done_ (by kernel_rfl) ?_
   clear hHeld
   obtain ⟨-,t1,t2,t3,-,-,-,-,-,-⟩:=HAT.out.cells C5.out.st.tb.v
   go_wp2_with fail
   with_reducible refine (tell_calls b q _ _ _ 5 _ t1 t2 t3).mono ?_
   rintro _ Wt ⟨rfl,hb⟩
   have Ct:=Aside0.mk (C5.out.below hb)
   clear hb t1 t2 t3
   unfold anV
   obtain ⟨n0,n1,n2,n3,m0,m1,m2,m3⟩:=Ct.out.ans
   go_wp2_with fail
   obtain ⟨hd,hst⟩:=Ct.out.done ⟨5,(⟨nm,tok,hol,exp,ws⟩ : IL).f1,(⟨nm,tok,hol,exp,ws⟩ : IL).f2,(⟨nm,tok,hol,exp,ws⟩ : IL).f3⟩
   refine bodyPost_ret (results_cell_row rfl _ _ (w.heap.size + 1) 75 _ (0,0) _ rfl hd Try.underlying75 rfl (by kernel_rfl)) rfl ?_
   exact ⟨_,T,rfl,rfl,rfl,by rw [HACQ.out,HH.out,← putAt_split (e':=⟨⟨nm,tok,hol,exp,ws⟩,.slice wa ws.length wcap,ob_⟩) HA.out HB.out,← HLS.out];rfl,hst⟩
  ·
   have q5 : (hol != r.f0) = false:=by simpa using hcl
   have HH2:=Aside0.mk (HH1.out.trans (if_neg (show ¬ (r.f2 = 4 ∨ hol ≠ r.f0) from fun h => h.elim hk4 (fun h => h hcl))))
   clear hk4 hcl
   refine start_ (n:=13) (S:=fun w' => w'.cell? ⟨w.heap.size,2,none⟩ = some (.int .i64 r.f2) ∧ w'.cell? ⟨b,q + 2,none⟩ = some (.int .i64 hol) ∧ w'.cell? ⟨w.heap.size,0,none⟩ = some (.int .i64 r.f0)) (ds:=[]) #[false,false,false,false,false,false,false,false,false,false,false,false,false] (by kernel_rfl) rfl rfl ⟨r2,y2,r0⟩ (fun hHeld => ?_)
   clear r2 y2 r0
   generalize W4.drew = V5 at C5 hHeld ⊢
   refine pq 0 (some 69) ?_
   refine tq 1 (some 70) hHeld ?_
   refine pq 2 (some 71) ?_
   refine pq 3 (some 72) ?_
   refine pq 4 (some 73) ?_
   refine pq 5 (some 74) ?_
   refine pq 6 (some 75) ?_
   refine pq 8 (some 77) ?_
   refine tq 7 (some 76) hHeld ?_
   refine tq 9 (some 78) hHeld ?_
   refine pq 10 (some 79) ?_
   refine pq 11 (some 80) ?_
   refine pq 12 (some 68) ?_
   refine done_ (by kernel_rfl) ?_
   clear hHeld
   obtain ⟨r0,-,r2,-,-⟩:=C5.out.rqs
   by_cases hk3 : r.f2 = 3
   ·
    have q6 : (r.f2 == 3) = true:=by rw [hk3];rfl
    have HH:=Aside0.mk (HH2.out.trans (if_pos hk3))
    clear hk3
    go_upto_region 17 with fail
    clear r0 r2
    have C6:=Aside0.mk (C5.out.below (below_drew (Below.refl _ _)))
    have y0:=C6.out.st.tb.cells.1
    obtain ⟨-,-,-,r3,-⟩:=C6.out.rqs
    obtain ⟨-,-,-,y3,-,-,-,-,g3,-⟩:=HAT.out.cells C6.out.st.tb.v
    refine start_ (n:=11) (S:=fun w' => w'.cell? ⟨g,0,none⟩ = some (.int .i64 T.tm) ∧ w'.cell? ⟨w.heap.size,3,none⟩ = some (.int .i64 r.f3)) (ds:=[10]) #[false,false,false,false,false,false,false,false,false,false,false] (by kernel_rfl) rfl rfl ⟨y0,r3⟩ (fun hHeld => ?_)
    clear y0 r3
    generalize V5.drew = V6 at C6 y3 g3 hHeld ⊢
    refine pq 0 (some 87) ?_
    refine pq 1 (some 88) ?_
    refine pq 2 (some 89) ?_
    refine pq 3 (some 90) ?_
    refine pq 5 (some 92) ?_
    refine tq 4 (some 91) hHeld ?_
    refine tq 6 (some 93) hHeld ?_
    refine pq 7 (some 94) ?_
    refine pq 8 (some 95) ?_
    refine pq 9 (some 96) ?_
    refine lq 10 none fun K hK => ?_
    refine sq ?_
    refine hK.out _ _ ?_
    clear hK K
    refine done_ (by kernel_rfl) ?_
    rw [show wrap64 (T.tm + r.f3) = T.tm + r.f3 by have:=H0.out;have:=HR3.out;unfold wrap64;omega]
    have hS8:=(St.refl C6.out.st.tb).exp HAT.out (T.tm + r.f3)
    have C8:=Aside0.mk (C6.out.step hS8)
    have HAT8:=Aside0.mk (HAT.out.put { x:=⟨nm,tok,hol,T.tm + r.f3,ws⟩,v:=.slice wa ws.length wcap,ob:=ob_ })
    clear hS8 y3 g3
    generalize V6.setCell ⟨b,q + 3,none⟩ (.int .i64 (T.tm + r.f3)) = V8 at C8 ⊢
    obtain ⟨-,t1,t2,t3,-,-,-,-,-,-⟩:=HAT8.out.cells C8.out.st.tb.v
    go_wp2_with fail
    with_reducible refine (tell_calls b q _ _ _ 1 _ t1 t2 t3).mono ?_
    rintro _ Wt ⟨rfl,hb⟩
    have Ct:=Aside0.mk (C8.out.below hb)
    clear hb t1 t2 t3
    unfold anV
    obtain ⟨n0,n1,n2,n3,m0,m1,m2,m3⟩:=Ct.out.ans
    go_wp2_with fail
    obtain ⟨hd,hst⟩:=Ct.out.done ⟨1,(⟨nm,tok,hol,T.tm + r.f3,ws⟩ : IL).f1,(⟨nm,tok,hol,T.tm + r.f3,ws⟩ : IL).f2,(⟨nm,tok,hol,T.tm + r.f3,ws⟩ : IL).f3⟩
    refine bodyPost_ret (results_cell_row rfl _ _ (w.heap.size + 1) 75 _ (0,0) _ rfl hd Try.underlying75 rfl (by kernel_rfl)) rfl ?_
    exact ⟨_,{ T with ls:=A ++ ⟨⟨nm,tok,hol,T.tm + r.f3,ws⟩,.slice wa ws.length wcap,ob_⟩ :: B },rfl,rfl,rfl,by rw [HACQ.out,HH.out];exact putAt_split (e':=⟨⟨nm,tok,hol,T.tm + r.f3,ws⟩,.slice wa ws.length wcap,ob_⟩) HA.out HB.out,hst⟩
   ·
    have q6 : (r.f2 == 3) = false:=by simpa using hk3
    have HH:=Aside0.mk (HH2.out.trans (if_neg hk3))
    clear hk3
    go_wp2_with fail
    have hq:=free_calls g V5 T A _ B b q C5.out.st.tb HAT.out (by have:=H0.out;omega) (by have:=H1.out;omega) HE2.out
    with_reducible refine hq.mono ?_
    clear hq
    rintro _ W8 ⟨rfl,e',he',hs8⟩
    have HE:=Aside0.mk he'
    have C8:=Aside0.mk (C5.out.step hs8)
    have HAT8:=Aside0.mk ((HAT.out.put e').next (frX ⟨nm,tok,hol,exp,ws⟩ T.tm T.nx).2)
    clear hs8 he' r0 r2
    obtain ⟨-,t1,t2,t3,-,-,-,-,-,-⟩:=HAT8.out.cells C8.out.st.tb.v
    go_wp2_with fail
    with_reducible refine (tell_calls b q _ _ _ 1 _ t1 t2 t3).mono ?_
    rintro _ Wt ⟨rfl,hb⟩
    have Ct:=Aside0.mk (C8.out.below hb)
    clear hb t1 t2 t3
    unfold anV
    obtain ⟨n0,n1,n2,n3,m0,m1,m2,m3⟩:=Ct.out.ans
    go_wp2_with fail
    obtain ⟨hd,hst⟩:=Ct.out.done ⟨1,e'.x.f1,e'.x.f2,e'.x.f3⟩
    refine bodyPost_ret (results_cell_row rfl _ _ (w.heap.size + 1) 75 _ (0,0) _ rfl hd Try.underlying75 rfl (by kernel_rfl)) rfl ?_
    exact ⟨_,{ T with nx:=(frX ⟨nm,tok,hol,exp,ws⟩ T.tm T.nx).2,ls:=A ++ e' :: B },rfl,rfl,rfl,by rw [HACQ.out,HH.out];show _ = putAt _ _ _ ((frX ⟨nm,tok,hol,exp,ws⟩ T.tm T.nx).1,_,tellA 1 (frX ⟨nm,tok,hol,exp,ws⟩ T.tm T.nx).1);rw [← HE.out];exact putAt_split (e':=e') HA.out HB.out,hst⟩
 ·
  have q1 : decide (0 ≤ wf) = false:=decide_eq_false hwp
  have q1' : (0 ≤ wf) = False:=eq_false hwp
  clear hdel hwp
  go_upto_region 12 with fail
  clear q1 q1' r2
  by_cases hm : hol = -1
  ·
   have q3 : (hol == -1) = true:=by simpa using hm
   have HH:=Aside0.mk (HH0.out.trans (if_pos hm))
   clear hm
   obtain ⟨-,t1,t2,t3,-,-,-,-,-,-⟩:=HAT.out.cells C4.out.st.tb.v
   go_wp2_with fail
   with_reducible refine (tell_calls b q _ _ _ 4 _ t1 t2 t3).mono ?_
   rintro _ Wt ⟨rfl,hb⟩
   have Ct:=Aside0.mk (C4.out.below hb)
   clear hb t1 t2 t3
   unfold anV
   obtain ⟨n0,n1,n2,n3,m0,m1,m2,m3⟩:=Ct.out.ans
   go_wp2_with fail
   obtain ⟨hd,hst⟩:=Ct.out.done ⟨4,(⟨nm,tok,hol,exp,ws⟩ : IL).f1,(⟨nm,tok,hol,exp,ws⟩ : IL).f2,(⟨nm,tok,hol,exp,ws⟩ : IL).f3⟩
   refine bodyPost_ret (results_cell_row rfl _ _ (w.heap.size + 1) 75 _ (0,0) _ rfl hd Try.underlying75 rfl (by kernel_rfl)) rfl ?_
   exact ⟨_,T,rfl,rfl,rfl,by rw [HACQ.out,HH.out,← putAt_split (e':=⟨⟨nm,tok,hol,exp,ws⟩,.slice wa ws.length wcap,ob_⟩) HA.out HB.out,← HLS.out];rfl,hst⟩
  have q3 : (hol == -1) = false:=by simpa using hm
  have HH1:=Aside0.mk (HH0.out.trans (if_neg hm))
  clear hm
  go_upto_region 14 with fail
  clear q3 x2
  have C5:=Aside0.mk (C4.out.below (below_drew (Below.refl _ _)))
  obtain ⟨r0,-,r2,-,-⟩:=C5.out.rqs
  obtain ⟨-,-,y2,-,-,-,-,-,-,-⟩:=HAT.out.cells C5.out.st.tb.v
  simp only at y2
  by_cases hk4 : r.f2 = 4
  ·
   have q4 : (r.f2 == 4) = true:=by rw [hk4];rfl
   have HH:=Aside0.mk (HH1.out.trans (if_pos (.inl hk4)))
   clear hk4
   refine start_ (n:=13) (S:=fun w' => w'.cell? ⟨w.heap.size,2,none⟩ = some (.int .i64 r.f2) ∧ w'.cell? ⟨b,q + 2,none⟩ = some (.int .i64 hol) ∧ w'.cell? ⟨w.heap.size,0,none⟩ = some (.int .i64 r.f0)) (ds:=[]) #[false,false,false,false,false,false,false,false,false,false,false,false,false] (by kernel_rfl) rfl rfl ⟨r2,y2,r0⟩ (fun hHeld => ?_)
   clear r2 y2 r0
   generalize W4.drew = V5 at C5 hHeld ⊢
   refine pq 0 (some 69) ?_
   refine tq 1 (some 70) hHeld ?_
   refine pq 2 (some 71) ?_
   refine pq 3 (some 72) ?_
   refine oq 4 (some 73) ?_
   refine oq 5 (some 74) ?_
   refine oq 6 (some 75) ?_
   refine oq 7 (some 76) ?_
   refine oq 8 (some 77) ?_
   refine oq 9 (some 78) ?_
   refine oq 10 (some 79) ?_
   refine pq 11 (some 80) ?_
   refine pq 12 (some 68) ?_
   refine done_ (by kernel_rfl) ?_
   clear hHeld
   obtain ⟨-,t1,t2,t3,-,-,-,-,-,-⟩:=HAT.out.cells C5.out.st.tb.v
   go_wp2_with fail
   with_reducible refine (tell_calls b q _ _ _ 5 _ t1 t2 t3).mono ?_
   rintro _ Wt ⟨rfl,hb⟩
   have Ct:=Aside0.mk (C5.out.below hb)
   clear hb t1 t2 t3
   unfold anV
   obtain ⟨n0,n1,n2,n3,m0,m1,m2,m3⟩:=Ct.out.ans
   go_wp2_with fail
   obtain ⟨hd,hst⟩:=Ct.out.done ⟨5,(⟨nm,tok,hol,exp,ws⟩ : IL).f1,(⟨nm,tok,hol,exp,ws⟩ : IL).f2,(⟨nm,tok,hol,exp,ws⟩ : IL).f3⟩
   refine bodyPost_ret (results_cell_row rfl _ _ (w.heap.size + 1) 75 _ (0,0) _ rfl hd Try.underlying75 rfl (by kernel_rfl)) rfl ?_
   exact ⟨_,T,rfl,rfl,rfl,by rw [HACQ.out,HH.out,← putAt_split (e':=⟨⟨nm,tok,hol,exp,ws⟩,.slice wa ws.length wcap,ob_⟩) HA.out HB.out,← HLS.out];rfl,hst⟩
  have q4 : (r.f2 == 4) = false:=by simpa using hk4
  by_cases hcl : hol = r.f0
  rotate_left
  ·
   have q5 : (hol != r.f0) = true:=by simpa using hcl
   have HH:=Aside0.mk (HH1.out.trans (if_pos (.inr hcl)))
   clear hk4 hcl
   refine start_ (n:=13) (S:=fun w' => w'.cell? ⟨w.heap.size,2,none⟩ = some (.int .i64 r.f2) ∧ w'.cell? ⟨b,q + 2,none⟩ = some (.int .i64 hol) ∧ w'.cell? ⟨w.heap.size,0,none⟩ = some (.int .i64 r.f0)) (ds:=[]) #[false,false,false,false,false,false,false,false,false,false,false,false,false] (by kernel_rfl) rfl rfl ⟨r2,y2,r0⟩ (fun hHeld => ?_)
   clear r2 y2 r0
   generalize W4.drew = V5 at C5 hHeld ⊢
   refine pq 0 (some 69) ?_
   refine tq 1 (some 70) hHeld ?_
   refine pq 2 (some 71) ?_
   refine pq 3 (some 72) ?_
   refine pq 4 (some 73) ?_
   refine pq 5 (some 74) ?_
   refine pq 6 (some 75) ?_
   refine pq 8 (some 77) ?_
   refine tq 7 (some 76) hHeld ?_
   refine tq 9 (some 78) hHeld ?_
   refine pq 10 (some 79) ?_
   refine pq 11 (some 80) ?_
   refine pq 12 (some 68) ?_
   refine done_ (by kernel_rfl) ?_
   clear hHeld
   obtain ⟨-,t1,t2,t3,-,-,-,-,-,-⟩:=HAT.out.cells C5.out.st.tb.v
   go_wp2_with fail
   with_reducible refine (tell_calls b q _ _ _ 5 _ t1 t2 t3).mono ?_
   rintro _ Wt ⟨rfl,hb⟩
   have Ct:=Aside0.mk (C5.out.below hb)
   clear hb t1 t2 t3
   unfold anV
   obtain ⟨n0,n1,n2,n3,m0,m1,m2,m3⟩:=Ct.out.ans
   go_wp2_with fail
   obtain ⟨hd,hst⟩:=Ct.out.done ⟨5,(⟨nm,tok,hol,exp,ws⟩ : IL).f1,(⟨nm,tok,hol,exp,ws⟩ : IL).f2,(⟨nm,tok,hol,exp,ws⟩ : IL).f3⟩
   refine bodyPost_ret (results_cell_row rfl _ _ (w.heap.size + 1) 75 _ (0,0) _ rfl hd Try.underlying75 rfl (by kernel_rfl)) rfl ?_
   exact ⟨_,T,rfl,rfl,rfl,by rw [HACQ.out,HH.out,← putAt_split (e':=⟨⟨nm,tok,hol,exp,ws⟩,.slice wa ws.length wcap,ob_⟩) HA.out HB.out,← HLS.out];rfl,hst⟩
  ·
   have q5 : (hol != r.f0) = false:=by simpa using hcl
   have HH2:=Aside0.mk (HH1.out.trans (if_neg (show ¬ (r.f2 = 4 ∨ hol ≠ r.f0) from fun h => h.elim hk4 (fun h => h hcl))))
   clear hk4 hcl
   refine start_ (n:=13) (S:=fun w' => w'.cell? ⟨w.heap.size,2,none⟩ = some (.int .i64 r.f2) ∧ w'.cell? ⟨b,q + 2,none⟩ = some (.int .i64 hol) ∧ w'.cell? ⟨w.heap.size,0,none⟩ = some (.int .i64 r.f0)) (ds:=[]) #[false,false,false,false,false,false,false,false,false,false,false,false,false] (by kernel_rfl) rfl rfl ⟨r2,y2,r0⟩ (fun hHeld => ?_)
   clear r2 y2 r0
   generalize W4.drew = V5 at C5 hHeld ⊢
   refine pq 0 (some 69) ?_
   refine tq 1 (some 70) hHeld ?_
   refine pq 2 (some 71) ?_
   refine pq 3 (some 72) ?_
   refine pq 4 (some 73) ?_
   refine pq 5 (some 74) ?_
   refine pq 6 (some 75) ?_
   refine pq 8 (some 77) ?_
   refine tq 7 (some 76) hHeld ?_
   refine tq 9 (some 78) hHeld ?_
   refine pq 10 (some 79) ?_
   refine pq 11 (some 80) ?_
   refine pq 12 (some 68) ?_
   refine done_ (by kernel_rfl) ?_
   clear hHeld
   obtain ⟨r0,-,r2,-,-⟩:=C5.out.rqs
   by_cases hk3 : r.f2 = 3
   ·
    have q6 : (r.f2 == 3) = true:=by rw [hk3];rfl
    have HH:=Aside0.mk (HH2.out.trans (if_pos hk3))
    clear hk3
    go_upto_region 17 with fail
    clear r0 r2
    have C6:=Aside0.mk (C5.out.below (below_drew (Below.refl _ _)))
    have y0:=C6.out.st.tb.cells.1
    obtain ⟨-,-,-,r3,-⟩:=C6.out.rqs
    obtain ⟨-,-,-,y3,-,-,-,-,g3,-⟩:=HAT.out.cells C6.out.st.tb.v
    refine start_ (n:=11) (S:=fun w' => w'.cell? ⟨g,0,none⟩ = some (.int .i64 T.tm) ∧ w'.cell? ⟨w.heap.size,3,none⟩ = some (.int .i64 r.f3)) (ds:=[10]) #[false,false,false,false,false,false,false,false,false,false,false] (by kernel_rfl) rfl rfl ⟨y0,r3⟩ (fun hHeld => ?_)
    clear y0 r3
    generalize V5.drew = V6 at C6 y3 g3 hHeld ⊢
    refine pq 0 (some 87) ?_
    refine pq 1 (some 88) ?_
    refine pq 2 (some 89) ?_
    refine pq 3 (some 90) ?_
    refine pq 5 (some 92) ?_
    refine tq 4 (some 91) hHeld ?_
    refine tq 6 (some 93) hHeld ?_
    refine pq 7 (some 94) ?_
    refine pq 8 (some 95) ?_
    refine pq 9 (some 96) ?_
    refine lq 10 none fun K hK => ?_
    refine sq ?_
    refine hK.out _ _ ?_
    clear hK K
    refine done_ (by kernel_rfl) ?_
    rw [show wrap64 (T.tm + r.f3) = T.tm + r.f3 by have:=H0.out;have:=HR3.out;unfold wrap64;omega]
    have hS8:=(St.refl C6.out.st.tb).exp HAT.out (T.tm + r.f3)
    have C8:=Aside0.mk (C6.out.step hS8)
    have HAT8:=Aside0.mk (HAT.out.put { x:=⟨nm,tok,hol,T.tm + r.f3,ws⟩,v:=.slice wa ws.length wcap,ob:=ob_ })
    clear hS8 y3 g3
    generalize V6.setCell ⟨b,q + 3,none⟩ (.int .i64 (T.tm + r.f3)) = V8 at C8 ⊢
    obtain ⟨-,t1,t2,t3,-,-,-,-,-,-⟩:=HAT8.out.cells C8.out.st.tb.v
    go_wp2_with fail
    with_reducible refine (tell_calls b q _ _ _ 1 _ t1 t2 t3).mono ?_
    rintro _ Wt ⟨rfl,hb⟩
    have Ct:=Aside0.mk (C8.out.below hb)
    clear hb t1 t2 t3
    unfold anV
    obtain ⟨n0,n1,n2,n3,m0,m1,m2,m3⟩:=Ct.out.ans
    go_wp2_with fail
    obtain ⟨hd,hst⟩:=Ct.out.done ⟨1,(⟨nm,tok,hol,T.tm + r.f3,ws⟩ : IL).f1,(⟨nm,tok,hol,T.tm + r.f3,ws⟩ : IL).f2,(⟨nm,tok,hol,T.tm + r.f3,ws⟩ : IL).f3⟩
    refine bodyPost_ret (results_cell_row rfl _ _ (w.heap.size + 1) 75 _ (0,0) _ rfl hd Try.underlying75 rfl (by kernel_rfl)) rfl ?_
    exact ⟨_,{ T with ls:=A ++ ⟨⟨nm,tok,hol,T.tm + r.f3,ws⟩,.slice wa ws.length wcap,ob_⟩ :: B },rfl,rfl,rfl,by rw [HACQ.out,HH.out];exact putAt_split (e':=⟨⟨nm,tok,hol,T.tm + r.f3,ws⟩,.slice wa ws.length wcap,ob_⟩) HA.out HB.out,hst⟩
   ·
    have q6 : (r.f2 == 3) = false:=by simpa using hk3
    have HH:=Aside0.mk (HH2.out.trans (if_neg hk3))
    clear hk3
    go_wp2_with fail
    have hq:=free_calls g V5 T A _ B b q C5.out.st.tb HAT.out (by have:=H0.out;omega) (by have:=H1.out;omega) HE2.out
    with_reducible refine hq.mono ?_
    clear hq
    rintro _ W8 ⟨rfl,e',he',hs8⟩
    have HE:=Aside0.mk he'
    have C8:=Aside0.mk (C5.out.step hs8)
    have HAT8:=Aside0.mk ((HAT.out.put e').next (frX ⟨nm,tok,hol,exp,ws⟩ T.tm T.nx).2)
    clear hs8 he' r0 r2
    obtain ⟨-,t1,t2,t3,-,-,-,-,-,-⟩:=HAT8.out.cells C8.out.st.tb.v
    go_wp2_with fail
    with_reducible refine (tell_calls b q _ _ _ 1 _ t1 t2 t3).mono ?_
    rintro _ Wt ⟨rfl,hb⟩
    have Ct:=Aside0.mk (C8.out.below hb)
    clear hb t1 t2 t3
    unfold anV
    obtain ⟨n0,n1,n2,n3,m0,m1,m2,m3⟩:=Ct.out.ans
    go_wp2_with fail
    obtain ⟨hd,hst⟩:=Ct.out.done ⟨1,e'.x.f1,e'.x.f2,e'.x.f3⟩
    refine bodyPost_ret (results_cell_row rfl _ _ (w.heap.size + 1) 75 _ (0,0) _ rfl hd Try.underlying75 rfl (by kernel_rfl)) rfl ?_
    exact ⟨_,{ T with nx:=(frX ⟨nm,tok,hol,exp,ws⟩ T.tm T.nx).2,ls:=A ++ e' :: B },rfl,rfl,rfl,by rw [HACQ.out,HH.out];show _ = putAt _ _ _ ((frX ⟨nm,tok,hol,exp,ws⟩ T.tm T.nx).1,_,tellA 1 (frX ⟨nm,tok,hol,exp,ws⟩ T.tm T.nx).1);rw [← HE.out];exact putAt_split (e':=e') HA.out HB.out,hst⟩
end Go.Proofs.Ytjkanhjapddhnaa.Doo
