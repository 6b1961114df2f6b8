/- The implementation's request, walked by hand (written by mkreq.py). No condition. -/
-- squeezed
import Derived.Test.YtjkanhjapddhnaaSns
import Derived.Test.YtjkanhjapddhnaaGr
namespace Go.Proofs.Ytjkanhjapddhnaa.Req
open Go.RowKit Go.Lib Go.Proofs.YtjkanhjapddhnaaV.PrintWords Go.Proofs.YtjkanhjapddhnaaV.PrintMore Go.Proofs.YtjkanhjapddhnaaV.PrintLast Go.Proofs.Ytjkanhjapddhnaa.Sq Go.Proofs.Ytjkanhjapddhnaa.Own Go.Proofs.Ytjkanhjapddhnaa.MarkT Go.Proofs.Ytjkanhjapddhnaa.Tb Go.Proofs.Ytjkanhjapddhnaa.Gr Go.Proofs.Ytjkanhjapddhnaa.Gon Go.Proofs.Ytjkanhjapddhnaa.Find Go.Proofs.Ytjkanhjapddhnaa.Pos Go.Proofs.Ytjkanhjapddhnaa.Pu Go.Proofs.Ytjkanhjapddhnaa.Ctx Go.Proofs.Ytjkanhjapddhnaa.InsR Go.Proofs.Ytjkanhjapddhnaa.Doo Go.Proofs.Ytjkanhjapddhnaa.Inv Go.Proofs.Ytjkanhjapddhnaa.Sns Go.Proofs.Ytjkanhjapddhnaa.PFnExactRunRequests
set_option linter.unusedVariables false
set_option linter.unusedSimpArgs false
set_option maxHeartbeats 20000000
set_option maxRecDepth 100000
theorem request_calls (g : Nat) (w : World) (T : Tv) (now : Int) (r : RQ) (N : Int) (hT : TB w g T) (hG : TGood N (Tv.pu T)) (hN : N ≤ 900000) (hn : 0 ≤ now ∧ now ≤ 1000000000) (hr : RqGood r) :
  Calls Try.prog 67 #[.pointer (some ⟨g,0,none⟩),.int .i64 now,rqV r] w fun o w' => ∃ a T',o = .returned (anV a) ∧ (Tv.pu T',a) = reqX (Tv.pu T) now r ∧ St g w T w' T':=by
 have C0:=Aside0.mk (Ctx.start hT r)
 have HG:=Aside0.mk hG
 have HN:=Aside0.mk hN
 have HNW:=Aside0.mk hn
 have HR:=Aside0.mk hr
 clear hT hG hN hn hr
 unfold rqV
 go_enter Try.func67,Try.ntmps67
 go_upto_region 1 with fail
 change Code.wp _ _ _ _ ((w.alloc (rqO r)).alloc (anO ⟨0,0,0,0⟩))
 generalize (w.alloc (rqO r)).alloc (anO ⟨0,0,0,0⟩) = W0 at C0 ⊢
 go_wp2_with fail
 have hq:=goOn_calls g W0 T now C0.out.st.tb HG.out.tm HNW.out (by have h1 : 1 ≤ T.nx ∧ T.nx ≤ N:=HG.out.nx;have:=HN.out;omega) (fun e he u hu => by have:=(HG.out.gl e.x (List.mem_map_of_mem he)).2.2 u hu;omega) (by have h1 : (T.ls.map EL.x).length ≤ 4:=HG.out.l4;rw [List.length_map] at h1;exact h1)
 with_reducible refine hq.mono ?_
 clear hq
 rintro _ W1 ⟨rfl,T1,ht1,ht2,ht3,hst1⟩
 have C1:=Aside0.mk (C0.out.step hst1)
 obtain ⟨o1,ho1⟩ : ∃ o1,o1 = outX (max T.tm now) T.nx (T.ls.map EL.x):=⟨_,rfl⟩
 have HO1:=Aside0.mk ho1
 rw [← ho1] at ht2
 have hpu : Tv.pu T1 = ⟨max T.tm now,o1.2,o1.1,T.ss⟩:=by
  unfold Tv.pu
  rw [← ht2,ht1,ht3]
 have HPU:=Aside0.mk hpu
 have hg1 : TGood (N + 4) (Tv.pu T1):=by
  rw [hpu,ho1]
  exact good_goOn HG.out HNW.out
 have HG1:=Aside0.mk hg1
 have HSS:=Aside0.mk ht3
 have HQ0:=Aside0.mk (show reqX (Tv.pu T) now r = reqY (Tv.pu T1) r by rw [reqX_eq,hpu,ho1];rfl)
 clear hst1 ht1 ht2 ht3 ho1 hpu hg1
 go_upto_region 2 with fail
 have C2:=Aside0.mk (C1.out.below (below_drew (Below.refl _ _)))
 obtain ⟨sa,scap,hsv,hsl,hsk⟩:=C2.out.st.tb.v.seens
 have HSV:=Aside0.mk hsv
 have HSK:=Aside0.mk hsk
 have y3:=C2.out.st.tb.cells.2.2.2.1
 rw [hsv] at y3
 obtain ⟨r0,-,-,-,-⟩:=C2.out.rqs
 have HL6:=Aside0.mk (show T1.ss.length ≤ 6 from HG1.out.s6)
 have HCL:=Aside0.mk (show ∀ s ∈ T1.ss,0 ≤ s.f0 ∧ s.f0 ≤ 255 from HG1.out.cl)
 have HSN:=Aside0.mk (show sortS T1.ss from HG1.out.sn)
 clear hsv hsk hsl
 obtain ⟨k,hk⟩ : ∃ k,k = posS r.f0 T1.ss:=⟨_,rfl⟩
 obtain ⟨th,hth⟩ : ∃ th,th = thereS r.f0 T1.ss:=⟨_,rfl⟩
 have HK:=Aside0.mk hk
 have HTH:=Aside0.mk hth
 clear hk hth
 refine start_ (n:=12) (S:=fun w' => w'.cell? ⟨g,3,none⟩ = some (.slice sa T1.ss.length scap) ∧ w'.cell? ⟨w.heap.size,0,none⟩ = some (.int .i64 r.f0)) (ds:=[]) #[false,false,false,false,false,false,false,false,false,false,false,false] (by kernel_rfl) rfl rfl ⟨y3,r0⟩ (fun hHeld => ?_)
 clear y3 r0
 generalize W1.drew = V2 at C2 HSK hHeld ⊢
 refine pq 0 (some 15) ?_
 refine pq 1 (some 16) ?_
 refine pq 2 (some 17) ?_
 refine pq 4 (some 19) ?_
 refine tq 3 (some 18) hHeld ?_
 refine tq 5 (some 20) hHeld ?_
 refine nq 6 (some 21) fun K hK => ?_
 refine goes_ Try.func94 (by kernel_rfl) rfl #[.slice sa T1.ss.length scap,.int .i64 r.f0,.func (.func 95) #[] #[]] (by rfl) rfl rfl (by simp only [List.map_toArray,List.map_cons,List.map_nil];rfl) ?_
 with_reducible refine (seenS_calls sa scap T1.ss r.f0 _ HSK.out HL6.out HCL.out HR.out.c HSN.out).mono ?_
 rintro _ W3 ⟨rfl,hb⟩
 refine ⟨_,rfl,?_⟩
 have C3:=Aside0.mk (C2.out.below hb)
 have y3:=C3.out.st.tb.cells.2.2.2.1
 rw [HSV.out] at y3
 obtain ⟨r0,-,-,-,-⟩:=C3.out.rqs
 clear hb hHeld
 rw [← HK.out,← HTH.out]
 refine hK.out _ _ ⟨y3,r0⟩ (fun hHeld => ?_)
 clear hK K
 refine mq ?_
 refine pq 7 (some 14) ?_
 refine pq 8 (some 22) ?_
 refine pq 9 (some 23) ?_
 refine pq 10 (some 7) ?_
 refine pq 11 (some 8) ?_
 refine done_ (by kernel_rfl) ?_
 clear hHeld y3 r0
 cases th with
 | true =>
  have hkl : k < T1.ss.length:=by rw [HK.out];exact thereS_lt HTH.out.symm
  have HKL:=Aside0.mk hkl
  obtain ⟨x,hx⟩ : ∃ x,x = T1.ss[k]'HKL.out:=⟨_,rfl⟩
  have HX:=Aside0.mk hx.symm
  have HRX:=Aside0.mk (show rd_T77 T1.ss (k : Nat) = x by rw [rdN_at _ _ hkl];exact hx.symm)
  obtain ⟨sb,so,scap',hsv,hsos⟩:=C3.out.st.tb.v.rs.addr (by omega)
  obtain ⟨rfl,-,rfl⟩ : sa = some ⟨sb,so,none⟩ ∧ T1.ss.length = T1.ss.length ∧ scap = scap':=by
   have:=HSV.out
   rw [hsv] at this
   injection this with h1 h2 h3
   exact ⟨h1.symm,rfl,h3.symm⟩
  have HOS:=Aside0.mk hsos
  have p0 : ((k : Int) < (T1.ss.length : Int)) = True:=eq_true (by omega)
  have p1 : (0 ≤ (k : Int)) = True:=eq_true (by omega)
  clear hx hsv hsos hkl
  go_upto_region 3 with fail
  have C4:=Aside0.mk (C3.out.below (below_drew (Below.refl _ _)))
  have y3:=C4.out.st.tb.cells.2.2.2.1
  rw [HSV.out] at y3
  have y1:=(seen_cells C4.out.st.tb.v HSV.out HKL.out 1 (by omega)).1
  rw [HX.out] at y1
  simp only [sc,List.getElem_cons_zero,List.getElem_cons_succ] at y1
  obtain ⟨-,r1,-,-,-⟩:=C4.out.rqs
  by_cases hst : x.f1 = r.f1
  ·
   have q0 : (x.f1 == r.f1) = true:=by rw [hst];simp
   have HQ:=Aside0.mk (HQ0.out.trans (reqY_same HK.out HRX.out HTH.out hst))
   have HST:=Aside0.mk hst
   clear hst
   refine start_ (n:=15) (S:=fun w' => w'.cell? ⟨g,3,none⟩ = some (.slice (some ⟨sb,so,none⟩) T1.ss.length scap) ∧ w'.cell? ⟨sb,so + k * 6 + 1,none⟩ = some (.int .i64 x.f1) ∧ w'.cell? ⟨w.heap.size,1,none⟩ = some (.int .i64 r.f1)) (ds:=[]) #[false,false,false,false,false,false,false,false,false,false,false,false,false,false,false] (by kernel_rfl) rfl rfl ⟨y3,y1,r1⟩ (fun hHeld => ?_)
   clear y3 y1 r1
   generalize W3.drew = V4 at C4 hHeld ⊢
   refine pq 0 (some 25) ?_
   refine pq 1 (some 26) ?_
   refine pq 2 (some 27) ?_
   refine pq 3 (some 28) ?_
   refine pq 4 (some 29) ?_
   refine pq 6 (some 31) ?_
   refine pq 10 (some 35) ?_
   refine tq 5 (some 30) hHeld ?_
   refine pq 7 (some 32) ?_
   refine pq 8 (some 33) ?_
   refine tq 9 (some 34) hHeld ?_
   refine tq 11 (some 36) hHeld ?_
   refine pq 12 (some 37) ?_
   refine pq 13 (some 38) ?_
   refine pq 14 (some 24) ?_
   refine done_ (by kernel_rfl) ?_
   clear hHeld
   have y3:=C4.out.st.tb.cells.2.2.2.1
   rw [HSV.out] at y3
   have z : ∀ j (hj : j < 6),V4.cell? ⟨sb,so + k * 6 + j,none⟩ = some ((sc x)[j]'hj):=fun j hj => by
    have h:=(seen_cells C4.out.st.tb.v HSV.out HKL.out j hj).1
    rw [HX.out] at h
    exact h
   have z2:=z 2 (by omega)
   have z3:=z 3 (by omega)
   have z4:=z 4 (by omega)
   have z5:=z 5 (by omega)
   simp only [sc,List.getElem_cons_zero,List.getElem_cons_succ] at z2 z3 z4 z5
   clear z
   obtain ⟨n0,n1,n2,n3,m0,m1,m2,m3⟩:=C4.out.ans
   go_wp2_with fail
   obtain ⟨hd,hst⟩:=C4.out.done x.f2
   refine bodyPost_ret (results_cell_row rfl _ _ (w.heap.size + 1) 75 _ (0,0) _ rfl hd Try.underlying75 rfl (by kernel_rfl)) rfl ?_
   exact ⟨x.f2,T1,rfl,HQ.out.symm,hst⟩
  ·
   have q0 : (x.f1 == r.f1) = false:=by simpa using hst
   have HST:=Aside0.mk hst
   clear hst
   refine start_ (n:=15) (S:=fun w' => w'.cell? ⟨g,3,none⟩ = some (.slice (some ⟨sb,so,none⟩) T1.ss.length scap) ∧ w'.cell? ⟨sb,so + k * 6 + 1,none⟩ = some (.int .i64 x.f1) ∧ w'.cell? ⟨w.heap.size,1,none⟩ = some (.int .i64 r.f1)) (ds:=[]) #[false,false,false,false,false,false,false,false,false,false,false,false,false,false,false] (by kernel_rfl) rfl rfl ⟨y3,y1,r1⟩ (fun hHeld => ?_)
   clear y3 y1 r1
   generalize W3.drew = V4 at C4 hHeld ⊢
   refine pq 0 (some 25) ?_
   refine pq 1 (some 26) ?_
   refine pq 2 (some 27) ?_
   refine pq 3 (some 28) ?_
   refine pq 4 (some 29) ?_
   refine pq 6 (some 31) ?_
   refine pq 10 (some 35) ?_
   refine tq 5 (some 30) hHeld ?_
   refine pq 7 (some 32) ?_
   refine pq 8 (some 33) ?_
   refine tq 9 (some 34) hHeld ?_
   refine tq 11 (some 36) hHeld ?_
   refine pq 12 (some 37) ?_
   refine pq 13 (some 38) ?_
   refine pq 14 (some 24) ?_
   refine done_ (by kernel_rfl) ?_
   clear hHeld q0
   go_upto_region 5 with fail
   have C5:=Aside0.mk (C4.out.below (below_drew (Below.refl _ _)))
   have y3:=C5.out.st.tb.cells.2.2.2.1
   rw [HSV.out] at y3
   have y1:=(seen_cells C5.out.st.tb.v HSV.out HKL.out 1 (by omega)).1
   rw [HX.out] at y1
   simp only [sc,List.getElem_cons_zero,List.getElem_cons_succ] at y1
   obtain ⟨-,r1,-,-,-⟩:=C5.out.rqs
   by_cases hold : r.f1 < x.f1
   ·
    have q1 : decide (r.f1 < x.f1) = true:=decide_eq_true hold
    have HQ:=Aside0.mk (HQ0.out.trans (reqY_old HK.out HRX.out HTH.out HST.out hold))
    clear hold
    refine start_ (n:=15) (S:=fun w' => w'.cell? ⟨g,3,none⟩ = some (.slice (some ⟨sb,so,none⟩) T1.ss.length scap) ∧ w'.cell? ⟨sb,so + k * 6 + 1,none⟩ = some (.int .i64 x.f1) ∧ w'.cell? ⟨w.heap.size,1,none⟩ = some (.int .i64 r.f1)) (ds:=[]) #[false,false,false,false,false,false,false,false,false,false,false,false,false,false,false] (by kernel_rfl) rfl rfl ⟨y3,y1,r1⟩ (fun hHeld => ?_)
    clear y3 y1 r1
    generalize V4.drew = V5 at C5 hHeld ⊢
    refine pq 0 (some 48) ?_
    refine pq 1 (some 49) ?_
    refine pq 2 (some 50) ?_
    refine pq 3 (some 51) ?_
    refine pq 4 (some 52) ?_
    refine pq 6 (some 54) ?_
    refine pq 10 (some 58) ?_
    refine tq 5 (some 53) hHeld ?_
    refine pq 7 (some 55) ?_
    refine pq 8 (some 56) ?_
    refine tq 9 (some 57) hHeld ?_
    refine tq 11 (some 59) hHeld ?_
    refine pq 12 (some 60) ?_
    refine pq 13 (some 61) ?_
    refine pq 14 (some 47) ?_
    refine done_ (by kernel_rfl) ?_
    clear hHeld
    go_wp2_with fail
    with_reducible refine (bare_calls 7 _).mono ?_
    rintro _ W6 ⟨rfl,hb⟩
    have C6:=Aside0.mk (C5.out.below hb)
    clear hb q1
    unfold anV bareA
    obtain ⟨n0,n1,n2,n3,m0,m1,m2,m3⟩:=C6.out.ans
    go_wp2_with fail
    obtain ⟨hd,hst⟩:=C6.out.done ⟨7,0,-1,0⟩
    refine bodyPost_ret (results_cell_row rfl _ _ (w.heap.size + 1) 75 _ (0,0) _ rfl hd Try.underlying75 rfl (by kernel_rfl)) rfl ?_
    exact ⟨_,T1,rfl,HQ.out.symm,hst⟩
   ·
    have q1 : decide (r.f1 < x.f1) = false:=decide_eq_false hold
    have HOLD:=Aside0.mk hold
    clear hold
    refine start_ (n:=15) (S:=fun w' => w'.cell? ⟨g,3,none⟩ = some (.slice (some ⟨sb,so,none⟩) T1.ss.length scap) ∧ w'.cell? ⟨sb,so + k * 6 + 1,none⟩ = some (.int .i64 x.f1) ∧ w'.cell? ⟨w.heap.size,1,none⟩ = some (.int .i64 r.f1)) (ds:=[]) #[false,false,false,false,false,false,false,false,false,false,false,false,false,false,false] (by kernel_rfl) rfl rfl ⟨y3,y1,r1⟩ (fun hHeld => ?_)
    clear y3 y1 r1
    generalize V4.drew = V5 at C5 hHeld ⊢
    refine pq 0 (some 48) ?_
    refine pq 1 (some 49) ?_
    refine pq 2 (some 50) ?_
    refine pq 3 (some 51) ?_
    refine pq 4 (some 52) ?_
    refine pq 6 (some 54) ?_
    refine pq 10 (some 58) ?_
    refine tq 5 (some 53) hHeld ?_
    refine pq 7 (some 55) ?_
    refine pq 8 (some 56) ?_
    refine tq 9 (some 57) hHeld ?_
    refine tq 11 (some 59) hHeld ?_
    refine pq 12 (some 60) ?_
    refine pq 13 (some 61) ?_
    refine pq 14 (some 47) ?_
    refine done_ (by kernel_rfl) ?_
    clear hHeld q1
    go_upto_region 9 with fail
    obtain ⟨r0,r1,r2,r3,r4⟩:=C5.out.rqs
    go_wp2_with fail
    have hq:=do_calls g _ T1 r C5.out.st.tb (show 0 ≤ T1.tm ∧ T1.tm ≤ 1000000000 from HG1.out.tm) (by have h1 : 1 ≤ T1.nx ∧ T1.nx ≤ N + 4:=HG1.out.nx;have:=HN.out;omega) (by have h1 : (T1.ls.map EL.x).length ≤ 4:=HG1.out.l4;rw [List.length_map] at h1;exact h1) HG1.out.sl (fun e he => (HG1.out.gl e.x (List.mem_map_of_mem he)).1) (fun e he u hu => by have:=(HG1.out.gl e.x (List.mem_map_of_mem he)).2.2 u hu;omega) HR.out.c.1 HR.out.l
    unfold rqV at hq
    with_reducible refine hq.mono ?_
    clear hq
    rintro _ W9 ⟨a,T2,rfl,ht1,ht2,ht3,hst⟩
    have C9:=Aside0.mk (C5.out.step hst)
    have HD:=Aside0.mk ht3
    have HT1:=Aside0.mk ht1
    have HT2:=Aside0.mk ht2
    clear hst ht1 ht2 ht3 r0 r1 r2 r3 r4
    unfold anV
    go_upto_region 10 with fail
    change Code.wp _ _ _ _ (W9.alloc (anO a))
    have C10:=Aside0.mk (C9.out.below (below_alloc (Below.refl _ _) (anO a)))
    have hna:=new_nb C9.out.st.tb
    have hga:=heap_alloc_new W9 (anO a)
    generalize W9.alloc (anO a) = W10 at C10 hga ⊢
    generalize W9.heap.size = na at hna hga ⊢
    have HNA:=Aside0.mk hna
    have HGA:=Aside0.mk hga
    obtain ⟨a0,a1,a2,a3⟩:=an_cells hga
    obtain ⟨r0,r1,-,-,-⟩:=C10.out.rqs
    clear hna hga
    go_upto_region 11 with fail
    clear a0 a1 a2 a3 r0 r1
    change Code.wp _ _ _ _ (W10.alloc (snO ⟨r.f0,r.f1,a⟩))
    have hb11:=below_alloc (Below.refl W10.heap.size W10) (snO ⟨r.f0,r.f1,a⟩)
    have C11:=Aside0.mk (C10.out.below hb11)
    have HGA1:=Aside0.mk ((hb11.block na (blk_lt HGA.out)).trans HGA.out)
    have hns:=new_nb C10.out.st.tb
    have hgs:=heap_alloc_new W10 (snO ⟨r.f0,r.f1,a⟩)
    generalize W10.alloc (snO ⟨r.f0,r.f1,a⟩) = W11 at C11 HGA1 hgs ⊢
    generalize W10.heap.size = ns at hns hgs ⊢
    have HNS:=Aside0.mk hns
    have HGS:=Aside0.mk hgs
    clear hns hgs hb11
    have hkl2 : k < T2.ss.length:=by rw [HT2.out];exact HKL.out
    have HK2:=Aside0.mk hkl2
    obtain ⟨sb2,so2,sc2,hsv2,hsos2⟩:=C11.out.st.tb.v.rs.addr (by omega)
    have HSV2:=Aside0.mk hsv2
    have HOS2:=Aside0.mk hsos2
    have p0 : ((k : Int) < (T2.ss.length : Int)) = True:=eq_true (by omega)
    clear hkl2 hsv2 hsos2
    go_upto_region 12 with fail
    have C12:=Aside0.mk (C11.out.below (below_drew (Below.refl _ _)))
    have y3:=C12.out.st.tb.cells.2.2.2.1
    rw [HSV2.out] at y3
    have hg12 : W11.drew.heap[ns]? = some (snO ⟨r.f0,r.f1,a⟩):=HGS.out
    have HGA2:=Aside0.mk (show W11.drew.heap[na]? = some (anO a) from HGA1.out)
    obtain ⟨s0,s1,s2,s3,s4,s5⟩:=sn_cells hg12
    have z:=fun j hj => seen_cells C12.out.st.tb.v HSV2.out HK2.out j hj
    obtain ⟨z0,f0⟩:=z 0 (by omega)
    obtain ⟨z1,f1⟩:=z 1 (by omega)
    obtain ⟨z2,f2⟩:=z 2 (by omega)
    obtain ⟨z3,f3⟩:=z 3 (by omega)
    obtain ⟨z4,f4⟩:=z 4 (by omega)
    obtain ⟨z5,f5⟩:=z 5 (by omega)
    rw [Nat.add_zero] at z0 f0
    clear z hg12
    refine start_ (n:=8) (S:=fun w' => w'.cell? ⟨g,3,none⟩ = some (.slice (some ⟨sb2,so2,none⟩) T2.ss.length sc2) ∧ w'.cell? ⟨ns,0,none⟩ = some (.int .i64 r.f0) ∧ w'.cell? ⟨ns,1,none⟩ = some (.int .i64 r.f1) ∧ w'.cell? ⟨ns,2,none⟩ = some (.int .i64 a.f0) ∧ w'.cell? ⟨ns,3,none⟩ = some (.int .i64 a.f1) ∧ w'.cell? ⟨ns,4,none⟩ = some (.int .i64 a.f2) ∧ w'.cell? ⟨ns,5,none⟩ = some (.int .i64 a.f3)) (ds:=[7]) #[false,false,false,false,false,false,false,false] (by kernel_rfl) rfl rfl ⟨y3,s0,s1,s2,s3,s4,s5⟩ (fun hHeld => ?_)
    clear y3 s0 s1 s2 s3 s4 s5
    generalize W11.drew = V12 at C12 HGA2 z0 z1 z2 z3 z4 z5 f0 f1 f2 f3 f4 f5 hHeld ⊢
    refine pq 0 (some 85) ?_
    refine pq 1 (some 86) ?_
    refine pq 2 (some 87) ?_
    refine pq 4 (some 89) ?_
    refine tq 3 (some 88) hHeld ?_
    refine tq 5 (some 90) hHeld ?_
    refine pq 6 (some 91) ?_
    refine lq 7 none fun K hK => ?_
    refine sq ?_
    refine hK.out _ _ ?_
    clear hK K
    refine done_ (by kernel_rfl) ?_
    clear z0 z1 z2 z3 z4 z5 f0 f1 f2 f3 f4 f5 p0
    have hS:=St.seen (St.refl C12.out.st.tb) HSV2.out HOS2.out HK2.out ⟨r.f0,r.f1,a⟩
    have C14:=Aside0.mk (C12.out.step hS)
    have hga:=(St.keep hS HGA2.out HNA.out).1
    change Exit.then _ _ _ _ (six V12 sb2 (so2 + k * 6) ⟨r.f0,r.f1,a⟩)
    generalize six V12 sb2 (so2 + k * 6) ⟨r.f0,r.f1,a⟩ = V14 at C14 hga ⊢
    clear hS
    obtain ⟨a0,a1,a2,a3⟩:=an_cells hga
    obtain ⟨n0,n1,n2,n3,m0,m1,m2,m3⟩:=C14.out.ans
    go_wp2_with fail
    obtain ⟨hd,hst⟩:=C14.out.done a
    refine bodyPost_ret (results_cell_row rfl _ _ (w.heap.size + 1) 75 _ (0,0) _ rfl hd Try.underlying75 rfl (by kernel_rfl)) rfl ?_
    exact ⟨a,{ T2 with ss:=T2.ss.set k ⟨r.f0,r.f1,a⟩ },rfl,by rw [HQ0.out,reqY_set HK.out HRX.out HTH.out HST.out (Int.not_lt.2 HOLD.out) HD.out];show ((⟨T2.tm,T2.nx,T2.ls.map EL.x,T2.ss.set k _⟩ : Tp),a) = _;rw [HT1.out,HT2.out];rfl,hst⟩
 | false =>
  go_upto_region 3 with fail
  have C4:=Aside0.mk (C3.out.below (below_drew (Below.refl _ _)))
  refine start_ (n:=15) (S:=fun w' => True) (ds:=[]) #[false,false,false,false,false,false,false,false,false,false,false,false,false,false,false] (by kernel_rfl) rfl rfl trivial (fun hHeld => ?_)
  generalize W3.drew = V4 at C4 hHeld ⊢
  refine pq 0 (some 25) ?_
  refine pq 1 (some 26) ?_
  refine oq 2 (some 27) ?_
  refine oq 3 (some 28) ?_
  refine oq 4 (some 29) ?_
  refine oq 5 (some 30) ?_
  refine oq 6 (some 31) ?_
  refine oq 7 (some 32) ?_
  refine oq 8 (some 33) ?_
  refine oq 9 (some 34) ?_
  refine oq 10 (some 35) ?_
  refine oq 11 (some 36) ?_
  refine oq 12 (some 37) ?_
  refine pq 13 (some 38) ?_
  refine pq 14 (some 24) ?_
  refine done_ (by kernel_rfl) ?_
  clear hHeld
  go_upto_region 5 with fail
  have C5:=Aside0.mk (C4.out.below (below_drew (Below.refl _ _)))
  refine start_ (n:=15) (S:=fun w' => True) (ds:=[]) #[false,false,false,false,false,false,false,false,false,false,false,false,false,false,false] (by kernel_rfl) rfl rfl trivial (fun hHeld => ?_)
  generalize V4.drew = V5 at C5 hHeld ⊢
  refine pq 0 (some 48) ?_
  refine pq 1 (some 49) ?_
  refine oq 2 (some 50) ?_
  refine oq 3 (some 51) ?_
  refine oq 4 (some 52) ?_
  refine oq 5 (some 53) ?_
  refine oq 6 (some 54) ?_
  refine oq 7 (some 55) ?_
  refine oq 8 (some 56) ?_
  refine oq 9 (some 57) ?_
  refine oq 10 (some 58) ?_
  refine oq 11 (some 59) ?_
  refine oq 12 (some 60) ?_
  refine pq 13 (some 61) ?_
  refine pq 14 (some 47) ?_
  refine done_ (by kernel_rfl) ?_
  clear hHeld
  have y3:=C5.out.st.tb.cells.2.2.2.1
  rw [HSV.out] at y3
  by_cases hl6 : T1.ss.length = 6
  ·
   have q1 : ((T1.ss.length : Int) == 6) = true:=by rw [hl6];rfl
   have HQ:=Aside0.mk (HQ0.out.trans (reqY_full HTH.out hl6))
   clear hl6
   go_wp2_with fail
   with_reducible refine (bare_calls 6 _).mono ?_
   rintro _ W6 ⟨rfl,hb⟩
   have C6:=Aside0.mk (C5.out.below hb)
   clear hb q1 y3
   unfold anV bareA
   obtain ⟨n0,n1,n2,n3,m0,m1,m2,m3⟩:=C6.out.ans
   go_wp2_with fail
   obtain ⟨hd,hst⟩:=C6.out.done ⟨6,0,-1,0⟩
   refine bodyPost_ret (results_cell_row rfl _ _ (w.heap.size + 1) 75 _ (0,0) _ rfl hd Try.underlying75 rfl (by kernel_rfl)) rfl ?_
   exact ⟨_,T1,rfl,HQ.out.symm,hst⟩
  ·
   have q1 : ((T1.ss.length : Int) == 6) = false:=by simp;omega
   have HNF:=Aside0.mk hl6
   clear hl6
   go_upto_region 9 with fail
   clear q1 y3
   obtain ⟨r0,r1,r2,r3,r4⟩:=C5.out.rqs
   go_wp2_with fail
   have hq:=do_calls g _ T1 r C5.out.st.tb (show 0 ≤ T1.tm ∧ T1.tm ≤ 1000000000 from HG1.out.tm) (by have h1 : 1 ≤ T1.nx ∧ T1.nx ≤ N + 4:=HG1.out.nx;have:=HN.out;omega) (by have h1 : (T1.ls.map EL.x).length ≤ 4:=HG1.out.l4;rw [List.length_map] at h1;exact h1) HG1.out.sl (fun e he => (HG1.out.gl e.x (List.mem_map_of_mem he)).1) (fun e he u hu => by have:=(HG1.out.gl e.x (List.mem_map_of_mem he)).2.2 u hu;omega) HR.out.c.1 HR.out.l
   unfold rqV at hq
   with_reducible refine hq.mono ?_
   clear hq
   rintro _ W9 ⟨a,T2,rfl,ht1,ht2,ht3,hst⟩
   have C9:=Aside0.mk (C5.out.step hst)
   have HD:=Aside0.mk ht3
   have HT1:=Aside0.mk ht1
   have HT2:=Aside0.mk ht2
   clear hst ht1 ht2 ht3 r0 r1 r2 r3 r4
   unfold anV
   go_upto_region 10 with fail
   change Code.wp _ _ _ _ (W9.alloc (anO a))
   have C10:=Aside0.mk (C9.out.below (below_alloc (Below.refl _ _) (anO a)))
   have hna:=new_nb C9.out.st.tb
   have hga:=heap_alloc_new W9 (anO a)
   generalize W9.alloc (anO a) = W10 at C10 hga ⊢
   generalize W9.heap.size = na at hna hga ⊢
   have HNA:=Aside0.mk hna
   have HGA:=Aside0.mk hga
   obtain ⟨a0,a1,a2,a3⟩:=an_cells hga
   obtain ⟨r0,r1,-,-,-⟩:=C10.out.rqs
   clear hna hga
   go_upto_region 11 with fail
   clear a0 a1 a2 a3 r0 r1
   change Code.wp _ _ _ _ (W10.alloc (snO ⟨r.f0,r.f1,a⟩))
   have hb11:=below_alloc (Below.refl W10.heap.size W10) (snO ⟨r.f0,r.f1,a⟩)
   have C11:=Aside0.mk (C10.out.below hb11)
   have HGA1:=Aside0.mk ((hb11.block na (blk_lt HGA.out)).trans HGA.out)
   have hns:=new_nb C10.out.st.tb
   have hgs:=heap_alloc_new W10 (snO ⟨r.f0,r.f1,a⟩)
   generalize W10.alloc (snO ⟨r.f0,r.f1,a⟩) = W11 at C11 HGA1 hgs ⊢
   generalize W10.heap.size = ns at hns hgs ⊢
   have HNS:=Aside0.mk hns
   have HGS:=Aside0.mk hgs
   clear hns hgs hb11
   have HKP:=Aside0.mk (show k ≤ T2.ss.length by rw [HT2.out,HK.out];exact takeWhile_le _ _)
   have HL2:=Aside0.mk (show T2.ss.length ≤ 6 by rw [HT2.out];exact HL6.out)
   obtain ⟨sa2,sc2,hsv2⟩:=C11.out.st.tb.v.rs.slice
   have HSV2:=Aside0.mk hsv2
   clear hsv2
   go_upto_region 13 with fail
   have C12:=Aside0.mk (C11.out.below (below_drew (Below.refl _ _)))
   have y3:=C12.out.st.tb.cells.2.2.2.1
   rw [HSV2.out] at y3
   have HGS2:=Aside0.mk (show W11.drew.heap[ns]? = some (snO ⟨r.f0,r.f1,a⟩) from HGS.out)
   have HGA2:=Aside0.mk (show W11.drew.heap[na]? = some (anO a) from HGA1.out)
   obtain ⟨s0,s1,s2,s3,s4,s5⟩:=sn_cells HGS2.out
   refine start_ (n:=12) (S:=fun w' => w'.cell? ⟨g,3,none⟩ = some (.slice sa2 T2.ss.length sc2) ∧ w'.cell? ⟨ns,0,none⟩ = some (.int .i64 r.f0) ∧ w'.cell? ⟨ns,1,none⟩ = some (.int .i64 r.f1) ∧ w'.cell? ⟨ns,2,none⟩ = some (.int .i64 a.f0) ∧ w'.cell? ⟨ns,3,none⟩ = some (.int .i64 a.f1) ∧ w'.cell? ⟨ns,4,none⟩ = some (.int .i64 a.f2) ∧ w'.cell? ⟨ns,5,none⟩ = some (.int .i64 a.f3)) (ds:=[8,11]) #[false,false,false,false,false,false,false,false,false,false,false,false] (by kernel_rfl) rfl rfl ⟨y3,s0,s1,s2,s3,s4,s5⟩ (fun hHeld => ?_)
   clear y3 s0 s1 s2 s3 s4 s5
   generalize W11.drew = V12 at C12 HGA2 HGS2 hHeld ⊢
   refine pq 0 (some 92) ?_
   refine pq 1 (some 93) ?_
   refine pq 2 (some 94) ?_
   refine pq 3 (some 95) ?_
   refine pq 5 (some 97) ?_
   refine tq 4 (some 96) hHeld ?_
   refine tq 6 (some 98) hHeld ?_
   refine nq 7 (some 99) fun K hK => ?_
   refine vq ?_
   have hb13:=below_alloc (Below.refl V12.heap.size V12) (.cells #[.int .i64 r.f0,.int .i64 r.f1,.int .i64 a.f0,.int .i64 a.f1,.int .i64 a.f2,.int .i64 a.f3] 77 (0,0))
   have C13:=Aside0.mk (C12.out.below hb13)
   have HG13:=Aside0.mk (heap_alloc_new V12 (.cells #[.int .i64 r.f0,.int .i64 r.f1,.int .i64 a.f0,.int .i64 a.f1,.int .i64 a.f2,.int .i64 a.f3] 77 (0,0)))
   have HN13:=Aside0.mk (show T2.os ≠ some V12.heap.size from fun e => (new_nb C12.out.st.tb).2 (by simp [Tv.blocks,e]))
   have HGA3:=Aside0.mk ((hb13.block na (blk_lt HGA2.out)).trans HGA2.out)
   have HGS3:=Aside0.mk ((hb13.block ns (blk_lt HGS2.out)).trans HGS2.out)
   clear hb13
   generalize V12.alloc _ = V13 at C13 HG13 HGA3 HGS3 ⊢
   have y3:=C13.out.st.tb.cells.2.2.2.1
   rw [HSV2.out] at y3
   obtain ⟨s0,s1,s2,s3,s4,s5⟩:=sn_cells HGS3.out
   clear hHeld
   refine hK.out _ _ ⟨y3,s0,s1,s2,s3,s4,s5⟩ (fun hHeld => ?_)
   clear hK K
   refine mq ?_
   refine lq 8 (some 100) fun K hK => ?_
   have hrow0:=C13.out.st.tb.v.rs
   rw [HSV2.out] at hrow0
   have hg13 : V13.heap[V12.heap.size]? = some (.cells (sc ⟨r.f0,r.f1,a⟩).toArray 77 (0,0)):=HG13.out
   refine goes_ Try.func98 (by kernel_rfl) rfl #[.slice sa2 T2.ss.length sc2,.int .i64 k,.slice (some ⟨V12.heap.size,0,none⟩) 1 1] (by rfl) rfl rfl (by simp only [List.map_toArray,List.map_cons,List.map_nil];rfl) ?_
   with_reducible refine (insS_row V13 (.slice sa2 T2.ss.length sc2) T2.ss.length k (T2.ss.flatMap sc) (sc ⟨r.f0,r.f1,a⟩) T2.os V12.heap.size hrow0 HKP.out (by have:=HL2.out;omega) rfl hg13 HN13.out (sc_one T2.ss) (sc_oneB ⟨r.f0,r.f1,a⟩)).mono ?_
   rintro _ V14 ⟨v4,os4,rfl,hrow,hob,hfr⟩
   refine ⟨_,rfl,?_⟩
   obtain ⟨va,vc,rfl⟩:=hrow.slice
   have hng : ¬ T2.os = some g:=fun e => C13.out.st.tb.ng _ (by simp [Tv.blocks]) e
   have z3:=C13.out.st.tb.cells.2.2.2.2.2.2.2
   have x7:=Fr.cell hfr y3 hng
   have g7:=Fr.frozen hfr z3 C13.out.st.tb.lt hng
   have HRW:=Aside0.mk hrow
   have HOB:=Aside0.mk hob
   have HFR:=Aside0.mk hfr
   clear hrow hob hfr hrow0 hng z3 y3 s0 s1 s2 s3 s4 s5 hg13
   refine hK.out _ _ ?_
   clear hK K
   refine mq ?_
   refine pq 9 (some 101) ?_
   refine pq 10 (some 102) ?_
   refine lq 11 none fun K hK => ?_
   refine sq ?_
   refine hK.out _ _ ?_
   clear hK K
   refine done_ (by kernel_rfl) ?_
   have hrw : Row V14 77 6 (.slice va (T2.ss.length + 1) vc) (T2.ss.take k ++ (⟨r.f0,r.f1,a⟩ : IN) :: T2.ss.drop k).length ((T2.ss.take k ++ (⟨r.f0,r.f1,a⟩ : IN) :: T2.ss.drop k).flatMap sc) os4:=by
    have e1 : (T2.ss.take k ++ (⟨r.f0,r.f1,a⟩ : IN) :: T2.ss.drop k).length = T2.ss.length + 1:=by simp;have:=HKP.out;omega
    rw [e1,sc_mid,← (flat_take (f:=sc) (sz:=6) (fun x => rfl) T2.ss k).1,← (flat_take (f:=sc) (sz:=6) (fun x => rfl) T2.ss k).2,← List.append_assoc]
    exact HRW.out
   have hS:=St.seens (St.refl C13.out.st.tb) (T2.ss.take k ++ (⟨r.f0,r.f1,a⟩ : IN) :: T2.ss.drop k) _ os4 HFR.out hrw HOB.out
   have C14:=Aside0.mk (C13.out.step hS)
   have hga:=(St.keep hS HGA3.out ⟨HNA.out.1,HNA.out.2⟩).1
   clear hrw hS x7 g7
   generalize V14.setCell ⟨g,3,none⟩ (.slice va (T2.ss.length + 1) vc) = V15 at C14 hga ⊢
   obtain ⟨a0,a1,a2,a3⟩:=an_cells hga
   obtain ⟨n0,n1,n2,n3,m0,m1,m2,m3⟩:=C14.out.ans
   go_wp2_with fail
   obtain ⟨hd,hst⟩:=C14.out.done a
   refine bodyPost_ret (results_cell_row rfl _ _ (w.heap.size + 1) 75 _ (0,0) _ rfl hd Try.underlying75 rfl (by kernel_rfl)) rfl ?_
   exact ⟨a,{ T2 with ss:=T2.ss.take k ++ (⟨r.f0,r.f1,a⟩ : IN) :: T2.ss.drop k,vs:=.slice va (T2.ss.length + 1) vc,os:=os4 },rfl,by rw [HQ0.out,reqY_new HK.out HTH.out HNF.out HD.out];show ((⟨T2.tm,T2.nx,T2.ls.map EL.x,T2.ss.take k ++ _ :: T2.ss.drop k⟩ : Tp),a) = _;rw [HT1.out,HT2.out];rfl,hst⟩
end Go.Proofs.Ytjkanhjapddhnaa.Req
