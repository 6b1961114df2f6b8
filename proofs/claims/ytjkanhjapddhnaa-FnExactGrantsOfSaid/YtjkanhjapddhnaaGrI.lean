/- The implementation's grants and GrantsOf, walked by hand. No condition. -/
-- squeezed
import Derived.Test.YtjkanhjapddhnaaGrP
namespace Go.Proofs.Ytjkanhjapddhnaa.GrI
open Go.RowKit Go.Lib Go.Proofs.YtjkanhjapddhnaaV.PrintWords Go.Proofs.YtjkanhjapddhnaaV.PrintMore Go.Proofs.YtjkanhjapddhnaaV.PrintLast Go.Proofs.Ytjkanhjapddhnaa.Sq Go.Proofs.Ytjkanhjapddhnaa.Own Go.Proofs.Ytjkanhjapddhnaa.MarkT Go.Proofs.Ytjkanhjapddhnaa.Tb Go.Proofs.Ytjkanhjapddhnaa.Gr Go.Proofs.Ytjkanhjapddhnaa.Pu Go.Proofs.Ytjkanhjapddhnaa.Ctx Go.Proofs.Ytjkanhjapddhnaa.InsR Go.Proofs.Ytjkanhjapddhnaa.AppN Go.Proofs.Ytjkanhjapddhnaa.Inv Go.Proofs.Ytjkanhjapddhnaa.Sns Go.Proofs.Ytjkanhjapddhnaa.Req Go.Proofs.Ytjkanhjapddhnaa.Cod Go.Proofs.Ytjkanhjapddhnaa.Run Go.Proofs.Ytjkanhjapddhnaa.GrP Go.Proofs.Ytjkanhjapddhnaa.PFnExactRunRequests
set_option linter.unusedVariables false
set_option linter.unusedSimpArgs false
set_option maxHeartbeats 20000000
set_option maxRecDepth 100000
theorem nil_rowG (w : World) (A : Option Addr) : Row w 96 4 (.slice A 0 0) ([] : List GR).length (([] : List GR).flatMap gc) none:=⟨A,0,rfl,Nat.le_refl _,by omega,by simp,.inl ⟨rfl,rfl⟩⟩
theorem grants_calls (A : Option Addr) (c0 : Nat) (l : List RQ) (B : Option Addr) (c1 : Nat) (ts : List Int) (w : World) (hr : Kd.C k94 w A l.length l) (hr' : Kd.C (Kd.int .i64) w B ts.length ts) (h0 : codeP l ts = 0) :
  Calls Try.prog 60 #[.slice A l.length c0,.slice B ts.length c1] w fun e w' => ∃ av oa,e = .returned av ∧ Row w' 96 4 av (grS (newT,[]) (l.zip ts)).2.length ((grS (newT,[]) (l.zip ts)).2.flatMap gc) oa ∧ (∀ b,oa = some b → w.heap.size ≤ b) ∧ Below w.heap.size w w':=by
 obtain ⟨hl2,hlt,ha1,ha2⟩:=code_zero h0
 have HR:=Aside0.mk hr
 have HR':=Aside0.mk hr'
 have hn : l.length ≤ 9223372036854775807:=hr.2.1
 have HL2:=Aside0.mk hl2
 have HLT:=Aside0.mk hlt
 have HA1:=Aside0.mk ha1
 have HA2:=Aside0.mk ha2
 clear hr hr' h0 hl2 hlt ha1 ha2
 obtain ⟨GA,hGA⟩ : ∃ GA,GA = (grS (newT,[]) (l.zip ts)).2:=⟨_,rfl⟩
 rw [← hGA]
 have HGA:=Aside0.mk hGA
 clear hGA
 go_enter Try.func60,Try.ntmps60
 go_wp2_with fail
 with_reducible refine (new_calls w).mono ?_
 rintro _ W2 ⟨rfl,hb⟩
 have HB2:=Aside0.mk hb
 clear hb
 unfold tbV
 go_upto_region 2 with fail
 change Code.wp _ _ _ _ (W2.alloc (tbO 0 1 (.slice none 0 0) (.slice none 0 0)))
 have hb3:=below_alloc (Below.refl W2.heap.size W2) (tbO 0 1 (.slice none 0 0) (.slice none 0 0))
 have HB3:=Aside0.mk (below_then HB2.out HB2.out.size hb3)
 have hg3:=heap_alloc_new W2 (tbO 0 1 (.slice none 0 0) (.slice none 0 0))
 have HGW:=Aside0.mk (show w.heap.size ≤ W2.heap.size from HB2.out.size)
 generalize W2.alloc (tbO 0 1 (.slice none 0 0) (.slice none 0 0)) = W3 at HB3 hg3 ⊢
 obtain ⟨g,hg⟩ : ∃ g,g = W2.heap.size:=⟨_,rfl⟩
 rw [← hg] at hg3 HGW ⊢
 have HO0:=Aside0.mk (show O3 w W3 g (nilT 0 1) (.slice none 0 0) [] none from ⟨⟨nil_tv _ _ _,hg3,fun o ho => by simp [Tv.blocks,nilT] at ho;rw [ho];simp⟩,nil_rowG _ _,fun b hb => by simp [Tv.blocks,nilT] at hb,by simp,fun x _ => apart_none' _,HB3.out,HGW.out⟩)
 clear hb3 hg3 hg
 go_wp2_with fail
 go_loopg [16,6] l.length (fun gh v16 v6 wx => ∃ (i : Nat) (T : Tv) (gs : List GR) (oa : Option Nat),v16 = .int .i64 i ∧ i ≤ l.length ∧ Aside0 (i + gh = l.length) ∧ Aside0 (gs.length ≤ 4100 * i) ∧ Aside0 ((Tv.pu T,gs) = grS (newT,[]) ((l.zip ts).take i)) ∧ Aside0 (TGood (1 + 5 * i) (Tv.pu T)) ∧ Aside0 (O3 w wx g T v6 gs oa))
 case atStart => exact ⟨0,nilT 0 1,[],none,rfl,Nat.zero_le _,⟨by omega⟩,⟨by simp⟩,⟨rfl⟩,⟨new_good⟩,HO0⟩
 case round =>
  obtain ⟨wo,rfl⟩ : ∃ wo : World,wo = wr:=⟨_,rfl⟩
  obtain ⟨go,rfl⟩ : ∃ go : Nat,go = gk:=⟨_,rfl⟩
  obtain ⟨i,T,gs,oa,rfl,hi,HM,HLA,HRS,HGD,HO⟩:=hrel
  have HL2c:=HL2.out
  by_cases hlt : i < l.length
  ·
   obtain ⟨ad,eA,z0,z1,z2,z3,z4⟩:=at_T94 (Kd.C_below HR.out HO.out.be) (i : Int) (by omega) (by omega)
   cases eA
   simp only [Int.toNat_natCast] at z0 z1 z2 z3 z4
   have hd : rd_T94 l (i : Int) = l[i]:=by unfold rd_T94;simp [hlt]
   rw [hd] at z0 z1 z2 z3 z4
   have q0 : ((i : Int) < (l.length : Int)) = True:=eq_true (by omega)
   have q1 : (0 ≤ (i : Int)) = True:=eq_true (by omega)
   have q2 : decide ((i : Int) < (l.length : Int)) = true:=decide_eq_true (by omega)
   have hlt' : i < ts.length:=by have:=HLT.out;omega
   obtain ⟨r,hrk⟩ : ∃ r,r = l[i]:=⟨_,rfl⟩
   rw [← hrk] at z0 z1 z2 z3 z4
   have HRG:=Aside0.mk (okR_good (List.all_eq_true.1 HA1.out r (hrk ▸ List.getElem_mem hlt)))
   have HTG:=Aside0.mk (okT_good (List.all_eq_true.1 HA2.out (ts[i]) (List.getElem_mem hlt')))
   have HZT:=Aside0.mk (show (l.zip ts).take (i + 1) = (l.zip ts).take i ++ [(r,ts[i])] by rw [hrk];exact zip_take i hlt hlt')
   obtain ⟨tn,htn⟩ : ∃ tn,tn = ts[i]:=⟨_,rfl⟩
   rw [← htn] at HTG HZT
   have q3 : ((i : Int) < (ts.length : Int)) = True:=eq_true (by omega)
   have HTN:=Aside0.mk (show rd ts (i : Int) = tn by rw [htn];unfold rd;simp [hlt'])
   have HLTS:=Aside0.mk hlt'
   clear hd hrk htn hlt'
   go_upto_region 6 with fail
   clear z0 z1 z2 z3 z4
   change Code.wp _ _ _ _ (wo.alloc (rqO r))
   have hb4:=below_alloc (Below.refl wo.heap.size wo) (rqO r)
   have hg4:=heap_alloc_new wo (rqO r)
   obtain ⟨nr,hnr⟩ : ∃ nr,nr = wo.heap.size:=⟨_,rfl⟩
   rw [← hnr] at hg4 ⊢
   have HO4a:=Aside0.mk (HO.out.below hb4)
   generalize wo.alloc (rqO r) = W4 at hb4 hg4 HO4a ⊢
   obtain ⟨-,y1,-,-,-,-,-,-⟩:=HO4a.out.tb.cells
   go_upto_region 7 with fail
   clear y1
   have hd4 : Below W4.heap.size W4 W4.drew:=below_drew (Below.refl _ _)
   have HO4:=Aside0.mk (HO4a.out.below hd4)
   have hg4d : W4.drew.heap[nr]? = some (rqO r):=hg4
   obtain ⟨ad',eB,y0⟩:=Kd.at_int (Kd.C_below HR'.out HO4.out.be) (i : Int) (by omega) (by have:=HLTS.out;omega)
   cases eB
   simp only [Int.toNat_natCast] at y0
   rw [HTN.out] at y0
   have r0 : W4.drew.cell? ⟨nr,0,none⟩ = some (.int .i64 r.f0):=(blk_cell hg4d 0).trans rfl
   have r1 : W4.drew.cell? ⟨nr,1,none⟩ = some (.int .i64 r.f1):=(blk_cell hg4d 1).trans rfl
   have r2 : W4.drew.cell? ⟨nr,2,none⟩ = some (.int .i64 r.f2):=(blk_cell hg4d 2).trans rfl
   have r3 : W4.drew.cell? ⟨nr,3,none⟩ = some (.int .i64 r.f3):=(blk_cell hg4d 3).trans rfl
   have r4 : W4.drew.cell? ⟨nr,4,none⟩ = some (.string r.f4):=(blk_cell hg4d 4).trans rfl
   clear hb4 hg4 hnr hd4 hg4d HO4a
   refine start_ (n:=6) (S:=fun w' => w'.cell? (ad'.add i) = some (.int .i64 tn) ∧ w'.cell? ⟨nr,0,none⟩ = some (.int .i64 r.f0) ∧ w'.cell? ⟨nr,1,none⟩ = some (.int .i64 r.f1) ∧ w'.cell? ⟨nr,2,none⟩ = some (.int .i64 r.f2) ∧ w'.cell? ⟨nr,3,none⟩ = some (.int .i64 r.f3) ∧ w'.cell? ⟨nr,4,none⟩ = some (.string r.f4)) (ds:=[5]) #[false,false,false,false,false,false] (by kernel_rfl) rfl rfl ⟨y0,r0,r1,r2,r3,r4⟩ (fun hHeld => ?_)
   clear y0 r0 r1 r2 r3 r4
   generalize W4.drew = V at HO4 hHeld ⊢
   refine pq 0 (some 23) ?_
   refine pq 1 (some 24) ?_
   refine pq 2 (some 25) ?_
   refine tq 3 (some 26) hHeld ?_
   refine tq 4 (some 27) hHeld ?_
   refine lq 5 (some 28) fun K hK => ?_
   have hq:=request_calls g V T tn r (1 + 5 * i) HO4.out.tb HGD.out (by omega) HTG.out HRG.out
   unfold rqV at hq
   refine goes_ Try.func67 (by kernel_rfl) rfl #[.pointer (some ⟨g,0,none⟩),.int .i64 tn,.agg #[.int .i64 r.f0,.int .i64 r.f1,.int .i64 r.f2,.int .i64 r.f3,.string r.f4]] (by rfl) rfl rfl (by simp only [List.map_toArray,List.map_cons,List.map_nil];rfl) ?_
   with_reducible refine (hq).mono ?_
   rintro _ V2 ⟨a,T2,rfl,hp2,hs2⟩
   refine ⟨_,rfl,?_⟩
   clear hq hHeld
   have HP2:=Aside0.mk hp2
   have HO5:=Aside0.mk (HO4.out.st hs2)
   clear hp2 hs2
   unfold anV
   refine hK.out _ _ ?_
   clear hK K
   refine mq ?_
   refine done_ (by kernel_rfl) ?_
   (try clear hHeld)
   have HG2 : Aside0 (TGood (1 + 5 * (i : Int) + 5) (Tv.pu T2)):=⟨by have h:=good_req HGD.out HTG.out HRG.out;rw [← HP2.out] at h;exact h⟩
   have hn2 : 1 ≤ T2.nx ∧ T2.nx ≤ 1 + 5 * (i : Int) + 5:=HG2.out.nx
   have hn1 : 1 ≤ T.nx ∧ T.nx ≤ 1 + 5 * (i : Int):=HGD.out.nx
   have hl4 : T2.ls.length ≤ 4:=by have h : (T2.ls.map EL.x).length ≤ 4:=HG2.out.l4;rwa [List.length_map] at h
   obtain ⟨n,hnn⟩ : ∃ n : Nat,n = (T2.nx - T.nx).toNat:=⟨_,rfl⟩
   have HNN:=Aside0.mk hnn
   have hnb : n ≤ 1010 ∧ (T.nx + (n : Int) = T2.nx ∨ (n = 0 ∧ T2.nx ≤ T.nx)):=by omega
   clear hnn
   go_wp2_with fail
   go_loopg [10,6] n (fun gh v10 v6 wx => ∃ (j : Nat) (oa : Option Nat),v10 = .int .i64 (T.nx + (j : Int)) ∧ j ≤ n ∧ Aside0 (j + gh = n) ∧ Aside0 (O3 w wx g T2 v6 (gs ++ gtoks T.nx (T2.ls.map EL.x) j) oa))
   case atStart => exact ⟨0,_,by simp,Nat.zero_le _,⟨by omega⟩,⟨by simpa [gtoks] using HO5.out⟩⟩
   case round =>
    clear HO HO4 HO5
    obtain ⟨wm,rfl⟩ : ∃ wm : World,wm = wr:=⟨_,rfl⟩
    obtain ⟨gm,rfl⟩ : ∃ gm : Nat,gm = gk:=⟨_,rfl⟩
    obtain ⟨j,ob,rfl,hj,HMj,HOj⟩:=hrel
    obtain ⟨-,y1,y2,-,-,-,-,-⟩:=HOj.out.tb.cells
    obtain ⟨la,lc,hlv⟩:=HOj.out.tb.v.rl.slice
    rw [hlv] at y2
    have HLV:=Aside0.mk hlv
    clear hlv
    by_cases hjn : j < n
    ·
     have p2 : decide (T.nx + (j : Int) < T2.nx) = true:=decide_eq_true (by omega)
     obtain ⟨tk,htk⟩ : ∃ tk,tk = T.nx + (j : Int):=⟨_,rfl⟩
     have htkb : 0 ≤ tk ∧ tk ≤ 1100000:=by omega
     have HTK:=Aside0.mk htk
     rw [← htk] at p2 ⊢
     clear htk
     have HGL:=Aside0.mk (show (gs ++ gtoks T.nx (T2.ls.map EL.x) j).length ≤ 850000 by
      have h1:=gtoks_len T.nx (T2.ls.map EL.x) (by rw [List.length_map];exact hl4) j
      have h2:=HLA.out
      rw [List.length_append]
      omega)
     obtain ⟨g1,hg1⟩ : ∃ g1,g1 = gs ++ gtoks T.nx (T2.ls.map EL.x) j:=⟨_,rfl⟩
     rw [← hg1] at HOj HGL
     have HG1:=Aside0.mk hg1
     clear hg1
     go_wp2_with fail
     clear y1 y2
     go_loopg [39,6] T2.ls.length (fun gh v39 v6 wx => ∃ (q : Nat) (oa : Option Nat),v39 = .int .i64 q ∧ q ≤ T2.ls.length ∧ Aside0 (q + gh = T2.ls.length) ∧ Aside0 (O3 w wx g T2 v6 (g1 ++ gpick tk ((T2.ls.map EL.x).take q)) oa))
     case atStart => exact ⟨0,_,rfl,Nat.zero_le _,⟨by omega⟩,⟨by simpa [gpick] using HOj.out⟩⟩
     case round =>
      clear HOj
      obtain ⟨wi,rfl⟩ : ∃ wi : World,wi = wr:=⟨_,rfl⟩
      obtain ⟨q,oc,rfl,hq,HMq,HOq⟩:=hrel
      by_cases hql : q < T2.ls.length
      ·
       have hls : T2.ls = T2.ls.take q ++ T2.ls[q] :: T2.ls.drop (q + 1):=by rw [← List.drop_eq_getElem_cons hql,List.take_append_drop]
       obtain ⟨b,o,c,hvl,hat⟩:=HOq.out.tb.v.at_ hls
       have hpl : (T2.ls.take q).length = q:=by rw [List.length_take];omega
       rw [hpl] at hat
       obtain ⟨rfl,rfl⟩ : la = some ⟨b,o,none⟩ ∧ lc = c:=by
        have h:=HLV.out
        rw [hvl] at h
        injection h with h1 _ h3
        exact ⟨h1.symm,h3.symm⟩
       obtain ⟨x0,x1,x2,x3,x4,-,-,-,-,-⟩:=hat.cells HOq.out.tb.v
       have HPK:=Aside0.mk (gpick_take tk (T2.ls.map EL.x) q (by rw [List.length_map];exact hql))
       have HGQ:=Aside0.mk (show (g1 ++ gpick tk ((T2.ls.map EL.x).take q)).length ≤ 900000 by
        have h1:=gpick_len tk ((T2.ls.map EL.x).take q)
        have h2 : ((T2.ls.map EL.x).take q).length ≤ 4:=Nat.le_trans (List.length_take_le _ _) (by omega)
        have h3:=HGL.out
        rw [List.length_append]
        omega)
       rw [List.getElem_map] at HPK
       obtain ⟨x,hx⟩ : ∃ x,x = T2.ls[q]:=⟨_,rfl⟩
       rw [← hx] at x0 x1 x2 x3 x4 HPK
       obtain ⟨A4,c4,hv4,-,-⟩:=(HOq.out.tb.v.rw x (by rw [hx];exact List.getElem_mem hql)).reads
       rw [hv4] at x4
       obtain ⟨⟨nm,tok,hol,exp,ws⟩,xv,xo⟩:=x
       simp only at x0 x1 x2 x3 x4 HPK
       have p0 : ((q : Int) < (T2.ls.length : Int)) = True:=eq_true (by omega)
       have p1 : (0 ≤ (q : Int)) = True:=eq_true (by omega)
       have p3 : decide ((q : Int) < (T2.ls.length : Int)) = true:=decide_eq_true (by omega)
       obtain ⟨g2,hg2⟩ : ∃ g2,g2 = g1 ++ gpick tk ((T2.ls.map EL.x).take q):=⟨_,rfl⟩
       rw [← hg2] at HOq HGQ
       have HG2e:=Aside0.mk hg2
       clear hls hvl hat hpl hx hv4 hg2
       go_upto_region 14 with fail
       clear x0 x1 x2 x3 x4
       have hb5:=below_alloc (Below.refl wi.heap.size wi) (.cells #[.string nm,.int .i64 tok,.int .i64 hol,.int .i64 exp,.slice A4 ws.length c4] 70 (0,0))
       have hg5:=heap_alloc_new wi (.cells #[.string nm,.int .i64 tok,.int .i64 hol,.int .i64 exp,.slice A4 ws.length c4] 70 (0,0))
       have HO6:=Aside0.mk (HOq.out.below hb5)
       generalize wi.alloc (.cells #[.string nm,.int .i64 tok,.int .i64 hol,.int .i64 exp,.slice A4 ws.length c4] 70 (0,0)) = W6 at hb5 hg5 HO6 ⊢
       generalize wi.heap.size = nl at hg5 ⊢
       have u0 : W6.cell? ⟨nl,0,none⟩ = some (.string nm):=(blk_cell hg5 0).trans rfl
       have u1 : W6.cell? ⟨nl,1,none⟩ = some (.int .i64 tok):=(blk_cell hg5 1).trans rfl
       have u2 : W6.cell? ⟨nl,2,none⟩ = some (.int .i64 hol):=(blk_cell hg5 2).trans rfl
       have u3 : W6.cell? ⟨nl,3,none⟩ = some (.int .i64 exp):=(blk_cell hg5 3).trans rfl
       clear hb5 hg5
       by_cases hpk : tok = tk ∧ hol ≠ -1
       ·
        obtain ⟨e1,e2⟩:=hpk
        subst e1
        have m0 : (tok == tok) = true:=by simp
        have m1 : (hol != -1) = true:=by simpa using e2
        have hgo : gone tok ⟨nm,tok,hol,exp,ws⟩ = [⟨nm,hol,tok,exp⟩]:=if_pos ⟨rfl,e2⟩
        obtain ⟨v5,W7,o7,hrun,hrow,hob,hfr⟩:=appG W6 _ g2 ⟨nm,hol,tok,exp⟩ oc HO6.out.row HGQ.out
        have HO8:=Aside0.mk ((HO6.out.below (below_alloc (Below.refl _ W6) _)).app hrow hob hfr)
        have HGO:=Aside0.mk hgo
        clear hrow hob hfr hgo
        go_wp2_with (at_builtin;refine Lib.wpList_append_run _ rfl _ _ _ _ rfl _ _ rfl rfl _ _ hrun ?_)
        go_roundg (gk - 1)
        case measure => have:=HMq.out;omega
        case rel =>
         refine ⟨q + 1,o7,by go_num,by omega,⟨by have:=HMq.out;omega⟩,⟨?_⟩⟩
         rw [HPK.out,HGO.out,← List.append_assoc,← HG2e.out]
         exact HO8.out
       ·
        have hgo : gone tk ⟨nm,tok,hol,exp,ws⟩ = []:=if_neg hpk
        have HGO:=Aside0.mk hgo
        have he2 : g2 = g1 ++ gpick tk ((T2.ls.map EL.x).take (q + 1)):=by rw [HPK.out,HGO.out,List.append_nil];exact HG2e.out
        have hfin:=HO6.out
        rw [he2] at hfin
        have HFIN:=Aside0.mk hfin
        clear hgo hfin he2
        by_cases e1 : tok = tk
        ·
         have m0 : (tok == tk) = true:=by simpa using e1
         have e2 : hol = -1:=by
          by_cases e2 : hol = -1
          ·
           exact e2
          ·
           exact absurd ⟨e1,e2⟩ hpk
         have m1 : (hol != -1) = false:=by simpa using e2
         clear hpk e1 e2
         go_wp2_with fail
         go_roundg (gk - 1)
         case measure => have:=HMq.out;omega
         case rel => exact ⟨q + 1,oc,by go_num,by omega,⟨by have:=HMq.out;omega⟩,HFIN⟩
        ·
         have m0 : (tok == tk) = false:=by simpa using e1
         clear hpk e1
         go_wp2_with fail
         go_roundg (gk - 1)
         case measure => have:=HMq.out;omega
         case rel => exact ⟨q + 1,oc,by go_num,by omega,⟨by have:=HMq.out;omega⟩,HFIN⟩
      ·
       obtain rfl : q = T2.ls.length:=by omega
       have p3 : decide ((T2.ls.length : Int) < (T2.ls.length : Int)) = false:=decide_eq_false (by omega)
       go_wp2_with fail
       go_roundg (gm - 1)
       case measure => have:=HMj.out;omega
       case rel =>
        refine ⟨j + 1,oc,?_,by omega,⟨by have:=HMj.out;omega⟩,⟨?_⟩⟩
        ·
         rw [HTK.out]
         congr 1
         omega
        ·
         have h:=HOq.out
         rw [List.take_of_length_le (by rw [List.length_map];exact Nat.le_refl _),HG1.out,List.append_assoc,HTK.out,← gtoks_succ] at h
         exact h
    ·
     obtain rfl : j = n:=by omega
     have p2 : decide (T.nx + (j : Int) < T2.nx) = false:=decide_eq_false (by omega)
     go_wp2_with fail
     go_roundg (go - 1)
     case measure => have:=HM.out;omega
     case rel =>
      refine ⟨i + 1,T2,_,ob,by go_num,by omega,⟨by have:=HM.out;omega⟩,⟨?_⟩,⟨?_⟩,⟨?_⟩,HOj⟩
      ·
       have h1:=gtoks_len T.nx (T2.ls.map EL.x) (by rw [List.length_map];exact hl4) j
       have h2:=HLA.out
       rw [List.length_append]
       omega
      ·
       rw [HZT.out,grS_snoc,← HRS.out]
       have e : (reqX (Tv.pu T) tn r).1 = Tv.pu T2:=by rw [← HP2.out]
       unfold gstep
       simp only [e]
       rw [HNN.out]
       rfl
      ·
       rw [show 1 + 5 * ((i + 1 : Nat) : Int) = 1 + 5 * (i : Int) + 5 by omega]
       exact HG2.out
  ·
   obtain rfl : i = l.length:=by omega
   have q2 : decide ((l.length : Int) < (l.length : Int)) = false:=decide_eq_false (by omega)
   have HFIN:=Aside0.mk (show gs = GA by
    have h:=HRS.out
    rw [List.take_of_length_le (by rw [List.length_zip];have:=HLT.out;omega)] at h
    rw [HGA.out,← h])
   go_wp2_with fail
   go_ret
   refine ⟨_,oa,rfl,?_,fun b hb => HO.out.ow b (.inr hb),HO.out.be⟩
   rw [← HFIN.out]
   exact HO.out.row
theorem grantsOf_calls (A : Option Addr) (c0 : Nat) (l : List RQ) (B : Option Addr) (c1 : Nat) (ts : List Int) (w : World) (hr : Kd.C k94 w A l.length l) (hs : ∀ r ∈ l,r.f4.size ≤ 140737488351232) (hr' : Kd.C (Kd.int .i64) w B ts.length ts) (hc : l.length ≤ c0) (hc' : ts.length ≤ c1) :
  Calls Try.prog 25 #[.slice A l.length c0,.slice B ts.length c1] w fun e w' => ∃ av oa,e = .returned (.tuple #[av,.int .i64 (grAll l ts).2]) ∧ Row w' 96 4 av (grAll l ts).1.length ((grAll l ts).1.flatMap gc) oa ∧ (∀ b,oa = some b → w.heap.size ≤ b) ∧ Below w.heap.size w w':=by
 have HR:=Aside0.mk hr
 have HR':=Aside0.mk hr'
 have hq:=code_calls A c0 l B c1 ts w hr hs hr' hc hc'
 clear hr hs hr' hc hc'
 obtain ⟨GA,hGA⟩ : ∃ GA,GA = grAll l ts:=⟨_,rfl⟩
 rw [← hGA]
 have HGA:=Aside0.mk hGA
 clear hGA
 go_enter Try.func25,Try.ntmps25
 go_wp2_with fail
 with_reducible refine hq.mono ?_
 clear hq
 rintro _ W1 ⟨rfl,hb⟩
 have HB1:=Aside0.mk hb
 clear hb
 by_cases h0 : codeP l ts = 0
 ·
  have HG:=Aside0.mk (show GA = ((grS (newT,[]) (l.zip ts)).2,0) by rw [HGA.out];exact if_pos h0)
  have hq:=grants_calls A c0 l B c1 ts W1 (Kd.C_below HR.out HB1.out) (Kd.C_below HR'.out HB1.out) h0
  rw [h0]
  clear h0
  go_wp2_with fail
  with_reducible refine hq.mono ?_
  clear hq
  rintro _ W2 ⟨av,oa,rfl,hrow,hfo,hb⟩
  have HROW:=Aside0.mk hrow
  have HFO:=Aside0.mk (fun b hb' => Nat.le_trans HB1.out.size (hfo b hb'))
  have HB2:=Aside0.mk (below_then HB1.out HB1.out.size hb)
  clear hrow hfo hb
  go_wp2_with fail
  go_ret2
  rw [HG.out]
  exact ⟨av,oa,rfl,HROW.out,HFO.out,HB2.out⟩
 ·
  have HG:=Aside0.mk (show GA = ([],codeP l ts) by rw [HGA.out];exact if_neg h0)
  have q0 : (codeP l ts != 0) = true:=by simpa using h0
  clear h0
  go_wp2_with fail
  go_ret2
  rw [HG.out]
  exact ⟨_,none,rfl,nil_rowG _ _,(fun b hb => by cases hb),HB1.out⟩
end Go.Proofs.Ytjkanhjapddhnaa.GrI
