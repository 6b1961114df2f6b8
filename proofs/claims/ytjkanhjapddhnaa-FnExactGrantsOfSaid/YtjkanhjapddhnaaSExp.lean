/- The specification's l05Expire, walked by hand. No condition. -/
-- squeezed
import Derived.Test.YtjkanhjapddhnaaSOwn
import Derived.Test.YtjkanhjapddhnaaGr
import Derived.Test.YtjkanhjapddhnaaSGr
import Derived.Test.YtjkanhjapddhnaaRun
namespace Go.Proofs.Ytjkanhjapddhnaa.SExp
open Go.RowKit Go.Lib Go.Proofs.YtjkanhjapddhnaaV.PrintWords Go.Proofs.YtjkanhjapddhnaaV.PrintMore Go.Proofs.YtjkanhjapddhnaaV.PrintLast Go.Proofs.Ytjkanhjapddhnaa.Sq Go.Proofs.Ytjkanhjapddhnaa.Own Go.Proofs.Ytjkanhjapddhnaa.MarkT Go.Proofs.Ytjkanhjapddhnaa.Tb Go.Proofs.Ytjkanhjapddhnaa.Gr Go.Proofs.Ytjkanhjapddhnaa.Gon Go.Proofs.Ytjkanhjapddhnaa.Pu Go.Proofs.Ytjkanhjapddhnaa.Ctx Go.Proofs.Ytjkanhjapddhnaa.Inv Go.Proofs.Ytjkanhjapddhnaa.Sns Go.Proofs.Ytjkanhjapddhnaa.Run Go.Proofs.Ytjkanhjapddhnaa.SGr Go.Proofs.Ytjkanhjapddhnaa.SOwn Go.Proofs.Ytjkanhjapddhnaa.PFnExactRunRequests
set_option linter.unusedVariables false
set_option linter.unusedSimpArgs false
set_option maxHeartbeats 20000000
set_option maxRecDepth 100000
theorem tv_box {w : World} {T : Tv} {g : Nat} {w' : World} (hT : TV w T) (hb : Below w.heap.size w w') (hg : w'.heap[g]? = some T.box) (hlt : w.heap.size ≤ g) : TB w' g T :=
 ⟨hT.below hb,hg,fun o ho e => by subst e;have:=hT.lt g ho;omega⟩
theorem sexpire_calls (w : World) (T : Tv) (now N : Int) (hT : TV w T) (hG : TGood N (Tv.pu T)) (hN : N ≤ 800000) (hn : 0 ≤ now ∧ now ≤ 1000000000) :
  Calls Try.prog 83 #[tvV T,.int .i64 now] w fun e w' => ∃ T' : Tv,e = .returned (tvV T') ∧ Tv.pu T' = goX (Tv.pu T) now ∧ TV w' T' ∧ (∀ b,some b ∈ T'.blocks → w.heap.size ≤ b) ∧ Below w.heap.size w w':=by
 have HT:=Aside0.mk hT
 have HG:=Aside0.mk hG
 have HNN:=Aside0.mk hN
 have HNW:=Aside0.mk hn
 obtain ⟨la,lc,hlv⟩:=hT.rl.slice
 obtain ⟨sa,sc_,hsv⟩:=hT.rs.slice
 have HLV:=Aside0.mk hlv
 have HSV:=Aside0.mk hsv
 have HB0:=Aside0.mk (below_alloc (below_alloc (Below.refl w.heap.size w) T.box) (tbO 0 0 (.slice none 0 0) (.slice none 0 0)))
 have hsz : (w.alloc T.box).heap.size = w.heap.size + 1:=by show (w.heap.push _).size = _;simp
 have hg0 : ((w.alloc T.box).alloc (tbO 0 0 (.slice none 0 0) (.slice none 0 0))).heap[w.heap.size]? = some T.box:=(heap_alloc_old _ _ (by omega)).trans (heap_alloc_new _ _)
 have hg1 : ((w.alloc T.box).alloc (tbO 0 0 (.slice none 0 0) (.slice none 0 0))).heap[w.heap.size + 1]? = some (tbO 0 0 (.slice none 0 0) (.slice none 0 0)):=by
  have h:=heap_alloc_new (w.alloc T.box) (tbO 0 0 (.slice none 0 0) (.slice none 0 0))
  rw [hsz] at h
  exact h
 unfold Tv.box at HB0 hg0 hg1
 rw [hlv,hsv] at HB0 hg0 hg1
 unfold tvV
 rw [hlv,hsv]
 clear hT hG hN hn hlv hsv hsz
 go_enter Try.func83,Try.ntmps83
 go_upto_region 1 with fail
 change Code.wp _ _ _ _ ((w.alloc (.cells #[.int .i64 T.tm,.int .i64 T.nx,.slice la T.ls.length lc,.slice sa T.ss.length sc_] 31 (0,0))).alloc (tbO 0 0 (.slice none 0 0) (.slice none 0 0)))
 generalize (w.alloc (.cells #[.int .i64 T.tm,.int .i64 T.nx,.slice la T.ls.length lc,.slice sa T.ss.length sc_] 31 (0,0))).alloc (tbO 0 0 (.slice none 0 0) (.slice none 0 0)) = W0 at HB0 hg0 hg1 ⊢
 obtain ⟨n0,n1,n2,n3,-,-,-,-⟩:=box_facts hg0
 have HG1:=Aside0.mk hg1
 clear hg0 hg1
 go_wp2_with fail
 have hq:=sown_calls W0 T (HT.out.below HB0.out) (by have h1 : (T.ls.map EL.x).length ≤ 4:=HG.out.l4;rw [List.length_map] at h1;omega) (by have h1 : T.ss.length ≤ 6:=HG.out.s6;omega) (fun e he => by have:=(HG.out.gl e.x (List.mem_map_of_mem he)).1;omega)
 unfold tvV at hq
 rw [HLV.out,HSV.out] at hq
 with_reducible refine hq.mono ?_
 clear hq
 rintro _ W1 ⟨T1,rfl,hp1,ht1,hb1,hbl⟩
 have HP1:=Aside0.mk hp1
 have HT1:=Aside0.mk ht1
 have HBK:=Aside0.mk hb1
 have HB1:=Aside0.mk (below_then HB0.out HB0.out.size hbl)
 have HG2:=Aside0.mk ((hbl.block _ (blk_lt HG1.out)).trans HG1.out)
 obtain ⟨la1,lc1,hlv1⟩:=ht1.rl.slice
 obtain ⟨sa1,sc1,hsv1⟩:=ht1.rs.slice
 rw [hlv1,hsv1]
 have hgd1 : TGood N (Tv.pu T1):=by rw [hp1];exact HG.out
 have HGD:=Aside0.mk hgd1
 clear hp1 ht1 hb1 hbl n0 n1 n2 n3
 go_upto_region 2 with fail
 have hb2:=below_alloc (Below.refl W1.heap.size W1) (.cells #[.int .i64 T1.tm,.int .i64 T1.nx,.slice la1 T1.ls.length lc1,.slice sa1 T1.ss.length sc1] 31 (0,0))
 have hg2:=heap_alloc_new W1 (.cells #[.int .i64 T1.tm,.int .i64 T1.nx,.slice la1 T1.ls.length lc1,.slice sa1 T1.ss.length sc1] 31 (0,0))
 have HB2:=Aside0.mk (below_then HB1.out HB1.out.size hb2)
 have HG3:=Aside0.mk ((hb2.block _ (blk_lt HG2.out)).trans HG2.out)
 have HTB:=Aside0.mk (tv_box HT1.out hb2 (by unfold Tv.box;rw [hlv1,hsv1];exact hg2) (Nat.le_refl _))
 have HWG:=Aside0.mk (show w.heap.size + 1 < W1.heap.size from blk_lt HG2.out)
 generalize W1.alloc (.cells #[.int .i64 T1.tm,.int .i64 T1.nx,.slice la1 T1.ls.length lc1,.slice sa1 T1.ss.length sc1] 31 (0,0)) = W2 at HB2 HG3 HTB ⊢
 obtain ⟨g,hg⟩ : ∃ g,g = W1.heap.size:=⟨_,rfl⟩
 rw [← hg] at HTB HWG ⊢
 clear hb2 hg2 hgd1 hg
 obtain ⟨y0,-,-,-,z0,-,-,-⟩:=HTB.out.cells
 go_upto_region 3 with fail
 obtain ⟨tm,htm⟩ : ∃ tm,tm = max T1.tm now:=⟨_,rfl⟩
 rw [← htm]
 have S1:=Aside0.mk ((St.refl HTB.out).time tm)
 have HTM:=Aside0.mk htm
 have HTMB:=Aside0.mk (show 0 ≤ tm ∧ tm ≤ 1000000000 by have h1 : 0 ≤ T1.tm ∧ T1.tm ≤ 1000000000:=HGD.out.tm;have:=HNW.out;omega)
 have HL1:=Aside0.mk hlv1
 have HL2:=Aside0.mk hsv1
 have H4 : T1.ls.length ≤ 4:=by have h1 : (T1.ls.map EL.x).length ≤ 4:=HGD.out.l4;rw [List.length_map] at h1;exact h1
 clear y0 z0 htm hlv1 hsv1
 generalize W2.setCell ⟨g,0,none⟩ (.int .i64 tm) = W3 at S1 ⊢
 go_wp2_with fail
 go_loopg [6] T1.ls.length (fun gh v6 wx => ∃ (i : Nat) (P0 P B : List EL) (nx : Int),v6 = .int .i64 i ∧ i ≤ T1.ls.length ∧ Aside0 (i + gh = T1.ls.length) ∧ Aside0 (T1.ls = P0 ++ B ∧ P0.length = i ∧ P.length = i) ∧ Aside0 ((P.map EL.x,nx) = outX tm T1.nx (P0.map EL.x)) ∧ Aside0 (St g W2 T1 wx { T1 with tm:=tm,nx:=nx,ls:=P ++ B }))
 case atStart => exact ⟨0,[],[],T1.ls,T1.nx,rfl,Nat.zero_le _,⟨by omega⟩,⟨rfl,rfl,rfl⟩,⟨rfl⟩,S1⟩
 case round =>
  obtain ⟨wi,rfl⟩ : ∃ wi : World,wi = wr:=⟨_,rfl⟩
  obtain ⟨i,P0,P,B,nx,rfl,hi,HM,HP,HX,HS⟩:=hrel
  have hvw : wi.cell? ⟨g,2,none⟩ = some (.slice la1 T1.ls.length lc1):=by
   have h:=(HS.out.tb.cells).2.2.1
   rw [← HL1.out]
   exact h
  by_cases hlt : i < T1.ls.length
  ·
   obtain ⟨e,B,rfl⟩ : ∃ e B',B = e :: B':=by
    cases B with
    | nil => obtain ⟨h1,h2,_⟩:=HP.out;rw [h1,List.append_nil] at hlt;omega
    | cons e B' => exact ⟨e,B',rfl⟩
   have hlen : (P ++ e :: B).length = T1.ls.length:=by rw [HP.out.1,List.length_append,List.length_append,HP.out.2.1,HP.out.2.2]
   obtain ⟨b,o,c,hv,hat⟩:=HS.out.tb.v.at_ (A:=P) (e:=e) (B:=B) rfl
   rw [HP.out.2.2] at hat
   have HV:=Aside0.mk hv
   have HAT:=Aside0.mk hat
   have hv' : T1.vl = .slice (some ⟨b,o,none⟩) T1.ls.length c:=by rw [← hlen];exact hv
   have HV':=Aside0.mk hv'
   obtain ⟨rfl,rfl⟩ : la1 = some ⟨b,o,none⟩ ∧ lc1 = c:=by
    have h:=HL1.out
    rw [hv'] at h
    injection h with h1 _ h3
    exact ⟨h1.symm,h3.symm⟩
   have p0 : ((i : Int) < (T1.ls.length : Int)) = True:=eq_true (by omega)
   have p1 : (0 ≤ (i : Int)) = True:=eq_true (by omega)
   have p2 : decide ((i : Int) < (T1.ls.length : Int)) = true:=decide_eq_true (by omega)
   have HPLEN:=Aside0.mk hlen
   clear hat hv hv' hlen
   go_upto_region 6 with fail
   have HSD:=Aside0.mk (HS.out.below (below_drew (Below.refl _ _)))
   obtain ⟨-,-,x2,x3,-,-,-,-,-,-⟩:=HAT.out.cells HSD.out.tb.v
   have y0:=HSD.out.tb.cells.1
   have y2 : wi.drew.cell? ⟨g,2,none⟩ = some (.slice (some ⟨b,o,none⟩) T1.ls.length lc1):=by
    have h:=(HSD.out.tb.cells).2.2.1
    rw [← HV'.out]
    exact h
   clear hvw
   have hgl:=HGD.out.gl e.x (by show e.x ∈ T1.ls.map EL.x;rw [HP.out.1];simp)
   have HGL:=Aside0.mk hgl
   have hnb:=hgl.2.1
   have HNX:=outX_next tm T1.nx (P0.map EL.x)
   have hnx : 0 ≤ nx ∧ nx ≤ 900000:=by
    have h:=congrArg Prod.snd HX.out
    simp only at h
    rw [← h,List.length_map,HP.out.2.1] at HNX
    have h1 : 1 ≤ T1.nx ∧ T1.nx ≤ N:=HGD.out.nx
    have:=HNN.out
    omega
   have HN:=Aside0.mk hnx
   clear HNX hnx hgl
   have hx0 : ∀ (e' : EL) (nx' : Int),(if e.x.f2 ≠ -1 ∧ e.x.f3 ≤ tm then frX e.x tm nx else (e.x,nx)) = (e'.x,nx') → ((P ++ [e']).map EL.x,nx') = outX tm T1.nx ((P0 ++ [e]).map EL.x):=fun e' nx' h => by
    rw [List.map_append,List.map_append,List.map_singleton,List.map_singleton,outX_append,← HX.out]
    split
    ·
     rename_i hh
     rw [if_pos hh] at h
     rw [h]
    ·
     rename_i hh
     rw [if_neg hh] at h
     injection h with h h'
     rw [h,h']
   have HX0:=Aside0.mk hx0
   clear hx0
   obtain ⟨⟨n_,tok,hol,exp,ws⟩,v_,ob_⟩:=e
   simp only at x2 x3 HX0 HGL hnb
   by_cases hh : 0 ≤ hol
   rotate_left
   ·
    have q1 : decide (0 ≤ hol) = false:=decide_eq_false hh
    refine start_ (n:=18) (S:=fun w' => w'.cell? ⟨g,2,none⟩ = some (.slice (some ⟨b,o,none⟩) T1.ls.length lc1) ∧ w'.cell? ⟨b,o + i * 5 + 2,none⟩ = some (.int .i64 hol) ∧ w'.cell? ⟨b,o + i * 5 + 3,none⟩ = some (.int .i64 exp) ∧ w'.cell? ⟨g,0,none⟩ = some (.int .i64 tm)) (ds:=[]) #[false,false,false,false,false,false,false,false,false,false,false,false,false,false,false,false,false,false] (by kernel_rfl) rfl rfl ⟨y2,x2,x3,y0⟩ (fun hHeld => ?_)
    clear y2 x2 x3 y0
    generalize wi.drew = V at HSD hHeld ⊢
    refine pq 0 (some 21) ?_
    refine pq 2 (some 23) ?_
    refine tq 1 (some 22) hHeld ?_
    refine pq 3 (some 24) ?_
    refine pq 4 (some 25) ?_
    refine tq 5 (some 26) hHeld ?_
    refine pq 6 (some 27) ?_
    refine pq 7 (some 28) ?_
    refine oq 8 (some 29) ?_
    refine oq 9 (some 30) ?_
    refine oq 10 (some 31) ?_
    refine oq 11 (some 32) ?_
    refine oq 12 (some 33) ?_
    refine oq 13 (some 34) ?_
    refine oq 14 (some 35) ?_
    refine oq 15 (some 36) ?_
    refine oq 16 (some 37) ?_
    refine pq 17 (some 38) ?_
    refine done_ (by kernel_rfl) ?_
    clear hHeld
    go_wp2_with fail
    go_roundg (gk - 1)
    case measure => have:=HM.out;omega
    case rel =>
     refine ⟨i + 1,P0 ++ [⟨⟨n_,tok,hol,exp,ws⟩,v_,ob_⟩],P ++ [⟨⟨n_,tok,hol,exp,ws⟩,v_,ob_⟩],B,nx,by go_num,by omega,⟨by have:=HM.out;omega⟩,⟨by rw [HP.out.1];simp,by simp [HP.out.2.1],by simp [HP.out.2.2]⟩,⟨HX0.out _ _ (if_neg (by omega))⟩,⟨?_⟩⟩
     rw [List.append_assoc]
     exact HSD.out
   ·
    have q1 : decide (0 ≤ hol) = true:=decide_eq_true hh
    by_cases he : exp ≤ tm
    ·
     have q2 : decide (exp ≤ tm) = true:=decide_eq_true he
     refine start_ (n:=18) (S:=fun w' => w'.cell? ⟨g,2,none⟩ = some (.slice (some ⟨b,o,none⟩) T1.ls.length lc1) ∧ w'.cell? ⟨b,o + i * 5 + 2,none⟩ = some (.int .i64 hol) ∧ w'.cell? ⟨b,o + i * 5 + 3,none⟩ = some (.int .i64 exp) ∧ w'.cell? ⟨g,0,none⟩ = some (.int .i64 tm)) (ds:=[]) #[false,false,false,false,false,false,false,false,false,false,false,false,false,false,false,false,false,false] (by kernel_rfl) rfl rfl ⟨y2,x2,x3,y0⟩ (fun hHeld => ?_)
     clear y2 x2 x3 y0
     generalize wi.drew = V at HSD hHeld ⊢
     refine pq 0 (some 21) ?_
     refine pq 2 (some 23) ?_
     refine tq 1 (some 22) hHeld ?_
     refine pq 3 (some 24) ?_
     refine pq 4 (some 25) ?_
     refine tq 5 (some 26) hHeld ?_
     refine pq 6 (some 27) ?_
     refine pq 7 (some 28) ?_
     refine pq 8 (some 29) ?_
     refine pq 10 (some 31) ?_
     refine pq 14 (some 35) ?_
     refine tq 9 (some 30) hHeld ?_
     refine pq 11 (some 32) ?_
     refine pq 12 (some 33) ?_
     refine tq 13 (some 34) hHeld ?_
     refine tq 15 (some 36) hHeld ?_
     refine pq 16 (some 37) ?_
     refine pq 17 (some 38) ?_
     refine done_ (by kernel_rfl) ?_
     clear hHeld
     go_wp2_with fail
     have hq:=sfree_calls g V _ P _ B b o lc1 i HSD.out.tb (show T1.vl = .slice (some ⟨b,o,none⟩) (P ++ _ :: B).length lc1 by rw [HPLEN.out];exact HV'.out) HP.out.2.2 HAT.out (by have:=HTMB.out;show 0 ≤ tm ∧ tm ≤ 2000000000;omega) HN.out (fun u hu => by have:=HGL.out.2.2 u hu;omega) HGL.out.1
     with_reducible refine hq.mono ?_
     clear hq
     rintro _ w3 ⟨rfl,e',he',hs3⟩
     have HE:=Aside0.mk he'
     have HS3:=Aside0.mk (HSD.out.trans hs3)
     clear hs3 he'
     go_wp2_with fail
     go_roundg (gk - 1)
     case measure => have:=HM.out;omega
     case rel =>
      refine ⟨i + 1,P0 ++ [⟨⟨n_,tok,hol,exp,ws⟩,v_,ob_⟩],P ++ [e'],B,_,by go_num,by omega,⟨by have:=HM.out;omega⟩,⟨by rw [HP.out.1];simp,by simp [HP.out.2.1],by simp [HP.out.2.2]⟩,⟨HX0.out e' _ ((if_pos ⟨by omega,he⟩).trans (Prod.ext HE.out.symm rfl))⟩,⟨?_⟩⟩
      rw [List.append_assoc]
      exact HS3.out
    ·
     have q2 : decide (exp ≤ tm) = false:=decide_eq_false he
     refine start_ (n:=18) (S:=fun w' => w'.cell? ⟨g,2,none⟩ = some (.slice (some ⟨b,o,none⟩) T1.ls.length lc1) ∧ w'.cell? ⟨b,o + i * 5 + 2,none⟩ = some (.int .i64 hol) ∧ w'.cell? ⟨b,o + i * 5 + 3,none⟩ = some (.int .i64 exp) ∧ w'.cell? ⟨g,0,none⟩ = some (.int .i64 tm)) (ds:=[]) #[false,false,false,false,false,false,false,false,false,false,false,false,false,false,false,false,false,false] (by kernel_rfl) rfl rfl ⟨y2,x2,x3,y0⟩ (fun hHeld => ?_)
     clear y2 x2 x3 y0
     generalize wi.drew = V at HSD hHeld ⊢
     refine pq 0 (some 21) ?_
     refine pq 2 (some 23) ?_
     refine tq 1 (some 22) hHeld ?_
     refine pq 3 (some 24) ?_
     refine pq 4 (some 25) ?_
     refine tq 5 (some 26) hHeld ?_
     refine pq 6 (some 27) ?_
     refine pq 7 (some 28) ?_
     refine pq 8 (some 29) ?_
     refine pq 10 (some 31) ?_
     refine pq 14 (some 35) ?_
     refine tq 9 (some 30) hHeld ?_
     refine pq 11 (some 32) ?_
     refine pq 12 (some 33) ?_
     refine tq 13 (some 34) hHeld ?_
     refine tq 15 (some 36) hHeld ?_
     refine pq 16 (some 37) ?_
     refine pq 17 (some 38) ?_
     refine done_ (by kernel_rfl) ?_
     clear hHeld
     go_wp2_with fail
     go_roundg (gk - 1)
     case measure => have:=HM.out;omega
     case rel =>
      refine ⟨i + 1,P0 ++ [⟨⟨n_,tok,hol,exp,ws⟩,v_,ob_⟩],P ++ [⟨⟨n_,tok,hol,exp,ws⟩,v_,ob_⟩],B,nx,by go_num,by omega,⟨by have:=HM.out;omega⟩,⟨by rw [HP.out.1];simp,by simp [HP.out.2.1],by simp [HP.out.2.2]⟩,⟨HX0.out _ _ (if_neg (by omega))⟩,⟨?_⟩⟩
      rw [List.append_assoc]
      exact HSD.out
  ·
   obtain rfl : i = T1.ls.length:=by omega
   have hB : B = []:=by
    have h3:=congrArg List.length HP.out.1
    have h4:=HP.out.2.1
    rw [List.length_append] at h3
    exact List.eq_nil_of_length_eq_zero (by omega)
   subst hB
   have HPe:=Aside0.mk (show T1.ls = P0 by rw [HP.out.1,List.append_nil])
   obtain ⟨y0,y1,-,y3,-,-,-,-⟩:=HS.out.tb.cells
   simp only at y0 y1 y3
   rw [HL2.out] at y3
   have hnot : ¬ (w.heap.size + 1 = g ∨ some (w.heap.size + 1) ∈ T1.blocks):=fun h => h.elim (fun e => by have:=HWG.out;omega) (fun hm => by have:=HBK.out _ hm;have:=blk_lt HG1.out;omega)
   have hgr:=HS.out.fr.blk HG3.out hnot
   obtain ⟨n0,n1,n2,n3,m0,m1,m2,m3⟩:=box_facts hgr
   have HGR:=Aside0.mk hgr
   have hgne : g ≠ w.heap.size + 1:=by have:=HWG.out;omega
   clear hgr hnot
   go_wp2_with fail
   have hr:=four_set HGR.out (.int .i64 tm) (.int .i64 nx) (.slice la1 T1.ls.length lc1) (.slice sa1 T1.ss.length sc1)
   refine bodyPost_ret (results_cell_row rfl _ _ (w.heap.size + 1) 31 _ (0,0) _ rfl hr Try.underlying31 rfl (by kernel_rfl)) rfl ?_
   have hfr:=Fr.four (S:=fun x => x = w.heap.size + 1) (Fr.refl _ wi) (.inl rfl) (.int .i64 tm) (.int .i64 nx) (.slice la1 T1.ls.length lc1) (.slice sa1 T1.ss.length sc1)
   have hsz0 : w.heap.size + 1 < W0.heap.size:=blk_lt HG1.out
   have hblk : ∀ b,some b ∈ ({ T1 with tm:=tm,nx:=nx,ls:=P ++ [] } : Tv).blocks → w.heap.size + 1 < b:=fun b hb => by
    rcases HS.out.bl b hb with h1|h1
    ·
     have:=HBK.out b h1;omega
    ·
     have:=blk_lt HG3.out;omega
   refine ⟨{ T1 with tm:=tm,nx:=nx,ls:=P ++ [] },?_,?_,HS.out.tb.v.kept (fun b hb => hfr.block b (HS.out.tb.v.lt b hb) (fun e => by have:=hblk b hb;omega)),fun b hb => by have:=hblk b hb;omega,?_⟩
   ·
    show _ = Ending.returned (.agg #[.int .i64 tm,.int .i64 nx,T1.vl,T1.vs])
    rw [HL1.out,HL2.out]
   ·
    show (⟨tm,nx,(P ++ []).map EL.x,T1.ss⟩ : Tp) = _
    have h1:=HP1.out
    rw [List.append_nil]
    have h2:=HX.out
    rw [← HPe.out] at h2
    rw [← h1]
    show _ = (⟨max T1.tm now,(outX (max T1.tm now) T1.nx (T1.ls.map EL.x)).2,(outX (max T1.tm now) T1.nx (T1.ls.map EL.x)).1,T1.ss⟩ : Tp)
    rw [← HTM.out,← h2]
   ·
    have hle : w.heap.size ≤ wi.heap.size:=Nat.le_trans HB2.out.size HS.out.fr.size
    have hb2:=HS.out.fr.to_below HB2.out.size (fun x hx => hx.elim (fun e => by have:=HWG.out;omega) (fun hm => by have:=HBK.out x hm;omega))
    exact (HB2.out.trans hb2).trans (hfr.to_below hle (fun x hx => by omega))
end Go.Proofs.Ytjkanhjapddhnaa.SExp
