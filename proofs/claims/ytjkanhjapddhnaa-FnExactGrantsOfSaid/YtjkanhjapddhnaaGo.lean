/- The implementation's goOn, walked by hand: time goes on, leases run out. No condition. -/
-- squeezed
import Derived.Test.YtjkanhjapddhnaaGr
namespace Go.Proofs.Ytjkanhjapddhnaa.Gon
open Go.RowKit Go.Proofs.YtjkanhjapddhnaaV.PrintWords Go.Proofs.YtjkanhjapddhnaaV.PrintMore Go.Proofs.YtjkanhjapddhnaaV.PrintLast Go.Proofs.Ytjkanhjapddhnaa.Sq Go.Proofs.Ytjkanhjapddhnaa.Own Go.Proofs.Ytjkanhjapddhnaa.MarkT Go.Proofs.Ytjkanhjapddhnaa.Tb Go.Proofs.Ytjkanhjapddhnaa.Gr Go.Proofs.Ytjkanhjapddhnaa.PFnExactRunRequests
set_option linter.unusedVariables false
set_option linter.unusedSimpArgs false
set_option maxHeartbeats 20000000
set_option maxRecDepth 100000
def outX (tm : Int) : Int → List IL → List IL × Int
 | nx,[] => ([],nx)
 | nx,x :: l => if x.f2 ≠ -1 ∧ x.f3 ≤ tm then ((frX x tm nx).1 :: (outX tm (frX x tm nx).2 l).1,(outX tm (frX x tm nx).2 l).2) else (x :: (outX tm nx l).1,(outX tm nx l).2)
theorem outX_append (tm nx : Int) (A : List IL) (x : IL) : outX tm nx (A ++ [x]) = if x.f2 ≠ -1 ∧ x.f3 ≤ tm then ((outX tm nx A).1 ++ [(frX x tm (outX tm nx A).2).1],(frX x tm (outX tm nx A).2).2) else ((outX tm nx A).1 ++ [x],(outX tm nx A).2):=by
 induction A generalizing nx with
 | nil => rfl
 | cons a l ih =>
  rw [List.cons_append,outX,outX]
  by_cases h : a.f2 ≠ -1 ∧ a.f3 ≤ tm
  ·
   rw [if_pos h,if_pos h,ih]
   split <;> rfl
  ·
   rw [if_neg h,if_neg h,ih]
   split <;> rfl
theorem frX_next (x : IL) (tm nx : Int) : nx ≤ (frX x tm nx).2 ∧ (frX x tm nx).2 ≤ nx + 1:=by
 unfold frX
 split <;> (simp only;omega)
theorem outX_next (tm nx : Int) (l : List IL) : nx ≤ (outX tm nx l).2 ∧ (outX tm nx l).2 ≤ nx + l.length:=by
 induction l generalizing nx with
 | nil => simp [outX]
 | cons a l ih =>
  have h1:=frX_next a tm nx
  rw [outX]
  split
  ·
   have:=ih (frX a tm nx).2
   simp only [List.length_cons]
   omega
  ·
   have:=ih nx
   simp only [List.length_cons]
   omega
theorem outX_length (tm nx : Int) (l : List IL) : (outX tm nx l).1.length = l.length:=by
 induction l generalizing nx with
 | nil => rfl
 | cons a l ih =>
  rw [outX]
  split
  ·
   simp [ih]
  ·
   simp [ih]
theorem goOn_calls (g : Nat) (w : World) (T : Tv) (now : Int) (hT : TB w g T) (h0 : 0 ≤ T.tm ∧ T.tm ≤ 1000000000) (hn : 0 ≤ now ∧ now ≤ 1000000000) (h1 : 0 ≤ T.nx ∧ T.nx ≤ 1000000) (h2 : ∀ e ∈ T.ls,∀ u ∈ e.x.f4,0 ≤ u.f1 ∧ u.f1 ≤ 1000000) (h4 : T.ls.length ≤ 4) :
  Calls Try.prog 93 #[.pointer (some ⟨g,0,none⟩),.int .i64 now] w fun r w' => r = .returned (.tuple #[]) ∧ ∃ T' : Tv,T'.tm = max T.tm now ∧ (T'.ls.map EL.x,T'.nx) = outX (max T.tm now) T.nx (T.ls.map EL.x) ∧ T'.ss = T.ss ∧ St g w T w' T':=by
 have HT:=Aside0.mk hT
 have H2:=Aside0.mk h2
 obtain ⟨y0,y1,y2,y3,z0,z1,z2,z3⟩:=hT.cells
 clear hT h2
 obtain ⟨tm,htm⟩ : ∃ tm,tm = max T.tm now:=⟨_,rfl⟩
 rw [← htm]
 go_enter Try.func93,Try.ntmps93
 go_upto_region 1 with fail
 have e1 : (if T.tm < now then now else T.tm) = tm:=by rw [htm];split <;> omega
 rw [e1]
 have S1:=Aside0.mk ((St.refl HT.out).time tm)
 have hv1:=(S1.out.tb.cells).2.2.1
 have H4:=Aside0.mk h4
 have H1:=Aside0.mk h1
 have HTM:=Aside0.mk (show 0 ≤ tm ∧ tm ≤ 1000000000 by omega)
 obtain ⟨wa,wc_,hvl⟩:=HT.out.v.rl.slice
 have HVL:=Aside0.mk hvl
 rw [hvl] at hv1
 clear y0 y1 y2 y3 z0 z1 z2 z3 e1 htm h0 hn h1 hvl
 generalize w.setCell ⟨g,0,none⟩ (.int .i64 tm) = W1 at S1 hv1 ⊢
 go_wp2_with fail
 go_loopg [20] T.ls.length (fun gh v20 wx => ∃ (i : Nat) (P0 P B : List EL) (nx : Int),v20 = .int .i64 i ∧ i ≤ T.ls.length ∧ Aside0 (i + gh = T.ls.length) ∧ Aside0 (T.ls = P0 ++ B ∧ P0.length = i ∧ P.length = i) ∧ Aside0 ((P.map EL.x,nx) = outX tm T.nx (P0.map EL.x)) ∧ Aside0 (St g w T wx { T with tm:=tm,nx:=nx,ls:=P ++ B }))
 case atStart => exact ⟨0,[],[],T.ls,T.nx,rfl,Nat.zero_le _,⟨by omega⟩,⟨rfl,rfl,rfl⟩,⟨rfl⟩,S1⟩
 case round =>
  obtain ⟨wi,rfl⟩ : ∃ wi : World,wi = wr:=⟨_,rfl⟩
  obtain ⟨i,P0,P,B,nx,rfl,hi,HM,HP,HX,HS⟩:=hrel
  clear hv1
  by_cases hlt : i < T.ls.length
  ·
   obtain ⟨e,B,rfl⟩ : ∃ e B',B = e :: B':=by
    cases B with
    | nil => obtain ⟨h1,h2,_⟩:=HP.out;rw [h1,List.append_nil] at hlt;omega
    | cons e B' => exact ⟨e,B',rfl⟩
   have hlen : (P ++ e :: B).length = T.ls.length:=by rw [HP.out.1,List.length_append,List.length_append,HP.out.2.1,HP.out.2.2]
   obtain ⟨b,o,c,hv,hat⟩:=HS.out.tb.v.at_ (A:=P) (e:=e) (B:=B) rfl
   have hv' : T.vl = .slice (some ⟨b,o,none⟩) T.ls.length c:=by rw [← hlen];exact hv
   rw [HP.out.2.2] at hat
   have hvw : wi.cell? ⟨g,2,none⟩ = some (.slice (some ⟨b,o,none⟩) T.ls.length c):=by rw [← hv'];exact (HS.out.tb.cells).2.2.1
   have HAT:=Aside0.mk hat
   have p0 : ((i : Int) < (T.ls.length : Int)) = True:=eq_true (by omega)
   have p1 : (0 ≤ (i : Int)) = True:=eq_true (by omega)
   have p2 : decide ((i : Int) < (T.ls.length : Int)) = true:=decide_eq_true (by omega)
   clear hat hv hv' hlen
   obtain ⟨q,hq⟩ : ∃ q,q = o + i * 5:=⟨_,rfl⟩
   rw [← hq] at HAT
   go_upto_region 5 with fail
   rw [← hq]
   have HSD:=Aside0.mk (HS.out.below (below_drew (Below.refl _ _)))
   obtain ⟨-,-,x2,x3,-,-,-,-,-,-⟩:=HAT.out.cells HSD.out.tb.v
   have y0:=HSD.out.tb.cells.1
   clear hq hvw
   have H2e:=Aside0.mk (H2.out e (by rw [HP.out.1];simp))
   have HNX:=outX_next tm T.nx (P0.map EL.x)
   have hnx : 0 ≤ nx ∧ nx ≤ 2000000:=by
    have h:=congrArg Prod.snd HX.out
    simp only at h
    rw [← h,List.length_map,HP.out.2.1] at HNX
    have:=H1.out
    have:=H4.out
    omega
   have HN:=Aside0.mk hnx
   clear HNX hnx
   have hx0 : ∀ (e' : EL) (nx' : Int),(if e.x.f2 ≠ -1 ∧ e.x.f3 ≤ tm then frX e.x tm nx else (e.x,nx)) = (e'.x,nx') → ((P ++ [e']).map EL.x,nx') = outX tm T.nx ((P0 ++ [e]).map EL.x):=fun e' nx' h => by
    rw [List.map_append,List.map_append,List.map_singleton,List.map_singleton,outX_append,← HX.out]
    split
    ·
     rename_i hh
     rw [if_pos hh] at h
     rw [h]
    ·
     rename_i hh
     rw [if_neg hh] at h
     injection h with h h'
     rw [h,h']
   have HX0:=Aside0.mk hx0
   clear hx0
   obtain ⟨⟨n_,tok,hol,exp,ws⟩,v_,ob_⟩:=e
   simp only at x2 x3 HX0 H2e
   by_cases hh : hol = -1
   ·
    have q1 : (hol != -1) = false:=by rw [hh];rfl
    refine start_ (n:=16) (S:=fun w' => w'.cell? ⟨b,q + 2,none⟩ = some (.int .i64 hol) ∧ w'.cell? ⟨b,q + 3,none⟩ = some (.int .i64 exp) ∧ w'.cell? ⟨g,0,none⟩ = some (.int .i64 tm)) (ds:=[]) #[false,false,false,false,false,false,false,false,false,false,false,false,false,false,false,false] (by kernel_rfl) rfl rfl ⟨x2,x3,y0⟩ (fun hHeld => ?_)
    clear x2 x3 y0
    generalize wi.drew = V at HSD hHeld ⊢
    refine pq 0 (some 29) ?_
    refine pq 1 (some 30) ?_
    refine pq 2 (some 31) ?_
    refine tq 3 (some 32) hHeld ?_
    refine pq 4 (some 33) ?_
    refine pq 5 (some 34) ?_
    refine oq 6 (some 35) ?_
    refine oq 7 (some 36) ?_
    refine oq 8 (some 37) ?_
    refine oq 9 (some 38) ?_
    refine oq 10 (some 39) ?_
    refine oq 11 (some 40) ?_
    refine oq 12 (some 41) ?_
    refine oq 13 (some 42) ?_
    refine oq 14 (some 43) ?_
    refine pq 15 (some 44) ?_
    refine done_ (by kernel_rfl) ?_
    clear hHeld
    go_wp2_with fail
    go_roundg (gk - 1)
    case measure => have:=HM.out;omega
    case rel =>
     refine ⟨i + 1,P0 ++ [⟨⟨n_,tok,hol,exp,ws⟩,v_,ob_⟩],P ++ [⟨⟨n_,tok,hol,exp,ws⟩,v_,ob_⟩],B,nx,by go_num,by omega,⟨by have:=HM.out;omega⟩,⟨by rw [HP.out.1];simp,by simp [HP.out.2.1],by simp [HP.out.2.2]⟩,⟨HX0.out _ _ (if_neg (by omega))⟩,⟨?_⟩⟩
     rw [List.append_assoc]
     exact HSD.out
   ·
    have q1 : (hol != -1) = true:=by simpa using hh
    by_cases he : exp ≤ tm
    ·
     have q2 : decide (exp ≤ tm) = true:=decide_eq_true he
     refine start_ (n:=16) (S:=fun w' => w'.cell? ⟨b,q + 2,none⟩ = some (.int .i64 hol) ∧ w'.cell? ⟨b,q + 3,none⟩ = some (.int .i64 exp) ∧ w'.cell? ⟨g,0,none⟩ = some (.int .i64 tm)) (ds:=[]) #[false,false,false,false,false,false,false,false,false,false,false,false,false,false,false,false] (by kernel_rfl) rfl rfl ⟨x2,x3,y0⟩ (fun hHeld => ?_)
     clear x2 x3 y0
     generalize wi.drew = V at HSD hHeld ⊢
     refine pq 0 (some 29) ?_
     refine pq 1 (some 30) ?_
     refine pq 2 (some 31) ?_
     refine tq 3 (some 32) hHeld ?_
     refine pq 4 (some 33) ?_
     refine pq 5 (some 34) ?_
     refine pq 6 (some 35) ?_
     refine pq 7 (some 36) ?_
     refine pq 8 (some 37) ?_
     refine pq 10 (some 39) ?_
     refine pq 11 (some 40) ?_
     refine pq 12 (some 41) ?_
     refine tq 9 (some 38) hHeld ?_
     refine tq 13 (some 42) hHeld ?_
     refine pq 14 (some 43) ?_
     refine pq 15 (some 44) ?_
     refine done_ (by kernel_rfl) ?_
     clear hHeld
     go_wp2_with fail
     refine (free_calls g V _ P _ B b q HSD.out.tb HAT.out (by have:=HTM.out;show 0 ≤ tm ∧ tm ≤ 2000000000;omega) HN.out H2e.out).mono ?_
     rintro _ w3 ⟨rfl,e',he',hs3⟩
     have HE:=Aside0.mk he'
     have HS3:=Aside0.mk (HSD.out.trans hs3)
     clear hs3 he'
     go_wp2_with fail
     go_roundg (gk - 1)
     case measure => have:=HM.out;omega
     case rel =>
      refine ⟨i + 1,P0 ++ [⟨⟨n_,tok,hol,exp,ws⟩,v_,ob_⟩],P ++ [e'],B,_,by go_num,by omega,⟨by have:=HM.out;omega⟩,⟨by rw [HP.out.1];simp,by simp [HP.out.2.1],by simp [HP.out.2.2]⟩,⟨HX0.out e' _ ((if_pos ⟨hh,he⟩).trans (Prod.ext HE.out.symm rfl))⟩,⟨?_⟩⟩
      rw [List.append_assoc]
      exact HS3.out
    ·
     have q2 : decide (exp ≤ tm) = false:=decide_eq_false he
     refine start_ (n:=16) (S:=fun w' => w'.cell? ⟨b,q + 2,none⟩ = some (.int .i64 hol) ∧ w'.cell? ⟨b,q + 3,none⟩ = some (.int .i64 exp) ∧ w'.cell? ⟨g,0,none⟩ = some (.int .i64 tm)) (ds:=[]) #[false,false,false,false,false,false,false,false,false,false,false,false,false,false,false,false] (by kernel_rfl) rfl rfl ⟨x2,x3,y0⟩ (fun hHeld => ?_)
     clear x2 x3 y0
     generalize wi.drew = V at HSD hHeld ⊢
     refine pq 0 (some 29) ?_
     refine pq 1 (some 30) ?_
     refine pq 2 (some 31) ?_
     refine tq 3 (some 32) hHeld ?_
     refine pq 4 (some 33) ?_
     refine pq 5 (some 34) ?_
     refine pq 6 (some 35) ?_
     refine pq 7 (some 36) ?_
     refine pq 8 (some 37) ?_
     refine pq 10 (some 39) ?_
     refine pq 11 (some 40) ?_
     refine pq 12 (some 41) ?_
     refine tq 9 (some 38) hHeld ?_
     refine tq 13 (some 42) hHeld ?_
     refine pq 14 (some 43) ?_
     refine pq 15 (some 44) ?_
     refine done_ (by kernel_rfl) ?_
     clear hHeld
     go_wp2_with fail
     go_roundg (gk - 1)
     case measure => have:=HM.out;omega
     case rel =>
      refine ⟨i + 1,P0 ++ [⟨⟨n_,tok,hol,exp,ws⟩,v_,ob_⟩],P ++ [⟨⟨n_,tok,hol,exp,ws⟩,v_,ob_⟩],B,nx,by go_num,by omega,⟨by have:=HM.out;omega⟩,⟨by rw [HP.out.1];simp,by simp [HP.out.2.1],by simp [HP.out.2.2]⟩,⟨HX0.out _ _ (if_neg (by omega))⟩,⟨?_⟩⟩
      rw [List.append_assoc]
      exact HSD.out
  ·
   obtain rfl : i = T.ls.length:=by omega
   have hB : B = []:=by
    have h3:=congrArg List.length HP.out.1
    have h4:=HP.out.2.1
    rw [List.length_append] at h3
    exact List.eq_nil_of_length_eq_zero (by omega)
   subst hB
   have HPe:=Aside0.mk (show T.ls = P0 by rw [HP.out.1,List.append_nil])
   go_wp2_with fail
   refine bodyPost_end (results_none rfl _ _ _) rfl ?_
   refine ⟨rfl,{ T with tm:=tm,nx:=nx,ls:=P ++ [] },rfl,?_,rfl,HS.out⟩
   show ((P ++ []).map EL.x,nx) = _
   rw [List.append_nil,HPe.out]
   exact HX.out
end Go.Proofs.Ytjkanhjapddhnaa.Gon
