/- The specification's l05Grant and l05Free, walked by hand. No condition. -/
-- squeezed
import Derived.Test.YtjkanhjapddhnaaCtx
import Derived.Test.YtjkanhjapddhnaaGr
import Derived.Test.YtjkanhjapddhnaaAppN
import Derived.Test.YtjkanhjapddhnaaPFnExactRunRequestsx5
namespace Go.Proofs.Ytjkanhjapddhnaa.SGr
open Go.RowKit Go.Lib Go.Proofs.YtjkanhjapddhnaaV.PrintWords Go.Proofs.YtjkanhjapddhnaaV.PrintMore Go.Proofs.YtjkanhjapddhnaaV.PrintLast Go.Proofs.Ytjkanhjapddhnaa.Sq Go.Proofs.Ytjkanhjapddhnaa.Own Go.Proofs.Ytjkanhjapddhnaa.MarkT Go.Proofs.Ytjkanhjapddhnaa.Tb Go.Proofs.Ytjkanhjapddhnaa.Gr Go.Proofs.Ytjkanhjapddhnaa.Ctx Go.Proofs.Ytjkanhjapddhnaa.AppN Go.Proofs.Ytjkanhjapddhnaa.PFnExactRunRequests
set_option linter.unusedVariables false
set_option linter.unusedSimpArgs false
set_option maxHeartbeats 20000000
set_option maxRecDepth 100000
theorem addTime_calls (a b : Int) (w : World) (ha : 0 ≤ a ∧ a ≤ 2000000000) (hb : 0 ≤ b ∧ b ≤ 1000000) : Calls Try.prog 113 #[.int .i64 a,.int .i64 b] w fun e w' => e = .returned (.int .i64 (a + b)) ∧ Below w.heap.size w w':=by
 have h : spec_AddTime.f a b = some (a + b):=by
  unfold spec_AddTime.f
  have e1 : mx a 0 = a:=by unfold mx;omega
  have e2 : mx b 0 = b:=by unfold mx;omega
  rw [e1,e2,if_neg (by unfold wrap64;omega),show wrap64 (a + b) = a + b by unfold wrap64;omega]
 refine (spec_AddTime.calls a b _ w h).mono ?_
 rintro _ w1 ⟨rfl,hb⟩
 exact ⟨rfl,hb⟩
theorem wcs_one (ws : List IW) : ∀ u ∈ ws.flatMap wc,u.oneCell' = true:=by
 intro u hu
 obtain ⟨e,he,hu⟩:=List.mem_flatMap.1 hu
 simp only [wc,List.mem_cons,List.not_mem_nil,or_false] at hu
 rcases hu with rfl|rfl <;> rfl
theorem new_nb0 {g : Nat} {W : World} {T : Tv} (h : TB W g T) : W.heap.size ≠ g ∧ ¬ some W.heap.size ∈ T.blocks:=⟨fun e => by have:=h.lt;omega,fun hm => by have:=h.v.lt _ hm;omega⟩
theorem sgrant_calls (g : Nat) (w : World) (T : Tv) (A : List EL) (e : EL) (B : List EL) (b o c k : Nat) (cl ls : Int) (hT : TB w g T) (hv : T.vl = .slice (some ⟨b,o,none⟩) T.ls.length c) (hk : A.length = k) (ha : At T A e B b (o + k * 5)) (h0 : 0 ≤ T.tm ∧ T.tm ≤ 2000000000) (h1 : 0 ≤ T.nx ∧ T.nx ≤ 900000) (h2 : 0 ≤ ls ∧ ls ≤ 1000000) :
  Calls Try.prog 128 #[.pointer (some ⟨g,0,none⟩),.int .i64 k,.int .i64 cl,.int .i64 ls] w fun r w' => r = .returned (.tuple #[]) ∧ St g w T w' { T with nx:=T.nx + 1,ls:=A ++ { e with x:=grX e.x T.tm T.nx cl ls } :: B }:=by
 have hlen : k < T.ls.length:=by rw [ha.ls,← hk];simp
 obtain ⟨⟨n_,tok,hol,exp,ws⟩,v_,ob_⟩:=e
 have HT:=Aside0.mk hT
 have HV:=Aside0.mk hv
 have HA:=Aside0.mk ha
 have H0:=Aside0.mk h0
 have H2:=Aside0.mk h2
 obtain ⟨h10,h11⟩:=h1
 have y2:=hT.cells.2.2.1
 rw [hv] at y2
 obtain ⟨-,-,x2,-,-,-,-,f2,-,-⟩:=ha.cells hT.v
 have p0 : ((k : Int) < (T.ls.length : Int)) = True:=eq_true (by omega)
 have p1 : (0 ≤ (k : Int)) = True:=eq_true (by omega)
 clear hT hv ha h0 h2 hk
 go_enter Try.func128,Try.ntmps128
 go_upto_region 1 with fail
 obtain ⟨T1,hT1⟩ : ∃ T1 : Tv,T1 = { T with ls:=A ++ ⟨⟨n_,tok,cl,exp,ws⟩,v_,ob_⟩ :: B }:=⟨_,rfl⟩
 have HA1 : Aside0 (At T1 A ⟨⟨n_,tok,cl,exp,ws⟩,v_,ob_⟩ B b (o + k * 5)):=⟨by rw [hT1];exact HA.out.put _⟩
 have S1 : Aside0 (St g w T (w.setCell ⟨b,o + k * 5 + 2,none⟩ (.int .i64 cl)) T1):=⟨by rw [hT1];exact (St.refl HT.out).hol HA.out cl⟩
 have HE1:=Aside0.mk (show T1.tm = T.tm ∧ T1.nx = T.nx ∧ T1.vl = T.vl by rw [hT1];exact ⟨rfl,rfl,rfl⟩)
 have HQ1:=Aside0.mk hT1
 clear x2 f2 y2 hT1
 generalize w.setCell ⟨b,o + k * 5 + 2,none⟩ (.int .i64 cl) = W1 at S1 ⊢
 have S1d:=Aside0.mk (S1.out.below (below_drew (Below.refl _ _)))
 obtain ⟨-,y1,y2,-,-,-,-,-⟩:=S1d.out.tb.cells
 rw [HE1.out.2.1] at y1
 rw [HE1.out.2.2,HV.out] at y2
 obtain ⟨-,x1,-,-,-,-,f1,-,-,-⟩:=HA1.out.cells S1d.out.tb.v
 simp only at x1
 refine start_ (n:=12) (S:=fun w' => w'.cell? ⟨g,2,none⟩ = some (.slice (some ⟨b,o,none⟩) T.ls.length c) ∧ w'.cell? ⟨g,1,none⟩ = some (.int .i64 T.nx)) (ds:=[11]) #[false,false,false,false,false,false,false,false,false,false,false,false] (by kernel_rfl) rfl rfl ⟨y2,y1⟩ (fun hHeld => ?_)
 clear y1 y2
 generalize W1.drew = V1 at S1d x1 f1 hHeld ⊢
 refine pq 0 (some 16) ?_
 refine pq 1 (some 17) ?_
 refine pq 2 (some 18) ?_
 refine pq 4 (some 20) ?_
 refine pq 5 (some 21) ?_
 refine pq 6 (some 22) ?_
 refine pq 7 (some 23) ?_
 refine tq 3 (some 19) hHeld ?_
 refine tq 8 (some 24) hHeld ?_
 refine pq 9 (some 25) ?_
 refine pq 10 (some 26) ?_
 refine lq 11 none fun K hK => ?_
 refine sq ?_
 refine hK.out _ _ ?_
 clear hK K
 refine done_ (by kernel_rfl) ?_
 clear hHeld
 obtain ⟨T2,hT2⟩ : ∃ T2 : Tv,T2 = { T1 with ls:=A ++ ⟨⟨n_,T.nx,cl,exp,ws⟩,v_,ob_⟩ :: B }:=⟨_,rfl⟩
 have HA2 : Aside0 (At T2 A ⟨⟨n_,T.nx,cl,exp,ws⟩,v_,ob_⟩ B b (o + k * 5)):=⟨by rw [hT2];exact HA1.out.put _⟩
 have S2 : Aside0 (St g w T (V1.setCell ⟨b,o + k * 5 + 1,none⟩ (.int .i64 T.nx)) T2):=⟨by rw [hT2];exact S1d.out.tok HA1.out T.nx⟩
 have HE2:=Aside0.mk (show T2.tm = T.tm ∧ T2.nx = T.nx ∧ T2.vl = T.vl by rw [hT2];exact HE1.out)
 have HQ2:=Aside0.mk hT2
 clear x1 f1 hT2
 generalize V1.setCell ⟨b,o + k * 5 + 1,none⟩ (.int .i64 T.nx) = W2 at S2 ⊢
 go_upto_region 2 with fail
 have S2d:=Aside0.mk (S2.out.below (below_drew (Below.refl _ _)))
 obtain ⟨y0,-,y2,-,-,-,-,-⟩:=S2d.out.tb.cells
 rw [HE2.out.1] at y0
 rw [HE2.out.2.2,HV.out] at y2
 refine start_ (n:=14) (S:=fun w' => w'.cell? ⟨g,2,none⟩ = some (.slice (some ⟨b,o,none⟩) T.ls.length c) ∧ w'.cell? ⟨g,0,none⟩ = some (.int .i64 T.tm)) (ds:=[13]) #[false,false,false,false,false,false,false,false,false,false,false,false,false,false] (by kernel_rfl) rfl rfl ⟨y2,y0⟩ (fun hHeld => ?_)
 clear y0 y2
 generalize W2.drew = V2 at S2d hHeld ⊢
 refine pq 0 (some 27) ?_
 refine pq 1 (some 28) ?_
 refine pq 2 (some 29) ?_
 refine pq 4 (some 31) ?_
 refine pq 5 (some 32) ?_
 refine pq 6 (some 33) ?_
 refine pq 7 (some 34) ?_
 refine pq 9 (some 36) ?_
 refine tq 3 (some 30) hHeld ?_
 refine tq 8 (some 35) hHeld ?_
 refine nq 10 (some 37) fun K hK => ?_
 refine goes_ Try.func113 (by kernel_rfl) rfl #[.int .i64 T.tm,.int .i64 ls] (by rfl) rfl rfl (by simp only [List.map_toArray,List.map_cons,List.map_nil];rfl) ?_
 with_reducible refine (addTime_calls T.tm ls V2 H0.out H2.out).mono ?_
 rintro _ V3 ⟨rfl,hb⟩
 refine ⟨_,rfl,?_⟩
 have S3:=Aside0.mk (S2d.out.below hb)
 obtain ⟨-,-,-,x3,-,-,-,-,f3,-⟩:=HA2.out.cells S3.out.tb.v
 simp only at x3
 obtain ⟨y0,-,y2,-,-,-,-,-⟩:=S3.out.tb.cells
 rw [HE2.out.1] at y0
 rw [HE2.out.2.2,HV.out] at y2
 clear hb hHeld
 refine hK.out _ _ ⟨y2,y0⟩ (fun hHeld => ?_)
 clear hK K
 refine mq ?_
 refine pq 11 (some 38) ?_
 refine pq 12 (some 39) ?_
 refine lq 13 none fun K hK => ?_
 refine sq ?_
 refine hK.out _ _ ?_
 clear hK K
 refine done_ (by kernel_rfl) ?_
 clear hHeld y0 y2
 obtain ⟨T3,hT3⟩ : ∃ T3 : Tv,T3 = { T2 with ls:=A ++ ⟨⟨n_,T.nx,cl,T.tm + ls,ws⟩,v_,ob_⟩ :: B }:=⟨_,rfl⟩
 have S4 : Aside0 (St g w T (V3.setCell ⟨b,o + k * 5 + 3,none⟩ (.int .i64 (T.tm + ls))) T3):=⟨by rw [hT3];exact S3.out.exp HA2.out (T.tm + ls)⟩
 have HE3:=Aside0.mk (show T3.tm = T.tm ∧ T3.nx = T.nx ∧ T3.vl = T.vl by rw [hT3];exact HE2.out)
 have HQ3:=Aside0.mk hT3
 clear x3 f3 hT3
 generalize V3.setCell ⟨b,o + k * 5 + 3,none⟩ (.int .i64 (T.tm + ls)) = W4 at S4 ⊢
 obtain ⟨-,y1,-,-,-,z1,-,-⟩:=S4.out.tb.cells
 rw [HE3.out.2.1] at y1
 go_wp2_with fail
 refine bodyPost_end (results_none rfl _ _ _) rfl ?_
 have hn:=S4.out.next (T.nx + 1)
 rw [HQ3.out,HQ2.out,HQ1.out] at hn
 rw [show min (1000000 : Int) (T.nx + 1) = T.nx + 1 by omega]
 exact ⟨rfl,hn⟩
theorem sfree_calls (g : Nat) (w : World) (T : Tv) (A : List EL) (e : EL) (B : List EL) (b o c k : Nat) (hT : TB w g T) (hv : T.vl = .slice (some ⟨b,o,none⟩) T.ls.length c) (hk : A.length = k) (ha : At T A e B b (o + k * 5)) (h0 : 0 ≤ T.tm ∧ T.tm ≤ 2000000000) (h1 : 0 ≤ T.nx ∧ T.nx ≤ 900000) (h2 : ∀ u ∈ e.x.f4,0 ≤ u.f1 ∧ u.f1 ≤ 1000000) (h4 : e.x.f4.length ≤ 4) :
  Calls Try.prog 108 #[.pointer (some ⟨g,0,none⟩),.int .i64 k] w fun r w' => r = .returned (.tuple #[]) ∧ ∃ e' : EL,e'.x = (frX e.x T.tm T.nx).1 ∧ St g w T w' { T with nx:=(frX e.x T.tm T.nx).2,ls:=A ++ e' :: B }:=by
 have hlen : k < T.ls.length:=by rw [ha.ls,← hk];simp
 obtain ⟨⟨n_,tok,hol,exp,ws⟩,v_,ob_⟩:=e
 have HT:=Aside0.mk hT
 have HV:=Aside0.mk hv
 have HA:=Aside0.mk ha
 have H0:=Aside0.mk h0
 have H1:=Aside0.mk h1
 have H2:=Aside0.mk h2
 have HK:=Aside0.mk hk
 have HR4:=Aside0.mk h4
 have hw : Row w 73 2 v_ ws.length (ws.flatMap wc) ob_:=hT.v.rw ⟨⟨n_,tok,hol,exp,ws⟩,v_,ob_⟩ (by rw [ha.ls];simp)
 have y2:=hT.cells.2.2.1
 rw [hv] at y2
 obtain ⟨-,-,x2,x3,x4,-,-,f2,f3,f4⟩:=ha.cells hT.v
 simp only at x2 x3 x4
 have p0 : ((k : Int) < (T.ls.length : Int)) = True:=eq_true (by omega)
 have p1 : (0 ≤ (k : Int)) = True:=eq_true (by omega)
 clear hT hv ha h0 h1 h2 hk h4
 cases ws with
 | nil =>
  obtain ⟨wa,wcp,rfl⟩:=hw.slice
  clear hw
  go_enter Try.func108,Try.ntmps108
  go_wp2_with fail
  refine bodyPost_ret (results_none rfl _ _ _) rfl ?_
  exact ⟨rfl,_,rfl,((St.refl HT.out).hol HA.out (-1)).exp (HA.out.put _) 0⟩
 | cons u r =>
  obtain ⟨wb,wo,wcp,hv,hob⟩:=hw.addr (by simp)
  subst hv
  subst hob
  have u0 : w.cell? ⟨wb,wo,none⟩ = some (.int .i64 u.f0):=(hw.cellAt 0 (by simp [wc])).1
  have u1 : w.cell? ⟨wb,wo + 1,none⟩ = some (.int .i64 u.f1):=(hw.cellAt 1 (by simp [wc])).1
  have hc : r.length + 1 ≤ wcp:=by
   obtain ⟨_,_,hv,h,_⟩:=hw
   injection hv with _ _ hc
   subst hc
   exact h
  have hc1 : 1 ≤ wcp:=by omega
  have HW:=Aside0.mk hw
  clear hw
  go_enter Try.func108,Try.ntmps108
  go_upto_region 5 with fail
  have hb1:=below_alloc (Below.refl w.heap.size w) (.cells #[.int .i64 u.f0,.int .i64 u.f1] 73 (0,0))
  have HG:=Aside0.mk (heap_alloc_new w (.cells #[.int .i64 u.f0,.int .i64 u.f1] 73 (0,0)))
  have S1:=Aside0.mk ((St.refl HT.out).below hb1)
  have HN:=Aside0.mk (new_nb0 HT.out)
  generalize w.alloc (.cells #[.int .i64 u.f0,.int .i64 u.f1] 73 (0,0)) = W1 at HG S1 ⊢
  clear hb1 x2 x3 x4 f2 f3 f4 u0 u1 y2
  have hb2:=below_alloc (Below.refl W1.heap.size W1) (.cells #[] 73 (0,0))
  have S2:=Aside0.mk (S1.out.below hb2)
  have HG2:=Aside0.mk ((hb2.block _ (blk_lt HG.out)).trans HG.out)
  obtain ⟨-,-,-,-,z4,-,-,-,-,g4⟩:=HA.out.cells S2.out.tb.v
  simp only at z4
  have hw2 : Row (W1.alloc (.cells #[] 73 (0,0))) 73 2 (.slice (some ⟨wb,wo,none⟩) (r.length + 1) wcp) (r.length + 1) (wc u ++ r.flatMap wc) (some wb):=S2.out.tb.v.rw ⟨⟨n_,tok,hol,exp,u :: r⟩,.slice (some ⟨wb,wo,none⟩) (u :: r).length wcp,some wb⟩ (by rw [HA.out.ls];simp)
  have ht2:=tail_row hw2 rfl
  have he2 : Row (W1.alloc (.cells #[] 73 (0,0))) 73 2 (.slice (some ⟨W1.heap.size,0,none⟩) 0 0) 0 [] none:=⟨_,0,rfl,Nat.le_refl _,by omega,rfl,.inl ⟨rfl,rfl⟩⟩
  have hr4 : r.length ≤ 1000:=by have:=HR4.out;simp at this;omega
  obtain ⟨v3,W3,ob3,hrun,hrow,hob,hfr⟩:=app_row (P:=Try.prog) _ 68 68 73 2 16 Try.underlying68 (by kernel_rfl) (by omega) (by omega) _ _ 0 r.length [] (r.flatMap wc) none _ he2 ht2 (by omega) (wcs_one r)
  obtain ⟨va,vc,rfl⟩:=hrow.slice
  have hno : ¬ ((none : Option Nat) = some b):=by simp
  have x7:=Fr.cell hfr z4 hno
  have g7:=Fr.frozen hfr g4 (World.block_lt_of_cell? _ _ z4) hno
  have HRUN:=Aside0.mk hrun
  have HRW:=Aside0.mk hrow
  have HOB:=Aside0.mk hob
  have HFR:=Aside0.mk hfr
  clear hrun hrow hob hfr hw2 ht2 he2 hb2 hno
  go_upto_region 6 with (at_builtin;refine Lib.wpList_append_run _ rfl _ _ _ _ rfl _ _ rfl rfl _ _ HRUN.out ?_)
  have hrw : Row W3 73 2 (.slice va r.length vc) r.length (r.flatMap wc) ob3:=by
   have h:=HRW.out
   rw [List.nil_append,Nat.zero_add] at h
   exact h
  have hS3:=S2.out.wts HA.out r (.slice va r.length vc) ob3 (HFR.out.mono (fun k hk => by cases hk)) hrw (by
   rcases HOB.out with h|h
   ·
    exact .inr (fun k hk => by rw [h] at hk;cases hk)
   ·
    exact .inr h)
  have hg3:=HFR.out.blk HG2.out (by simp)
  obtain ⟨T4,hT4⟩ : ∃ T4 : Tv,T4 = { T with ls:=A ++ ⟨⟨n_,tok,hol,exp,r⟩,.slice va r.length vc,ob3⟩ :: B }:=⟨_,rfl⟩
  have S4 : Aside0 (St g w T (W3.setCell ⟨b,o + k * 5 + 4,none⟩ (.slice va r.length vc)) T4):=⟨by rw [hT4];exact hS3⟩
  have HA4 : Aside0 (At T4 A ⟨⟨n_,tok,hol,exp,r⟩,.slice va r.length vc,ob3⟩ B b (o + k * 5)):=⟨by rw [hT4];exact HA.out.put _⟩
  have HV4 : Aside0 (T4.vl = .slice (some ⟨b,o,none⟩) T4.ls.length c):=⟨by
   have h1 : T4.ls.length = T.ls.length:=by rw [hT4,HA.out.ls];simp
   rw [h1,hT4]
   exact HV.out⟩
  have HE4:=Aside0.mk (show T4.tm = T.tm ∧ T4.nx = T.nx by rw [hT4];exact ⟨rfl,rfl⟩)
  have hg4:=(Below.heap_setCell W3 ⟨b,o + k * 5 + 4,none⟩ (.slice va r.length vc) w.heap.size (fun e => HN.out.2 (by have e : w.heap.size = b:=e;rw [e,← HA.out.ol];simp [Tv.blocks]))).trans hg3
  have HQ4:=Aside0.mk hT4
  clear hrw hS3 hg3 x7 g7 z4 g4 hT4
  generalize W3.setCell ⟨b,o + k * 5 + 4,none⟩ (.slice va r.length vc) = W4 at S4 hg4 ⊢
  have u0 : W4.cell? ⟨w.heap.size,0,none⟩ = some (.int .i64 u.f0):=(blk_cell hg4 0).trans rfl
  have u1 : W4.cell? ⟨w.heap.size,1,none⟩ = some (.int .i64 u.f1):=(blk_cell hg4 1).trans rfl
  clear hg4 HRUN
  generalize (Value.slice (if wcp = 1 then some ⟨wb,wo,none⟩ else some ⟨wb,wo + 2,none⟩) r.length (wcp - 1)) = vt
  go_wp2_with fail
  have hq:=sgrant_calls g W4 T4 A _ B b o c k u.f0 u.f1 S4.out.tb HV4.out HK.out HA4.out (by rw [HE4.out.1];exact H0.out) (by rw [HE4.out.2];exact H1.out) (H2.out u (by simp))
  with_reducible refine hq.mono ?_
  clear hq
  rintro _ W5 ⟨rfl,hs5⟩
  have HS5:=Aside0.mk (S4.out.trans hs5)
  clear hs5
  go_wp2_with fail
  refine bodyPost_end (results_none rfl _ _ _) rfl ?_
  have h:=HS5.out
  rw [HE4.out.1,HE4.out.2,HQ4.out] at h
  exact ⟨rfl,_,rfl,h⟩
end Go.Proofs.Ytjkanhjapddhnaa.SGr
