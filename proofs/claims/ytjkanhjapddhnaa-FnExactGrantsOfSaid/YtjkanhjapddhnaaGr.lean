/- The steps of a region that draws its order, with the usual proofs of their sides as defaults. No condition. -/
-- squeezed
import Derived.Test.YtjkanhjapddhnaaVLast
import Derived.WalkKit
import Derived.Test.YtjkanhjapddhnaaTb
import Derived.Test.YtjkanhjapddhnaaProg
import Derived.Deep.LoopGhost
set_option linter.unusedVariables false
namespace Go.Proofs.Ytjkanhjapddhnaa.Sq
open Go.RowKit Go.Proofs.YtjkanhjapddhnaaV.PrintLast
section
variable {P : Program} {ops : Array Oper} {Q : Exit → Act → World → Prop} {md : Region.Mode} {S : World → Prop} {ds : List Nat}
theorem pq (i : Nat) (N : Option Tmp) {oi : Oper} {v : Value} {fuel : Nat} {l l' : Array Bool} {a a' : Act} {w : World} (h : wpAnyLast P md ops Q S ds fuel l' a' w)
  (hi : ops[i]? = some oi:=by rfl) (hl : l.setIfInBounds i true = l':=by (simp only [List.setIfInBounds_toArray,List.set_cons_zero,List.set_cons_succ];rfl)) (hc : anyB md ops l l' i = true:=by kernel_rfl)
  (hQ : ∀ c a w,Q (.panic c) (a.put oi.dst v) w → Q (.panic c) a w:=by exact fun _ _ _ h => h) (hy : Yields P ops oi v a:=by (refine Or.inl ⟨by rfl,?_⟩;intro w';go_simp;with_reducible rfl))
  (hN : oi.dst = N:=by rfl) (ha : a.put N v = a':=by (simp only [Act.put,List.setIfInBounds_toArray,List.set_cons_zero,List.set_cons_succ,i64_w,i32_w];rfl)) : wpAnyLast P md ops Q S ds (fuel + 1) l a w:=pure_ l' hi hN hc hQ hy ha h
theorem oq (i : Nat) (N : Option Tmp) {oi : Oper} {fuel : Nat} {l l' : Array Bool} {a a' : Act} {w : World} (h : wpAnyLast P md ops Q S ds fuel l' a' w)
  (hi : ops[i]? = some oi:=by rfl) (hl : l.setIfInBounds i true = l':=by (simp only [List.setIfInBounds_toArray,List.set_cons_zero,List.set_cons_succ];rfl)) (hc : anyB md ops l l' i = true:=by kernel_rfl)
  (hQ : ∀ c a w,Q (.panic c) (a.put oi.dst undef) w → Q (.panic c) a w:=by exact fun _ _ _ h => h) (hy : Yields P ops oi undef a:=by exact Or.inr ⟨by rfl,rfl⟩)
  (hN : oi.dst = N:=by rfl) (ha : a.put N undef = a':=by (simp only [Act.put,List.setIfInBounds_toArray,List.set_cons_zero,List.set_cons_succ,i64_w,i32_w];rfl)) : wpAnyLast P md ops Q S ds (fuel + 1) l a w:=pure_ l' hi hN hc hQ hy ha h
theorem tq (i : Nat) (N : Option Tmp) {oi : Oper} {v : Value} {fuel : Nat} {l l' : Array Bool} {a a' : Act} {w : World} (hS : S w) (h : wpAnyLast P md ops Q S ds fuel l' a' w)
  (hi : ops[i]? = some oi:=by rfl) (hl : l.setIfInBounds i true = l':=by (simp only [List.setIfInBounds_toArray,List.set_cons_zero,List.set_cons_succ];rfl)) (hc : takeB md ops ds l l' i = true:=by kernel_rfl)
  (hQ : ∀ c a w,Q (.panic c) (a.put oi.dst v) w → Q (.panic c) a w:=by exact fun _ _ _ h => h) (hy : YieldsIf P ops S oi v a:=by (refine Or.inl ⟨by rfl,?_⟩;intro w' s;(repeat (have s0:=s.1;replace s:=s.2));go_simp;with_reducible rfl))
  (hN : oi.dst = N:=by rfl) (ha : a.put N v = a':=by (simp only [Act.put,List.setIfInBounds_toArray,List.set_cons_zero,List.set_cons_succ,i64_w,i32_w];rfl)) : wpAnyLast P md ops Q S ds (fuel + 1) l a w:=take_ l' hi hN hc hQ hy hS ha h
theorem nq (i : Nat) (N : Option Tmp) {oi : Oper} {fuel : Nat} {l l' : Array Bool} {a : Act} {w : World}
  (h : ∀ K : Act → World → Prop,Shut (∀ a' w',S w' → (S w' → wpAnyLast P md ops Q S ds fuel l' a' w') → K a' w') → if Region.wanted oi (yielded ops a.tmps) = true then Oper.wp P oi a w K Q else K (a.put N undef) w)
  (hi : ops[i]? = some oi:=by rfl) (hN : oi.dst = N:=by rfl) (hl : l.setIfInBounds i true = l':=by (simp only [List.setIfInBounds_toArray,List.set_cons_zero,List.set_cons_succ];rfl)) (hc : readyB md ops l l' i = true:=by kernel_rfl) (hd : i ∉ ds:=by decide) : wpAnyLast P md ops Q S ds (fuel + 1) l a w:=one_ l' hi hN hc hd h
theorem lq (i : Nat) (N : Option Tmp) {oi : Oper} {fuel : Nat} {l l' : Array Bool} {a : Act} {w : World}
  (h : ∀ K : Act → World → Prop,Shut (∀ a' w',wpAnyLast P md ops Q S ds fuel l' a' w' → K a' w') → if Region.wanted oi (yielded ops a.tmps) = true then Oper.wp P oi a w K Q else K (a.put N undef) w)
  (hi : ops[i]? = some oi:=by rfl) (hN : oi.dst = N:=by rfl) (hl : l.setIfInBounds i true = l':=by (simp only [List.setIfInBounds_toArray,List.set_cons_zero,List.set_cons_succ];rfl)) (hc : readyB md ops l l' i = true:=by kernel_rfl) (hd : i ∈ ds:=by decide) : wpAnyLast P md ops Q S ds (fuel + 1) l a w:=last_ l' hi hN hc hd h
theorem mq {fuel : Nat} {l : Array Bool} {a a' : Act} {w : World} (h : wpAnyLast P md ops Q S ds fuel l a' w) (ha : a = a':=by (simp only [putAll,Act.put,List.setIfInBounds_toArray,List.set_cons_zero,List.set_cons_succ,i64_w,i32_w];rfl)) : wpAnyLast P md ops Q S ds fuel l a w:=norm_ ha h
theorem vq {oi : Oper} {N : Option Tmp} {a : Act} {w w1 : World} {v : Value} {K : Act → World → Prop} (h : K (a.put N v) w1) (hw : Region.wanted oi (yielded ops a.tmps) = true:=by rfl) (hN : oi.dst = N:=by rfl)
  (hrun : (execOp a.eval oi).run P w = .ok (.value v) w1:=by (go_simp;(try constructor) <;> rfl)) : if Region.wanted oi (yielded ops a.tmps) = true then Oper.wp P oi a w K Q else K (a.put N undef) w:=value_ hw hN hrun h
theorem sq {oi : Oper} {a : Act} {w w1 : World} {K : Act → World → Prop} (h : K a w1) (hw : Region.wanted oi (yielded ops a.tmps) = true:=by rfl) (hN : oi.dst = none:=by rfl)
  (hrun : (execOp a.eval oi).run P w = .ok .skip w1:=by (go_simp;rfl)) : if Region.wanted oi (yielded ops a.tmps) = true then Oper.wp P oi a w K Q else K (a.put none undef) w:=skip_ hw hN hrun h
end
end Go.Proofs.Ytjkanhjapddhnaa.Sq
namespace Go.Proofs.Ytjkanhjapddhnaa.Gr
open Go.RowKit Go.Proofs.YtjkanhjapddhnaaV.PrintWords Go.Proofs.YtjkanhjapddhnaaV.PrintMore Go.Proofs.YtjkanhjapddhnaaV.PrintLast Go.Proofs.Ytjkanhjapddhnaa.Sq Go.Proofs.Ytjkanhjapddhnaa.Own Go.Proofs.Ytjkanhjapddhnaa.MarkT Go.Proofs.Ytjkanhjapddhnaa.Tb Go.Proofs.Ytjkanhjapddhnaa.PFnExactRunRequests
set_option linter.unusedVariables false
set_option linter.unusedSimpArgs false
set_option maxHeartbeats 20000000
set_option maxRecDepth 100000
theorem tell_calls (b q : Nat) (tok hol exp kind : Int) (w : World)
  (x1 : w.cell? ⟨b,q + 1,none⟩ = some (.int .i64 tok)) (x2 : w.cell? ⟨b,q + 2,none⟩ = some (.int .i64 hol)) (x3 : w.cell? ⟨b,q + 3,none⟩ = some (.int .i64 exp)) :
  Calls Try.prog 120 #[.pointer (some ⟨b,q,none⟩),.int .i64 kind] w fun e w' => e = .returned (anV ⟨kind,tok,hol,exp⟩) ∧ Below w.heap.size w w':=by
 have hbw : b < w.heap.size:=World.block_lt_of_cell? w _ x1
 have HB:=Aside0.mk (below_alloc (Below.refl w.heap.size w) (anO ⟨0,0,0,0⟩))
 have HG:=Aside0.mk (heap_alloc_new w (anO ⟨0,0,0,0⟩))
 have X1:=Aside0.mk x1
 have X2:=Aside0.mk x2
 have X3:=Aside0.mk x3
 clear x1 x2 x3
 go_enter Try.func120,Try.ntmps120
 go_wp2_with fail
 have y1:=pw_cell_below HB.out X1.out
 have y2:=pw_cell_below HB.out X2.out
 have y3:=pw_cell_below HB.out X3.out
 have hn:=HG.out
 change (Code.wp _ _ _ _ (w.alloc (anO ⟨0,0,0,0⟩)))
 generalize w.alloc (anO ⟨0,0,0,0⟩) = W at HB HG y1 y2 y3 hn ⊢
 have hnd : W.drew.heap[w.heap.size]? = some (anO ⟨0,0,0,0⟩):=hn
 have HBD:=Aside0.mk (below_drew HB.out)
 clear HB HG hn
 refine start_ (n:=15) (S:=fun w' => w'.cell? ⟨b,q + 1,none⟩ = some (.int .i64 tok) ∧ w'.cell? ⟨b,q + 2,none⟩ = some (.int .i64 hol) ∧ w'.cell? ⟨b,q + 3,none⟩ = some (.int .i64 exp)) (ds:=[14]) #[false,false,false,false,false,false,false,false,false,false,false,false,false,false,false] (by kernel_rfl) rfl rfl ⟨y1,y2,y3⟩ (fun hHeld => ?_)
 clear y1 y2 y3
 generalize W.drew = V at hnd HBD hHeld ⊢
 obtain ⟨n0,n1,n2,n3,m0,m1,m2,m3⟩:=box_facts hnd
 have HND:=Aside0.mk hnd
 clear hnd
 refine pq 0 (some 5) ?_
 refine pq 1 (some 6) ?_
 refine pq 2 (some 7) ?_
 refine pq 3 (some 8) ?_
 refine pq 5 (some 10) ?_
 refine pq 6 (some 11) ?_
 refine pq 7 (some 12) ?_
 refine pq 9 (some 14) ?_
 refine pq 10 (some 15) ?_
 refine pq 11 (some 16) ?_
 refine tq 4 (some 9) hHeld ?_
 refine tq 8 (some 13) hHeld ?_
 refine tq 12 (some 17) hHeld ?_
 refine pq 13 (some 18) ?_
 refine lq 14 none fun K hK => ?_
 refine sq ?_
 refine hK.out _ _ ?_
 clear hK K
 refine done_ (by kernel_rfl) ?_
 go_wp2_with fail
 have hr:=four_set HND.out (.int .i64 kind) (.int .i64 tok) (.int .i64 hol) (.int .i64 exp)
 refine bodyPost_ret (results_cell_row rfl _ _ w.heap.size 75 _ (0,0) _ rfl hr Try.underlying75 rfl (by kernel_rfl)) rfl ?_
 exact ⟨rfl,(Fr.four (S:=fun _ => False) (Fr.of_below HBD.out) (.inr (Nat.le_refl _)) _ _ _ _).to_below (Nat.le_refl _) (fun _ h => h.elim)⟩
def grX (x : IL) (tm nx cl ls : Int) : IL:={ x with f1:=nx,f2:=cl,f3:=tm + ls }
theorem grant_calls (g : Nat) (w : World) (T : Tv) (A : List EL) (e : EL) (B : List EL) (b q : Nat) (cl ls : Int) (hT : TB w g T) (ha : At T A e B b q) (h0 : 0 ≤ T.tm ∧ T.tm ≤ 2000000000) (h1 : 0 ≤ T.nx ∧ T.nx ≤ 2000000) (h2 : 0 ≤ ls ∧ ls ≤ 1000000) :
  Calls Try.prog 129 #[.pointer (some ⟨g,0,none⟩),.pointer (some ⟨b,q,none⟩),.int .i64 cl,.int .i64 ls] w fun r w' => r = .returned (.tuple #[]) ∧ St g w T w' { T with nx:=T.nx + 1,ls:=A ++ { e with x:=grX e.x T.tm T.nx cl ls } :: B }:=by
 obtain ⟨h00,h01⟩:=h0
 obtain ⟨h10,h11⟩:=h1
 obtain ⟨h20,h21⟩:=h2
 have hne : b ≠ g:=fun h => hT.ng (some b) (by rw [← ha.ol];simp [Tv.blocks]) (by rw [h])
 have hne' : g ≠ b:=Ne.symm hne
 have hTd : TB w.drew g T:=hT.below (below_drew (Below.refl _ _))
 have SD:=Aside0.mk ((St.refl hT).below (below_drew (Below.refl _ _)))
 obtain ⟨y0,y1,-,-,z0,z1,-,-⟩:=hTd.cells
 obtain ⟨-,x1,x2,x3,-,-,f1,f2,f3,-⟩:=ha.cells hTd.v
 have HA:=Aside0.mk ha
 obtain ⟨tm,nx,vl,vs,ls_,ss,ol,os⟩:=T
 obtain ⟨⟨n_,tok,hol,exp,ws⟩,v_,ob_⟩:=e
 simp only at y0 y1 h00 h01 h10 h11 x1 x2 x3
 clear hTd hT ha
 go_enter Try.func129,Try.ntmps129
 go_upto_region 0 with fail
 refine start_ (n:=23) (S:=fun w' => w'.cell? ⟨g,0,none⟩ = some (.int .i64 tm) ∧ w'.cell? ⟨g,1,none⟩ = some (.int .i64 nx)) (ds:=[16,19,22]) #[false,false,false,false,false,false,false,false,false,false,false,false,false,false,false,false,false,false,false,false,false,false,false] (by kernel_rfl) rfl rfl ⟨y0,y1⟩ (fun hHeld => ?_)
 clear y0
 generalize w.drew = V at y1 z1 x1 x2 x3 f1 f2 f3 SD hHeld ⊢
 refine pq 0 (some 8) ?_
 refine pq 1 (some 9) ?_
 refine pq 2 (some 10) ?_
 refine pq 3 (some 11) ?_
 refine pq 4 (some 12) ?_
 refine pq 5 (some 13) ?_
 refine pq 6 (some 14) ?_
 refine pq 8 (some 16) ?_
 refine pq 9 (some 17) ?_
 refine pq 10 (some 18) ?_
 refine pq 12 (some 20) ?_
 refine tq 7 (some 15) hHeld ?_
 refine tq 11 (some 19) hHeld ?_
 refine pq 13 (some 21) ?_
 refine pq 14 (some 22) ?_
 refine pq 15 (some 23) ?_
 refine lq 16 none fun K hK => ?_
 refine sq ?_
 refine hK.out _ _ ?_
 clear hK K
 refine pq 17 (some 24) ?_
 refine pq 18 (some 25) ?_
 refine lq 19 none fun K hK => ?_
 refine sq ?_
 refine hK.out _ _ ?_
 clear hK K
 refine pq 20 (some 26) ?_
 refine pq 21 (some 27) ?_
 refine lq 22 none fun K hK => ?_
 refine sq ?_
 refine hK.out _ _ ?_
 clear hK K
 refine done_ (by kernel_rfl) ?_
 go_wp2_with fail
 rw [show wrap64 (tm + ls) = tm + ls by unfold wrap64;omega]
 refine bodyPost_end (results_none rfl _ _ _) rfl ?_
 exact ⟨rfl,(((SD.out.hol HA.out cl).tok (HA.out.put _) nx).exp ((HA.out.put _).put _) (tm + ls)).next (nx + 1)⟩
theorem tail_row {w : World} {e sz n c b o : Nat} {h0 xs : List Value} {ob : Option Nat} (h : Row w e sz (.slice (some ⟨b,o,none⟩) (n + 1) c) (n + 1) (h0 ++ xs) ob) (hl : h0.length = sz) :
  Row w e sz (.slice (if c = 1 then some ⟨b,o,none⟩ else some ⟨b,o + sz,none⟩) n (c - 1)) n xs (if c = 1 then none else ob):=by
 obtain ⟨A,c',hv,h1,h2,h3,h4⟩:=h
 injection hv with ha _ hc
 subst ha;subst hc
 rw [List.length_append,hl,Nat.succ_mul] at h3
 refine ⟨_,_,rfl,by omega,by omega,by omega,?_⟩
 by_cases hc : c = 1
 ·
  rw [if_pos hc,if_pos hc]
  exact .inl ⟨by omega,rfl⟩
 ·
  rw [if_neg hc,if_neg hc]
  rcases h4 with ⟨h4,_⟩|⟨b',o',cs,fz,ha,hb,hg,hf,hs,hx⟩
  ·
   omega
  ·
   injection ha with ha
   injection ha with hb' ho
   subst hb';subst ho
   refine .inr ⟨b,o + sz,cs,fz,rfl,hb,hg,hf,?_,?_⟩
   ·
    have : c * sz = (c - 1) * sz + sz:=by rw [← Nat.succ_mul,Nat.succ_eq_add_one,Nat.sub_add_cancel (by omega)]
    omega
   ·
    have : xs = (h0 ++ xs).drop sz:=by rw [← hl,List.drop_left]
    rw [this,← hx,← List.drop_drop,List.drop_take,Nat.succ_mul,Nat.add_sub_cancel]
def frX (x : IL) (tm nx : Int) : IL × Int:=match x.f4 with
 | [] => ({ x with f2:=-1,f3:=0 },nx)
 | u :: r => (grX { x with f4:=r } tm nx u.f0 u.f1,nx + 1)
theorem free_calls (g : Nat) (w : World) (T : Tv) (A : List EL) (e : EL) (B : List EL) (b q : Nat) (hT : TB w g T) (ha : At T A e B b q) (h0 : 0 ≤ T.tm ∧ T.tm ≤ 2000000000) (h1 : 0 ≤ T.nx ∧ T.nx ≤ 2000000) (h2 : ∀ u ∈ e.x.f4,0 ≤ u.f1 ∧ u.f1 ≤ 1000000) :
  Calls Try.prog 116 #[.pointer (some ⟨g,0,none⟩),.pointer (some ⟨b,q,none⟩)] w fun r w' => r = .returned (.tuple #[]) ∧ ∃ e' : EL,e'.x = (frX e.x T.tm T.nx).1 ∧ St g w T w' { T with nx:=(frX e.x T.tm T.nx).2,ls:=A ++ e' :: B }:=by
 have hne : b ≠ g:=fun h => hT.ng (some b) (by rw [← ha.ol];simp [Tv.blocks]) (by rw [h])
 have hne' : g ≠ b:=Ne.symm hne
 obtain ⟨x0,x1,x2,x3,x4,f0,f1,f2,f3,f4⟩:=ha.cells hT.v
 have HA:=Aside0.mk ha
 have HT:=Aside0.mk hT
 have hw:=hT.v.rw e (by rw [ha.ls];simp)
 have H0:=Aside0.mk h0
 have H1:=Aside0.mk h1
 have H2:=Aside0.mk h2
 obtain ⟨tm,nx,vl,vs,ls_,ss,ol,os⟩:=T
 obtain ⟨⟨n_,tok,hol,exp,ws⟩,v_,ob_⟩:=e
 simp only at x0 x1 x2 x3 x4
 unfold WR at hw
 simp only at hw
 clear hT ha h0 h1 h2
 cases ws with
 | nil =>
  obtain ⟨wa,c,rfl⟩:=hw.slice
  clear hw
  go_enter Try.func116,Try.ntmps116
  go_wp2_with fail
  refine bodyPost_ret (results_none rfl _ _ _) rfl ?_
  refine ⟨rfl,_,rfl,(((St.refl HT.out).hol HA.out (-1)).exp (HA.out.put _) 0)⟩
 | cons u r =>
  obtain ⟨wb,wo,c,hv,hob⟩:=hw.addr (by simp)
  subst hv
  subst hob
  have u0 : w.cell? ⟨wb,wo,none⟩ = some (.int .i64 u.f0):=(hw.cellAt 0 (by simp [wc])).1
  have u1 : w.cell? ⟨wb,wo + 1,none⟩ = some (.int .i64 u.f1):=(hw.cellAt 1 (by simp [wc])).1
  have HW:=Aside0.mk hw
  have hc : r.length + 1 ≤ c:=by
   obtain ⟨_,_,hv,h,_⟩:=hw
   injection hv with _ _ hc
   subst hc
   exact h
  have hc1 : 1 ≤ c:=by omega
  have hbl : b < w.heap.size:=World.block_lt_of_cell? w _ x0
  clear hw
  go_enter Try.func116,Try.ntmps116
  go_upto_region 3 with fail
  have hb1:=below_alloc (Below.refl w.heap.size w) (.cells #[.int .i64 u.f0,.int .i64 u.f1] 73 (0,0))
  have HG:=Aside0.mk (heap_alloc_new w (.cells #[.int .i64 u.f0,.int .i64 u.f1] 73 (0,0)))
  have S1:=Aside0.mk ((St.refl HT.out).below hb1)
  have HW1:=Aside0.mk (HW.out.kept (fun k hk => hb1.block k (HW.out.lt k hk)))
  have z4:=pw_cell_below hb1 x4
  have g4:=(hb1.frozen (p:=⟨b,q + 4,none⟩) hbl).trans f4
  generalize w.alloc _ = W1 at HG S1 z4 g4 HW1 ⊢
  clear hb1 x0 x1 x2 x3 x4 f0 f1 f2 f3 f4 u0 u1
  go_upto_region 4 with fail
  have hS2:=S1.out.wts HA.out r _ (if c = 1 then none else some wb) (Fr.refl _ _) (tail_row (h0:=wc u) HW1.out rfl) (by
   by_cases hcc : c = 1
   ·
    rw [if_pos hcc];exact .inr (fun k hk => by cases hk)
   ·
    rw [if_neg hcc];exact .inl rfl)
  have hg2 : (W1.setCell ⟨b,q + 4,none⟩ (.slice (if c = 1 then some ⟨wb,wo,none⟩ else some ⟨wb,wo + 2,none⟩) r.length (c - 1))).heap[w.heap.size]? = some (.cells #[.int .i64 u.f0,.int .i64 u.f1] 73 (0,0)) :=
   (Below.heap_setCell W1 _ _ _ (fun e => by have e : w.heap.size = b:=e;omega)).trans HG.out
  have HA2:=Aside0.mk (HA.out.put { x:=⟨n_,tok,hol,exp,r⟩,v:=.slice (if c = 1 then some ⟨wb,wo,none⟩ else some ⟨wb,wo + 2,none⟩) r.length (c - 1),ob:=if c = 1 then none else some wb })
  have HS2:=Aside0.mk hS2
  clear hS2 z4 g4 HG HW1
  generalize W1.setCell ⟨b,q + 4,none⟩ _ = W2 at HS2 hg2 ⊢
  generalize (Value.slice (if c = 1 then some ⟨wb,wo,none⟩ else some ⟨wb,wo + 2,none⟩) r.length (c - 1)) = V2 at HA2 HS2 ⊢
  have u0 : W2.cell? ⟨w.heap.size,0,none⟩ = some (.int .i64 u.f0):=(blk_cell hg2 0).trans rfl
  have u1 : W2.cell? ⟨w.heap.size,1,none⟩ = some (.int .i64 u.f1):=(blk_cell hg2 1).trans rfl
  clear hg2
  go_wp2_with fail
  refine (grant_calls g W2 _ A _ B b q u.f0 u.f1 HS2.out.tb HA2.out H0.out H1.out (H2.out u (by simp))).mono ?_
  rintro _ w3 ⟨rfl,hs3⟩
  have HS3:=Aside0.mk (HS2.out.trans hs3)
  clear hs3
  go_wp2_with fail
  refine bodyPost_end (results_none rfl _ _ _) rfl ?_
  exact ⟨rfl,_,rfl,HS3.out⟩
end Go.Proofs.Ytjkanhjapddhnaa.Gr
