/- The implementation's RunRequests, walked by hand. No condition. -/
-- squeezed
import Derived.Test.YtjkanhjapddhnaaReq
import Derived.Test.YtjkanhjapddhnaaCod
import Derived.Test.YtjkanhjapddhnaaAppA
import Derived.Laws.ResultCell
namespace Go.Proofs.Ytjkanhjapddhnaa.Run
open Go.RowKit Go.Lib Go.Proofs.YtjkanhjapddhnaaV.PrintWords Go.Proofs.YtjkanhjapddhnaaV.PrintMore Go.Proofs.YtjkanhjapddhnaaV.PrintLast Go.Proofs.Ytjkanhjapddhnaa.Own Go.Proofs.Ytjkanhjapddhnaa.MarkT Go.Proofs.Ytjkanhjapddhnaa.Tb Go.Proofs.Ytjkanhjapddhnaa.Gr Go.Proofs.Ytjkanhjapddhnaa.Gon Go.Proofs.Ytjkanhjapddhnaa.Find Go.Proofs.Ytjkanhjapddhnaa.Pos Go.Proofs.Ytjkanhjapddhnaa.Pu Go.Proofs.Ytjkanhjapddhnaa.Ctx Go.Proofs.Ytjkanhjapddhnaa.InsR Go.Proofs.Ytjkanhjapddhnaa.AppA Go.Proofs.Ytjkanhjapddhnaa.Doo Go.Proofs.Ytjkanhjapddhnaa.Inv Go.Proofs.Ytjkanhjapddhnaa.Sns Go.Proofs.Ytjkanhjapddhnaa.Req Go.Proofs.Ytjkanhjapddhnaa.Rp Go.Proofs.Ytjkanhjapddhnaa.Cod Go.Proofs.Ytjkanhjapddhnaa.PFnExactRunRequests
set_option linter.unusedVariables false
set_option linter.unusedSimpArgs false
set_option maxHeartbeats 20000000
set_option maxRecDepth 100000
def tbO (t n : Int) (vl vs : Value) : Obj:=.cells #[.int .i64 t,.int .i64 n,vl,vs] 31 (0,0)
def tbV (t n : Int) (vl vs : Value) : Value:=.agg #[.int .i64 t,.int .i64 n,vl,vs]
theorem new_calls (w : World) : Calls Try.prog 66 #[] w fun e w' => e = .returned (tbV 0 1 (.slice none 0 0) (.slice none 0 0)) ∧ Below w.heap.size w w':=by
 have HB:=Aside0.mk (below_alloc (Below.refl w.heap.size w) (tbO 0 0 (.slice none 0 0) (.slice none 0 0)))
 have hg:=heap_alloc_new w (tbO 0 0 (.slice none 0 0) (.slice none 0 0))
 go_enter Try.func66,Try.ntmps66
 go_upto_region 1 with fail
 change Code.wp _ _ _ _ (w.alloc (tbO 0 0 (.slice none 0 0) (.slice none 0 0)))
 generalize w.alloc (tbO 0 0 (.slice none 0 0) (.slice none 0 0)) = W at HB hg ⊢
 obtain ⟨n0,n1,n2,n3,m0,m1,m2,m3⟩:=box_facts hg
 have HG:=Aside0.mk hg
 clear hg
 go_wp2_with fail
 have hr:=four_set HG.out (.int .i64 0) (.int .i64 1) (.slice none 0 0) (.slice none 0 0)
 refine bodyPost_ret (results_cell_row rfl _ _ w.heap.size 31 _ (0,0) _ rfl hr Try.underlying31 rfl (by kernel_rfl)) rfl ?_
 exact ⟨rfl,(Fr.four (S:=fun _ => False) (Fr.of_below HB.out) (.inr (Nat.le_refl _)) _ _ _ _).to_below (Nat.le_refl _) (fun _ h => h.elim)⟩
def stepS (s : Tp × List AN) (p : RQ × Int) : Tp × List AN:=((reqX s.1 p.2 p.1).1,s.2 ++ [(reqX s.1 p.2 p.1).2])
def runS (s : Tp × List AN) (l : List (RQ × Int)) : Tp × List AN:=l.foldl stepS s
def newT : Tp:=⟨0,1,[],[]⟩
def runAll (l : List RQ) (ts : List Int) : Tp × List AN × Int:=if codeP l ts = 0 then ((runS (newT,[]) (l.zip ts)).1,(runS (newT,[]) (l.zip ts)).2,0) else (⟨0,0,[],[]⟩,[],codeP l ts)
def ac (a : AN) : List Value:=[.int .i64 a.f0,.int .i64 a.f1,.int .i64 a.f2,.int .i64 a.f3]
structure Res (w w' : World) (tv av : Value) (T : Tp) (an_ : List AN) : Prop where
 ex : ∃ (Tv_ : Tv) (oa : Option Nat),tv = tbV Tv_.tm Tv_.nx Tv_.vl Tv_.vs ∧ Tv.pu Tv_ = T ∧ TV w' Tv_ ∧ Row w' 75 4 av an_.length (an_.flatMap ac) oa ∧ (∀ b,some b ∈ Tv_.blocks ∨ oa = some b → w.heap.size ≤ b) ∧ ∀ x ∈ Tv_.blocks,apart x oa
def nilT (t n : Int) : Tv:=⟨t,n,.slice none 0 0,.slice none 0 0,[],[],none,none⟩
theorem nil_row {α : Type} (w : World) (e sz : Nat) (f : α → List Value) : Row w e sz (.slice none 0 0) ([] : List α).length (([] : List α).flatMap f) none:=⟨none,0,rfl,Nat.le_refl _,by omega,by simp,.inl ⟨rfl,rfl⟩⟩
theorem nil_tv (w : World) (t n : Int) : TV w (nilT t n):=⟨nil_row w _ _ EL.cs,fun e he => absurd he (by simp [nilT]),nil_row w _ _ sc,by
 show ([none,none] : List (Option Nat)).Pairwise apart
 exact List.Pairwise.cons (fun x _ => apart_none _) (List.Pairwise.cons (fun x hx => by cases hx) List.Pairwise.nil)⟩
theorem Res.nil (w w' : World) : Res w w' (tbV 0 0 (.slice none 0 0) (.slice none 0 0)) (.slice none 0 0) ⟨0,0,[],[]⟩ [] :=
 ⟨nilT 0 0,none,rfl,rfl,nil_tv w' 0 0,nil_row w' _ _ ac,fun b hb => by simp [Tv.blocks,nilT] at hb,fun x _ => apart_none' _⟩
theorem results_three {P : Program} {fn : Func} {p u v : Tmp} {ty : TypeId} (h : fn.results = #[.cell p ty,.tmp u,.tmp v]) (tmps : Array Value) (w : World) (g : Nat) (t : TypeId) (cs : Array Value) (fr : Nat × Nat) (d : TypeDesc)
  (hp : tmps.getD p undef = .pointer (some ⟨g,0,none⟩)) (hg : w.heap[g]? = some (.cells cs t fr))
  (hu : P.underlying ty = some d) (hd : (match d with|.struct _|.array _ _ => true|_ => false) = true) (hi : (P.info? ty).map (·.size) = some cs.size) :
  (results fn tmps).run P w = .ok (.tuple #[.agg cs,tmps.getD u undef,tmps.getD v undef]) w:=by
 have hp' : tmps[p]?.getD undef = .pointer (some ⟨g,0,none⟩):=by simpa using hp
 simp [results,h,hp',asAddr,run_loadVar_row w g t ty cs fr d hg hu hd hi]
theorem okR_good {r : RQ} (h : okR r = true) : RqGood r:=by
 unfold okR requestP at h
 simp only [Bool.and_eq_true,decide_eq_true_eq] at h
 obtain ⟨⟨h1,h2⟩,_,⟨h5,h6⟩,h7,_⟩:=h
 by_cases hk : r.f2 = 1 ∨ r.f2 = 3
 ·
  rw [if_pos hk] at h7
  simp only [Bool.and_eq_true,decide_eq_true_eq] at h7
  exact ⟨⟨h1,h2⟩,⟨by omega,h7.2⟩,fun _ => h7.1⟩
 ·
  rw [if_neg hk,decide_eq_true_eq] at h7
  exact ⟨⟨h1,h2⟩,⟨by omega,by omega⟩,fun e => absurd (.inl e) hk⟩
theorem okT_good {t : Int} (h : okT t = true) : 0 ≤ t ∧ t ≤ 1000000000:=by
 unfold okT at h
 simpa only [Bool.and_eq_true,decide_eq_true_eq] using h
theorem zip_take {l : List RQ} {ts : List Int} (i : Nat) (h1 : i < l.length) (h2 : i < ts.length) : (l.zip ts).take (i + 1) = (l.zip ts).take i ++ [(l[i],ts[i])]:=by
 rw [List.take_succ_eq_append_getElem (by rw [List.length_zip];omega),List.getElem_zip]
theorem new_good : TGood 1 newT:=⟨⟨by decide,by decide⟩,⟨by decide,by decide⟩,by decide,by decide,List.Pairwise.nil,List.Pairwise.nil,fun s hs => absurd hs (by simp [newT]),fun x hx => absurd hx (by simp [newT])⟩
theorem code_zero {l : List RQ} {ts : List Int} (h : codeP l ts = 0) : l.length ≤ 200 ∧ l.length = ts.length ∧ l.all okR = true ∧ ts.all okT = true:=by
 unfold codeP at h
 split at h
 ·
  omega
 ·
  split at h
  ·
   omega
  ·
   split at h
   ·
    rename_i h1 h2 h3
    exact ⟨by omega,by omega,h3.1,h3.2⟩
   ·
    omega
theorem ac_one (a : AN) : ∀ u ∈ ac a,u.oneCell' = true:=by
 intro u hu
 simp only [ac,List.mem_cons,List.not_mem_nil,or_false] at hu
 rcases hu with rfl|rfl|rfl|rfl <;> rfl
structure O2 (w wx : World) (g : Nat) (T : Tv) (av : Value) (an_ : List AN) (oa : Option Nat) : Prop where
 tb : TB wx g T
 row : Row wx 75 4 av an_.length (an_.flatMap ac) oa
 ow : ∀ b,some b ∈ T.blocks ∨ oa = some b → w.heap.size < b
 og : oa ≠ some g
 oT : ∀ x ∈ T.blocks,apart x oa
 bx : wx.heap[w.heap.size]? = some (tbO 0 0 (.slice none 0 0) (.slice none 0 0))
 be : Below w.heap.size w wx
 gw : w.heap.size < g
theorem O2.below {w wx wy : World} {g : Nat} {T : Tv} {av : Value} {an_ : List AN} {oa : Option Nat} (h : O2 w wx g T av an_ oa) (hb : Below wx.heap.size wx wy) : O2 w wy g T av an_ oa :=
 ⟨h.tb.below hb,h.row.kept (fun b hb' => hb.block b (h.row.lt b hb')),h.ow,h.og,h.oT,(hb.block _ (blk_lt h.bx)).trans h.bx,below_then h.be h.be.size hb,h.gw⟩
theorem O2.fr {w wx wy : World} {g : Nat} {T : Tv} {av : Value} {an_ : List AN} {oa : Option Nat} (h : O2 w wx g T av an_ oa) {S : Nat → Prop} (hf : Fr S wx wy) (hS : ∀ x,S x → w.heap.size < x) : wy.heap[w.heap.size]? = some (tbO 0 0 (.slice none 0 0) (.slice none 0 0)) ∧ Below w.heap.size w wy :=
 ⟨hf.blk h.bx (fun hh => by have:=hS _ hh;omega),⟨hf.os.trans h.be.os,hf.tape.trans h.be.tape,hf.output.trans h.be.output,Nat.le_trans h.be.size hf.size,fun k hk => (hf.block k (Nat.lt_of_lt_of_le hk h.be.size) (fun hh => by have:=hS _ hh;omega)).trans (h.be.block k hk)⟩⟩
theorem O2.st {w wx wy : World} {g : Nat} {T T2 : Tv} {av : Value} {an_ : List AN} {oa : Option Nat} (h : O2 w wx g T av an_ oa) (hs : St g wx T wy T2) : O2 w wy g T2 av an_ oa:=by
 have hlt:=h.row.lt
 obtain ⟨b1,b2⟩:=h.fr hs.fr (fun x hx => hx.elim (fun e => e ▸ h.gw) (fun hm => h.ow x (.inl hm)))
 have hsz : w.heap.size < wx.heap.size:=blk_lt h.bx
 refine ⟨hs.tb,h.row.kept (fun b hb => hs.fr.block b (hlt b hb) (fun hh => hh.elim (fun e => h.og (by rw [hb,e])) (fun hm => h.oT _ hm b rfl hb))),fun b hb => ?_,h.og,fun x hx b hb hb' => ?_,b1,b2,h.gw⟩
 ·
  rcases hb with hb|hb
  ·
   rcases hs.bl b hb with h1|h1
   ·
    exact h.ow b (.inl h1)
   ·
    omega
  ·
   exact h.ow b (.inr hb)
 ·
  subst hb
  rcases hs.bl b hx with h1|h1
  ·
   exact h.oT _ h1 b rfl hb'
  ·
   have:=hlt b hb'
   omega
theorem O2.app {w wx wy : World} {g : Nat} {T : Tv} {av av' : Value} {an_ : List AN} {oa oa' : Option Nat} {a : AN} (h : O2 w wx g T av an_ oa) (hr : Row wy 75 4 av' (an_.length + 1) (an_.flatMap ac ++ ac a) oa') (ho : oa' = oa ∨ ∀ k,oa' = some k → wx.heap.size ≤ k) (hf : Fr (fun k => oa = some k) wx wy) : O2 w wy g T av' (an_ ++ [a]) oa':=by
 obtain ⟨b1,b2⟩:=h.fr hf (fun x hx => h.ow x (.inr hx))
 have hsz : w.heap.size < wx.heap.size:=blk_lt h.bx
 have htb : TB wy g T:=⟨h.tb.v.kept (fun b hb => hf.block b (h.tb.v.lt b hb) (fun hh => h.oT _ hb b rfl hh)),hf.blk h.tb.bx h.og,h.tb.ng⟩
 refine ⟨htb,by rw [List.length_append,List.flatMap_append,List.flatMap_singleton];exact hr,fun b hb => ?_,fun e => ?_,fun x hx b hb hb' => ?_,b1,b2,h.gw⟩
 ·
  rcases hb with hb|hb
  ·
   exact h.ow b (.inl hb)
  ·
   rcases ho with ho|ho
   ·
    exact h.ow b (.inr (ho ▸ hb))
   ·
    have:=ho b hb;omega
 ·
  rcases ho with ho|ho
  ·
   exact h.og (ho ▸ e)
  ·
   have:=ho g e;have:=h.tb.lt;omega
 ·
  rcases ho with ho|ho
  ·
   exact h.oT x hx b hb (ho ▸ hb')
  ·
   have:=ho b hb'
   subst hb
   have:=h.tb.v.lt b hx
   omega
theorem runS_snoc (l : List (RQ × Int)) (s : Tp × List AN) (p : RQ × Int) : runS s (l ++ [p]) = stepS (runS s l) p:=by
 unfold runS
 rw [List.foldl_append]
 rfl
theorem runI_calls (A : Option Addr) (c0 : Nat) (l : List RQ) (B : Option Addr) (c1 : Nat) (ts : List Int) (w : World) (hr : Kd.C k94 w A l.length l) (hs : ∀ r ∈ l,r.f4.size ≤ 140737488351232) (hr' : Kd.C (Kd.int .i64) w B ts.length ts) (hc : l.length ≤ c0) (hc' : ts.length ≤ c1) :
  Calls Try.prog 34 #[.slice A l.length c0,.slice B ts.length c1] w fun e w' => ∃ tv av,e = .returned (.tuple #[tv,av,.int .i64 (runAll l ts).2.2]) ∧ Res w w' tv av (runAll l ts).1 (runAll l ts).2.1 ∧ Below w.heap.size w w':=by
 have HR:=Aside0.mk hr
 have HR':=Aside0.mk hr'
 have HC:=Aside0.mk hc
 have HC':=Aside0.mk hc'
 have HS:=Aside0.mk hs
 have hn : l.length ≤ 9223372036854775807:=hr.2.1
 have hn' : ts.length ≤ 9223372036854775807:=hr'.2.1
 clear hr hr' hs hc hc'
 obtain ⟨RA,hRA⟩ : ∃ RA,RA = runAll l ts:=⟨_,rfl⟩
 rw [← hRA]
 have HRA:=Aside0.mk hRA
 clear hRA
 go_enter Try.func34,Try.ntmps34
 go_upto_region 1 with fail
 change Code.wp _ _ _ _ (w.alloc (tbO 0 0 (.slice none 0 0) (.slice none 0 0)))
 have HB0:=Aside0.mk (below_alloc (Below.refl w.heap.size w) (tbO 0 0 (.slice none 0 0) (.slice none 0 0)))
 have HG0:=Aside0.mk (heap_alloc_new w (tbO 0 0 (.slice none 0 0) (.slice none 0 0)))
 generalize w.alloc (tbO 0 0 (.slice none 0 0) (.slice none 0 0)) = W0 at HB0 HG0 ⊢
 go_wp2_with fail
 with_reducible refine (code_calls A c0 l B c1 ts W0 (Kd.C_below HR.out HB0.out) HS.out (Kd.C_below HR'.out HB0.out) HC.out HC'.out).mono ?_
 rintro _ W1 ⟨rfl,hb⟩
 have HB1:=Aside0.mk (below_then HB0.out HB0.out.size hb)
 have HG1:=Aside0.mk ((hb.block _ (blk_lt HG0.out)).trans HG0.out)
 clear hb
 obtain ⟨cd,hcd⟩ : ∃ cd,cd = codeP l ts:=⟨_,rfl⟩
 rw [← hcd]
 have HCD:=Aside0.mk hcd
 by_cases h0 : cd = 0
 rotate_left
 ·
  have q0 : (cd != 0) = true:=by simpa using h0
  have HF:=Aside0.mk (show RA = (⟨0,0,[],[]⟩,[],cd) by rw [HRA.out,runAll,if_neg (by rw [← hcd];exact h0),← hcd])
  clear h0 hcd
  obtain ⟨n0,n1,n2,n3,m0,m1,m2,m3⟩:=box_facts HG1.out
  go_wp2_with fail
  have hgr:=four_set HG1.out (.int .i64 0) (.int .i64 0) (.slice none 0 0) (.slice none 0 0)
  refine bodyPost_ret (results_three rfl _ _ w.heap.size 31 _ (0,0) _ rfl hgr Try.underlying31 rfl (by kernel_rfl)) rfl ?_
  rw [HF.out]
  exact ⟨_,_,rfl,Res.nil _ _,(Fr.four (S:=fun _ => False) (Fr.of_below HB1.out) (.inr (Nat.le_refl _)) _ _ _ _).to_below (Nat.le_refl _) (fun _ h => h.elim)⟩
 have q0 : (cd != 0) = false:=by rw [h0];rfl
 obtain ⟨hl2,hlt,ha1,ha2⟩:=code_zero (hcd.symm.trans h0)
 have HF:=Aside0.mk (show RA = ((runS (newT,[]) (l.zip ts)).1,(runS (newT,[]) (l.zip ts)).2,0) by rw [HRA.out,runAll,if_pos (hcd.symm.trans h0)])
 have HL2:=Aside0.mk hl2
 have HLT:=Aside0.mk hlt
 have HA1:=Aside0.mk ha1
 have HA2:=Aside0.mk ha2
 clear h0 hcd hl2 hlt ha1 ha2
 go_wp2_with fail
 with_reducible refine (new_calls W1).mono ?_
 rintro _ W2 ⟨rfl,hb⟩
 have HB2:=Aside0.mk (below_then HB1.out HB1.out.size hb)
 have HG2:=Aside0.mk ((hb.block _ (blk_lt HG1.out)).trans HG1.out)
 clear hb q0
 unfold tbV
 go_upto_region 6 with fail
 change Code.wp _ _ _ _ (W2.alloc (tbO 0 1 (.slice none 0 0) (.slice none 0 0)))
 have hb3:=below_alloc (Below.refl W2.heap.size W2) (tbO 0 1 (.slice none 0 0) (.slice none 0 0))
 have HB3:=Aside0.mk (below_then HB2.out HB2.out.size hb3)
 have HG3:=Aside0.mk ((hb3.block _ (blk_lt HG2.out)).trans HG2.out)
 have hg3:=heap_alloc_new W2 (tbO 0 1 (.slice none 0 0) (.slice none 0 0))
 have HGW:=Aside0.mk (show w.heap.size < W2.heap.size from blk_lt HG2.out)
 generalize W2.alloc (tbO 0 1 (.slice none 0 0) (.slice none 0 0)) = W3 at HB3 HG3 hg3 ⊢
 obtain ⟨g,hg⟩ : ∃ g,g = W2.heap.size:=⟨_,rfl⟩
 rw [← hg] at hg3 HGW ⊢
 have HT3:=Aside0.mk (show TB W3 g (nilT 0 1) from ⟨nil_tv _ _ _,hg3,fun o ho => by simp [Tv.blocks,nilT] at ho;rw [ho];simp⟩)
 clear hb3 hg3 hg
 go_wp2_with fail
 go_loopg [22,9] l.length (fun gh v22 v9 wx => ∃ (i : Nat) (T : Tv) (an_ : List AN) (oa : Option Nat),v22 = .int .i64 i ∧ i ≤ l.length ∧ Aside0 (i + gh = l.length) ∧ Aside0 (an_.length = i) ∧ Aside0 ((Tv.pu T,an_) = runS (newT,[]) ((l.zip ts).take i)) ∧ Aside0 (TGood (1 + 5 * i) (Tv.pu T)) ∧ Aside0 (O2 w wx g T v9 an_ oa))
 case atStart => exact ⟨0,nilT 0 1,[],none,rfl,Nat.zero_le _,⟨by omega⟩,⟨rfl⟩,⟨rfl⟩,⟨new_good⟩,⟨⟨HT3.out,nil_row _ _ _ ac,fun b hb => by simp [Tv.blocks,nilT] at hb,by simp,fun x _ => apart_none' _,HG3.out,HB3.out,HGW.out⟩⟩⟩
 case round =>
  obtain ⟨wi,rfl⟩ : ∃ wi : World,wi = wr:=⟨_,rfl⟩
  obtain ⟨i,T,an_,oa,rfl,hi,HM,HLA,HRS,HGD,HO⟩:=hrel
  have HL2c:=HL2.out
  by_cases hlt : i < l.length
  ·
   obtain ⟨ad,eA,z0,z1,z2,z3,z4⟩:=at_T94 (Kd.C_below HR.out HO.out.be) (i : Int) (by omega) (by omega)
   cases eA
   simp only [Int.toNat_natCast] at z0 z1 z2 z3 z4
   have hd : rd_T94 l (i : Int) = l[i]:=by unfold rd_T94;simp [hlt]
   rw [hd] at z0 z1 z2 z3 z4
   have q0 : ((i : Int) < (l.length : Int)) = True:=eq_true (by omega)
   have q1 : (0 ≤ (i : Int)) = True:=eq_true (by omega)
   have q2 : decide ((i : Int) < (l.length : Int)) = true:=decide_eq_true (by omega)
   have hlt' : i < ts.length:=by have:=HLT.out;omega
   obtain ⟨r,hrk⟩ : ∃ r,r = l[i]:=⟨_,rfl⟩
   rw [← hrk] at z0 z1 z2 z3 z4
   have HRG:=Aside0.mk (okR_good (List.all_eq_true.1 HA1.out r (hrk ▸ List.getElem_mem hlt)))
   have HTG:=Aside0.mk (okT_good (List.all_eq_true.1 HA2.out (ts[i]) (List.getElem_mem hlt')))
   have HZT:=Aside0.mk (show (l.zip ts).take (i + 1) = (l.zip ts).take i ++ [(r,ts[i])] by rw [hrk];exact zip_take i hlt hlt')
   obtain ⟨tn,htn⟩ : ∃ tn,tn = ts[i]:=⟨_,rfl⟩
   rw [← htn] at HTG HZT
   have q3 : ((i : Int) < (ts.length : Int)) = True:=eq_true (by omega)
   have HTN:=Aside0.mk (show rd ts (i : Int) = tn by rw [htn];unfold rd;simp [hlt'])
   have HLTS:=Aside0.mk hlt'
   clear hd hrk htn hlt'
   go_upto_region 9 with fail
   clear z0 z1 z2 z3 z4
   change Code.wp _ _ _ _ (wi.alloc (rqO r))
   have hb4:=below_alloc (Below.refl wi.heap.size wi) (rqO r)
   have hg4:=heap_alloc_new wi (rqO r)
   obtain ⟨nr,hnr⟩ : ∃ nr,nr = wi.heap.size:=⟨_,rfl⟩
   rw [← hnr] at hg4 ⊢
   have hd4 : Below wi.heap.size wi (wi.alloc (rqO r)).drew:=below_drew hb4
   have hg4d : (wi.alloc (rqO r)).drew.heap[nr]? = some (rqO r):=hg4
   generalize wi.alloc (rqO r) = W4 at hd4 hg4d ⊢
   have HO4:=Aside0.mk (HO.out.below hd4)
   obtain ⟨ad',eB,y0⟩:=Kd.at_int (Kd.C_below HR'.out HO4.out.be) (i : Int) (by omega) (by have:=HLTS.out;omega)
   cases eB
   simp only [Int.toNat_natCast] at y0
   rw [HTN.out] at y0
   have r0 : W4.drew.cell? ⟨nr,0,none⟩ = some (.int .i64 r.f0):=(blk_cell hg4d 0).trans rfl
   have r1 : W4.drew.cell? ⟨nr,1,none⟩ = some (.int .i64 r.f1):=(blk_cell hg4d 1).trans rfl
   have r2 : W4.drew.cell? ⟨nr,2,none⟩ = some (.int .i64 r.f2):=(blk_cell hg4d 2).trans rfl
   have r3 : W4.drew.cell? ⟨nr,3,none⟩ = some (.int .i64 r.f3):=(blk_cell hg4d 3).trans rfl
   have r4 : W4.drew.cell? ⟨nr,4,none⟩ = some (.string r.f4):=(blk_cell hg4d 4).trans rfl
   clear hb4 hg4 hnr hd4 hg4d
   refine start_ (n:=10) (S:=fun w' => w'.cell? (ad'.add i) = some (.int .i64 tn) ∧ w'.cell? ⟨nr,0,none⟩ = some (.int .i64 r.f0) ∧ w'.cell? ⟨nr,1,none⟩ = some (.int .i64 r.f1) ∧ w'.cell? ⟨nr,2,none⟩ = some (.int .i64 r.f2) ∧ w'.cell? ⟨nr,3,none⟩ = some (.int .i64 r.f3) ∧ w'.cell? ⟨nr,4,none⟩ = some (.string r.f4)) (ds:=[6,7,8]) #[false,false,false,false,false,false,false,false,false,false] (by kernel_rfl) rfl rfl ⟨y0,r0,r1,r2,r3,r4⟩ (fun hHeld => ?_)
   clear y0 r0 r1 r2 r3 r4
   generalize W4.drew = V at HO4 hHeld ⊢
   refine pure_ (i:=0) (N:=some 27) (v:=?_) (a':=?_) #[true,false,false,false,false,false,false,false,false,false] rfl rfl (by kernel_rfl) (fun _ _ _ h => h) (Or.inl ⟨by rfl,?_⟩) ?_ ?_
   rotate_left
   ·
    intro w'
    go_simp
    with_reducible rfl
   rotate_left
   ·
    simp only [Act.put,List.setIfInBounds_toArray,List.set_cons_zero,List.set_cons_succ,i64_w,i32_w]
    rfl
   refine pure_ (i:=1) (N:=some 28) (v:=?_) (a':=?_) #[true,true,false,false,false,false,false,false,false,false] rfl rfl (by kernel_rfl) (fun _ _ _ h => h) (Or.inl ⟨by rfl,?_⟩) ?_ ?_
   rotate_left
   ·
    intro w'
    go_simp
    with_reducible rfl
   rotate_left
   ·
    simp only [Act.put,List.setIfInBounds_toArray,List.set_cons_zero,List.set_cons_succ,i64_w,i32_w]
    rfl
   refine pure_ (i:=2) (N:=some 29) (v:=?_) (a':=?_) #[true,true,true,false,false,false,false,false,false,false] rfl rfl (by kernel_rfl) (fun _ _ _ h => h) (Or.inl ⟨by rfl,?_⟩) ?_ ?_
   rotate_left
   ·
    intro w'
    go_simp
    with_reducible rfl
   rotate_left
   ·
    simp only [Act.put,List.setIfInBounds_toArray,List.set_cons_zero,List.set_cons_succ,i64_w,i32_w]
    rfl
   refine pure_ (i:=3) (N:=some 30) (v:=?_) (a':=?_) #[true,true,true,true,false,false,false,false,false,false] rfl rfl (by kernel_rfl) (fun _ _ _ h => h) (Or.inl ⟨by rfl,?_⟩) ?_ ?_
   rotate_left
   ·
    intro w'
    go_simp
    with_reducible rfl
   rotate_left
   ·
    simp only [Act.put,List.setIfInBounds_toArray,List.set_cons_zero,List.set_cons_succ,i64_w,i32_w]
    rfl
   refine take_ (i:=4) (N:=some 31) (v:=?_) (a':=?_) #[true,true,true,true,true,false,false,false,false,false] rfl rfl (by kernel_rfl) (fun _ _ _ h => h) (Or.inl ⟨by rfl,?_⟩) hHeld ?_ ?_
   rotate_left
   ·
    rintro w' ⟨s0,s1,s2,s3,s4,s5⟩
    go_simp
    with_reducible rfl
   rotate_left
   ·
    simp only [Act.put,List.setIfInBounds_toArray,List.set_cons_zero,List.set_cons_succ,i64_w,i32_w]
    rfl
   refine take_ (i:=5) (N:=some 32) (v:=?_) (a':=?_) #[true,true,true,true,true,true,false,false,false,false] rfl rfl (by kernel_rfl) (fun _ _ _ h => h) (Or.inl ⟨by rfl,?_⟩) hHeld ?_ ?_
   rotate_left
   ·
    rintro w' ⟨s0,s1,s2,s3,s4,s5⟩
    go_simp
    with_reducible rfl
   rotate_left
   ·
    simp only [Act.put,List.setIfInBounds_toArray,List.set_cons_zero,List.set_cons_succ,i64_w,i32_w]
    rfl
   refine last_ (i:=6) (N:=some 33) #[true,true,true,true,true,true,true,false,false,false] rfl rfl (by kernel_rfl) (by decide) (fun K hK => ?_)
   have hq:=request_calls g V T tn r (1 + 5 * i) HO4.out.tb HGD.out (by omega) HTG.out HRG.out
   unfold rqV at hq
   refine goes_ Try.func67 (by kernel_rfl) rfl #[.pointer (some ⟨g,0,none⟩),.int .i64 tn,.agg #[.int .i64 r.f0,.int .i64 r.f1,.int .i64 r.f2,.int .i64 r.f3,.string r.f4]] (by rfl) rfl rfl (by simp only [List.map_toArray,List.map_cons,List.map_nil];rfl) ?_
   with_reducible refine (hq).mono ?_
   rintro _ V2 ⟨a,T2,rfl,hp2,hs2⟩
   refine ⟨_,rfl,?_⟩
   clear hq hHeld
   have HP2:=Aside0.mk hp2
   have HO5:=Aside0.mk (HO4.out.st hs2)
   clear hp2 hs2
   unfold anV
   refine hK.out _ _ ?_
   clear hK K
   refine norm_ (a':=?_) ?_ ?_
   rotate_left
   ·
    show Act.put _ (some 33) _ = _
    simp only [Act.put,List.setIfInBounds_toArray,List.set_cons_zero,List.set_cons_succ,i64_w,i32_w]
    rfl
   refine last_ (i:=7) (N:=some 34) #[true,true,true,true,true,true,true,true,false,false] rfl rfl (by kernel_rfl) (by decide) (fun K hK => ?_)
   refine value_ (w1:=?_) (v:=?_) (by rfl) rfl ?_ ?_
   rotate_left 2
   ·
    go_simp
    constructor
    ·
     rfl
    ·
     rfl
   have hb7:=below_alloc (Below.refl V2.heap.size V2) (.cells #[.int .i64 a.f0,.int .i64 a.f1,.int .i64 a.f2,.int .i64 a.f3] 75 (0,0))
   have HG7:=Aside0.mk (heap_alloc_new V2 (.cells #[.int .i64 a.f0,.int .i64 a.f1,.int .i64 a.f2,.int .i64 a.f3] 75 (0,0)))
   have HO7:=Aside0.mk (HO5.out.below hb7)
   clear hb7
   generalize V2.alloc _ = V3 at HG7 HO7 ⊢
   refine hK.out _ _ ?_
   clear hK K
   refine norm_ (a':=?_) ?_ ?_
   rotate_left
   ·
    show Act.put _ (some 34) _ = _
    simp only [Act.put,List.setIfInBounds_toArray,List.set_cons_zero,List.set_cons_succ,i64_w,i32_w]
    rfl
   refine last_ (i:=8) (N:=some 35) #[true,true,true,true,true,true,true,true,true,false] rfl rfl (by kernel_rfl) (by decide) (fun K hK => ?_)
   obtain ⟨v5,V5,oa5,hrun,hrow5,hob5,hfr5⟩:=appA_run V3 _ an_.length (an_.flatMap ac) (ac a) oa V2.heap.size HO7.out.row (by have:=HLA.out;omega) rfl HG7.out (ac_one a)
   have HO8:=Aside0.mk (HO7.out.app hrow5 hob5 hfr5)
   clear hrow5 hob5 hfr5
   refine value_ (w1:=V5) (v:=v5) (by rfl) rfl ?_ ?_
   ·
    exact run_append_op (.tmp 27) (.tmp 34) 60 60 rfl _ _ rfl rfl hrun
   clear hrun
   refine hK.out _ _ ?_
   clear hK K
   refine norm_ (a':=?_) ?_ ?_
   rotate_left
   ·
    show Act.put _ (some 35) _ = _
    simp only [Act.put,List.setIfInBounds_toArray,List.set_cons_zero,List.set_cons_succ,i64_w,i32_w]
    rfl
   refine pure_ (i:=9) (N:=some 9) (v:=?_) (a':=?_) #[true,true,true,true,true,true,true,true,true,true] rfl rfl (by kernel_rfl) (fun _ _ _ h => h) (Or.inl ⟨by rfl,?_⟩) ?_ ?_
   rotate_left
   ·
    intro w'
    go_simp
    with_reducible rfl
   rotate_left
   ·
    simp only [Act.put,List.setIfInBounds_toArray,List.set_cons_zero,List.set_cons_succ,i64_w,i32_w]
    rfl
   refine done_ (by kernel_rfl) ?_
   go_wp2_with fail
   go_roundg (gk - 1)
   case measure => have:=HM.out;omega
   case rel =>
    refine ⟨i + 1,T2,an_ ++ [a],oa5,by go_num,by omega,⟨by have:=HM.out;omega⟩,⟨by rw [List.length_append,HLA.out];rfl⟩,⟨?_⟩,⟨?_⟩,HO8⟩
    ·
     rw [HZT.out,runS_snoc,← HRS.out,stepS,← HP2.out]
    ·
     have h:=good_req HGD.out HTG.out HRG.out
     rw [← HP2.out] at h
     rw [show 1 + 5 * ((i + 1 : Nat) : Int) = 1 + 5 * (i : Int) + 5 by omega]
     exact h
  ·
   obtain rfl : i = l.length:=by omega
   have HFIN:=Aside0.mk (show RA = (Tv.pu T,an_,0) by
    have h:=HRS.out
    rw [List.take_of_length_le (by rw [List.length_zip];have:=HLT.out;omega)] at h
    rw [HF.out,← h])
   obtain ⟨y0,y1,y2,y3,-,-,-,-⟩:=HO.out.tb.cells
   obtain ⟨n0,n1,n2,n3,m0,m1,m2,m3⟩:=box_facts HO.out.bx
   obtain ⟨la,lc,hlv⟩:=HO.out.tb.v.rl.slice
   obtain ⟨sa,sc_,hsv⟩:=HO.out.tb.v.rs.slice
   obtain ⟨aa,ac_,hav⟩:=HO.out.row.slice
   rw [hlv] at y2
   rw [hsv] at y3
   have HLV:=Aside0.mk hlv
   have HSV:=Aside0.mk hsv
   clear hlv hsv hav
   have hgne : g ≠ w.heap.size:=by have:=HO.out.gw;omega
   go_wp2_with fail
   have hgr:=four_set HO.out.bx (.int .i64 T.tm) (.int .i64 T.nx) (.slice la T.ls.length lc) (.slice sa T.ss.length sc_)
   refine bodyPost_ret (results_three rfl _ _ w.heap.size 31 _ (0,0) _ rfl hgr Try.underlying31 rfl (by kernel_rfl)) rfl ?_
   have hfr:=Fr.four (S:=fun x => x = w.heap.size) (Fr.refl _ wi) (.inl rfl) (.int .i64 T.tm) (.int .i64 T.nx) (.slice la T.ls.length lc) (.slice sa T.ss.length sc_)
   have hle : w.heap.size ≤ wi.heap.size:=HO.out.be.size
   have hbl:=HO.out.be.trans (hfr.to_below hle (fun x hx => by rw [hx];exact Nat.le_refl _))
   rw [HFIN.out]
   refine ⟨_,_,rfl,⟨T,oa,?_,rfl,HO.out.tb.v.kept (fun b hb => hfr.block b (HO.out.tb.v.lt b hb) (fun e => by have:=HO.out.ow b (.inl hb);omega)),HO.out.row.kept (fun b hb => hfr.block b (HO.out.row.lt b hb) (fun e => by have:=HO.out.ow b (.inr hb);omega)),fun b hb => Nat.le_of_lt (HO.out.ow b hb),HO.out.oT⟩,hbl⟩
   unfold tbV
   rw [HLV.out,HSV.out]
end Go.Proofs.Ytjkanhjapddhnaa.Run
