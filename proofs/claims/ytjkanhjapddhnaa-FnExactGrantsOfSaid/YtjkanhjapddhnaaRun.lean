/- The implementation's RunRequests, walked by hand. No condition. -/
-- squeezed
import Derived.Test.YtjkanhjapddhnaaReq
import Derived.Test.YtjkanhjapddhnaaCod
import Derived.Test.YtjkanhjapddhnaaAppA
import Derived.Laws.ResultCell
namespace Go.Proofs.Ytjkanhjapddhnaa.Run
open Go.RowKit Go.Lib Go.Proofs.YtjkanhjapddhnaaV.PrintWords Go.Proofs.YtjkanhjapddhnaaV.PrintMore Go.Proofs.YtjkanhjapddhnaaV.PrintLast Go.Proofs.Ytjkanhjapddhnaa.Own Go.Proofs.Ytjkanhjapddhnaa.MarkT Go.Proofs.Ytjkanhjapddhnaa.Tb Go.Proofs.Ytjkanhjapddhnaa.Gr Go.Proofs.Ytjkanhjapddhnaa.Gon Go.Proofs.Ytjkanhjapddhnaa.Find Go.Proofs.Ytjkanhjapddhnaa.Pos Go.Proofs.Ytjkanhjapddhnaa.Pu Go.Proofs.Ytjkanhjapddhnaa.Ctx Go.Proofs.Ytjkanhjapddhnaa.InsR Go.Proofs.Ytjkanhjapddhnaa.AppA Go.Proofs.Ytjkanhjapddhnaa.Doo Go.Proofs.Ytjkanhjapddhnaa.Inv Go.Proofs.Ytjkanhjapddhnaa.Sns Go.Proofs.Ytjkanhjapddhnaa.Req Go.Proofs.Ytjkanhjapddhnaa.Rp Go.Proofs.Ytjkanhjapddhnaa.Cod Go.Proofs.Ytjkanhjapddhnaa.PFnExactRunRequests
set_option linter.unusedVariables false
set_option linter.unusedSimpArgs false
set_option maxHeartbeats 20000000
set_option maxRecDepth 100000
def tbO (t n : Int) (vl vs : Value) : Obj:=.cells #[.int .i64 t,.int .i64 n,vl,vs] 31 (0,0)
def tbV (t n : Int) (vl vs : Value) : Value:=.agg #[.int .i64 t,.int .i64 n,vl,vs]
theorem new_calls (w : World) : Calls Try.prog 66 #[] w fun e w' => e = .returned (tbV 0 1 (.slice none 0 0) (.slice none 0 0)) ∧ Below w.heap.size w w':=by
 have HB:=Aside0.mk (below_alloc (Below.refl w.heap.size w) (tbO 0 0 (.slice none 0 0) (.slice none 0 0)))
 have hg:=heap_alloc_new w (tbO 0 0 (.slice none 0 0) (.slice none 0 0))
 go_enter Try.func66,Try.ntmps66
 go_upto_region 1 with fail
 change Code.wp _ _ _ _ (w.alloc (tbO 0 0 (.slice none 0 0) (.slice none 0 0)))
 generalize w.alloc (tbO 0 0 (.slice none 0 0) (.slice none 0 0)) = W at HB hg ⊢
 obtain ⟨n0,n1,n2,n3,m0,m1,m2,m3⟩:=box_facts hg
 have HG:=Aside0.mk hg
 clear hg
 go_wp2_with fail
 have hr:=four_set HG.out (.int .i64 0) (.int .i64 1) (.slice none 0 0) (.slice none 0 0)
 refine bodyPost_ret (results_cell_row rfl _ _ w.heap.size 31 _ (0,0) _ rfl hr Try.underlying31 rfl (by kernel_rfl)) rfl ?_
 exact ⟨rfl,(Fr.four (S:=fun _ => False) (Fr.of_below HB.out) (.inr (Nat.le_refl _)) _ _ _ _).to_below (Nat.le_refl _) (fun _ h => h.elim)⟩
def stepS (s : Tp × List AN) (p : RQ × Int) : Tp × List AN:=((reqX s.1 p.2 p.1).1,s.2 ++ [(reqX s.1 p.2 p.1).2])
def runS (s : Tp × List AN) (l : List (RQ × Int)) : Tp × List AN:=l.foldl stepS s
def newT : Tp:=⟨0,1,[],[]⟩
def runAll (l : List RQ) (ts : List Int) : Tp × List AN × Int:=if codeP l ts = 0 then ((runS (newT,[]) (l.zip ts)).1,(runS (newT,[]) (l.zip ts)).2,0) else (⟨0,0,[],[]⟩,[],codeP l ts)
def ac (a : AN) : List Value:=[.int .i64 a.f0,.int .i64 a.f1,.int .i64 a.f2,.int .i64 a.f3]
structure Res (w w' : World) (tv av : Value) (T : Tp) (an_ : List AN) : Prop where
 ex : ∃ (Tv_ : Tv) (oa : Option Nat),tv = tbV Tv_.tm Tv_.nx Tv_.vl Tv_.vs ∧ Tv.pu Tv_ = T ∧ TV w' Tv_ ∧ Row w' 75 4 av an_.length (an_.flatMap ac) oa ∧ (∀ b,some b ∈ Tv_.blocks ∨ oa = some b → w.heap.size ≤ b) ∧ ∀ x ∈ Tv_.blocks,apart x oa
def nilT (t n : Int) : Tv:=⟨t,n,.slice none 0 0,.slice none 0 0,[],[],none,none⟩
theorem nil_row {α : Type} (w : World) (e sz : Nat) (f : α → List Value) : Row w e sz (.slice none 0 0) ([] : List α).length (([] : List α).flatMap f) none:=⟨none,0,rfl,Nat.le_refl _,by omega,by simp,.inl ⟨rfl,rfl⟩⟩
theorem nil_tv (w : World) (t n : Int) : TV w (nilT t n):=⟨nil_row w _ _ EL.cs,fun e he => absurd he (by simp [nilT]),nil_row w _ _ sc,by
 show ([none,none] : List (Option Nat)).Pairwise apart
 exact List.Pairwise.cons (fun x _ => apart_none _) (List.Pairwise.cons (fun x hx => by cases hx) List.Pairwise.nil)⟩
theorem Res.nil (w w' : World) : Res w w' (tbV 0 0 (.slice none 0 0) (.slice none 0 0)) (.slice none 0 0) ⟨0,0,[],[]⟩ [] :=
 ⟨nilT 0 0,none,rfl,rfl,nil_tv w' 0 0,nil_row w' _ _ ac,fun b hb => by simp [Tv.blocks,nilT] at hb,fun x _ => apart_none' _⟩
theorem results_three {P : Program} {fn : Func} {p u v : Tmp} {ty : TypeId} (h : fn.results = #[.cell p ty,.tmp u,.tmp v]) (tmps : Array Value) (w : World) (g : Nat) (t : TypeId) (cs : Array Value) (fr : Nat × Nat) (d : TypeDesc)
  (hp : tmps.getD p undef = .pointer (some ⟨g,0,none⟩)) (hg : w.heap[g]? = some (.cells cs t fr))
  (hu : P.underlying ty = some d) (hd : (match d with|.struct _|.array _ _ => true|_ => false) = true) (hi : (P.info? ty).map (·.size) = some cs.size) :
  (results fn tmps).run P w = .ok (.tuple #[.agg cs,tmps.getD u undef,tmps.getD v undef]) w:=by
 have hp' : tmps[p]?.getD undef = .pointer (some ⟨g,0,none⟩):=by simpa using hp
 simp [results,h,hp',asAddr,run_loadVar_row w g t ty cs fr d hg hu hd hi]
theorem okR_good {r : RQ} (h : okR r = true) : RqGood r:=by
 unfold okR requestP at h
 simp only [Bool.and_eq_true,decide_eq_true_eq] at h
 obtain ⟨⟨h1,h2⟩,_,⟨h5,h6⟩,h7,_⟩:=h
 by_cases hk : r.f2 = 1 ∨ r.f2 = 3
 ·
  rw [if_pos hk] at h7
  simp only [Bool.and_eq_true,decide_eq_true_eq] at h7
  exact ⟨⟨h1,h2⟩,⟨by omega,h7.2⟩,fun _ => h7.1⟩
 ·
  rw [if_neg hk,decide_eq_true_eq] at h7
  exact ⟨⟨h1,h2⟩,⟨by omega,by omega⟩,fun e => absurd (.inl e) hk⟩
theorem okT_good {t : Int} (h : okT t = true) : 0 ≤ t ∧ t ≤ 1000000000:=by
 unfold okT at h
 simpa only [Bool.and_eq_true,decide_eq_true_eq] using h
theorem zip_take {l : List RQ} {ts : List Int} (i : Nat) (h1 : i < l.length) (h2 : i < ts.length) : (l.zip ts).take (i + 1) = (l.zip ts).take i ++ [(l[i],ts[i])]:=by
 rw [List.take_succ_eq_append_getElem (by rw [List.length_zip];omega),List.getElem_zip]
theorem new_good : TGood 1 newT:=⟨⟨by decide,by decide⟩,⟨by decide,by decide⟩,by decide,by decide,List.Pairwise.nil,List.Pairwise.nil,fun s hs => absurd hs (by simp [newT]),fun x hx => absurd hx (by simp [newT])⟩
theorem code_zero {l : List RQ} {ts : List Int} (h : codeP l ts = 0) : l.length ≤ 200 ∧ l.length = ts.length ∧ l.all okR = true ∧ ts.all okT = true:=by
 unfold codeP at h
 split at h
 ·
  omega
 ·
  split at h
  ·
   omega
  ·
   split at h
   ·
    rename_i h1 h2 h3
    exact ⟨by omega,by omega,h3.1,h3.2⟩
   ·
    omega
theorem ac_one (a : AN) : ∀ u ∈ ac a,u.oneCell' = true:=by
 intro u hu
 simp only [ac,List.mem_cons,List.not_mem_nil,or_false] at hu
 rcases hu with rfl|rfl|rfl|rfl <;> rfl
structure O2 (w wx : World) (g : Nat) (T : Tv) (av : Value) (an_ : List AN) (oa : Option Nat) : Prop where
 tb : TB wx g T
 row : Row wx 75 4 av an_.length (an_.flatMap ac) oa
 ow : ∀ b,some b ∈ T.blocks ∨ oa = some b → w.heap.size < b
 og : oa ≠ some g
 oT : ∀ x ∈ T.blocks,apart x oa
 bx : wx.heap[w.heap.size]? = some (tbO 0 0 (.slice none 0 0) (.slice none 0 0))
 be : Below w.heap.size w wx
 gw : w.heap.size < g
theorem O2.below {w wx wy : World} {g : Nat} {T : Tv} {av : Value} {an_ : List AN} {oa : Option Nat} (h : O2 w wx g T av an_ oa) (hb : Below wx.heap.size wx wy) : O2 w wy g T av an_ oa :=
 ⟨h.tb.below hb,h.row.kept (fun b hb' => hb.block b (h.row.lt b hb')),h.ow,h.og,h.oT,(hb.block _ (blk_lt h.bx)).trans h.bx,below_then h.be h.be.size hb,h.gw⟩
theorem O2.fr {w wx wy : World} {g : Nat} {T : Tv} {av : Value} {an_ : List AN} {oa : Option Nat} (h : O2 w wx g T av an_ oa) {S : Nat → Prop} (hf : Fr S wx wy) (hS : ∀ x,S x → w.heap.size < x) : wy.heap[w.heap.size]? = some (tbO 0 0 (.slice none 0 0) (.slice none 0 0)) ∧ Below w.heap.size w wy :=
 ⟨hf.blk h.bx (fun hh => by have:=hS _ hh;omega),⟨hf.os.trans h.be.os,hf.tape.trans h.be.tape,hf.output.trans h.be.output,Nat.le_trans h.be.size hf.size,fun k hk => (hf.block k (Nat.lt_of_lt_of_le hk h.be.size) (fun hh => by have:=hS _ hh;omega)).trans (h.be.block k hk)⟩⟩
theorem O2.st {w wx wy : World} {g : Nat} {T T2 : Tv} {av : Value} {an_ : List AN} {oa : Option Nat} (h : O2 w wx g T av an_ oa) (hs : St g wx T wy T2) : O2 w wy g T2 av an_ oa:=by
 have hlt:=h.row.lt
 obtain ⟨b1,b2⟩:=h.fr hs.fr (fun x hx => hx.elim (fun e => e ▸ h.gw) (fun hm => h.ow x (.inl hm)))
 have hsz : w.heap.size < wx.heap.size:=blk_lt h.bx
 refine ⟨hs.tb,h.row.kept (fun b hb => hs.fr.block b (hlt b hb) (fun hh => hh.elim (fun e => h.og (by rw [hb,e])) (fun hm => h.oT _ hm b rfl hb))),fun b hb => ?_,h.og,fun x hx b hb hb' => ?_,b1,b2,h.gw⟩
 ·
  rcases hb with hb|hb
  ·
   rcases hs.bl b hb with h1|h1
   ·
    exact h.ow b (.inl h1)
   ·
    omega
  ·
   exact h.ow b (.inr hb)
 ·
  subst hb
  rcases hs.bl b hx with h1|h1
  ·
   exact h.oT _ h1 b rfl hb'
  ·
   have:=hlt b hb'
   omega
theorem O2.app {w wx wy : World} {g : Nat} {T : Tv} {av av' : Value} {an_ : List AN} {oa oa' : Option Nat} {a : AN} (h : O2 w wx g T av an_ oa) (hr : Row wy 75 4 av' (an_.length + 1) (an_.flatMap ac ++ ac a) oa') (ho : oa' = oa ∨ ∀ k,oa' = some k → wx.heap.size ≤ k) (hf : Fr (fun k => oa = some k) wx wy) : O2 w wy g T av' (an_ ++ [a]) oa':=by
 obtain ⟨b1,b2⟩:=h.fr hf (fun x hx => h.ow x (.inr hx))
 have hsz : w.heap.size < wx.heap.size:=blk_lt h.bx
 have htb : TB wy g T:=⟨h.tb.v.kept (fun b hb => hf.block b (h.tb.v.lt b hb) (fun hh => h.oT _ hb b rfl hh)),hf.blk h.tb.bx h.og,h.tb.ng⟩
 refine ⟨htb,by rw [List.length_append,List.flatMap_append,List.flatMap_singleton];exact hr,fun b hb => ?_,fun e => ?_,fun x hx b hb hb' => ?_,b1,b2,h.gw⟩
 ·
  rcases hb with hb|hb
  ·
   exact h.ow b (.inl hb)
  ·
   rcases ho with ho|ho
   ·
    exact h.ow b (.inr (ho ▸ hb))
   ·
    have:=ho b hb;omega
 ·
  rcases ho with ho|ho
  ·
   exact h.og (ho ▸ e)
  ·
   have:=ho g e;have:=h.tb.lt;omega
 ·
  rcases ho with ho|ho
  ·
   exact h.oT x hx b hb (ho ▸ hb')
  ·
   have:=ho b hb'
   subst hb
   have:=h.tb.v.lt b hx
   omega
theorem runS_snoc (l : List (RQ × Int)) (s : Tp × List AN) (p : RQ × Int) : runS s (l ++ [p]) = stepS (runS s l) p:=by
 unfold runS
 rw [List.foldl_append]
 rfl
end Go.Proofs.Ytjkanhjapddhnaa.Run
