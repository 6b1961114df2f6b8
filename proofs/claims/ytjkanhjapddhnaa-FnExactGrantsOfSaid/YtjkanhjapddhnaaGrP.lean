/- Grants: what requests grant, as plain functions; what stands in a walk that collects them. No condition. -/
-- squeezed
import Derived.Test.YtjkanhjapddhnaaRun
import Derived.Test.YtjkanhjapddhnaaAppN
namespace Go.Proofs.Ytjkanhjapddhnaa.GrP
open Go.RowKit Go.Lib Go.Proofs.YtjkanhjapddhnaaV.PrintWords Go.Proofs.YtjkanhjapddhnaaV.PrintMore Go.Proofs.Ytjkanhjapddhnaa.Own Go.Proofs.Ytjkanhjapddhnaa.MarkT Go.Proofs.Ytjkanhjapddhnaa.Tb Go.Proofs.Ytjkanhjapddhnaa.Pu Go.Proofs.Ytjkanhjapddhnaa.Ctx Go.Proofs.Ytjkanhjapddhnaa.InsR Go.Proofs.Ytjkanhjapddhnaa.AppN Go.Proofs.Ytjkanhjapddhnaa.Inv Go.Proofs.Ytjkanhjapddhnaa.Cod Go.Proofs.Ytjkanhjapddhnaa.Run Go.Proofs.Ytjkanhjapddhnaa.PFnExactRunRequests
set_option linter.unusedVariables false
set_option linter.unusedSimpArgs false
structure GR where
 f0 : ByteArray
 f1 : Int
 f2 : Int
 f3 : Int
def gc (x : GR) : List Value:=[.string x.f0,.int .i64 x.f1,.int .i64 x.f2,.int .i64 x.f3]
def gone (tok : Int) (x : IL) : List GR:=if x.f1 = tok ∧ x.f2 ≠ -1 then [⟨x.f0,x.f2,x.f1,x.f3⟩] else []
def gpick (tok : Int) (ls : List IL) : List GR:=ls.flatMap (gone tok)
def gtoks (a : Int) (ls : List IL) (n : Nat) : List GR:=(List.range n).flatMap fun (j : Nat) => gpick (a + (j : Int)) ls
def gstep (s : Tp × List GR) (p : RQ × Int) : Tp × List GR:=((reqX s.1 p.2 p.1).1,s.2 ++ gtoks s.1.nx (reqX s.1 p.2 p.1).1.ls ((reqX s.1 p.2 p.1).1.nx - s.1.nx).toNat)
def grS (s : Tp × List GR) (l : List (RQ × Int)) : Tp × List GR:=l.foldl gstep s
def grAll (l : List RQ) (ts : List Int) : List GR × Int:=if codeP l ts = 0 then ((grS (newT,[]) (l.zip ts)).2,0) else ([],codeP l ts)
theorem grS_snoc (l : List (RQ × Int)) (s : Tp × List GR) (p : RQ × Int) : grS s (l ++ [p]) = gstep (grS s l) p:=by
 unfold grS
 rw [List.foldl_append]
 rfl
theorem gone_len (tok : Int) (x : IL) : (gone tok x).length ≤ 1:=by
 unfold gone
 split <;> simp
theorem gpick_len (tok : Int) (ls : List IL) : (gpick tok ls).length ≤ ls.length:=by
 unfold gpick
 induction ls with
 | nil => simp
 | cons x l ih =>
  rw [List.flatMap_cons,List.length_append,List.length_cons]
  have:=gone_len tok x
  omega
theorem gtoks_succ (a : Int) (ls : List IL) (n : Nat) : gtoks a ls (n + 1) = gtoks a ls n ++ gpick (a + (n : Int)) ls:=by
 unfold gtoks
 rw [List.range_succ,List.flatMap_append,List.flatMap_cons,List.flatMap_nil,List.append_nil]
theorem gtoks_len (a : Int) (ls : List IL) (h : ls.length ≤ 4) (n : Nat) : (gtoks a ls n).length ≤ n * 4:=by
 induction n with
 | zero => simp [gtoks]
 | succ n ih =>
  rw [gtoks_succ,List.length_append]
  have:=gpick_len (a + (n : Int)) ls
  omega
theorem gpick_take (tok : Int) (ls : List IL) (q : Nat) (h : q < ls.length) : gpick tok (ls.take (q + 1)) = gpick tok (ls.take q) ++ gone tok ls[q]:=by
 unfold gpick
 rw [List.take_succ_eq_append_getElem h,List.flatMap_append,List.flatMap_cons,List.flatMap_nil,List.append_nil]
theorem gc_one (a : GR) : ∀ u ∈ gc a,u.oneCell' = true:=by
 intro u hu
 simp only [gc,List.mem_cons,List.not_mem_nil,or_false] at hu
 rcases hu with rfl|rfl|rfl|rfl <;> rfl
structure O3 (w wx : World) (g : Nat) (T : Tv) (av : Value) (gs : List GR) (oa : Option Nat) : Prop where
 tb : TB wx g T
 row : Row wx 96 4 av gs.length (gs.flatMap gc) oa
 ow : ∀ b,some b ∈ T.blocks ∨ oa = some b → w.heap.size ≤ b
 og : oa ≠ some g
 oT : ∀ x ∈ T.blocks,apart x oa
 be : Below w.heap.size w wx
 gw : w.heap.size ≤ g
theorem O3.below {w wx wy : World} {g : Nat} {T : Tv} {av : Value} {gs : List GR} {oa : Option Nat} (h : O3 w wx g T av gs oa) (hb : Below wx.heap.size wx wy) : O3 w wy g T av gs oa :=
 ⟨h.tb.below hb,h.row.kept (fun b hb' => hb.block b (h.row.lt b hb')),h.ow,h.og,h.oT,below_then h.be h.be.size hb,h.gw⟩
theorem O3.fr {w wx wy : World} {g : Nat} {T : Tv} {av : Value} {gs : List GR} {oa : Option Nat} (h : O3 w wx g T av gs oa) {S : Nat → Prop} (hf : Fr S wx wy) (hS : ∀ x,S x → w.heap.size ≤ x) : Below w.heap.size w wy :=
 ⟨hf.os.trans h.be.os,hf.tape.trans h.be.tape,hf.output.trans h.be.output,Nat.le_trans h.be.size hf.size,fun k hk => (hf.block k (Nat.lt_of_lt_of_le hk h.be.size) (fun hh => by have:=hS _ hh;omega)).trans (h.be.block k hk)⟩
theorem O3.st {w wx wy : World} {g : Nat} {T T2 : Tv} {av : Value} {gs : List GR} {oa : Option Nat} (h : O3 w wx g T av gs oa) (hs : St g wx T wy T2) : O3 w wy g T2 av gs oa:=by
 have hlt:=h.row.lt
 have b2:=h.fr hs.fr (fun x hx => hx.elim (fun e => e ▸ h.gw) (fun hm => h.ow x (.inl hm)))
 have hsz:=h.be.size
 refine ⟨hs.tb,h.row.kept (fun b hb => hs.fr.block b (hlt b hb) (fun hh => hh.elim (fun e => h.og (by rw [hb,e])) (fun hm => h.oT _ hm b rfl hb))),fun b hb => ?_,h.og,fun x hx b hb hb' => ?_,b2,h.gw⟩
 ·
  rcases hb with hb|hb
  ·
   rcases hs.bl b hb with h1|h1
   ·
    exact h.ow b (.inl h1)
   ·
    omega
  ·
   exact h.ow b (.inr hb)
 ·
  subst hb
  rcases hs.bl b hx with h1|h1
  ·
   exact h.oT _ h1 b rfl hb'
  ·
   have:=hlt b hb'
   omega
theorem O3.app {w wx wy : World} {g : Nat} {T : Tv} {av av' : Value} {gs : List GR} {oa oa' : Option Nat} {a : GR} (h : O3 w wx g T av gs oa) (hr : Row wy 96 4 av' (gs.length + 1) (gs.flatMap gc ++ gc a) oa') (ho : oa' = oa ∨ ∀ k,oa' = some k → wx.heap.size ≤ k) (hf : Fr (fun k => oa = some k) wx wy) : O3 w wy g T av' (gs ++ [a]) oa':=by
 have b2:=h.fr hf (fun x hx => h.ow x (.inr hx))
 have hsz:=h.be.size
 have htb : TB wy g T:=⟨h.tb.v.kept (fun b hb => hf.block b (h.tb.v.lt b hb) (fun hh => h.oT _ hb b rfl hh)),hf.blk h.tb.bx h.og,h.tb.ng⟩
 refine ⟨htb,by rw [List.length_append,List.flatMap_append,List.flatMap_singleton];exact hr,fun b hb => ?_,fun e => ?_,fun x hx b hb hb' => ?_,b2,h.gw⟩
 ·
  rcases hb with hb|hb
  ·
   exact h.ow b (.inl hb)
  ·
   rcases ho with ho|ho
   ·
    exact h.ow b (.inr (ho ▸ hb))
   ·
    have:=ho b hb;omega
 ·
  rcases ho with ho|ho
  ·
   exact h.og (ho ▸ e)
  ·
   have:=ho g e;have:=h.tb.lt;omega
 ·
  rcases ho with ho|ho
  ·
   exact h.oT x hx b hb (ho ▸ hb')
  ·
   have:=ho b hb'
   subst hb
   have:=h.tb.v.lt b hx
   omega
theorem appG (w : World) (v : Value) (gs : List GR) (a : GR) (ob : Option Nat) (hr : Row w 96 4 v gs.length (gs.flatMap gc) ob) (hn : gs.length ≤ 900000) :
  ∃ v' w' ob',(Builtin.append_ #[47,47] 47 #[v,.slice (some ⟨w.heap.size,0,none⟩) 1 1]).run Try.prog (w.alloc (.cells #[.string a.f0,.int .i64 a.f1,.int .i64 a.f2,.int .i64 a.f3] 96 (0,0))) = .ok v' w' ∧ Row w' 96 4 v' (gs.length + 1) (gs.flatMap gc ++ gc a) ob' ∧ (ob' = ob ∨ ∀ k,ob' = some k → (w.alloc (.cells #[.string a.f0,.int .i64 a.f1,.int .i64 a.f2,.int .i64 a.f3] 96 (0,0))).heap.size ≤ k) ∧ Fr (fun k => ob = some k) (w.alloc (.cells #[.string a.f0,.int .i64 a.f1,.int .i64 a.f2,.int .i64 a.f3] 96 (0,0))) w' :=
 app_row _ 47 47 96 4 40 Try.underlying47 (by kernel_rfl) (by omega) (by omega) v _ gs.length 1 _ (gc a) ob (some w.heap.size) (hr.kept (fun b hb => (below_alloc (Below.refl w.heap.size w) _).block b (hr.lt b hb)))
  ⟨_,1,rfl,Nat.le_refl _,by omega,rfl,.inr ⟨w.heap.size,0,#[.string a.f0,.int .i64 a.f1,.int .i64 a.f2,.int .i64 a.f3],(0,0),rfl,rfl,heap_alloc_new w _,Free.none _,by simp,rfl⟩⟩ (by omega) (gc_one a)
end Go.Proofs.Ytjkanhjapddhnaa.GrP
