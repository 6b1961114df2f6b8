/- What stands in a walk of acquire, do and request: the table, the request's box, the answer's box. No condition. -/
-- squeezed
import Derived.Test.YtjkanhjapddhnaaPu
import Derived.Test.YtjkanhjapddhnaaInsR
import Derived.Test.YtjkanhjapddhnaaPFnExactRunRequestsx6
namespace Go.Proofs.Ytjkanhjapddhnaa.Ctx
open Go.RowKit Go.Proofs.YtjkanhjapddhnaaV.PrintWords Go.Proofs.YtjkanhjapddhnaaV.PrintMore Go.Proofs.Ytjkanhjapddhnaa.Own Go.Proofs.Ytjkanhjapddhnaa.MarkT Go.Proofs.Ytjkanhjapddhnaa.Tb Go.Proofs.Ytjkanhjapddhnaa.Gr Go.Proofs.Ytjkanhjapddhnaa.Find Go.Proofs.Ytjkanhjapddhnaa.Pu Go.Proofs.Ytjkanhjapddhnaa.PFnExactRunRequests
set_option linter.unusedVariables false
set_option linter.unusedSimpArgs false
def rqV (r : RQ) : Value:=.agg #[.int .i64 r.f0,.int .i64 r.f1,.int .i64 r.f2,.int .i64 r.f3,.string r.f4]
def rqO (r : RQ) : Obj:=.cells #[.int .i64 r.f0,.int .i64 r.f1,.int .i64 r.f2,.int .i64 r.f3,.string r.f4] 94 (0,0)
theorem St.far {g : Nat} {w w1 w2 : World} {T T1 : Tv} (h : St g w T w1 T1) {S : Nat → Prop} (hf : Fr S w1 w2) (hs : ∀ x,S x → x ≠ g ∧ ¬ some x ∈ T1.blocks ∧ w.heap.size ≤ x) : St g w T w2 T1 :=
 ⟨⟨h.tb.v.kept (fun b hb => hf.block b (h.tb.v.lt b hb) (fun hh => (hs b hh).2.1 hb)),hf.blk h.tb.bx (fun hh => (hs g hh).1 rfl),h.tb.ng⟩,
  h.fr.trans hf (fun x hx => .inr (hs x hx).2.2),h.bl⟩
theorem Fr.cell {S : Nat → Prop} {a b : World} (h : Fr S a b) {k j : Nat} {u : Value} (hc : a.cell? ⟨k,j,none⟩ = some u) (hn : ¬ S k) : b.cell? ⟨k,j,none⟩ = some u:=by
 have hk:=h.block k (World.block_lt_of_cell? a _ hc) hn
 unfold World.cell? at hc ⊢
 rw [hk]
 exact hc
theorem Fr.frozen {S : Nat → Prop} {a b : World} (h : Fr S a b) {k j : Nat} (hf : a.frozen? ⟨k,j,none⟩ = false) (hlt : k < a.heap.size) (hn : ¬ S k) : b.frozen? ⟨k,j,none⟩ = false:=by
 have hk:=h.block k hlt hn
 unfold World.frozen? at hf ⊢
 rw [hk]
 exact hf
theorem At.ne {w : World} {T : Tv} {A B : List EL} {e : EL} {b q : Nat} (hv : TV w T) (ha : At T A e B b q) : e.ob ≠ some b:=by
 have hap:=hv.ap
 unfold Tv.blocks at hap
 rw [List.pairwise_cons,ha.ls,List.map_append,List.map_cons] at hap
 exact (ap_mid hap.2).1 b ha.ol
theorem run_append_op {P : Program} {a : Act} {w w' : World} {o : Oper} (d s : Operand) (t t' : TypeId) (ho : o.op = .call { callee:=.builtin .append,args:=#[d,s],argTypes:=#[t,t'] }) (v u : Value) (hd : a.eval d = v) (hs : a.eval s = u) {v' : Value}
  (hr : (Builtin.append_ #[t,t'] o.type #[v,u]).run P w = .ok v' w') : (execOp a.eval o).run P w = .ok (.value v') w':=by
 unfold execOp
 simp only [ho,resolve,invoke,builtin,Sem.run_bind,Sem.run_pure,Result.andThen_ok,List.map_toArray,List.map_cons,List.map_nil,hd,hs,hr]
theorem apart_none (y : Option Nat) : apart none y:=fun b hb => by cases hb
theorem apart_none' (y : Option Nat) : apart y none:=fun b hb h => by cases h
theorem St.locks {g : Nat} {w w1 w2 : World} {T T1 : Tv} (h : St g w T w1 T1) (ls' : List EL) (v' : Value) (ol' : Option Nat) (hf : Fr (fun k => T1.ol = some k) w1 w2) (hr : Row w2 70 5 v' ls'.length (ls'.flatMap EL.cs) ol')
  (ho : ol' = T1.ol ∨ ∀ k,ol' = some k → w1.heap.size ≤ k) (hm : ∀ e ∈ ls',e ∈ T1.ls ∨ (e.ob = none ∧ WR w2 e)) (hp : (ls'.map EL.ob).Pairwise apart) : St g w T (w2.setCell ⟨g,2,none⟩ v') { T1 with ls:=ls',vl:=v',ol:=ol' }:=by
 have hv:=h.tb.v
 have hap:=hv.ap
 unfold Tv.blocks at hap
 rw [List.pairwise_cons,List.pairwise_cons] at hap
 obtain ⟨a1,a2,a3⟩:=hap
 have hlt : ∀ x ∈ T1.blocks,∀ k,x = some k → k < w1.heap.size:=fun x hx k hk => hv.lt k (hk ▸ hx)
 have hoo : ∀ x ∈ T1.blocks,apart x T1.ol → apart x ol':=fun x hx hxo => by
  rcases ho with ho|ho
  ·
   rw [ho];exact hxo
  ·
   intro k hk hk'
   have:=ho k hk'
   have:=hlt x hx k hk
   omega
 have hos : T1.os ∈ T1.blocks:=by simp [Tv.blocks]
 have hol : T1.ol ∈ T1.blocks:=by simp [Tv.blocks]
 refine h.box 2 v' (hf.mono (fun k hk => hk ▸ hol)) rfl ⟨hr,?_,?_,?_⟩ ?_
 ·
  intro e he
  rcases hm e he with he|⟨_,he⟩
  ·
   refine (hv.rw e he).kept (fun k hk => hf.block k (hlt _ (mem_blocks he) k hk) (fun hh => a2 e.ob (List.mem_map_of_mem he) k hh hk))
  ·
   exact he
 ·
  exact hv.rs.kept (fun k hk => hf.block k (hlt _ hos k hk) (fun hh => a1 T1.ol (by simp) k hk hh))
 ·
  show (T1.os :: ol' :: ls'.map EL.ob).Pairwise apart
  rw [List.pairwise_cons,List.pairwise_cons]
  refine ⟨fun x hx => ?_,fun x hx => ?_,hp⟩
  ·
   simp only [List.mem_cons,List.mem_map] at hx
   rcases hx with rfl|⟨e,he,rfl⟩
   ·
    exact hoo _ hos (a1 _ (by simp))
   ·
    rcases hm e he with he|⟨he,_⟩
    ·
     exact a1 _ (List.mem_cons_of_mem _ (List.mem_map_of_mem he))
    ·
     rw [he];exact apart_none' _
  ·
   simp only [List.mem_map] at hx
   obtain ⟨e,he,rfl⟩:=hx
   rcases hm e he with he|⟨he,_⟩
   ·
    exact apart_symm (hoo _ (mem_blocks he) (apart_symm (a2 _ (List.mem_map_of_mem he))))
   ·
    rw [he];exact apart_none' _
 ·
  intro b hb
  simp only [Tv.blocks,List.mem_cons,List.mem_map] at hb
  rcases hb with hb|hb|⟨e,he,hb⟩
  ·
   exact .inl (hb ▸ hos)
  ·
   rcases ho with ho|ho
   ·
    rw [ho] at hb;exact .inl (hb ▸ hol)
   ·
    exact .inr (ho b hb.symm)
  ·
   rcases hm e he with he|⟨he,_⟩
   ·
    exact .inl (hb ▸ mem_blocks he)
   ·
    rw [he] at hb;cases hb
theorem pair_ins {l : List EL} {p : Nat} {e : EL} (h : (l.map EL.ob).Pairwise apart) (he : e.ob = none) : ((l.take p ++ e :: l.drop p).map EL.ob).Pairwise apart:=by
 rw [← List.take_append_drop p l,List.map_append,List.pairwise_append] at h
 rw [List.map_append,List.map_cons,he,List.pairwise_append,List.pairwise_cons]
 obtain ⟨h1,h2,h3⟩:=h
 refine ⟨h1,⟨fun x _ => apart_none _,h2⟩,fun x hx y hy => ?_⟩
 simp only [List.mem_cons] at hy
 rcases hy with rfl|hy
 ·
  exact apart_none' _
 ·
  exact h3 x hx y hy
theorem slice_one {w : World} {e : EL} (h : WR w e) : e.v.oneCell' = true:=by
 obtain ⟨A,c,hv⟩:=Row.slice h
 rw [hv]
 rfl
theorem str_one (s : ByteArray) : (Value.string s).oneCell' = true:=by simp [Value.oneCell',Value.cells]
theorem cs_one {w : World} {T : Tv} (h : TV w T) : ∀ u ∈ T.ls.flatMap EL.cs,u.oneCell' = true:=by
 intro u hu
 obtain ⟨e,he,hu⟩:=List.mem_flatMap.1 hu
 simp only [EL.cs,List.mem_cons,List.not_mem_nil,or_false] at hu
 rcases hu with rfl|rfl|rfl|rfl|rfl
 ·
  exact str_one _
 ·
  rfl
 ·
  rfl
 ·
  rfl
 ·
  exact slice_one (h.rw e he)
theorem new_one (s : ByteArray) : ∀ u ∈ [Value.string s,.int .i64 0,.int .i64 (-1),.int .i64 0,.slice none 0 0],u.oneCell' = true:=by
 intro u hu
 simp only [List.mem_cons,List.not_mem_nil,or_false] at hu
 rcases hu with rfl|rfl|rfl|rfl|rfl
 ·
  exact str_one _
 all_goals rfl
theorem flat_take {β : Type} {f : β → List Value} {sz : Nat} (hf : ∀ x,(f x).length = sz) : ∀ (l : List β) (p : Nat),(l.flatMap f).take (p * sz) = (l.take p).flatMap f ∧ (l.flatMap f).drop (p * sz) = (l.drop p).flatMap f
 | [],p => by simp
 | x :: l,0 => by simp
 | x :: l,p + 1 => by
  obtain ⟨h1,h2⟩:=flat_take hf l p
  have e : (p + 1) * sz = (f x).length + p * sz:=by rw [hf,Nat.succ_mul];omega
  rw [List.flatMap_cons,List.take_succ_cons,List.drop_succ_cons,List.flatMap_cons,e,List.take_length_add_append,List.drop_length_add_append,h1,h2]
  exact ⟨rfl,rfl⟩
structure Ctx (g : Nat) (w : World) (T : Tv) (r : RQ) (W : World) (T1 : Tv) : Prop where
 st : St g w T W T1
 rq : W.heap[w.heap.size]? = some (rqO r)
 an : W.heap[w.heap.size + 1]? = some (anO ⟨0,0,0,0⟩)
 nb : ∀ k,k = w.heap.size ∨ k = w.heap.size + 1 → k ≠ g ∧ ¬ some k ∈ T1.blocks
theorem Ctx.start {g : Nat} {w : World} {T : Tv} (h : TB w g T) (r : RQ) : Ctx g w T r ((w.alloc (rqO r)).alloc (anO ⟨0,0,0,0⟩)) T:=by
 have hs : (w.alloc (rqO r)).heap.size = w.heap.size + 1:=by show (w.heap.push _).size = _;simp
 have h2:=heap_alloc_new (w.alloc (rqO r)) (anO ⟨0,0,0,0⟩)
 rw [hs] at h2
 exact ⟨(St.refl h).below (below_alloc (below_alloc (Below.refl _ _) _) _),(heap_alloc_old _ _ (by omega)).trans (heap_alloc_new _ _),h2,fun k hk => ⟨fun e => by have:=h.lt;omega,fun hm => by have:=h.v.lt k hm;omega⟩⟩
theorem Ctx.lt {g : Nat} {w : World} {T : Tv} {r : RQ} {W : World} {T1 : Tv} (h : Ctx g w T r W T1) : w.heap.size + 1 < W.heap.size:=(Array.getElem?_eq_some_iff.1 h.an).1
theorem Ctx.step {g : Nat} {w : World} {T : Tv} {r : RQ} {W W2 : World} {T1 T2 : Tv} (h : Ctx g w T r W T1) (k : St g W T1 W2 T2) : Ctx g w T r W2 T2:=by
 have hn : ∀ x,x = w.heap.size ∨ x = w.heap.size + 1 → ¬ (x = g ∨ some x ∈ T1.blocks):=fun x hx hh => hh.elim (h.nb x hx).1 (h.nb x hx).2
 refine ⟨h.st.trans k,k.fr.blk h.rq (hn _ (.inl rfl)),k.fr.blk h.an (hn _ (.inr rfl)),fun x hx => ⟨(h.nb x hx).1,fun hm => ?_⟩⟩
 rcases k.bl x hm with h1|h1
 ·
  exact (h.nb x hx).2 h1
 ·
  have:=h.lt;omega
theorem Ctx.below {g : Nat} {w : World} {T : Tv} {r : RQ} {W W2 : World} {T1 : Tv} (h : Ctx g w T r W T1) (hb : Below W.heap.size W W2) : Ctx g w T r W2 T1:=h.step ((St.refl h.st.tb).below hb)
theorem Ctx.rqs {g : Nat} {w : World} {T : Tv} {r : RQ} {W : World} {T1 : Tv} (h : Ctx g w T r W T1) :
  W.cell? ⟨w.heap.size,0,none⟩ = some (.int .i64 r.f0) ∧ W.cell? ⟨w.heap.size,1,none⟩ = some (.int .i64 r.f1) ∧ W.cell? ⟨w.heap.size,2,none⟩ = some (.int .i64 r.f2) ∧ W.cell? ⟨w.heap.size,3,none⟩ = some (.int .i64 r.f3) ∧ W.cell? ⟨w.heap.size,4,none⟩ = some (.string r.f4) :=
 ⟨(blk_cell h.rq 0).trans rfl,(blk_cell h.rq 1).trans rfl,(blk_cell h.rq 2).trans rfl,(blk_cell h.rq 3).trans rfl,(blk_cell h.rq 4).trans rfl⟩
theorem Ctx.ans {g : Nat} {w : World} {T : Tv} {r : RQ} {W : World} {T1 : Tv} (h : Ctx g w T r W T1) :
  W.cell? ⟨w.heap.size + 1,0,none⟩ = some (.int .i64 0) ∧ W.cell? ⟨w.heap.size + 1,1,none⟩ = some (.int .i64 0) ∧ W.cell? ⟨w.heap.size + 1,2,none⟩ = some (.int .i64 0) ∧ W.cell? ⟨w.heap.size + 1,3,none⟩ = some (.int .i64 0) ∧
  W.frozen? ⟨w.heap.size + 1,0,none⟩ = false ∧ W.frozen? ⟨w.heap.size + 1,1,none⟩ = false ∧ W.frozen? ⟨w.heap.size + 1,2,none⟩ = false ∧ W.frozen? ⟨w.heap.size + 1,3,none⟩ = false:=box_facts h.an
theorem Ctx.done {g : Nat} {w : World} {T : Tv} {r : RQ} {W : World} {T1 : Tv} (h : Ctx g w T r W T1) (a : AN) :
  ((((W.setCell ⟨w.heap.size + 1,0,none⟩ (.int .i64 a.f0)).setCell ⟨w.heap.size + 1,1,none⟩ (.int .i64 a.f1)).setCell ⟨w.heap.size + 1,2,none⟩ (.int .i64 a.f2)).setCell ⟨w.heap.size + 1,3,none⟩ (.int .i64 a.f3)).heap[w.heap.size + 1]? = some (anO a) ∧
  St g w T ((((W.setCell ⟨w.heap.size + 1,0,none⟩ (.int .i64 a.f0)).setCell ⟨w.heap.size + 1,1,none⟩ (.int .i64 a.f1)).setCell ⟨w.heap.size + 1,2,none⟩ (.int .i64 a.f2)).setCell ⟨w.heap.size + 1,3,none⟩ (.int .i64 a.f3)) T1 :=
 ⟨four_set h.an _ _ _ _,St.far h.st (Fr.four (S:=fun x => x = w.heap.size + 1) (Fr.refl _ _) (.inl rfl) _ _ _ _) (fun x hx => by subst hx;exact ⟨(h.nb _ (.inr rfl)).1,(h.nb _ (.inr rfl)).2,by omega⟩)⟩
theorem bare_calls (k : Int) (w : World) : Calls Try.prog 96 #[.int .i64 k] w fun e w' => e = .returned (anV (bareA k)) ∧ Below w.heap.size w w':=impl_bare.calls k k 0 (-1) 0 w rfl
theorem waits_new (s : ByteArray) (c : Int) (w : World) : Calls Try.prog 76 #[.agg #[.string s,.int .i64 0,.int .i64 (-1),.int .i64 0,.slice none 0 0],.int .i64 c] w fun e w' => e = .returned (.int .i64 (-1)) ∧ Below w.heap.size w w' :=
 Pos.waits_calls s 0 (-1) 0 none 0 [] c w ⟨rfl,by show 0 ≤ _;omega,fun h => absurd h (by show ¬ 0 < 0;omega)⟩
theorem findB_calls (g : Nat) (w : World) (T : Tv) (nm : ByteArray) (hT : TB w g T) (hl : T.ls.length ≤ 4) (hs : sortB (T.ls.map EL.x)) :
  Calls Try.prog 118 #[.pointer (some ⟨g,0,none⟩),.string nm] w fun e w' => e = .returned (.tuple #[.int .i64 (posB nm (T.ls.map EL.x) : Nat),.bool (thereB nm (T.ls.map EL.x))]) ∧ Below w.heap.size w w':=by
 have hlen : (T.ls.map EL.x).length = T.ls.length:=List.length_map _
 have h:=find_calls g w T nm (posB nm (T.ls.map EL.x)) hT (by omega) (by rw [← hlen];exact takeWhile_le _ _) (fun h hh => posB_cmp hs nm h (by omega))
 unfold thereB
 rw [hlen]
 exact h
theorem lock_split {l : List EL} {p : Nat} (hp : p < l.length) : ∃ e,l = l.take p ++ e :: l.drop (p + 1) ∧ e.x = rd_T70 (l.map EL.x) (p : Nat) ∧ (l.take p).length = p :=
 ⟨l[p],by rw [← List.drop_eq_getElem_cons hp,List.take_append_drop],by rw [rdL_at _ _ (by simpa using hp),List.getElem_map],by rw [List.length_take];omega⟩
theorem there_lt {nm : ByteArray} {l : List IL} (h : thereB nm l = true) : posB nm l < l.length:=by
 simp only [thereB,Bool.and_eq_true,decide_eq_true_eq] at h
 exact h.1
theorem putAt_split {A B : List EL} {e' : EL} {l : List EL} {p q : Nat} {n : Int} {a : AN} (hA : A = l.take p) (hB : B = l.drop q) : ((A ++ e' :: B).map EL.x,n,a) = putAt (l.map EL.x) p q (e'.x,n,a):=by
 subst hA;subst hB
 simp [putAt,List.map_append,List.map_take,List.map_drop]
end Go.Proofs.Ytjkanhjapddhnaa.Ctx
