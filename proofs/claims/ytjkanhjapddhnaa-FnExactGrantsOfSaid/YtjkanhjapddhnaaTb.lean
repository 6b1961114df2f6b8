/- A table in memory: its rows apart, its box; what a store into it leaves. No condition. -/
-- squeezed
import Derived.Test.YtjkanhjapddhnaaMarkT
import Derived.Test.YtjkanhjapddhnaaPFnExactRunRequestsx0
namespace Go.Proofs.Ytjkanhjapddhnaa.Tb
open Go.RowKit Go.Proofs.YtjkanhjapddhnaaV.PrintWords Go.Proofs.YtjkanhjapddhnaaV.PrintMore Go.Proofs.Ytjkanhjapddhnaa.Own Go.Proofs.Ytjkanhjapddhnaa.MarkT Go.Proofs.Ytjkanhjapddhnaa.PFnExactRunRequests
set_option linter.unusedVariables false
set_option linter.unusedSimpArgs false
abbrev IW:=S73
abbrev IL:=S70
abbrev IN:=S77
abbrev AN:=S75
abbrev RQ:=S94
def wc (x : IW) : List Value:=[.int .i64 x.f0,.int .i64 x.f1]
def sc (x : IN) : List Value:=[.int .i64 x.f0,.int .i64 x.f1,.int .i64 x.f2.f0,.int .i64 x.f2.f1,.int .i64 x.f2.f2,.int .i64 x.f2.f3]
structure EL where
 x : IL
 v : Value
 ob : Option Nat
def EL.hd (e : EL) : List Value:=[.string e.x.f0,.int .i64 e.x.f1,.int .i64 e.x.f2,.int .i64 e.x.f3]
def EL.cs (e : EL) : List Value:=[.string e.x.f0,.int .i64 e.x.f1,.int .i64 e.x.f2,.int .i64 e.x.f3,e.v]
def EL.el (e : EL) : El:=⟨e.hd,e.v,e.x.f4.length,e.x.f4.flatMap wc,e.ob⟩
structure Tv where
 tm : Int
 nx : Int
 vl : Value
 vs : Value
 ls : List EL
 ss : List IN
 ol : Option Nat
 os : Option Nat
def Tv.blocks (T : Tv) : List (Option Nat):=T.os :: T.ol :: T.ls.map EL.ob
def WR (w : World) (e : EL) : Prop:=Row w 73 2 e.v e.x.f4.length (e.x.f4.flatMap wc) e.ob
structure TV (w : World) (T : Tv) : Prop where
 rl : Row w 70 5 T.vl T.ls.length (T.ls.flatMap EL.cs) T.ol
 rw : ∀ e ∈ T.ls,WR w e
 rs : Row w 77 6 T.vs T.ss.length (T.ss.flatMap sc) T.os
 ap : T.blocks.Pairwise apart
def Tv.box (T : Tv) : Obj:=.cells #[.int .i64 T.tm,.int .i64 T.nx,T.vl,T.vs] 31 (0,0)
structure TB (w : World) (g : Nat) (T : Tv) : Prop where
 v : TV w T
 bx : w.heap[g]? = some T.box
 ng : ∀ o ∈ T.blocks,o ≠ some g
structure St (g : Nat) (w : World) (T : Tv) (w' : World) (T' : Tv) : Prop where
 tb : TB w' g T'
 fr : Fr (fun b => b = g ∨ some b ∈ T.blocks) w w'
 bl : ∀ b,some b ∈ T'.blocks → some b ∈ T.blocks ∨ w.heap.size ≤ b
theorem TV.lt {w : World} {T : Tv} (h : TV w T) : ∀ b,some b ∈ T.blocks → b < w.heap.size:=by
 intro b hb
 simp only [Tv.blocks,List.mem_cons,List.mem_map] at hb
 rcases hb with hb|hb|⟨e,he,hb⟩
 ·
  exact h.rs.lt b hb.symm
 ·
  exact h.rl.lt b hb.symm
 ·
  exact (h.rw e he).lt b hb
theorem TV.kept {w w' : World} {T : Tv} (h : TV w T) (hk : ∀ b,some b ∈ T.blocks → w'.heap[b]? = w.heap[b]?) : TV w' T :=
 ⟨h.rl.kept (fun b hb => hk b (by simp [Tv.blocks,hb])),fun e he => (h.rw e he).kept (fun b hb => hk b (by
  simp only [Tv.blocks,List.mem_cons,List.mem_map]
  exact .inr (.inr ⟨e,he,hb⟩))),h.rs.kept (fun b hb => hk b (by simp [Tv.blocks,hb])),h.ap⟩
theorem TV.below {w w' : World} {T : Tv} (h : TV w T) (hb : Below w.heap.size w w') : TV w' T:=h.kept (fun b hm => hb.block b (h.lt b hm))
theorem TB.lt {w : World} {g : Nat} {T : Tv} (h : TB w g T) : g < w.heap.size:=(Array.getElem?_eq_some_iff.1 h.bx).1
theorem TB.below {w w' : World} {g : Nat} {T : Tv} (h : TB w g T) (hb : Below w.heap.size w w') : TB w' g T:=⟨h.v.below hb,(hb.block g h.lt).trans h.bx,h.ng⟩
theorem St.refl {g : Nat} {w : World} {T : Tv} (h : TB w g T) : St g w T w T:=⟨h,Fr.refl _ _,fun b hb => .inl hb⟩
theorem St.trans {g : Nat} {w w1 w2 : World} {T T1 T2 : Tv} (h : St g w T w1 T1) (k : St g w1 T1 w2 T2) : St g w T w2 T2 :=
 ⟨k.tb,h.fr.trans k.fr (fun x hx => by
  rcases hx with hx|hx
  ·
   exact .inl (.inl hx)
  ·
   rcases h.bl x hx with h1|h1
   ·
    exact .inl (.inr h1)
   ·
    exact .inr h1),fun b hb => by
  rcases k.bl b hb with h1|h1
  ·
   exact h.bl b h1
  ·
   exact .inr (Nat.le_trans h.fr.size h1)⟩
theorem St.below {g : Nat} {w w1 w2 : World} {T T1 : Tv} (h : St g w T w1 T1) (hb : Below w1.heap.size w1 w2) : St g w T w2 T1 :=
 h.trans ⟨h.tb.below hb,Fr.of_below hb,fun b hb => .inl hb⟩
theorem TB.cells {w : World} {g : Nat} {T : Tv} (h : TB w g T) : w.cell? ⟨g,0,none⟩ = some (.int .i64 T.tm) ∧ w.cell? ⟨g,1,none⟩ = some (.int .i64 T.nx) ∧ w.cell? ⟨g,2,none⟩ = some T.vl ∧ w.cell? ⟨g,3,none⟩ = some T.vs ∧
  w.frozen? ⟨g,0,none⟩ = false ∧ w.frozen? ⟨g,1,none⟩ = false ∧ w.frozen? ⟨g,2,none⟩ = false ∧ w.frozen? ⟨g,3,none⟩ = false :=
 ⟨(blk_cell h.bx 0).trans rfl,(blk_cell h.bx 1).trans rfl,(blk_cell h.bx 2).trans rfl,(blk_cell h.bx 3).trans rfl,
  row_free h.bx (Free.none 4) 0 (show 0 < 4 by decide),row_free h.bx (Free.none 4) 1 (show 1 < 4 by decide),row_free h.bx (Free.none 4) 2 (show 2 < 4 by decide),row_free h.bx (Free.none 4) 3 (show 3 < 4 by decide)⟩
theorem St.box {g : Nat} {w w1 w2 : World} {T T1 T2 : Tv} (h : St g w T w1 T1) (j : Nat) (u : Value) (hf : Fr (fun b => some b ∈ T1.blocks) w1 w2)
  (hb : T2.box = .cells ((#[.int .i64 T1.tm,.int .i64 T1.nx,T1.vl,T1.vs] : Array Value).setIfInBounds j u) 31 (0,0)) (hv : TV w2 T2) (hbl : ∀ b,some b ∈ T2.blocks → some b ∈ T1.blocks ∨ w1.heap.size ≤ b) :
  St g w T (w2.setCell ⟨g,j,none⟩ u) T2:=by
 have hng : ¬ some g ∈ T1.blocks:=fun hm => h.tb.ng _ hm rfl
 have hg2:=hf.blk h.tb.bx hng
 have hn2 : ∀ o ∈ T2.blocks,o ≠ some g:=fun o ho e => by
  subst e
  rcases hbl g ho with h1|h1
  ·
   exact hng h1
  ·
   have:=h.tb.lt;omega
 refine h.trans ⟨⟨hv.kept (fun b hm => Below.heap_setCell w2 ⟨g,j,none⟩ u b (fun e => hn2 _ hm (congrArg some e))),?_,hn2⟩,(hf.mono (S':=fun b => b = g ∨ some b ∈ T1.blocks) (fun x hx => .inr hx)).setCell (.inl (.inl rfl)) u,hbl⟩
 rw [hb]
 exact row_set (cs:=#[.int .i64 T1.tm,.int .i64 T1.nx,T1.vl,T1.vs]) hg2 j u
theorem St.time {g : Nat} {w w1 : World} {T T1 : Tv} (h : St g w T w1 T1) (u : Int) : St g w T (w1.setCell ⟨g,0,none⟩ (.int .i64 u)) { T1 with tm:=u } :=
 h.box 0 _ (Fr.refl _ _) rfl ⟨h.tb.v.rl,h.tb.v.rw,h.tb.v.rs,h.tb.v.ap⟩ (fun b hb => .inl hb)
theorem St.next {g : Nat} {w w1 : World} {T T1 : Tv} (h : St g w T w1 T1) (u : Int) : St g w T (w1.setCell ⟨g,1,none⟩ (.int .i64 u)) { T1 with nx:=u } :=
 h.box 1 _ (Fr.refl _ _) rfl ⟨h.tb.v.rl,h.tb.v.rw,h.tb.v.rs,h.tb.v.ap⟩ (fun b hb => .inl hb)
structure At (T : Tv) (A : List EL) (e : EL) (B : List EL) (b q : Nat) : Prop where
 ls : T.ls = A ++ e :: B
 vl : ∃ o c,T.vl = .slice (some ⟨b,o,none⟩) T.ls.length c ∧ q = o + A.length * 5
 ol : T.ol = some b
theorem At.put {T : Tv} {A B : List EL} {e : EL} {b q : Nat} (h : At T A e B b q) (e' : EL) : At { T with ls:=A ++ e' :: B } A e' B b q:=by
 obtain ⟨h1,⟨o,c,h2,h3⟩,h4⟩:=h
 exact ⟨rfl,⟨o,c,by rw [h2,h1];simp,h3⟩,h4⟩
theorem At.next {T : Tv} {A B : List EL} {e : EL} {b q : Nat} (h : At T A e B b q) (u : Int) : At { T with nx:=u } A e B b q:=⟨h.ls,h.vl,h.ol⟩
theorem At.time {T : Tv} {A B : List EL} {e : EL} {b q : Nat} (h : At T A e B b q) (u : Int) : At { T with tm:=u } A e B b q:=⟨h.ls,h.vl,h.ol⟩
theorem cs_length (l : List EL) : (l.flatMap EL.cs).length = l.length * 5:=by
 induction l with
 | nil => rfl
 | cons e l ih => rw [List.flatMap_cons,List.length_append,ih,List.length_cons];show 5 + _ = _;omega
theorem sc_length (l : List IN) : (l.flatMap sc).length = l.length * 6:=by
 induction l with
 | nil => rfl
 | cons e l ih => rw [List.flatMap_cons,List.length_append,ih,List.length_cons];show 6 + _ = _;omega
theorem cs_mid (A B : List EL) (e : EL) : (A ++ e :: B).flatMap EL.cs = A.flatMap EL.cs ++ (e.cs ++ B.flatMap EL.cs):=by simp
theorem TV.at_ {w : World} {T : Tv} (h : TV w T) {A B : List EL} {e : EL} (hl : T.ls = A ++ e :: B) : ∃ b o c,T.vl = .slice (some ⟨b,o,none⟩) T.ls.length c ∧ At T A e B b (o + A.length * 5):=by
 obtain ⟨b,o,c,hv,hob⟩:=h.rl.addr (by rw [hl];simp;omega)
 exact ⟨b,o,c,hv,hl,⟨o,c,hv,rfl⟩,hob⟩
theorem At.cell {w : World} {T : Tv} {A B : List EL} {e : EL} {b q : Nat} (h : At T A e B b q) (hv : TV w T) (j : Nat) (hj : j < 5) : w.cell? ⟨b,q + j,none⟩ = some (e.cs[j]'hj) ∧ w.frozen? ⟨b,q + j,none⟩ = false:=by
 obtain ⟨h1,⟨o,c,h2,h3⟩,h4⟩:=h
 have hr:=hv.rl
 rw [h2,h1,cs_mid] at hr
 have hl : (A.flatMap EL.cs).length = A.length * 5:=cs_length A
 have hk:=hr.cellAt ((A.flatMap EL.cs).length + j) (by rw [List.length_append,List.length_append];show _ < _ + (5 + _);omega)
 rw [get_mid _ _ _ j (show j < e.cs.length from hj),hl,← Nat.add_assoc,← h3] at hk
 exact hk
theorem At.cells {w : World} {T : Tv} {A B : List EL} {e : EL} {b q : Nat} (h : At T A e B b q) (hv : TV w T) :
  w.cell? ⟨b,q,none⟩ = some (.string e.x.f0) ∧ w.cell? ⟨b,q + 1,none⟩ = some (.int .i64 e.x.f1) ∧ w.cell? ⟨b,q + 2,none⟩ = some (.int .i64 e.x.f2) ∧ w.cell? ⟨b,q + 3,none⟩ = some (.int .i64 e.x.f3) ∧ w.cell? ⟨b,q + 4,none⟩ = some e.v ∧
  w.frozen? ⟨b,q,none⟩ = false ∧ w.frozen? ⟨b,q + 1,none⟩ = false ∧ w.frozen? ⟨b,q + 2,none⟩ = false ∧ w.frozen? ⟨b,q + 3,none⟩ = false ∧ w.frozen? ⟨b,q + 4,none⟩ = false :=
 ⟨(h.cell hv 0 (by omega)).1,(h.cell hv 1 (by omega)).1,(h.cell hv 2 (by omega)).1,(h.cell hv 3 (by omega)).1,(h.cell hv 4 (by omega)).1,
  (h.cell hv 0 (by omega)).2,(h.cell hv 1 (by omega)).2,(h.cell hv 2 (by omega)).2,(h.cell hv 3 (by omega)).2,(h.cell hv 4 (by omega)).2⟩
theorem mem_blocks {T : Tv} {e : EL} (h : e ∈ T.ls) : e.ob ∈ T.blocks:=by
 simp only [Tv.blocks,List.mem_cons]
 exact .inr (.inr (List.mem_map_of_mem h))
theorem apart_symm {x y : Option Nat} (h : apart x y) : apart y x:=fun b hb hx => h b hx hb
theorem St.lk {g : Nat} {w w1 w2 : World} {T T1 : Tv} (h : St g w T w1 T1) {A B : List EL} {e : EL} {b q : Nat} (ha : At T1 A e B b q) (j : Nat) (u : Value) (e' : EL) (hcs : e'.cs = e.cs.set j u) (hj : j < 5)
  (hf : Fr (fun k => e.ob = some k) w1 w2) (hw : WR w2 e') (ho : e'.ob = e.ob ∨ ∀ k,e'.ob = some k → w1.heap.size ≤ k) : St g w T (w2.setCell ⟨b,q + j,none⟩ u) { T1 with ls:=A ++ e' :: B }:=by
 obtain ⟨h1,⟨o,c,h2,h3⟩,h4⟩:=ha
 have hv:=h.tb.v
 have hap:=hv.ap
 have hin : ∀ x,x ∈ A ∨ x = e ∨ x ∈ B → x ∈ T1.ls:=fun x hx => by rw [h1];simpa using hx
 have hbk : ∀ x ∈ T1.blocks,∀ k,x = some k → k < w1.heap.size:=fun x hx k hk => hv.lt k (hk ▸ hx)
 unfold Tv.blocks at hap
 rw [List.pairwise_cons,h1,List.map_append,List.map_cons] at hap
 obtain ⟨hs,hap⟩:=hap
 obtain ⟨a1,a2,a3⟩:=ap_mid hap
 have hnew : ∀ x ∈ T1.blocks,apart x e.ob → apart x e'.ob:=fun x hx hxe => by
  rcases ho with ho|ho
  ·
   rw [ho];exact hxe
  ·
   intro k hk hk'
   have:=ho k hk'
   have:=hbk x hx k hk
   omega
 have hmA : ∀ x ∈ A.map EL.ob,x ∈ T1.blocks:=fun x hx => by
  obtain ⟨y,hy,rfl⟩:=List.mem_map.1 hx
  exact mem_blocks (hin y (.inl hy))
 have hmB : ∀ x ∈ B.map EL.ob,x ∈ T1.blocks:=fun x hx => by
  obtain ⟨y,hy,rfl⟩:=List.mem_map.1 hx
  exact mem_blocks (hin y (.inr (.inr hy)))
 have hol : T1.ol ∈ T1.blocks:=by simp [Tv.blocks]
 have hos : T1.os ∈ T1.blocks:=by simp [Tv.blocks]
 have hkeep : ∀ (x : Option Nat),x ∈ T1.blocks → apart x e.ob → apart x (some b) → ∀ k,x = some k → (w2.setCell ⟨b,q + j,none⟩ u).heap[k]? = w1.heap[k]?:=fun x hx hxe hxb k hk => by
  rw [Below.heap_setCell w2 _ u k (fun e => hxb k hk (by rw [e]))]
  exact hf.block k (hbk x hx k hk) (fun hh => hxe k hk hh)
 have hbl : ∀ k,some k ∈ ({ T1 with ls:=A ++ e' :: B } : Tv).blocks → some k ∈ T1.blocks ∨ w1.heap.size ≤ k:=fun k hk => by
  simp only [Tv.blocks,List.map_append,List.map_cons,List.mem_cons,List.mem_append] at hk
  rcases hk with hk|hk|hk|hk|hk
  ·
   rw [hk];exact .inl hos
  ·
   rw [hk];exact .inl hol
  ·
   exact .inl (hmA _ hk)
  ·
   rcases ho with ho|ho
   ·
    rw [hk,ho];exact .inl (mem_blocks (hin e (.inr (.inl rfl))))
   ·
    exact .inr (ho k hk.symm)
  ·
   exact .inl (hmB _ hk)
 have hb4 : apart T1.os (some b):=by rw [← h4];exact hs T1.ol (by simp)
 have hebl : e.ob ∈ T1.blocks:=mem_blocks (hin e (.inr (.inl rfl)))
 refine h.trans ⟨⟨⟨?_,?_,?_,?_⟩,?_,?_⟩,?_,hbl⟩
 ·
  -- the row of locks
  have hr:=hv.rl
  rw [h2,h1,cs_mid] at hr
  have hr2 : Row w2 70 5 (.slice (some ⟨b,o,none⟩) (A ++ e :: B).length c) (A ++ e :: B).length (A.flatMap EL.cs ++ (e.cs ++ B.flatMap EL.cs)) T1.ol:=hr.kept (fun k hk => hf.block k (hr.lt k hk) (fun hh => a1 k hk hh))
  have hl : (A.flatMap EL.cs).length = A.length * 5:=cs_length A
  have hr3:=hr2.set ((A.flatMap EL.cs).length + j) u
  rw [set_mid _ _ _ j u (show j < e.cs.length from hj),← hcs,hl,← Nat.add_assoc,← h3] at hr3
  have hlen : (A ++ e' :: B).length = (A ++ e :: B).length:=by simp
  show Row _ _ 5 T1.vl (A ++ e' :: B).length ((A ++ e' :: B).flatMap EL.cs) T1.ol
  rw [cs_mid,hlen,h2,h1]
  exact hr3
 ·
  intro x hx
  have hx : x ∈ A ∨ x = e' ∨ x ∈ B:=by simpa using hx
  rcases hx with hx|rfl|hx
  ·
   have hm : x.ob ∈ A.map EL.ob:=List.mem_map_of_mem hx
   obtain ⟨c1,c2⟩:=a2 _ hm
   exact (hv.rw x (hin x (.inl hx))).kept (hkeep x.ob (hmA _ hm) c2 (by rw [← h4];exact apart_symm c1))
  ·
   refine hw.kept (fun k hk => Below.heap_setCell w2 _ u k (fun e2 => ?_))
   subst e2
   rcases ho with ho|ho
   ·
    exact a1 _ h4 (ho ▸ hk)
   ·
    have:=ho _ hk
    have:=hbk _ hol _ h4
    omega
  ·
   have hm : x.ob ∈ B.map EL.ob:=List.mem_map_of_mem hx
   obtain ⟨c1,c2⟩:=a3 _ hm
   exact (hv.rw x (hin x (.inr (.inr hx)))).kept (hkeep x.ob (hmB _ hm) (apart_symm c2) (by rw [← h4];exact apart_symm c1))
 ·
  have hse : apart T1.os e.ob:=hs e.ob (by simp)
  exact hv.rs.kept (hkeep T1.os hos hse hb4)
 ·
  show (T1.os :: T1.ol :: (A ++ e' :: B).map EL.ob).Pairwise apart
  rw [List.map_append,List.map_cons,List.pairwise_cons]
  refine ⟨fun x hx => ?_,?_⟩
  ·
   simp only [List.mem_cons,List.mem_append] at hx
   rcases hx with rfl|hx|rfl|hx
   ·
    exact hs _ (by simp)
   ·
    exact hs _ (by simp [hx])
   ·
    exact hnew _ hos (hs _ (by simp))
   ·
    exact hs _ (by simp [hx])
  ·
   rw [List.pairwise_cons,List.pairwise_append,List.pairwise_cons] at hap ⊢
   obtain ⟨p1,p2,⟨p3,p4⟩,p5⟩:=hap
   refine ⟨fun x hx => ?_,p2,⟨fun x hx => apart_symm (hnew x (hmB x hx) (apart_symm (p3 x hx))),p4⟩,fun x hx y hy => ?_⟩
   ·
    simp only [List.mem_cons,List.mem_append] at hx
    rcases hx with hx|rfl|hx
    ·
     exact p1 _ (by simp [hx])
    ·
     exact hnew _ hol (p1 _ (by simp))
    ·
     exact p1 _ (by simp [hx])
   ·
    simp only [List.mem_cons] at hy
    rcases hy with rfl|hy
    ·
     exact hnew x (hmA x hx) (p5 x hx _ (by simp))
    ·
     exact p5 x hx y (by simp [hy])
 ·
  show _ = some T1.box
  rw [Below.heap_setCell w2 _ u g (fun e2 => h.tb.ng _ hol (by rw [h4];exact congrArg some e2.symm))]
  exact hf.blk h.tb.bx (fun hh => h.tb.ng _ hebl hh)
 ·
  intro x hx e2
  subst e2
  rcases hbl g hx with h5|h5
  ·
   exact h.tb.ng _ h5 rfl
  ·
   have:=h.tb.lt;omega
 ·
  exact (hf.mono (S':=fun k => k = g ∨ some k ∈ T1.blocks) (fun k hk => .inr (hk ▸ hebl))).setCell (.inl (.inr (by rw [← h4];exact hol))) u
theorem St.tok {g : Nat} {w w1 : World} {T T1 : Tv} (h : St g w T w1 T1) {A B : List EL} {e : EL} {b q : Nat} (ha : At T1 A e B b q) (u : Int) : St g w T (w1.setCell ⟨b,q + 1,none⟩ (.int .i64 u)) { T1 with ls:=A ++ { e with x:={ e.x with f1:=u } } :: B } :=
 h.lk ha 1 _ _ rfl (by omega) (Fr.refl _ _) (h.tb.v.rw e (by rw [ha.ls];simp)) (.inl rfl)
theorem St.hol {g : Nat} {w w1 : World} {T T1 : Tv} (h : St g w T w1 T1) {A B : List EL} {e : EL} {b q : Nat} (ha : At T1 A e B b q) (u : Int) : St g w T (w1.setCell ⟨b,q + 2,none⟩ (.int .i64 u)) { T1 with ls:=A ++ { e with x:={ e.x with f2:=u } } :: B } :=
 h.lk ha 2 _ _ rfl (by omega) (Fr.refl _ _) (h.tb.v.rw e (by rw [ha.ls];simp)) (.inl rfl)
theorem St.exp {g : Nat} {w w1 : World} {T T1 : Tv} (h : St g w T w1 T1) {A B : List EL} {e : EL} {b q : Nat} (ha : At T1 A e B b q) (u : Int) : St g w T (w1.setCell ⟨b,q + 3,none⟩ (.int .i64 u)) { T1 with ls:=A ++ { e with x:={ e.x with f3:=u } } :: B } :=
 h.lk ha 3 _ _ rfl (by omega) (Fr.refl _ _) (h.tb.v.rw e (by rw [ha.ls];simp)) (.inl rfl)
theorem St.wts {g : Nat} {w w1 w2 : World} {T T1 : Tv} (h : St g w T w1 T1) {A B : List EL} {e : EL} {b q : Nat} (ha : At T1 A e B b q) (ws : List IW) (v' : Value) (ob' : Option Nat) (hf : Fr (fun k => e.ob = some k) w1 w2)
  (hw : Row w2 73 2 v' ws.length (ws.flatMap wc) ob') (ho : ob' = e.ob ∨ ∀ k,ob' = some k → w1.heap.size ≤ k) : St g w T (w2.setCell ⟨b,q + 4,none⟩ v') { T1 with ls:=A ++ { x:={ e.x with f4:=ws },v:=v',ob:=ob' } :: B } :=
 h.lk ha 4 _ _ rfl (by omega) hf hw ho
theorem four_set {w : World} {g t : Nat} {x0 x1 x2 x3 : Value} (h : w.heap[g]? = some (.cells #[x0,x1,x2,x3] t (0,0))) (v0 v1 v2 v3 : Value) :
  ((((w.setCell ⟨g,0,none⟩ v0).setCell ⟨g,1,none⟩ v1).setCell ⟨g,2,none⟩ v2).setCell ⟨g,3,none⟩ v3).heap[g]? = some (.cells #[v0,v1,v2,v3] t (0,0)) :=
 row_set (cs:=#[v0,v1,v2,x3]) (row_set (cs:=#[v0,v1,x2,x3]) (row_set (cs:=#[v0,x1,x2,x3]) (row_set (cs:=#[x0,x1,x2,x3]) h 0 v0) 1 v1) 2 v2) 3 v3
theorem Fr.four {S : Nat → Prop} {a w : World} (h : Fr S a w) {g : Nat} (hg : S g ∨ a.heap.size ≤ g) (v0 v1 v2 v3 : Value) : Fr S a ((((w.setCell ⟨g,0,none⟩ v0).setCell ⟨g,1,none⟩ v1).setCell ⟨g,2,none⟩ v2).setCell ⟨g,3,none⟩ v3) :=
 (((h.setCell (p:=⟨g,0,none⟩) hg v0).setCell (p:=⟨g,1,none⟩) hg v1).setCell (p:=⟨g,2,none⟩) hg v2).setCell (p:=⟨g,3,none⟩) hg v3
theorem box_facts {w : World} {g t : Nat} {x0 x1 x2 x3 : Value} (h : w.heap[g]? = some (.cells #[x0,x1,x2,x3] t (0,0))) :
  w.cell? ⟨g,0,none⟩ = some x0 ∧ w.cell? ⟨g,1,none⟩ = some x1 ∧ w.cell? ⟨g,2,none⟩ = some x2 ∧ w.cell? ⟨g,3,none⟩ = some x3 ∧
  w.frozen? ⟨g,0,none⟩ = false ∧ w.frozen? ⟨g,1,none⟩ = false ∧ w.frozen? ⟨g,2,none⟩ = false ∧ w.frozen? ⟨g,3,none⟩ = false :=
 ⟨(blk_cell h 0).trans rfl,(blk_cell h 1).trans rfl,(blk_cell h 2).trans rfl,(blk_cell h 3).trans rfl,
  row_free h (Free.none 4) 0 (show 0 < 4 by decide),row_free h (Free.none 4) 1 (show 1 < 4 by decide),row_free h (Free.none 4) 2 (show 2 < 4 by decide),row_free h (Free.none 4) 3 (show 3 < 4 by decide)⟩
def anV (a : AN) : Value:=.agg #[.int .i64 a.f0,.int .i64 a.f1,.int .i64 a.f2,.int .i64 a.f3]
def anO (a : AN) : Obj:=.cells #[.int .i64 a.f0,.int .i64 a.f1,.int .i64 a.f2,.int .i64 a.f3] 75 (0,0)
theorem flat_get {β : Type} {f : β → List Value} {sz : Nat} (hf : ∀ x,(f x).length = sz) : ∀ (l : List β) (j i : Nat) (x : β),l[j]? = some x → i < sz → (l.flatMap f)[j * sz + i]? = (f x)[i]?
 | [],j,i,x,h,_ => by simp at h
 | y :: l,0,i,x,h,hi => by
  simp only [List.getElem?_cons_zero,Option.some.injEq] at h
  subst h
  rw [List.flatMap_cons,Nat.zero_mul,Nat.zero_add,List.getElem?_append_left (by rw [hf];exact hi)]
 | y :: l,j + 1,i,x,h,hi => by
  rw [List.flatMap_cons,List.getElem?_append_right (by rw [hf,Nat.succ_mul];omega),hf,show (j + 1) * sz + i - sz = j * sz + i by rw [Nat.succ_mul];omega]
  exact flat_get hf l j i x (by simpa using h) hi
theorem row_reads {α β : Type} {d : Kd α} {f : β → List Value} {g : β → α} {w : World} {e n c : Nat} {A : Option Addr} {els : List β} {ob : Option Nat} (h : Row w e d.sz (.slice A n c) n (els.flatMap f) ob) (hn : els.length = n) (hf : ∀ x,(f x).length = d.sz) (hk : ∀ x ∈ els,d.K w (g x) (f x)) :
  n ≤ c ∧ Kd.C d w A n (els.map g):=by
 have hc : n ≤ c ∧ c ≤ 9223372036854775807:=by
  obtain ⟨_,_,hv,h1,h2,_⟩:=h
  injection hv with _ _ hc
  subst hc
  exact ⟨h1,h2⟩
 refine ⟨hc.1,by rw [List.length_map,hn],by omega,fun h0 => ?_⟩
 obtain ⟨b,o,c',cs,fz,hv,_,_,_,hg,_,_,hl,hx⟩:=h.at_ h0
 injection hv with ha _ _
 subst ha
 refine ⟨_,rfl,fun j p hj => ?_⟩
 rw [List.getElem?_map] at hj
 obtain ⟨x,hxj,rfl⟩:=Option.map_eq_some_iff.1 hj
 refine ⟨f x,hf x,hk x (List.mem_of_getElem? hxj),fun i u hi => ?_⟩
 have hi' : i < d.sz:=by
  have:=(List.getElem?_eq_some_iff.1 hi).1
  rwa [hf] at this
 have hcell:=flat_get hf els j i x hxj hi'
 rw [hi] at hcell
 obtain ⟨hlt,hval⟩:=List.getElem?_eq_some_iff.1 hcell
 have:=row_cell hg hx (j * d.sz + i) hlt
 rw [hval] at this
 rw [Addr.add_lit]
 exact this
theorem WR.reads {w : World} {e : EL} (h : WR w e) : ∃ A c,e.v = .slice A e.x.f4.length c ∧ e.x.f4.length ≤ c ∧ Kd.C k73 w A e.x.f4.length e.x.f4:=by
 obtain ⟨A,c,hv⟩:=h.slice
 unfold WR at h
 rw [hv] at h
 obtain ⟨h1,h2⟩:=row_reads (d:=k73) (g:=id) h rfl (fun x => rfl) (fun x _ => k73_mk w x)
 rw [List.map_id] at h2
 exact ⟨A,c,hv,h1,h2⟩
theorem TV.locks {w : World} {T : Tv} (h : TV w T) : ∃ A c,T.vl = .slice A T.ls.length c ∧ T.ls.length ≤ c ∧ Kd.C k70 w A T.ls.length (T.ls.map EL.x):=by
 obtain ⟨A,c,hv⟩:=h.rl.slice
 have hr:=h.rl
 rw [hv] at hr
 obtain ⟨h1,h2⟩:=row_reads (d:=k70) (g:=EL.x) hr rfl (fun x => rfl) (fun x hx => by
  obtain ⟨A4,c4,hv4,hl4,hk4⟩:=(h.rw x hx).reads
  show k70.K w x.x x.cs
  unfold EL.cs
  rw [hv4]
  exact k70_mk w x.x hl4 hk4)
 exact ⟨A,c,hv,h1,h2⟩
theorem TV.seens {w : World} {T : Tv} (h : TV w T) : ∃ A c,T.vs = .slice A T.ss.length c ∧ T.ss.length ≤ c ∧ Kd.C k77 w A T.ss.length T.ss:=by
 obtain ⟨A,c,hv⟩:=h.rs.slice
 have hr:=h.rs
 rw [hv] at hr
 obtain ⟨h1,h2⟩:=row_reads (d:=k77) (g:=id) hr rfl (fun x => rfl) (fun x _ => k77_mk w x)
 rw [List.map_id] at h2
 exact ⟨A,c,hv,h1,h2⟩
end Go.Proofs.Ytjkanhjapddhnaa.Tb
