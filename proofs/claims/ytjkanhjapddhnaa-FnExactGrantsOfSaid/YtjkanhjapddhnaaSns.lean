/- What a store among the seens of a table leaves; the search among them. No condition. -/
-- squeezed
import Derived.Test.YtjkanhjapddhnaaDo
import Derived.Test.YtjkanhjapddhnaaInv
namespace Go.Proofs.Ytjkanhjapddhnaa.Sns
open Go.RowKit Go.Lib Go.Proofs.YtjkanhjapddhnaaV.PrintWords Go.Proofs.YtjkanhjapddhnaaV.PrintMore Go.Proofs.Ytjkanhjapddhnaa.Own Go.Proofs.Ytjkanhjapddhnaa.MarkT Go.Proofs.Ytjkanhjapddhnaa.Tb Go.Proofs.Ytjkanhjapddhnaa.Gr Go.Proofs.Ytjkanhjapddhnaa.Gon Go.Proofs.Ytjkanhjapddhnaa.Find Go.Proofs.Ytjkanhjapddhnaa.Pu Go.Proofs.Ytjkanhjapddhnaa.Ctx Go.Proofs.Ytjkanhjapddhnaa.PFnExactRunRequests
set_option linter.unusedVariables false
set_option linter.unusedSimpArgs false
theorem seens_tv {w1 w2 : World} {T1 : Tv} (hv : TV w1 T1) (ss' : List IN) (v' : Value) (os' : Option Nat) (hf : Fr (fun k => T1.os = some k) w1 w2) (hr : Row w2 77 6 v' ss'.length (ss'.flatMap sc) os') (ho : os' = T1.os ∨ ∀ k,os' = some k → w1.heap.size ≤ k) :
  TV w2 { T1 with ss:=ss',vs:=v',os:=os' } ∧ ∀ b,some b ∈ ({ T1 with ss:=ss',vs:=v',os:=os' } : Tv).blocks → some b ∈ T1.blocks ∨ w1.heap.size ≤ b:=by
 have hap:=hv.ap
 unfold Tv.blocks at hap
 rw [List.pairwise_cons] at hap
 obtain ⟨a1,a2⟩:=hap
 have hlt : ∀ x ∈ T1.blocks,∀ k,x = some k → k < w1.heap.size:=fun x hx k hk => hv.lt k (hk ▸ hx)
 have hrest : ∀ x ∈ T1.ol :: T1.ls.map EL.ob,x ∈ T1.blocks:=fun x hx => List.mem_cons_of_mem _ hx
 refine ⟨⟨hv.rl.kept (fun k hk => hf.block k (hv.rl.lt k hk) (fun hh => a1 T1.ol (by simp) k hh hk)),fun e he => (hv.rw e he).kept (fun k hk => hf.block k ((hv.rw e he).lt k hk) (fun hh => a1 e.ob (List.mem_cons_of_mem _ (List.mem_map_of_mem he)) k hh hk)),hr,?_⟩,?_⟩
 ·
  show (os' :: T1.ol :: T1.ls.map EL.ob).Pairwise apart
  rw [List.pairwise_cons]
  refine ⟨fun x hx => ?_,a2⟩
  rcases ho with ho|ho
  ·
   rw [ho];exact a1 x hx
  ·
   intro k hk hk'
   have:=ho k hk
   have:=hlt x (hrest x hx) k hk'
   omega
 ·
  intro b hb
  have hb : some b = os' ∨ some b ∈ T1.ol :: T1.ls.map EL.ob:=by simpa [Tv.blocks] using hb
  rcases hb with hb|hb
  ·
   rcases ho with ho|ho
   ·
    rw [hb,ho];exact .inl (by simp [Tv.blocks])
   ·
    exact .inr (ho b hb.symm)
  ·
   exact .inl (hrest _ hb)
theorem St.seens {g : Nat} {w w1 w2 : World} {T T1 : Tv} (h : St g w T w1 T1) (ss' : List IN) (v' : Value) (os' : Option Nat) (hf : Fr (fun k => T1.os = some k) w1 w2) (hr : Row w2 77 6 v' ss'.length (ss'.flatMap sc) os') (ho : os' = T1.os ∨ ∀ k,os' = some k → w1.heap.size ≤ k) :
  St g w T (w2.setCell ⟨g,3,none⟩ v') { T1 with ss:=ss',vs:=v',os:=os' }:=by
 obtain ⟨h1,h2⟩:=seens_tv h.tb.v ss' v' os' hf hr ho
 exact h.box 3 v' (hf.mono (fun k hk => hk ▸ (by simp [Tv.blocks]))) rfl h1 h2
theorem St.seens0 {g : Nat} {w w1 w2 : World} {T T1 : Tv} (h : St g w T w1 T1) (ss' : List IN) (hf : Fr (fun k => T1.os = some k) w1 w2) (hr : Row w2 77 6 T1.vs ss'.length (ss'.flatMap sc) T1.os) : St g w T w2 { T1 with ss:=ss' }:=by
 obtain ⟨h1,h2⟩:=seens_tv h.tb.v ss' T1.vs T1.os hf hr (.inl rfl)
 have hng : ¬ T1.os = some g:=fun e => h.tb.ng _ (by simp [Tv.blocks]) e
 exact h.trans ⟨⟨h1,hf.blk h.tb.bx hng,h.tb.ng⟩,hf.mono (fun k hk => .inr (hk ▸ (by simp [Tv.blocks]))),h2⟩
theorem sc_mid (A B : List IN) (e : IN) : (A ++ e :: B).flatMap sc = A.flatMap sc ++ (sc e ++ B.flatMap sc):=by simp
def six (w : World) (b q : Nat) (s : IN) : World:=(((((w.setCell ⟨b,q,none⟩ (.int .i64 s.f0)).setCell ⟨b,q + 1,none⟩ (.int .i64 s.f1)).setCell ⟨b,q + 2,none⟩ (.int .i64 s.f2.f0)).setCell ⟨b,q + 3,none⟩ (.int .i64 s.f2.f1)).setCell ⟨b,q + 4,none⟩ (.int .i64 s.f2.f2)).setCell ⟨b,q + 5,none⟩ (.int .i64 s.f2.f3)
theorem St.seen {g : Nat} {w w1 : World} {T T1 : Tv} (h : St g w T w1 T1) {b o c k : Nat} (hv : T1.vs = .slice (some ⟨b,o,none⟩) T1.ss.length c) (ho : T1.os = some b) (hk : k < T1.ss.length) (s : IN) : St g w T (six w1 b (o + k * 6) s) { T1 with ss:=T1.ss.set k s }:=by
 have hr:=h.tb.v.rs
 rw [hv] at hr
 have hsp : T1.ss = T1.ss.take k ++ T1.ss[k] :: T1.ss.drop (k + 1):=by rw [← List.drop_eq_getElem_cons hk,List.take_append_drop]
 have hl : ((T1.ss.take k).flatMap sc).length = k * 6:=by rw [sc_length,List.length_take,Nat.min_eq_left (by omega)]
 have hfl : T1.ss.flatMap sc = (T1.ss.take k).flatMap sc ++ (sc T1.ss[k] ++ (T1.ss.drop (k + 1)).flatMap sc):=by
  conv => lhs;rw [hsp]
  rw [sc_mid]
 rw [hfl] at hr
 have r5:=(((((hr.set (k * 6 + 0) (.int .i64 s.f0)).set (k * 6 + 1) (.int .i64 s.f1)).set (k * 6 + 2) (.int .i64 s.f2.f0)).set (k * 6 + 3) (.int .i64 s.f2.f1)).set (k * 6 + 4) (.int .i64 s.f2.f2)).set (k * 6 + 5) (.int .i64 s.f2.f3)
 rw [← hl] at r5
 rw [set_mid _ _ _ 0 _ (by simp [sc]),set_mid _ _ _ 1 _ (by simp [sc]),set_mid _ _ _ 2 _ (by simp [sc]),set_mid _ _ _ 3 _ (by simp [sc]),set_mid _ _ _ 4 _ (by simp [sc]),set_mid _ _ _ 5 _ (by simp [sc]),hl] at r5
 have e : ((((((sc T1.ss[k]).set 0 (.int .i64 s.f0)).set 1 (.int .i64 s.f1)).set 2 (.int .i64 s.f2.f0)).set 3 (.int .i64 s.f2.f1)).set 4 (.int .i64 s.f2.f2)).set 5 (.int .i64 s.f2.f3) = sc s:=rfl
 have e2 : T1.ss.set k s = T1.ss.take k ++ s :: T1.ss.drop (k + 1):=by
  rw [List.set_eq_take_append_cons_drop,if_pos hk]
 rw [e,← sc_mid,← e2] at r5
 simp only [Nat.add_zero,← Nat.add_assoc] at r5
 refine St.seens0 h _ ?_ (by rw [List.length_set,hv];exact r5)
 have h0:=Fr.refl (fun k => T1.os = some k) w1
 exact (((((h0.setCell (p:=⟨b,_,none⟩) (.inl ho) _).setCell (p:=⟨b,_,none⟩) (.inl ho) _).setCell (p:=⟨b,_,none⟩) (.inl ho) _).setCell (p:=⟨b,_,none⟩) (.inl ho) _).setCell (p:=⟨b,_,none⟩) (.inl ho) _).setCell (p:=⟨b,_,none⟩) (.inl ho) _
theorem seen_cells {w : World} {T1 : Tv} (h : TV w T1) {b o c k : Nat} (hv : T1.vs = .slice (some ⟨b,o,none⟩) T1.ss.length c) (hk : k < T1.ss.length) (j : Nat) (hj : j < 6) : w.cell? ⟨b,o + k * 6 + j,none⟩ = some ((sc T1.ss[k])[j]'hj) ∧ w.frozen? ⟨b,o + k * 6 + j,none⟩ = false:=by
 have hr:=h.rs
 rw [hv] at hr
 have hsp : T1.ss = T1.ss.take k ++ T1.ss[k] :: T1.ss.drop (k + 1):=by rw [← List.drop_eq_getElem_cons hk,List.take_append_drop]
 have hl : ((T1.ss.take k).flatMap sc).length = k * 6:=by rw [sc_length,List.length_take,Nat.min_eq_left (by omega)]
 have hfl : T1.ss.flatMap sc = (T1.ss.take k).flatMap sc ++ (sc T1.ss[k] ++ (T1.ss.drop (k + 1)).flatMap sc):=by
  conv => lhs;rw [hsp]
  rw [sc_mid]
 rw [hfl] at hr
 have hc:=hr.cellAt (((T1.ss.take k).flatMap sc).length + j) (by rw [List.length_append,List.length_append];show _ < _ + (6 + _);omega)
 rw [get_mid _ _ _ j (show j < (sc T1.ss[k]).length from hj),hl,← Nat.add_assoc] at hc
 exact hc
theorem seenS_calls (A : Option Addr) (c0 : Nat) (l : List IN) (cl : Int) (w : World) (hr : Kd.C k77 w A l.length l) (hl : l.length ≤ 6) (hb : ∀ s ∈ l,0 ≤ s.f0 ∧ s.f0 ≤ 255) (hb' : 0 ≤ cl ∧ cl ≤ 255) (hs : sortS l) :
  Calls Try.prog 94 #[.slice A l.length c0,.int .i64 cl,.func (.func 95) #[] #[]] w fun e w' => e = .returned (.tuple #[.int .i64 (posS cl l : Nat),.bool (thereS cl l)]) ∧ Below w.heap.size w w':=by
 have h:=searchS_calls A c0 l cl (posS cl l) w hr (by omega) (takeWhile_le _ _) (fun h hh => by rw [rdN_at _ _ hh];have:=hb _ (List.getElem_mem hh);omega) (by omega) (fun h hh => posS_cmp hs cl h hh)
 unfold thereS
 exact h
theorem thereS_lt {c : Int} {l : List IN} (h : thereS c l = true) : posS c l < l.length:=by
 simp only [thereS,Bool.and_eq_true,decide_eq_true_eq] at h
 exact h.1
theorem sc_one (ss : List IN) : ∀ u ∈ ss.flatMap sc,u.oneCell' = true:=by
 intro u hu
 obtain ⟨e,he,hu⟩:=List.mem_flatMap.1 hu
 simp only [sc,List.mem_cons,List.not_mem_nil,or_false] at hu
 rcases hu with rfl|rfl|rfl|rfl|rfl|rfl <;> rfl
theorem sc_oneB (s : IN) : ∀ u ∈ sc s,u.oneCell' = true:=by
 intro u hu
 simp only [sc,List.mem_cons,List.not_mem_nil,or_false] at hu
 rcases hu with rfl|rfl|rfl|rfl|rfl|rfl <;> rfl
theorem St.keep {g : Nat} {W W2 : World} {T1 T2 : Tv} (h : St g W T1 W2 T2) {n : Nat} {o : Obj} (hg : W.heap[n]? = some o) (hn : n ≠ g ∧ ¬ some n ∈ T1.blocks) : W2.heap[n]? = some o ∧ n ≠ g ∧ ¬ some n ∈ T2.blocks:=by
 refine ⟨h.fr.blk hg (fun hh => hh.elim hn.1 hn.2),hn.1,fun hm => ?_⟩
 rcases h.bl n hm with h1|h1
 ·
  exact hn.2 h1
 ·
  have:=(Array.getElem?_eq_some_iff.1 hg).1
  omega
theorem new_nb {g : Nat} {W : World} {T : Tv} (h : TB W g T) : W.heap.size ≠ g ∧ ¬ some W.heap.size ∈ T.blocks:=⟨fun e => by have:=h.lt;omega,fun hm => by have:=h.v.lt _ hm;omega⟩
def snO (s : IN) : Obj:=.cells #[.int .i64 s.f0,.int .i64 s.f1,.int .i64 s.f2.f0,.int .i64 s.f2.f1,.int .i64 s.f2.f2,.int .i64 s.f2.f3] 77 (0,0)
theorem sn_cells {W : World} {n : Nat} {s : IN} (h : W.heap[n]? = some (snO s)) : W.cell? ⟨n,0,none⟩ = some (.int .i64 s.f0) ∧ W.cell? ⟨n,1,none⟩ = some (.int .i64 s.f1) ∧ W.cell? ⟨n,2,none⟩ = some (.int .i64 s.f2.f0) ∧ W.cell? ⟨n,3,none⟩ = some (.int .i64 s.f2.f1) ∧ W.cell? ⟨n,4,none⟩ = some (.int .i64 s.f2.f2) ∧ W.cell? ⟨n,5,none⟩ = some (.int .i64 s.f2.f3) :=
 ⟨(blk_cell h 0).trans rfl,(blk_cell h 1).trans rfl,(blk_cell h 2).trans rfl,(blk_cell h 3).trans rfl,(blk_cell h 4).trans rfl,(blk_cell h 5).trans rfl⟩
theorem an_cells {W : World} {n : Nat} {a : AN} (h : W.heap[n]? = some (anO a)) : W.cell? ⟨n,0,none⟩ = some (.int .i64 a.f0) ∧ W.cell? ⟨n,1,none⟩ = some (.int .i64 a.f1) ∧ W.cell? ⟨n,2,none⟩ = some (.int .i64 a.f2) ∧ W.cell? ⟨n,3,none⟩ = some (.int .i64 a.f3) :=
 ⟨(blk_cell h 0).trans rfl,(blk_cell h 1).trans rfl,(blk_cell h 2).trans rfl,(blk_cell h 3).trans rfl⟩
def goX (T : Tp) (now : Int) : Tp:=⟨max T.tm now,(outX (max T.tm now) T.nx T.ls).2,(outX (max T.tm now) T.nx T.ls).1,T.ss⟩
def reqY (T : Tp) (r : RQ) : Tp × AN :=
 if thereS r.f0 T.ss = true ∧ (rd_T77 T.ss (posS r.f0 T.ss : Nat)).f1 = r.f1 then (T,(rd_T77 T.ss (posS r.f0 T.ss : Nat)).f2)
 else if thereS r.f0 T.ss = true ∧ r.f1 < (rd_T77 T.ss (posS r.f0 T.ss : Nat)).f1 then (T,bareA 7)
 else if thereS r.f0 T.ss = false ∧ T.ss.length = 6 then (T,bareA 6)
 else (⟨T.tm,(doX T.tm T.nx T.ls r).2.1,(doX T.tm T.nx T.ls r).1,if thereS r.f0 T.ss = true then T.ss.set (posS r.f0 T.ss) ⟨r.f0,r.f1,(doX T.tm T.nx T.ls r).2.2⟩ else T.ss.take (posS r.f0 T.ss) ++ ⟨r.f0,r.f1,(doX T.tm T.nx T.ls r).2.2⟩ :: T.ss.drop (posS r.f0 T.ss)⟩,(doX T.tm T.nx T.ls r).2.2)
theorem reqX_eq (T : Tp) (now : Int) (r : RQ) : reqX T now r = reqY (goX T now) r:=rfl
theorem reqY_same {T : Tp} {r : RQ} {k : Nat} {x : IN} (hk : k = posS r.f0 T.ss) (hx : rd_T77 T.ss (k : Nat) = x) (ht : true = thereS r.f0 T.ss) (h : x.f1 = r.f1) : reqY T r = (T,x.f2):=by
 subst hk;subst hx
 exact if_pos ⟨ht.symm,h⟩
theorem reqY_old {T : Tp} {r : RQ} {k : Nat} {x : IN} (hk : k = posS r.f0 T.ss) (hx : rd_T77 T.ss (k : Nat) = x) (ht : true = thereS r.f0 T.ss) (h : ¬ x.f1 = r.f1) (h' : r.f1 < x.f1) : reqY T r = (T,bareA 7):=by
 subst hk;subst hx
 exact (if_neg (fun hh => h hh.2)).trans (if_pos ⟨ht.symm,h'⟩)
theorem reqY_full {T : Tp} {r : RQ} (ht : false = thereS r.f0 T.ss) (h : T.ss.length = 6) : reqY T r = (T,bareA 6):=by
 have hf : ¬ thereS r.f0 T.ss = true:=by rw [← ht];simp
 exact (if_neg (fun hh => hf hh.1)).trans ((if_neg (fun hh => hf hh.1)).trans (if_pos ⟨ht.symm,h⟩))
theorem reqY_set {T : Tp} {r : RQ} {k : Nat} {x : IN} (hk : k = posS r.f0 T.ss) (hx : rd_T77 T.ss (k : Nat) = x) (ht : true = thereS r.f0 T.ss) (h : ¬ x.f1 = r.f1) (h' : ¬ r.f1 < x.f1) {l : List IL} {n : Int} {a : AN} (hd : (l,n,a) = doX T.tm T.nx T.ls r) :
  reqY T r = (⟨T.tm,n,l,T.ss.set k ⟨r.f0,r.f1,a⟩⟩,a):=by
 subst hk;subst hx
 refine (if_neg (fun hh => h hh.2)).trans ((if_neg (fun hh => h' hh.2)).trans ((if_neg (fun hh => by rw [← ht] at hh;simp at hh)).trans ?_))
 rw [if_pos ht.symm,← hd]
theorem reqY_new {T : Tp} {r : RQ} {k : Nat} (hk : k = posS r.f0 T.ss) (ht : false = thereS r.f0 T.ss) (h : ¬ T.ss.length = 6) {l : List IL} {n : Int} {a : AN} (hd : (l,n,a) = doX T.tm T.nx T.ls r) :
  reqY T r = (⟨T.tm,n,l,T.ss.take k ++ ⟨r.f0,r.f1,a⟩ :: T.ss.drop k⟩,a):=by
 have hf : ¬ thereS r.f0 T.ss = true:=by rw [← ht];simp
 subst hk
 refine (if_neg (fun hh => hf hh.1)).trans ((if_neg (fun hh => hf hh.1)).trans ((if_neg (fun hh => h hh.2)).trans ?_))
 rw [if_neg hf,← hd]
end Go.Proofs.Ytjkanhjapddhnaa.Sns
