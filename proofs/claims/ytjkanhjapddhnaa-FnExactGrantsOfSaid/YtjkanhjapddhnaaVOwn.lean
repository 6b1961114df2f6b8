/- A row of the call's own whose block may bear a mark behind its cells (what a conversion of a text to bytes leaves): the words that the print's own are built on, said of such rows; no condition. -/
-- squeezed
import Derived.Below
import Derived.Deep.Draws
import Derived.Deep.AppendLies
import Derived.Maps.AppendAt
import Derived.OwnWalk
import Derived.Laws.MakeOwn
import Derived.Laws.OwnMore
import Derived.Laws.CopyRow
import Derived.Tactics
import Derived.Lib.ConvBytes
import Derived.Lib.AppendStr
import Derived.Lib.FrozenHead
import Derived.WalkKit
namespace Go.Proofs.YtjkanhjapddhnaaV.PrintWords
open Go.RowKit Go.Lib
set_option linter.unusedVariables false
set_option linter.unusedSimpArgs false
def Free (fz : Nat × Nat) (m : Nat) : Prop:=∀ j,j < m → (decide (fz.1 ≤ j) && decide (j < fz.2)) = false
theorem Free.none (m : Nat) : Free (0,0) m:=fun j _ => by simp
theorem Free.at_ {fz : Nat × Nat} {m : Nat} (h : Free fz m) {w : World} {g : Nat} {cs : Array Value} {e : TypeId} (hg : w.heap[g]? = some (.cells cs e fz)) (j : Nat) (hj : j < m) : w.frozen? ⟨g,j,Option.none⟩ = false:=by
 have:=h j hj
 obtain ⟨lo,hi⟩:=fz
 simpa only [World.frozen?,hg] using this
def ownsRowM (w : World) (base : Nat) (e : TypeId) (size : Nat) (v : Value) (n : Nat) (xs : List Value) : Prop :=
 xs.length = n * size ∧
 ((v = .slice none 0 0 ∧ n = 0) ∨
  ∃ (g cap : Nat) (cur : Array Value × (Nat × Nat)),v = .slice (some ⟨g,0,none⟩) n cap ∧ base ≤ g ∧ w.heap[g]? = some (.cells cur.1 e cur.2) ∧ n ≤ cap ∧ cap ≤ maxLen ∧ (cur.1.size = cap * size ∧ Free cur.2 cur.1.size) ∧ cur.1.toList.take (n * size) = xs)
section
variable {w : World} {base : Nat} {e : TypeId} {size : Nat} {v : Value} {n : Nat} {xs : List Value}
theorem ownsRowM.of (h : w.ownsRow base e size v n xs) : ownsRowM w base e size v n xs:=by
 obtain ⟨h1,h2⟩:=h
 refine ⟨h1,?_⟩
 rcases h2 with h2|⟨g,cap,cur,hv,hb,hg,hn,hc,hs,ht⟩
 ·
  exact .inl h2
 ·
  exact .inr ⟨g,cap,(cur,(0,0)),hv,hb,hg,hn,hc,⟨hs,Free.none _⟩,ht⟩
theorem ownsRowM_lit (w : World) (cs : Array Value) (n : Nat) (hb : base ≤ w.heap.size) (hm : n ≤ maxLen) (hs : cs.size = n * size) :
  ownsRowM (w.alloc (.cells cs e)) base e size (.slice (some ⟨w.heap.size,0,none⟩) n n) n cs.toList:=ownsRowM.of (World.ownsRow_lit w cs n hb hm hs)
theorem ownsRowM.lt (h : ownsRowM w base e size v n xs) : ∀ k,v.ownBlock = some k → base ≤ k ∧ k < w.heap.size:=by
 intro k hk
 rcases h.2 with ⟨rfl,_⟩|⟨g,cap,cur,rfl,hb,hg,_⟩
 ·
  simp [Value.ownBlock] at hk
 ·
  simp [Value.ownBlock] at hk
  subst hk
  exact ⟨hb,(Array.getElem?_eq_some_iff.1 hg).1⟩
theorem ownsRowM.kept {w' : World} {row : Option Nat} (h : ownsRowM w base e size v n xs) (hg : w.grownBy w' row) (hne : v.ownBlock = none ∨ v.ownBlock ≠ row) : ownsRowM w' base e size v n xs:=by
 refine ⟨h.1,?_⟩
 rcases h.2 with hn|⟨g,cap,cur,rfl,hb,hgg,rest⟩
 ·
  exact .inl hn
 ·
  refine .inr ⟨g,cap,cur,rfl,hb,?_,rest⟩
  rw [hg.block g (Array.getElem?_eq_some_iff.1 hgg).1 (by simpa [Value.ownBlock] using hne)]
  exact hgg
theorem ownsRowM.alloc (h : ownsRowM w base e size v n xs) (o : Obj) : ownsRowM (w.alloc o) base e size v n xs :=
 h.kept (World.grownBy_alloc w o none) (by cases hv : v.ownBlock <;> simp)
theorem ownsRowM.drew (h : ownsRowM w base e size v n xs) : ownsRowM w.drew base e size v n xs:=h
theorem ownsRowM.cells (h : ownsRowM w base e size v n xs) {g : Nat} (hg : v.ownBlock = some g) : ∀ j u,xs[j]? = some u → w.cell? ((⟨g,0,none⟩ : Addr).add j) = some u:=by
 intro j u hu
 rcases h.2 with ⟨rfl,_⟩|⟨g',cap,cur,rfl,_,hgg,_,_,_,htake⟩
 ·
  simp [Value.ownBlock] at hg
 ·
  simp [Value.ownBlock] at hg
  subst hg
  have hadd : (⟨g',0,none⟩ : Addr).add j = ⟨g',j,none⟩:=by unfold Addr.add;split <;> simp_all
  rw [hadd,cell_of_row w g' j cur.1 e cur.2 hgg]
  rw [← htake,List.getElem?_take] at hu
  split at hu
  ·
   simpa using hu
  ·
   cases hu
theorem ownsRowM.form (h : ownsRowM w base e size v n xs) (hn : 0 < n) : ∃ g cap,v = .slice (some ⟨g,0,none⟩) n cap ∧ base ≤ g ∧ g < w.heap.size:=by
 rcases h.2 with ⟨_,h0⟩|⟨g,cap,cur,hv,hb,hg,_⟩
 ·
  omega
 ·
  exact ⟨g,cap,hv,hb,(Array.getElem?_eq_some_iff.1 hg).1⟩
variable {g cap : Nat}
theorem ownsRowM.cellAt (h : ownsRowM w base e size (.slice (some ⟨g,0,none⟩) n cap) n xs) (j : Nat) (hj : j < n * size) : w.cell? ⟨g,j,none⟩ = xs[j]?:=by
 rcases h.2 with ⟨h',_⟩|⟨g',cap',cur,h',_,hg,_,_,_,htake⟩
 ·
  simp at h'
 ·
  simp only [Value.slice.injEq,Option.some.injEq,Addr.mk.injEq,and_true,true_and] at h'
  obtain ⟨rfl,rfl⟩:=h'
  rw [cell_of_row w g j cur.1 e cur.2 hg,← htake,List.getElem?_take,if_pos hj]
  simp
theorem ownsRowM.frozenAt (h : ownsRowM w base e size (.slice (some ⟨g,0,none⟩) n cap) n xs) (j : Nat) (hj : j < n * size) : w.frozen? ⟨g,j,none⟩ = false:=by
 rcases h.2 with ⟨h',_⟩|⟨g',cap',cur,h',_,hg,hnc,_,⟨hs,hf⟩,_⟩
 ·
  simp at h'
 ·
  simp only [Value.slice.injEq,Option.some.injEq,Addr.mk.injEq,and_true,true_and] at h'
  obtain ⟨rfl,rfl⟩:=h'
  exact hf.at_ hg j (by rw [hs];exact Nat.lt_of_lt_of_le hj (Nat.mul_le_mul_right _ hnc))
theorem setCell_sameM (w : World) (g j : Nat) (cur : Array Value) (e : TypeId) (fz : Nat × Nat) (u : Value) (hg : w.heap[g]? = some (.cells cur e fz)) : (w.setCell ⟨g,j,none⟩ u).heap[g]? = some (.cells (cur.setIfInBounds j u) e fz):=by
 simp [World.setCell,Array.getElem?_modify,hg]
theorem ownsRowM.stored (h : ownsRowM w base e size (.slice (some ⟨g,0,none⟩) n cap) n xs) (j : Nat) (u : Value) :
  ownsRowM (w.setCell ⟨g,j,none⟩ u) base e size (.slice (some ⟨g,0,none⟩) n cap) n (xs.set j u) ∧ w.grownBy (w.setCell ⟨g,j,none⟩ u) (some g):=by
 rcases h.2 with ⟨h',_⟩|⟨g',cap',cur,h',hb,hg,hnc,hcm,hcs,htake⟩
 ·
  simp at h'
 ·
  simp only [Value.slice.injEq,Option.some.injEq,Addr.mk.injEq,and_true,true_and] at h'
  obtain ⟨rfl,rfl⟩:=h'
  refine ⟨⟨by simpa using h.1,.inr ⟨g,cap,(cur.1.setIfInBounds j u,cur.2),rfl,hb,setCell_sameM w g j cur.1 e cur.2 u hg,hnc,hcm,⟨by simpa using hcs.1,by simpa using hcs.2⟩,?_⟩⟩,
   ⟨rfl,rfl,rfl,by simp,fun k _ hk => heap_setCell_other w ⟨g,j,none⟩ k u (fun e => hk (by simp [e]))⟩⟩
  rw [Array.toList_setIfInBounds,← htake,List.take_set]
end
theorem run_storeCells_atM (P : Program) (g o : Nat) (t : TypeId) (fz : Nat × Nat) (m : Nat) (hfz : Free fz m) : ∀ (vs : List Value) (i : Nat) (cur : Array Value) (w : World),w.heap[g]? = some (.cells cur t fz) → cur.size = m → o + i + vs.length ≤ cur.size → (∀ v ∈ vs,v.oneCell' = true) →
  (storeCells ⟨g,o,none⟩ vs i).run P w = .ok () (w.setRow g (cur.toList.take (o + i) ++ vs ++ cur.toList.drop (o + i + vs.length)).toArray)
 | [],i,cur,w,hg,_,_,_ => by
  simp only [storeCells,List.append_nil,List.length_nil,Nat.add_zero,List.take_append_drop,Array.toArray_toList]
  rw [setRow_self w g cur t fz hg]
  rfl
 | v :: rest,i,cur,w,hg,hm,hl,h1 => by
  have hi : o + i < cur.size:=by simp at hl;omega
  have hadd : (⟨g,o,none⟩ : Addr).add i = ⟨g,o + i,none⟩:=by unfold Addr.add;split <;> simp_all
  have hcell : w.cell? ⟨g,o + i,none⟩ = some cur[o + i]:=by simp [World.cell?,hg,hi]
  have hfro : w.frozen? ⟨g,o + i,none⟩ = false:=hfz.at_ hg (o + i) (by omega)
  have hst : (store ((⟨g,o,none⟩ : Addr).add i) v).run P w = .ok () (w.setRow g (cur.setIfInBounds (o + i) v)):=by
   rw [hadd,run_store P w _ v _ (h1 v (by simp)),hcell]
   simp [hfro,setCell_eq_setRow w g (o + i) cur t fz v hg]
  have ih:=run_storeCells_atM P g o t fz m hfz rest (i + 1) (cur.setIfInBounds (o + i) v) (w.setRow g (cur.setIfInBounds (o + i) v)) (setRow_heap w g cur _ t _ hg) (by simpa using hm) (by simp at hl ⊢;omega) (fun x hx => h1 x (by simp [hx]))
  simp only [storeCells,Sem.run_bind,hst,Result.andThen_ok,ih,setRow_setRow]
  congr 3
  have e:=list_seg_step cur.toList (o + i) v rest (by simp at hl ⊢;omega)
  simpa [Array.toList_setIfInBounds,Nat.add_assoc] using e
section
variable {P : Program} (w : World)
theorem run_append_roomM (t ty e : TypeId) (i : TypeInfo) (ht : P.underlying t = some (.slice e)) (hi : P.info? e = some i)
  (g sLen sCap : Nat) (cur : Array Value) (fz : Nat × Nat) (hg : w.heap[g]? = some (.cells cur e fz)) (hf : Free fz cur.size)
  (a : Addr) (m c : Nat) (news : List Value) (hl : news.length = m * i.size) (hnews : ∀ j u,news[j]? = some u → w.cell? (a.add j) = some u) (h1 : ∀ u ∈ news,u.oneCell' = true)
  (hroom : sLen + m ≤ sCap) (hfit : sLen * i.size + news.length ≤ cur.size) :
  (Builtin.append_ #[t,t] ty #[.slice (some ⟨g,0,none⟩) sLen sCap,.slice (some a) m c]).run P w =
   .ok (.slice (some ⟨g,0,none⟩) (sLen + m) sCap) (w.setRow g (cur.toList.take (sLen * i.size) ++ news ++ cur.toList.drop (sLen * i.size + news.length)).toArray):=by
 have hff:=run_firstCells_some (P:=P) w i.size m a m c news hl hnews
 have hst:=run_storeCells_atM P g (sLen * i.size) e fz _ hf news 0 cur w hg rfl (by simpa using hfit) h1
 simp only [Nat.add_zero] at hst
 simp [Builtin.append_,run_underlying ht,sizeOf,typeInfo,hi,Builtin.lenOf,hroom,hff,Addr.add_lit,hst]
theorem run_append_ownM_at (base : Nat) (t ty e : TypeId) (i : TypeInfo) (z : Value) (size bytes : Nat) (ht : P.underlying t = some (.slice e)) (hi : P.info? e = some i) (hz : i.zero = some z)
  (hsize : i.size = size) (hby : i.bytes = bytes) (hzs : z.cells.size = size) (hsz : 0 < size)
  (v : Value) (n : Nat) (xs : List Value) (hown : ownsRowM w base e size v n xs)
  (a : Addr) (m c : Nat) (news : List Value) (hl : news.length = m * size) (hnews : ∀ j u,news[j]? = some u → w.cell? (a.add j) = some u) (h1 : ∀ u ∈ news,u.oneCell' = true)
  (h63 : n + m ≤ maxLen) (hbytes : (n + m) * bytes ≤ 140737488355328) (hbase : base ≤ w.heap.size) :
  ∃ v' w',(Builtin.append_ #[t,t] ty #[v,.slice (some a) m c]).run P w = .ok v' w' ∧ ownsRowM w' base e size v' (n + m) (xs ++ news) ∧ w.grownBy w' v.ownBlock ∧
   (v' = .slice none 0 0 ↔ v = .slice none 0 0 ∧ m = 0) ∧ (v'.ownBlock = v.ownBlock ∨ v'.ownBlock = some w.heap.size):=by
 rcases hown.2 with ⟨rfl,rfl⟩|⟨g,cap,cur,rfl,hbg,hg,hnc,hcm,⟨hcs,hcf⟩,htake⟩
 ·
  have ho : w.ownsRow base e size (.slice none 0 0) 0 xs:=⟨hown.1,.inl ⟨rfl,rfl⟩⟩
  obtain ⟨v',w',hr,h2,h3,h4,h5⟩:=run_append_own_at (P:=P) w base t ty e i z size bytes ht hi hz hsize hby hzs hsz _ 0 xs ho a m c news hl hnews h1 h63 hbytes hbase
  exact ⟨v',w',hr,ownsRowM.of h2,h3,h4,h5⟩
 ·
  subst hsize
  subst hby
  have hsmall : n + m ≤ 9223372036854775807:=by simp only [maxLen] at h63;omega
  have hlen : (xs ++ news).length = (n + m) * i.size:=by rw [List.length_append,hown.1,hl,Nat.add_mul]
  by_cases hroom : n + m ≤ cap
  ·
   have hfit : n * i.size + news.length ≤ cur.1.size:=by rw [hl,hcs,← Nat.add_mul];exact Nat.mul_le_mul_right _ hroom
   have hr:=run_append_roomM (P:=P) w t ty e i ht hi g n cap cur.1 cur.2 hg hcf a m c news hl hnews h1 hroom hfit
   have hsz2 : (cur.1.toList.take (n * i.size) ++ news ++ cur.1.toList.drop (n * i.size + news.length)).toArray.size = cur.1.size:=by
    simp only [List.size_toArray,List.length_append,List.length_take,List.length_drop,Array.length_toList]
    omega
   refine ⟨_,_,hr,⟨hlen,.inr ⟨g,cap,(_,cur.2),rfl,hbg,setRow_heap w g cur.1 _ e _ hg,hroom,hcm,⟨?_,?_⟩,?_⟩⟩,⟨rfl,rfl,rfl,by simp,fun k _ hk => setRow_other w g k _ (fun e => hk (by simp [Value.ownBlock,e]))⟩,by simp,Or.inl rfl⟩
   ·
    exact hsz2.trans hcs
   ·
    rw [hsz2];exact hcf
   ·
    show List.take ((n + m) * i.size) (cur.1.toList.take (n * i.size) ++ news ++ cur.1.toList.drop (n * i.size + news.length)) = _
    rw [htake,← hlen]
    exact List.take_left
  ·
   have holds : ∀ j u,xs[j]? = some u → w.cell? ((⟨g,0,none⟩ : Addr).add j) = some u:=hown.cells (g:=g) rfl
   have hr:=run_append_grow (P:=P) w t ty e i z ht hi hz ⟨g,0,none⟩ n cap xs hown.1 holds a m c news hl hnews (by omega) (by omega) (growslice_fits (by omega) hbytes)
   have hge:=grownCap_ge w (n + m) cap e
   have hcm2 : grownCap w (n + m) cap e ≤ maxLen:=grownCap_le_maxLen w (n + m) cap e h63
   refine ⟨_,_,hr,ownsRowM.of ⟨hlen,.inr ⟨w.heap.size,_,_,rfl,hbase,heap_alloc_new w.drew _,hge,hcm2,?_,?_⟩⟩,⟨rfl,rfl,rfl,by simp,fun k hk _ => Below.heap_alloc w.drew _ k hk⟩,by simp,Or.inr rfl⟩
   ·
    simp only [Array.size_append,List.size_toArray,size_zeroCells,hzs,hown.1,hl,← Nat.add_mul]
    congr 1
    omega
   ·
    simp only [Array.toList_append,List.append_assoc]
    rw [← List.append_assoc,← hlen]
    exact List.take_left
theorem wpList_append_ownM_at {ops : Array Oper} {rest : List Oper} {o : Oper} {a : Act} {Q : Exit → Act → World → Prop} (hgd : o.guard = none) (s x : Operand) (t : TypeId)
  (ho : o.op = .call { callee:=.builtin .append,args:=#[s,x],argTypes:=#[t,t] })
  (base : Nat) (e : TypeId) (i : TypeInfo) (z : Value) (size bytes : Nat) (ht : P.underlying t = some (.slice e)) (hi : P.info? e = some i) (hz : i.zero = some z)
  (hsize : i.size = size) (hby : i.bytes = bytes) (hzs : z.cells.size = size) (hsz : 0 < size)
  (v : Value) (n : Nat) (xs : List Value) (hs : a.eval s = v) (hown : ownsRowM w base e size v n xs)
  (ad : Addr) (m c : Nat) (news : List Value) (hx : a.eval x = .slice (some ad) m c) (hl : news.length = m * size) (hnews : ∀ j u,news[j]? = some u → w.cell? (ad.add j) = some u) (h1 : ∀ u ∈ news,u.oneCell' = true)
  (h63 : n + m ≤ maxLen) (hbytes : (n + m) * bytes ≤ 140737488355328) (hbase : base ≤ w.heap.size)
  (h : ∀ v' w',ownsRowM w' base e size v' (n + m) (xs ++ news) → w.grownBy w' v.ownBlock → (v' = .slice none 0 0 ↔ v = .slice none 0 0 ∧ m = 0) → (v'.ownBlock = v.ownBlock ∨ v'.ownBlock = some w.heap.size) → wpList P ops Q rest (a.put o.dst v') w') :
  wpList P ops Q (o :: rest) a w:=by
 refine wpList_plain hgd fun K hK => ?_
 obtain ⟨v',w',hr,h2,h3,h4,h5⟩:=run_append_ownM_at (P:=P) w base t o.type e i z size bytes ht hi hz hsize hby hzs hsz v n xs hown ad m c news hl hnews h1 h63 hbytes hbase
 unfold Oper.wp execOp
 simp only [ho,resolve,invoke,builtin,Sem.run_bind,Sem.run_pure,Result.andThen_ok,List.map_toArray,List.map_cons,List.map_nil,hs,hx,hr]
 exact hK _ _ (h v' w' h2 h3 h4 h5)
end
end Go.Proofs.YtjkanhjapddhnaaV.PrintWords
