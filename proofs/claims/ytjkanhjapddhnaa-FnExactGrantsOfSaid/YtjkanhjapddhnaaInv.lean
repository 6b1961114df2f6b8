/- What stays true of a table from request to request. Plain Lean. -/
-- squeezed
import Derived.Test.YtjkanhjapddhnaaPu
namespace Go.Proofs.Ytjkanhjapddhnaa.Inv
open Go Go.Lib Go.Proofs.Ytjkanhjapddhnaa.Tb Go.Proofs.Ytjkanhjapddhnaa.Find Go.Proofs.Ytjkanhjapddhnaa.Gr Go.Proofs.Ytjkanhjapddhnaa.Gon Go.Proofs.Ytjkanhjapddhnaa.Pos Go.Proofs.Ytjkanhjapddhnaa.Pu Go.Proofs.Ytjkanhjapddhnaa.PFnExactRunRequests
set_option linter.unusedVariables false
set_option linter.unusedSimpArgs false
theorem less_total : ∀ a b : List UInt8,Op.bytesLess a b = false → a ≠ b → Op.bytesLess b a = true
 | [],[],_,h => absurd rfl h
 | [],_ :: _,h,_ => by simp [Op.bytesLess] at h
 | _ :: _,[],_,_ => rfl
 | x :: a,y :: b,h,hne => by
  have ih:=less_total a b
  simp only [Op.bytesLess,Bool.or_eq_false_iff,Bool.and_eq_false_iff,decide_eq_false_iff_not,beq_eq_false_iff_ne] at h
  simp only [Op.bytesLess,Bool.or_eq_true,Bool.and_eq_true,decide_eq_true_eq,beq_iff_eq]
  obtain ⟨h1,h2⟩:=h
  by_cases e : x = y
  ·
   subst e
   refine .inr ⟨rfl,ih ?_ (fun e => hne (by rw [e]))⟩
   rcases h2 with h2|h2
   ·
    exact absurd rfl h2
   ·
    exact h2
  ·
   exact .inl (UInt8.lt_of_le_of_ne (UInt8.not_lt.1 h1) (Ne.symm e))
theorem lessB_total {a b : ByteArray} (h : lessB a b = false) (hne : a ≠ b) : lessB b a = true:=by
 refine less_total _ _ h (fun e => hne (ba_ext ?_))
 rwa [Pu.toList_data,Pu.toList_data] at e
def goodL (x : IL) : Prop:=x.f4.length ≤ 4 ∧ -1 ≤ x.f2 ∧ ∀ u ∈ x.f4,0 ≤ u.f0 ∧ u.f0 ≤ 255 ∧ 1 ≤ u.f1 ∧ u.f1 ≤ 1000
structure TGood (N : Int) (T : Tp) : Prop where
 tm : 0 ≤ T.tm ∧ T.tm ≤ 1000000000
 nx : 1 ≤ T.nx ∧ T.nx ≤ N
 l4 : T.ls.length ≤ 4
 s6 : T.ss.length ≤ 6
 sl : sortB T.ls
 sn : sortS T.ss
 cl : ∀ s ∈ T.ss,0 ≤ s.f0 ∧ s.f0 ≤ 255
 gl : ∀ x ∈ T.ls,goodL x
structure RqGood (r : RQ) : Prop where
 c : 0 ≤ r.f0 ∧ r.f0 ≤ 255
 l : 0 ≤ r.f3 ∧ r.f3 ≤ 1000
 a : r.f2 = 1 → 1 ≤ r.f3
theorem sortB_names {l l' : List IL} (h : l'.map (fun x => x.f0) = l.map (fun x => x.f0)) (hs : sortB l) : sortB l':=by
 have h1 : (l.map (fun x => x.f0)).Pairwise (fun a b => lessB a b = true):=List.pairwise_map.2 hs
 rw [← h] at h1
 exact List.pairwise_map.1 h1
theorem frX_good {x : IL} (h : goodL x) (tm nx : Int) : goodL (frX x tm nx).1 ∧ (frX x tm nx).1.f0 = x.f0:=by
 obtain ⟨h1,h2,h3⟩:=h
 unfold frX
 split
 ·
  rename_i he
  exact ⟨⟨by show x.f4.length ≤ 4;exact h1,by show (-1 : Int) ≤ -1;omega,h3⟩,rfl⟩
 ·
  rename_i u r he
  rw [he] at h1 h3
  have hu:=h3 u (by simp)
  exact ⟨⟨by show r.length ≤ 4;simp at h1;omega,by show -1 ≤ u.f0;omega,fun v hv => h3 v (List.mem_cons_of_mem _ hv)⟩,rfl⟩
theorem outX_good {tm : Int} {l : List IL} (h : ∀ x ∈ l,goodL x) (nx : Int) : (∀ x ∈ (outX tm nx l).1,goodL x) ∧ (outX tm nx l).1.map (fun x => x.f0) = l.map (fun x => x.f0):=by
 induction l generalizing nx with
 | nil => exact ⟨fun x hx => absurd hx (by simp [outX]),rfl⟩
 | cons a l ih =>
  have ha:=h a List.mem_cons_self
  have hl:=fun x hx => h x (List.mem_cons_of_mem a hx)
  rw [outX]
  split
  ·
   obtain ⟨g1,g2⟩:=frX_good ha tm nx
   obtain ⟨i1,i2⟩:=ih hl (frX a tm nx).2
   refine ⟨fun x hx => ?_,by simp [i2,g2]⟩
   rcases List.mem_cons.1 hx with rfl|hx
   ·
    exact g1
   ·
    exact i1 x hx
  ·
   obtain ⟨i1,i2⟩:=ih hl nx
   refine ⟨fun x hx => ?_,by simp [i2]⟩
   rcases List.mem_cons.1 hx with rfl|hx
   ·
    exact ha
   ·
    exact i1 x hx
theorem good_goOn {N : Int} {T : Tp} (h : TGood N T) {now : Int} (hn : 0 ≤ now ∧ now ≤ 1000000000) : TGood (N + 4) ⟨max T.tm now,(outX (max T.tm now) T.nx T.ls).2,(outX (max T.tm now) T.nx T.ls).1,T.ss⟩:=by
 obtain ⟨g1,g2⟩:=outX_good (tm:=max T.tm now) h.gl T.nx
 have h1:=outX_next (max T.tm now) T.nx T.ls
 have ht:=h.tm
 have hx:=h.nx
 have h4:=h.l4
 refine ⟨by show 0 ≤ max T.tm now ∧ max T.tm now ≤ 1000000000;omega,by show 1 ≤ (outX (max T.tm now) T.nx T.ls).2 ∧ (outX (max T.tm now) T.nx T.ls).2 ≤ N + 4;omega,by show (outX _ _ _).1.length ≤ 4;rw [outX_length];exact h4,h.s6,sortB_names g2 h.sl,h.sn,h.cl,g1⟩
theorem acq1_good {x : IL} {r : RQ} {tm nx : Int} (h : goodL x) (hr : RqGood r) (ha : 1 ≤ r.f3) : goodL (acq1 tm nx x r).1 ∧ (acq1 tm nx x r).1.f0 = x.f0 ∧ nx ≤ (acq1 tm nx x r).2.1 ∧ (acq1 tm nx x r).2.1 ≤ nx + 1:=by
 obtain ⟨h1,h2,h3⟩:=h
 have hc:=hr.c
 have hl:=hr.l
 unfold acq1
 split
 ·
  exact ⟨⟨h1,h2,h3⟩,rfl,by show nx ≤ nx;omega,by show nx ≤ nx + 1;omega⟩
 ·
  split
  ·
   exact ⟨⟨h1,by show -1 ≤ r.f0;omega,h3⟩,rfl,by show nx ≤ nx + 1;omega,by show nx + 1 ≤ nx + 1;omega⟩
  ·
   split
   ·
    exact ⟨⟨h1,h2,h3⟩,rfl,by show nx ≤ nx;omega,by show nx ≤ nx + 1;omega⟩
   ·
    rename_i h4
    refine ⟨⟨by show (x.f4 ++ [_]).length ≤ 4;rw [List.length_append];simp;omega,h2,fun u hu => ?_⟩,rfl,by show nx ≤ nx;omega,by show nx ≤ nx + 1;omega⟩
    have hu : u ∈ x.f4 ∨ u = ⟨r.f0,r.f3⟩:=by simpa using hu
    rcases hu with hu|rfl
    ·
     exact h3 u hu
    ·
     exact ⟨hc.1,hc.2,ha,hl.2⟩
theorem do1_good {x : IL} {r : RQ} {tm nx : Int} (h : goodL x) (hr : RqGood r) : goodL (do1 tm nx x r).1 ∧ (do1 tm nx x r).1.f0 = x.f0 ∧ nx ≤ (do1 tm nx x r).2.1 ∧ (do1 tm nx x r).2.1 ≤ nx + 1:=by
 obtain ⟨h1,h2,h3⟩:=h
 unfold do1
 split
 ·
  refine ⟨⟨?_,h2,fun u hu => h3 u (List.mem_of_mem_eraseIdx hu)⟩,rfl,by show nx ≤ nx;omega,by show nx ≤ nx + 1;omega⟩
  show (x.f4.eraseIdx _).length ≤ 4
  have:=(List.eraseIdx_sublist x.f4 (waitsF r.f0 x.f4 0).toNat).length_le
  omega
 ·
  split
  ·
   exact ⟨⟨h1,h2,h3⟩,rfl,by show nx ≤ nx;omega,by show nx ≤ nx + 1;omega⟩
  ·
   split
   ·
    exact ⟨⟨h1,h2,h3⟩,rfl,by show nx ≤ nx;omega,by show nx ≤ nx + 1;omega⟩
   ·
    split
    ·
     exact ⟨⟨h1,h2,h3⟩,rfl,by show nx ≤ nx;omega,by show nx ≤ nx + 1;omega⟩
    ·
     obtain ⟨g1,g2⟩:=frX_good ⟨h1,h2,h3⟩ tm nx
     have g3:=frX_next x tm nx
     exact ⟨g1,g2,g3.1,g3.2⟩
theorem put_there {l : List IL} {p : Nat} {y : IL} (hp : p < l.length) (hy : y.f0 = l[p].f0) : (l.take p ++ y :: l.drop (p + 1)).map (fun x => x.f0) = l.map (fun x => x.f0):=by
 have h : l.map (fun x => x.f0) = (l.take p ++ l[p] :: l.drop (p + 1)).map (fun x => x.f0):=by rw [← List.drop_eq_getElem_cons hp,List.take_append_drop]
 rw [h,List.map_append,List.map_append,List.map_cons,List.map_cons,hy]
theorem mem_take_drop {l : List IL} {p q : Nat} {y x : IL} (h : x ∈ l.take p ++ y :: l.drop q) : x = y ∨ x ∈ l:=by
 have h : x ∈ l.take p ∨ x = y ∨ x ∈ l.drop q:=by simpa using h
 rcases h with h|h|h
 ·
  exact .inr (List.mem_of_mem_take h)
 ·
  exact .inl h
 ·
  exact .inr (List.mem_of_mem_drop h)
theorem sort_new {l : List IL} {nm : ByteArray} {y : IL} (hs : sortB l) (hy : y.f0 = nm) (hth : thereB nm l = false) : sortB (l.take (posB nm l) ++ y :: l.drop (posB nm l)):=by
 have hq:=takeWhile_sorted (fun x : IL => lessB x.f0 nm) l (hs.imp (fun {a b} hab hb => lessB_trans hab hb))
 have hsp : (l.take (posB nm l) ++ l.drop (posB nm l)).Pairwise (fun x y : IL => lessB x.f0 y.f0 = true):=by rw [List.take_append_drop];exact hs
 rw [List.pairwise_append] at hsp
 obtain ⟨s1,s2,s3⟩:=hsp
 have ht : ∀ x ∈ l.take (posB nm l),lessB x.f0 y.f0 = true:=fun x hx => by
  obtain ⟨i,hi,rfl⟩:=List.mem_iff_getElem.1 hx
  rw [List.length_take] at hi
  rw [List.getElem_take,hy]
  exact (hq i (by omega)).2 (by show i < posB nm l;omega)
 have hd : ∀ x ∈ l.drop (posB nm l),lessB y.f0 x.f0 = true:=fun x hx => by
  have hlt : posB nm l < l.length:=by
   have:=List.length_pos_of_mem hx
   rw [List.length_drop] at this
   omega
  have h0 : lessB (l[posB nm l]).f0 nm = false:=by
   have h:=hq (posB nm l) hlt
   have h' : ¬ (posB nm l < (l.takeWhile fun x => lessB x.f0 nm).length):=by show ¬ (posB nm l < posB nm l);omega
   have:=mt h.1 h'
   simpa using this
  have h1 : (l[posB nm l]).f0 ≠ nm:=fun e => by
   simp only [thereB,decide_eq_true hlt,Bool.true_and,beq_eq_false_iff_ne] at hth
   exact hth (by rw [rdL_at _ _ hlt,cmpB_zero];exact e)
  have h2:=lessB_total h0 h1
  rw [hy]
  rw [List.drop_eq_getElem_cons hlt] at hx s2
  rcases List.mem_cons.1 hx with rfl|hx
  ·
   exact h2
  ·
   exact lessB_trans h2 ((List.pairwise_cons.1 s2).1 x hx)
 show List.Pairwise _ _
 rw [List.pairwise_append,List.pairwise_cons]
 refine ⟨s1,⟨hd,s2⟩,fun a ha b hb => ?_⟩
 rcases List.mem_cons.1 hb with rfl|hb
 ·
  exact ht a ha
 ·
  exact s3 a ha b hb
theorem good_do {N : Int} {T : Tp} (h : TGood N T) {r : RQ} (hr : RqGood r) : TGood (N + 1) ⟨T.tm,(doX T.tm T.nx T.ls r).2.1,(doX T.tm T.nx T.ls r).1,T.ss⟩:=by
 have hx:=h.nx
 have hsame : TGood (N + 1) ⟨T.tm,T.nx,T.ls,T.ss⟩:=⟨h.tm,by show 1 ≤ T.nx ∧ T.nx ≤ N + 1;omega,h.l4,h.s6,h.sl,h.sn,h.cl,h.gl⟩
 have hthere : ∀ (o : IL × Int × AN) (hlt : posB r.f4 T.ls < T.ls.length),goodL o.1 → o.1.f0 = (T.ls[posB r.f4 T.ls]).f0 → T.nx ≤ o.2.1 → o.2.1 ≤ T.nx + 1 → TGood (N + 1) ⟨T.tm,(putAt T.ls (posB r.f4 T.ls) (posB r.f4 T.ls + 1) o).2.1,(putAt T.ls (posB r.f4 T.ls) (posB r.f4 T.ls + 1) o).1,T.ss⟩:=fun o hlt g1 g2 g3 g4 => by
  refine ⟨h.tm,by show 1 ≤ o.2.1 ∧ o.2.1 ≤ N + 1;omega,?_,h.s6,sortB_names (put_there hlt g2) h.sl,h.sn,h.cl,fun x hx => ?_⟩
  ·
   have:=congrArg List.length (put_there hlt g2)
   rw [List.length_map,List.length_map] at this
   show (T.ls.take _ ++ o.1 :: T.ls.drop _).length ≤ 4
   rw [this]
   exact h.l4
  ·
   rcases mem_take_drop hx with rfl|hx
   ·
    exact g1
   ·
    exact h.gl x hx
 have hlt : thereB r.f4 T.ls = true → posB r.f4 T.ls < T.ls.length:=fun hth => by
  simp only [thereB,Bool.and_eq_true,decide_eq_true_eq] at hth
  exact hth.1
 unfold doX
 split
 ·
  rename_i hk
  have ha:=hr.a hk
  unfold acqX
  split
  ·
   rename_i hth
   obtain ⟨g1,g2,g3,g4⟩:=acq1_good (tm:=T.tm) (nx:=T.nx) (h.gl _ (List.getElem_mem (hlt hth))) hr ha
   rw [rdL_at _ _ (hlt hth)]
   exact hthere _ (hlt hth) g1 g2 g3 g4
  ·
   split
   ·
    exact hsame
   ·
    rename_i hth hl4
    have hthf : thereB r.f4 T.ls = false:=by simpa using hth
    have hn : goodL (newL r.f4):=⟨by show 0 ≤ 4;omega,by show (-1 : Int) ≤ -1;omega,fun u hu => absurd hu (by simp [newL])⟩
    obtain ⟨g1,g2,g3,g4⟩:=acq1_good (tm:=T.tm) (nx:=T.nx) hn hr ha
    have h4:=h.l4
    refine ⟨h.tm,by show 1 ≤ (acq1 _ _ _ _).2.1 ∧ (acq1 _ _ _ _).2.1 ≤ N + 1;omega,?_,h.s6,sort_new h.sl g2 hthf,h.sn,h.cl,fun x hx => ?_⟩
    ·
     show (T.ls.take _ ++ _ :: T.ls.drop _).length ≤ 4
     rw [List.length_append,List.length_cons,List.length_take,List.length_drop]
     omega
    ·
     rcases mem_take_drop hx with rfl|hx
     ·
      exact g1
     ·
      exact h.gl x hx
 ·
  split
  ·
   rename_i hth
   obtain ⟨g1,g2,g3,g4⟩:=do1_good (tm:=T.tm) (nx:=T.nx) (h.gl _ (List.getElem_mem (hlt hth))) hr
   rw [rdL_at _ _ (hlt hth)]
   exact hthere _ (hlt hth) g1 g2 g3 g4
  ·
   exact hsame
theorem seen_set {l : List IN} {p : Nat} {y : IN} (hs : sortS l) (hp : p < l.length) (hy : y.f0 = l[p].f0) : sortS (l.set p y):=by
 have h1 : (l.map (fun x => x.f0)).Pairwise (fun a b => a < b):=List.pairwise_map.2 hs
 have h2 : (l.set p y).map (fun x => x.f0) = l.map (fun x => x.f0):=by
  rw [List.map_set]
  apply List.ext_getElem?
  intro i
  rw [List.getElem?_set]
  split
  ·
   rename_i e
   subst e
   simp [hp,hy]
  ·
   rfl
 rw [← h2] at h1
 exact List.pairwise_map.1 h1
theorem seen_new {l : List IN} {c : Int} {y : IN} (hs : sortS l) (hy : y.f0 = c) (hth : thereS c l = false) : sortS (l.take (posS c l) ++ y :: l.drop (posS c l)):=by
 have hq:=takeWhile_sorted (fun x : IN => decide (x.f0 < c)) l (hs.imp (fun {a b} hab hb => by simp only [decide_eq_true_eq] at hb ⊢;omega))
 have hsp : (l.take (posS c l) ++ l.drop (posS c l)).Pairwise (fun x y : IN => x.f0 < y.f0):=by rw [List.take_append_drop];exact hs
 rw [List.pairwise_append] at hsp
 obtain ⟨s1,s2,s3⟩:=hsp
 have ht : ∀ x ∈ l.take (posS c l),x.f0 < y.f0:=fun x hx => by
  obtain ⟨i,hi,rfl⟩:=List.mem_iff_getElem.1 hx
  rw [List.length_take] at hi
  rw [List.getElem_take,hy]
  have:=(hq i (by omega)).2 (by show i < posS c l;omega)
  simpa using this
 have hd : ∀ x ∈ l.drop (posS c l),y.f0 < x.f0:=fun x hx => by
  have hlt : posS c l < l.length:=by
   have:=List.length_pos_of_mem hx
   rw [List.length_drop] at this
   omega
  have h0 : ¬ (l[posS c l]).f0 < c:=by
   have h:=hq (posS c l) hlt
   have h' : ¬ (posS c l < (l.takeWhile fun x => decide (x.f0 < c)).length):=by show ¬ (posS c l < posS c l);omega
   have:=mt h.1 h'
   simpa using this
  have h1 : (l[posS c l]).f0 ≠ c:=fun e => by
   simp only [thereS,decide_eq_true hlt,Bool.true_and,beq_eq_false_iff_ne] at hth
   exact hth (by rw [rdN_at _ _ hlt];omega)
  rw [hy]
  rw [List.drop_eq_getElem_cons hlt] at hx s2
  rcases List.mem_cons.1 hx with rfl|hx
  ·
   omega
  ·
   have:=(List.pairwise_cons.1 s2).1 x hx
   omega
 show List.Pairwise _ _
 rw [List.pairwise_append,List.pairwise_cons]
 refine ⟨s1,⟨hd,s2⟩,fun a ha b hb => ?_⟩
 rcases List.mem_cons.1 hb with rfl|hb
 ·
  exact ht a ha
 ·
  exact s3 a ha b hb
theorem good_req {N : Int} {T : Tp} (h : TGood N T) {now : Int} (hn : 0 ≤ now ∧ now ≤ 1000000000) {r : RQ} (hr : RqGood r) : TGood (N + 5) (reqX T now r).1:=by
 have h1:=good_goOn h hn
 have h2:=good_do h1 hr
 have hsame : TGood (N + 5) ⟨max T.tm now,(outX (max T.tm now) T.nx T.ls).2,(outX (max T.tm now) T.nx T.ls).1,T.ss⟩:=⟨h1.tm,by have:=h1.nx;simp only at this ⊢;omega,h1.l4,h1.s6,h1.sl,h1.sn,h1.cl,h1.gl⟩
 simp only [reqX]
 split
 ·
  exact hsame
 ·
  split
  ·
   exact hsame
  ·
   split
   ·
    exact hsame
   ·
    rename_i a b c
    have hk : ∀ (ss : List IN),ss.length ≤ 6 → sortS ss → (∀ s ∈ ss,0 ≤ s.f0 ∧ s.f0 ≤ 255) → TGood (N + 5) ⟨max T.tm now,(doX (max T.tm now) (outX (max T.tm now) T.nx T.ls).2 (outX (max T.tm now) T.nx T.ls).1 r).2.1,(doX (max T.tm now) (outX (max T.tm now) T.nx T.ls).2 (outX (max T.tm now) T.nx T.ls).1 r).1,ss⟩:=fun ss g1 g2 g3 =>
     ⟨h2.tm,by have:=h2.nx;simp only at this ⊢;omega,h2.l4,g1,h2.sl,g2,g3,h2.gl⟩
    by_cases hth : thereS r.f0 T.ss = true
    ·
     rw [if_pos hth]
     have hlt : posS r.f0 T.ss < T.ss.length:=by
      simp only [thereS,Bool.and_eq_true,decide_eq_true_eq] at hth
      exact hth.1
     have he : r.f0 = (T.ss[posS r.f0 T.ss]).f0:=by
      simp only [thereS,Bool.and_eq_true,decide_eq_true_eq,beq_iff_eq,rdN_at _ _ hlt] at hth
      omega
     refine hk _ (by rw [List.length_set];exact h.s6) (seen_set h.sn hlt he) (fun s hs => ?_)
     rcases List.mem_or_eq_of_mem_set hs with hs|rfl
     ·
      exact h.cl s hs
     ·
      exact hr.c
    ·
     rw [if_neg hth]
     have hthf : thereS r.f0 T.ss = false:=by simpa using hth
     have hl6 : T.ss.length ≠ 6:=fun e => c ⟨hthf,e⟩
     have hs6:=h.s6
     refine hk _ (by rw [List.length_append,List.length_cons,List.length_take,List.length_drop];have:=takeWhile_le (fun x : IN => decide (x.f0 < r.f0)) T.ss;unfold posS;omega) (seen_new h.sn rfl hthf) (fun s hs => ?_)
     rw [List.mem_append,List.mem_cons] at hs
     rcases hs with hs|rfl|hs
     ·
      exact h.cl s (List.mem_of_mem_take hs)
     ·
      exact hr.c
     ·
      exact h.cl s (List.mem_of_mem_drop hs)
end Go.Proofs.Ytjkanhjapddhnaa.Inv
