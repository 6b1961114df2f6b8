/- The specification's l05Own at tables in memory: out of its printed contract. No condition. -/
-- squeezed
import Derived.Test.YtjkanhjapddhnaaCtx
import Derived.Test.YtjkanhjapddhnaaPFnExactRunRequestsx4
namespace Go.Proofs.Ytjkanhjapddhnaa.SOwn
open Go.RowKit Go.Lib Go.Proofs.YtjkanhjapddhnaaV.PrintWords Go.Proofs.YtjkanhjapddhnaaV.PrintMore Go.Proofs.YtjkanhjapddhnaaV.PrintLast Go.Proofs.Ytjkanhjapddhnaa.Own Go.Proofs.Ytjkanhjapddhnaa.MarkT Go.Proofs.Ytjkanhjapddhnaa.Tb Go.Proofs.Ytjkanhjapddhnaa.Pu Go.Proofs.Ytjkanhjapddhnaa.Ctx Go.Proofs.Ytjkanhjapddhnaa.PFnExactRunRequests
set_option linter.unusedVariables false
set_option linter.unusedSimpArgs false
theorem row_of {w : World} {base e sz : Nat} {v : Value} {n : Nat} {xs : List Value} (h : ownsRowM w base e sz v n xs) : ∃ ob,Row w e sz v n xs ob ∧ v.ownBlock = ob ∧ ∀ b,ob = some b → base ≤ b ∧ ∃ cs fz,w.heap[b]? = some (.cells cs e fz):=by
 obtain ⟨h1,⟨hv,hn⟩|⟨g,cap,cur,hv,hb,hg,hn,hc,⟨hs,hf⟩,ht⟩⟩:=h
 ·
  subst hv;subst hn
  exact ⟨none,⟨none,0,rfl,Nat.le_refl _,by omega,h1,.inl ⟨rfl,rfl⟩⟩,rfl,fun b hb => by cases hb⟩
 ·
  subst hv
  refine ⟨some g,⟨_,cap,rfl,hn,hc,h1,.inr ⟨g,0,cur.1,cur.2,rfl,rfl,hg,hf,by omega,by rw [List.drop_zero];exact ht⟩⟩,rfl,fun b hb' => ?_⟩
  injection hb' with hb'
  subst hb'
  exact ⟨hb,_,_,hg⟩
theorem reps_split {α β : Type} {R : α → List Value → Prop} {sz : Nat} {f : β → List Value} {P : α → β → Prop} (hR : ∀ p c,R p c → ∃ e,c = f e ∧ P p e) : ∀ (ps : List α) (cs : List Value),Reps R sz ps cs → ∃ els : List β,els.length = ps.length ∧ cs = els.flatMap f ∧ ∀ (j : Nat) (p : α),ps[j]? = some p → ∃ e,els[j]? = some e ∧ P p e
 | [],cs,h => ⟨[],rfl,by have:=h.1;rw [List.length_nil,Nat.zero_mul] at this;exact List.eq_nil_of_length_eq_zero this,fun j p hj => by simp at hj⟩
 | p :: ps,cs,h => by
  have hl:=h.1
  rw [List.length_cons,Nat.succ_mul] at hl
  obtain ⟨e,he,hp⟩:=hR p _ (h.2 0 p rfl)
  rw [Nat.zero_mul,List.drop_zero] at he
  have ht : Reps R sz ps (cs.drop sz):=⟨by rw [List.length_drop,hl];omega,fun j q hq => by
   have:=h.2 (j + 1) q (by simpa using hq)
   rw [List.drop_drop,show sz + j * sz = (j + 1) * sz by rw [Nat.succ_mul,Nat.add_comm]]
   exact this⟩
  obtain ⟨els,h1,h2,h3⟩:=reps_split hR ps _ ht
  refine ⟨e :: els,by simp [h1],by rw [List.flatMap_cons,← he,← h2,List.take_append_drop],fun j q hq => ?_⟩
  cases j with
  | zero => simp at hq;subst hq;exact ⟨e,rfl,hp⟩
  | succ j => simpa using h3 j q (by simpa using hq)
theorem reps_flat {α : Type} {R : α → List Value → Prop} {sz : Nat} {f : α → List Value} (hR : ∀ p c,R p c → c = f p) {ps : List α} {cs : List Value} (h : Reps R sz ps cs) : cs = ps.flatMap f:=by
 obtain ⟨els,h1,h2,h3⟩:=reps_split (f:=f) (P:=fun p e => e = p) (fun p c hp => ⟨p,hR p c hp,rfl⟩) ps cs h
 have : els = ps:=List.ext_getElem? (fun j => by
  cases hj : ps[j]? with
  | none => rw [List.getElem?_eq_none_iff] at hj ⊢;omega
  | some p =>
   obtain ⟨e,he,rfl⟩:=h3 j p hj
   exact he)
 rw [h2,this]
def Of (w : World) (e base : Nat) (ob : Option Nat) : Prop:=∀ b,ob = some b → base ≤ b ∧ ∃ cs fz,w.heap[b]? = some (.cells cs e fz)
theorem Of.apart {w : World} {e e' base base' : Nat} {x y : Option Nat} (hx : Of w e base x) (hy : Of w e' base' y) (hne : e ≠ e') : apart x y:=by
 intro b hb hy'
 obtain ⟨_,cs,fz,h⟩:=hx b hb
 obtain ⟨_,cs',fz',h'⟩:=hy b hy'
 rw [h] at h'
 injection h' with h'
 injection h' with _ h' _
 exact hne h'
theorem flatR {α : Type} {d : Kd α} {e : Nat} {w : World} {base : Nat} {ok : Nat → Prop} {v : Value} {l : List α} {f : α → List Value} (hf : ∀ ok x c,d.M w base ok x c → c = f x) (h : d.R e w base ok v l) : ∃ ob,Row w e d.sz v l.length (l.flatMap f) ob ∧ v.ownBlock = ob ∧ Of w e base ob ∧ ∀ b,v.ownBlock = some b → ok b:=by
 obtain ⟨h0,inner,ho,hr⟩:=h
 obtain ⟨ob,hrow,hob,hof⟩:=row_of ho
 rw [reps_flat (hf _) hr] at hrow
 exact ⟨ob,hrow,hob,hof,h0⟩
theorem tv_of {w : World} {base : Nat} {ok ok' : Nat → Prop} {t n : Int} {v2 v3 : Value} {l : List IL} {s : List IN} (h2 : Kd.S k70 70 w base ok v2 l) (h3 : Kd.R k77 77 w base ok' v3 s) :
  ∃ T : Tv,T.tm = t ∧ T.nx = n ∧ T.vl = v2 ∧ T.vs = v3 ∧ Tv.pu T = ⟨t,n,l,s⟩ ∧ TV w T ∧ ∀ b,some b ∈ T.blocks → base ≤ b:=by
 obtain ⟨os,hrs,-,hofs,-⟩:=flatR (f:=sc) (fun _ x c hx => k77_openM hx) h3
 obtain ⟨f,h0,inner,ho,hr⟩:=h2
 rw [List.length_zipIdx] at ho
 obtain ⟨ol,hrow,hob,hof⟩:=row_of ho
 obtain ⟨els,e1,e2,e3⟩:=reps_split (f:=EL.cs) (P:=fun (p : IL × Nat) e => e.x = p.1 ∧ WR w e ∧ Of w 73 base e.ob ∧ ∀ b,e.ob = some b → f b = p.2) (by
  intro p c hp
  obtain ⟨v4,rfl,hw⟩:=k70_openM hp
  obtain ⟨ob',hrow',hob',hof',hok'⟩:=flatR (f:=wc) (fun _ x c hx => k73_openM hx) hw
  exact ⟨⟨p.1,v4,ob'⟩,rfl,rfl,hrow',hof',fun b hb => (hok' b (hob'.trans hb)).2⟩) _ _ hr
 rw [List.length_zipIdx] at e1
 have hmem : ∀ (j : Nat) (hj : j < els.length),els[j].x = l[j]'(by omega) ∧ WR w els[j] ∧ Of w 73 base els[j].ob ∧ ∀ b,els[j].ob = some b → f b = j:=fun j hj => by
  obtain ⟨e,he,hp⟩:=e3 j (l[j]'(by omega),j) (by rw [List.getElem?_zipIdx,List.getElem?_eq_getElem (by omega)];simp)
  rw [List.getElem?_eq_getElem hj] at he
  injection he with he
  rw [he]
  exact hp
 have hx : els.map EL.x = l:=List.ext_getElem (by rw [List.length_map,e1]) (fun j hj hj' => by rw [List.getElem_map];exact (hmem j (by simpa using hj)).1)
 refine ⟨⟨t,n,v2,v3,els,s,ol,os⟩,rfl,rfl,rfl,rfl,by show (⟨t,n,els.map EL.x,s⟩ : Tp) = _;rw [hx],⟨by rw [e1,← e2];exact hrow,fun e he => ?_,hrs,?_⟩,fun b hb => ?_⟩
 ·
  obtain ⟨j,hj,rfl⟩:=List.mem_iff_getElem.1 he
  exact (hmem j hj).2.1
 ·
  show (os :: ol :: els.map EL.ob).Pairwise apart
  rw [List.pairwise_cons,List.pairwise_cons]
  refine ⟨fun x hx => ?_,fun x hx => ?_,?_⟩
  ·
   simp only [List.mem_cons,List.mem_map] at hx
   rcases hx with rfl|⟨e,he,rfl⟩
   ·
    exact Of.apart hofs hof (by decide)
   ·
    obtain ⟨j,hj,rfl⟩:=List.mem_iff_getElem.1 he
    exact Of.apart hofs (hmem j hj).2.2.1 (by decide)
  ·
   simp only [List.mem_map] at hx
   obtain ⟨e,he,rfl⟩:=hx
   obtain ⟨j,hj,rfl⟩:=List.mem_iff_getElem.1 he
   exact Of.apart hof (hmem j hj).2.2.1 (by decide)
  ·
   rw [List.pairwise_iff_getElem]
   intro i j hi hj hij
   simp only [List.length_map] at hi hj
   rw [List.getElem_map,List.getElem_map]
   intro b hb hb'
   have q1:=(hmem i hi).2.2.2 b hb
   have q2:=(hmem j hj).2.2.2 b hb'
   omega
 ·
  simp only [Tv.blocks,List.mem_cons,List.mem_map] at hb
  rcases hb with hb|hb|⟨e,he,hb⟩
  ·
   exact (hofs b hb.symm).1
  ·
   exact (hof b hb.symm).1
  ·
   obtain ⟨j,hj,rfl⟩:=List.mem_iff_getElem.1 he
   exact ((hmem j hj).2.2.1 b hb).1
theorem own_l0 (l : List IL) (s : List IN) (t n : Int) (hl : l.length ≤ 1000) (hw : ∀ x ∈ l,x.f4.length ≤ 1000) : ∀ (d i k : Nat),l.length = i + d → d < k → spec_l05Own.l0 k (i : Int) t n l s t n (l.take i) s = some (t,n,l,s):=by
 intro d
 induction d with
 | zero =>
  intro i k hd hk
  obtain ⟨k,rfl⟩ : ∃ m,k = m + 1:=⟨k - 1,by omega⟩
  rw [spec_l05Own.l0,if_neg (by omega),List.take_of_length_le (by omega)]
 | succ d ih =>
  intro i k hd hk
  obtain ⟨k,rfl⟩ : ∃ m,k = m + 1:=⟨k - 1,by omega⟩
  have hi : i < l.length:=by omega
  have hx:=hw _ (List.getElem_mem hi)
  rw [spec_l05Own.l0,if_pos (by omega),if_pos (by omega),Option.bind_some,rdL_at l i hi,if_pos (by simp;omega),if_pos (by rw [List.length_take];omega)]
  have e : l.take i ++ [(⟨l[i].f0,l[i].f1,l[i].f2,l[i].f3,[] ++ l[i].f4⟩ : IL)] = l.take (i + 1):=by rw [List.take_succ_eq_append_getElem hi,List.nil_append]
  rw [e,show wrap64 ((i : Int) + 1) = ((i + 1 : Nat) : Int) by unfold wrap64;omega]
  exact ih (i + 1) k (by omega) (by omega)
theorem own_f (l : List IL) (s : List IN) (t n : Int) (hl : l.length ≤ 1000) (hs : s.length ≤ 1000) (hw : ∀ x ∈ l,x.f4.length ≤ 1000) : spec_l05Own.f (l.length + 1) t n l s = some (t,n,l,s):=by
 unfold spec_l05Own.f
 rw [Option.bind_some,if_pos (by simp;omega)]
 exact own_l0 l s t n hl hw l.length 0 _ (by omega) (by omega)
def tvV (T : Tv) : Value:=.agg #[.int .i64 T.tm,.int .i64 T.nx,T.vl,T.vs]
theorem sown_calls (w : World) (T : Tv) (hT : TV w T) (hl : T.ls.length ≤ 1000) (hs : T.ss.length ≤ 1000) (hw : ∀ e ∈ T.ls,e.x.f4.length ≤ 1000) :
  Calls Try.prog 65 #[tvV T] w fun e w' => ∃ T' : Tv,e = .returned (tvV T') ∧ Tv.pu T' = Tv.pu T ∧ TV w' T' ∧ (∀ b,some b ∈ T'.blocks → w.heap.size ≤ b) ∧ Below w.heap.size w w':=by
 obtain ⟨A,c,hv,hlc,hk⟩:=hT.locks
 obtain ⟨A',c',hv',hlc',hk'⟩:=hT.seens
 have hlen : (T.ls.map EL.x).length = T.ls.length:=List.length_map _
 unfold tvV
 rw [hv,hv',← hlen]
 rw [← hlen] at hlc hk hl
 refine (spec_l05Own.calls _ T.tm T.nx A c (T.ls.map EL.x) A' c' T.ss _ _ _ _ w hk hlc hk' hlc' (own_f (T.ls.map EL.x) T.ss T.tm T.nx hl hs (fun x hx => by
  obtain ⟨e,he,rfl⟩:=List.mem_map.1 hx
  exact hw e he))).mono ?_
 rintro _ w1 ⟨v2,v3,rfl,h2,h3,hb⟩
 obtain ⟨T',e1,e2,e3,e4,e5,e6,e7⟩:=tv_of (t:=T.tm) (n:=T.nx) h2 h3
 exact ⟨T',by rw [e1,e2,e3,e4],e5,e6,e7,hb⟩
end Go.Proofs.Ytjkanhjapddhnaa.SOwn
