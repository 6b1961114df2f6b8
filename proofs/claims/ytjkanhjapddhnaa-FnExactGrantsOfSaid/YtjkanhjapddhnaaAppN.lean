/- The specification's l05Find, l05Tell, l05Waits at tables in memory: out of their printed contracts. No condition. -/
-- squeezed
import Derived.Test.YtjkanhjapddhnaaSOwn
import Derived.Test.YtjkanhjapddhnaaInv
import Derived.Test.YtjkanhjapddhnaaPFnExactRunRequestsx5
import Derived.Test.YtjkanhjapddhnaaInsR
import Derived.Deep.Upon
namespace Go.Proofs.Ytjkanhjapddhnaa.SLib
open Go.RowKit Go.Lib Go.Proofs.YtjkanhjapddhnaaV.PrintWords Go.Proofs.YtjkanhjapddhnaaV.PrintMore Go.Proofs.YtjkanhjapddhnaaV.PrintLast Go.Proofs.Ytjkanhjapddhnaa.Own Go.Proofs.Ytjkanhjapddhnaa.MarkT Go.Proofs.Ytjkanhjapddhnaa.Tb Go.Proofs.Ytjkanhjapddhnaa.Find Go.Proofs.Ytjkanhjapddhnaa.Pos Go.Proofs.Ytjkanhjapddhnaa.Pu Go.Proofs.Ytjkanhjapddhnaa.Ctx Go.Proofs.Ytjkanhjapddhnaa.Inv Go.Proofs.Ytjkanhjapddhnaa.SOwn Go.Proofs.Ytjkanhjapddhnaa.PFnExactRunRequests
set_option linter.unusedVariables false
set_option linter.unusedSimpArgs false
theorem toList_eq {a b : ByteArray} : a.toList = b.toList ↔ a = b:=by
 constructor
 ·
  intro h
  rw [Pu.toList_data,Pu.toList_data] at h
  exact ba_ext h
 ·
  intro h;rw [h]
theorem name_pos {l : List IL} (hs : sortB l) {nm : ByteArray} {j : Nat} (hj : j < l.length) (h : l[j].f0 = nm) : j = posB nm l:=by
 have h1:=posB_cmp hs nm j hj
 rw [cmpB_lt,rdL_at l j hj,h,lessB_irrefl] at h1
 have h2 : ¬ j < posB nm l:=fun e => by have:=h1.2 e;simp at this
 by_cases h3 : posB nm l < j
 ·
  have h4 : posB nm l < l.length:=by omega
  have h5:=List.pairwise_iff_getElem.1 hs (posB nm l) j h4 hj h3
  rw [h] at h5
  have h6:=(posB_cmp hs nm (posB nm l) h4).1 (by rw [cmpB_lt,rdL_at l _ h4];exact h5)
  omega
 ·
  omega
theorem there_iff {l : List IL} {nm : ByteArray} : thereB nm l = true ↔ ∃ h : posB nm l < l.length,(l[posB nm l]).f0 = nm:=by
 constructor
 ·
  intro h
  simp only [thereB,Bool.and_eq_true,decide_eq_true_eq,beq_iff_eq] at h
  obtain ⟨h1,h2⟩:=h
  rw [rdL_at _ _ h1,cmpB_zero] at h2
  exact ⟨h1,h2⟩
 ·
  rintro ⟨h1,h2⟩
  simp only [thereB,Bool.and_eq_true,decide_eq_true_eq,beq_iff_eq]
  exact ⟨h1,by rw [rdL_at _ _ h1,cmpB_zero];exact h2⟩
def findP (nm : ByteArray) (l : List IL) : Int:=if thereB nm l = true then (posB nm l : Int) else -1
theorem find_l0 (l : List IL) (s : List IN) (t n : Int) (nm : ByteArray) (hs : sortB l) (hl : l.length ≤ 1000) : ∀ (d i k : Nat),l.length = i + d → d < k → (∀ j (hj : j < l.length),j < i → l[j].f0 ≠ nm) → spec_l05Find.l0 k nm (i : Int) t n l s = some (findP nm l):=by
 intro d
 induction d with
 | zero =>
  intro i k hd hk hn
  obtain ⟨k,rfl⟩ : ∃ m,k = m + 1:=⟨k - 1,by omega⟩
  rw [spec_l05Find.l0,if_neg (by omega),findP,if_neg (fun h => by
   obtain ⟨h1,h2⟩:=there_iff.1 h
   exact hn _ h1 (by omega) h2)]
 | succ d ih =>
  intro i k hd hk hn
  obtain ⟨k,rfl⟩ : ∃ m,k = m + 1:=⟨k - 1,by omega⟩
  have hi : i < l.length:=by omega
  rw [spec_l05Find.l0,if_pos (by omega),if_pos (by omega),rdL_at l i hi]
  by_cases he : l[i].f0 = nm
  ·
   rw [if_pos (toList_eq.2 he)]
   have hp:=name_pos hs hi he
   have ht : thereB nm l = true:=there_iff.2 ⟨by omega,by simp only [← hp];exact he⟩
   rw [findP,if_pos ht,← hp]
  ·
   rw [if_neg (fun h => he (toList_eq.1 h)),show wrap64 ((i : Int) + 1) = ((i + 1 : Nat) : Int) by unfold wrap64;omega]
   refine ih (i + 1) k (by omega) (by omega) (fun j hj hji => ?_)
   by_cases hje : j = i
   ·
    subst hje;exact he
   ·
    exact hn j hj (by omega)
theorem sfind_calls (w : World) (T : Tv) (nm : ByteArray) (hT : TV w T) (hl : T.ls.length ≤ 1000) (hs : sortB (T.ls.map EL.x)) :
  Calls Try.prog 110 #[tvV T,.string nm] w fun e w' => e = .returned (.int .i64 (findP nm (T.ls.map EL.x))) ∧ Below w.heap.size w w':=by
 obtain ⟨A,c,hv,hlc,hk⟩:=hT.locks
 obtain ⟨A',c',hv',hlc',hk'⟩:=hT.seens
 have hlen : (T.ls.map EL.x).length = T.ls.length:=List.length_map _
 unfold tvV
 rw [hv,hv',← hlen]
 rw [← hlen] at hlc hk hl
 exact spec_l05Find.calls ((T.ls.map EL.x).length + 1) T.tm T.nx A c (T.ls.map EL.x) A' c' T.ss nm _ w hk hlc hk' hlc' (find_l0 (T.ls.map EL.x) T.ss T.tm T.nx nm hs hl (T.ls.map EL.x).length 0 _ (by omega) (by omega) (fun j hj h => by omega))
def elV (e : EL) : Value:=.agg #[.string e.x.f0,.int .i64 e.x.f1,.int .i64 e.x.f2,.int .i64 e.x.f3,e.v]
theorem stell_calls (kind : Int) (e : EL) (w : World) (he : WR w e) : Calls Try.prog 111 #[.int .i64 kind,elV e] w fun r w' => r = .returned (anV (tellA kind e.x)) ∧ Below w.heap.size w w':=by
 obtain ⟨A,c,hv,hlc,hk⟩:=he.reads
 unfold elV
 rw [hv]
 exact spec_l05Tell.calls kind e.x.f0 e.x.f1 e.x.f2 e.x.f3 A c e.x.f4 _ _ _ _ w hk hlc rfl
theorem waits_l0 (c : Int) (ws : List IW) (s : ByteArray) (a b d' : Int) (hl : ws.length ≤ 1000) : ∀ (d i k : Nat),ws.length = i + d → d < k → spec_l05Waits.l0 k c (i : Int) s a b d' ws = some (waitsF c (ws.drop i) (i : Int)):=by
 intro d
 induction d with
 | zero =>
  intro i k hd hk
  obtain ⟨k,rfl⟩ : ∃ m,k = m + 1:=⟨k - 1,by omega⟩
  rw [spec_l05Waits.l0,if_neg (by omega),List.drop_eq_nil_of_le (by omega)]
  rfl
 | succ d ih =>
  intro i k hd hk
  obtain ⟨k,rfl⟩ : ∃ m,k = m + 1:=⟨k - 1,by omega⟩
  have hi : i < ws.length:=by omega
  have hr : rd_T73 ws (i : Int) = ws[i]:=by unfold rd_T73;simp [hi]
  rw [spec_l05Waits.l0,if_pos (by omega),if_pos (by omega),hr,List.drop_eq_getElem_cons hi,waitsF]
  split
  ·
   rfl
  ·
   rw [show wrap64 ((i : Int) + 1) = ((i + 1 : Nat) : Int) by unfold wrap64;omega]
   exact ih (i + 1) k (by omega) (by omega)
theorem swaits_calls (e : EL) (c : Int) (w : World) (he : WR w e) (hl : e.x.f4.length ≤ 1000) : Calls Try.prog 112 #[elV e,.int .i64 c] w fun r w' => r = .returned (.int .i64 (waitsF c e.x.f4 0)) ∧ Below w.heap.size w w':=by
 obtain ⟨A,cp,hv,hlc,hk⟩:=he.reads
 unfold elV
 rw [hv]
 exact spec_l05Waits.calls (e.x.f4.length + 1) e.x.f0 e.x.f1 e.x.f2 e.x.f3 A cp e.x.f4 c _ w hk hlc (waits_l0 c e.x.f4 _ _ _ _ hl e.x.f4.length 0 _ (by omega) (by omega))
theorem row_take {w : World} {e sz n c k : Nat} {A : Option Addr} {xs : List Value} {ob : Option Nat} (h : Row w e sz (.slice A n c) n xs ob) (hk : k ≤ n) : Row w e sz (.slice A k c) k (xs.take (k * sz)) ob:=by
 obtain ⟨A',c',hv,h1,h2,h3,h4⟩:=h
 injection hv with ha _ hc
 subst ha;subst hc
 have hle:=Nat.mul_le_mul_right sz hk
 refine ⟨_,c,rfl,by omega,h2,by rw [List.length_take];omega,?_⟩
 rcases h4 with h4|⟨b,o,cs,fz,ha,hb,hg,hf,hs,hx⟩
 ·
  exact .inl h4
 ·
  refine .inr ⟨b,o,cs,fz,ha,hb,hg,hf,hs,?_⟩
  rw [← hx,List.take_take,Nat.min_eq_left hle]
theorem row_drop {w : World} {e sz n c b o k : Nat} {xs : List Value} {ob : Option Nat} (h : Row w e sz (.slice (some ⟨b,o,none⟩) n c) n xs ob) (hk : k ≤ n) :
  Row w e sz (.slice (if c = k then some ⟨b,o,none⟩ else some ⟨b,o + k * sz,none⟩) (n - k) (c - k)) (n - k) (xs.drop (k * sz)) (if c = k then none else ob):=by
 obtain ⟨A,c',hv,h1,h2,h3,h4⟩:=h
 injection hv with ha _ hc
 subst ha;subst hc
 have hle:=Nat.mul_le_mul_right sz hk
 have hsub : (n - k) * sz = n * sz - k * sz:=Nat.sub_mul n k sz
 refine ⟨_,_,rfl,by omega,by omega,by rw [List.length_drop];omega,?_⟩
 by_cases hc : c = k
 ·
  rw [if_pos hc,if_pos hc]
  exact .inl ⟨by omega,rfl⟩
 ·
  rw [if_neg hc,if_neg hc]
  rcases h4 with ⟨h4,_⟩|⟨b',o',cs,fz,ha,hb,hg,hf,hs,hx⟩
  ·
   omega
  ·
   injection ha with ha
   injection ha with hb' ho
   subst hb';subst ho
   have hcs : (c - k) * sz = c * sz - k * sz:=Nat.sub_mul c k sz
   have hle2 : k * sz ≤ c * sz:=Nat.mul_le_mul_right sz (by omega)
   refine .inr ⟨b,o + k * sz,cs,fz,rfl,hb,hg,hf,by omega,?_⟩
   rw [← hx,← List.drop_drop,List.drop_take,hsub]
theorem row_dropA {w : World} {e sz n c k : Nat} {A : Option Addr} {xs : List Value} {ob : Option Nat} (h : Row w e sz (.slice A n c) n xs ob) (hk : k ≤ n) :
  Row w e sz (.slice (if c = k then A else Option.map (fun x => x.add (k * sz)) A) (n - k) (c - k)) (n - k) (xs.drop (k * sz)) (if c = k then none else ob):=by
 cases A with
 | none =>
  obtain ⟨A,c',hv,h1,h2,h3,h4⟩:=h
  injection hv with ha _ hc
  subst ha;subst hc
  have hc0 : c = 0:=by
   rcases h4 with ⟨h4,_⟩|⟨b,o,cs,fz,ha,_⟩
   ·
    exact h4
   ·
    cases ha
  subst hc0
  have hn : n = 0:=by omega
  subst hn
  have hk0 : k = 0:=by omega
  subst hk0
  exact ⟨_,0,rfl,Nat.le_refl _,by omega,by rw [List.length_drop];omega,.inl ⟨rfl,by simp⟩⟩
 | some a =>
  obtain ⟨b,o,s⟩:=a
  by_cases hn : n = 0 ∧ c = 0
  ·
   obtain ⟨rfl,rfl⟩:=hn
   have hk0 : k = 0:=by omega
   subst hk0
   have hl:=h.len
   exact ⟨_,0,rfl,Nat.le_refl _,by omega,by rw [List.length_drop];omega,.inl ⟨rfl,by simp⟩⟩
  ·
   have hs : s = none:=by
    obtain ⟨A,c',hv,h1,h2,h3,h4⟩:=h
    injection hv with ha _ hc
    subst ha;subst hc
    rcases h4 with ⟨h4,_⟩|⟨b',o',cs,fz,ha,_⟩
    ·
     omega
    ·
     injection ha with ha
     injection ha
   subst hs
   have h':=row_drop h hk
   rw [Option.map_some,Addr.add_lit]
   exact h'
theorem row_nil (w : World) (e sz : Nat) (A : Option Addr) : Row w e sz (.slice A 0 0) 0 [] none:=⟨A,0,rfl,Nat.le_refl _,by omega,by simp,.inl ⟨rfl,rfl⟩⟩
theorem row_one {w : World} {e sz b : Nat} {xs : List Value} (hg : w.heap[b]? = some (.cells xs.toArray e (0,0))) (hl : xs.length = sz) : Row w e sz (.slice (some ⟨b,0,none⟩) 1 1) 1 xs (some b) :=
 ⟨_,1,rfl,Nat.le_refl _,by omega,by omega,.inr ⟨b,0,xs.toArray,(0,0),rfl,rfl,hg,Free.none _,by rw [List.size_toArray];omega,by rw [List.drop_zero,List.toList_toArray,List.take_of_length_le (by omega)]⟩⟩
theorem fr_none {a b : World} (h : Fr (fun k => (none : Option Nat) = some k) a b) : Below a.heap.size a b:=h.to_below (Nat.le_refl _) (fun x hx => by cases hx)
end Go.Proofs.Ytjkanhjapddhnaa.SLib
namespace Go.Proofs.Ytjkanhjapddhnaa.AppN
open Go.RowKit Go.Lib Go.Proofs.YtjkanhjapddhnaaV.PrintWords Go.Proofs.YtjkanhjapddhnaaV.PrintMore Go.Proofs.Ytjkanhjapddhnaa.Own Go.Proofs.Ytjkanhjapddhnaa.Ins Go.Proofs.Ytjkanhjapddhnaa.InsR Go.Proofs.Ytjkanhjapddhnaa.Tb
set_option linter.unusedVariables false
set_option linter.unusedSimpArgs false
set_option maxHeartbeats 4000000
set_option maxRecDepth 100000
theorem app_row {P : Program} (w : World) (t ty e sz bytes : Nat) (hu : P.underlying t = some (.slice e)) (hinfo : (P.info? e).map (fun i => (i.size,i.bytes,i.zero.map (fun z => z.cells.size))) = some (sz,bytes,some sz)) (hby : bytes ≤ 64) (hsz : 0 < sz)
  (v u : Value) (n m : Nat) (xs ys : List Value) (ob ob2 : Option Nat) (hr : Row w e sz v n xs ob) (hr2 : Row w e sz u m ys ob2) (hn : n + m ≤ 1000000) (h1y : ∀ x ∈ ys,x.oneCell' = true) :
  ∃ v' w' ob',(Builtin.append_ #[t,t] ty #[v,u]).run P w = .ok v' w' ∧ Row w' e sz v' (n + m) (xs ++ ys) ob' ∧ (ob' = ob ∨ ∀ k,ob' = some k → w.heap.size ≤ k) ∧ Fr (fun k => ob = some k) w w':=by
 have hxl : xs.length = n * sz:=hr.len
 have hyl : ys.length = m * sz:=hr2.len
 have hlen' : (xs ++ ys).length = (n + m) * sz:=by rw [List.length_append,hyl,hxl,Nat.add_mul]
 obtain ⟨i0,hi0,hz1⟩:=Option.map_eq_some_iff.1 hinfo
 simp only [Prod.mk.injEq] at hz1
 obtain ⟨hz0,hzb,hzz⟩:=hz1
 obtain ⟨z,hz,hzs⟩:=Option.map_eq_some_iff.1 hzz
 have hsrc : Src P i0.size t u m ys w:=by
  rw [hz0]
  obtain ⟨A2,c2,rfl,g1,g2,g3,g4⟩:=id hr2
  cases A2 with
  | none =>
   have hm : m = 0:=by
    rcases g4 with ⟨g4,_⟩|⟨b',o',cs,fz,ha,_⟩
    ·
     omega
    ·
     cases ha
   subst hm
   rw [List.length_eq_zero_iff.1 (by omega : ys.length = 0)]
   exact Src.ofNil w hu c2
  | some a =>
   refine Src.ofSlice w hu a m c2 ys hyl (fun j x hj => ?_) h1y
   have hj':=(List.getElem?_eq_some_iff.1 hj).1
   rcases g4 with ⟨g4,_⟩|⟨b',o',cs,fz,ha,hb,_⟩
   ·
    have : m = 0:=by omega
    subst this
    omega
   ·
    injection ha with ha
    subst ha
    rw [Addr.add_lit]
    exact Row.cells hr2 j x hj
 obtain ⟨A,c,rfl,h1,h2,h3,h4⟩:=id hr
 by_cases hm : m = 0
 ·
  subst hm
  have hy0 : ys = []:=List.eq_nil_of_length_eq_zero (by omega)
  subst hy0
  refine ⟨_,w,ob,run_append_nothing w t t ty e i0 hu hi0 A n c h1 u hsrc,by rw [List.append_nil];exact hr,.inl rfl,Fr.refl _ _⟩
 by_cases hroom : n + m ≤ c
 ·
  rcases h4 with ⟨h4,_⟩|⟨b,o,cs,fz,rfl,rfl,hgb,hfb,hsb,hx⟩
  ·
   omega
  have hle : (n + m) * sz ≤ c * sz:=Nat.mul_le_mul_right _ hroom
  rw [Nat.add_mul] at hle
  have hsp : ∀ j,j < c * sz → (w.cell? ⟨b,o + j,none⟩).isSome = true:=fun j hj => by
   rw [cell_of_row w b _ cs _ fz hgb,Array.getElem?_eq_getElem (by omega)]
   rfl
  have hfz : ∀ j,j < c * sz → w.frozen? ⟨b,o + j,none⟩ = false:=fun j hj => row_free hgb hfb (o + j) (by omega)
  have hrun:=run_append_room_src (P:=P) (w:=w) t t ty e i0 hu hi0 b o n c _ m ys hsrc hroom (by rw [hyl,hz0];exact fun j hj => by rw [Nat.add_assoc];exact hsp _ (by omega)) (by rw [hyl,hz0];exact fun j hj => by rw [Nat.add_assoc];exact hfz _ (by omega))
  rw [hz0] at hrun
  obtain ⟨cs',hg',hs'⟩:=setCells_heap b ys (o + n * sz) w cs _ fz hgb
  refine ⟨_,_,some b,hrun,row_cells hg' (by rw [hs'];exact hfb) (by rw [hs'];exact hsb) hroom h2 hlen' (fun j x h => ?_),.inl rfl,setCells_fr (S:=fun k => some b = some k) (.inl rfl) _ _ _ (Fr.refl _ _)⟩
  by_cases hj : j < n * sz
  ·
   rw [World.cell?_setCells_out _ _ _ _ _ (fun _ _ => .inl (by show o + j < _;omega))]
   rw [List.getElem?_append_left (by omega)] at h
   exact Row.cells hr j x h
  ·
   have hjl:=(List.getElem?_eq_some_iff.1 h).1
   rw [hlen',Nat.add_mul] at hjl
   rw [List.getElem?_append_right (by omega),hxl] at h
   have hin:=World.cell?_setCells_in b ys (o + n * sz) w (fun t ht => by rw [Nat.add_assoc];exact hsp _ (by omega)) (j - n * sz) (by omega)
   rw [show o + n * sz + (j - n * sz) = o + j by omega] at hin
   rw [hin,← h]
   exact (List.getElem?_eq_getElem (by omega)).symm
 ·
  have hold : (Builtin.firstCells i0.size n (.slice A n c)).run P w.drew = .ok xs.toArray w.drew:=by
   rw [hz0]
   cases A with
   | none =>
    have h0 : n = 0:=by
     rcases h4 with ⟨h4,_⟩|⟨b',o',cs,fz,ha,_⟩
     ·
      omega
     ·
      cases ha
    subst h0
    rw [List.length_eq_zero_iff.1 (by omega : xs.length = 0)]
    exact run_firstCells_none w.drew sz 0 0 c
   | some a => exact run_firstCells_some w.drew sz n a n c xs hxl (fun j u hj => by
     have hj':=(List.getElem?_eq_some_iff.1 hj).1
     rcases h4 with ⟨h4,_⟩|⟨b',o',cs,fz,ha,hb,_⟩
     ·
      have : n = 0:=by omega
      subst this
      omega
     ·
      injection ha with ha
      subst ha
      rw [Addr.add_lit]
      exact Row.cells hr j u hj)
  have hrun:=run_append_grow_src w t t ty e i0 z hu hi0 hz A n c xs hold _ m ys hsrc (by omega) (by omega) (by
   rw [hzb]
   exact growslice_fits (by omega) (Nat.le_trans (Nat.mul_le_mul hn hby) (by omega)))
  have hG:=grownCap_ge w (n + m) c e
  have hG2 : grownCap w (n + m) c e ≤ 9223372036854775807:=by
   have:=grownCap_le_maxLen w (n + m) c e (by unfold maxLen;omega)
   unfold maxLen at this
   omega
  generalize grownCap w (n + m) c e = G at hG hG2 hrun
  have hg' : (w.drew.alloc (.cells ((xs ++ ys).toArray ++ Builtin.zeroCells z.cells (G - (n + m))) e)).heap[w.heap.size]? = some (.cells ((xs ++ ys).toArray ++ Builtin.zeroCells z.cells (G - (n + m))) e (0,0)):=heap_alloc_new w.drew _
  have hzz : (Builtin.zeroCells z.cells (G - (n + m))).size = (G - (n + m)) * sz:=by simp [Builtin.zeroCells,hzs]
  have hsz' : ((xs ++ ys).toArray ++ Builtin.zeroCells z.cells (G - (n + m))).size = G * sz:=by
   rw [Array.size_append,hzz,List.size_toArray,hlen',← Nat.add_mul]
   congr 1
   omega
  refine ⟨_,_,some w.heap.size,hrun,row_cells hg' (Free.none _) (by rw [hsz'];omega) hG hG2 hlen' (fun j x h => ?_),.inr (fun k hk => by injection hk with hk;omega),Fr.of_below (below_alloc (below_drew (Below.refl _ _)) _)⟩
  rw [Nat.zero_add,cell_of_row _ _ _ _ _ _ hg',← Array.getElem?_toList,Array.toList_append,List.toList_toArray]
  rw [List.getElem?_append_left (List.getElem?_eq_some_iff.1 h).1]
  exact h
end Go.Proofs.Ytjkanhjapddhnaa.AppN
