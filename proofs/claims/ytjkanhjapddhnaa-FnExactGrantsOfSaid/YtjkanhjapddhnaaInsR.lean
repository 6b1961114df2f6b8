/- slices.Insert of one element at []Lock, told by rows. No condition. -/
-- squeezed
import Derived.Test.YtjkanhjapddhnaaTb
import Derived.Test.YtjkanhjapddhnaaIns
import Derived.Test.YtjkanhjapddhnaaInsS
import Derived.Test.YtjkanhjapddhnaaDel
namespace Go.Proofs.Ytjkanhjapddhnaa.InsR
open Go.RowKit Go.Lib Go.Proofs.YtjkanhjapddhnaaV.PrintWords Go.Proofs.YtjkanhjapddhnaaV.PrintMore Go.Proofs.Ytjkanhjapddhnaa.Own Go.Proofs.Ytjkanhjapddhnaa.Ins Go.Proofs.Ytjkanhjapddhnaa.InsS Go.Proofs.Ytjkanhjapddhnaa.Del Go.Proofs.Ytjkanhjapddhnaa.Tb
set_option linter.unusedVariables false
set_option linter.unusedSimpArgs false
set_option maxHeartbeats 4000000
set_option maxRecDepth 100000
theorem setCells_heap (b : Nat) : ∀ (vs : List Value) (o : Nat) (w : World) (cs : Array Value) (e : TypeId) (fz : Nat × Nat),w.heap[b]? = some (.cells cs e fz) → ∃ cs' : Array Value,(w.setCells b o vs).heap[b]? = some (.cells cs' e fz) ∧ cs'.size = cs.size
 | [],o,w,cs,e,fz,h => ⟨cs,h,rfl⟩
 | v :: r,o,w,cs,e,fz,h => by
  obtain ⟨cs',h1,h2⟩:=setCells_heap b r (o + 1) (w.setCell ⟨b,o,none⟩ v) _ e fz (row_set h o v)
  exact ⟨cs',h1,by rw [h2,Array.size_setIfInBounds]⟩
theorem setCells_fr {S : Nat → Prop} {a : World} {b : Nat} (hp : S b ∨ a.heap.size ≤ b) : ∀ (vs : List Value) (o : Nat) (w : World),Fr S a w → Fr S a (w.setCells b o vs)
 | [],_,_,h => h
 | v :: r,o,w,h => setCells_fr hp r (o + 1) _ (h.setCell (p:=⟨b,o,none⟩) hp v)
theorem row_cells {w : World} {e sz n c b o : Nat} {xs : List Value} {cs : Array Value} {fz : Nat × Nat} (hg : w.heap[b]? = some (.cells cs e fz)) (hf : Free fz cs.size) (hs : o + c * sz ≤ cs.size) (hn : n ≤ c) (hc : c ≤ 9223372036854775807) (hl : xs.length = n * sz)
  (hx : ∀ j u,xs[j]? = some u → w.cell? ⟨b,o + j,none⟩ = some u) : Row w e sz (.slice (some ⟨b,o,none⟩) n c) n xs (some b):=by
 refine ⟨_,c,rfl,hn,hc,hl,.inr ⟨b,o,cs,fz,rfl,rfl,hg,hf,hs,?_⟩⟩
 have hnc:=Nat.mul_le_mul_right sz hn
 apply List.ext_getElem?
 intro j
 by_cases hj : j < n * sz
 ·
  rw [List.getElem?_take,if_pos hj,List.getElem?_drop]
  have h:=hx j _ (List.getElem?_eq_getElem (by omega))
  rw [cell_of_row w b _ cs e fz hg,← Array.getElem?_toList] at h
  rw [h,List.getElem?_eq_getElem (by omega)]
 ·
  rw [List.getElem?_eq_none (by rw [List.length_take];omega),List.getElem?_eq_none (by omega)]
theorem Row.cells {w : World} {e sz n c b o : Nat} {xs : List Value} {ob : Option Nat} (h : Row w e sz (.slice (some ⟨b,o,none⟩) n c) n xs ob) (j : Nat) (u : Value) (hj : xs[j]? = some u) : w.cell? ⟨b,o + j,none⟩ = some u:=by
 obtain ⟨hlt,hv⟩:=List.getElem?_eq_some_iff.1 hj
 rw [(h.cellAt j hlt).1,hv]
theorem ins_get {xs vs : List Value} {p sz : Nat} (hv : vs.length = sz) (hp : p ≤ xs.length) (j : Nat) (u : Value) (h : (xs.take p ++ vs ++ xs.drop p)[j]? = some u) :
  (j < p ∧ xs[j]? = some u) ∨ (p ≤ j ∧ j < p + sz ∧ vs[j - p]? = some u) ∨ (p + sz ≤ j ∧ (xs.drop p)[j - (p + sz)]? = some u):=by
 have hl : (xs.take p).length = p:=by rw [List.length_take];omega
 by_cases h1 : j < p
 ·
  rw [List.append_assoc,List.getElem?_append_left (by omega),List.getElem?_take,if_pos h1] at h
  exact .inl ⟨h1,h⟩
 ·
  by_cases h2 : j < p + sz
  ·
   rw [List.append_assoc,List.getElem?_append_right (by omega),List.getElem?_append_left (by omega),hl] at h
   exact .inr (.inl ⟨by omega,h2,h⟩)
  ·
   rw [List.getElem?_append_right (by rw [List.length_append];omega),List.length_append,hl,hv] at h
   exact .inr (.inr ⟨by omega,h⟩)
theorem insL_row (w : World) (v : Value) (n i : Nat) (xs vs : List Value) (ob : Option Nat) (vb : Nat) (hr : Row w 70 5 v n xs ob) (hi : i ≤ n) (hn : n ≤ 1000) (hl : vs.length = 5) (hg : w.heap[vb]? = some (.cells vs.toArray 70 (0,0))) (hne : ob ≠ some vb)
  (h1x : ∀ u ∈ xs,u.oneCell' = true) (h1v : ∀ u ∈ vs,u.oneCell' = true) :
  Calls Try.prog 130 #[v,.int .i64 i,.slice (some ⟨vb,0,none⟩) 1 1] w fun r w' => ∃ v' ob',r = .returned v' ∧ Row w' 70 5 v' (n + 1) (xs.take (i * 5) ++ vs ++ xs.drop (i * 5)) ob' ∧ (ob' = ob ∨ ∀ k,ob' = some k → w.heap.size ≤ k) ∧ Fr (fun k => ob = some k) w w':=by
 have hxl : xs.length = n * 5:=hr.len
 have hvc : ∀ j u,vs[j]? = some u → w.cell? ⟨vb,0 + j,none⟩ = some u:=fun j u h => by
  rw [Nat.zero_add,cell_of_row w vb _ vs.toArray _ _ hg]
  simpa using h
 have hlen' : (xs.take (i * 5) ++ vs ++ xs.drop (i * 5)).length = (n + 1) * 5:=by
  simp only [List.length_append,List.length_take,List.length_drop,hl,hxl]
  omega
 by_cases h0 : ∃ b o c,v = .slice (some ⟨b,o,none⟩) n c ∧ ob = some b ∧ n + 1 ≤ c
 ·
  obtain ⟨b,o,c,rfl,rfl,hroom⟩:=h0
  obtain ⟨A,c',hv,h1,h2,h3,h4⟩:=id hr
  injection hv with ha _ hcc
  subst ha
  subst hcc
  rcases h4 with ⟨h4,_⟩|⟨b',o',cs,fz,ha,hb,hgb,hfb,hsb,hx⟩
  ·
   omega
  injection ha with ha
  injection ha with hb' ho'
  subst hb'
  subst ho'
  have hvb : vb ≠ b:=fun e => hne (by rw [e])
  have hsp : ∀ j,j < c * 5 → (w.cell? ⟨b,o + j,none⟩).isSome = true:=fun j hj => by
   rw [cell_of_row w b _ cs _ fz hgb,Array.getElem?_eq_getElem (by omega)]
   rfl
  have hfz : ∀ j,j < c * 5 → w.frozen? ⟨b,o + j,none⟩ = false:=fun j hj => row_free hgb hfb (o + j) (by omega)
  have hcx : ∀ j u,xs[j]? = some u → w.cell? ⟨b,o + j,none⟩ = some u:=fun j u h => Row.cells hr j u h
  by_cases hin : i = n
  ·
   subst hin
   refine (insL_room b o i c vb 0 1 vs w hroom h2 hl (fun j hj => by rw [Nat.add_assoc];exact hsp _ (by omega)) (fun j hj => by rw [Nat.add_assoc];exact hfz _ (by omega)) hvc h1v).mono ?_
   rintro _ w' ⟨rfl,rfl⟩
   obtain ⟨cs',hg',hs'⟩:=setCells_heap b vs (o + i * 5) w cs _ fz hgb
   refine ⟨_,some b,rfl,row_cells hg' (by rw [hs'];exact hfb) (by rw [hs'];exact hsb) hroom h2 hlen' (fun j u h => ?_),.inl rfl,setCells_fr (S:=fun k => some b = some k) (.inl rfl) _ _ _ (Fr.refl _ _)⟩
   rcases ins_get hl (by omega) j u h with ⟨a,h⟩|⟨a,a',h⟩|⟨a,h⟩
   ·
    rw [World.cell?_setCells_out _ _ _ _ _ (fun _ _ => .inl (by show o + j < _;omega))]
    exact hcx j u h
   ·
    have hin:=World.cell?_setCells_in b vs (o + i * 5) w (fun t ht => by rw [Nat.add_assoc];exact hsp _ (by omega)) (j - i * 5) (by omega)
    rw [show o + i * 5 + (j - i * 5) = o + j by omega] at hin
    rw [hin,← h]
    exact (List.getElem?_eq_getElem (by omega)).symm
   ·
    rw [List.drop_eq_nil_of_le (by omega)] at h
    simp at h
  ·
   refine (insL_shift b o n c i vb 0 1 xs vs w (by omega) hroom h2 hvb hxl hl hcx (fun j hj => hsp j (by omega)) (fun j hj => hfz j (by omega)) hvc h1x h1v 70 70 vs.toArray.size cs.size (by unfold World.shape?;rw [hg]) (by unfold World.shape?;rw [hgb]) (by omega) (row_free hg (Free.none _) 0 (by simp [hl])) (by
     unfold World.frozen?
     rw [hg]
     simp)).mono ?_
   rintro _ w' ⟨rfl,rfl⟩
   have hgd : w.drew.heap[b]? = some (.cells cs 70 fz):=hgb
   obtain ⟨cs1,hg1,hs1⟩:=setCells_heap b (xs.drop (i * 5)) (o + (i + 1) * 5) w.drew cs _ fz hgd
   obtain ⟨cs',hg',hs'⟩:=setCells_heap b vs (o + i * 5) _ cs1 _ fz hg1
   have hdl : (xs.drop (i * 5)).length = (n - i) * 5:=by rw [List.length_drop,hxl];omega
   refine ⟨_,some b,rfl,row_cells hg' (by rw [hs',hs1];exact hfb) (by rw [hs',hs1];exact hsb) hroom h2 hlen' (fun j u h => ?_),.inl rfl,setCells_fr (S:=fun k => some b = some k) (.inl rfl) _ _ _ (setCells_fr (S:=fun k => some b = some k) (.inl rfl) _ _ _ (Fr.of_below (below_drew (Below.refl _ _))))⟩
   have hsd : ∀ t,t < (xs.drop (i * 5)).length → (w.drew.cell? ⟨b,o + (i + 1) * 5 + t,none⟩).isSome = true:=fun t ht => by rw [Nat.add_assoc];exact hsp _ (by omega)
   have hsp1 : ∀ k,k < c * 5 → ((w.drew.setCells b (o + (i + 1) * 5) (xs.drop (i * 5))).cell? ⟨b,o + k,none⟩).isSome = true:=fun k hk => isSome_set b _ _ _ hsd _ (hsp k hk)
   rcases ins_get hl (by omega) j u h with ⟨a,h⟩|⟨a,a',h⟩|⟨a,h⟩
   ·
    rw [World.cell?_setCells_out _ _ _ _ _ (fun _ _ => .inl (by show o + j < _;omega)),World.cell?_setCells_out _ _ _ _ _ (fun _ _ => .inl (by show o + j < _;omega))]
    exact hcx j u h
   ·
    have hin:=World.cell?_setCells_in b vs (o + i * 5) (w.drew.setCells b (o + (i + 1) * 5) (xs.drop (i * 5))) (fun t ht => by rw [Nat.add_assoc];exact hsp1 _ (by omega)) (j - i * 5) (by omega)
    rw [show o + i * 5 + (j - i * 5) = o + j by omega] at hin
    rw [hin,← h]
    exact (List.getElem?_eq_getElem (by omega)).symm
   ·
    have hj:=(List.getElem?_eq_some_iff.1 h).1
    rw [World.cell?_setCells_out _ _ _ _ _ (fun _ _ => .inr (by show _ ≤ o + j;omega))]
    have hin:=World.cell?_setCells_in b (xs.drop (i * 5)) (o + (i + 1) * 5) w.drew hsd (j - (i * 5 + 5)) hj
    rw [show o + (i + 1) * 5 + (j - (i * 5 + 5)) = o + j by omega] at hin
    rw [hin,← h]
    exact (List.getElem?_eq_getElem hj).symm
 ·
  obtain ⟨A,c,rfl,h1,h2,h3,h4⟩:=id hr
  have hroom : c < n + 1:=by
   rcases h4 with ⟨h4,_⟩|⟨b',o',cs,fz,ha,hb,_⟩
   ·
    omega
   ·
    subst ha
    by_cases h5 : n + 1 ≤ c
    ·
     exact absurd ⟨b',o',c,rfl,hb,h5⟩ h0
    ·
     omega
  by_cases hin : i = n
  ·
   subst hin
   obtain ⟨z,hzs,hz⟩:=insL_endgrow A i c vb 0 1 xs vs w h1 hroom (by omega) hxl hl (fun e => by
     rcases h4 with ⟨h4,_⟩|⟨b',o',cs,fz,ha,_⟩
     ·
      omega
     ·
      rw [e] at ha;cases ha) (fun a e j u hj => by
     subst e
     have hj':=(List.getElem?_eq_some_iff.1 hj).1
     rcases h4 with ⟨h4,_⟩|⟨b',o',cs,fz,ha,hb,_⟩
     ·
      omega
     ·
      injection ha with ha
      subst ha
      rw [Addr.add_lit]
      exact Row.cells hr j u hj) hvc h1v
   refine hz.mono ?_
   rintro _ w' ⟨rfl,rfl⟩
   have hG:=grownCap_ge w (i + 1) c 70
   have hG2 : grownCap w (i + 1) c 70 ≤ 9223372036854775807:=by
    have:=grownCap_le_maxLen w (i + 1) c 70 (by unfold maxLen;omega)
    unfold maxLen at this
    omega
   generalize grownCap w (i + 1) c 70 = G at hG hG2 ⊢
   have hg' : (w.drew.alloc (.cells ((xs ++ vs).toArray ++ Builtin.zeroCells z.cells (G - (i + 1))) 70)).heap[w.heap.size]? = some (.cells ((xs ++ vs).toArray ++ Builtin.zeroCells z.cells (G - (i + 1))) 70 (0,0)):=heap_alloc_new w.drew _
   have hzz : (Builtin.zeroCells z.cells (G - (i + 1))).size = (G - (i + 1)) * 5:=by simp [Builtin.zeroCells,hzs]
   have hsz : ((xs ++ vs).toArray ++ Builtin.zeroCells z.cells (G - (i + 1))).size = G * 5:=by
    rw [Array.size_append,hzz,List.size_toArray,List.length_append,hxl,hl]
    omega
   refine ⟨_,some w.heap.size,rfl,row_cells hg' (Free.none _) (by rw [hsz];omega) hG hG2 hlen' (fun j u h => ?_),.inr (fun k hk => by injection hk with hk;omega),Fr.of_below (below_alloc (below_drew (Below.refl _ _)) _)⟩
   rw [Nat.zero_add,cell_of_row _ _ _ _ _ _ hg',← Array.getElem?_toList,Array.toList_append,List.toList_toArray]
   rw [List.drop_eq_nil_of_le (by omega),List.append_nil,List.take_of_length_le (by omega)] at h
   rw [List.getElem?_append_left (List.getElem?_eq_some_iff.1 h).1]
   exact h
  ·
   obtain ⟨b,o,hA,hob⟩ : ∃ b o,A = some ⟨b,o,none⟩ ∧ ob = some b:=by
    rcases h4 with ⟨h4,_⟩|⟨b',o',cs,fz,ha,hb,_⟩
    ·
     omega
    ·
     exact ⟨b',o',ha,hb⟩
   subst hA
   obtain ⟨zc,hzs,hz⟩:=insL_grow b o n c i vb 0 1 xs vs w (by omega) h1 hroom (by omega) hxl hl (fun j u h => Row.cells hr j u h) hvc h1x h1v
   refine hz.mono ?_
   rintro _ w' ⟨rfl,rfl⟩
   have hG:=grownCap_ge w (n + 1) c 70
   have hG2 : grownCap w (n + 1) c 70 ≤ 9223372036854775807:=by
    have:=grownCap_le_maxLen w (n + 1) c 70 (by unfold maxLen;omega)
    unfold maxLen at this
    omega
   generalize grownCap w (n + 1) c 70 = G at hG hG2 ⊢
   obtain ⟨R,hR⟩ : ∃ R : Array Value,R = (xs.take (i * 5)).toArray ++ Builtin.zeroCells zc (n + 1 - i) ++ Builtin.zeroCells zc (G - (n + 1)):=⟨_,rfl⟩
   have hzz : ∀ m,(Builtin.zeroCells zc m).size = m * 5:=fun m => by simp [Builtin.zeroCells,hzs]
   have hsz : R.size = G * 5:=by
    rw [hR,Array.size_append,Array.size_append,hzz,hzz,List.size_toArray,List.length_take,hxl]
    omega
   rw [← hR]
   have hgR : (w.alloc (.cells R 70)).drew.heap[w.heap.size]? = some (.cells R 70 (0,0)):=heap_alloc_new w _
   obtain ⟨cs1,hg1,hs1⟩:=setCells_heap w.heap.size vs (i * 5) (w.alloc (.cells R 70)).drew R _ _ hgR
   have hg1d : ((w.alloc (.cells R 70)).drew.setCells w.heap.size (i * 5) vs).drew.heap[w.heap.size]? = some (.cells cs1 70 (0,0)):=hg1
   obtain ⟨cs',hg',hs'⟩:=setCells_heap w.heap.size (xs.drop (i * 5)) ((i + 1) * 5) _ cs1 _ _ hg1d
   have hdl : (xs.drop (i * 5)).length = (n - i) * 5:=by rw [List.length_drop,hxl];omega
   have hc0 : ∀ k,(w.alloc (.cells R 70)).drew.cell? ⟨w.heap.size,k,none⟩ = R[k]?:=fun k => cell_of_row _ _ _ _ _ _ hgR
   have hc1 : ∀ k,((w.alloc (.cells R 70)).drew.setCells w.heap.size (i * 5) vs).drew.cell? ⟨w.heap.size,k,none⟩ = ((w.alloc (.cells R 70)).drew.setCells w.heap.size (i * 5) vs).cell? ⟨w.heap.size,k,none⟩:=fun k => rfl
   have hsR : ∀ k,k < G * 5 → ((w.alloc (.cells R 70)).drew.cell? ⟨w.heap.size,k,none⟩).isSome = true:=fun k hk => by
    rw [hc0,Array.getElem?_eq_getElem (by omega)]
    rfl
   have hsv : ∀ t,t < vs.length → ((w.alloc (.cells R 70)).drew.cell? ⟨w.heap.size,i * 5 + t,none⟩).isSome = true:=fun t ht => hsR _ (by omega)
   have hs2 : ∀ t,t < (xs.drop (i * 5)).length → (((w.alloc (.cells R 70)).drew.setCells w.heap.size (i * 5) vs).drew.cell? ⟨w.heap.size,(i + 1) * 5 + t,none⟩).isSome = true:=fun t ht => by
    rw [hc1]
    exact isSome_set _ _ _ _ hsv _ (hsR _ (by omega))
   refine ⟨_,some w.heap.size,rfl,row_cells hg' (Free.none _) (by rw [hs',hs1,hsz];omega) hG hG2 hlen' (fun j u h => ?_),.inr (fun k hk => by injection hk with hk;omega),?_⟩
   ·
    rw [Nat.zero_add]
    rcases ins_get hl (by omega) j u h with ⟨a,h⟩|⟨a,a',h⟩|⟨a,h⟩
    ·
     rw [World.cell?_setCells_out _ _ _ _ _ (fun _ _ => .inl (by show j < _;omega)),hc1,World.cell?_setCells_out _ _ _ _ _ (fun _ _ => .inl (by show j < _;omega)),hc0,hR,← Array.getElem?_toList,Array.toList_append,Array.toList_append,List.toList_toArray,List.append_assoc,
      List.getElem?_append_left (by rw [List.length_take];omega),List.getElem?_take,if_pos a]
     exact h
    ·
     rw [World.cell?_setCells_out _ _ _ _ _ (fun _ _ => .inl (by show j < _;omega)),hc1]
     have hin:=World.cell?_setCells_in w.heap.size vs (i * 5) (w.alloc (.cells R 70)).drew hsv (j - i * 5) (by omega)
     rw [show i * 5 + (j - i * 5) = j by omega] at hin
     rw [hin,← h]
     exact (List.getElem?_eq_getElem (by omega)).symm
    ·
     have hj:=(List.getElem?_eq_some_iff.1 h).1
     have hin:=World.cell?_setCells_in w.heap.size (xs.drop (i * 5)) ((i + 1) * 5) _ hs2 (j - (i * 5 + 5)) hj
     rw [show (i + 1) * 5 + (j - (i * 5 + 5)) = j by omega] at hin
     rw [hin,← h]
     exact (List.getElem?_eq_getElem hj).symm
   ·
    refine setCells_fr (.inr (Nat.le_refl _)) _ _ _ (Fr.trans (S':=fun _ => False) ?_ (Fr.of_below (below_drew (Below.refl _ _))) (fun _ h => h.elim))
    exact setCells_fr (.inr (Nat.le_refl _)) _ _ _ (Fr.of_below (below_drew (below_alloc (Below.refl _ _) _)))
theorem insS_row (w : World) (v : Value) (n i : Nat) (xs vs : List Value) (ob : Option Nat) (vb : Nat) (hr : Row w 77 6 v n xs ob) (hi : i ≤ n) (hn : n ≤ 1000) (hl : vs.length = 6) (hg : w.heap[vb]? = some (.cells vs.toArray 77 (0,0))) (hne : ob ≠ some vb)
  (h1x : ∀ u ∈ xs,u.oneCell' = true) (h1v : ∀ u ∈ vs,u.oneCell' = true) :
  Calls Try.prog 98 #[v,.int .i64 i,.slice (some ⟨vb,0,none⟩) 1 1] w fun r w' => ∃ v' ob',r = .returned v' ∧ Row w' 77 6 v' (n + 1) (xs.take (i * 6) ++ vs ++ xs.drop (i * 6)) ob' ∧ (ob' = ob ∨ ∀ k,ob' = some k → w.heap.size ≤ k) ∧ Fr (fun k => ob = some k) w w':=by
 have hxl : xs.length = n * 6:=hr.len
 have hvc : ∀ j u,vs[j]? = some u → w.cell? ⟨vb,0 + j,none⟩ = some u:=fun j u h => by
  rw [Nat.zero_add,cell_of_row w vb _ vs.toArray _ _ hg]
  simpa using h
 have hlen' : (xs.take (i * 6) ++ vs ++ xs.drop (i * 6)).length = (n + 1) * 6:=by
  simp only [List.length_append,List.length_take,List.length_drop,hl,hxl]
  omega
 by_cases h0 : ∃ b o c,v = .slice (some ⟨b,o,none⟩) n c ∧ ob = some b ∧ n + 1 ≤ c
 ·
  obtain ⟨b,o,c,rfl,rfl,hroom⟩:=h0
  obtain ⟨A,c',hv,h1,h2,h3,h4⟩:=id hr
  injection hv with ha _ hcc
  subst ha
  subst hcc
  rcases h4 with ⟨h4,_⟩|⟨b',o',cs,fz,ha,hb,hgb,hfb,hsb,hx⟩
  ·
   omega
  injection ha with ha
  injection ha with hb' ho'
  subst hb'
  subst ho'
  have hvb : vb ≠ b:=fun e => hne (by rw [e])
  have hsp : ∀ j,j < c * 6 → (w.cell? ⟨b,o + j,none⟩).isSome = true:=fun j hj => by
   rw [cell_of_row w b _ cs _ fz hgb,Array.getElem?_eq_getElem (by omega)]
   rfl
  have hfz : ∀ j,j < c * 6 → w.frozen? ⟨b,o + j,none⟩ = false:=fun j hj => row_free hgb hfb (o + j) (by omega)
  have hcx : ∀ j u,xs[j]? = some u → w.cell? ⟨b,o + j,none⟩ = some u:=fun j u h => Row.cells hr j u h
  by_cases hin : i = n
  ·
   subst hin
   refine (insS_room b o i c vb 0 1 vs w hroom h2 hl (fun j hj => by rw [Nat.add_assoc];exact hsp _ (by omega)) (fun j hj => by rw [Nat.add_assoc];exact hfz _ (by omega)) hvc h1v).mono ?_
   rintro _ w' ⟨rfl,rfl⟩
   obtain ⟨cs',hg',hs'⟩:=setCells_heap b vs (o + i * 6) w cs _ fz hgb
   refine ⟨_,some b,rfl,row_cells hg' (by rw [hs'];exact hfb) (by rw [hs'];exact hsb) hroom h2 hlen' (fun j u h => ?_),.inl rfl,setCells_fr (S:=fun k => some b = some k) (.inl rfl) _ _ _ (Fr.refl _ _)⟩
   rcases ins_get hl (by omega) j u h with ⟨a,h⟩|⟨a,a',h⟩|⟨a,h⟩
   ·
    rw [World.cell?_setCells_out _ _ _ _ _ (fun _ _ => .inl (by show o + j < _;omega))]
    exact hcx j u h
   ·
    have hin:=World.cell?_setCells_in b vs (o + i * 6) w (fun t ht => by rw [Nat.add_assoc];exact hsp _ (by omega)) (j - i * 6) (by omega)
    rw [show o + i * 6 + (j - i * 6) = o + j by omega] at hin
    rw [hin,← h]
    exact (List.getElem?_eq_getElem (by omega)).symm
   ·
    rw [List.drop_eq_nil_of_le (by omega)] at h
    simp at h
  ·
   refine (insS_shift b o n c i vb 0 1 xs vs w (by omega) hroom h2 hvb hxl hl hcx (fun j hj => hsp j (by omega)) (fun j hj => hfz j (by omega)) hvc h1x h1v 77 77 vs.toArray.size cs.size (by unfold World.shape?;rw [hg]) (by unfold World.shape?;rw [hgb]) (by omega) (row_free hg (Free.none _) 0 (by simp [hl])) (by
     unfold World.frozen?
     rw [hg]
     simp)).mono ?_
   rintro _ w' ⟨rfl,rfl⟩
   have hgd : w.drew.heap[b]? = some (.cells cs 77 fz):=hgb
   obtain ⟨cs1,hg1,hs1⟩:=setCells_heap b (xs.drop (i * 6)) (o + (i + 1) * 6) w.drew cs _ fz hgd
   obtain ⟨cs',hg',hs'⟩:=setCells_heap b vs (o + i * 6) _ cs1 _ fz hg1
   have hdl : (xs.drop (i * 6)).length = (n - i) * 6:=by rw [List.length_drop,hxl];omega
   refine ⟨_,some b,rfl,row_cells hg' (by rw [hs',hs1];exact hfb) (by rw [hs',hs1];exact hsb) hroom h2 hlen' (fun j u h => ?_),.inl rfl,setCells_fr (S:=fun k => some b = some k) (.inl rfl) _ _ _ (setCells_fr (S:=fun k => some b = some k) (.inl rfl) _ _ _ (Fr.of_below (below_drew (Below.refl _ _))))⟩
   have hsd : ∀ t,t < (xs.drop (i * 6)).length → (w.drew.cell? ⟨b,o + (i + 1) * 6 + t,none⟩).isSome = true:=fun t ht => by rw [Nat.add_assoc];exact hsp _ (by omega)
   have hsp1 : ∀ k,k < c * 6 → ((w.drew.setCells b (o + (i + 1) * 6) (xs.drop (i * 6))).cell? ⟨b,o + k,none⟩).isSome = true:=fun k hk => isSome_set b _ _ _ hsd _ (hsp k hk)
   rcases ins_get hl (by omega) j u h with ⟨a,h⟩|⟨a,a',h⟩|⟨a,h⟩
   ·
    rw [World.cell?_setCells_out _ _ _ _ _ (fun _ _ => .inl (by show o + j < _;omega)),World.cell?_setCells_out _ _ _ _ _ (fun _ _ => .inl (by show o + j < _;omega))]
    exact hcx j u h
   ·
    have hin:=World.cell?_setCells_in b vs (o + i * 6) (w.drew.setCells b (o + (i + 1) * 6) (xs.drop (i * 6))) (fun t ht => by rw [Nat.add_assoc];exact hsp1 _ (by omega)) (j - i * 6) (by omega)
    rw [show o + i * 6 + (j - i * 6) = o + j by omega] at hin
    rw [hin,← h]
    exact (List.getElem?_eq_getElem (by omega)).symm
   ·
    have hj:=(List.getElem?_eq_some_iff.1 h).1
    rw [World.cell?_setCells_out _ _ _ _ _ (fun _ _ => .inr (by show _ ≤ o + j;omega))]
    have hin:=World.cell?_setCells_in b (xs.drop (i * 6)) (o + (i + 1) * 6) w.drew hsd (j - (i * 6 + 6)) hj
    rw [show o + (i + 1) * 6 + (j - (i * 6 + 6)) = o + j by omega] at hin
    rw [hin,← h]
    exact (List.getElem?_eq_getElem hj).symm
 ·
  obtain ⟨A,c,rfl,h1,h2,h3,h4⟩:=id hr
  have hroom : c < n + 1:=by
   rcases h4 with ⟨h4,_⟩|⟨b',o',cs,fz,ha,hb,_⟩
   ·
    omega
   ·
    subst ha
    by_cases h5 : n + 1 ≤ c
    ·
     exact absurd ⟨b',o',c,rfl,hb,h5⟩ h0
    ·
     omega
  by_cases hin : i = n
  ·
   subst hin
   obtain ⟨z,hzs,hz⟩:=insS_endgrow A i c vb 0 1 xs vs w h1 hroom (by omega) hxl hl (fun e => by
     rcases h4 with ⟨h4,_⟩|⟨b',o',cs,fz,ha,_⟩
     ·
      omega
     ·
      rw [e] at ha;cases ha) (fun a e j u hj => by
     subst e
     have hj':=(List.getElem?_eq_some_iff.1 hj).1
     rcases h4 with ⟨h4,_⟩|⟨b',o',cs,fz,ha,hb,_⟩
     ·
      omega
     ·
      injection ha with ha
      subst ha
      rw [Addr.add_lit]
      exact Row.cells hr j u hj) hvc h1v
   refine hz.mono ?_
   rintro _ w' ⟨rfl,rfl⟩
   have hG:=grownCap_ge w (i + 1) c 77
   have hG2 : grownCap w (i + 1) c 77 ≤ 9223372036854775807:=by
    have:=grownCap_le_maxLen w (i + 1) c 77 (by unfold maxLen;omega)
    unfold maxLen at this
    omega
   generalize grownCap w (i + 1) c 77 = G at hG hG2 ⊢
   have hg' : (w.drew.alloc (.cells ((xs ++ vs).toArray ++ Builtin.zeroCells z.cells (G - (i + 1))) 77)).heap[w.heap.size]? = some (.cells ((xs ++ vs).toArray ++ Builtin.zeroCells z.cells (G - (i + 1))) 77 (0,0)):=heap_alloc_new w.drew _
   have hzz : (Builtin.zeroCells z.cells (G - (i + 1))).size = (G - (i + 1)) * 6:=by simp [Builtin.zeroCells,hzs]
   have hsz : ((xs ++ vs).toArray ++ Builtin.zeroCells z.cells (G - (i + 1))).size = G * 6:=by
    rw [Array.size_append,hzz,List.size_toArray,List.length_append,hxl,hl]
    omega
   refine ⟨_,some w.heap.size,rfl,row_cells hg' (Free.none _) (by rw [hsz];omega) hG hG2 hlen' (fun j u h => ?_),.inr (fun k hk => by injection hk with hk;omega),Fr.of_below (below_alloc (below_drew (Below.refl _ _)) _)⟩
   rw [Nat.zero_add,cell_of_row _ _ _ _ _ _ hg',← Array.getElem?_toList,Array.toList_append,List.toList_toArray]
   rw [List.drop_eq_nil_of_le (by omega),List.append_nil,List.take_of_length_le (by omega)] at h
   rw [List.getElem?_append_left (List.getElem?_eq_some_iff.1 h).1]
   exact h
  ·
   obtain ⟨b,o,hA,hob⟩ : ∃ b o,A = some ⟨b,o,none⟩ ∧ ob = some b:=by
    rcases h4 with ⟨h4,_⟩|⟨b',o',cs,fz,ha,hb,_⟩
    ·
     omega
    ·
     exact ⟨b',o',ha,hb⟩
   subst hA
   obtain ⟨zc,hzs,hz⟩:=insS_grow b o n c i vb 0 1 xs vs w (by omega) h1 hroom (by omega) hxl hl (fun j u h => Row.cells hr j u h) hvc h1x h1v
   refine hz.mono ?_
   rintro _ w' ⟨rfl,rfl⟩
   have hG:=grownCap_ge w (n + 1) c 77
   have hG2 : grownCap w (n + 1) c 77 ≤ 9223372036854775807:=by
    have:=grownCap_le_maxLen w (n + 1) c 77 (by unfold maxLen;omega)
    unfold maxLen at this
    omega
   generalize grownCap w (n + 1) c 77 = G at hG hG2 ⊢
   obtain ⟨R,hR⟩ : ∃ R : Array Value,R = (xs.take (i * 6)).toArray ++ Builtin.zeroCells zc (n + 1 - i) ++ Builtin.zeroCells zc (G - (n + 1)):=⟨_,rfl⟩
   have hzz : ∀ m,(Builtin.zeroCells zc m).size = m * 6:=fun m => by simp [Builtin.zeroCells,hzs]
   have hsz : R.size = G * 6:=by
    rw [hR,Array.size_append,Array.size_append,hzz,hzz,List.size_toArray,List.length_take,hxl]
    omega
   rw [← hR]
   have hgR : (w.alloc (.cells R 77)).drew.heap[w.heap.size]? = some (.cells R 77 (0,0)):=heap_alloc_new w _
   obtain ⟨cs1,hg1,hs1⟩:=setCells_heap w.heap.size vs (i * 6) (w.alloc (.cells R 77)).drew R _ _ hgR
   have hg1d : ((w.alloc (.cells R 77)).drew.setCells w.heap.size (i * 6) vs).drew.heap[w.heap.size]? = some (.cells cs1 77 (0,0)):=hg1
   obtain ⟨cs',hg',hs'⟩:=setCells_heap w.heap.size (xs.drop (i * 6)) ((i + 1) * 6) _ cs1 _ _ hg1d
   have hdl : (xs.drop (i * 6)).length = (n - i) * 6:=by rw [List.length_drop,hxl];omega
   have hc0 : ∀ k,(w.alloc (.cells R 77)).drew.cell? ⟨w.heap.size,k,none⟩ = R[k]?:=fun k => cell_of_row _ _ _ _ _ _ hgR
   have hc1 : ∀ k,((w.alloc (.cells R 77)).drew.setCells w.heap.size (i * 6) vs).drew.cell? ⟨w.heap.size,k,none⟩ = ((w.alloc (.cells R 77)).drew.setCells w.heap.size (i * 6) vs).cell? ⟨w.heap.size,k,none⟩:=fun k => rfl
   have hsR : ∀ k,k < G * 6 → ((w.alloc (.cells R 77)).drew.cell? ⟨w.heap.size,k,none⟩).isSome = true:=fun k hk => by
    rw [hc0,Array.getElem?_eq_getElem (by omega)]
    rfl
   have hsv : ∀ t,t < vs.length → ((w.alloc (.cells R 77)).drew.cell? ⟨w.heap.size,i * 6 + t,none⟩).isSome = true:=fun t ht => hsR _ (by omega)
   have hs2 : ∀ t,t < (xs.drop (i * 6)).length → (((w.alloc (.cells R 77)).drew.setCells w.heap.size (i * 6) vs).drew.cell? ⟨w.heap.size,(i + 1) * 6 + t,none⟩).isSome = true:=fun t ht => by
    rw [hc1]
    exact isSome_set _ _ _ _ hsv _ (hsR _ (by omega))
   refine ⟨_,some w.heap.size,rfl,row_cells hg' (Free.none _) (by rw [hs',hs1,hsz];omega) hG hG2 hlen' (fun j u h => ?_),.inr (fun k hk => by injection hk with hk;omega),?_⟩
   ·
    rw [Nat.zero_add]
    rcases ins_get hl (by omega) j u h with ⟨a,h⟩|⟨a,a',h⟩|⟨a,h⟩
    ·
     rw [World.cell?_setCells_out _ _ _ _ _ (fun _ _ => .inl (by show j < _;omega)),hc1,World.cell?_setCells_out _ _ _ _ _ (fun _ _ => .inl (by show j < _;omega)),hc0,hR,← Array.getElem?_toList,Array.toList_append,Array.toList_append,List.toList_toArray,List.append_assoc,
      List.getElem?_append_left (by rw [List.length_take];omega),List.getElem?_take,if_pos a]
     exact h
    ·
     rw [World.cell?_setCells_out _ _ _ _ _ (fun _ _ => .inl (by show j < _;omega)),hc1]
     have hin:=World.cell?_setCells_in w.heap.size vs (i * 6) (w.alloc (.cells R 77)).drew hsv (j - i * 6) (by omega)
     rw [show i * 6 + (j - i * 6) = j by omega] at hin
     rw [hin,← h]
     exact (List.getElem?_eq_getElem (by omega)).symm
    ·
     have hj:=(List.getElem?_eq_some_iff.1 h).1
     have hin:=World.cell?_setCells_in w.heap.size (xs.drop (i * 6)) ((i + 1) * 6) _ hs2 (j - (i * 6 + 6)) hj
     rw [show (i + 1) * 6 + (j - (i * 6 + 6)) = j by omega] at hin
     rw [hin,← h]
     exact (List.getElem?_eq_getElem hj).symm
   ·
    refine setCells_fr (.inr (Nat.le_refl _)) _ _ _ (Fr.trans (S':=fun _ => False) ?_ (Fr.of_below (below_drew (Below.refl _ _))) (fun _ h => h.elim))
    exact setCells_fr (.inr (Nat.le_refl _)) _ _ _ (Fr.of_below (below_drew (below_alloc (Below.refl _ _) _)))
theorem delW_row (w : World) (v : Value) (n i : Nat) (xs : List Value) (ob : Option Nat) (hr : Row w 73 2 v n xs ob) (hi : i < n) (h1x : ∀ u ∈ xs,u.oneCell' = true) :
  Calls Try.prog 119 #[v,.int .i64 i,.int .i64 ((i : Int) + 1)] w fun r w' => ∃ v',r = .returned v' ∧ Row w' 73 2 v' (n - 1) (xs.take (i * 2) ++ xs.drop ((i + 1) * 2)) ob ∧ Fr (fun k => ob = some k) w w':=by
 have hxl : xs.length = n * 2:=hr.len
 obtain ⟨b,o,c,cs,fz,rfl,h1,h2,rfl,hgb,hfb,hsb,-,-⟩:=hr.at_ (by omega)
 have hsp : ∀ j,j < c * 2 → (w.cell? ⟨b,o + j,none⟩).isSome = true:=fun j hj => by
  rw [cell_of_row w b _ cs _ fz hgb,Array.getElem?_eq_getElem (by omega)]
  rfl
 have hfz : ∀ j,j < n * 2 → w.frozen? ⟨b,o + j,none⟩ = false:=fun j hj => row_free hgb hfb (o + j) (by omega)
 refine (delW b o n c i xs w hi h1 h2 hxl (fun j u h => Row.cells hr j u h) hfz h1x).mono ?_
 rintro _ w' ⟨rfl,rfl⟩
 have hgd : w.drew.heap[b]? = some (.cells cs 73 fz):=hgb
 obtain ⟨cs1,hg1,hs1⟩:=setCells_heap b (xs.drop ((i + 1) * 2)) (o + i * 2) w.drew cs _ fz hgd
 obtain ⟨cs',hg',hs'⟩:=setCells_heap b [.int .i64 0,.int .i64 0] (o + (n - 1) * 2) _ cs1 _ fz hg1
 have hdl : (xs.drop ((i + 1) * 2)).length = (n - 1 - i) * 2:=by rw [List.length_drop,hxl];omega
 have htl : (xs.take (i * 2)).length = i * 2:=by rw [List.length_take];omega
 refine ⟨_,rfl,row_cells hg' (by rw [hs',hs1];exact hfb) (by rw [hs',hs1];exact hsb) (by omega) h2 (by rw [List.length_append,htl,hdl];omega) (fun j u h => ?_),setCells_fr (S:=fun k => some b = some k) (.inl rfl) _ _ _ (setCells_fr (S:=fun k => some b = some k) (.inl rfl) _ _ _ (Fr.of_below (below_drew (Below.refl _ _))))⟩
 have hjl:=(List.getElem?_eq_some_iff.1 h).1
 rw [List.length_append,htl,hdl] at hjl
 rw [World.cell?_setCells_out _ _ _ _ _ (fun _ _ => .inl (by show o + j < _;omega))]
 by_cases hj : j < i * 2
 ·
  rw [World.cell?_setCells_out _ _ _ _ _ (fun _ _ => .inl (by show o + j < _;omega))]
  rw [List.getElem?_append_left (by omega),List.getElem?_take,if_pos hj] at h
  exact Row.cells hr j u h
 ·
  rw [List.getElem?_append_right (by omega),htl] at h
  have hin:=World.cell?_setCells_in b (xs.drop ((i + 1) * 2)) (o + i * 2) w.drew (fun t ht => by rw [Nat.add_assoc];exact hsp _ (by omega)) (j - i * 2) (by omega)
  rw [show o + i * 2 + (j - i * 2) = o + j by omega] at hin
  rw [hin,← h]
  exact (List.getElem?_eq_getElem (by omega)).symm
theorem appW_run (w : World) (v : Value) (n : Nat) (xs vs : List Value) (ob : Option Nat) (vb : Nat) (hr : Row w 73 2 v n xs ob) (hn : n ≤ 1000) (hl : vs.length = 2) (hg : w.heap[vb]? = some (.cells vs.toArray 73 (0,0))) (h1v : ∀ u ∈ vs,u.oneCell' = true) :
  ∃ v' w' ob',(Builtin.append_ #[68,68] 68 #[v,.slice (some ⟨vb,0,none⟩) 1 1]).run Try.prog w = .ok v' w' ∧ Row w' 73 2 v' (n + 1) (xs ++ vs) ob' ∧ (ob' = ob ∨ ∀ k,ob' = some k → w.heap.size ≤ k) ∧ Fr (fun k => ob = some k) w w':=by
 have hxl : xs.length = n * 2:=hr.len
 have hvc : ∀ j u,vs[j]? = some u → w.cell? ⟨vb,0 + j,none⟩ = some u:=fun j u h => by
  rw [Nat.zero_add,cell_of_row w vb _ vs.toArray _ _ hg]
  simpa using h
 have hlen' : (xs ++ vs).length = (n + 1) * 2:=by rw [List.length_append,hl,hxl];omega
 obtain ⟨i0,hi0,hz1⟩:=Option.map_eq_some_iff.1 (show (Try.prog.info? 73).map (fun i => (i.size,i.bytes,i.zero.map (fun z => z.cells.size))) = some (2,16,some 2) by kernel_rfl)
 simp only [Prod.mk.injEq] at hz1
 obtain ⟨hz0,hzb,hzz⟩:=hz1
 obtain ⟨z,hz,hzs⟩:=Option.map_eq_some_iff.1 hzz
 have hsrc : Src Try.prog i0.size 68 (.slice (some ⟨vb,0,none⟩) 1 1) 1 vs w:=by
  rw [hz0]
  exact Src.ofSlice w Try.underlying68 ⟨vb,0,none⟩ 1 1 vs (by omega) (fun j u hj => by rw [Addr.add_lit];exact hvc j u hj) h1v
 obtain ⟨A,c,rfl,h1,h2,h3,h4⟩:=id hr
 by_cases hroom : n + 1 ≤ c
 ·
  rcases h4 with ⟨h4,_⟩|⟨b,o,cs,fz,rfl,rfl,hgb,hfb,hsb,hx⟩
  ·
   omega
  have hsp : ∀ j,j < c * 2 → (w.cell? ⟨b,o + j,none⟩).isSome = true:=fun j hj => by
   rw [cell_of_row w b _ cs _ fz hgb,Array.getElem?_eq_getElem (by omega)]
   rfl
  have hfz : ∀ j,j < c * 2 → w.frozen? ⟨b,o + j,none⟩ = false:=fun j hj => row_free hgb hfb (o + j) (by omega)
  have hrun:=run_append_room_src (P:=Try.prog) (w:=w) 68 68 68 73 i0 Try.underlying68 hi0 b o n c _ 1 vs hsrc hroom (by rw [hl,hz0];exact fun j hj => by rw [Nat.add_assoc];exact hsp _ (by omega)) (by rw [hl,hz0];exact fun j hj => by rw [Nat.add_assoc];exact hfz _ (by omega))
  rw [hz0] at hrun
  obtain ⟨cs',hg',hs'⟩:=setCells_heap b vs (o + n * 2) w cs _ fz hgb
  refine ⟨_,_,some b,hrun,row_cells hg' (by rw [hs'];exact hfb) (by rw [hs'];exact hsb) hroom h2 hlen' (fun j u h => ?_),.inl rfl,setCells_fr (S:=fun k => some b = some k) (.inl rfl) _ _ _ (Fr.refl _ _)⟩
  by_cases hj : j < n * 2
  ·
   rw [World.cell?_setCells_out _ _ _ _ _ (fun _ _ => .inl (by show o + j < _;omega))]
   rw [List.getElem?_append_left (by omega)] at h
   exact Row.cells hr j u h
  ·
   have hjl:=(List.getElem?_eq_some_iff.1 h).1
   rw [hlen'] at hjl
   rw [List.getElem?_append_right (by omega),hxl] at h
   have hin:=World.cell?_setCells_in b vs (o + n * 2) w (fun t ht => by rw [Nat.add_assoc];exact hsp _ (by omega)) (j - n * 2) (by omega)
   rw [show o + n * 2 + (j - n * 2) = o + j by omega] at hin
   rw [hin,← h]
   exact (List.getElem?_eq_getElem (by omega)).symm
 ·
  have hold : (Builtin.firstCells i0.size n (.slice A n c)).run Try.prog w.drew = .ok xs.toArray w.drew:=by
   rw [hz0]
   cases A with
   | none =>
    have h0 : n = 0:=by
     rcases h4 with ⟨h4,_⟩|⟨b',o',cs,fz,ha,_⟩
     ·
      omega
     ·
      cases ha
    subst h0
    rw [List.length_eq_zero_iff.1 (by omega : xs.length = 0)]
    exact run_firstCells_none w.drew 2 0 0 c
   | some a => exact run_firstCells_some w.drew 2 n a n c xs hxl (fun j u hj => by
     have hj':=(List.getElem?_eq_some_iff.1 hj).1
     rcases h4 with ⟨h4,_⟩|⟨b',o',cs,fz,ha,hb,_⟩
     ·
      omega
     ·
      injection ha with ha
      subst ha
      rw [Addr.add_lit]
      exact Row.cells hr j u hj)
  have hrun:=run_append_grow_src w 68 68 68 73 i0 z Try.underlying68 hi0 hz A n c xs hold _ 1 vs hsrc (by omega) (by omega) (by rw [hzb];exact growslice_fits (by omega) (by omega))
  have hG:=grownCap_ge w (n + 1) c 73
  have hG2 : grownCap w (n + 1) c 73 ≤ 9223372036854775807:=by
   have:=grownCap_le_maxLen w (n + 1) c 73 (by unfold maxLen;omega)
   unfold maxLen at this
   omega
  generalize grownCap w (n + 1) c 73 = G at hG hG2 hrun
  have hg' : (w.drew.alloc (.cells ((xs ++ vs).toArray ++ Builtin.zeroCells z.cells (G - (n + 1))) 73)).heap[w.heap.size]? = some (.cells ((xs ++ vs).toArray ++ Builtin.zeroCells z.cells (G - (n + 1))) 73 (0,0)):=heap_alloc_new w.drew _
  have hzz : (Builtin.zeroCells z.cells (G - (n + 1))).size = (G - (n + 1)) * 2:=by simp [Builtin.zeroCells,hzs]
  have hsz : ((xs ++ vs).toArray ++ Builtin.zeroCells z.cells (G - (n + 1))).size = G * 2:=by
   rw [Array.size_append,hzz,List.size_toArray,hlen']
   omega
  refine ⟨_,_,some w.heap.size,hrun,row_cells hg' (Free.none _) (by rw [hsz];omega) hG hG2 hlen' (fun j u h => ?_),.inr (fun k hk => by injection hk with hk;omega),Fr.of_below (below_alloc (below_drew (Below.refl _ _)) _)⟩
  rw [Nat.zero_add,cell_of_row _ _ _ _ _ _ hg',← Array.getElem?_toList,Array.toList_append,List.toList_toArray]
  rw [List.getElem?_append_left (List.getElem?_eq_some_iff.1 h).1]
  exact h
end Go.Proofs.Ytjkanhjapddhnaa.InsR
