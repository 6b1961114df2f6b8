/- slices.Insert of one element, at rows of structs: the library's text walked (after the kit's own at []string), at any offset. No condition. -/
-- squeezed
import Derived.Test.YtjkanhjapddhnaaMarkT
import Derived.Lib.JoinLaws
import Derived.Lib.AppendZerosOnto
import Derived.Lib.Overlaps
import Derived.Laws.IdiomCopy
import Derived.Laws.NewBlocks
import Derived.Laws.Externs
import Derived.Shelf.RegionOpenPlain
namespace Go.Proofs.Ytjkanhjapddhnaa.Ins
open Go.RowKit Go.Lib Go.Proofs.YtjkanhjapddhnaaV.PrintWords Go.Proofs.YtjkanhjapddhnaaV.PrintMore Go.Proofs.Ytjkanhjapddhnaa.Own
set_option linter.unusedVariables false
set_option linter.unusedSimpArgs false
set_option maxHeartbeats 20000000
set_option maxRecDepth 100000
section
variable {P : Program}
theorem run_copy_n (w : World) (dT sT ty elem : TypeId) (sz : Nat) (b o dLen dCap : Nat) (a : Addr) (sLen sCap : Nat) (cs : List Value)
  (hu : P.underlying dT = some (.slice elem)) (hs : (P.info? elem).map (·.size) = some sz) (hn : cs.length = Nat.min sLen dLen * sz)
  (hsrc : ∀ j v,cs[j]? = some v → w.cell? (a.add j) = some v) (hc : ∀ j,j < cs.length → (w.cell? ⟨b,o + j,none⟩).isSome = true) (hf : ∀ j,j < cs.length → w.frozen? ⟨b,o + j,none⟩ = false) (h1 : ∀ v ∈ cs,v.oneCell' = true) :
  (Builtin.copy_ #[dT,sT] ty #[.slice (some ⟨b,o,none⟩) dLen dCap,.slice (some a) sLen sCap]).run P w = .ok (goInt (Nat.min sLen dLen : Nat)) (w.setCells b o cs):=by
 have hl:=run_loadCells_list (P:=P) w a cs hsrc
 have hst:=run_storeCells_cells (P:=P) b o cs 0 w (by simpa using hc) (by simpa using hf) h1
 cases hq : P.info? elem with
 | none => simp [hq] at hs
 | some i =>
  have hi : i.size = sz:=by simpa [hq] using hs
  simp [Builtin.copy_,run_underlying hu,Builtin.lenOf,Builtin.firstCells,sizeOf,typeInfo,hq,hi,← hn,hl,hst]
theorem step_copy_run1 {ops : Array Oper} {o : Oper} {a : Act} {w : World} {K : Act → World → Prop} {Q : Exit → Act → World → Prop} {E : Prop}
  (hg : o.guard = none) (d x : Operand) (dT sT : TypeId) (hop : o.op = Op.call { callee:=Callee.builtin Builtin.copy,args:=#[d,x],argTypes:=#[dT,sT] })
  (v u : Value) (hd : a.eval d = v) (hx : a.eval x = u) {v' : Value} {w' : World} (hr : (Builtin.copy_ #[dT,sT] o.type #[v,u]).run P w = .ok v' w') (hK : K (a.put o.dst v') w') :
  if Region.wanted o (yielded ops a.tmps) = true then Oper.wp P o a w K Q else E:=by
 have hw : Region.wanted o (yielded ops a.tmps) = true:=by simp [Region.wanted,hg]
 rw [if_pos hw]
 unfold Oper.wp
 simp [execOp,hop,resolve,invoke,builtin,hd,hx,hr,Result.andThen]
 exact hK
theorem isSome_set (b : Nat) (vs : List Value) (o : Nat) (w : World) (h : ∀ j,j < vs.length → (w.cell? ⟨b,o + j,none⟩).isSome = true) (k : Nat) (hk : (w.cell? ⟨b,k,none⟩).isSome = true) : ((w.setCells b o vs).cell? ⟨b,k,none⟩).isSome = true:=by
 by_cases hin : o ≤ k ∧ k < o + vs.length
 ·
  have:=World.cell?_setCells_in b vs o w h (k - o) (by omega)
  rw [show o + (k - o) = k by omega] at this
  rw [this];rfl
 ·
  rw [World.cell?_setCells_out b vs o w ⟨b,k,none⟩ (fun _ _ => by show k < o ∨ o + vs.length ≤ k;omega)]
  exact hk
end
theorem insL_shift (b off n c i vb voff vc : Nat) (cs vs : List Value) (w : World) (hi : i < n) (hroom : n + 1 ≤ c) (hc63 : c ≤ 9223372036854775807) (hvb : vb ≠ b)
  (hcl : cs.length = n * 5) (hvl : vs.length = 5)
  (hcs : ∀ j v,cs[j]? = some v → w.cell? ⟨b,off + j,none⟩ = some v) (hsp : ∀ j,j < (n + 1) * 5 → (w.cell? ⟨b,off + j,none⟩).isSome = true) (hfz : ∀ j,j < (n + 1) * 5 → w.frozen? ⟨b,off + j,none⟩ = false)
  (hvs : ∀ j v,vs[j]? = some v → w.cell? ⟨vb,voff + j,none⟩ = some v) (h1c : ∀ v ∈ cs,v.oneCell' = true) (h1v : ∀ v ∈ vs,v.oneCell' = true)
  (tA tB : TypeId) (kA kB : Nat) (hsa : w.shape? vb = some (tA,kA)) (hsb : w.shape? b = some (tB,kB)) (hkB : kB ≠ 0) (hfa : w.frozen? ⟨vb,voff,none⟩ = false) (hfe : w.frozen? ⟨vb,kA,none⟩ = false) :
  Calls Try.prog 130 #[.slice (some ⟨b,off,none⟩) n c,.int .i64 i,.slice (some ⟨vb,voff,none⟩) 1 vc] w fun e w' =>
   e = .returned (.slice (some ⟨b,off,none⟩) (n + 1) c) ∧ w' = (w.drew.setCells b (off + (i + 1) * 5) (cs.drop (i * 5))).setCells b (off + i * 5) vs:=by
 have hz2 : ¬ ((i : Int) = (n : Int)):=by omega
 have hin : i ≤ n:=by omega
 have hsz : (Try.prog.info? 70).map (·.size) = some 5:=by kernel_rfl
 have hov : ∀ lb cb,(callFunc 135 #[.slice (some ⟨vb,voff,none⟩) 1 vc,.slice (some ⟨b,off + (i + 1) * 5,none⟩) lb cb]).run Try.prog w = .ok (.value (.bool false)) w:=fun lb cb => by
  rw [run_callFunc_extern Try.func135 (by kernel_rfl) (by kernel_rfl) (by kernel_rfl) (e:=Extern.SlicesOverlaps.overlaps #[28,28] #[4]) (by kernel_rfl),
   Lib.run_overlaps_apart w 28 4 70 Try.underlying28 5 (fun w => by kernel_rfl) ⟨vb,voff,none⟩ ⟨b,off + (i + 1) * 5,none⟩ 1 vc lb cb hvb tA tB kA kB hsa hsb hkB hfa hfe]
  rfl
 have hdl : (cs.drop (i * 5)).length = (n - i) * 5:=by rw [List.length_drop,hcl];omega
 have hcp1 : ∀ ty dc sc,(Builtin.copy_ #[28,28] ty #[.slice (some ⟨b,off + (i + 1) * 5,none⟩) (n - i) dc,.slice (some ⟨b,off + i * 5,none⟩) (n + 1 - i) sc]).run Try.prog w.drew = .ok (goInt (n - i : Nat)) (w.drew.setCells b (off + (i + 1) * 5) (cs.drop (i * 5))):=fun ty dc sc => by
  have h:=run_copy_n (P:=Try.prog) w.drew 28 28 ty 70 5 b (off + (i + 1) * 5) (n - i) dc ⟨b,off + i * 5,none⟩ (n + 1 - i) sc (cs.drop (i * 5)) Try.underlying28 hsz (by rw [hdl,show Nat.min (n + 1 - i) (n - i) = n - i by simp only [Nat.min_def];split <;> omega])
   (fun j v hj => by rw [Addr.add_lit,Nat.add_assoc];exact hcs (i * 5 + j) v (by rwa [List.getElem?_drop] at hj))
   (fun j hj => by rw [Nat.add_assoc];exact hsp _ (by omega)) (fun j hj => by rw [Nat.add_assoc];exact hfz _ (by omega)) (fun v hv => h1c v (List.mem_of_mem_drop hv))
  rw [show Nat.min (n + 1 - i) (n - i) = n - i by simp only [Nat.min_def];split <;> omega] at h
  exact h
 obtain ⟨W1,hW1⟩ : ∃ W1,W1 = w.drew.setCells b (off + (i + 1) * 5) (cs.drop (i * 5)):=⟨_,rfl⟩
 have hsp1 : ∀ k,k < (n + 1) * 5 → (W1.cell? ⟨b,off + k,none⟩).isSome = true:=fun k hk => by
  rw [hW1]
  exact isSome_set b _ _ _ (fun j hj => by rw [Nat.add_assoc];exact hsp _ (by omega)) _ (hsp k hk)
 have hcp2 : ∀ (W : World),(∀ x,W.cell? x = W1.cell? x) → (∀ x,W.frozen? x = W1.frozen? x) → ∀ ty dc,(Builtin.copy_ #[28,28] ty #[.slice (some ⟨b,off + i * 5,none⟩) (n + 1 - i) dc,.slice (some ⟨vb,voff,none⟩) 1 vc]).run Try.prog W = .ok (goInt (1 : Nat)) (W.setCells b (off + i * 5) vs):=fun W hWc hWf ty dc => by
  have h:=run_copy_n (P:=Try.prog) W 28 28 ty 70 5 b (off + i * 5) (n + 1 - i) dc ⟨vb,voff,none⟩ 1 vc vs Try.underlying28 hsz (by rw [hvl,show Nat.min 1 (n + 1 - i) = 1 by simp only [Nat.min_def];split <;> omega])
   (fun j v hj => by
    rw [Addr.add_lit,hWc,hW1,World.cell?_setCells_out b _ _ _ _ (fun h _ => absurd h hvb)]
    exact hvs j v hj)
   (fun j hj => by rw [hWc,Nat.add_assoc];exact hsp1 _ (by omega)) (fun j hj => by rw [hWf,hW1,World.frozen?_setCells,Nat.add_assoc];exact hfz _ (by omega)) h1v
  rw [show Nat.min 1 (n + 1 - i) = 1 by simp only [Nat.min_def];split <;> omega] at h
  exact h
 rw [← hW1] at hcp1
 have HC1:=Aside0.mk hcp1
 have HW1:=Aside0.mk hW1
 have HC2:=Aside0.mk hcp2
 have mixed : Try.prog.follows .mixedOrders = true:=by kernel_rfl
 have hw1 : IntKind.i64.wrap ((i : Int) + 1) = (i : Int) + 1:=by rw [IntKind.wrap_i64];omega
 have hb1 : (0 : Int) ≤ (i : Int) + 1:=by omega
 have htn : ((i : Int) + 1).toNat = i + 1:=by omega
 have hb2 : ¬ (c = i + 1):=by omega
 have hb3 : (i : Int) ≤ (n : Int) + 1:=by omega
 have hb4 : ¬ (c = i):=by omega
 clear hcp1 hcp2 hsp1 hdl hsz hcs hsp hfz hvs h1c h1v hsa hsb hfa hfe hcl hvl hW1
 go_enter Try.func130,Try.ntmps130
 go_wp2_with (simp only [hov])
 go_region_law_o (refine step_copy_run1 rfl _ _ 28 28 rfl (.slice (some ⟨b,off + (i + 1) * 5,none⟩) (n - i) (c - (i + 1))) (.slice (some ⟨b,off + i * 5,none⟩) (n + 1 - i) (c - i)) (by simp [Act.eval,Act.put]) (by simp [Act.eval,Act.put]) (HC1.out 3 (c - (i + 1)) (c - i)) ?_)
 have hq2:=HC2.out W1 (fun _ => rfl) (fun _ => rfl) 3 (c - i)
 go_wp2_with (simp only [hq2])
 go_ret
 first|exact ⟨rfl,rfl⟩|exact ⟨rfl,by rw [HW1.out]⟩
theorem insL_room (b off n c vb voff vc : Nat) (vs : List Value) (w : World) (hroom : n + 1 ≤ c) (hc63 : c ≤ 9223372036854775807)
  (hvl : vs.length = 5) (hsp : ∀ j,j < 5 → (w.cell? ⟨b,off + n * 5 + j,none⟩).isSome = true) (hfz : ∀ j,j < 5 → w.frozen? ⟨b,off + n * 5 + j,none⟩ = false)
  (hvs : ∀ j v,vs[j]? = some v → w.cell? ⟨vb,voff + j,none⟩ = some v) (h1v : ∀ v ∈ vs,v.oneCell' = true) :
  Calls Try.prog 130 #[.slice (some ⟨b,off,none⟩) n c,.int .i64 n,.slice (some ⟨vb,voff,none⟩) 1 vc] w fun e w' =>
   e = .returned (.slice (some ⟨b,off,none⟩) (n + 1) c) ∧ w' = w.setCells b (off + n * 5) vs:=by
 obtain ⟨i0,hi0,hz0⟩:=Option.map_eq_some_iff.1 (show (Try.prog.info? 70).map (·.size) = some 5 by kernel_rfl)
 have hsrc : Src Try.prog i0.size 28 (.slice (some ⟨vb,voff,none⟩) 1 vc) 1 vs w:=by
  rw [hz0]
  exact Src.ofSlice w Try.underlying28 ⟨vb,voff,none⟩ 1 vc vs (by omega) (fun j u hj => by rw [Addr.add_lit];exact hvs j u hj) h1v
 have hrun:=run_append_room_src (P:=Try.prog) (w:=w) 28 28 28 70 i0 Try.underlying28 hi0 b off n c _ 1 vs hsrc hroom (by rw [hvl,hz0];exact hsp) (by rw [hvl,hz0];exact hfz)
 rw [hz0] at hrun
 clear hsrc hsp hfz hvs h1v hz0 hi0 hvl
 go_enter Try.func130,Try.ntmps130
 go_wp2_with (at_builtin;refine Lib.wpList_append_run _ rfl _ _ _ _ rfl _ _ rfl rfl _ _ hrun ?_)
 go_ret
 exact ⟨rfl,rfl⟩
theorem insL_endgrow (base : Option Addr) (n c vb voff vc : Nat) (cs vs : List Value) (w : World) (hnc : n ≤ c) (hroom : c < n + 1) (hbig : (n + 1) * 64 ≤ 140737488355328)
  (hcl : cs.length = n * 5) (hvl : vs.length = 5) (hnil : base = none → n = 0)
  (hcs : ∀ a,base = some a → ∀ j v,cs[j]? = some v → w.cell? (a.add j) = some v)
  (hvs : ∀ j v,vs[j]? = some v → w.cell? ⟨vb,voff + j,none⟩ = some v) (h1v : ∀ v ∈ vs,v.oneCell' = true) :
  ∃ z : Value,z.cells.size = 5 ∧ Calls Try.prog 130 #[.slice base n c,.int .i64 n,.slice (some ⟨vb,voff,none⟩) 1 vc] w fun e w' =>
   e = .returned (.slice (some ⟨w.heap.size,0,none⟩) (n + 1) (grownCap w (n + 1) c 70)) ∧
   w' = w.drew.alloc (.cells ((cs ++ vs).toArray ++ Builtin.zeroCells z.cells (grownCap w (n + 1) c 70 - (n + 1))) 70):=by
 obtain ⟨i0,hi0,hz1⟩:=Option.map_eq_some_iff.1 (show (Try.prog.info? 70).map (fun i => (i.size,i.bytes,i.zero.map (fun z => z.cells.size))) = some (5,64,some 5) by kernel_rfl)
 simp only [Prod.mk.injEq] at hz1
 obtain ⟨hz0,hzb,hzz⟩:=hz1
 obtain ⟨z,hz,hzs⟩:=Option.map_eq_some_iff.1 hzz
 refine ⟨z,hzs,?_⟩
 have hsrc : Src Try.prog i0.size 28 (.slice (some ⟨vb,voff,none⟩) 1 vc) 1 vs w:=by
  rw [hz0]
  exact Src.ofSlice w Try.underlying28 ⟨vb,voff,none⟩ 1 vc vs (by omega) (fun j u hj => by rw [Addr.add_lit];exact hvs j u hj) h1v
 have hold : (Builtin.firstCells i0.size n (.slice base n c)).run Try.prog w.drew = .ok cs.toArray w.drew:=by
  rw [hz0]
  cases base with
  | none =>
   have h0:=hnil rfl
   subst h0
   rw [List.length_eq_zero_iff.1 (by omega : cs.length = 0)]
   exact run_firstCells_none w.drew 5 0 0 c
  | some a => exact run_firstCells_some w.drew 5 n a n c cs hcl (fun j v hj => hcs a rfl j v hj)
 have hrun:=run_append_grow_src w 28 28 28 70 i0 z Try.underlying28 hi0 hz base n c cs hold _ 1 vs hsrc hroom (by omega) (by rw [hzb];exact growslice_fits hroom (by omega))
 clear hsrc hold hcs hvs h1v hz0 hi0 hvl hcl hz hzz hzb hzs
 generalize z.cells = zc at hrun ⊢
 go_enter Try.func130,Try.ntmps130
 cases base with
 | none =>
  have h0:=hnil rfl
  subst h0
  go_wp2_with (at_builtin;refine Lib.wpList_append_run _ rfl _ _ _ _ rfl _ _ rfl rfl _ _ hrun ?_)
  go_ret
  exact ⟨rfl,rfl⟩
 | some a =>
  obtain ⟨ab,ao,asp⟩:=a
  go_wp2_with (at_builtin;refine Lib.wpList_append_run _ rfl _ _ _ _ rfl _ _ rfl rfl _ _ hrun ?_)
  all_goals (go_ret;exact ⟨rfl,rfl⟩)
theorem insL_grow (b off n c i vb voff vc : Nat) (cs vs : List Value) (w : World) (hi : i < n) (hnc : n ≤ c) (hroom : c < n + 1) (hbig : (n + 1) * 64 ≤ 140737488355328)
  (hcl : cs.length = n * 5) (hvl : vs.length = 5)
  (hcs : ∀ j v,cs[j]? = some v → w.cell? ⟨b,off + j,none⟩ = some v)
  (hvs : ∀ j v,vs[j]? = some v → w.cell? ⟨vb,voff + j,none⟩ = some v) (h1c : ∀ v ∈ cs,v.oneCell' = true) (h1v : ∀ v ∈ vs,v.oneCell' = true) :
  ∃ zc : Array Value,zc.size = 5 ∧ Calls Try.prog 130 #[.slice (some ⟨b,off,none⟩) n c,.int .i64 i,.slice (some ⟨vb,voff,none⟩) 1 vc] w fun e w' =>
   e = .returned (.slice (some ⟨w.heap.size,0,none⟩) (n + 1) (grownCap w (n + 1) c 70)) ∧
   w' = (((w.alloc (.cells ((cs.take (i * 5)).toArray ++ Builtin.zeroCells zc (n + 1 - i) ++ Builtin.zeroCells zc (grownCap w (n + 1) c 70 - (n + 1))) 70)).drew.setCells w.heap.size (i * 5) vs).drew).setCells w.heap.size ((i + 1) * 5) (cs.drop (i * 5)):=by
 obtain ⟨i0,hi0,hz1⟩:=Option.map_eq_some_iff.1 (show (Try.prog.info? 70).map (fun i => (i.size,i.bytes,i.zero.map (fun z => z.cells.size))) = some (5,64,some 5) by kernel_rfl)
 simp only [Prod.mk.injEq] at hz1
 obtain ⟨hz0,hzb,hzz⟩:=hz1
 obtain ⟨z,hz,hzs⟩:=Option.map_eq_some_iff.1 hzz
 refine ⟨z.cells,hzs,?_⟩
 have hz2 : ¬ ((i : Int) = (n : Int)):=by omega
 have hz3 : (c : Int) < (n : Int) + 1:=by omega
 have hsz : (Try.prog.info? 70).map (·.size) = some 5:=by kernel_rfl
 have hbw : b < w.heap.size:=World.block_lt_of_cell? w _ (hcs 0 _ (List.getElem?_eq_getElem (by omega)))
 have hvw : vb < w.heap.size:=World.block_lt_of_cell? w _ (hvs 0 _ (List.getElem?_eq_getElem (by omega)))
 have hkk : (n : Int) + 1 - (i : Int) = ((n + 1 - i : Nat) : Int):=by omega
 have hik : i + (n + 1 - i) = n + 1:=by omega
 have hold : (Builtin.firstCells i0.size i (.slice (some ⟨b,off,none⟩) i c)).run Try.prog w.drew = .ok (cs.take (i * 5)).toArray w.drew:=by
  rw [hz0]
  exact run_firstCells_some w.drew 5 i ⟨b,off,none⟩ i c (cs.take (i * 5)) (by rw [List.length_take];omega) (fun j v hj => by
   rw [Addr.add_lit]
   rw [List.getElem?_take] at hj
   split at hj
   ·
    exact hcs j v hj
   ·
    cases hj)
 have hrz : ∀ ty,(Builtin.append_ #[28,3] ty #[.slice (some ⟨b,off,none⟩) i c,.int .i64 ((n : Int) + 1 - (i : Int))]).run Try.prog w =
   .ok (.slice (some ⟨w.heap.size,0,none⟩) (n + 1) (grownCap w (n + 1) c 70)) (w.drew.alloc (.cells ((cs.take (i * 5)).toArray ++ Builtin.zeroCells z.cells (n + 1 - i) ++ Builtin.zeroCells z.cells (grownCap w (n + 1) c 70 - (n + 1))) 70)):=fun ty => by
  have h:=Lib.run_append_grow_zeros (P:=Try.prog) w 28 3 ty 70 i0 z .i64 .i64 Try.underlying28 Try.underlying3 hi0 hz (some ⟨b,off,none⟩) i c (cs.take (i * 5)) hold (n + 1 - i) (by omega) (by omega) (by omega) (by omega) (by rw [hzb];omega) (by rw [hzb,hik];exact growslice_fits hroom (by omega))
  rw [hik] at h
  rw [hkk]
  exact h
 obtain ⟨G,hG⟩ : ∃ G,G = grownCap w (n + 1) c 70:=⟨_,rfl⟩
 obtain ⟨ROW,hROW⟩ : ∃ ROW : Array Value,ROW = (cs.take (i * 5)).toArray ++ Builtin.zeroCells z.cells (n + 1 - i) ++ Builtin.zeroCells z.cells (G - (n + 1)):=⟨_,rfl⟩
 rw [← hG] at hrz ⊢
 rw [← hROW] at hrz ⊢
 have hRl : (n + 1) * 5 ≤ ROW.size:=by
  rw [hROW]
  have : (Builtin.zeroCells z.cells (n + 1 - i)).size = (n + 1 - i) * 5:=by simp [Builtin.zeroCells,hzs]
  simp only [Array.size_append,List.size_toArray,List.length_take,this]
  omega
 obtain ⟨W1,hW1⟩ : ∃ W1,W1 = w.drew.alloc (.cells ROW 70):=⟨_,rfl⟩
 rw [← hW1] at hrz
 have hN : ∀ j,j < (n + 1) * 5 → (W1.cell? ⟨w.heap.size,j,none⟩).isSome = true:=fun j hj => by
  rw [hW1,World.cell?_alloc_at (w:=w.drew) ROW _ w.heap.size j rfl,Array.getElem?_eq_getElem (by omega)];rfl
 have hNf : ∀ j,W1.frozen? ⟨w.heap.size,j,none⟩ = false:=fun j => by rw [hW1];exact World.frozen?_alloc_at (w:=w.drew) ROW _ w.heap.size j rfl
 have hOb : ∀ j v,w.cell? ⟨b,j,none⟩ = some v → W1.cell? ⟨b,j,none⟩ = some v:=fun j v h => by rw [hW1,World.cell?_alloc_past (w:=w.drew) _ b j hbw];exact h
 have hOv : ∀ j v,w.cell? ⟨vb,j,none⟩ = some v → W1.cell? ⟨vb,j,none⟩ = some v:=fun j v h => by rw [hW1,World.cell?_alloc_past (w:=w.drew) _ vb j hvw];exact h
 have e1 : Nat.min 1 (n + 1 - i) = 1:=by simp only [Nat.min_def];split <;> omega
 have e2 : Nat.min (n - i) (n - i) = n - i:=by simp only [Nat.min_def];split <;> omega
 have hcpA : ∀ (W : World),(∀ x,W.cell? x = W1.cell? x) → (∀ x,W.frozen? x = W1.frozen? x) → ∀ ty dc,(Builtin.copy_ #[28,28] ty #[.slice (some ⟨w.heap.size,i * 5,none⟩) (n + 1 - i) dc,.slice (some ⟨vb,voff,none⟩) 1 vc]).run Try.prog W = .ok (goInt (1 : Nat)) (W.setCells w.heap.size (i * 5) vs):=fun W hWc hWf ty dc => by
  have h:=run_copy_n (P:=Try.prog) W 28 28 ty 70 5 w.heap.size (i * 5) (n + 1 - i) dc ⟨vb,voff,none⟩ 1 vc vs Try.underlying28 hsz (by rw [hvl,e1])
   (fun j v hj => by rw [Addr.add_lit,hWc];exact hOv _ v (hvs j v hj))
   (fun j hj => by rw [hWc];exact hN _ (by omega)) (fun j hj => by rw [hWf];exact hNf _) h1v
  rw [e1] at h
  exact h
 have hGn : n + 1 ≤ G:=by rw [hG];exact grownCap_ge w _ _ _
 have hG63 : G ≤ 9223372036854775807:=by
  have:=grownCap_le_maxLen w (n + 1) c 70 (by unfold maxLen;omega)
  rw [← hG] at this
  unfold maxLen at this
  omega
 have hGi : ¬ (G = i):=by omega
 have hGim : ¬ (G = i + 1):=by omega
 have hci : ¬ (c = i):=by omega
 have hbN : b ≠ w.heap.size:=by omega
 have hdl : (cs.drop (i * 5)).length = (n - i) * 5:=by rw [List.length_drop,hcl];omega
 have hcpB : ∀ (W : World),(∀ x,W.cell? x = (W1.setCells w.heap.size (i * 5) vs).cell? x) → (∀ x,W.frozen? x = (W1.setCells w.heap.size (i * 5) vs).frozen? x) → ∀ ty dc sc,(Builtin.copy_ #[28,28] ty #[.slice (some ⟨w.heap.size,(i + 1) * 5,none⟩) (n - i) dc,.slice (some ⟨b,off + i * 5,none⟩) (n - i) sc]).run Try.prog W = .ok (goInt (n - i : Nat)) (W.setCells w.heap.size ((i + 1) * 5) (cs.drop (i * 5))):=fun W hWc hWf ty dc sc => by
  have h:=run_copy_n (P:=Try.prog) W 28 28 ty 70 5 w.heap.size ((i + 1) * 5) (n - i) dc ⟨b,off + i * 5,none⟩ (n - i) sc (cs.drop (i * 5)) Try.underlying28 hsz (by rw [hdl,e2])
   (fun j v hj => by
    rw [Addr.add_lit,hWc,World.cell?_setCells_out _ _ _ _ _ (fun h _ => absurd h hbN),Nat.add_assoc]
    exact hOb _ v (hcs (i * 5 + j) v (by rwa [List.getElem?_drop] at hj)))
   (fun j hj => by rw [hWc];exact isSome_set _ _ _ _ (fun t ht => hN _ (by omega)) _ (hN _ (by omega)))
   (fun j hj => by rw [hWf,World.frozen?_setCells];exact hNf _) (fun v hv => h1c v (List.mem_of_mem_drop hv))
  rw [e2] at h
  exact h
 subst hW1
 have hE1 : ∀ x,((w.alloc (.cells ROW 70)).drew).cell? x = (w.drew.alloc (.cells ROW 70)).cell? x:=fun x => rfl
 have hE2 : ∀ x,((w.alloc (.cells ROW 70)).drew).frozen? x = (w.drew.alloc (.cells ROW 70)).frozen? x:=fun x => rfl
 have hF1 : ∀ x,(((w.alloc (.cells ROW 70)).drew.setCells w.heap.size (i * 5) vs).drew).cell? x = ((w.drew.alloc (.cells ROW 70)).setCells w.heap.size (i * 5) vs).cell? x:=fun x => rfl
 have hF2 : ∀ x,(((w.alloc (.cells ROW 70)).drew.setCells w.heap.size (i * 5) vs).drew).frozen? x = ((w.drew.alloc (.cells ROW 70)).setCells w.heap.size (i * 5) vs).frozen? x:=fun x => rfl
 have hw1 : IntKind.i64.wrap ((i : Int) + 1) = (i : Int) + 1:=by rw [IntKind.wrap_i64];omega
 have hb1 : (0 : Int) ≤ (i : Int) + 1:=by omega
 have hin : i ≤ n:=by omega
 have htn : ((i : Int) + 1).toNat = i + 1:=by omega
 have hb3 : (i : Int) ≤ (n : Int):=by omega
 have mixed : Try.prog.follows .mixedOrders = true:=by kernel_rfl
 clear hkk hik hold hROW hG hRl hN hNf hOb hOv hdl hbw hvw hcs hvs h1c h1v hcl hvl e1 e2 hz hzs hzz hzb hz0 hi0 hsz hbN
 have HA:=Aside0.mk (hcpA _ hE1 hE2)
 have HBB:=Aside0.mk (hcpB _ hF1 hF2)
 have HRZ:=Aside0.mk hrz
 clear hcpA hcpB hrz hE1 hE2 hF1 hF2
 have hqA:=HA.out 3 (G - i)
 go_enter Try.func130,Try.ntmps130
 go_wp2_with (first
  | (at_builtin;refine Lib.wpList_append_run _ rfl _ _ _ _ rfl _ _ rfl rfl _ _ (HRZ.out _) ?_)
  | (simp only [hqA]))
 go_region_law_o (refine step_copy_run1 rfl _ _ 28 28 rfl (.slice (some ⟨w.heap.size,(i + 1) * 5,none⟩) (n - i) (G - (i + 1))) (.slice (some ⟨b,off + i * 5,none⟩) (n - i) (c - i)) (by simp [Act.eval,Act.put]) (by simp [Act.eval,Act.put]) (HBB.out 3 (G - (i + 1)) (c - i)) ?_)
 go_wp2
 go_ret
 exact ⟨rfl,rfl⟩
end Go.Proofs.Ytjkanhjapddhnaa.Ins
