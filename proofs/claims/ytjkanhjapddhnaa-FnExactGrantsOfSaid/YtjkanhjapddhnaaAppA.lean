/- One answer appended to a row of answers (written out of the text at waiters). No condition. -/
-- squeezed
import Derived.Test.YtjkanhjapddhnaaInsR
namespace Go.Proofs.Ytjkanhjapddhnaa.AppA
open Go.RowKit Go.Lib Go.Proofs.YtjkanhjapddhnaaV.PrintWords Go.Proofs.YtjkanhjapddhnaaV.PrintMore Go.Proofs.Ytjkanhjapddhnaa.Own Go.Proofs.Ytjkanhjapddhnaa.Ins Go.Proofs.Ytjkanhjapddhnaa.InsR Go.Proofs.Ytjkanhjapddhnaa.Tb
set_option linter.unusedVariables false
set_option linter.unusedSimpArgs false
set_option maxHeartbeats 4000000
set_option maxRecDepth 100000
theorem appA_run (w : World) (v : Value) (n : Nat) (xs vs : List Value) (ob : Option Nat) (vb : Nat) (hr : Row w 75 4 v n xs ob) (hn : n ≤ 1000) (hl : vs.length = 4) (hg : w.heap[vb]? = some (.cells vs.toArray 75 (0,0))) (h1v : ∀ u ∈ vs,u.oneCell' = true) :
  ∃ v' w' ob',(Builtin.append_ #[60,60] 60 #[v,.slice (some ⟨vb,0,none⟩) 1 1]).run Try.prog w = .ok v' w' ∧ Row w' 75 4 v' (n + 1) (xs ++ vs) ob' ∧ (ob' = ob ∨ ∀ k,ob' = some k → w.heap.size ≤ k) ∧ Fr (fun k => ob = some k) w w':=by
 have hxl : xs.length = n * 4:=hr.len
 have hvc : ∀ j u,vs[j]? = some u → w.cell? ⟨vb,0 + j,none⟩ = some u:=fun j u h => by
  rw [Nat.zero_add,cell_of_row w vb _ vs.toArray _ _ hg]
  simpa using h
 have hlen' : (xs ++ vs).length = (n + 1) * 4:=by rw [List.length_append,hl,hxl];omega
 obtain ⟨i0,hi0,hz1⟩:=Option.map_eq_some_iff.1 (show (Try.prog.info? 75).map (fun i => (i.size,i.bytes,i.zero.map (fun z => z.cells.size))) = some (4,32,some 4) by kernel_rfl)
 simp only [Prod.mk.injEq] at hz1
 obtain ⟨hz0,hzb,hzz⟩:=hz1
 obtain ⟨z,hz,hzs⟩:=Option.map_eq_some_iff.1 hzz
 have hsrc : Src Try.prog i0.size 60 (.slice (some ⟨vb,0,none⟩) 1 1) 1 vs w:=by
  rw [hz0]
  exact Src.ofSlice w Try.underlying60 ⟨vb,0,none⟩ 1 1 vs (by omega) (fun j u hj => by rw [Addr.add_lit];exact hvc j u hj) h1v
 obtain ⟨A,c,rfl,h1,h2,h3,h4⟩:=id hr
 by_cases hroom : n + 1 ≤ c
 ·
  rcases h4 with ⟨h4,_⟩|⟨b,o,cs,fz,rfl,rfl,hgb,hfb,hsb,hx⟩
  ·
   omega
  have hsp : ∀ j,j < c * 4 → (w.cell? ⟨b,o + j,none⟩).isSome = true:=fun j hj => by
   rw [cell_of_row w b _ cs _ fz hgb,Array.getElem?_eq_getElem (by omega)]
   rfl
  have hfz : ∀ j,j < c * 4 → w.frozen? ⟨b,o + j,none⟩ = false:=fun j hj => row_free hgb hfb (o + j) (by omega)
  have hrun:=run_append_room_src (P:=Try.prog) (w:=w) 60 60 60 75 i0 Try.underlying60 hi0 b o n c _ 1 vs hsrc hroom (by rw [hl,hz0];exact fun j hj => by rw [Nat.add_assoc];exact hsp _ (by omega)) (by rw [hl,hz0];exact fun j hj => by rw [Nat.add_assoc];exact hfz _ (by omega))
  rw [hz0] at hrun
  obtain ⟨cs',hg',hs'⟩:=setCells_heap b vs (o + n * 4) w cs _ fz hgb
  refine ⟨_,_,some b,hrun,row_cells hg' (by rw [hs'];exact hfb) (by rw [hs'];exact hsb) hroom h2 hlen' (fun j u h => ?_),.inl rfl,setCells_fr (S:=fun k => some b = some k) (.inl rfl) _ _ _ (Fr.refl _ _)⟩
  by_cases hj : j < n * 4
  ·
   rw [World.cell?_setCells_out _ _ _ _ _ (fun _ _ => .inl (by show o + j < _;omega))]
   rw [List.getElem?_append_left (by omega)] at h
   exact Row.cells hr j u h
  ·
   have hjl:=(List.getElem?_eq_some_iff.1 h).1
   rw [hlen'] at hjl
   rw [List.getElem?_append_right (by omega),hxl] at h
   have hin:=World.cell?_setCells_in b vs (o + n * 4) w (fun t ht => by rw [Nat.add_assoc];exact hsp _ (by omega)) (j - n * 4) (by omega)
   rw [show o + n * 4 + (j - n * 4) = o + j by omega] at hin
   rw [hin,← h]
   exact (List.getElem?_eq_getElem (by omega)).symm
 ·
  have hold : (Builtin.firstCells i0.size n (.slice A n c)).run Try.prog w.drew = .ok xs.toArray w.drew:=by
   rw [hz0]
   cases A with
   | none =>
    have h0 : n = 0:=by
     rcases h4 with ⟨h4,_⟩|⟨b',o',cs,fz,ha,_⟩
     ·
      omega
     ·
      cases ha
    subst h0
    rw [List.length_eq_zero_iff.1 (by omega : xs.length = 0)]
    exact run_firstCells_none w.drew 4 0 0 c
   | some a => exact run_firstCells_some w.drew 4 n a n c xs hxl (fun j u hj => by
     have hj':=(List.getElem?_eq_some_iff.1 hj).1
     rcases h4 with ⟨h4,_⟩|⟨b',o',cs,fz,ha,hb,_⟩
     ·
      omega
     ·
      injection ha with ha
      subst ha
      rw [Addr.add_lit]
      exact Row.cells hr j u hj)
  have hrun:=run_append_grow_src w 60 60 60 75 i0 z Try.underlying60 hi0 hz A n c xs hold _ 1 vs hsrc (by omega) (by omega) (by rw [hzb];exact growslice_fits (by omega) (by omega))
  have hG:=grownCap_ge w (n + 1) c 75
  have hG2 : grownCap w (n + 1) c 75 ≤ 9223372036854775807:=by
   have:=grownCap_le_maxLen w (n + 1) c 75 (by unfold maxLen;omega)
   unfold maxLen at this
   omega
  generalize grownCap w (n + 1) c 75 = G at hG hG2 hrun
  have hg' : (w.drew.alloc (.cells ((xs ++ vs).toArray ++ Builtin.zeroCells z.cells (G - (n + 1))) 75)).heap[w.heap.size]? = some (.cells ((xs ++ vs).toArray ++ Builtin.zeroCells z.cells (G - (n + 1))) 75 (0,0)):=heap_alloc_new w.drew _
  have hzz : (Builtin.zeroCells z.cells (G - (n + 1))).size = (G - (n + 1)) * 4:=by simp [Builtin.zeroCells,hzs]
  have hsz : ((xs ++ vs).toArray ++ Builtin.zeroCells z.cells (G - (n + 1))).size = G * 4:=by
   rw [Array.size_append,hzz,List.size_toArray,hlen']
   omega
  refine ⟨_,_,some w.heap.size,hrun,row_cells hg' (Free.none _) (by rw [hsz];omega) hG hG2 hlen' (fun j u h => ?_),.inr (fun k hk => by injection hk with hk;omega),Fr.of_below (below_alloc (below_drew (Below.refl _ _)) _)⟩
  rw [Nat.zero_add,cell_of_row _ _ _ _ _ _ hg',← Array.getElem?_toList,Array.toList_append,List.toList_toArray]
  rw [List.getElem?_append_left (List.getElem?_eq_some_iff.1 h).1]
  exact h
end Go.Proofs.Ytjkanhjapddhnaa.AppA
