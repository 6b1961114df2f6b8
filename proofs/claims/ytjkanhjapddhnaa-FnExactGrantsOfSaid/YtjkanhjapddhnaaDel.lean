import Derived.Test.YtjkanhjapddhnaaIns
import Derived.Lib.JoinLaws
import Derived.Deep.RegionLaw
import Derived.Lib.SlicesDelete
import Derived.Lib.SliceRun
-- squeezed
namespace Go.Proofs.Ytjkanhjapddhnaa.Del
open Go.Shelf Go.RowKit Go.Proofs.Ytjkanhjapddhnaa.Ins Go.Lib Go.Proofs.YtjkanhjapddhnaaV.PrintWords Go.Proofs.YtjkanhjapddhnaaV.PrintMore Go.Proofs.Ytjkanhjapddhnaa.Own
set_option linter.unusedVariables false
set_option linter.unusedSimpArgs false
set_option maxHeartbeats 20000000
set_option maxRecDepth 100000
theorem run_clear_one {P : Program} (w : World) (t e ty : TypeId) (z : Value) (ht : P.underlying t = some (.slice e)) (hv : ∀ w,(zeroValue e).run P w = .ok z w) (h1 : ∀ v ∈ z.cells.toList,v.oneCell' = true) (b o c : Nat)
  (hc : ∀ j,j < z.cells.size → (w.cell? ⟨b,o + j,none⟩).isSome = true) (hf : ∀ j,j < z.cells.size → w.frozen? ⟨b,o + j,none⟩ = false) :
  (Builtin.clear_ #[t] ty #[.slice (some ⟨b,o,none⟩) 1 c]).run P w = .ok (.tuple #[]) (w.setCells b o z.cells.toList):=by
 have hzc : (Builtin.zeroCells z.cells 1).toList = z.cells.toList:=by
  apply List.ext_getElem
  ·
   simp [Builtin.zeroCells]
  ·
   intro i h1 h2
   have h3 : i < z.cells.size:=by simpa using h2
   simp [Builtin.zeroCells,Nat.mod_eq_of_lt h3,h3]
 have hst:=run_storeCells_cells (P:=P) b o z.cells.toList 0 w (by simpa using hc) (by simpa using hf) h1
 simp only [Nat.add_zero] at hst
 simp [Builtin.clear_,run_underlying ht,hv,hzc,hst]
theorem delW (b off n c i : Nat) (cs : List Value) (w : World) (hi : i < n) (hnc : n ≤ c) (hc63 : c ≤ 9223372036854775807) (hcl : cs.length = n * 2)
  (hcs : ∀ j v,cs[j]? = some v → w.cell? ⟨b,off + j,none⟩ = some v) (hfz : ∀ j,j < n * 2 → w.frozen? ⟨b,off + j,none⟩ = false) (h1c : ∀ v ∈ cs,v.oneCell' = true) :
  Calls Try.prog 119 #[.slice (some ⟨b,off,none⟩) n c,.int .i64 i,.int .i64 ((i : Int) + 1)] w fun e w' => e = .returned (.slice (some ⟨b,off,none⟩) (n - 1) c) ∧ w' = (w.drew.setCells b (off + i * 2) (cs.drop ((i + 1) * 2))).setCells b (off + (n - 1) * 2) [.int .i64 0,.int .i64 0]:=by
 obtain ⟨i0,hi0,hz1⟩:=Option.map_eq_some_iff.1 (show (Try.prog.info? 73).map (·.size) = some 2 by kernel_rfl)
 have mixed : Try.prog.follows .mixedOrders = true:=by kernel_rfl
 have hin : i ≤ n:=by omega
 have htn : ((i : Int) + 1).toNat = i + 1:=by omega
 have hb1 : (0 : Int) ≤ (i : Int) + 1:=by omega
 have hb2 : (i : Int) + 1 ≤ (n : Int):=by omega
 have hb3 : (i : Int) ≤ (i : Int) + 1:=by omega
 have hb4 : ¬ ((i : Int) = (i : Int) + 1):=by omega
 have hic : i ≤ c:=by omega
 have hjc : (i : Int) + 1 ≤ (c : Int):=by omega
 have hjc' : i + 1 ≤ c:=by omega
 obtain ⟨news,hnews⟩ : ∃ news,news = cs.drop ((i + 1) * 2):=⟨_,rfl⟩
 have hlen : news.length = (n - (i + 1)) * 2:=by rw [hnews,List.length_drop,hcl];omega
 obtain ⟨A,hA,hsrc⟩ : ∃ A : Addr,(if c = i + 1 then some (⟨b,off,none⟩ : Addr) else some ⟨b,off + (i + 1) * 2,none⟩) = some A ∧ Aside0 (∀ t u,news[t]? = some u → w.drew.cell? (A.add t) = some u):=by
  by_cases h : c = i + 1
  ·
   refine ⟨⟨b,off,none⟩,by simp [h],⟨fun t u hu => ?_⟩⟩
   have h0 : news.length = 0:=by rw [hlen];omega
   rw [List.length_eq_zero_iff.1 h0] at hu
   simp at hu
  ·
   refine ⟨⟨b,off + (i + 1) * 2,none⟩,by simp [h],⟨fun t u hu => ?_⟩⟩
   rw [hnews,List.getElem?_drop] at hu
   rw [Addr.add_lit,Nat.add_assoc]
   exact hcs _ u hu
 have s1:=Aside0.mk hlen
 have s2:=Aside0.mk (fun u (hu : u ∈ news) => h1c u (List.mem_of_mem_drop (by rw [hnews] at hu;exact hu)))
 have s3 : Aside0 (∀ t,t < news.length → (w.drew.cell? ⟨b,off + i * 2 + t,none⟩).isSome = true ∧ w.drew.frozen? ⟨b,off + i * 2 + t,none⟩ = false):=⟨fun t ht => by
  rw [hlen] at ht
  rw [Nat.add_assoc]
  exact ⟨by show (w.cell? _).isSome = true;rw [hcs (i * 2 + t) _ (List.getElem?_eq_getElem (by omega))];rfl,hfz _ (by omega)⟩⟩
 have en : i + (n - (i + 1)) = n - 1:=by omega
 have en1 : n - (n - 1) = 1:=by omega
 obtain ⟨W1,hW1⟩ : ∃ W1,W1 = w.drew.setCells b (off + i * 2) news:=⟨_,rfl⟩
 have hclr : (Builtin.clear_ #[68] 0 #[.slice (some ⟨b,off + (i + (n - (i + 1))) * 2,none⟩) (n - (i + (n - (i + 1)))) (c - (i + (n - (i + 1))))]).run Try.prog (w.drew.setCells b (off + i * 2) news) = .ok (.tuple #[]) (W1.setCells b (off + (n - 1) * 2) [.int .i64 0,.int .i64 0]):=by
  rw [en,en1,← hW1]
  refine run_clear_one W1 68 73 0 (.agg #[.int .i64 0,.int .i64 0]) Try.underlying68 (fun w => by kernel_rfl) (fun v hv => ?_) b (off + (n - 1) * 2) (c - (n - 1)) (fun j hj => ?_) (fun j hj => ?_)
  ·
   simp [Value.cells] at hv
   subst hv
   rfl
  ·
   have hj2 : j < 2:=hj
   rw [hW1,Nat.add_assoc]
   exact isSome_set b _ _ _ (fun t ht => (s3.out t ht).1) _ (by show (w.cell? _).isSome = true;rw [hcs ((n - 1) * 2 + j) _ (List.getElem?_eq_getElem (by omega))];rfl)
  ·
   have hj2 : j < 2:=hj
   rw [hW1,World.frozen?_setCells,Nat.add_assoc]
   exact hfz _ (by omega)
 rw [hW1] at hclr
 have HEN:=Aside0.mk en
 rw [← hnews]
 clear hnews hcs hfz h1c hcl hlen hW1 W1 en en1
 go_enter Try.func119,Try.ntmps119
 go_wp2_with fail
 go_region_law_o (refine step_append_room rfl (.tmp 22) (.tmp 25) 68 rfl 73 i0 2 Try.underlying68 hi0 hz1 b off i c (by simp [Act.eval,Act.put]) A (n - (i + 1)) (c - (i + 1)) news (by simp [Act.eval,Act.put]) s1.out hsrc.out s2.out (by omega) s3.out ?_)
 go_wp2_with (simp only [hclr])
 go_ret
 rw [HEN.out]
 exact ⟨rfl,rfl⟩
end Go.Proofs.Ytjkanhjapddhnaa.Del
