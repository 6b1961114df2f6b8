/- Rows of a call's own, at any offset of a block: read, written; and what is kept beside them. No condition. -/
-- squeezed
import Derived.Test.YtjkanhjapddhnaaVMore
import Derived.WalkLawsBesides
namespace Go.Proofs.Ytjkanhjapddhnaa.Own
open Go.RowKit Go.Proofs.YtjkanhjapddhnaaV.PrintWords Go.Proofs.YtjkanhjapddhnaaV.PrintMore
set_option linter.unusedVariables false
set_option linter.unusedSimpArgs false
def Row (w : World) (e sz : Nat) (v : Value) (n : Nat) (xs : List Value) (ob : Option Nat) : Prop :=
 ∃ A c,v = .slice A n c ∧ n ≤ c ∧ c ≤ 9223372036854775807 ∧ xs.length = n * sz ∧
  ((c = 0 ∧ ob = none) ∨ ∃ b o cs fz,A = some ⟨b,o,none⟩ ∧ ob = some b ∧ w.heap[b]? = some (.cells cs e fz) ∧ Free fz cs.size ∧ o + c * sz ≤ cs.size ∧ (cs.toList.drop o).take (n * sz) = xs)
theorem Row.kept {w w' : World} {e sz : Nat} {v : Value} {n : Nat} {xs : List Value} {ob : Option Nat} (h : Row w e sz v n xs ob) (hk : ∀ b,ob = some b → w'.heap[b]? = w.heap[b]?) : Row w' e sz v n xs ob:=by
 obtain ⟨A,c,hv,h1,h2,h3,h4⟩:=h
 refine ⟨A,c,hv,h1,h2,h3,?_⟩
 rcases h4 with h4|⟨b,o,cs,fz,ha,hb,hg,hf,hs,hx⟩
 ·
  exact .inl h4
 ·
  exact .inr ⟨b,o,cs,fz,ha,hb,(hk b hb).trans hg,hf,hs,hx⟩
theorem Row.lt {w : World} {e sz : Nat} {v : Value} {n : Nat} {xs : List Value} {ob : Option Nat} (h : Row w e sz v n xs ob) : ∀ b,ob = some b → b < w.heap.size:=by
 intro b hb
 obtain ⟨A,c,hv,h1,h2,h3,h4⟩:=h
 rcases h4 with ⟨_,h4⟩|⟨b',o,cs,fz,ha,hb',hg,hf,hs,hx⟩
 ·
  rw [h4] at hb;cases hb
 ·
  rw [hb'] at hb;injection hb with hb;subst hb;exact (Array.getElem?_eq_some_iff.1 hg).1
theorem Row.at_ {w : World} {e sz : Nat} {v : Value} {n : Nat} {xs : List Value} {ob : Option Nat} (h : Row w e sz v n xs ob) (hn : 0 < n) :
  ∃ b o c cs fz,v = .slice (some ⟨b,o,none⟩) n c ∧ n ≤ c ∧ c ≤ 9223372036854775807 ∧ ob = some b ∧ w.heap[b]? = some (.cells cs e fz) ∧ Free fz cs.size ∧ o + c * sz ≤ cs.size ∧ xs.length = n * sz ∧ (cs.toList.drop o).take (n * sz) = xs:=by
 obtain ⟨A,c,hv,h1,h2,h3,h4⟩:=h
 rcases h4 with ⟨h4,_⟩|⟨b,o,cs,fz,ha,hb,hg,hf,hs,hx⟩
 ·
  omega
 ·
  subst ha;exact ⟨b,o,c,cs,fz,hv,h1,h2,hb,hg,hf,hs,h3,hx⟩
theorem row_cell {w : World} {b o : Nat} {cs : Array Value} {e : TypeId} {fz : Nat × Nat} {m : Nat} {xs : List Value} (hg : w.heap[b]? = some (.cells cs e fz)) (hx : (cs.toList.drop o).take m = xs) (j : Nat) (hj : j < xs.length) : w.cell? ⟨b,o + j,none⟩ = some xs[j]:=by
 rw [cell_of_row w b _ cs e fz hg,← Array.getElem?_toList]
 have h : xs[j]? = ((cs.toList.drop o).take m)[j]?:=by rw [hx]
 have hm : xs.length ≤ m:=by rw [← hx];exact List.length_take_le _ _
 rw [List.getElem?_take,if_pos (by omega),List.getElem?_drop] at h
 rw [← h,List.getElem?_eq_getElem hj]
theorem row_free {w : World} {b : Nat} {cs : Array Value} {e : TypeId} {fz : Nat × Nat} (hg : w.heap[b]? = some (.cells cs e fz)) (hf : Free fz cs.size) (j : Nat) (hj : j < cs.size) : w.frozen? ⟨b,j,none⟩ = false:=hf.at_ hg j hj
theorem row_set {w : World} {b : Nat} {cs : Array Value} {e : TypeId} {fz : Nat × Nat} (hg : w.heap[b]? = some (.cells cs e fz)) (j : Nat) (u : Value) : (w.setCell ⟨b,j,none⟩ u).heap[b]? = some (.cells (cs.setIfInBounds j u) e fz):=by
 simp [World.setCell,Array.getElem?_modify,hg]
theorem take_set {cs : List Value} {o m j : Nat} {xs : List Value} (hx : (cs.drop o).take m = xs) (u : Value) : ((cs.set (o + j) u).drop o).take m = xs.set j u:=by
 subst hx
 rw [List.drop_set,if_neg (by omega),Nat.add_sub_cancel_left,List.take_set]
theorem Row.set {w : World} {e sz n c b o : Nat} {xs : List Value} {ob : Option Nat} (h : Row w e sz (.slice (some ⟨b,o,none⟩) n c) n xs ob) (j : Nat) (u : Value) : Row (w.setCell ⟨b,o + j,none⟩ u) e sz (.slice (some ⟨b,o,none⟩) n c) n (xs.set j u) ob:=by
 obtain ⟨A,c',hv,h1,h2,h3,h4⟩:=h
 injection hv with ha _ hc
 subst ha;subst hc
 refine ⟨_,c,rfl,h1,h2,by rw [List.length_set];exact h3,?_⟩
 rcases h4 with h4|⟨b',o',cs,fz,ha,hb,hg,hf,hs,hx⟩
 ·
  exact .inl h4
 ·
  injection ha with ha
  injection ha with hb' ho
  subst hb';subst ho
  exact .inr ⟨b,o,cs.setIfInBounds (o + j) u,fz,rfl,hb,row_set hg _ u,by rw [Array.size_setIfInBounds];exact hf,by rw [Array.size_setIfInBounds];exact hs,by rw [Array.toList_setIfInBounds];exact take_set hx u⟩
theorem Row.cellAt {w : World} {e sz n c b o : Nat} {xs : List Value} {ob : Option Nat} (h : Row w e sz (.slice (some ⟨b,o,none⟩) n c) n xs ob) (j : Nat) (hj : j < xs.length) : w.cell? ⟨b,o + j,none⟩ = some xs[j] ∧ w.frozen? ⟨b,o + j,none⟩ = false:=by
 obtain ⟨A,c',hv,h1,h2,h3,h4⟩:=h
 injection hv with ha _ hc
 subst ha;subst hc
 rcases h4 with ⟨h4,_⟩|⟨b',o',cs,fz,ha,hb,hg,hf,hs,hx⟩
 ·
  subst h4
  have : n = 0:=by omega
  subst this
  rw [Nat.zero_mul] at h3
  omega
 ·
  injection ha with ha
  injection ha with hb' ho
  subst hb';subst ho
  have:=Nat.mul_le_mul_right sz h1
  exact ⟨row_cell hg hx j hj,row_free hg hf (o + j) (by omega)⟩
theorem Row.addr {w : World} {e sz n : Nat} {v : Value} {xs : List Value} {ob : Option Nat} (h : Row w e sz v n xs ob) (hn : 0 < n) : ∃ b o c,v = .slice (some ⟨b,o,none⟩) n c ∧ ob = some b:=by
 obtain ⟨b,o,c,cs,fz,hv,_,_,hb,_⟩:=h.at_ hn
 exact ⟨b,o,c,hv,hb⟩
theorem Row.len {w : World} {e sz n : Nat} {v : Value} {xs : List Value} {ob : Option Nat} (h : Row w e sz v n xs ob) : xs.length = n * sz:=by
 obtain ⟨_,_,_,_,_,h,_⟩:=h
 exact h
theorem Row.slice {w : World} {e sz n : Nat} {v : Value} {xs : List Value} {ob : Option Nat} (h : Row w e sz v n xs ob) : ∃ A c,v = .slice A n c:=by
 obtain ⟨A,c,h,_⟩:=h
 exact ⟨A,c,h⟩
structure Fr (S : Nat → Prop) (w w' : World) : Prop where
 os : w'.os = w.os
 tape : w'.tape = w.tape
 output : w'.output = w.output
 size : w.heap.size ≤ w'.heap.size
 block : ∀ k,k < w.heap.size → ¬ S k → w'.heap[k]? = w.heap[k]?
theorem Fr.refl (S : Nat → Prop) (w : World) : Fr S w w:=⟨rfl,rfl,rfl,Nat.le_refl _,fun _ _ _ => rfl⟩
theorem Fr.of_below {S : Nat → Prop} {w w' : World} (h : Below w.heap.size w w') : Fr S w w':=⟨h.os,h.tape,h.output,h.size,fun k hk _ => h.block k hk⟩
theorem Fr.trans {S S' : Nat → Prop} {a b c : World} (h : Fr S a b) (k : Fr S' b c) (hs : ∀ x,S' x → S x ∨ a.heap.size ≤ x) : Fr S a c :=
 ⟨k.os.trans h.os,k.tape.trans h.tape,k.output.trans h.output,Nat.le_trans h.size k.size,fun x hx hn => (k.block x (Nat.lt_of_lt_of_le hx h.size) (fun h' => (hs x h').elim hn (fun h2 => by omega))).trans (h.block x hx hn)⟩
theorem Fr.mono {S S' : Nat → Prop} {a b : World} (h : Fr S a b) (hs : ∀ x,S x → S' x) : Fr S' a b:=⟨h.os,h.tape,h.output,h.size,fun k hk hn => h.block k hk (fun hh => hn (hs k hh))⟩
theorem Fr.setCell {S : Nat → Prop} {a w : World} (h : Fr S a w) {p : Addr} (hp : S p.block ∨ a.heap.size ≤ p.block) (u : Value) : Fr S a (w.setCell p u) :=
 ⟨h.os,h.tape,h.output,Nat.le_trans h.size (by simp [World.setCell]),fun k hk hn => (Below.heap_setCell w p u k (fun e => by subst e;exact hp.elim hn (fun h2 => by omega))).trans (h.block k hk hn)⟩
theorem Fr.below {S : Nat → Prop} {a b c : World} (h : Fr S a b) (k : Below b.heap.size b c) : Fr S a c:=h.trans (S':=fun _ => False) (Fr.of_below k) (fun _ hx => hx.elim)
theorem Fr.to_below {S : Nat → Prop} {a b : World} {B : Nat} (h : Fr S a b) (hB : B ≤ a.heap.size) (hs : ∀ x,S x → B ≤ x) : Below B a b:=⟨h.os,h.tape,h.output,h.size,fun k hk => h.block k (by omega) (fun hh => by have:=hs k hh;omega)⟩
theorem Fr.blk {S : Nat → Prop} {a b : World} (h : Fr S a b) {g : Nat} {o : Obj} (hg : a.heap[g]? = some o) (hn : ¬ S g) : b.heap[g]? = some o:=(h.block g (Array.getElem?_eq_some_iff.1 hg).1 hn).trans hg
end Go.Proofs.Ytjkanhjapddhnaa.Own
