/- What came in, of whatever type of numbers, bools, strings, structs and slices of these, reads as a Lean value of the print's kinds; no condition. -/
-- squeezed
import Derived.Test.YtjkanhjapddhnaaVWords
import Derived.Deep.Slices
import Derived.ChangeSlices
import Derived.WideShapes
import Derived.OpenShut
namespace Go.Proofs.YtjkanhjapddhnaaO
open Go.RowKit Go.ChangeShapes Go.WideShapes Go.Proofs.YtjkanhjapddhnaaV.PrintWords
def Opn {α : Type} (P : Program) (t : TypeId) (d : Kd α) (good : α → Prop) : Prop :=
 ∀ {H : Type} {enc : TypeId × Value → H} {W : World} {base : Nat} {spare : Nat → Bool} {held : Bool} {fuel : Nat} {cs : List Value} {x : DataW H × List MemPlace},
  DataW.trod enc P W base spare held fuel t cs = some x → ∃ a,d.K W a cs ∧ good a
def OpnF {α : Type} (P : Program) (fs : List Field) (off : Nat) (d : Kd α) (good : α → Prop) : Prop :=
 ∀ {H : Type} {enc : TypeId × Value → H} {W : World} {base : Nat} {spare : Nat → Bool} {held : Bool} {n : Nat} {cs : List Value},
  (∀ f ∈ fs,∃ y,DataW.trod enc P W base spare held n f.type ((cs.drop f.offset).take (P.cellsOf f.type)) = some y) → cs.length = off + d.sz → ∃ a,d.K W a (cs.drop off) ∧ good a
theorem Opn.int {P : Program} {t : TypeId} {k : IntKind} (hu : P.underlying t = some (.int k)) : Opn P t (Kd.int k) (fun a => (Lit.int k a).wf = true):=by
 intro H enc W base spare held fuel cs x h
 obtain ⟨n,rfl,_,hw⟩:=DataW.trod_int hu h
 exact ⟨n,rfl,hw⟩
theorem Opn.bool {P : Program} {t : TypeId} (hu : P.underlying t = some .bool) : Opn P t Kd.bool (fun _ => True):=by
 intro H enc W base spare held fuel cs x h
 obtain ⟨b,rfl,_⟩:=DataW.trod_bool hu h
 exact ⟨b,rfl,trivial⟩
theorem Opn.string {P : Program} {t : TypeId} (hu : P.underlying t = some .string) : Opn P t Kd.string (fun s => s.size ≤ 9223372036854775807):=by
 intro H enc W base spare held fuel cs x h
 obtain ⟨s,rfl,_,hs⟩:=DataW.trod_string hu h
 exact ⟨s,rfl,hs⟩
theorem Opn.slice {α : Type} {P : Program} {t e : TypeId} {d : Kd α} {good : α → Prop} (hu : P.underlying t = some (.slice e)) (he : Opn P e d good) (hc : P.cellsOf e = d.sz) :
  Opn P t (Kd.slice e d) (fun xs => xs.length ≤ 9223372036854775807 ∧ ∀ x ∈ xs,good x):=by
 intro H enc W base spare held fuel cs x h
 rcases Go.Deep.open_slice hu h with ⟨rfl,_⟩|⟨a,len,cap,m,n,D,Pl,rfl,hb,hl,hm,hmm,hx,hi⟩
 ·
  exact ⟨[],⟨none,0,rfl,Nat.le_refl _,⟨rfl,by simp,fun h => absurd h (by simp)⟩⟩,by simp,by simp⟩
 have hlm : len ≤ m:=by rw [hmm];split <;> omega
 have key : ∀ i,i < len → ∃ y c,d.K W y c ∧ good y ∧ c.length = d.sz ∧ ∀ j u,c[j]? = some u → W.cell? (a.add (i * d.sz + j)) = some u:=by
  intro i hil
  obtain ⟨c,hcells,htr⟩:=hi i (by omega)
  obtain ⟨y,hK,hg⟩:=he htr
  obtain ⟨_,hcl,hat⟩:=World.cells?_some hcells
  refine ⟨y,c,hK,hg,d.K_len hK,fun j u hu => ?_⟩
  have hj : j < c.length:=(List.getElem?_eq_some_iff.1 hu).1
  have:=hat j (by rw [← hcl];exact hj)
  rw [hc,Go.Deep.add_add] at this
  rw [this,hu]
 have list : ∀ k,k ≤ len → ∃ xs : List α,xs.length = k ∧ ∀ (j : Nat) p,xs[j]? = some p → (∃ c,c.length = d.sz ∧ d.K W p c ∧ ∀ i u,c[i]? = some u → W.cell? (a.add (j * d.sz + i)) = some u) ∧ good p:=by
  intro k
  induction k with
  | zero => exact fun _ => ⟨[],rfl,fun j p hp => by simp at hp⟩
  | succ k ih =>
   intro hk
   obtain ⟨xs,hxl,hxs⟩:=ih (by omega)
   obtain ⟨y,c,hK,hg,hcl,hat⟩:=key k (by omega)
   refine ⟨xs ++ [y],by simp [hxl],fun j p hp => ?_⟩
   by_cases hj : j < xs.length
   ·
    rw [List.getElem?_append_left hj] at hp
    exact hxs j p hp
   ·
    rw [List.getElem?_append_right (by omega)] at hp
    have hj0 : j - xs.length = 0:=by
     by_cases h0 : j - xs.length = 0
     ·
      exact h0
     ·
      rw [List.getElem?_eq_none (by simp;omega)] at hp
      cases hp
    rw [hj0] at hp
    simp at hp
    subst hp
    have hjk : j = k:=by omega
    subst hjk
    exact ⟨⟨c,hcl,hK,hat⟩,hg⟩
 obtain ⟨xs,hxl,hxs⟩:=list len (Nat.le_refl _)
 have hml : len ≤ 9223372036854775807:=by simp only [maxLen] at hm;omega
 refine ⟨xs,⟨some a,cap,by rw [hxl],by rw [hxl];exact hl,⟨rfl,by rw [hxl];exact hml,fun _ => ⟨a,rfl,fun j p hp => (hxs j p hp).1⟩⟩⟩,by rw [hxl];exact hml,fun x hx => ?_⟩
 obtain ⟨j,hj⟩:=List.getElem?_of_mem hx
 exact (hxs j x hj).2
theorem OpnF.one {α : Type} {P : Program} {f : Field} {off : Nat} {d : Kd α} {good : α → Prop} (h : Opn P f.type d good) (ho : f.offset = off) (hc : P.cellsOf f.type = d.sz) : OpnF P [f] off d good:=by
 intro H enc W base spare held n cs hf hl
 obtain ⟨y,hy⟩:=hf f (by simp)
 rw [ho,hc,List.take_of_length_le (by simp;omega)] at hy
 exact h hy
theorem OpnF.cons {α β : Type} {P : Program} {f : Field} {fs : List Field} {off off2 : Nat} {d : Kd α} {d2 : Kd β} {good : α → Prop} {good2 : β → Prop} (h : Opn P f.type d good) (ho : f.offset = off) (hc : P.cellsOf f.type = d.sz) (ho2 : off + d.sz = off2) (h2 : OpnF P fs off2 d2 good2) :
  OpnF P (f :: fs) off (Kd.pair d d2) (fun x => good x.1 ∧ good2 x.2):=by
 intro H enc W base spare held n cs hf hl
 have hl' : cs.length = off + (d.sz + d2.sz):=hl
 obtain ⟨y,hy⟩:=hf f (by simp)
 rw [ho,hc] at hy
 obtain ⟨a,hK,hg⟩:=h hy
 obtain ⟨b,hK2,hg2⟩:=h2 (fun f' hf' => hf f' (by simp [hf'])) (by omega : cs.length = off2 + d2.sz)
 refine ⟨(a,b),⟨(cs.drop off).take d.sz,cs.drop off2,?_,hK,hK2⟩,hg,hg2⟩
 rw [← ho2,← List.drop_drop,List.take_append_drop]
theorem Opn.struct {α : Type} {P : Program} {t : TypeId} {fs : Array Field} {d : Kd α} {good : α → Prop} (hu : P.underlying t = some (.struct fs)) (hf : OpnF P fs.toList 0 d good) (hc : P.cellsOf t = d.sz) : Opn P t d good:=by
 intro H enc W base spare held fuel cs x h
 obtain ⟨xs,n,_,_,hlen,hxl,hg⟩:=DataW.trod_struct hu h
 obtain ⟨a,hK,hgood⟩:=hf (enc:=enc) (W:=W) (base:=base) (spare:=spare) (held:=held) (n:=n) (cs:=cs) (fun f hm => by
  obtain ⟨i,hi⟩:=List.getElem?_of_mem hm
  have hi' : fs[i]? = some f:=by simpa using hi
  have hil : i < xs.length:=by rw [hxl];exact (Array.getElem?_eq_some_iff.1 hi').1
  exact ⟨xs[i],by rw [hg i f hi',List.getElem?_eq_getElem hil]⟩) (by rw [hlen,hc];omega)
 exact ⟨a,by simpa using hK,hgood⟩
theorem Opn.iso {α β : Type} {P : Program} {t : TypeId} {d : Kd α} {good : α → Prop} (h : Opn P t d good) (f : β → α) (g : α → β) (hfg : ∀ a,f (g a) = a) : Opn P t (Kd.iso d f) (fun b => good (f b)):=by
 intro H enc W base spare held fuel cs x hx
 obtain ⟨a,hK,hg⟩:=h hx
 exact ⟨g a,by show d.K W (f (g a)) cs;rw [hfg];exact hK,by show good (f (g a));rw [hfg];exact hg⟩
theorem Opn.mono {α : Type} {P : Program} {t : TypeId} {d : Kd α} {good good' : α → Prop} (h : Opn P t d good) (hg : ∀ a,good a → good' a) : Opn P t d good':=by
 intro H enc W base spare held fuel cs x hx
 obtain ⟨a,hK,hga⟩:=h hx
 exact ⟨a,hK,hg a hga⟩
theorem Opn.at_ {α : Type} {P : Program} {t : TypeId} {d : Kd α} {good : α → Prop} (h : Opn P t d good) {H : Type} {enc : TypeId × Value → H} {W : World} {base : Nat} {spare : Nat → Bool} {held : Bool} {v : Value} {x : DataW H} {p : List MemPlace} (hT : DataW.Trod enc P W base spare held t v x p) :
  ∃ a,d.K W a v.cells.toList ∧ good a:=by
 obtain ⟨fuel,hf⟩:=hT
 exact h hf
theorem slice_of {P : Program} {W : World} {r : Reach} {base : Nat} {t e : TypeId} {v : Value} {u : Value} (hu : P.underlying t = some (.slice e)) (hv : Value.okWide P W r base t v) (hl : v.cells.toList = [u]) : v = u:=by
 obtain ⟨a,len,cap,rfl⟩:=okWide_slice hu hv
 simpa [Value.cells] using hl
end Go.Proofs.YtjkanhjapddhnaaO
