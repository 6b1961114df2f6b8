/- A table of the call's own, as the printed words say it, as rows whose blocks are apart. -/
import Derived.Test.YtjkanhjapddhnaaMarkT
import Derived.Test.YtjkanhjapddhnaaPFnExactTableBytesx0
namespace Go.Proofs.Ytjkanhjapddhnaa.MarkC
open Go.RowKit Go.Proofs.YtjkanhjapddhnaaV.PrintWords Go.Proofs.YtjkanhjapddhnaaV.PrintMore Go.Proofs.YtjkanhjapddhnaaV.PrintLast Go.Proofs.Ytjkanhjapddhnaa.Own Go.Proofs.Ytjkanhjapddhnaa.MarkT Go.Proofs.Ytjkanhjapddhnaa.PFnExactTableBytes
set_option linter.unusedVariables false
set_option linter.unusedSimpArgs false
theorem row_of {w : World} {base e sz : Nat} {v : Value} {n : Nat} {xs : List Value} (h : ownsRowM w base e sz v n xs) : ∃ ob, Row w e sz v n xs ob ∧ v.ownBlock = ob ∧ ∀ b, ob = some b → base ≤ b ∧ ∃ cs fz, w.heap[b]? = some (.cells cs e fz) := by
  obtain ⟨h1, ⟨hv, hn⟩ | ⟨g, cap, cur, hv, hb, hg, hn, hc, ⟨hs, hf⟩, ht⟩⟩ := h
  · subst hv; subst hn
    exact ⟨none, ⟨none, 0, rfl, Nat.le_refl _, by omega, h1, .inl ⟨rfl, rfl⟩⟩, rfl, fun b hb => by cases hb⟩
  · subst hv
    refine ⟨some g, ⟨_, cap, rfl, hn, hc, h1, .inr ⟨g, 0, cur.1, cur.2, rfl, rfl, hg, hf, by omega, by rw [List.drop_zero]; exact ht⟩⟩, rfl, fun b hb' => ?_⟩
    injection hb' with hb'
    subst hb'
    exact ⟨hb, _, _, hg⟩
theorem reps_split {α β : Type} {R : α → List Value → Prop} {sz : Nat} {f : β → List Value} {P : α → β → Prop} (hR : ∀ p c, R p c → ∃ e, c = f e ∧ P p e) : ∀ (ps : List α) (cs : List Value), Reps R sz ps cs → ∃ els : List β, els.length = ps.length ∧ cs = els.flatMap f ∧ ∀ (j : Nat) (p : α), ps[j]? = some p → ∃ e, els[j]? = some e ∧ P p e
  | [], cs, h => ⟨[], rfl, by have := h.1; rw [List.length_nil, Nat.zero_mul] at this; exact List.eq_nil_of_length_eq_zero this, fun j p hj => by simp at hj⟩
  | p :: ps, cs, h => by
    have hl := h.1
    rw [List.length_cons, Nat.succ_mul] at hl
    obtain ⟨e, he, hp⟩ := hR p _ (h.2 0 p rfl)
    rw [Nat.zero_mul, List.drop_zero] at he
    have ht : Reps R sz ps (cs.drop sz) := ⟨by rw [List.length_drop, hl]; omega, fun j q hq => by
      have := h.2 (j + 1) q (by simpa using hq)
      rw [List.drop_drop, show sz + j * sz = (j + 1) * sz by rw [Nat.succ_mul, Nat.add_comm]]
      exact this⟩
    obtain ⟨els, h1, h2, h3⟩ := reps_split hR ps _ ht
    refine ⟨e :: els, by simp [h1], by rw [List.flatMap_cons, ← he, ← h2, List.take_append_drop], fun j q hq => ?_⟩
    cases j with
    | zero => simp at hq; subst hq; exact ⟨e, rfl, hp⟩
    | succ j => simpa using h3 j q (by simpa using hq)
/-- A block that holds cells of one type is no block of another. -/
def Of (w : World) (e : TypeId) (base : Nat) (ob : Option Nat) : Prop := ∀ b, ob = some b → base ≤ b ∧ ∃ cs fz, w.heap[b]? = some (.cells cs e fz)
theorem Of.apart {w : World} {e e' base base' : Nat} {x y : Option Nat} (hx : Of w e base x) (hy : Of w e' base' y) (hne : e ≠ e') : apart x y := by
  intro b hb hy'
  obtain ⟨_, cs, fz, h⟩ := hx b hb
  obtain ⟨_, cs', fz', h'⟩ := hy b hy'
  rw [h] at h'
  injection h' with h'
  injection h' with _ h' _
  exact hne h'
theorem Of.lt {w : World} {e base : Nat} {x : Option Nat} (hx : Of w e base x) : ∀ b, x = some b → base ≤ b ∧ b < w.heap.size := fun b hb => by
  obtain ⟨h1, cs, fz, h⟩ := hx b hb
  exact ⟨h1, (Array.getElem?_eq_some_iff.1 h).1⟩
theorem rows_of {w : World} {base : Nat} {ok : Nat → Prop} {v : Value} {l : List S70} (h : Kd.S k70 70 w base ok v l) :
    ∃ els ob, LRows w v els ob ∧ Of w 70 base ob ∧ (∀ e ∈ els, Of w 73 base e.ob) ∧ els.map El.n = l.map fun x => x.f4.length := by
  obtain ⟨f, h0, inner, ho, hr⟩ := h
  rw [List.length_zipIdx] at ho
  obtain ⟨ob, hrow, hob, hof⟩ := row_of ho
  obtain ⟨els, h1, h2, h3⟩ := reps_split (f := El.cs) (P := fun (p : S70 × Nat) e => e.hd.length = 4 ∧ Row w 73 2 e.v e.n e.xs e.ob ∧ Of w 73 base e.ob ∧ (∀ b, e.ob = some b → f b = p.2) ∧ e.n = p.1.f4.length) (by
    intro p c hp
    obtain ⟨v4, rfl, hw⟩ := k70_openM hp
    obtain ⟨q0, inner', ho', _⟩ := hw
    obtain ⟨ob', hrow', hob', hof'⟩ := row_of ho'
    exact ⟨⟨[_, _, _, _], v4, p.1.f4.length, inner', ob'⟩, rfl, rfl, hrow', hof', fun b hb => (q0 b (hob'.trans hb)).2, rfl⟩) _ _ hr
  rw [List.length_zipIdx] at h1
  have hmem : ∀ (j : Nat) (hj : j < els.length), els[j].hd.length = 4 ∧ Row w 73 2 els[j].v els[j].n els[j].xs els[j].ob ∧ Of w 73 base els[j].ob ∧ (∀ b, els[j].ob = some b → f b = j) ∧ els[j].n = (l[j]'(by omega)).f4.length := fun j hj => by
    obtain ⟨e, he, hp⟩ := h3 j (l[j]'(by omega), j) (by rw [List.getElem?_zipIdx, List.getElem?_eq_getElem (by omega)]; simp)
    rw [List.getElem?_eq_getElem hj] at he
    injection he with he
    rw [he]
    exact hp
  have hall : ∀ e ∈ els, e.hd.length = 4 ∧ Row w 73 2 e.v e.n e.xs e.ob ∧ Of w 73 base e.ob := fun e he => by
    obtain ⟨j, hj, rfl⟩ := List.mem_iff_getElem.1 he
    obtain ⟨a, b, c, _⟩ := hmem j hj
    exact ⟨a, b, c⟩
  refine ⟨els, ob, ⟨by rw [h1, ← h2]; exact hrow, fun e he => (hall e he).1, fun e he => (hall e he).2.1, ?_⟩, hof, fun e he => (hall e he).2.2, ?_⟩
  · rw [List.pairwise_cons]
    refine ⟨fun x hx => ?_, ?_⟩
    · obtain ⟨e, he, rfl⟩ := List.mem_map.1 hx
      exact Of.apart hof (hall e he).2.2 (by decide)
    · rw [List.pairwise_iff_getElem]
      intro i j hi hj hij
      simp only [List.length_map] at hi hj
      rw [List.getElem_map, List.getElem_map]
      intro b hb hb'
      have e1 := (hmem i hi).2.2.2.1 b hb
      have e2 := (hmem j hj).2.2.2.1 b hb'
      omega
  · refine List.ext_getElem (by simp [h1]) (fun j hj hj' => ?_)
    rw [List.getElem_map, List.getElem_map]
    exact (hmem j (by simpa using hj)).2.2.2.2
theorem row_ofR {α : Type} {d : Kd α} {e : Nat} {w : World} {base : Nat} {ok : Nat → Prop} {v : Value} {l : List α} (h : d.R e w base ok v l) : ∃ xs ob, Row w e d.sz v l.length xs ob ∧ Of w e base ob := by
  obtain ⟨h0, inner, ho, hr⟩ := h
  obtain ⟨ob, hrow, hob, hof⟩ := row_of ho
  exact ⟨inner, ob, hrow, hof⟩
theorem lc_le (els : List El) (m : Nat) (h : ∀ e ∈ els, e.n ≤ m) : lc els ≤ els.length * (4 + 2 * m) := by
  induction els with
  | nil => simp [lc]
  | cons e l ih =>
    have h1 := ih (fun x hx => h x (List.mem_cons_of_mem _ hx))
    have h2 := h e List.mem_cons_self
    simp only [lc, List.map_cons, List.sum_cons, List.length_cons, Nat.succ_mul] at h1 ⊢
    omega
end Go.Proofs.Ytjkanhjapddhnaa.MarkC
