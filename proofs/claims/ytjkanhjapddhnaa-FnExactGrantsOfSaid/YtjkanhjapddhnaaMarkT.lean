/- The law's marks in a table: what they leave, what they keep. -/
-- squeezed
import Derived.Test.YtjkanhjapddhnaaOwn
import Derived.Test.YtjkanhjapddhnaaProg
import Derived.Deep.LoopGhost
import Derived.WalkKit
namespace Go.Proofs.Ytjkanhjapddhnaa.MarkT
open Go.RowKit Go.Proofs.YtjkanhjapddhnaaV.PrintWords Go.Proofs.YtjkanhjapddhnaaV.PrintMore Go.Proofs.Ytjkanhjapddhnaa.Own
set_option linter.unusedVariables false
set_option linter.unusedSimpArgs false
set_option maxHeartbeats 20000000
set_option maxRecDepth 100000
structure El where
 hd : List Value
 v : Value
 n : Nat
 xs : List Value
 ob : Option Nat
def El.cs (e : El) : List Value:=e.hd ++ [e.v]
def apart (x y : Option Nat) : Prop:=∀ b,x = some b → y ≠ some b
structure LRows (w : World) (v : Value) (els : List El) (ob : Option Nat) : Prop where
 row : Row w 70 5 v els.length (els.flatMap El.cs) ob
 hd : ∀ e ∈ els,e.hd.length = 4
 ws : ∀ e ∈ els,Row w 73 2 e.v e.n e.xs e.ob
 ap : (ob :: els.map El.ob).Pairwise apart
theorem flat_split (A B : List El) (e : El) : (A ++ e :: B).flatMap El.cs = A.flatMap El.cs ++ (e.cs ++ B.flatMap El.cs):=by simp
theorem set_mid (P Q M : List Value) (j : Nat) (u : Value) (hj : j < M.length) : (P ++ (M ++ Q)).set (P.length + j) u = P ++ (M.set j u ++ Q):=by
 rw [List.set_append_right _ _ (by omega),show P.length + j - P.length = j by omega,List.set_append_left _ _ hj]
theorem get_mid (P Q M : List Value) (j : Nat) (hj : j < M.length) (h : P.length + j < (P ++ (M ++ Q)).length) : (P ++ (M ++ Q))[P.length + j] = M[j]:=by
 rw [List.getElem_append_right (by omega)]
 simp only [show P.length + j - P.length = j by omega]
 rw [List.getElem_append_left hj]
theorem LRows.kept {w w' : World} {v : Value} {els : List El} {ob : Option Nat} (h : LRows w v els ob) (hk : ∀ b,b < w.heap.size → w'.heap[b]? = w.heap[b]?) : LRows w' v els ob :=
 ⟨h.row.kept (fun b hb => hk b (h.row.lt b hb)),h.hd,fun e he => (h.ws e he).kept (fun b hb => hk b ((h.ws e he).lt b hb)),h.ap⟩
def lc (els : List El) : Nat:=(els.map fun e => 4 + 2 * e.n).sum
theorem ap_mid {x : Option Nat} {A B : List (Option Nat)} {y : Option Nat} (h : (x :: (A ++ y :: B)).Pairwise apart) : apart x y ∧ (∀ z ∈ A,apart x z ∧ apart z y) ∧ (∀ z ∈ B,apart x z ∧ apart y z):=by
 rw [List.pairwise_cons,List.pairwise_append,List.pairwise_cons] at h
 obtain ⟨h1,h2,⟨h3,h4⟩,h5⟩:=h
 exact ⟨h1 y (by simp),fun z hz => ⟨h1 z (by simp [hz]),h5 z hz y (by simp)⟩,fun z hz => ⟨h1 z (by simp [hz]),h3 z hz⟩⟩
theorem LRows.put {w w1 w2 : World} {v : Value} {A B : List El} {e : El} {ob : Option Nat} (h : LRows w v (A ++ e :: B) ob) (hd' : List Value) (xs' : List Value) (hl : hd'.length = 4)
  (h1 : Row w1 70 5 v (A ++ e :: B).length (A.flatMap El.cs ++ ((hd' ++ [e.v]) ++ B.flatMap El.cs)) ob) (f1 : ∀ b,b < w.heap.size → ob ≠ some b → w1.heap[b]? = w.heap[b]?) (hs : w.heap.size ≤ w1.heap.size)
  (h2 : Row w2 73 2 e.v e.n xs' e.ob) (f2 : ∀ b,b < w1.heap.size → e.ob ≠ some b → w2.heap[b]? = w1.heap[b]?) : LRows w2 v (A ++ { e with hd:=hd',xs:=xs' } :: B) ob:=by
 have hap : (ob :: (A.map El.ob ++ e.ob :: B.map El.ob)).Pairwise apart:=by simpa using h.ap
 obtain ⟨a1,a2,a3⟩:=ap_mid hap
 have hmem : ∀ x ∈ A ++ e :: B,∀ b,x.ob = some b → b < w.heap.size:=fun x hx b hb => (h.ws x hx).lt b hb
 refine ⟨?_,?_,?_,by simpa using h.ap⟩
 ·
  have hlen : (A ++ ({ e with hd:=hd',xs:=xs' } : El) :: B).length = (A ++ e :: B).length:=by simp
  rw [hlen,flat_split]
  exact h1.kept (fun b hb => f2 b (h1.lt b hb) (fun he => a1 b hb he))
 ·
  intro x hx
  simp only [List.mem_append,List.mem_cons] at hx
  rcases hx with hx|rfl|hx
  ·
   exact h.hd x (by simp [hx])
  ·
   exact hl
  ·
   exact h.hd x (by simp [hx])
 ·
  intro x hx
  simp only [List.mem_append,List.mem_cons] at hx
  rcases hx with hx|rfl|hx
  ·
   have hx' : x ∈ A ++ e :: B:=by simp [hx]
   obtain ⟨c1,c2⟩:=a2 x.ob (List.mem_map_of_mem hx)
   exact (h.ws x hx').kept (fun b hb => (f2 b (Nat.lt_of_lt_of_le (hmem x hx' b hb) hs) (fun he => c2 b hb he)).trans (f1 b (hmem x hx' b hb) (fun ho => c1 b ho hb)))
  ·
   exact h2
  ·
   have hx' : x ∈ A ++ e :: B:=by simp [hx]
   obtain ⟨c1,c2⟩:=a3 x.ob (List.mem_map_of_mem hx)
   exact (h.ws x hx').kept (fun b hb => (f2 b (Nat.lt_of_lt_of_le (hmem x hx' b hb) hs) (fun he => c2 b he hb)).trans (f1 b (hmem x hx' b hb) (fun ho => c1 b ho hb)))
end Go.Proofs.Ytjkanhjapddhnaa.MarkT
