/- The law's marks in a table: what they leave, what they keep. -/
-- squeezed
import Derived.Test.YtjkanhjapddhnaaOwn
import Derived.Test.YtjkanhjapddhnaaProg
import Derived.Deep.LoopGhost
import Derived.WalkKit
namespace Go.Proofs.Ytjkanhjapddhnaa.MarkT
open Go.RowKit Go.Proofs.YtjkanhjapddhnaaV.PrintWords Go.Proofs.YtjkanhjapddhnaaV.PrintMore Go.Proofs.Ytjkanhjapddhnaa.Own
set_option linter.unusedVariables false
set_option linter.unusedSimpArgs false
set_option maxHeartbeats 20000000
set_option maxRecDepth 100000
def marksW (k : Int) : Nat → List Value
 | 0 => []
 | n + 1 => marksW k n ++ [.int .i64 (k + 2 * n),.int .i64 (k + 2 * n + 1)]
theorem marksW_length (k : Int) (n : Nat) : (marksW k n).length = n * 2:=by
 induction n with
 | zero => rfl
 | succ n ih => rw [marksW,List.length_append,ih];simp;omega
theorem set_two (A : List Value) (xs : List Value) (j : Nat) (u v : Value) (hj : j + 1 < xs.length) (hA : A.length = j) : ((A ++ xs.drop j).set j u).set (j + 1) v = A ++ [u,v] ++ xs.drop (j + 2):=by
 subst hA
 have e : xs.drop A.length = xs[A.length] :: xs[A.length + 1] :: xs.drop (A.length + 2):=by
  rw [List.drop_eq_getElem_cons (by omega),List.drop_eq_getElem_cons (by omega)]
 rw [e,List.set_append_right _ _ (Nat.le_refl _),List.set_append_right _ _ (by omega),Nat.sub_self,show A.length + 1 - A.length = 1 by omega]
 simp only [List.set_cons_zero,List.set_cons_succ,List.append_assoc,List.cons_append,List.nil_append]
theorem markW_calls (v : Value) (n : Nat) (xs : List Value) (ob : Option Nat) (k : Int) (w : World) (S : Nat → Prop) (hr : Row w 73 2 v n xs ob) (hS : ∀ b,ob = some b → S b) (hk : 0 ≤ k) (hk2 : k + 2 * n ≤ 4611686018427387904) :
  Calls Try.prog 82 #[v,.int .i64 k] w fun e w' => e = .returned (.int .i64 (k + 2 * n)) ∧ Row w' 73 2 v n (marksW k n) ob ∧ Fr S w w':=by
 obtain ⟨A,c,rfl⟩ : ∃ A c,v = .slice A n c:=by obtain ⟨A,c,hv,_⟩:=hr;exact ⟨A,c,hv⟩
 have hl : xs.length = n * 2:=by obtain ⟨_,_,_,_,_,h,_⟩:=hr;exact h
 have HR:=Aside0.mk hr
 have HS:=Aside0.mk hS
 have HL:=Aside0.mk hl
 clear hr hS hl
 go_enter Try.func82,Try.ntmps82
 go_wp2_with fail
 go_loopg [1,5] n (fun g v1 v5 wx => ∃ i : Nat,v1 = .int .i64 (k + 2 * i) ∧ v5 = .int .i64 i ∧ i ≤ n ∧ Aside0 (i + g = n) ∧ Aside0 (Row wx 73 2 (.slice A n c) n (marksW k i ++ xs.drop (i * 2)) ob) ∧ Aside0 (Fr S w wx))
 case atStart => exact ⟨0,by go_num,rfl,Nat.zero_le _,⟨by omega⟩,⟨by simpa [marksW] using HR.out⟩,⟨Fr.refl _ _⟩⟩
 case round =>
  obtain ⟨wi,rfl⟩ : ∃ wi : World,wi = wr:=⟨_,rfl⟩
  obtain ⟨i,rfl,rfl,hi,HM,HX,HF⟩:=hrel
  by_cases hlt : i < n
  ·
   obtain ⟨b,o,c',hv,hob⟩:=HX.out.addr (by omega)
   injection hv with ha _ hc
   subst ha
   subst hc
   have hlx:=HX.out.len
   obtain ⟨y0,f0⟩:=HX.out.cellAt (i * 2) (by omega)
   obtain ⟨y1,f1⟩:=HX.out.cellAt (i * 2 + 1) (by omega)
   generalize (marksW k i ++ xs.drop (i * 2))[i * 2] = u0 at y0
   generalize (marksW k i ++ xs.drop (i * 2))[i * 2 + 1] = u1 at y1
   rw [← Nat.add_assoc] at y1 f1
   have p0 : ((i : Int) < (n : Int)) = True:=eq_true (by omega)
   have p1 : (0 ≤ (i : Int)) = True:=eq_true (by omega)
   have p2 : decide ((i : Int) < (n : Int)) = true:=decide_eq_true (by omega)
   have HOB:=Aside0.mk (HS.out b hob)
   clear hlx hob
   go_wp2_with fail
   go_roundg (gk - 1)
   case measure => have:=HM.out;omega
   case rel =>
    refine ⟨i + 1,by rw [show k + 2 * (i : Int) + 1 + 1 = k + 2 * ((i + 1 : Nat) : Int) by omega],by go_num,by omega,⟨by have:=HM.out;omega⟩,⟨?_⟩,⟨(HF.out.setCell (.inl HOB.out) _).setCell (.inl HOB.out) _⟩⟩
    have h:=(HX.out.set (i * 2) (.int .i64 (k + 2 * i))).set (i * 2 + 1) (.int .i64 (k + 2 * i + 1))
    rw [set_two _ _ _ _ _ (by have:=HL.out;omega) (marksW_length k i),← Nat.add_assoc] at h
    rw [show (i + 1) * 2 = i * 2 + 2 by omega]
    exact h
  ·
   obtain rfl : i = n:=by omega
   go_wp2_with fail
   go_ret
   refine ⟨rfl,?_,HF.out⟩
   have h:=HX.out
   rwa [List.drop_eq_nil_of_le (by have:=HL.out;omega),List.append_nil] at h
structure El where
 hd : List Value
 v : Value
 n : Nat
 xs : List Value
 ob : Option Nat
def El.cs (e : El) : List Value:=e.hd ++ [e.v]
def apart (x y : Option Nat) : Prop:=∀ b,x = some b → y ≠ some b
structure LRows (w : World) (v : Value) (els : List El) (ob : Option Nat) : Prop where
 row : Row w 70 5 v els.length (els.flatMap El.cs) ob
 hd : ∀ e ∈ els,e.hd.length = 4
 ws : ∀ e ∈ els,Row w 73 2 e.v e.n e.xs e.ob
 ap : (ob :: els.map El.ob).Pairwise apart
theorem flat_length (els : List El) (h : ∀ e ∈ els,e.hd.length = 4) : (els.flatMap El.cs).length = els.length * 5:=by
 induction els with
 | nil => rfl
 | cons e l ih =>
  rw [List.flatMap_cons,List.length_append,ih (fun x hx => h x (List.mem_cons_of_mem _ hx))]
  have:=h e List.mem_cons_self
  simp [El.cs,this]
  omega
theorem flat_split (A B : List El) (e : El) : (A ++ e :: B).flatMap El.cs = A.flatMap El.cs ++ (e.cs ++ B.flatMap El.cs):=by simp
theorem set_mid (P Q M : List Value) (j : Nat) (u : Value) (hj : j < M.length) : (P ++ (M ++ Q)).set (P.length + j) u = P ++ (M.set j u ++ Q):=by
 rw [List.set_append_right _ _ (by omega),show P.length + j - P.length = j by omega,List.set_append_left _ _ hj]
theorem get_mid (P Q M : List Value) (j : Nat) (hj : j < M.length) (h : P.length + j < (P ++ (M ++ Q)).length) : (P ++ (M ++ Q))[P.length + j] = M[j]:=by
 rw [List.getElem_append_right (by omega)]
 simp only [show P.length + j - P.length = j by omega]
 rw [List.getElem_append_left hj]
theorem LRows.kept {w w' : World} {v : Value} {els : List El} {ob : Option Nat} (h : LRows w v els ob) (hk : ∀ b,b < w.heap.size → w'.heap[b]? = w.heap[b]?) : LRows w' v els ob :=
 ⟨h.row.kept (fun b hb => hk b (h.row.lt b hb)),h.hd,fun e he => (h.ws e he).kept (fun b hb => hk b ((h.ws e he).lt b hb)),h.ap⟩
def lc (els : List El) : Nat:=(els.map fun e => 4 + 2 * e.n).sum
def markEl (mt : Int → ByteArray) (k : Int) (e : El) : El:={ e with hd:=[.string (mt k),.int .i64 (k + 1),.int .i64 (k + 2),.int .i64 (k + 3)],xs:=marksW (k + 4) e.n }
def markEls (mt : Int → ByteArray) (k : Int) : List El → List El
 | [] => []
 | e :: l => markEl mt k e :: markEls mt (k + (4 + 2 * e.n : Nat)) l
theorem markEls_append (mt : Int → ByteArray) (k : Int) (A : List El) (e : El) : markEls mt k (A ++ [e]) = markEls mt k A ++ [markEl mt (k + lc A) e]:=by
 induction A generalizing k with
 | nil => simp [markEls,lc]
 | cons a l ih =>
  rw [List.cons_append,markEls,ih,markEls,List.cons_append]
  simp only [lc,List.map_cons,List.sum_cons]
  rw [show k + ((4 + 2 * a.n : Nat) : Int) + ((List.map (fun e => 4 + 2 * e.n) l).sum : Nat) = k + ((4 + 2 * a.n + (List.map (fun e => 4 + 2 * e.n) l).sum : Nat) : Int) by omega]
theorem markEls_length (mt : Int → ByteArray) (k : Int) (A : List El) : (markEls mt k A).length = A.length:=by
 induction A generalizing k with
 | nil => rfl
 | cons a l ih => rw [markEls,List.length_cons,List.length_cons,ih]
theorem markEls_ob (mt : Int → ByteArray) (k : Int) (A : List El) : (markEls mt k A).map El.ob = A.map El.ob:=by
 induction A generalizing k with
 | nil => rfl
 | cons a l ih => rw [markEls,List.map_cons,List.map_cons,ih];rfl
theorem lc_append (A B : List El) : lc (A ++ B) = lc A + lc B:=by simp [lc]
theorem ap_mid {x : Option Nat} {A B : List (Option Nat)} {y : Option Nat} (h : (x :: (A ++ y :: B)).Pairwise apart) : apart x y ∧ (∀ z ∈ A,apart x z ∧ apart z y) ∧ (∀ z ∈ B,apart x z ∧ apart y z):=by
 rw [List.pairwise_cons,List.pairwise_append,List.pairwise_cons] at h
 obtain ⟨h1,h2,⟨h3,h4⟩,h5⟩:=h
 exact ⟨h1 y (by simp),fun z hz => ⟨h1 z (by simp [hz]),h5 z hz y (by simp)⟩,fun z hz => ⟨h1 z (by simp [hz]),h3 z hz⟩⟩
theorem LRows.put {w w1 w2 : World} {v : Value} {A B : List El} {e : El} {ob : Option Nat} (h : LRows w v (A ++ e :: B) ob) (hd' : List Value) (xs' : List Value) (hl : hd'.length = 4)
  (h1 : Row w1 70 5 v (A ++ e :: B).length (A.flatMap El.cs ++ ((hd' ++ [e.v]) ++ B.flatMap El.cs)) ob) (f1 : ∀ b,b < w.heap.size → ob ≠ some b → w1.heap[b]? = w.heap[b]?) (hs : w.heap.size ≤ w1.heap.size)
  (h2 : Row w2 73 2 e.v e.n xs' e.ob) (f2 : ∀ b,b < w1.heap.size → e.ob ≠ some b → w2.heap[b]? = w1.heap[b]?) : LRows w2 v (A ++ { e with hd:=hd',xs:=xs' } :: B) ob:=by
 have hap : (ob :: (A.map El.ob ++ e.ob :: B.map El.ob)).Pairwise apart:=by simpa using h.ap
 obtain ⟨a1,a2,a3⟩:=ap_mid hap
 have hmem : ∀ x ∈ A ++ e :: B,∀ b,x.ob = some b → b < w.heap.size:=fun x hx b hb => (h.ws x hx).lt b hb
 refine ⟨?_,?_,?_,by simpa using h.ap⟩
 ·
  have hlen : (A ++ ({ e with hd:=hd',xs:=xs' } : El) :: B).length = (A ++ e :: B).length:=by simp
  rw [hlen,flat_split]
  exact h1.kept (fun b hb => f2 b (h1.lt b hb) (fun he => a1 b hb he))
 ·
  intro x hx
  simp only [List.mem_append,List.mem_cons] at hx
  rcases hx with hx|rfl|hx
  ·
   exact h.hd x (by simp [hx])
  ·
   exact hl
  ·
   exact h.hd x (by simp [hx])
 ·
  intro x hx
  simp only [List.mem_append,List.mem_cons] at hx
  rcases hx with hx|rfl|hx
  ·
   have hx' : x ∈ A ++ e :: B:=by simp [hx]
   obtain ⟨c1,c2⟩:=a2 x.ob (List.mem_map_of_mem hx)
   exact (h.ws x hx').kept (fun b hb => (f2 b (Nat.lt_of_lt_of_le (hmem x hx' b hb) hs) (fun he => c2 b hb he)).trans (f1 b (hmem x hx' b hb) (fun ho => c1 b ho hb)))
  ·
   exact h2
  ·
   have hx' : x ∈ A ++ e :: B:=by simp [hx]
   obtain ⟨c1,c2⟩:=a3 x.ob (List.mem_map_of_mem hx)
   exact (h.ws x hx').kept (fun b hb => (f2 b (Nat.lt_of_lt_of_le (hmem x hx' b hb) hs) (fun he => c2 b he hb)).trans (f1 b (hmem x hx' b hb) (fun ho => c1 b ho hb)))
theorem markL_calls (mt : Int → ByteArray) (hmt : ∀ (k : Int) (w : World),0 ≤ k → k ≤ 4611686018427387904 → Calls Try.prog 63 #[.int .i64 k] w fun e w' => e = .returned (.string (mt k)) ∧ Below w.heap.size w w')
  (v : Value) (els : List El) (ob : Option Nat) (k : Int) (w : World) (S : Nat → Prop) (hr : LRows w v els ob) (hS : ∀ b,ob = some b ∨ (∃ e ∈ els,e.ob = some b) → S b) (hk : 0 ≤ k) (hk2 : k + lc els ≤ 4611686018427387904) :
  Calls Try.prog 53 #[v,.int .i64 k] w fun e w' => e = .returned (.int .i64 (k + lc els)) ∧ LRows w' v (markEls mt k els) ob ∧ Fr S w w':=by
 obtain ⟨A,c,rfl⟩:=hr.row.slice
 have hn : els.length ≤ 4611686018427387904:=by
  have : els.length ≤ lc els:=by
   clear hr hS hk2
   induction els with
   | nil => simp [lc]
   | cons e l ih => simp only [lc,List.map_cons,List.sum_cons,List.length_cons] at ih ⊢;omega
  omega
 have HR:=Aside0.mk hr
 have HS:=Aside0.mk hS
 clear hr hS
 have HMT:=Aside0.mk hmt
 clear hmt
 go_enter Try.func53,Try.ntmps53
 go_wp2_with fail
 go_loopg [1,5] els.length (fun g v1 v5 wx => ∃ (i : Nat) (P B : List El),v1 = .int .i64 (k + lc P) ∧ v5 = .int .i64 i ∧ Aside0 (els = P ++ B ∧ P.length = i) ∧ i ≤ els.length ∧ Aside0 (i + g = els.length) ∧ Aside0 (LRows wx (.slice A els.length c) (markEls mt k P ++ B) ob) ∧ Aside0 (Fr S w wx))
 case atStart => exact ⟨0,[],els,by simp [lc],rfl,⟨rfl,rfl⟩,Nat.zero_le _,⟨by omega⟩,HR,⟨Fr.refl _ _⟩⟩
 case round =>
  obtain ⟨wi,rfl⟩ : ∃ wi : World,wi = wr:=⟨_,rfl⟩
  obtain ⟨i,P,B,rfl,rfl,HP,hi,HM,HX,HF⟩:=hrel
  by_cases hlt : i < els.length
  ·
   obtain ⟨e,B,rfl⟩ : ∃ e B',B = e :: B':=by
    cases B with
    | nil => obtain ⟨h1,h2⟩:=HP.out;rw [h1,List.append_nil] at hlt;omega
    | cons e B' => exact ⟨e,B',rfl⟩
   have hkb : 0 ≤ k + lc P ∧ k + lc P + (4 + 2 * e.n) ≤ 4611686018427387904:=by
    have h:=HP.out.1
    rw [h,lc_append] at hk2
    simp only [lc,List.map_cons,List.sum_cons] at hk2 ⊢
    omega
   have hlen : (markEls mt k P ++ e :: B).length = els.length:=by rw [HP.out.1,List.length_append,List.length_append,markEls_length]
   have hrow:=HX.out.row
   rw [hlen] at hrow
   obtain ⟨b,o,c',hv,hob⟩:=hrow.addr (by omega)
   injection hv with ha _ hc
   subst ha
   subst hc
   have hsb:=HS.out b (.inl hob)
   have hpl : ((markEls mt k P).flatMap El.cs).length = i * 5:=by rw [flat_length _ (fun x hx => HX.out.hd x (by simp [hx])),markEls_length,HP.out.2]
   have he4:=HX.out.hd e (by simp)
   obtain ⟨q0,q1,q2,q3,heq⟩ : ∃ q0 q1 q2 q3,e.hd = [q0,q1,q2,q3]:=by
    match e.hd,he4 with
    | [q0,q1,q2,q3],_ => exact ⟨_,_,_,_,rfl⟩
   have hcs : e.cs = [q0,q1,q2,q3,e.v]:=by rw [El.cs,heq];rfl
   rw [flat_split] at hrow
   have hcell : ∀ j (hj : j < 5),wi.cell? ⟨b,o + (i * 5 + j),none⟩ = some ([q0,q1,q2,q3,e.v][j]) ∧ wi.frozen? ⟨b,o + (i * 5 + j),none⟩ = false:=fun j hj => by
    have hl5 : e.cs.length = 5:=by rw [hcs];rfl
    have hb:=hrow.cellAt (((markEls mt k P).flatMap El.cs).length + j) (by rw [List.length_append,List.length_append,hl5];omega)
    rw [get_mid _ _ _ j (by omega),hpl] at hb
    simp only [hcs] at hb
    exact hb
   have HROW:=Aside0.mk hrow
   have HPL:=Aside0.mk hpl
   have HCS:=Aside0.mk hcs
   have HSB:=Aside0.mk hsb
   have HOB:=Aside0.mk hob
   have HLEN:=Aside0.mk hlen
   have HCELL:=Aside0.mk hcell
   clear hrow hpl hcs hsb hob hlen hcell he4 heq
   have p0 : ((i : Int) < (els.length : Int)) = True:=eq_true (by omega)
   have p1 : (0 ≤ (i : Int)) = True:=eq_true (by omega)
   have p2 : decide ((i : Int) < (els.length : Int)) = true:=decide_eq_true (by omega)
   obtain ⟨kk,hkk⟩ : ∃ kk,kk = k + (lc P : Int):=⟨_,rfl⟩
   rw [← hkk] at hkb ⊢
   have HKK:=Aside0.mk hkk
   clear hkk
   obtain ⟨hk0,hk1⟩:=hkb
   go_wp2_with fail
   refine (HMT.out _ _ (by omega) (by omega)).mono ?_
   rintro _ w1 ⟨rfl,hb⟩
   have HB:=Aside0.mk hb
   have hc1 : ∀ j (hj : j < 5),w1.cell? ⟨b,o + (i * 5 + j),none⟩ = some ([q0,q1,q2,q3,e.v][j]) ∧ w1.frozen? ⟨b,o + (i * 5 + j),none⟩ = false:=fun j hj => by
    have h:=HCELL.out j hj
    exact ⟨pw_cell_below hb h.1,(hb.frozen (p:=⟨b,o + (i * 5 + j),none⟩) (World.block_lt_of_cell? _ _ h.1)).trans h.2⟩
   clear hb
   obtain ⟨y0,f0⟩:=hc1 0 (by omega)
   obtain ⟨y1,f1⟩:=hc1 1 (by omega)
   obtain ⟨y2,f2⟩:=hc1 2 (by omega)
   obtain ⟨y3,f3⟩:=hc1 3 (by omega)
   obtain ⟨y4,f4⟩:=hc1 4 (by omega)
   clear hc1
   simp only [Nat.add_zero,← Nat.add_assoc,List.getElem_cons_zero,List.getElem_cons_succ] at y0 y1 y2 y3 y4 f0 f1 f2 f3 f4
   go_wp2_with fail
   have HROW1:=(HROW.out.kept (w':=w1) (fun b' hb' => HB.out.block b' (HROW.out.lt b' hb')))
   have r0:=HROW1.set (i * 5 + 0) (.string (mt kk))
   have r1:=r0.set (i * 5 + 1) (.int .i64 (kk + 1))
   have r2:=r1.set (i * 5 + 2) (.int .i64 (kk + 1 + 1))
   have r3:=r2.set (i * 5 + 3) (.int .i64 (kk + 1 + 1 + 1))
   rw [← HPL.out] at r3
   rw [set_mid _ _ _ 0 _ (by rw [HCS.out];simp),set_mid _ _ _ 1 _ (by rw [List.length_set,HCS.out];simp),set_mid _ _ _ 2 _ (by rw [List.length_set,List.length_set,HCS.out];simp),set_mid _ _ _ 3 _ (by rw [List.length_set,List.length_set,List.length_set,HCS.out];simp),HPL.out,HCS.out] at r3
   have hset : (((([q0,q1,q2,q3,e.v].set 0 (.string (mt kk))).set 1 (.int .i64 (kk + 1))).set 2 (.int .i64 (kk + 1 + 1))).set 3 (.int .i64 (kk + 1 + 1 + 1))) = [.string (mt kk),.int .i64 (kk + 1),.int .i64 (kk + 1 + 1),.int .i64 (kk + 1 + 1 + 1)] ++ [e.v]:=rfl
   rw [hset] at r3
   simp only [Nat.add_zero,← Nat.add_assoc] at r3
   clear r0 r1 r2
   have f1' : Fr S wi ((((w1.setCell ⟨b,o + i * 5,none⟩ (.string (mt kk))).setCell ⟨b,o + i * 5 + 1,none⟩ (.int .i64 (kk + 1))).setCell ⟨b,o + i * 5 + 2,none⟩ (.int .i64 (kk + 1 + 1))).setCell ⟨b,o + i * 5 + 3,none⟩ (.int .i64 (kk + 1 + 1 + 1))) :=
    ((((Fr.of_below HB.out).setCell (.inl HSB.out) _).setCell (.inl HSB.out) _).setCell (.inl HSB.out) _).setCell (.inl HSB.out) _
   have g1' : Fr (fun x => ob = some x) wi ((((w1.setCell ⟨b,o + i * 5,none⟩ (.string (mt kk))).setCell ⟨b,o + i * 5 + 1,none⟩ (.int .i64 (kk + 1))).setCell ⟨b,o + i * 5 + 2,none⟩ (.int .i64 (kk + 1 + 1))).setCell ⟨b,o + i * 5 + 3,none⟩ (.int .i64 (kk + 1 + 1 + 1))) :=
    ((((Fr.of_below HB.out).setCell (.inl HOB.out) _).setCell (.inl HOB.out) _).setCell (.inl HOB.out) _).setCell (.inl HOB.out) _
   have R3:=Aside0.mk r3
   have F1:=Aside0.mk f1'
   have G1:=Aside0.mk g1'
   clear r3 f1' g1' HROW1 hset y0 y1 y2 y3 y4 f0 f1 f2 f3 f4
   generalize (((w1.setCell ⟨b,o + i * 5,none⟩ (.string (mt kk))).setCell ⟨b,o + i * 5 + 1,none⟩ (.int .i64 (kk + 1))).setCell ⟨b,o + i * 5 + 2,none⟩ (.int .i64 (kk + 1 + 1))).setCell ⟨b,o + i * 5 + 3,none⟩ (.int .i64 (kk + 1 + 1 + 1)) = w2 at R3 F1 G1 ⊢
   have hws:=HX.out.ws e (by simp)
   have hapx : ∀ x,e.ob = some x → ob ≠ some x:=fun x hx ho => by
    have hap : (ob :: ((markEls mt k P).map El.ob ++ e.ob :: B.map El.ob)).Pairwise apart:=by simpa using HX.out.ap
    exact (ap_mid hap).1 x ho hx
   have hws2 : Row w2 73 2 e.v e.n e.xs e.ob:=hws.kept (fun x hx => G1.out.block x (hws.lt x hx) (hapx x hx))
   refine (markW_calls e.v e.n e.xs e.ob _ w2 (fun x => e.ob = some x) hws2 (fun x hx => hx) (by omega) (by omega)).mono ?_
   rintro _ w3 ⟨rfl,hrow3,hfr3⟩
   have HL3:=HX.out.put [.string (mt kk),.int .i64 (kk + 1),.int .i64 (kk + 1 + 1),.int .i64 (kk + 1 + 1 + 1)] (marksW (kk + 1 + 1 + 1 + 1) e.n) rfl (w1:=w2) (w2:=w3)
    (by rw [HLEN.out];exact R3.out) (fun x hx ho => G1.out.block x hx ho) G1.out.size hrow3 (fun x hx ho => hfr3.block x hx ho)
   have HF3:=Aside0.mk (HF.out.trans (F1.out.trans hfr3 (fun x hx => .inl (HS.out x (.inr ⟨e,by rw [HP.out.1];simp,hx⟩)))) (fun x hx => .inl hx))
   have HX3:=Aside0.mk HL3
   clear HL3 hrow3 hfr3 hws hws2 hapx
   go_wp2_with fail
   go_roundg (gk - 1)
   case measure => have:=HM.out;omega
   case rel =>
    refine ⟨i + 1,P ++ [e],B,?_,by go_num,⟨by rw [HP.out.1];simp,by rw [List.length_append,HP.out.2];rfl⟩,by omega,⟨by have:=HM.out;omega⟩,⟨?_⟩,HF3⟩
    ·
     rw [lc_append,HKK.out]
     have : lc [e] = 4 + 2 * e.n:=by simp [lc]
     rw [this]
     congr 1
     omega
    ·
     rw [markEls_append,List.append_assoc,List.singleton_append,← HKK.out]
     have h:=HX3.out
     simp only [show kk + 1 + 1 = kk + 2 by omega,show kk + 2 + 1 = kk + 3 by omega,show kk + 3 + 1 = kk + 4 by omega] at h
     exact h
  ·
   obtain rfl : i = els.length:=by omega
   have hB : B = []:=by
    have h1:=HP.out.1
    have h2:=HP.out.2
    have h3:=congrArg List.length h1
    rw [List.length_append] at h3
    exact List.eq_nil_of_length_eq_zero (by omega)
   subst hB
   have hPe : els = P:=by rw [HP.out.1,List.append_nil]
   go_wp2_with fail
   go_ret
   refine ⟨by rw [hPe];rfl,?_,HF.out⟩
   have h:=HX.out
   rw [List.append_nil,← hPe] at h
   exact h
def seenMarks (k : Int) : List Value:=[.int .i64 k,.int .i64 (k + 1),.int .i64 (k + 2),.int .i64 (k + 3),.int .i64 (k + 4),.int .i64 (k + 5)]
def marksN (k : Int) : Nat → List Value
 | 0 => []
 | n + 1 => marksN k n ++ seenMarks (k + 6 * n)
theorem marksN_length (k : Int) (n : Nat) : (marksN k n).length = n * 6:=by
 induction n with
 | zero => rfl
 | succ n ih => rw [marksN,List.length_append,ih];simp [seenMarks];omega
theorem set_six (A xs : List Value) (j : Nat) (a b c d e f : Value) (hj : j + 5 < xs.length) (hA : A.length = j) : ((((((A ++ xs.drop j).set j a).set (j + 1) b).set (j + 2) c).set (j + 3) d).set (j + 4) e).set (j + 5) f = A ++ [a,b,c,d,e,f] ++ xs.drop (j + 6):=by
 subst hA
 have e : xs.drop A.length = xs[A.length] :: xs[A.length + 1] :: xs[A.length + 2] :: xs[A.length + 3] :: xs[A.length + 4] :: xs[A.length + 5] :: xs.drop (A.length + 6):=by
  rw [List.drop_eq_getElem_cons (by omega),List.drop_eq_getElem_cons (by omega),List.drop_eq_getElem_cons (by omega),List.drop_eq_getElem_cons (by omega),List.drop_eq_getElem_cons (by omega),List.drop_eq_getElem_cons (by omega)]
 rw [e,List.set_append_right _ _ (Nat.le_refl _),List.set_append_right _ _ (by omega),List.set_append_right _ _ (by omega),List.set_append_right _ _ (by omega),List.set_append_right _ _ (by omega),List.set_append_right _ _ (by omega),Nat.sub_self,
  show A.length + 1 - A.length = 1 by omega,show A.length + 2 - A.length = 2 by omega,show A.length + 3 - A.length = 3 by omega,show A.length + 4 - A.length = 4 by omega,show A.length + 5 - A.length = 5 by omega]
 simp only [List.set_cons_zero,List.set_cons_succ,List.append_assoc,List.cons_append,List.nil_append]
theorem markN_calls (v : Value) (n : Nat) (xs : List Value) (ob : Option Nat) (k : Int) (w : World) (S : Nat → Prop) (hr : Row w 77 6 v n xs ob) (hS : ∀ b,ob = some b → S b) (hk : 0 ≤ k) (hk2 : k + 6 * n ≤ 4611686018427387904) :
  Calls Try.prog 54 #[v,.int .i64 k] w fun e w' => e = .returned (.int .i64 (k + 6 * n)) ∧ Row w' 77 6 v n (marksN k n) ob ∧ Fr S w w':=by
 obtain ⟨A,c,rfl⟩ : ∃ A c,v = .slice A n c:=by obtain ⟨A,c,hv,_⟩:=hr;exact ⟨A,c,hv⟩
 have hl : xs.length = n * 6:=hr.len
 have HR:=Aside0.mk hr
 have HS:=Aside0.mk hS
 have HL:=Aside0.mk hl
 clear hr hS hl
 go_enter Try.func54,Try.ntmps54
 go_wp2_with fail
 go_loopg [1,5] n (fun g v1 v5 wx => ∃ i : Nat,v1 = .int .i64 (k + 6 * i) ∧ v5 = .int .i64 i ∧ i ≤ n ∧ Aside0 (i + g = n) ∧ Aside0 (Row wx 77 6 (.slice A n c) n (marksN k i ++ xs.drop (i * 6)) ob) ∧ Aside0 (Fr S w wx))
 case atStart => exact ⟨0,by go_num,rfl,Nat.zero_le _,⟨by omega⟩,⟨by simpa [marksN] using HR.out⟩,⟨Fr.refl _ _⟩⟩
 case round =>
  obtain ⟨wi,rfl⟩ : ∃ wi : World,wi = wr:=⟨_,rfl⟩
  obtain ⟨i,rfl,rfl,hi,HM,HX,HF⟩:=hrel
  by_cases hlt : i < n
  ·
   obtain ⟨b,o,c',hv,hob⟩:=HX.out.addr (by omega)
   injection hv with ha _ hc
   subst ha
   subst hc
   have hlx:=HX.out.len
   have hcell : ∀ j,j < 6 → ∃ u,wi.cell? ⟨b,o + (i * 6 + j),none⟩ = some u ∧ wi.frozen? ⟨b,o + (i * 6 + j),none⟩ = false:=fun j hj => ⟨_,HX.out.cellAt (i * 6 + j) (by omega)⟩
   obtain ⟨u0,y0,f0⟩:=hcell 0 (by omega)
   obtain ⟨u1,y1,f1⟩:=hcell 1 (by omega)
   obtain ⟨u2,y2,f2⟩:=hcell 2 (by omega)
   obtain ⟨u3,y3,f3⟩:=hcell 3 (by omega)
   obtain ⟨u4,y4,f4⟩:=hcell 4 (by omega)
   obtain ⟨u5,y5,f5⟩:=hcell 5 (by omega)
   simp only [Nat.add_zero,← Nat.add_assoc] at y0 y1 y2 y3 y4 y5 f0 f1 f2 f3 f4 f5
   have p0 : ((i : Int) < (n : Int)) = True:=eq_true (by omega)
   have p1 : (0 ≤ (i : Int)) = True:=eq_true (by omega)
   have p2 : decide ((i : Int) < (n : Int)) = true:=decide_eq_true (by omega)
   have HOB:=Aside0.mk (HS.out b hob)
   clear hlx hob hcell
   obtain ⟨kk,hkk⟩ : ∃ kk,kk = k + 6 * (i : Int):=⟨_,rfl⟩
   rw [← hkk]
   have hk0 : 0 ≤ kk:=by omega
   have hk1 : kk + 6 ≤ 4611686018427387904:=by omega
   have HKK:=Aside0.mk hkk
   clear hkk
   go_wp2_with fail
   go_roundg (gk - 1)
   case measure => have:=HM.out;omega
   case rel =>
    refine ⟨i + 1,?_,by go_num,by omega,⟨by have:=HM.out;omega⟩,⟨?_⟩,⟨(((((HF.out.setCell (.inl HOB.out) _).setCell (.inl HOB.out) _).setCell (.inl HOB.out) _).setCell (.inl HOB.out) _).setCell (.inl HOB.out) _).setCell (.inl HOB.out) _⟩⟩
    ·
     rw [HKK.out]
     congr 1
     omega
    ·
     have h:=(((((HX.out.set (i * 6 + 0) (.int .i64 kk)).set (i * 6 + 1) (.int .i64 (kk + 1))).set (i * 6 + 2) (.int .i64 (kk + 1 + 1))).set (i * 6 + 3) (.int .i64 (kk + 1 + 1 + 1))).set (i * 6 + 4) (.int .i64 (kk + 1 + 1 + 1 + 1))).set (i * 6 + 5) (.int .i64 (kk + 1 + 1 + 1 + 1 + 1))
     rw [Nat.add_zero,set_six _ _ _ _ _ _ _ _ _ (by have:=HL.out;omega) (marksN_length k i)] at h
     simp only [← Nat.add_assoc] at h
     rw [show (i + 1) * 6 = i * 6 + 6 by omega,marksN,seenMarks,← HKK.out]
     simp only [show kk + 1 + 1 = kk + 2 by omega,show kk + 2 + 1 = kk + 3 by omega,show kk + 3 + 1 = kk + 4 by omega,show kk + 4 + 1 = kk + 5 by omega] at h ⊢
     exact h
  ·
   obtain rfl : i = n:=by omega
   go_wp2_with fail
   go_ret
   refine ⟨rfl,?_,HF.out⟩
   have h:=HX.out
   rwa [List.drop_eq_nil_of_le (by have:=HL.out;omega),List.append_nil] at h
theorem markTab_calls (mt : Int → ByteArray) (hmt : ∀ (k : Int) (w : World),0 ≤ k → k ≤ 4611686018427387904 → Calls Try.prog 63 #[.int .i64 k] w fun e w' => e = .returned (.string (mt k)) ∧ Below w.heap.size w w')
  (t0 t1 : Int) (vl vs : Value) (els : List El) (n : Nat) (xs : List Value) (obl obs : Option Nat) (k : Int) (w : World) (S : Nat → Prop) (hr : LRows w vl els obl) (hs : Row w 77 6 vs n xs obs) (hS : ∀ b,obl = some b ∨ (∃ e ∈ els,e.ob = some b) → S b ∧ obs ≠ some b) (hT : ∀ b,obs = some b → S b) (hk : 0 ≤ k) (hk2 : k + lc els + 6 * n ≤ 4611686018427387904) :
  Calls Try.prog 18 #[.agg #[.int .i64 t0,.int .i64 t1,vl,vs],.int .i64 k] w fun e w' => e = .returned (.int .i64 (k + lc els + 6 * n)) ∧ LRows w' vl (markEls mt k els) obl ∧ Row w' 77 6 vs n (marksN (k + lc els) n) obs ∧ Fr S w w':=by
 obtain ⟨A,c,rfl⟩:=hr.row.slice
 obtain ⟨D,d,rfl⟩:=hs.slice
 have HR:=Aside0.mk hr
 have HS:=Aside0.mk hs
 have HA:=Aside0.mk hS
 have HD:=Aside0.mk hT
 have HMT:=Aside0.mk hmt
 have HB:=Aside0.mk ((Below.refl w.heap.size w).alloc (Nat.le_refl _) (.cells #[.int .i64 t0,.int .i64 t1,.slice A els.length c,.slice D n d] 31 (0,0)))
 have HG:=Aside0.mk (heap_alloc_new w (.cells #[.int .i64 t0,.int .i64 t1,.slice A els.length c,.slice D n d] 31 (0,0)))
 clear hr hs hS hT hmt
 go_enter Try.func18,Try.ntmps18
 go_wp2_with fail
 refine (markL_calls mt HMT.out _ els obl k _ (fun x => obl = some x ∨ ∃ e ∈ els,e.ob = some x) (HR.out.kept (fun b hb => HB.out.block b hb)) (fun b hb => hb) hk (by omega)).mono ?_
 rintro _ w2 ⟨rfl,hl2,hf2⟩
 have hnS : ¬ (obl = some w.heap.size ∨ ∃ e ∈ els,e.ob = some w.heap.size):=by
  rintro (h|⟨e,he,h⟩)
  ·
   exact absurd (HR.out.row.lt _ h) (by omega)
  ·
   exact absurd ((HR.out.ws e he).lt _ h) (by omega)
 have hg2:=hf2.blk HG.out hnS
 have x3 : w2.cell? ⟨w.heap.size,3,none⟩ = some (.slice D n d):=(blk_cell hg2 3).trans rfl
 have hs2 : Row w2 77 6 (.slice D n d) n xs obs:=HS.out.kept (fun b hb => (hf2.block b (Nat.lt_of_lt_of_le (HS.out.lt b hb) HB.out.size) (fun h => (HA.out b h).2 hb)).trans (HB.out.block b (HS.out.lt b hb)))
 have HL2:=Aside0.mk hl2
 have HS2:=Aside0.mk hs2
 have HF2:=Aside0.mk (Fr.trans (S:=S) (Fr.of_below HB.out) hf2 (fun x hx => .inl (HA.out x hx).1))
 clear hl2 hs2 hf2 hg2 hnS
 go_wp2_with fail
 refine (markN_calls _ n xs obs _ _ (fun x => obs = some x) HS2.out (fun b hb => hb) (by omega) (by omega)).mono ?_
 rintro _ w3 ⟨rfl,hs3,hf3⟩
 have hl3 : LRows w3 (.slice A els.length c) (markEls mt k els) obl:=⟨HL2.out.row.kept (fun b hb => hf3.block b (HL2.out.row.lt b hb) (fun h => (HA.out b (.inl hb)).2 h)),HL2.out.hd,fun e he => (HL2.out.ws e he).kept (fun b hb => hf3.block b ((HL2.out.ws e he).lt b hb) (fun h => by
   have hm : e.ob ∈ (markEls mt k els).map El.ob:=List.mem_map_of_mem he
   rw [markEls_ob] at hm
   obtain ⟨e',he',hee⟩:=List.mem_map.1 hm
   exact (HA.out b (.inr ⟨e',he',hee.trans hb⟩)).2 h)),HL2.out.ap⟩
 have HL3:=Aside0.mk hl3
 have HS3:=Aside0.mk hs3
 have HF3:=Aside0.mk (HF2.out.trans hf3 (fun x hx => .inl (HD.out x hx)))
 clear hs3 hf3 hl3 x3
 go_wp2_with fail
 go_ret
 exact ⟨rfl,HL3.out,HS3.out,HF3.out⟩
end Go.Proofs.Ytjkanhjapddhnaa.MarkT
