/- The law's marks in answers, requests and numbers; what it finds again of marks in a table and in answers (written by mkheld.py). No condition. -/
-- squeezed
import Derived.Test.YtjkanhjapddhnaaInsR
import Derived.Test.YtjkanhjapddhnaaGr
import Derived.Test.YtjkanhjapddhnaaVLast
namespace Go.Proofs.Ytjkanhjapddhnaa.Held
open Go.RowKit Go.Lib Go.Proofs.YtjkanhjapddhnaaV.PrintWords Go.Proofs.YtjkanhjapddhnaaV.PrintMore Go.Proofs.YtjkanhjapddhnaaV.PrintLast Go.Proofs.Ytjkanhjapddhnaa.Sq Go.Proofs.Ytjkanhjapddhnaa.Own Go.Proofs.Ytjkanhjapddhnaa.MarkT Go.Proofs.Ytjkanhjapddhnaa.InsR
set_option linter.unusedVariables false
set_option linter.unusedSimpArgs false
set_option maxHeartbeats 20000000
set_option maxRecDepth 100000
theorem snoc_len {f : Nat → List Value} {el : Nat → List Value} {sz : Nat} (h0 : f 0 = []) (hs : ∀ n,f (n + 1) = f n ++ el n) (hl : ∀ i,(el i).length = sz) (n : Nat) : (f n).length = n * sz:=by
 induction n with
 | zero => rw [h0];simp
 | succ n ih => rw [hs,List.length_append,ih,hl,Nat.succ_mul]
theorem snoc_get {f : Nat → List Value} {el : Nat → List Value} {sz : Nat} (h0 : f 0 = []) (hs : ∀ n,f (n + 1) = f n ++ el n) (hl : ∀ i,(el i).length = sz) (n i j : Nat) (hi : i < n) (hj : j < sz) : (f n)[i * sz + j]? = (el i)[j]?:=by
 induction n with
 | zero => omega
 | succ n ih =>
  have hln:=snoc_len h0 hs hl n
  have hm : i * sz + sz ≤ n * sz ∨ i = n:=by
   by_cases h : i = n
   ·
    exact .inr h
   ·
    exact .inl (by rw [← Nat.succ_mul];exact Nat.mul_le_mul_right sz (by omega))
  rw [hs]
  rcases hm with hm|rfl
  ·
   rw [List.getElem?_append_left (by omega)]
   exact ih (by
    have : i ≠ n:=fun e => by subst e;omega
    omega)
  ·
   rw [List.getElem?_append_right (by omega),hln,Nat.add_sub_cancel_left]
theorem set1 (A xs : List Value) (j : Nat) (a : Value) (hj : j + 0 < xs.length) (hA : A.length = j) : (A ++ xs.drop j).set (j) a = A ++ [a] ++ xs.drop (j + 1):=by
 subst hA
 have e : xs.drop A.length = xs[A.length] :: xs.drop (A.length + 1):=by
  rw [List.drop_eq_getElem_cons (by omega)]
 rw [e,List.set_append_right _ _ (by omega),Nat.sub_self]
 simp only [List.set_cons_zero,List.set_cons_succ,List.append_assoc,List.cons_append,List.nil_append]
theorem set4 (A xs : List Value) (j : Nat) (a b c d : Value) (hj : j + 3 < xs.length) (hA : A.length = j) : ((((A ++ xs.drop j).set (j) a).set (j + 1) b).set (j + 2) c).set (j + 3) d = A ++ [a,b,c,d] ++ xs.drop (j + 4):=by
 subst hA
 have e : xs.drop A.length = xs[A.length] :: xs[A.length + 1] :: xs[A.length + 2] :: xs[A.length + 3] :: xs.drop (A.length + 4):=by
  rw [List.drop_eq_getElem_cons (by omega),List.drop_eq_getElem_cons (by omega),List.drop_eq_getElem_cons (by omega),List.drop_eq_getElem_cons (by omega)]
 rw [e,List.set_append_right _ _ (by omega),List.set_append_right _ _ (by omega),List.set_append_right _ _ (by omega),List.set_append_right _ _ (by omega),Nat.sub_self,show A.length + 1 - A.length = 1 by omega,show A.length + 2 - A.length = 2 by omega,show A.length + 3 - A.length = 3 by omega]
 simp only [List.set_cons_zero,List.set_cons_succ,List.append_assoc,List.cons_append,List.nil_append]
theorem set5 (A xs : List Value) (j : Nat) (a b c d e : Value) (hj : j + 4 < xs.length) (hA : A.length = j) : (((((A ++ xs.drop j).set (j) a).set (j + 1) b).set (j + 2) c).set (j + 3) d).set (j + 4) e = A ++ [a,b,c,d,e] ++ xs.drop (j + 5):=by
 subst hA
 have e : xs.drop A.length = xs[A.length] :: xs[A.length + 1] :: xs[A.length + 2] :: xs[A.length + 3] :: xs[A.length + 4] :: xs.drop (A.length + 5):=by
  rw [List.drop_eq_getElem_cons (by omega),List.drop_eq_getElem_cons (by omega),List.drop_eq_getElem_cons (by omega),List.drop_eq_getElem_cons (by omega),List.drop_eq_getElem_cons (by omega)]
 rw [e,List.set_append_right _ _ (by omega),List.set_append_right _ _ (by omega),List.set_append_right _ _ (by omega),List.set_append_right _ _ (by omega),List.set_append_right _ _ (by omega),Nat.sub_self,show A.length + 1 - A.length = 1 by omega,show A.length + 2 - A.length = 2 by omega,show A.length + 3 - A.length = 3 by omega,show A.length + 4 - A.length = 4 by omega]
 simp only [List.set_cons_zero,List.set_cons_succ,List.append_assoc,List.cons_append,List.nil_append]
def elA (k : Int) : List Value:=[.int .i64 k,.int .i64 (k + 1),.int .i64 (k + 2),.int .i64 (k + 3)]
def marksA (k : Int) : Nat → List Value
 | 0 => []
 | n + 1 => marksA k n ++ elA (k + 4 * n)
def elR (mt : Int → ByteArray) (k : Int) : List Value:=[.int .i64 k,.int .i64 (k + 1),.int .i64 (k + 2),.int .i64 (k + 3),.string (mt (k + 4))]
def marksR (mt : Int → ByteArray) (k : Int) : Nat → List Value
 | 0 => []
 | n + 1 => marksR mt k n ++ elR mt (k + 5 * n)
def elI (k : Int) : List Value:=[.int .i64 k]
def marksI (k : Int) : Nat → List Value
 | 0 => []
 | n + 1 => marksI k n ++ elI (k + 1 * n)
theorem markA_calls (v : Value) (n : Nat) (xs : List Value) (ob : Option Nat) (k : Int) (w : World) (S : Nat → Prop) (hr : Row w 75 4 v n xs ob) (hS : ∀ b,ob = some b → S b) (hk : 0 ≤ k) (hk2 : k + 4 * n ≤ 4611686018427387904) :
  Calls Try.prog 36 #[v,.int .i64 k] w fun e w' => e = .returned (.int .i64 (k + 4 * n)) ∧ Row w' 75 4 v n (marksA k n) ob ∧ Fr S w w':=by
 obtain ⟨A,c,rfl⟩ : ∃ A c,v = .slice A n c:=by obtain ⟨A,c,hv,_⟩:=hr;exact ⟨A,c,hv⟩
 have hl : xs.length = n * 4:=hr.len
 have HR:=Aside0.mk hr
 have HS:=Aside0.mk hS
 have HL:=Aside0.mk hl
 clear hr hS hl
 go_enter Try.func36,Try.ntmps36
 go_wp2_with fail
 go_loopg [1,5] n (fun g v1 v5 wx => ∃ i : Nat,v1 = .int .i64 (k + 4 * i) ∧ v5 = .int .i64 i ∧ i ≤ n ∧ Aside0 (i + g = n) ∧ Aside0 (Row wx 75 4 (.slice A n c) n (marksA k i ++ xs.drop (i * 4)) ob) ∧ Aside0 (Fr S w wx))
 case atStart => exact ⟨0,by go_num,rfl,Nat.zero_le _,⟨by omega⟩,⟨by simpa [marksA] using HR.out⟩,⟨Fr.refl _ _⟩⟩
 case round =>
  obtain ⟨wi,rfl⟩ : ∃ wi : World,wi = wr:=⟨_,rfl⟩
  obtain ⟨i,rfl,rfl,hi,HM,HX,HF⟩:=hrel
  by_cases hlt : i < n
  ·
   obtain ⟨b,o,c',hv,hob⟩:=HX.out.addr (by omega)
   injection hv with ha _ hc
   subst ha
   subst hc
   have p0 : ((i : Int) < (n : Int)) = True:=eq_true (by omega)
   have p1 : (0 ≤ (i : Int)) = True:=eq_true (by omega)
   have p2 : decide ((i : Int) < (n : Int)) = true:=decide_eq_true (by omega)
   have HOB:=Aside0.mk (HS.out b hob)
   clear hob
   obtain ⟨kk,hkk⟩ : ∃ kk,kk = k + 4 * (i : Int):=⟨_,rfl⟩
   rw [← hkk]
   have hk0 : 0 ≤ kk:=by omega
   have hk1 : kk + 4 ≤ 4611686018427387904:=by omega
   have HKK:=Aside0.mk hkk
   clear hkk
   have hcell : ∀ j,j < 4 → ∃ u,wi.cell? ⟨b,o + (i * 4 + j),none⟩ = some u ∧ wi.frozen? ⟨b,o + (i * 4 + j),none⟩ = false:=fun j hj => ⟨_,HX.out.cellAt (i * 4 + j) (by rw [HX.out.len];have:=Nat.mul_le_mul_right 4 (show i + 1 ≤ n by omega);omega)⟩
   obtain ⟨u0,y0,f0⟩:=hcell 0 (by omega)
   obtain ⟨u1,y1,f1⟩:=hcell 1 (by omega)
   obtain ⟨u2,y2,f2⟩:=hcell 2 (by omega)
   obtain ⟨u3,y3,f3⟩:=hcell 3 (by omega)
   simp only [Nat.add_zero,Nat.mul_one,← Nat.add_assoc] at y0 f0 y1 f1 y2 f2 y3 f3
   clear hcell
   go_wp2_with fail
   go_roundg (gk - 1)
   case measure => have:=HM.out;omega
   case rel =>
    refine ⟨i + 1,?_,by go_num,by omega,⟨by have:=HM.out;omega⟩,⟨?_⟩,⟨((((HF.out.setCell (.inl HOB.out) _).setCell (.inl HOB.out) _).setCell (.inl HOB.out) _).setCell (.inl HOB.out) _)⟩⟩
    ·
     rw [HKK.out]
     congr 1
     omega
    ·
     have h:=((((HX.out.set (i * 4 + 0) (.int .i64 kk)).set (i * 4 + 1) (.int .i64 (kk + 1))).set (i * 4 + 2) (.int .i64 (kk + 1 + 1))).set (i * 4 + 3) (.int .i64 (kk + 1 + 1 + 1)))
     try simp only [Nat.add_zero,← Nat.add_assoc] at h
     rw [set4 _ _ _ _ _ _ _ (by have:=HL.out;have:=Nat.mul_le_mul_right 4 (show i + 1 ≤ n by omega);omega) (snoc_len (f:=marksA k) (el:=fun i => elA (k + 4 * i)) rfl (fun _ => rfl) (fun _ => rfl) i)] at h
     rw [show (i + 1) * 4 = i * 4 + 4 by omega]
     rw [marksA,elA,← HKK.out]
     try simp only [List.append_nil,show kk + 1 + 1 = kk + 2 by omega,show kk + 2 + 1 = kk + 3 by omega,show kk + 3 + 1 = kk + 4 by omega] at h ⊢
     exact h
  ·
   obtain rfl : i = n:=by omega
   have p2 : decide ((i : Int) < (i : Int)) = false:=decide_eq_false (by omega)
   go_wp2_with fail
   go_ret
   refine ⟨rfl,?_,HF.out⟩
   have h:=HX.out
   rwa [List.drop_eq_nil_of_le (by have:=HL.out;omega),List.append_nil] at h
theorem markR_calls (mt : Int → ByteArray) (hmt : ∀ (k : Int) (w : World),0 ≤ k → k ≤ 4611686018427387904 → Calls Try.prog 63 #[.int .i64 k] w fun e w' => e = .returned (.string (mt k)) ∧ Below w.heap.size w w') (v : Value) (n : Nat) (xs : List Value) (ob : Option Nat) (k : Int) (w : World) (S : Nat → Prop) (hr : Row w 94 5 v n xs ob) (hS : ∀ b,ob = some b → S b) (hk : 0 ≤ k) (hk2 : k + 5 * n ≤ 4611686018427387904) :
  Calls Try.prog 29 #[v,.int .i64 k] w fun e w' => e = .returned (.int .i64 (k + 5 * n)) ∧ Row w' 94 5 v n (marksR mt k n) ob ∧ Fr S w w':=by
 obtain ⟨A,c,rfl⟩ : ∃ A c,v = .slice A n c:=by obtain ⟨A,c,hv,_⟩:=hr;exact ⟨A,c,hv⟩
 have hl : xs.length = n * 5:=hr.len
 have HR:=Aside0.mk hr
 have HS:=Aside0.mk hS
 have HL:=Aside0.mk hl
 clear hr hS hl
 have HMT:=Aside0.mk hmt
 clear hmt
 go_enter Try.func29,Try.ntmps29
 go_wp2_with fail
 go_loopg [1,5] n (fun g v1 v5 wx => ∃ i : Nat,v1 = .int .i64 (k + 5 * i) ∧ v5 = .int .i64 i ∧ i ≤ n ∧ Aside0 (i + g = n) ∧ Aside0 (Row wx 94 5 (.slice A n c) n (marksR mt k i ++ xs.drop (i * 5)) ob) ∧ Aside0 (Fr S w wx))
 case atStart => exact ⟨0,by go_num,rfl,Nat.zero_le _,⟨by omega⟩,⟨by simpa [marksR] using HR.out⟩,⟨Fr.refl _ _⟩⟩
 case round =>
  obtain ⟨wi,rfl⟩ : ∃ wi : World,wi = wr:=⟨_,rfl⟩
  obtain ⟨i,rfl,rfl,hi,HM,HX,HF⟩:=hrel
  by_cases hlt : i < n
  ·
   obtain ⟨b,o,c',hv,hob⟩:=HX.out.addr (by omega)
   injection hv with ha _ hc
   subst ha
   subst hc
   have p0 : ((i : Int) < (n : Int)) = True:=eq_true (by omega)
   have p1 : (0 ≤ (i : Int)) = True:=eq_true (by omega)
   have p2 : decide ((i : Int) < (n : Int)) = true:=decide_eq_true (by omega)
   have HOB:=Aside0.mk (HS.out b hob)
   clear hob
   obtain ⟨kk,hkk⟩ : ∃ kk,kk = k + 5 * (i : Int):=⟨_,rfl⟩
   rw [← hkk]
   have hk0 : 0 ≤ kk:=by omega
   have hk1 : kk + 5 ≤ 4611686018427387904:=by omega
   have HKK:=Aside0.mk hkk
   clear hkk
   have hcell : ∀ j,j < 5 → ∃ u,wi.cell? ⟨b,o + (i * 5 + j),none⟩ = some u ∧ wi.frozen? ⟨b,o + (i * 5 + j),none⟩ = false:=fun j hj => ⟨_,HX.out.cellAt (i * 5 + j) (by rw [HX.out.len];have:=Nat.mul_le_mul_right 5 (show i + 1 ≤ n by omega);omega)⟩
   obtain ⟨u0,y0,f0⟩:=hcell 0 (by omega)
   obtain ⟨u1,y1,f1⟩:=hcell 1 (by omega)
   obtain ⟨u2,y2,f2⟩:=hcell 2 (by omega)
   obtain ⟨u3,y3,f3⟩:=hcell 3 (by omega)
   simp only [Nat.add_zero,Nat.mul_one,← Nat.add_assoc] at y0 f0 y1 f1 y2 f2 y3 f3
   clear hcell
   go_wp2_with fail
   clear y0 f0 y1 f1 y2 f2 y3 f3
   have r1:=((((HX.out.set (i * 5 + 0) (.int .i64 kk)).set (i * 5 + 1) (.int .i64 (kk + 1))).set (i * 5 + 2) (.int .i64 (kk + 1 + 1))).set (i * 5 + 3) (.int .i64 (kk + 1 + 1 + 1)))
   have g1 : Fr S w (((((wi.setCell ⟨b,o + i * 5,none⟩ (.int .i64 kk)).setCell ⟨b,o + i * 5 + 1,none⟩ (.int .i64 (kk + 1))).setCell ⟨b,o + i * 5 + 2,none⟩ (.int .i64 (kk + 1 + 1))).setCell ⟨b,o + i * 5 + 3,none⟩ (.int .i64 (kk + 1 + 1 + 1)))):=((((HF.out.setCell (.inl HOB.out) _).setCell (.inl HOB.out) _).setCell (.inl HOB.out) _).setCell (.inl HOB.out) _)
   simp only [Nat.add_zero,Nat.mul_one,← Nat.add_assoc] at r1
   have HX1:=Aside0.mk r1
   have HF1:=Aside0.mk g1
   clear r1 g1
   generalize ((((wi.setCell ⟨b,o + i * 5,none⟩ (.int .i64 kk)).setCell ⟨b,o + i * 5 + 1,none⟩ (.int .i64 (kk + 1))).setCell ⟨b,o + i * 5 + 2,none⟩ (.int .i64 (kk + 1 + 1))).setCell ⟨b,o + i * 5 + 3,none⟩ (.int .i64 (kk + 1 + 1 + 1))) = w1 at HX1 HF1 ⊢
   refine (HMT.out _ _ (by omega) (by omega)).mono ?_
   rintro _ w2 ⟨rfl,hb⟩
   have HX2:=Aside0.mk (HX1.out.kept (fun b' hb' => hb.block b' (HX1.out.lt b' hb')))
   have HF2:=Aside0.mk (HF1.out.below hb)
   clear hb
   have hcell : ∀ j,j < 5 → ∃ u,w2.cell? ⟨b,o + (i * 5 + j),none⟩ = some u ∧ w2.frozen? ⟨b,o + (i * 5 + j),none⟩ = false:=fun j hj => ⟨_,HX2.out.cellAt (i * 5 + j) (by rw [HX2.out.len];have:=Nat.mul_le_mul_right 5 (show i + 1 ≤ n by omega);omega)⟩
   obtain ⟨u4,y4,f4⟩:=hcell 4 (by omega)
   simp only [Nat.add_zero,Nat.mul_one,← Nat.add_assoc] at y4 f4
   clear hcell
   go_wp2_with fail
   go_roundg (gk - 1)
   case measure => have:=HM.out;omega
   case rel =>
    refine ⟨i + 1,?_,by go_num,by omega,⟨by have:=HM.out;omega⟩,⟨?_⟩,⟨(HF2.out.setCell (.inl HOB.out) _)⟩⟩
    ·
     rw [HKK.out]
     congr 1
     omega
    ·
     have h:=(HX2.out.set (i * 5 + 4) (.string (mt (kk + 1 + 1 + 1 + 1))))
     try simp only [Nat.add_zero,← Nat.add_assoc] at h
     rw [set5 _ _ _ _ _ _ _ _ (by have:=HL.out;have:=Nat.mul_le_mul_right 5 (show i + 1 ≤ n by omega);omega) (snoc_len (f:=marksR mt k) (el:=fun i => elR mt (k + 5 * i)) rfl (fun _ => rfl) (fun _ => rfl) i)] at h
     rw [show (i + 1) * 5 = i * 5 + 5 by omega]
     rw [marksR,elR,← HKK.out]
     try simp only [List.append_nil,show kk + 1 + 1 = kk + 2 by omega,show kk + 2 + 1 = kk + 3 by omega,show kk + 3 + 1 = kk + 4 by omega,show kk + 4 + 1 = kk + 5 by omega] at h ⊢
     exact h
  ·
   obtain rfl : i = n:=by omega
   have p2 : decide ((i : Int) < (i : Int)) = false:=decide_eq_false (by omega)
   go_wp2_with fail
   go_ret
   refine ⟨rfl,?_,HF.out⟩
   have h:=HX.out
   rwa [List.drop_eq_nil_of_le (by have:=HL.out;omega),List.append_nil] at h
theorem markI_calls (v : Value) (n : Nat) (xs : List Value) (ob : Option Nat) (k : Int) (w : World) (S : Nat → Prop) (hr : Row w 3 1 v n xs ob) (hS : ∀ b,ob = some b → S b) (hk : 0 ≤ k) (hk2 : k + 1 * n ≤ 4611686018427387904) :
  Calls Try.prog 30 #[v,.int .i64 k] w fun e w' => e = .returned (.int .i64 (k + 1 * n)) ∧ Row w' 3 1 v n (marksI k n) ob ∧ Fr S w w':=by
 obtain ⟨A,c,rfl⟩ : ∃ A c,v = .slice A n c:=by obtain ⟨A,c,hv,_⟩:=hr;exact ⟨A,c,hv⟩
 have hl : xs.length = n * 1:=hr.len
 have HR:=Aside0.mk hr
 have HS:=Aside0.mk hS
 have HL:=Aside0.mk hl
 clear hr hS hl
 go_enter Try.func30,Try.ntmps30
 go_wp2_with fail
 go_loopg [1,5] n (fun g v1 v5 wx => ∃ i : Nat,v1 = .int .i64 (k + 1 * i) ∧ v5 = .int .i64 i ∧ i ≤ n ∧ Aside0 (i + g = n) ∧ Aside0 (Row wx 3 1 (.slice A n c) n (marksI k i ++ xs.drop (i * 1)) ob) ∧ Aside0 (Fr S w wx))
 case atStart => exact ⟨0,by go_num,rfl,Nat.zero_le _,⟨by omega⟩,⟨by simpa [marksI] using HR.out⟩,⟨Fr.refl _ _⟩⟩
 case round =>
  obtain ⟨wi,rfl⟩ : ∃ wi : World,wi = wr:=⟨_,rfl⟩
  obtain ⟨i,rfl,rfl,hi,HM,HX,HF⟩:=hrel
  by_cases hlt : i < n
  ·
   obtain ⟨b,o,c',hv,hob⟩:=HX.out.addr (by omega)
   injection hv with ha _ hc
   subst ha
   subst hc
   have p0 : ((i : Int) < (n : Int)) = True:=eq_true (by omega)
   have p1 : (0 ≤ (i : Int)) = True:=eq_true (by omega)
   have p2 : decide ((i : Int) < (n : Int)) = true:=decide_eq_true (by omega)
   have HOB:=Aside0.mk (HS.out b hob)
   clear hob
   obtain ⟨kk,hkk⟩ : ∃ kk,kk = k + 1 * (i : Int):=⟨_,rfl⟩
   rw [← hkk]
   have hk0 : 0 ≤ kk:=by omega
   have hk1 : kk + 1 ≤ 4611686018427387904:=by omega
   have HKK:=Aside0.mk hkk
   clear hkk
   have hcell : ∀ j,j < 1 → ∃ u,wi.cell? ⟨b,o + (i * 1 + j),none⟩ = some u ∧ wi.frozen? ⟨b,o + (i * 1 + j),none⟩ = false:=fun j hj => ⟨_,HX.out.cellAt (i * 1 + j) (by rw [HX.out.len];have:=Nat.mul_le_mul_right 1 (show i + 1 ≤ n by omega);omega)⟩
   obtain ⟨u0,y0,f0⟩:=hcell 0 (by omega)
   simp only [Nat.add_zero,Nat.mul_one,← Nat.add_assoc] at y0 f0
   clear hcell
   go_wp2_with fail
   go_roundg (gk - 1)
   case measure => have:=HM.out;omega
   case rel =>
    refine ⟨i + 1,?_,by go_num,by omega,⟨by have:=HM.out;omega⟩,⟨?_⟩,⟨(HF.out.setCell (.inl HOB.out) _)⟩⟩
    ·
     rw [HKK.out]
     congr 1
     omega
    ·
     have h:=(HX.out.set (i * 1 + 0) (.int .i64 kk))
     rw [Nat.add_zero] at h
     rw [set1 _ _ _ _ (by have h9:=HL.out;rw [Nat.mul_one] at h9 ⊢;omega) (snoc_len (f:=marksI k) (el:=fun i => elI (k + 1 * i)) rfl (fun _ => rfl) (fun _ => rfl) i)] at h
     simp only [Nat.mul_one] at h ⊢
     rw [marksI,elI,← HKK.out]
     try simp only [List.append_nil] at h ⊢
     exact h
  ·
   obtain rfl : i = n:=by omega
   have p2 : decide ((i : Int) < (i : Int)) = false:=decide_eq_false (by omega)
   go_wp2_with fail
   go_ret
   refine ⟨rfl,?_,HF.out⟩
   have h:=HX.out
   rwa [List.drop_eq_nil_of_le (by have:=HL.out;omega),List.append_nil] at h
theorem heldA_calls (v : Value) (n : Nat) (ob : Option Nat) (k : Int) (w : World) (hr : Row w 75 4 v n (marksA k n) ob) (hk : 0 ≤ k) (hk2 : k + 4 * n ≤ 4611686018427387904) :
  Calls Try.prog 38 #[v,.int .i64 k] w fun e w' => e = .returned (.int .i64 (k + 4 * n)) ∧ Below w.heap.size w w':=by
 obtain ⟨A,c,rfl⟩ : ∃ A c,v = .slice A n c:=by obtain ⟨A,c,hv,_⟩:=hr;exact ⟨A,c,hv⟩
 have HR:=Aside0.mk hr
 clear hr
 go_enter Try.func38,Try.ntmps38
 go_wp2_with fail
 go_loopg [1,5] n (fun g v1 v5 wx => ∃ i : Nat,v1 = .int .i64 (k + 4 * i) ∧ v5 = .int .i64 i ∧ i ≤ n ∧ Aside0 (i + g = n) ∧ Aside0 (Below w.heap.size w wx))
 case atStart => exact ⟨0,by go_num,rfl,Nat.zero_le _,⟨by omega⟩,⟨Below.refl _ _⟩⟩
 case round =>
  obtain ⟨wi,rfl⟩ : ∃ wi : World,wi = wr:=⟨_,rfl⟩
  obtain ⟨i,rfl,rfl,hi,HM,HB⟩:=hrel
  by_cases hlt : i < n
  ·
   have hrow:=HR.out.kept (w':=wi) (fun b' hb' => HB.out.block b' (HR.out.lt b' hb'))
   obtain ⟨b,o,c',hv,hob⟩:=hrow.addr (by omega)
   injection hv with ha _ hc
   subst ha
   subst hc
   have p0 : ((i : Int) < (n : Int)) = True:=eq_true (by omega)
   have p1 : (0 ≤ (i : Int)) = True:=eq_true (by omega)
   have p2 : decide ((i : Int) < (n : Int)) = true:=decide_eq_true (by omega)
   clear hob
   obtain ⟨kk,hkk⟩ : ∃ kk,kk = k + 4 * (i : Int):=⟨_,rfl⟩
   have y0 : wi.cell? ⟨b,o + (i * 4 + 0),none⟩ = some (.int .i64 kk):=Row.cells hrow _ _ (by rw [snoc_get (f:=marksA k) (el:=fun i => elA (k + 4 * i)) rfl (fun _ => rfl) (fun _ => rfl) n i 0 hlt (by omega)];show some _ = some _;first|(rw [hkk];done)|(rw [hkk];congr 2;omega))
   have y1 : wi.cell? ⟨b,o + (i * 4 + 1),none⟩ = some (.int .i64 (kk + 1)):=Row.cells hrow _ _ (by rw [snoc_get (f:=marksA k) (el:=fun i => elA (k + 4 * i)) rfl (fun _ => rfl) (fun _ => rfl) n i 1 hlt (by omega)];show some _ = some _;first|(rw [hkk];done)|(rw [hkk];congr 2;omega))
   have y2 : wi.cell? ⟨b,o + (i * 4 + 2),none⟩ = some (.int .i64 (kk + 1 + 1)):=Row.cells hrow _ _ (by rw [snoc_get (f:=marksA k) (el:=fun i => elA (k + 4 * i)) rfl (fun _ => rfl) (fun _ => rfl) n i 2 hlt (by omega)];show some _ = some _;first|(rw [hkk];done)|(rw [hkk];congr 2;omega))
   have y3 : wi.cell? ⟨b,o + (i * 4 + 3),none⟩ = some (.int .i64 (kk + 1 + 1 + 1)):=Row.cells hrow _ _ (by rw [snoc_get (f:=marksA k) (el:=fun i => elA (k + 4 * i)) rfl (fun _ => rfl) (fun _ => rfl) n i 3 hlt (by omega)];show some _ = some _;first|(rw [hkk];done)|(rw [hkk];congr 2;omega))
   rw [← hkk]
   have hk0 : 0 ≤ kk:=by omega
   have hk1 : kk + 4 ≤ 4611686018427387904:=by omega
   have HKK:=Aside0.mk hkk
   clear hkk hrow
   simp only [Nat.add_zero,← Nat.add_assoc] at y0 y1 y2 y3
   go_wp2_with fail
   go_roundg (gk - 1)
   case measure => have:=HM.out;omega
   case rel =>
    refine ⟨i + 1,?_,by go_num,by omega,⟨by have:=HM.out;omega⟩,HB⟩
    rw [HKK.out]
    congr 1
    omega
  ·
   obtain rfl : i = n:=by omega
   have p2 : decide ((i : Int) < (i : Int)) = false:=decide_eq_false (by omega)
   go_wp2_with fail
   go_ret
   exact ⟨rfl,HB.out⟩
theorem heldW_calls (v : Value) (n : Nat) (ob : Option Nat) (k : Int) (w : World) (hr : Row w 73 2 v n (marksW k n) ob) (hk : 0 ≤ k) (hk2 : k + 2 * n ≤ 4611686018427387904) :
  Calls Try.prog 99 #[v,.int .i64 k] w fun e w' => e = .returned (.int .i64 (k + 2 * n)) ∧ Below w.heap.size w w':=by
 obtain ⟨A,c,rfl⟩ : ∃ A c,v = .slice A n c:=by obtain ⟨A,c,hv,_⟩:=hr;exact ⟨A,c,hv⟩
 have HR:=Aside0.mk hr
 clear hr
 go_enter Try.func99,Try.ntmps99
 go_wp2_with fail
 go_loopg [1,5] n (fun g v1 v5 wx => ∃ i : Nat,v1 = .int .i64 (k + 2 * i) ∧ v5 = .int .i64 i ∧ i ≤ n ∧ Aside0 (i + g = n) ∧ Aside0 (Below w.heap.size w wx))
 case atStart => exact ⟨0,by go_num,rfl,Nat.zero_le _,⟨by omega⟩,⟨Below.refl _ _⟩⟩
 case round =>
  obtain ⟨wi,rfl⟩ : ∃ wi : World,wi = wr:=⟨_,rfl⟩
  obtain ⟨i,rfl,rfl,hi,HM,HB⟩:=hrel
  by_cases hlt : i < n
  ·
   have hrow:=HR.out.kept (w':=wi) (fun b' hb' => HB.out.block b' (HR.out.lt b' hb'))
   obtain ⟨b,o,c',hv,hob⟩:=hrow.addr (by omega)
   injection hv with ha _ hc
   subst ha
   subst hc
   have p0 : ((i : Int) < (n : Int)) = True:=eq_true (by omega)
   have p1 : (0 ≤ (i : Int)) = True:=eq_true (by omega)
   have p2 : decide ((i : Int) < (n : Int)) = true:=decide_eq_true (by omega)
   clear hob
   obtain ⟨kk,hkk⟩ : ∃ kk,kk = k + 2 * (i : Int):=⟨_,rfl⟩
   have y0 : wi.cell? ⟨b,o + (i * 2 + 0),none⟩ = some (.int .i64 kk):=Row.cells hrow _ _ (by rw [snoc_get (f:=marksW k) (el:=fun i => [.int .i64 (k + 2 * i),.int .i64 (k + 2 * i + 1)]) rfl (fun _ => rfl) (fun _ => rfl) n i 0 hlt (by omega)];show some _ = some _;first|(rw [hkk];done)|(rw [hkk];congr 2;omega))
   have y1 : wi.cell? ⟨b,o + (i * 2 + 1),none⟩ = some (.int .i64 (kk + 1)):=Row.cells hrow _ _ (by rw [snoc_get (f:=marksW k) (el:=fun i => [.int .i64 (k + 2 * i),.int .i64 (k + 2 * i + 1)]) rfl (fun _ => rfl) (fun _ => rfl) n i 1 hlt (by omega)];show some _ = some _;first|(rw [hkk];done)|(rw [hkk];congr 2;omega))
   rw [← hkk]
   have hk0 : 0 ≤ kk:=by omega
   have hk1 : kk + 2 ≤ 4611686018427387904:=by omega
   have HKK:=Aside0.mk hkk
   clear hkk hrow
   simp only [Nat.add_zero,← Nat.add_assoc] at y0 y1
   go_wp2_with fail
   go_roundg (gk - 1)
   case measure => have:=HM.out;omega
   case rel =>
    refine ⟨i + 1,?_,by go_num,by omega,⟨by have:=HM.out;omega⟩,HB⟩
    rw [HKK.out]
    congr 1
    omega
  ·
   obtain rfl : i = n:=by omega
   have p2 : decide ((i : Int) < (i : Int)) = false:=decide_eq_false (by omega)
   go_wp2_with fail
   go_ret
   exact ⟨rfl,HB.out⟩
theorem heldN_calls (v : Value) (n : Nat) (ob : Option Nat) (k : Int) (w : World) (hr : Row w 77 6 v n (marksN k n) ob) (hk : 0 ≤ k) (hk2 : k + 6 * n ≤ 4611686018427387904) :
  Calls Try.prog 70 #[v,.int .i64 k] w fun e w' => e = .returned (.int .i64 (k + 6 * n)) ∧ Below w.heap.size w w':=by
 obtain ⟨A,c,rfl⟩ : ∃ A c,v = .slice A n c:=by obtain ⟨A,c,hv,_⟩:=hr;exact ⟨A,c,hv⟩
 have HR:=Aside0.mk hr
 clear hr
 go_enter Try.func70,Try.ntmps70
 go_wp2_with fail
 go_loopg [1,5] n (fun g v1 v5 wx => ∃ i : Nat,v1 = .int .i64 (k + 6 * i) ∧ v5 = .int .i64 i ∧ i ≤ n ∧ Aside0 (i + g = n) ∧ Aside0 (Below w.heap.size w wx))
 case atStart => exact ⟨0,by go_num,rfl,Nat.zero_le _,⟨by omega⟩,⟨Below.refl _ _⟩⟩
 case round =>
  obtain ⟨wi,rfl⟩ : ∃ wi : World,wi = wr:=⟨_,rfl⟩
  obtain ⟨i,rfl,rfl,hi,HM,HB⟩:=hrel
  by_cases hlt : i < n
  ·
   have hrow:=HR.out.kept (w':=wi) (fun b' hb' => HB.out.block b' (HR.out.lt b' hb'))
   obtain ⟨b,o,c',hv,hob⟩:=hrow.addr (by omega)
   injection hv with ha _ hc
   subst ha
   subst hc
   have p0 : ((i : Int) < (n : Int)) = True:=eq_true (by omega)
   have p1 : (0 ≤ (i : Int)) = True:=eq_true (by omega)
   have p2 : decide ((i : Int) < (n : Int)) = true:=decide_eq_true (by omega)
   clear hob
   obtain ⟨kk,hkk⟩ : ∃ kk,kk = k + 6 * (i : Int):=⟨_,rfl⟩
   have y0 : wi.cell? ⟨b,o + (i * 6 + 0),none⟩ = some (.int .i64 kk):=Row.cells hrow _ _ (by rw [snoc_get (f:=marksN k) (el:=fun i => seenMarks (k + 6 * i)) rfl (fun _ => rfl) (fun _ => rfl) n i 0 hlt (by omega)];show some _ = some _;first|(rw [hkk];done)|(rw [hkk];congr 2;omega))
   have y1 : wi.cell? ⟨b,o + (i * 6 + 1),none⟩ = some (.int .i64 (kk + 1)):=Row.cells hrow _ _ (by rw [snoc_get (f:=marksN k) (el:=fun i => seenMarks (k + 6 * i)) rfl (fun _ => rfl) (fun _ => rfl) n i 1 hlt (by omega)];show some _ = some _;first|(rw [hkk];done)|(rw [hkk];congr 2;omega))
   have y2 : wi.cell? ⟨b,o + (i * 6 + 2),none⟩ = some (.int .i64 (kk + 1 + 1)):=Row.cells hrow _ _ (by rw [snoc_get (f:=marksN k) (el:=fun i => seenMarks (k + 6 * i)) rfl (fun _ => rfl) (fun _ => rfl) n i 2 hlt (by omega)];show some _ = some _;first|(rw [hkk];done)|(rw [hkk];congr 2;omega))
   have y3 : wi.cell? ⟨b,o + (i * 6 + 3),none⟩ = some (.int .i64 (kk + 1 + 1 + 1)):=Row.cells hrow _ _ (by rw [snoc_get (f:=marksN k) (el:=fun i => seenMarks (k + 6 * i)) rfl (fun _ => rfl) (fun _ => rfl) n i 3 hlt (by omega)];show some _ = some _;first|(rw [hkk];done)|(rw [hkk];congr 2;omega))
   have y4 : wi.cell? ⟨b,o + (i * 6 + 4),none⟩ = some (.int .i64 (kk + 1 + 1 + 1 + 1)):=Row.cells hrow _ _ (by rw [snoc_get (f:=marksN k) (el:=fun i => seenMarks (k + 6 * i)) rfl (fun _ => rfl) (fun _ => rfl) n i 4 hlt (by omega)];show some _ = some _;first|(rw [hkk];done)|(rw [hkk];congr 2;omega))
   have y5 : wi.cell? ⟨b,o + (i * 6 + 5),none⟩ = some (.int .i64 (kk + 1 + 1 + 1 + 1 + 1)):=Row.cells hrow _ _ (by rw [snoc_get (f:=marksN k) (el:=fun i => seenMarks (k + 6 * i)) rfl (fun _ => rfl) (fun _ => rfl) n i 5 hlt (by omega)];show some _ = some _;first|(rw [hkk];done)|(rw [hkk];congr 2;omega))
   rw [← hkk]
   have hk0 : 0 ≤ kk:=by omega
   have hk1 : kk + 6 ≤ 4611686018427387904:=by omega
   have HKK:=Aside0.mk hkk
   clear hkk hrow
   simp only [Nat.add_zero,← Nat.add_assoc] at y0 y1 y2 y3 y4 y5
   go_wp2_with fail
   go_roundg (gk - 1)
   case measure => have:=HM.out;omega
   case rel =>
    refine ⟨i + 1,?_,by go_num,by omega,⟨by have:=HM.out;omega⟩,HB⟩
    rw [HKK.out]
    congr 1
    omega
  ·
   obtain rfl : i = n:=by omega
   have p2 : decide ((i : Int) < (i : Int)) = false:=decide_eq_false (by omega)
   go_wp2_with fail
   go_ret
   exact ⟨rfl,HB.out⟩
theorem markEls_get (mt : Int → ByteArray) (k : Int) (A : List El) (e : El) (B : List El) : markEls mt k (A ++ e :: B) = markEls mt k A ++ markEl mt (k + lc A) e :: markEls mt (k + (lc A : Int) + ((4 + 2 * e.n : Nat) : Int)) B:=by
 induction A generalizing k with
 | nil => simp [markEls,lc]
 | cons a l ih =>
  rw [List.cons_append,markEls,ih,markEls,List.cons_append]
  simp only [lc,List.map_cons,List.sum_cons]
  rw [show k + ((4 + 2 * a.n : Nat) : Int) + ((List.map (fun e => 4 + 2 * e.n) l).sum : Nat) = k + ((4 + 2 * a.n + (List.map (fun e => 4 + 2 * e.n) l).sum : Nat) : Int) by omega]
theorem heldL_calls (mt : Int → ByteArray) (hmt : ∀ (k : Int) (w : World),0 ≤ k → k ≤ 4611686018427387904 → Calls Try.prog 63 #[.int .i64 k] w fun e w' => e = .returned (.string (mt k)) ∧ Below w.heap.size w w')
  (v : Value) (els : List El) (ob : Option Nat) (k : Int) (w : World) (hr : LRows w v (markEls mt k els) ob) (hk : 0 ≤ k) (hk2 : k + lc els ≤ 4611686018427387904) :
  Calls Try.prog 69 #[v,.int .i64 k] w fun e w' => e = .returned (.int .i64 (k + lc els)) ∧ Below w.heap.size w w':=by
 have hlen:=markEls_length mt k els
 obtain ⟨A,c,rfl⟩ : ∃ A c,v = .slice A els.length c:=by
  have h:=hr.row
  rw [hlen] at h
  exact h.slice
 have hn : els.length ≤ 4611686018427387904:=by
  have : els.length ≤ lc els:=by
   clear hr hk2 hlen
   induction els with
   | nil => simp [lc]
   | cons e l ih => simp only [lc,List.map_cons,List.sum_cons,List.length_cons] at ih ⊢;omega
  omega
 have HR:=Aside0.mk hr
 have HLEN:=Aside0.mk hlen
 have HMT:=Aside0.mk hmt
 clear hr hlen hmt
 go_enter Try.func69,Try.ntmps69
 go_wp2_with fail
 go_loopg [1,5] els.length (fun g v1 v5 wx => ∃ (i : Nat) (P B : List El),v1 = .int .i64 (k + lc P) ∧ v5 = .int .i64 i ∧ Aside0 (els = P ++ B ∧ P.length = i) ∧ i ≤ els.length ∧ Aside0 (i + g = els.length) ∧ Aside0 (Below w.heap.size w wx))
 case atStart => exact ⟨0,[],els,by simp [lc],rfl,⟨rfl,rfl⟩,Nat.zero_le _,⟨by omega⟩,⟨Below.refl _ _⟩⟩
 case round =>
  obtain ⟨wi,rfl⟩ : ∃ wi : World,wi = wr:=⟨_,rfl⟩
  obtain ⟨i,P,B,rfl,rfl,HP,hi,HM,HB⟩:=hrel
  by_cases hlt : i < els.length
  ·
   obtain ⟨e,B,rfl⟩ : ∃ e B',B = e :: B':=by
    cases B with
    | nil => obtain ⟨h1,h2⟩:=HP.out;rw [h1,List.append_nil] at hlt;omega
    | cons e B' => exact ⟨e,B',rfl⟩
   have hkb : 0 ≤ k + lc P ∧ k + lc P + (4 + 2 * e.n) ≤ 4611686018427387904:=by
    have h:=HP.out.1
    rw [h,lc_append] at hk2
    simp only [lc,List.map_cons,List.sum_cons] at hk2 ⊢
    omega
   obtain ⟨kk,hkk⟩ : ∃ kk,kk = k + (lc P : Int):=⟨_,rfl⟩
   have hLR:=HR.out.kept (w':=wi) (fun b' hb' => HB.out.block b' hb')
   have hlen:=HLEN.out
   have hsp:=markEls_get mt k P e B
   rw [← HP.out.1,← hkk] at hsp
   have hel : markEl mt kk e ∈ markEls mt k els:=by rw [hsp];simp
   have HWS:=Aside0.mk (show Row wi 73 2 e.v e.n (marksW (kk + 4) e.n) e.ob from hLR.ws _ hel)
   have hrow:=hLR.row
   rw [hlen] at hrow
   obtain ⟨b,o,c',hv,hob⟩:=hrow.addr (by omega)
   injection hv with ha _ hc
   subst ha
   subst hc
   have hpl : ((markEls mt k P).flatMap El.cs).length = i * 5:=by rw [flat_length _ (fun x hx => hLR.hd x (by rw [hsp];simp [hx])),markEls_length,HP.out.2]
   rw [hsp,flat_split] at hrow
   have hcell : ∀ j u,[Value.string (mt kk),.int .i64 (kk + 1),.int .i64 (kk + 2),.int .i64 (kk + 3),e.v][j]? = some u → wi.cell? ⟨b,o + (i * 5 + j),none⟩ = some u:=fun j u hj => by
    have hj5 : j < 5:=(List.getElem?_eq_some_iff.1 hj).1
    refine Row.cells hrow _ u ?_
    rw [List.getElem?_append_right (by omega),hpl,Nat.add_sub_cancel_left,List.getElem?_append_left (by show j < 5;exact hj5)]
    exact hj
   have HCELL : Aside0 (∀ W_ : World,Below wi.heap.size wi W_ → W_.cell? ⟨b,o + i * 5,none⟩ = some (.string (mt kk)) ∧ W_.cell? ⟨b,o + i * 5 + 1,none⟩ = some (.int .i64 (kk + 1)) ∧ W_.cell? ⟨b,o + i * 5 + 2,none⟩ = some (.int .i64 (kk + 1 + 1)) ∧ W_.cell? ⟨b,o + i * 5 + 3,none⟩ = some (.int .i64 (kk + 1 + 1 + 1)) ∧ W_.cell? ⟨b,o + i * 5 + 4,none⟩ = some e.v):=⟨fun W_ hb_ =>
    ⟨pw_cell_below hb_ (hcell 0 _ rfl),pw_cell_below hb_ (hcell 1 _ rfl),pw_cell_below hb_ (by rw [show kk + 1 + 1 = kk + 2 by omega];exact hcell 2 _ rfl),pw_cell_below hb_ (by rw [show kk + 1 + 1 + 1 = kk + 3 by omega];exact hcell 3 _ rfl),pw_cell_below hb_ (hcell 4 _ rfl)⟩⟩
   have p0 : ((i : Int) < (els.length : Int)) = True:=eq_true (by omega)
   have p1 : (0 ≤ (i : Int)) = True:=eq_true (by omega)
   have p2 : decide ((i : Int) < (els.length : Int)) = true:=decide_eq_true (by omega)
   rw [← hkk] at hkb ⊢
   have HKK:=Aside0.mk hkk
   clear hkk hcell hpl hrow hob hsp hel hlen hLR
   obtain ⟨hk0,hk1⟩:=hkb
   have HB0:=Aside0.mk (Below.refl wi.heap.size wi)
   obtain ⟨y0,-,-,-,-⟩:=HCELL.out wi.drew (below_drew HB0.out)
   go_upto_region 4 with fail
   refine start_ (n:=8) (S:=fun w' => w'.cell? ⟨b,o + i * 5,none⟩ = some (.string (mt kk))) (ds:=[]) #[false,false,false,false,false,false,false,false] (by kernel_rfl) rfl rfl (y0) (fun hHeld => ?_)
   clear y0
   have HB1:=Aside0.mk (below_drew HB0.out)
   generalize wi.drew = V1 at HB1 hHeld ⊢
   refine pq 0 (some 12) ?_
   refine pq 1 (some 13) ?_
   refine pq 2 (some 14) ?_
   refine pq 3 (some 15) ?_
   refine pq 5 (some 17) ?_
   refine tq 4 (some 16) hHeld ?_
   refine nq 6 (some 18) fun K hK => ?_
   refine goes_ Try.func63 (by kernel_rfl) rfl #[.int .i64 kk] (by rfl) rfl rfl (by simp only [List.map_toArray,List.map_cons,List.map_nil];rfl) ?_
   with_reducible refine (HMT.out kk V1 (by omega) (by omega)).mono ?_
   rintro _ V2 ⟨rfl,hb_⟩
   refine ⟨_,rfl,?_⟩
   have HB2:=Aside0.mk (below_then HB1.out HB1.out.size hb_)
   clear hb_ hHeld
   refine hK.out _ _ ((HCELL.out V2 HB2.out).1) (fun hHeld => ?_)
   clear hK K
   refine mq ?_
   refine pq 7 (some 19) ?_
   refine done_ (by kernel_rfl) ?_
   clear hHeld
   have HB3:=Aside0.mk (HB.out.trans (Below.mono HB2.out HB.out.size))
   obtain ⟨y0,y1,y2,y3,y4⟩:=HCELL.out V2 HB2.out
   go_wp2_with fail
   have hws : Row V2 73 2 e.v e.n (marksW (kk + 1 + 1 + 1 + 1) e.n) e.ob:=by
    rw [show kk + 1 + 1 + 1 + 1 = kk + 4 by omega]
    exact HWS.out.kept (fun b' hb' => HB2.out.block b' (HWS.out.lt b' hb'))
   refine (heldW_calls e.v e.n e.ob _ V2 hws (by omega) (by omega)).mono ?_
   rintro _ W3 ⟨rfl,hb⟩
   have HB4:=Aside0.mk (below_then HB3.out HB3.out.size hb)
   have q9 : decide (kk + 1 + 1 + 1 + 1 + 2 * (e.n : Int) < 0) = false:=decide_eq_false (by omega)
   clear hb hws y0 y1 y2 y3 y4
   go_wp2_with fail
   go_roundg (gk - 1)
   case measure => have:=HM.out;omega
   case rel =>
    refine ⟨i + 1,P ++ [e],B,?_,by go_num,⟨by rw [HP.out.1];simp,by rw [List.length_append,HP.out.2];rfl⟩,by omega,⟨by have:=HM.out;omega⟩,HB4⟩
    rw [lc_append,HKK.out]
    have : lc [e] = 4 + 2 * e.n:=by simp [lc]
    rw [this]
    congr 1
    omega
  ·
   obtain rfl : i = els.length:=by omega
   have hB : B = []:=by
    have h1:=HP.out.1
    have h2:=HP.out.2
    have h3:=congrArg List.length h1
    rw [List.length_append] at h3
    exact List.eq_nil_of_length_eq_zero (by omega)
   subst hB
   have hPe : els = P:=by rw [HP.out.1,List.append_nil]
   have p2 : decide ((els.length : Int) < (els.length : Int)) = false:=decide_eq_false (by omega)
   go_wp2_with fail
   go_ret
   exact ⟨by rw [hPe];rfl,HB.out⟩
theorem heldTab_calls (mt : Int → ByteArray) (hmt : ∀ (k : Int) (w : World),0 ≤ k → k ≤ 4611686018427387904 → Calls Try.prog 63 #[.int .i64 k] w fun e w' => e = .returned (.string (mt k)) ∧ Below w.heap.size w w')
  (t0 t1 : Int) (vl vs : Value) (els : List El) (n : Nat) (obl obs : Option Nat) (k : Int) (w : World) (hr : LRows w vl (markEls mt k els) obl) (hs : Row w 77 6 vs n (marksN (k + lc els) n) obs) (hk : 0 ≤ k) (hk2 : k + lc els + 6 * n ≤ 4611686018427387904) :
  Calls Try.prog 37 #[.agg #[.int .i64 t0,.int .i64 t1,vl,vs],.int .i64 k] w fun e w' => e = .returned (.int .i64 (k + lc els + 6 * n)) ∧ Below w.heap.size w w':=by
 obtain ⟨A,c,rfl⟩:=hr.row.slice
 obtain ⟨D,d,rfl⟩:=hs.slice
 rw [markEls_length] at hr ⊢
 have HR:=Aside0.mk hr
 have HS:=Aside0.mk hs
 have HMT:=Aside0.mk hmt
 have hb0:=below_alloc (Below.refl w.heap.size w) (.cells #[.int .i64 t0,.int .i64 t1,.slice A els.length c,.slice D n d] 31 (0,0))
 have HB:=Aside0.mk hb0
 have HG:=Aside0.mk (heap_alloc_new w (.cells #[.int .i64 t0,.int .i64 t1,.slice A els.length c,.slice D n d] 31 (0,0)))
 clear hr hs hmt hb0
 go_enter Try.func37,Try.ntmps37
 go_wp2_with fail
 refine (heldL_calls mt HMT.out _ els obl k _ (HR.out.kept (fun b hb => HB.out.block b hb)) hk (by omega)).mono ?_
 rintro _ w2 ⟨rfl,hb⟩
 have HB2:=Aside0.mk (below_then HB.out HB.out.size hb)
 have hg2:=(hb.block _ (blk_lt HG.out)).trans HG.out
 have x3 : w2.cell? ⟨w.heap.size,3,none⟩ = some (.slice D n d):=(blk_cell hg2 3).trans rfl
 have q0 : decide (k + (lc els : Int) < 0) = false:=decide_eq_false (by omega)
 clear hb hg2
 go_wp2_with fail
 refine (heldN_calls _ n obs _ w2 (HS.out.kept (fun b hb => HB2.out.block b (HS.out.lt b hb))) (by omega) (by omega)).mono ?_
 rintro _ w3 ⟨rfl,hb⟩
 have HB3:=Aside0.mk (below_then HB2.out HB2.out.size hb)
 have q1 : decide (k + (lc els : Int) + 6 * (n : Int) < 0) = false:=decide_eq_false (by omega)
 clear hb x3
 go_wp2_with fail
 go_ret
 exact ⟨rfl,HB3.out⟩
end Go.Proofs.Ytjkanhjapddhnaa.Held
