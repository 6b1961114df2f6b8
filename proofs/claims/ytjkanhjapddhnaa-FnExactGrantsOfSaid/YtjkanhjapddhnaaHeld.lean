/- The law's marks in answers, requests and numbers; what it finds again of marks in a table and in answers (written by mkheld.py). No condition. -/
-- squeezed
import Derived.Test.YtjkanhjapddhnaaInsR
import Derived.Test.YtjkanhjapddhnaaGr
import Derived.Test.YtjkanhjapddhnaaVLast
namespace Go.Proofs.Ytjkanhjapddhnaa.Held
open Go.RowKit Go.Lib Go.Proofs.YtjkanhjapddhnaaV.PrintWords Go.Proofs.YtjkanhjapddhnaaV.PrintMore Go.Proofs.YtjkanhjapddhnaaV.PrintLast Go.Proofs.Ytjkanhjapddhnaa.Sq Go.Proofs.Ytjkanhjapddhnaa.Own Go.Proofs.Ytjkanhjapddhnaa.MarkT Go.Proofs.Ytjkanhjapddhnaa.InsR
set_option linter.unusedVariables false
set_option linter.unusedSimpArgs false
set_option maxHeartbeats 20000000
set_option maxRecDepth 100000
theorem snoc_len {f : Nat → List Value} {el : Nat → List Value} {sz : Nat} (h0 : f 0 = []) (hs : ∀ n,f (n + 1) = f n ++ el n) (hl : ∀ i,(el i).length = sz) (n : Nat) : (f n).length = n * sz:=by
 induction n with
 | zero => rw [h0];simp
 | succ n ih => rw [hs,List.length_append,ih,hl,Nat.succ_mul]
theorem snoc_get {f : Nat → List Value} {el : Nat → List Value} {sz : Nat} (h0 : f 0 = []) (hs : ∀ n,f (n + 1) = f n ++ el n) (hl : ∀ i,(el i).length = sz) (n i j : Nat) (hi : i < n) (hj : j < sz) : (f n)[i * sz + j]? = (el i)[j]?:=by
 induction n with
 | zero => omega
 | succ n ih =>
  have hln:=snoc_len h0 hs hl n
  have hm : i * sz + sz ≤ n * sz ∨ i = n:=by
   by_cases h : i = n
   ·
    exact .inr h
   ·
    exact .inl (by rw [← Nat.succ_mul];exact Nat.mul_le_mul_right sz (by omega))
  rw [hs]
  rcases hm with hm|rfl
  ·
   rw [List.getElem?_append_left (by omega)]
   exact ih (by
    have : i ≠ n:=fun e => by subst e;omega
    omega)
  ·
   rw [List.getElem?_append_right (by omega),hln,Nat.add_sub_cancel_left]
theorem set1 (A xs : List Value) (j : Nat) (a : Value) (hj : j + 0 < xs.length) (hA : A.length = j) : (A ++ xs.drop j).set (j) a = A ++ [a] ++ xs.drop (j + 1):=by
 subst hA
 have e : xs.drop A.length = xs[A.length] :: xs.drop (A.length + 1):=by
  rw [List.drop_eq_getElem_cons (by omega)]
 rw [e,List.set_append_right _ _ (by omega),Nat.sub_self]
 simp only [List.set_cons_zero,List.set_cons_succ,List.append_assoc,List.cons_append,List.nil_append]
theorem set4 (A xs : List Value) (j : Nat) (a b c d : Value) (hj : j + 3 < xs.length) (hA : A.length = j) : ((((A ++ xs.drop j).set (j) a).set (j + 1) b).set (j + 2) c).set (j + 3) d = A ++ [a,b,c,d] ++ xs.drop (j + 4):=by
 subst hA
 have e : xs.drop A.length = xs[A.length] :: xs[A.length + 1] :: xs[A.length + 2] :: xs[A.length + 3] :: xs.drop (A.length + 4):=by
  rw [List.drop_eq_getElem_cons (by omega),List.drop_eq_getElem_cons (by omega),List.drop_eq_getElem_cons (by omega),List.drop_eq_getElem_cons (by omega)]
 rw [e,List.set_append_right _ _ (by omega),List.set_append_right _ _ (by omega),List.set_append_right _ _ (by omega),List.set_append_right _ _ (by omega),Nat.sub_self,show A.length + 1 - A.length = 1 by omega,show A.length + 2 - A.length = 2 by omega,show A.length + 3 - A.length = 3 by omega]
 simp only [List.set_cons_zero,List.set_cons_succ,List.append_assoc,List.cons_append,List.nil_append]
theorem set5 (A xs : List Value) (j : Nat) (a b c d e : Value) (hj : j + 4 < xs.length) (hA : A.length = j) : (((((A ++ xs.drop j).set (j) a).set (j + 1) b).set (j + 2) c).set (j + 3) d).set (j + 4) e = A ++ [a,b,c,d,e] ++ xs.drop (j + 5):=by
 subst hA
 have e : xs.drop A.length = xs[A.length] :: xs[A.length + 1] :: xs[A.length + 2] :: xs[A.length + 3] :: xs[A.length + 4] :: xs.drop (A.length + 5):=by
  rw [List.drop_eq_getElem_cons (by omega),List.drop_eq_getElem_cons (by omega),List.drop_eq_getElem_cons (by omega),List.drop_eq_getElem_cons (by omega),List.drop_eq_getElem_cons (by omega)]
 rw [e,List.set_append_right _ _ (by omega),List.set_append_right _ _ (by omega),List.set_append_right _ _ (by omega),List.set_append_right _ _ (by omega),List.set_append_right _ _ (by omega),Nat.sub_self,show A.length + 1 - A.length = 1 by omega,show A.length + 2 - A.length = 2 by omega,show A.length + 3 - A.length = 3 by omega,show A.length + 4 - A.length = 4 by omega]
 simp only [List.set_cons_zero,List.set_cons_succ,List.append_assoc,List.cons_append,List.nil_append]
def elR (mt : Int → ByteArray) (k : Int) : List Value:=[.int .i64 k,.int .i64 (k + 1),.int .i64 (k + 2),.int .i64 (k + 3),.string (mt (k + 4))]
def marksR (mt : Int → ByteArray) (k : Int) : Nat → List Value
 | 0 => []
 | n + 1 => marksR mt k n ++ elR mt (k + 5 * n)
def elI (k : Int) : List Value:=[.int .i64 k]
def marksI (k : Int) : Nat → List Value
 | 0 => []
 | n + 1 => marksI k n ++ elI (k + 1 * n)
theorem markR_calls (mt : Int → ByteArray) (hmt : ∀ (k : Int) (w : World),0 ≤ k → k ≤ 4611686018427387904 → Calls Try.prog 63 #[.int .i64 k] w fun e w' => e = .returned (.string (mt k)) ∧ Below w.heap.size w w') (v : Value) (n : Nat) (xs : List Value) (ob : Option Nat) (k : Int) (w : World) (S : Nat → Prop) (hr : Row w 94 5 v n xs ob) (hS : ∀ b,ob = some b → S b) (hk : 0 ≤ k) (hk2 : k + 5 * n ≤ 4611686018427387904) :
  Calls Try.prog 29 #[v,.int .i64 k] w fun e w' => e = .returned (.int .i64 (k + 5 * n)) ∧ Row w' 94 5 v n (marksR mt k n) ob ∧ Fr S w w':=by
 obtain ⟨A,c,rfl⟩ : ∃ A c,v = .slice A n c:=by obtain ⟨A,c,hv,_⟩:=hr;exact ⟨A,c,hv⟩
 have hl : xs.length = n * 5:=hr.len
 have HR:=Aside0.mk hr
 have HS:=Aside0.mk hS
 have HL:=Aside0.mk hl
 clear hr hS hl
 have HMT:=Aside0.mk hmt
 clear hmt
 go_enter Try.func29,Try.ntmps29
 go_wp2_with fail
 go_loopg [1,5] n (fun g v1 v5 wx => ∃ i : Nat,v1 = .int .i64 (k + 5 * i) ∧ v5 = .int .i64 i ∧ i ≤ n ∧ Aside0 (i + g = n) ∧ Aside0 (Row wx 94 5 (.slice A n c) n (marksR mt k i ++ xs.drop (i * 5)) ob) ∧ Aside0 (Fr S w wx))
 case atStart => exact ⟨0,by go_num,rfl,Nat.zero_le _,⟨by omega⟩,⟨by simpa [marksR] using HR.out⟩,⟨Fr.refl _ _⟩⟩
 case round =>
  obtain ⟨wi,rfl⟩ : ∃ wi : World,wi = wr:=⟨_,rfl⟩
  obtain ⟨i,rfl,rfl,hi,HM,HX,HF⟩:=hrel
  by_cases hlt : i < n
  ·
   obtain ⟨b,o,c',hv,hob⟩:=HX.out.addr (by omega)
   injection hv with ha _ hc
   subst ha
   subst hc
   have p0 : ((i : Int) < (n : Int)) = True:=eq_true (by omega)
   have p1 : (0 ≤ (i : Int)) = True:=eq_true (by omega)
   have p2 : decide ((i : Int) < (n : Int)) = true:=decide_eq_true (by omega)
   have HOB:=Aside0.mk (HS.out b hob)
   clear hob
   obtain ⟨kk,hkk⟩ : ∃ kk,kk = k + 5 * (i : Int):=⟨_,rfl⟩
   rw [← hkk]
   have hk0 : 0 ≤ kk:=by omega
   have hk1 : kk + 5 ≤ 4611686018427387904:=by omega
   have HKK:=Aside0.mk hkk
   clear hkk
   have hcell : ∀ j,j < 5 → ∃ u,wi.cell? ⟨b,o + (i * 5 + j),none⟩ = some u ∧ wi.frozen? ⟨b,o + (i * 5 + j),none⟩ = false:=fun j hj => ⟨_,HX.out.cellAt (i * 5 + j) (by rw [HX.out.len];have:=Nat.mul_le_mul_right 5 (show i + 1 ≤ n by omega);omega)⟩
   obtain ⟨u0,y0,f0⟩:=hcell 0 (by omega)
   obtain ⟨u1,y1,f1⟩:=hcell 1 (by omega)
   obtain ⟨u2,y2,f2⟩:=hcell 2 (by omega)
   obtain ⟨u3,y3,f3⟩:=hcell 3 (by omega)
   simp only [Nat.add_zero,Nat.mul_one,← Nat.add_assoc] at y0 f0 y1 f1 y2 f2 y3 f3
   clear hcell
   go_wp2_with fail
   clear y0 f0 y1 f1 y2 f2 y3 f3
   have r1:=((((HX.out.set (i * 5 + 0) (.int .i64 kk)).set (i * 5 + 1) (.int .i64 (kk + 1))).set (i * 5 + 2) (.int .i64 (kk + 1 + 1))).set (i * 5 + 3) (.int .i64 (kk + 1 + 1 + 1)))
   have g1 : Fr S w (((((wi.setCell ⟨b,o + i * 5,none⟩ (.int .i64 kk)).setCell ⟨b,o + i * 5 + 1,none⟩ (.int .i64 (kk + 1))).setCell ⟨b,o + i * 5 + 2,none⟩ (.int .i64 (kk + 1 + 1))).setCell ⟨b,o + i * 5 + 3,none⟩ (.int .i64 (kk + 1 + 1 + 1)))):=((((HF.out.setCell (.inl HOB.out) _).setCell (.inl HOB.out) _).setCell (.inl HOB.out) _).setCell (.inl HOB.out) _)
   simp only [Nat.add_zero,Nat.mul_one,← Nat.add_assoc] at r1
   have HX1:=Aside0.mk r1
   have HF1:=Aside0.mk g1
   clear r1 g1
   generalize ((((wi.setCell ⟨b,o + i * 5,none⟩ (.int .i64 kk)).setCell ⟨b,o + i * 5 + 1,none⟩ (.int .i64 (kk + 1))).setCell ⟨b,o + i * 5 + 2,none⟩ (.int .i64 (kk + 1 + 1))).setCell ⟨b,o + i * 5 + 3,none⟩ (.int .i64 (kk + 1 + 1 + 1))) = w1 at HX1 HF1 ⊢
   refine (HMT.out _ _ (by omega) (by omega)).mono ?_
   rintro _ w2 ⟨rfl,hb⟩
   have HX2:=Aside0.mk (HX1.out.kept (fun b' hb' => hb.block b' (HX1.out.lt b' hb')))
   have HF2:=Aside0.mk (HF1.out.below hb)
   clear hb
   have hcell : ∀ j,j < 5 → ∃ u,w2.cell? ⟨b,o + (i * 5 + j),none⟩ = some u ∧ w2.frozen? ⟨b,o + (i * 5 + j),none⟩ = false:=fun j hj => ⟨_,HX2.out.cellAt (i * 5 + j) (by rw [HX2.out.len];have:=Nat.mul_le_mul_right 5 (show i + 1 ≤ n by omega);omega)⟩
   obtain ⟨u4,y4,f4⟩:=hcell 4 (by omega)
   simp only [Nat.add_zero,Nat.mul_one,← Nat.add_assoc] at y4 f4
   clear hcell
   go_wp2_with fail
   go_roundg (gk - 1)
   case measure => have:=HM.out;omega
   case rel =>
    refine ⟨i + 1,?_,by go_num,by omega,⟨by have:=HM.out;omega⟩,⟨?_⟩,⟨(HF2.out.setCell (.inl HOB.out) _)⟩⟩
    ·
     rw [HKK.out]
     congr 1
     omega
    ·
     have h:=(HX2.out.set (i * 5 + 4) (.string (mt (kk + 1 + 1 + 1 + 1))))
     try simp only [Nat.add_zero,← Nat.add_assoc] at h
     rw [set5 _ _ _ _ _ _ _ _ (by have:=HL.out;have:=Nat.mul_le_mul_right 5 (show i + 1 ≤ n by omega);omega) (snoc_len (f:=marksR mt k) (el:=fun i => elR mt (k + 5 * i)) rfl (fun _ => rfl) (fun _ => rfl) i)] at h
     rw [show (i + 1) * 5 = i * 5 + 5 by omega]
     rw [marksR,elR,← HKK.out]
     try simp only [List.append_nil,show kk + 1 + 1 = kk + 2 by omega,show kk + 2 + 1 = kk + 3 by omega,show kk + 3 + 1 = kk + 4 by omega,show kk + 4 + 1 = kk + 5 by omega] at h ⊢
     exact h
  ·
   obtain rfl : i = n:=by omega
   have p2 : decide ((i : Int) < (i : Int)) = false:=decide_eq_false (by omega)
   go_wp2_with fail
   go_ret
   refine ⟨rfl,?_,HF.out⟩
   have h:=HX.out
   rwa [List.drop_eq_nil_of_le (by have:=HL.out;omega),List.append_nil] at h
theorem markI_calls (v : Value) (n : Nat) (xs : List Value) (ob : Option Nat) (k : Int) (w : World) (S : Nat → Prop) (hr : Row w 3 1 v n xs ob) (hS : ∀ b,ob = some b → S b) (hk : 0 ≤ k) (hk2 : k + 1 * n ≤ 4611686018427387904) :
  Calls Try.prog 30 #[v,.int .i64 k] w fun e w' => e = .returned (.int .i64 (k + 1 * n)) ∧ Row w' 3 1 v n (marksI k n) ob ∧ Fr S w w':=by
 obtain ⟨A,c,rfl⟩ : ∃ A c,v = .slice A n c:=by obtain ⟨A,c,hv,_⟩:=hr;exact ⟨A,c,hv⟩
 have hl : xs.length = n * 1:=hr.len
 have HR:=Aside0.mk hr
 have HS:=Aside0.mk hS
 have HL:=Aside0.mk hl
 clear hr hS hl
 go_enter Try.func30,Try.ntmps30
 go_wp2_with fail
 go_loopg [1,5] n (fun g v1 v5 wx => ∃ i : Nat,v1 = .int .i64 (k + 1 * i) ∧ v5 = .int .i64 i ∧ i ≤ n ∧ Aside0 (i + g = n) ∧ Aside0 (Row wx 3 1 (.slice A n c) n (marksI k i ++ xs.drop (i * 1)) ob) ∧ Aside0 (Fr S w wx))
 case atStart => exact ⟨0,by go_num,rfl,Nat.zero_le _,⟨by omega⟩,⟨by simpa [marksI] using HR.out⟩,⟨Fr.refl _ _⟩⟩
 case round =>
  obtain ⟨wi,rfl⟩ : ∃ wi : World,wi = wr:=⟨_,rfl⟩
  obtain ⟨i,rfl,rfl,hi,HM,HX,HF⟩:=hrel
  by_cases hlt : i < n
  ·
   obtain ⟨b,o,c',hv,hob⟩:=HX.out.addr (by omega)
   injection hv with ha _ hc
   subst ha
   subst hc
   have p0 : ((i : Int) < (n : Int)) = True:=eq_true (by omega)
   have p1 : (0 ≤ (i : Int)) = True:=eq_true (by omega)
   have p2 : decide ((i : Int) < (n : Int)) = true:=decide_eq_true (by omega)
   have HOB:=Aside0.mk (HS.out b hob)
   clear hob
   obtain ⟨kk,hkk⟩ : ∃ kk,kk = k + 1 * (i : Int):=⟨_,rfl⟩
   rw [← hkk]
   have hk0 : 0 ≤ kk:=by omega
   have hk1 : kk + 1 ≤ 4611686018427387904:=by omega
   have HKK:=Aside0.mk hkk
   clear hkk
   have hcell : ∀ j,j < 1 → ∃ u,wi.cell? ⟨b,o + (i * 1 + j),none⟩ = some u ∧ wi.frozen? ⟨b,o + (i * 1 + j),none⟩ = false:=fun j hj => ⟨_,HX.out.cellAt (i * 1 + j) (by rw [HX.out.len];have:=Nat.mul_le_mul_right 1 (show i + 1 ≤ n by omega);omega)⟩
   obtain ⟨u0,y0,f0⟩:=hcell 0 (by omega)
   simp only [Nat.add_zero,Nat.mul_one,← Nat.add_assoc] at y0 f0
   clear hcell
   go_wp2_with fail
   go_roundg (gk - 1)
   case measure => have:=HM.out;omega
   case rel =>
    refine ⟨i + 1,?_,by go_num,by omega,⟨by have:=HM.out;omega⟩,⟨?_⟩,⟨(HF.out.setCell (.inl HOB.out) _)⟩⟩
    ·
     rw [HKK.out]
     congr 1
     omega
    ·
     have h:=(HX.out.set (i * 1 + 0) (.int .i64 kk))
     rw [Nat.add_zero] at h
     rw [set1 _ _ _ _ (by have h9:=HL.out;rw [Nat.mul_one] at h9 ⊢;omega) (snoc_len (f:=marksI k) (el:=fun i => elI (k + 1 * i)) rfl (fun _ => rfl) (fun _ => rfl) i)] at h
     simp only [Nat.mul_one] at h ⊢
     rw [marksI,elI,← HKK.out]
     try simp only [List.append_nil] at h ⊢
     exact h
  ·
   obtain rfl : i = n:=by omega
   have p2 : decide ((i : Int) < (i : Int)) = false:=decide_eq_false (by omega)
   go_wp2_with fail
   go_ret
   refine ⟨rfl,?_,HF.out⟩
   have h:=HX.out
   rwa [List.drop_eq_nil_of_le (by have:=HL.out;omega),List.append_nil] at h
end Go.Proofs.Ytjkanhjapddhnaa.Held
