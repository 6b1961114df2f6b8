/- The law's marks in grants, what it finds of them again, and that equal grants are found equal (written by mkheldg.py). No condition. -/
-- squeezed
import Derived.Test.YtjkanhjapddhnaaHeld
import Derived.Test.YtjkanhjapddhnaaGrP
namespace Go.Proofs.Ytjkanhjapddhnaa.HeldG
open Go.RowKit Go.Lib Go.Proofs.YtjkanhjapddhnaaV.PrintWords Go.Proofs.YtjkanhjapddhnaaV.PrintMore Go.Proofs.YtjkanhjapddhnaaV.PrintLast Go.Proofs.Ytjkanhjapddhnaa.Sq Go.Proofs.Ytjkanhjapddhnaa.Own Go.Proofs.Ytjkanhjapddhnaa.MarkT Go.Proofs.Ytjkanhjapddhnaa.Tb Go.Proofs.Ytjkanhjapddhnaa.InsR Go.Proofs.Ytjkanhjapddhnaa.Held Go.Proofs.Ytjkanhjapddhnaa.GrP
set_option linter.unusedVariables false
set_option linter.unusedSimpArgs false
set_option maxHeartbeats 20000000
set_option maxRecDepth 100000
def elG (mt : Int → ByteArray) (k : Int) : List Value:=[.string (mt k),.int .i64 (k + 1),.int .i64 (k + 2),.int .i64 (k + 3)]
def marksG (mt : Int → ByteArray) (k : Int) : Nat → List Value
 | 0 => []
 | n + 1 => marksG mt k n ++ elG mt (k + 4 * n)
theorem markG_calls (mt : Int → ByteArray) (hmt : ∀ (k : Int) (w : World),0 ≤ k → k ≤ 4611686018427387904 → Calls Try.prog 63 #[.int .i64 k] w fun e w' => e = .returned (.string (mt k)) ∧ Below w.heap.size w w') (v : Value) (n : Nat) (xs : List Value) (ob : Option Nat) (k : Int) (w : World) (S : Nat → Prop) (hr : Row w 96 4 v n xs ob) (hS : ∀ b,ob = some b → S b) (hk : 0 ≤ k) (hk2 : k + 4 * n ≤ 4611686018427387904) :
  Calls Try.prog 31 #[v,.int .i64 k] w fun e w' => e = .returned (.int .i64 (k + 4 * n)) ∧ Row w' 96 4 v n (marksG mt k n) ob ∧ Fr S w w':=by
 obtain ⟨A,c,rfl⟩ : ∃ A c,v = .slice A n c:=by obtain ⟨A,c,hv,_⟩:=hr;exact ⟨A,c,hv⟩
 have hl : xs.length = n * 4:=hr.len
 have HR:=Aside0.mk hr
 have HS:=Aside0.mk hS
 have HL:=Aside0.mk hl
 clear hr hS hl
 have HMT:=Aside0.mk hmt
 clear hmt
 go_enter Try.func31,Try.ntmps31
 go_wp2_with fail
 go_loopg [1,5] n (fun g v1 v5 wx => ∃ i : Nat,v1 = .int .i64 (k + 4 * i) ∧ v5 = .int .i64 i ∧ i ≤ n ∧ Aside0 (i + g = n) ∧ Aside0 (Row wx 96 4 (.slice A n c) n (marksG mt k i ++ xs.drop (i * 4)) ob) ∧ Aside0 (Fr S w wx))
 case atStart => exact ⟨0,by go_num,rfl,Nat.zero_le _,⟨by omega⟩,⟨by simpa [marksG] using HR.out⟩,⟨Fr.refl _ _⟩⟩
 case round =>
  obtain ⟨wi,rfl⟩ : ∃ wi : World,wi = wr:=⟨_,rfl⟩
  obtain ⟨i,rfl,rfl,hi,HM,HX,HF⟩:=hrel
  by_cases hlt : i < n
  ·
   obtain ⟨b,o,c',hv,hob⟩:=HX.out.addr (by omega)
   injection hv with ha _ hc
   subst ha
   subst hc
   have p0 : ((i : Int) < (n : Int)) = True:=eq_true (by omega)
   have p1 : (0 ≤ (i : Int)) = True:=eq_true (by omega)
   have p2 : decide ((i : Int) < (n : Int)) = true:=decide_eq_true (by omega)
   have HOB:=Aside0.mk (HS.out b hob)
   clear hob
   obtain ⟨kk,hkk⟩ : ∃ kk,kk = k + 4 * (i : Int):=⟨_,rfl⟩
   rw [← hkk]
   have hk0 : 0 ≤ kk:=by omega
   have hk1 : kk + 4 ≤ 4611686018427387904:=by omega
   have HKK:=Aside0.mk hkk
   clear hkk
   go_wp2_with fail
   refine (HMT.out _ _ (by omega) (by omega)).mono ?_
   rintro _ w2 ⟨rfl,hb⟩
   have HX2:=Aside0.mk (HX.out.kept (fun b' hb' => hb.block b' (HX.out.lt b' hb')))
   have HF2:=Aside0.mk (HF.out.below hb)
   clear hb
   have hcell : ∀ j,j < 4 → ∃ u,w2.cell? ⟨b,o + (i * 4 + j),none⟩ = some u ∧ w2.frozen? ⟨b,o + (i * 4 + j),none⟩ = false:=fun j hj => ⟨_,HX2.out.cellAt (i * 4 + j) (by rw [HX2.out.len];have:=Nat.mul_le_mul_right 4 (show i + 1 ≤ n by omega);omega)⟩
   obtain ⟨u0,y0,f0⟩:=hcell 0 (by omega)
   obtain ⟨u1,y1,f1⟩:=hcell 1 (by omega)
   obtain ⟨u2,y2,f2⟩:=hcell 2 (by omega)
   obtain ⟨u3,y3,f3⟩:=hcell 3 (by omega)
   simp only [Nat.add_zero,Nat.mul_one,← Nat.add_assoc] at y0 f0 y1 f1 y2 f2 y3 f3
   clear hcell
   go_wp2_with fail
   go_roundg (gk - 1)
   case measure => have:=HM.out;omega
   case rel =>
    refine ⟨i + 1,?_,by go_num,by omega,⟨by have:=HM.out;omega⟩,⟨?_⟩,⟨((((HF2.out.setCell (.inl HOB.out) _).setCell (.inl HOB.out) _).setCell (.inl HOB.out) _).setCell (.inl HOB.out) _)⟩⟩
    ·
     rw [HKK.out]
     congr 1
     omega
    ·
     have h:=((((HX2.out.set (i * 4 + 0) (.string (mt kk))).set (i * 4 + 1) (.int .i64 (kk + 1))).set (i * 4 + 2) (.int .i64 (kk + 1 + 1))).set (i * 4 + 3) (.int .i64 (kk + 1 + 1 + 1)))
     try simp only [Nat.add_zero,← Nat.add_assoc] at h
     rw [set4 _ _ _ _ _ _ _ (by have:=HL.out;have:=Nat.mul_le_mul_right 4 (show i + 1 ≤ n by omega);omega) (snoc_len (f:=marksG mt k) (el:=fun i => elG mt (k + 4 * i)) rfl (fun _ => rfl) (fun _ => rfl) i)] at h
     rw [show (i + 1) * 4 = i * 4 + 4 by omega]
     rw [marksG,elG,← HKK.out]
     try simp only [List.append_nil,show kk + 1 + 1 = kk + 2 by omega,show kk + 2 + 1 = kk + 3 by omega,show kk + 3 + 1 = kk + 4 by omega] at h ⊢
     exact h
  ·
   obtain rfl : i = n:=by omega
   have p2 : decide ((i : Int) < (i : Int)) = false:=decide_eq_false (by omega)
   go_wp2_with fail
   go_ret
   refine ⟨rfl,?_,HF.out⟩
   have h:=HX.out
   rwa [List.drop_eq_nil_of_le (by have:=HL.out;omega),List.append_nil] at h
theorem heldG_calls (mt : Int → ByteArray) (hmt : ∀ (k : Int) (w : World),0 ≤ k → k ≤ 4611686018427387904 → Calls Try.prog 63 #[.int .i64 k] w fun e w' => e = .returned (.string (mt k)) ∧ Below w.heap.size w w')
  (v : Value) (n : Nat) (ob : Option Nat) (k : Int) (w : World) (hr : Row w 96 4 v n (marksG mt k n) ob) (hk : 0 ≤ k) (hk2 : k + 4 * n ≤ 4611686018427387904) :
  Calls Try.prog 32 #[v,.int .i64 k] w fun e w' => e = .returned (.int .i64 (k + 4 * n)) ∧ Below w.heap.size w w':=by
 obtain ⟨A,c,rfl⟩ : ∃ A c,v = .slice A n c:=by obtain ⟨A,c,hv,_⟩:=hr;exact ⟨A,c,hv⟩
 have HR:=Aside0.mk hr
 have HMT:=Aside0.mk hmt
 clear hr hmt
 go_enter Try.func32,Try.ntmps32
 go_wp2_with fail
 go_loopg [1,5] n (fun g v1 v5 wx => ∃ i : Nat,v1 = .int .i64 (k + 4 * i) ∧ v5 = .int .i64 i ∧ i ≤ n ∧ Aside0 (i + g = n) ∧ Aside0 (Below w.heap.size w wx))
 case atStart => exact ⟨0,by go_num,rfl,Nat.zero_le _,⟨by omega⟩,⟨Below.refl _ _⟩⟩
 case round =>
  obtain ⟨wi,rfl⟩ : ∃ wi : World,wi = wr:=⟨_,rfl⟩
  obtain ⟨i,rfl,rfl,hi,HM,HB⟩:=hrel
  by_cases hlt : i < n
  ·
   have hrow:=HR.out.kept (w':=wi) (fun b' hb' => HB.out.block b' (HR.out.lt b' hb'))
   obtain ⟨b,o,c',hv,hob⟩:=hrow.addr (by omega)
   injection hv with ha _ hc
   subst ha
   subst hc
   have p0 : ((i : Int) < (n : Int)) = True:=eq_true (by omega)
   have p1 : (0 ≤ (i : Int)) = True:=eq_true (by omega)
   have p2 : decide ((i : Int) < (n : Int)) = true:=decide_eq_true (by omega)
   clear hob
   obtain ⟨kk,hkk⟩ : ∃ kk,kk = k + 4 * (i : Int):=⟨_,rfl⟩
   have hcell : ∀ j u,[Value.string (mt kk),.int .i64 (kk + 1),.int .i64 (kk + 2),.int .i64 (kk + 3)][j]? = some u → wi.cell? ⟨b,o + (i * 4 + j),none⟩ = some u:=fun j u hj => by
    have hj4 : j < 4:=(List.getElem?_eq_some_iff.1 hj).1
    refine Row.cells hrow _ u ?_
    rw [snoc_get (f:=marksG mt k) (el:=fun i => elG mt (k + 4 * i)) rfl (fun _ => rfl) (fun _ => rfl) n i j hlt hj4]
    show (elG mt (k + 4 * (i : Int)))[j]? = _
    rw [← hkk]
    exact hj
   have HCELL : Aside0 (∀ W_ : World,Below wi.heap.size wi W_ → W_.cell? ⟨b,o + i * 4,none⟩ = some (.string (mt kk)) ∧ W_.cell? ⟨b,o + i * 4 + 1,none⟩ = some (.int .i64 (kk + 1)) ∧ W_.cell? ⟨b,o + i * 4 + 2,none⟩ = some (.int .i64 (kk + 1 + 1)) ∧ W_.cell? ⟨b,o + i * 4 + 3,none⟩ = some (.int .i64 (kk + 1 + 1 + 1))):=⟨fun W_ hb_ =>
    ⟨pw_cell_below hb_ (hcell 0 _ rfl),pw_cell_below hb_ (hcell 1 _ rfl),pw_cell_below hb_ (by rw [show kk + 1 + 1 = kk + 2 by omega];exact hcell 2 _ rfl),pw_cell_below hb_ (by rw [show kk + 1 + 1 + 1 = kk + 3 by omega];exact hcell 3 _ rfl)⟩⟩
   rw [← hkk]
   have hk0 : 0 ≤ kk:=by omega
   have hk1 : kk + 4 ≤ 4611686018427387904:=by omega
   have HKK:=Aside0.mk hkk
   clear hkk hrow hcell
   have HB0:=Aside0.mk (Below.refl wi.heap.size wi)
   obtain ⟨y0,-,-,-⟩:=HCELL.out wi.drew (below_drew HB0.out)
   go_upto_region 4 with fail
   refine start_ (n:=8) (S:=fun w' => w'.cell? ⟨b,o + i * 4,none⟩ = some (.string (mt kk))) (ds:=[]) #[false,false,false,false,false,false,false,false] (by kernel_rfl) rfl rfl (y0) (fun hHeld => ?_)
   clear y0
   have HB1:=Aside0.mk (below_drew HB0.out)
   generalize wi.drew = V1 at HB1 hHeld ⊢
   refine pq 0 (some 12) ?_
   refine pq 1 (some 13) ?_
   refine pq 2 (some 14) ?_
   refine pq 3 (some 15) ?_
   refine pq 5 (some 17) ?_
   refine tq 4 (some 16) hHeld ?_
   refine nq 6 (some 18) fun K hK => ?_
   refine goes_ Try.func63 (by kernel_rfl) rfl #[.int .i64 kk] (by rfl) rfl rfl (by simp only [List.map_toArray,List.map_cons,List.map_nil];rfl) ?_
   with_reducible refine (HMT.out kk V1 (by omega) (by omega)).mono ?_
   rintro _ V2 ⟨rfl,hb_⟩
   refine ⟨_,rfl,?_⟩
   have HB2:=Aside0.mk (below_then HB1.out HB1.out.size hb_)
   clear hb_ hHeld
   refine hK.out _ _ ((HCELL.out V2 HB2.out).1) (fun hHeld => ?_)
   clear hK K
   refine mq ?_
   refine pq 7 (some 19) ?_
   refine done_ (by kernel_rfl) ?_
   clear hHeld
   have HB3:=Aside0.mk (HB.out.trans (Below.mono HB2.out HB.out.size))
   obtain ⟨y0,y1,y2,y3⟩:=HCELL.out V2 HB2.out
   go_wp2_with fail
   go_roundg (gk - 1)
   case measure => have:=HM.out;omega
   case rel =>
    refine ⟨i + 1,?_,by go_num,by omega,⟨by have:=HM.out;omega⟩,HB3⟩
    rw [HKK.out]
    congr 1
    omega
  ·
   obtain rfl : i = n:=by omega
   have p2 : decide ((i : Int) < (i : Int)) = false:=decide_eq_false (by omega)
   go_wp2_with fail
   go_ret
   exact ⟨rfl,HB.out⟩
theorem eqG1_calls (x : GR) (w : World) : Calls Try.prog 61 #[.agg #[.string x.f0,.int .i64 x.f1,.int .i64 x.f2,.int .i64 x.f3],.agg #[.string x.f0,.int .i64 x.f1,.int .i64 x.f2,.int .i64 x.f3]] w fun e w' => e = .returned (.bool true) ∧ Below w.heap.size w w':=by
 have HB:=Aside0.mk (below_alloc (below_alloc (Below.refl w.heap.size w) (.cells #[.string x.f0,.int .i64 x.f1,.int .i64 x.f2,.int .i64 x.f3] 96 (0,0))) (.cells #[.string x.f0,.int .i64 x.f1,.int .i64 x.f2,.int .i64 x.f3] 96 (0,0)))
 go_enter Try.func61,Try.ntmps61
 go_wp2_with fail
 go_ret
 exact ⟨rfl,HB.out⟩
theorem flat4 (gs : List GR) (i j : Nat) (hi : i < gs.length) (u : Value) (h : (gc gs[i])[j]? = some u) : (gs.flatMap gc)[i * 4 + j]? = some u:=by
 rw [flat_get (f:=gc) (sz:=4) (fun _ => rfl) gs i j gs[i] (List.getElem?_eq_getElem hi) ((List.getElem?_eq_some_iff.1 h).1)]
 exact h
theorem eqG_calls (w : World) (v1 v2 : Value) (gs : List GR) (o1 o2 : Option Nat) (h1 : Row w 96 4 v1 gs.length (gs.flatMap gc) o1) (h2 : Row w 96 4 v2 gs.length (gs.flatMap gc) o2) (hl : gs.length ≤ 1000000) :
  Calls Try.prog 26 #[v1,v2] w fun e w' => e = .returned (.bool true) ∧ Below w.heap.size w w':=by
 obtain ⟨A,c,rfl⟩:=h1.slice
 obtain ⟨D,d,rfl⟩:=h2.slice
 have HR:=Aside0.mk h1
 have HS:=Aside0.mk h2
 clear h1 h2
 go_enter Try.func26,Try.ntmps26
 go_wp2_with fail
 go_loopg [5] gs.length (fun g v5 wx => ∃ i : Nat,v5 = .int .i64 i ∧ i ≤ gs.length ∧ Aside0 (i + g = gs.length) ∧ Aside0 (Below w.heap.size w wx))
 case atStart => exact ⟨0,rfl,Nat.zero_le _,⟨by omega⟩,⟨Below.refl _ _⟩⟩
 case round =>
  obtain ⟨wi,rfl⟩ : ∃ wi : World,wi = wr:=⟨_,rfl⟩
  obtain ⟨i,rfl,hi,HM,HB⟩:=hrel
  by_cases hlt : i < gs.length
  ·
   have HB1:=Aside0.mk (below_drew HB.out)
   have hrow:=HR.out.kept (w':=wi.drew) (fun b' hb' => HB1.out.block b' (HR.out.lt b' hb'))
   have hsow:=HS.out.kept (w':=wi.drew) (fun b' hb' => HB1.out.block b' (HS.out.lt b' hb'))
   obtain ⟨b,o,c',hv,-⟩:=hrow.addr (by omega)
   injection hv with ha _ hc
   subst ha
   subst hc
   obtain ⟨e,q,d',hv,-⟩:=hsow.addr (by omega)
   injection hv with ha _ hc
   subst ha
   subst hc
   have y0:=Row.cells hrow (i * 4 + 0) _ (flat4 gs i 0 hlt _ rfl)
   have y1:=Row.cells hrow (i * 4 + 1) _ (flat4 gs i 1 hlt _ rfl)
   have y2:=Row.cells hrow (i * 4 + 2) _ (flat4 gs i 2 hlt _ rfl)
   have y3:=Row.cells hrow (i * 4 + 3) _ (flat4 gs i 3 hlt _ rfl)
   have z0:=Row.cells hsow (i * 4 + 0) _ (flat4 gs i 0 hlt _ rfl)
   have z1:=Row.cells hsow (i * 4 + 1) _ (flat4 gs i 1 hlt _ rfl)
   have z2:=Row.cells hsow (i * 4 + 2) _ (flat4 gs i 2 hlt _ rfl)
   have z3:=Row.cells hsow (i * 4 + 3) _ (flat4 gs i 3 hlt _ rfl)
   generalize gs[i] = x at y0 y1 y2 y3 z0 z1 z2 z3
   simp only [Nat.add_zero,← Nat.add_assoc] at y0 y1 y2 y3 z0 z1 z2 z3
   have p0 : ((i : Int) < (gs.length : Int)) = True:=eq_true (by omega)
   have p1 : (0 ≤ (i : Int)) = True:=eq_true (by omega)
   have p2 : decide ((i : Int) < (gs.length : Int)) = true:=decide_eq_true (by omega)
   clear hrow hsow
   go_upto_region 6 with fail
   refine start_ (n:=10) (S:=fun w' => w'.cell? ⟨b,o + i * 4,none⟩ = some (.string x.f0) ∧ w'.cell? ⟨b,o + i * 4 + 1,none⟩ = some (.int .i64 x.f1) ∧ w'.cell? ⟨b,o + i * 4 + 2,none⟩ = some (.int .i64 x.f2) ∧ w'.cell? ⟨b,o + i * 4 + 3,none⟩ = some (.int .i64 x.f3) ∧ w'.cell? ⟨e,q + i * 4,none⟩ = some (.string x.f0) ∧ w'.cell? ⟨e,q + i * 4 + 1,none⟩ = some (.int .i64 x.f1) ∧ w'.cell? ⟨e,q + i * 4 + 2,none⟩ = some (.int .i64 x.f2) ∧ w'.cell? ⟨e,q + i * 4 + 3,none⟩ = some (.int .i64 x.f3)) (ds:=[]) #[false,false,false,false,false,false,false,false,false,false] (by kernel_rfl) rfl rfl ⟨y0,y1,y2,y3,z0,z1,z2,z3⟩ (fun hHeld => ?_)
   generalize wi.drew = V1 at y0 y1 y2 y3 z0 z1 z2 z3 HB1 hHeld ⊢
   refine pq 0 (some 17) ?_
   refine pq 1 (some 18) ?_
   refine pq 2 (some 19) ?_
   refine pq 4 (some 21) ?_
   refine pq 5 (some 22) ?_
   refine pq 6 (some 23) ?_
   refine tq 3 (some 20) hHeld ?_
   refine tq 7 (some 24) hHeld ?_
   refine nq 8 (some 25) fun K hK => ?_
   refine goes_ Try.func61 (by kernel_rfl) rfl #[.agg #[.string x.f0,.int .i64 x.f1,.int .i64 x.f2,.int .i64 x.f3],.agg #[.string x.f0,.int .i64 x.f1,.int .i64 x.f2,.int .i64 x.f3]] (by rfl) rfl rfl (by simp only [List.map_toArray,List.map_cons,List.map_nil];rfl) ?_
   with_reducible refine (eqG1_calls x V1).mono ?_
   rintro _ V2 ⟨rfl,hb_⟩
   refine ⟨_,rfl,?_⟩
   have HB2:=Aside0.mk (below_then HB1.out HB1.out.size hb_)
   clear hHeld
   refine hK.out _ _ ⟨pw_cell_below hb_ y0,pw_cell_below hb_ y1,pw_cell_below hb_ y2,pw_cell_below hb_ y3,pw_cell_below hb_ z0,pw_cell_below hb_ z1,pw_cell_below hb_ z2,pw_cell_below hb_ z3⟩ (fun hHeld => ?_)
   clear hK K
   refine mq ?_
   refine pq 9 (some 26) ?_
   refine done_ (by kernel_rfl) ?_
   clear hHeld hb_ y0 y1 y2 y3 z0 z1 z2 z3
   go_wp2_with fail
   go_roundg (gk - 1)
   case measure => have:=HM.out;omega
   case rel => exact ⟨i + 1,by go_num,by omega,⟨by have:=HM.out;omega⟩,HB2⟩
  ·
   obtain rfl : i = gs.length:=by omega
   have p2 : decide ((gs.length : Int) < (gs.length : Int)) = false:=decide_eq_false (by omega)
   go_wp2_with fail
   go_ret
   exact ⟨rfl,HB.out⟩
end Go.Proofs.Ytjkanhjapddhnaa.HeldG
