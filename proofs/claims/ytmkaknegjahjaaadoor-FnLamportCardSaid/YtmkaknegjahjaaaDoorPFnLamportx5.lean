-- laid by this session's program myprint.py over the kit's printer
-- squeezed
-- aliased
import Derived.Test.YtmkaknegjahjaaaDoorPFnLamportx0
import Derived.Test.YtmkaknegjahjaaaDoorPFnLamportx1
import Derived.Test.YtmkaknegjahjaaaDoorPFnLamportx2
import Derived.Test.YtmkaknegjahjaaaDoorPFnLamportx4
namespace Go.Proofs.YtmkaknegjahjaaaDoor.PFnLamport
open Go.RowKit Go.Proofs.YtmkaknegjahjaaaDoorV.PrintWords Go.Proofs.YtmkaknegjahjaaaDoorV.PrintLast Go.Proofs.YtmkaknegjahjaaaDoorV.PrintMore
attribute [local go_sem] max2_int min2_int max_two min_two max_three min_three max_four min_four u8_wm u32_wm   -- for this text's walks alone
set_option linter.unusedVariables false
set_option linter.unusedSimpArgs false

/-! ### impl_node: function 113 -/
theorem qa5 : type_of% @below_alloc:=@below_alloc
theorem qb5 : type_of% @pw_below_drewN:=@pw_below_drewN
theorem qc5 : type_of% @below_drew1:=@below_drew1
theorem qd5 : type_of% @Aside0.mk:=@Aside0.mk
def impl_node.f (a0 : ByteArray) (a1 : ByteArray) : Option (ByteArray):=if 4 + a0.size ≤ 9223372036854775807 then (if ((⟨#[110,111,100,101]⟩ : ByteArray) ++ a0).size + a1.size ≤ 9223372036854775807 then ((impl_hash.f (((⟨#[110,111,100,101]⟩ : ByteArray) ++ a0) ++ a1)).bind fun t223 => (some t223)) else (none)) else (none)
set_option maxHeartbeats 8000000 in
set_option maxRecDepth 100000 in
theorem impl_node.calls (a0 : ByteArray) (a1 : ByteArray) (r : ByteArray) (w : World) (hG_ : Go.Proofs.YtmkaknegjahjaaaDoor.Sha.GlobA w) (h : impl_node.f a0 a1 = some r) :
  Calls Tryd.prog 113 #[.string a0,.string a1] w fun e w' => e = .returned (.string r) ∧ Below w.heap.size w w':=by
 have HB:=qd5 (Below.refl w.heap.size w)
 have H : (if 4 + a0.size ≤ 9223372036854775807 then (if ((⟨#[110,111,100,101]⟩ : ByteArray) ++ a0).size + a1.size ≤ 9223372036854775807 then ((impl_hash.f (((⟨#[110,111,100,101]⟩ : ByteArray) ++ a0) ++ a1)).bind fun t223 => (some t223)) else (none)) else (none)) = some r:=h
 clear h
 by_cases c3 : 4 + a0.size ≤ 9223372036854775807
 ·
  rw [if_pos c3] at H
  have c3b0:=eq_true c3
  have c3b1 : decide (4 + a0.size ≤ 9223372036854775807) = true:=decide_eq_true c3
  try have c3b2 : (9223372036854775807 < 4 + a0.size) = False:=eq_false (Nat.not_lt.2 c3)
  by_cases c4 : ((⟨#[110,111,100,101]⟩ : ByteArray) ++ a0).size + a1.size ≤ 9223372036854775807
  ·
   rw [if_pos c4] at H
   have c4b0:=eq_true c4
   have c4b1 : decide (((⟨#[110,111,100,101]⟩ : ByteArray) ++ a0).size + a1.size ≤ 9223372036854775807) = true:=decide_eq_true c4
   try have c4b2 : (9223372036854775807 < ((⟨#[110,111,100,101]⟩ : ByteArray) ++ a0).size + a1.size) = False:=eq_false (Nat.not_lt.2 c4)
   (try (have c4b3:=c4;simp only [ByteArray.size_append] at c4b3;have c4b4:=eq_false (Nat.not_lt.2 c4b3)))
   (try (have c4b5 : (9223372036854775807 < 4 + a0.size + a1.size) = False:=eq_false (by have h_:=c4;simp only [ByteArray.size_append] at h_;have hl0_ : ((⟨#[110,111,100,101]⟩ : ByteArray)).size = 4:=rfl;omega)))
   replace H:=Option.bind_eq_some_iff.mp H
   obtain ⟨t223,A50,H⟩:=H
   replace H : (some t223) = some r:=H
   have A5:=qd5 A50
   clear A50
   obtain rfl:=Option.some.inj H
   go_enter Tryd.func113,Tryd.ntmps113
   go_wp2_with (first|((with_reducible refine gate_callee (f:=50) rfl ?_);refine goesL_ (some 9) rfl rfl Tryd.func50 (by kernel_rfl) rfl #[.string (((⟨#[110,111,100,101]⟩ : ByteArray) ++ a0) ++ a1)] rfl (by (try simp only [List.map_toArray,List.map_cons,List.map_nil]);first|done|rfl|(simp only [List.length_drop,List.length_take];rfl)) ?_;(with_reducible refine (impl_hash.calls (((⟨#[110,111,100,101]⟩ : ByteArray) ++ a0) ++ a1) t223 _ ?side1 A5.out).mono ?_);(case side1 => exact Go.Proofs.YtmkaknegjahjaaaDoor.Sha.glob_below hG_ (by repeat (first|(with_reducible first|exact HB.out|apply qa5|apply qb5|apply qc5)|exact HB.out)));rintro e w6 ⟨rfl,hb⟩;refine ⟨_,rfl,?_⟩;have n0_:=qd5 (below_step (by repeat (first|(with_reducible first|exact HB.out|apply qa5|apply qb5|apply qc5)|exact HB.out)) hb);clear HB;have HB:=n0_;clear n0_;(try clear hb);(try clear hb2);(try clear hk);(try clear hi)))
   go_ret
   exact ⟨by first|rfl|(simp [errW_none,errW_some] <;> rfl)|(simp [*,errW_none,errW_some] <;> rfl),by repeat (first|(with_reducible first|exact HB.out|apply qa5|apply qb5|apply qc5)|exact HB.out)⟩
  ·
   rw [if_neg c4] at H
   exact absurd H (by simp)
 ·
  rw [if_neg c3] at H
  exact absurd H (by simp)

/-! ### impl_above: function 107 -/
def impl_above.l0 : Nat → List ByteArray → List ByteArray → Int → Option (List ByteArray)
 | 0,_,_,_ => none
 | k + 1,x0,x3,x4 => if x4 < (x0.length : Int) then (if 0 ≤ x4 then (if 0 ≤ (wrap64 (x4 + 1)) then (if (wrap64 (x4 + 1)) < (x0.length : Int) then ((impl_node.f (rdOf ByteArray.empty x0 x4) (rdOf ByteArray.empty x0 (wrap64 (x4 + 1)))).bind fun t226 => (if x3.length < 8796093022208 then (impl_above.l0 k x0 (x3 ++ [t226]) (wrap64 (x4 + 2))) else (none))) else (none)) else (none)) else (none)) else (some x3)
def impl_above.f (k : Nat) (l0 : List ByteArray) : Option (List ByteArray):=impl_above.l0 k l0 ([] : List ByteArray) 0
theorem impl_above.mono_l : ∀ k,(∀ y0 y1 y2,LeO (impl_above.l0 k y0 y1 y2) (impl_above.l0 (k + 1) y0 y1 y2))
 | 0 => fun _ _ _ r h => by simp [impl_above.l0] at h
 | k + 1 => by
  have ih0:=impl_above.mono_l k
  ·
   intro y0 y1 y2
   unfold impl_above.l0
   repeat' first
   | (with_reducible exact ih0 _ _ _)
   | (with_reducible exact LeO.refl _)
   | (with_reducible exact LeO.none _)
   | (with_reducible refine LeO.ite ?_ ?_)
   | (with_reducible refine LeO.bind ?_ (fun _ => ?_))
   | exact ih0 _ _ _
   | exact LeO.none _
   | refine LeO.ite ?_ ?_
   | refine LeO.bind ?_ (fun _ => ?_)
theorem impl_above.mono : ∀ a0 k,LeO (impl_above.f k a0) (impl_above.f (k + 1) a0):=by
 intro a0 k
 have ih0:=impl_above.mono_l k
 unfold impl_above.f
 repeat' first
   | (with_reducible exact ih0 _ _ _)
   | (with_reducible exact LeO.refl _)
   | (with_reducible exact LeO.none _)
   | (with_reducible refine LeO.ite ?_ ?_)
   | (with_reducible refine LeO.bind ?_ (fun _ => ?_))
   | exact ih0 _ _ _
   | exact LeO.none _
   | refine LeO.ite ?_ ?_
   | refine LeO.bind ?_ (fun _ => ?_)
def impl_above.T5 : Bool × List (List Nat × List Nat):=(true,[([],[]),([],[]),([],[]),([1,2],[1,2]),([3],[3]),([],[]),([],[]),([6],[6]),([5,7],[5,7]),([8],[8]),([4,9],[4,9]),([10],[10]),([0,11,10],[0,11]),([12,12,0,1,2,3,4,5,6,7,8,9,10,11,12],[0,12])])
def impl_above.B5 : List Nat:=[0,0,0,6,14,0,0,64,224,480,1022,2046,4095,8191]
theorem impl_above.tab5 : rtab .any (opsOf Tryd.f107 5) = impl_above.T5:=by kernel_rfl
theorem impl_above.bits5 : waitsOk impl_above.T5.2 impl_above.B5 = true:=by kernel_rfl
set_option maxHeartbeats 8000000 in
set_option maxRecDepth 100000 in
theorem impl_above.calls (k : Nat) (A0 : Option Addr) (c0 : Nat) (l0 : List ByteArray) (r : List ByteArray) (w : World) (hr0 : Kd.C Kd.string w A0 l0.length l0) (hc0 : l0.length ≤ c0) (hG_ : Go.Proofs.YtmkaknegjahjaaaDoor.Sha.GlobA w) (h : impl_above.f k l0 = some r) :
  Calls Tryd.prog 107 #[.slice A0 l0.length c0] w fun e w' => ∃ v0_ : Value,e = .returned (v0_) ∧ Kd.R Kd.string 9 w' w.heap.size (fun _ => True) v0_ r ∧ Below w.heap.size w w':=by
 have HR0:=qd5 hr0
 have HC0:=qd5 hc0
 clear hr0 hc0
 have HB:=qd5 (Below.refl w.heap.size w)
 have H : (impl_above.l0 k l0 ([] : List ByteArray) 0) = some r:=h
 clear h
 have H':=qd5 H
 clear H
 go_enter Tryd.func107,Tryd.ntmps107
 go_wp2
 go_loopg [3,4] k (fun kq v3 v4 w' => ∃ (x3_1 : List ByteArray) (x4_1 : Int),v4 = .int .i64 x4_1 ∧ Aside0 (impl_above.l0 kq l0 x3_1 x4_1 = some r) ∧ Aside0 (kq ≤ k) ∧ Aside0 (Kd.R Kd.string 9 w' w.heap.size (fun _ => True) v3 x3_1) ∧ Aside0 (Below w.heap.size w w'))
 case atStart => exact ⟨(([] : List ByteArray)),(0),(by first|rfl|(simp;done)|(simp [*];done)),H',⟨Nat.le_refl _⟩,⟨by first|exact Kd.R_nil _ _ _ _ _|exact Kd.N_nil _ _ _ _ _|exact Kd.V_nil _ _ _ _ _|exact Kd.Q_nil _ _ _ _ _|exact Kd.S_nil _ _ _ _ _⟩,⟨by repeat (first|(with_reducible first|exact HB.out|apply qa5|apply qb5|apply qc5)|exact HB.out)⟩⟩
 case round =>
  clear H'
  try clear c1
  obtain ⟨x3_1,x4_1,rfl,HA,HK1,HO_3,HB⟩:=hrel
  cases gk with
  | zero => exact absurd HA.out (by simp [impl_above.l0])
  | succ k1 =>
   have H:=HA.out
   clear HA
   simp only [impl_above.l0] at H
   by_cases c2 : x4_1 < (l0.length : Int)
   ·
    rw [if_pos c2] at H
    have c2b0 : decide (x4_1 < (l0.length : Int)) = true:=decide_eq_true c2
    clear c2
    by_cases c3 : 0 ≤ x4_1
    ·
     rw [if_pos c3] at H
     have c3b0 : decide (0 ≤ x4_1) = true:=decide_eq_true c3
     clear c3
     obtain ⟨ji4,hji4⟩ : ∃ j_ : Int,(wrap64 (x4_1 + 1)) = j_:=⟨_,rfl⟩
     replace H : (if 0 ≤ (ji4) then (if (ji4) < (l0.length : Int) then ((impl_node.f (rdOf ByteArray.empty l0 x4_1) (rdOf ByteArray.empty l0 (ji4))).bind fun t226 => (if x3_1.length < 8796093022208 then (impl_above.l0 k1 l0 (x3_1 ++ [t226]) (wrap64 (x4_1 + 2))) else (none))) else (none)) else (none)) = some r:=by first|(rw [hji4] at H;exact H)|(simp only [hji4] at H ⊢;exact H)
     have hji4w : (IntKind.i64.wrap (x4_1 + 1)) = ji4:=(i64_w _).trans hji4
     by_cases c5 : 0 ≤ (ji4)
     ·
      rw [if_pos c5] at H
      have c5b0 : decide (0 ≤ (ji4)) = true:=decide_eq_true c5
      clear c5
      by_cases c6 : (ji4) < (l0.length : Int)
      ·
       rw [if_pos c6] at H
       have c6b0 : decide ((ji4) < (l0.length : Int)) = true:=decide_eq_true c6
       clear c6
       replace H:=Option.bind_eq_some_iff.mp H
       obtain ⟨t226,A70,H⟩:=H
       replace H : (if x3_1.length < 8796093022208 then (impl_above.l0 k1 l0 (x3_1 ++ [t226]) (wrap64 (x4_1 + 2))) else (none)) = some r:=H
       have A7:=qd5 A70
       clear A70
       by_cases c8 : x3_1.length < 8796093022208
       ·
        rw [if_pos c8] at H
        have LMc8:=qd5 c8
        clear c8
        obtain ⟨y227,hy227⟩ : ∃ y_ : List ByteArray,y_ = (x3_1 ++ [t226]):=⟨_,rfl⟩
        replace H : (impl_above.l0 k1 l0 y227 (wrap64 (x4_1 + 2))) = some r:=by first|(rw [hy227];with_reducible exact H)|(have H2_:=(Option.bind_some _ _).symm.trans H;rw [hy227];with_reducible exact H2_)|(have H2_:=(Option.bind_some _ _).symm.trans H;with_reducible exact H2_)|with_reducible exact H|(rw [hy227];exact H)|exact H
        have Ny227:=qd5 hy227
        clear hy227
        have H':=qd5 H
        clear H
        try go_wp2
        have n0_:=qd5 (Kd.R_drew HO_3.out)
        have n1_:=qd5 (qc5 HB.out)
        clear HO_3
        clear HB
        have HO_3:=n0_
        have HB:=n1_
        clear n0_ n1_
        have p224 : 0 ≤ (x4_1 : Int):=of_decide_eq_true (by first|(with_reducible assumption)|assumption)
        have q224 : x4_1 < (l0.length : Int):=of_decide_eq_true (by first|(with_reducible assumption)|assumption)
        obtain ⟨ad224,e224,hx224_0⟩:=Kd.at_string HR0.out x4_1 p224 q224
        have hw224_0:=hx224_0
        cases e224
        replace hx224_0:=(HB.out.cell (World.block_lt_of_cell? w _ hx224_0)).trans hx224_0
        replace p224:=eq_true p224
        replace q224:=eq_true q224
        have p225 : 0 ≤ ((ji4) : Int):=of_decide_eq_true (by first|(with_reducible assumption)|assumption)
        have q225 : (ji4) < (l0.length : Int):=of_decide_eq_true (by first|(with_reducible assumption)|assumption)
        obtain ⟨ad225,e225,hx225_0⟩:=Kd.at_string HR0.out (ji4) p225 q225
        have hw225_0:=hx225_0
        obtain rfl : ad224 = ad225:=(by injection e225)
        replace hx225_0:=(HB.out.cell (World.block_lt_of_cell? w _ hx225_0)).trans hx225_0
        replace p225:=eq_true p225
        replace q225:=eq_true q225
        refine start_ (n:=14) (S:=fun w' => w'.cell? (ad224.add (x4_1).toNat) = some (.string (rdOf ByteArray.empty l0 x4_1)) ∧ w'.cell? (ad224.add ((ji4)).toNat) = some (.string (rdOf ByteArray.empty l0 (ji4)))) (ds:=[]) #[false,false,false,false,false,false,false,false,false,false,false,false,false,false] (by kernel_rfl) rfl rfl ⟨((HB.out.cell (World.block_lt_of_cell? w _ hw224_0)).trans hw224_0),((HB.out.cell (World.block_lt_of_cell? w _ hw225_0)).trans hw225_0)⟩ (fun hHeld => ?_);refine with_tabW impl_above.tab5 impl_above.bits5 (fun HT_ HW_ => ?_)
        generalize wr.drew = w9 at HO_3 HB hx224_0 hx225_0 hHeld ⊢
        refine pure_ (i:=0) (N:=some 11) (v:=?_) (a':=?_) #[true,false,false,false,false,false,false,false,false,false,false,false,false,false] rfl rfl (any_of HT_.out (by kernel_rfl)) (fun _ _ _ h => h) (Or.inl ⟨by rfl,?_⟩) ?_ ?_
        rotate_left
        ·
         intro w'
         go_simp
         with_reducible rfl
        rotate_left
        ·
         simp only [Act.put,List.setIfInBounds_toArray,List.set_cons_zero,List.set_cons_succ,i64_w,i32_w]
         rfl
        refine pure_ (i:=1) (N:=some 12) (v:=?_) (a':=?_) #[true,true,false,false,false,false,false,false,false,false,false,false,false,false] rfl rfl (any_of HT_.out (by kernel_rfl)) (fun _ _ _ h => h) (Or.inl ⟨by rfl,?_⟩) ?_ ?_
        rotate_left
        ·
         intro w'
         go_simp
         with_reducible rfl
        rotate_left
        ·
         simp only [Act.put,List.setIfInBounds_toArray,List.set_cons_zero,List.set_cons_succ,i64_w,i32_w]
         rfl
        refine pure_ (i:=2) (N:=some 13) (v:=?_) (a':=?_) #[true,true,true,false,false,false,false,false,false,false,false,false,false,false] rfl rfl (any_of HT_.out (by kernel_rfl)) (fun _ _ _ h => h) (Or.inl ⟨by rfl,?_⟩) ?_ ?_
        rotate_left
        ·
         intro w'
         go_simp
         with_reducible rfl
        rotate_left
        ·
         simp only [Act.put,List.setIfInBounds_toArray,List.set_cons_zero,List.set_cons_succ,i64_w,i32_w]
         rfl
        refine pure_ (i:=3) (N:=some 14) (v:=?_) (a':=?_) #[true,true,true,true,false,false,false,false,false,false,false,false,false,false] rfl rfl (any_of HT_.out (by kernel_rfl)) (fun _ _ _ h => h) (Or.inl ⟨by rfl,?_⟩) ?_ ?_
        rotate_left
        ·
         intro w'
         go_simp
         with_reducible rfl
        rotate_left
        ·
         simp only [Act.put,List.setIfInBounds_toArray,List.set_cons_zero,List.set_cons_succ,i64_w,i32_w]
         rfl
        refine pure_ (i:=5) (N:=some 16) (v:=?_) (a':=?_) #[true,true,true,true,false,true,false,false,false,false,false,false,false,false] rfl rfl (any_of HT_.out (by kernel_rfl)) (fun _ _ _ h => h) (Or.inl ⟨by rfl,?_⟩) ?_ ?_
        rotate_left
        ·
         intro w'
         go_simp
         with_reducible rfl
        rotate_left
        ·
         simp only [Act.put,List.setIfInBounds_toArray,List.set_cons_zero,List.set_cons_succ,i64_w,i32_w]
         rfl
        refine pure_ (i:=6) (N:=some 17) (v:=?_) (a':=?_) #[true,true,true,true,false,true,true,false,false,false,false,false,false,false] rfl rfl (any_of HT_.out (by kernel_rfl)) (fun _ _ _ h => h) (Or.inl ⟨by rfl,?_⟩) ?_ ?_
        rotate_left
        ·
         intro w'
         go_simp
         with_reducible rfl
        rotate_left
        ·
         simp only [Act.put,List.setIfInBounds_toArray,List.set_cons_zero,List.set_cons_succ,i64_w,i32_w]
         rfl
        refine pure_ (i:=7) (N:=some 18) (v:=?_) (a':=?_) #[true,true,true,true,false,true,true,true,false,false,false,false,false,false] rfl rfl (any_of HT_.out (by kernel_rfl)) (fun _ _ _ h => h) (Or.inl ⟨by rfl,?_⟩) ?_ ?_
        rotate_left
        ·
         intro w'
         go_simp
         with_reducible rfl
        rotate_left
        ·
         simp only [Act.put,List.setIfInBounds_toArray,List.set_cons_zero,List.set_cons_succ,i64_w,i32_w]
         rfl
        refine pure_ (i:=8) (N:=some 19) (v:=?_) (a':=?_) #[true,true,true,true,false,true,true,true,true,false,false,false,false,false] rfl rfl (any_of HT_.out (by kernel_rfl)) (fun _ _ _ h => h) (Or.inl ⟨by rfl,?_⟩) ?_ ?_
        rotate_left
        ·
         intro w'
         go_simp
         with_reducible rfl
        rotate_left
        ·
         simp only [Act.put,List.setIfInBounds_toArray,List.set_cons_zero,List.set_cons_succ,i64_w,i32_w]
         rfl
        refine take_ (i:=4) (N:=some 15) (v:=?_) (a':=?_) #[true,true,true,true,true,true,true,true,true,false,false,false,false,false] rfl rfl (take_ofW HT_.out HW_.out (by kernel_rfl)) (fun _ _ _ h => h) (Or.inl ⟨by rfl,?_⟩) hHeld ?_ ?_
        rotate_left
        ·
         rintro w' ⟨s0,s1⟩
         go_simp
         with_reducible rfl
        rotate_left
        ·
         simp only [Act.put,List.setIfInBounds_toArray,List.set_cons_zero,List.set_cons_succ,i64_w,i32_w]
         rfl
        refine take_ (i:=9) (N:=some 20) (v:=?_) (a':=?_) #[true,true,true,true,true,true,true,true,true,true,false,false,false,false] rfl rfl (take_ofW HT_.out HW_.out (by kernel_rfl)) (fun _ _ _ h => h) (Or.inl ⟨by rfl,?_⟩) hHeld ?_ ?_
        rotate_left
        ·
         rintro w' ⟨s0,s1⟩
         go_simp
         with_reducible rfl
        rotate_left
        ·
         simp only [Act.put,List.setIfInBounds_toArray,List.set_cons_zero,List.set_cons_succ,i64_w,i32_w]
         rfl
        refine one_ (i:=10) (N:=some 21) #[true,true,true,true,true,true,true,true,true,true,true,false,false,false] rfl rfl (one_of HT_.out (by kernel_rfl)) (by decide) (fun K hK => ?_)
        refine goes_ Tryd.func113 (by kernel_rfl) rfl #[.string (rdOf ByteArray.empty l0 x4_1),.string (rdOf ByteArray.empty l0 (ji4))] (by rfl) rfl rfl (by (try simp only [List.map_toArray,List.map_cons,List.map_nil]);first|done|(simp only [hji4];rfl)|rfl|(simp only [List.length_drop,List.length_take];rfl)) ?_
        with_reducible refine (impl_node.calls (rdOf ByteArray.empty l0 x4_1) (rdOf ByteArray.empty l0 (ji4)) t226 _ ?side1 A7.out).mono ?_
        (case side1 => exact Go.Proofs.YtmkaknegjahjaaaDoor.Sha.glob_below hG_ (by repeat (first|(with_reducible first|exact HB.out|apply qa5|apply qb5|apply qc5)|exact HB.out)))
        rintro e w10 ⟨rfl,hb⟩
        refine ⟨_,rfl,?_⟩
        have n0_:=qd5 (Kd.R_below (by (with_reducible repeat (first|apply Kd.R_alloc|apply Kd.R_drewN|apply Kd.R_drew));exact HO_3.out) hb)
        have n1_:=qd5 (below_step (by repeat (first|(with_reducible first|exact HB.out|apply qa5|apply qb5|apply qc5)|exact HB.out)) hb)
        clear HO_3
        clear HB
        have HO_3:=n0_
        have HB:=n1_
        clear n0_ n1_
        (try clear hb)
        (try clear hb2)
        (try clear hk)
        (try clear hi)
        refine hK.out _ _ ⟨((HB.out.cell (World.block_lt_of_cell? w _ hw224_0)).trans hw224_0),((HB.out.cell (World.block_lt_of_cell? w _ hw225_0)).trans hw225_0)⟩ (fun hHeld => ?_)
        clear hK K
        refine norm_ (a':=?_) ?_ ?_
        rotate_left
        ·
         show Act.put _ (some 21) _ = _
         simp only [Act.put,List.setIfInBounds_toArray,List.set_cons_zero,List.set_cons_succ,i64_w,i32_w]
         rfl
        refine one_ (i:=11) (N:=some 22) #[true,true,true,true,true,true,true,true,true,true,true,true,false,false] rfl rfl (one_of HT_.out (by kernel_rfl)) (by decide) (fun K hK => ?_)
        refine value_ (w1:=?_) (v:=?_) (by rfl) rfl ?_ ?_
        rotate_left 2
        ·
         go_simp
         constructor
         ·
          rfl
         ·
          rfl
        refine hK.out _ _ ⟨(World.cell?_alloc_lt _ _ _ (World.block_lt_of_cell? _ _ (((HB.out.cell (World.block_lt_of_cell? w _ hw224_0)).trans hw224_0)))).trans (((HB.out.cell (World.block_lt_of_cell? w _ hw224_0)).trans hw224_0)),(World.cell?_alloc_lt _ _ _ (World.block_lt_of_cell? _ _ (((HB.out.cell (World.block_lt_of_cell? w _ hw225_0)).trans hw225_0)))).trans (((HB.out.cell (World.block_lt_of_cell? w _ hw225_0)).trans hw225_0))⟩ (fun hHeld => ?_)
        clear hK K
        refine norm_ (a':=?_) ?_ ?_
        rotate_left
        ·
         show Act.put _ (some 22) _ = _
         simp only [Act.put,List.setIfInBounds_toArray,List.set_cons_zero,List.set_cons_succ,i64_w,i32_w]
         rfl
        refine one_ (i:=12) (N:=some 23) #[true,true,true,true,true,true,true,true,true,true,true,true,true,false] rfl rfl (one_of HT_.out (by kernel_rfl)) (by decide) (fun K hK => ?_)
        refine Kd.R_append_step Kd.string (w0:=w) w.heap.size (by rfl) (.tmp 11) (.tmp 22) 31 9 (.string ⟨#[]⟩) 16 rfl Tryd.underlying31 info9 rfl (by decide) (by omega) u3 x3_1 t226 [.string t226] (fun _ => True) (fun _ => False) rfl rfl ?aP (fun _ hk => hk.elim) ?aF ?aO ?aB ?aS ?aL ?_
        (case aP => exact rfl)
        (case aB => exact (by repeat (first|(with_reducible first|exact HB.out|apply qa5|apply qb5|apply qc5)|exact HB.out)))
        (case aF => exact (fun _ _ => trivial))
        (case aO => exact (by (with_reducible repeat (first|apply Kd.R_alloc|apply Kd.R_drewN|apply Kd.R_drew));exact HO_3.out))
        (case aS => exact (below_size (by repeat (first|(with_reducible first|exact HB.out|apply qa5|apply qb5|apply qc5)|exact HB.out))))
        (case aL => have:=LMc8.out;omega)
        intro v228 w11 ho hb hg hat
        rw [← Ny227.out] at ho
        have n0_:=qd5 (hb)
        have n1_:=qd5 (ho)
        clear HB
        clear HO_3
        have HB:=n0_
        have HO229:=n1_
        clear n0_ n1_
        clear ho hb hg hat
        refine hK.out _ _ ⟨((HB.out.cell (World.block_lt_of_cell? w _ hw224_0)).trans hw224_0),((HB.out.cell (World.block_lt_of_cell? w _ hw225_0)).trans hw225_0)⟩ (fun hHeld => ?_)
        clear hK K
        refine norm_ (a':=?_) ?_ ?_
        rotate_left
        ·
         show Act.put _ (some 23) _ = _
         simp only [Act.put,List.setIfInBounds_toArray,List.set_cons_zero,List.set_cons_succ,i64_w,i32_w]
         rfl
        refine pure_ (i:=13) (N:=some 3) (v:=?_) (a':=?_) #[true,true,true,true,true,true,true,true,true,true,true,true,true,true] rfl rfl (any_of HT_.out (by kernel_rfl)) (fun _ _ _ h => h) (Or.inl ⟨by rfl,?_⟩) ?_ ?_
        rotate_left
        ·
         intro w'
         go_simp
         with_reducible rfl
        rotate_left
        ·
         simp only [Act.put,List.setIfInBounds_toArray,List.set_cons_zero,List.set_cons_succ,i64_w,i32_w]
         rfl
        refine done_ (done_of HT_.out (by kernel_rfl)) ?_
        try go_wp2
        go_roundg k1
        case measure => have:=HK1.out;omega
        case rel => exact ⟨(y227),(wrap64 (x4_1 + 2)),(by first|rfl|(simp;done)|(simp [*];done)),H',⟨by have:=HK1.out;omega⟩,⟨by (with_reducible repeat (first|apply Kd.R_alloc|apply Kd.R_drewN|apply Kd.R_drew));exact HO229.out⟩,⟨by repeat (first|(with_reducible first|exact HB.out|apply qa5|apply qb5|apply qc5)|exact HB.out)⟩⟩
       ·
        rw [if_neg c8] at H
        exact absurd H (by simp)
      ·
       rw [if_neg c6] at H
       exact absurd H (by simp)
     ·
      rw [if_neg c5] at H
      exact absurd H (by simp)
    ·
     rw [if_neg c3] at H
     exact absurd H (by simp)
   ·
    rw [if_neg c2] at H
    have c2b0 : decide (x4_1 < (l0.length : Int)) = false:=decide_eq_false c2
    clear c2
    obtain rfl:=Option.some.inj H
    go_wp2
    go_ret
    exact ⟨_,by first|rfl|(simp [errW_none,errW_some] <;> rfl)|(simp [*,errW_none,errW_some] <;> rfl),by (with_reducible repeat (first|apply Kd.R_alloc|apply Kd.R_drewN|apply Kd.R_drew));exact HO_3.out,by repeat (first|(with_reducible first|exact HB.out|apply qa5|apply qb5|apply qc5)|exact HB.out)⟩

/-! ### impl_chainRoot: function 68 -/
def impl_chainRoot.l0 : Nat → List ByteArray → Option (ByteArray)
 | 0,_ => none
 | k + 1,x3 => if (x3.length : Int) > 1 then ((impl_above.f k x3).bind fun t233 => (impl_chainRoot.l0 k t233)) else (if 0 < (x3.length : Int) then (some (rdOf ByteArray.empty x3 0)) else (none))
def impl_chainRoot.f (k : Nat) (a0 : ByteArray) : Option (ByteArray):=(impl_keys.f k a0).bind fun t230 => (impl_chainRoot.l0 k t230)
theorem impl_chainRoot.mono_l : ∀ k,(∀ y0,LeO (impl_chainRoot.l0 k y0) (impl_chainRoot.l0 (k + 1) y0))
 | 0 => fun _ r h => by simp [impl_chainRoot.l0] at h
 | k + 1 => by
  have ih0:=impl_chainRoot.mono_l k
  ·
   intro y0
   unfold impl_chainRoot.l0
   repeat' first
   | (with_reducible exact ih0 _)
   | (with_reducible exact impl_above.mono _ _)
   | (with_reducible exact impl_keys.mono _ _)
   | (with_reducible exact LeO.refl _)
   | (with_reducible exact LeO.none _)
   | (with_reducible refine LeO.ite ?_ ?_)
   | (with_reducible refine LeO.bind ?_ (fun _ => ?_))
   | exact ih0 _
   | exact impl_above.mono _ _
   | exact impl_keys.mono _ _
   | exact LeO.none _
   | refine LeO.ite ?_ ?_
   | refine LeO.bind ?_ (fun _ => ?_)
theorem impl_chainRoot.mono : ∀ a0 k,LeO (impl_chainRoot.f k a0) (impl_chainRoot.f (k + 1) a0):=by
 intro a0 k
 have ih0:=impl_chainRoot.mono_l k
 unfold impl_chainRoot.f
 repeat' first
   | (with_reducible exact ih0 _)
   | (with_reducible exact impl_above.mono _ _)
   | (with_reducible exact impl_keys.mono _ _)
   | (with_reducible exact LeO.refl _)
   | (with_reducible exact LeO.none _)
   | (with_reducible refine LeO.ite ?_ ?_)
   | (with_reducible refine LeO.bind ?_ (fun _ => ?_))
   | exact ih0 _
   | exact impl_above.mono _ _
   | exact impl_keys.mono _ _
   | exact LeO.none _
   | refine LeO.ite ?_ ?_
   | refine LeO.bind ?_ (fun _ => ?_)
set_option maxHeartbeats 8000000 in
set_option maxRecDepth 100000 in
theorem impl_chainRoot.calls (k : Nat) (a0 : ByteArray) (r : ByteArray) (w : World) (hG_ : Go.Proofs.YtmkaknegjahjaaaDoor.Sha.GlobA w) (h : impl_chainRoot.f k a0 = some r) :
  Calls Tryd.prog 68 #[.string a0] w fun e w' => e = .returned (.string r) ∧ Below w.heap.size w w':=by
 have HB:=qd5 (Below.refl w.heap.size w)
 have H : ((impl_keys.f k a0).bind fun t230 => (impl_chainRoot.l0 k t230)) = some r:=h
 clear h
 replace H:=Option.bind_eq_some_iff.mp H
 obtain ⟨t230,A20,H⟩:=H
 replace H : (impl_chainRoot.l0 k t230) = some r:=H
 have A2:=qd5 A20
 clear A20
 have H':=qd5 H
 clear H
 go_enter Tryd.func68,Tryd.ntmps68
 go_wp2_with (first|((with_reducible refine gate_callee (f:=106) rfl ?_);refine goesL_ (some 5) rfl rfl Tryd.func106 (by kernel_rfl) rfl #[.string a0] rfl (by (try simp only [List.map_toArray,List.map_cons,List.map_nil]);first|done|rfl|(simp only [List.length_drop,List.length_take];rfl)) ?_;(with_reducible refine (impl_keys.calls k a0 t230 _ ?side1 A2.out).mono ?_);(case side1 => exact Go.Proofs.YtmkaknegjahjaaaDoor.Sha.glob_below hG_ (by repeat (first|(with_reducible first|exact HB.out|apply qa5|apply qb5|apply qc5)|exact HB.out)));rintro e w3 ⟨v231,rfl,ho0,hb⟩;refine ⟨_,rfl,?_⟩;have n0_:=qd5 (Kd.R_lower ho0 (below_size (by repeat (first|(with_reducible first|exact HB.out|apply qa5|apply qb5|apply qc5)|exact HB.out))));have n1_:=qd5 (below_step (by repeat (first|(with_reducible first|exact HB.out|apply qa5|apply qb5|apply qc5)|exact HB.out)) hb);clear HB;have HO232:=n0_;have HB:=n1_;clear n0_ n1_;(try clear hb);(try clear hb2);(try clear hk);(try clear hi);(try clear ho0)))
 go_loopg [3] k (fun kq v3 w' => ∃ (x3_1 : List ByteArray),Aside0 (impl_chainRoot.l0 kq x3_1 = some r) ∧ Aside0 (kq ≤ k) ∧ Aside0 (Kd.R Kd.string 9 w' w.heap.size (fun _ => True) v3 x3_1) ∧ Aside0 (Below w.heap.size w w'))
 case atStart => exact ⟨(t230),H',⟨Nat.le_refl _⟩,⟨by (with_reducible repeat (first|apply Kd.R_alloc|apply Kd.R_drewN|apply Kd.R_drew));exact HO232.out⟩,⟨by repeat (first|(with_reducible first|exact HB.out|apply qa5|apply qb5|apply qc5)|exact HB.out)⟩⟩
 case round =>
  clear H'
  try clear c1
  try clear p2
  obtain ⟨x3_1,HA,HK1,HO_3,HB⟩:=hrel
  cases gk with
  | zero => exact absurd HA.out (by simp [impl_chainRoot.l0])
  | succ k1 =>
   have H:=HA.out
   clear HA
   simp only [impl_chainRoot.l0] at H
   by_cases c4 : (x3_1.length : Int) > 1
   ·
    rw [if_pos c4] at H
    have c4b0 : decide (1 < (x3_1.length : Int)) = true:=decide_eq_true c4
    have c4b1 : decide (1 < x3_1.length) = true:=decide_eq_true (by omega)
    clear c4
    replace H:=Option.bind_eq_some_iff.mp H
    obtain ⟨t233,A50,H⟩:=H
    replace H : (impl_chainRoot.l0 k1 t233) = some r:=H
    have A5:=qd5 A50
    clear A50
    have H':=qd5 H
    clear H
    obtain ⟨Ao6,co6,eo6⟩:=Kd.R_slice HO_3.out
    subst eo6
    go_wp2_with (first|((with_reducible refine gate_callee (f:=107) rfl ?_);refine goesL_ (some 10) rfl rfl Tryd.func107 (by kernel_rfl) rfl #[.slice Ao6 x3_1.length co6] rfl (by (try simp only [List.map_toArray,List.map_cons,List.map_nil]);first|done|rfl|(simp only [List.length_drop,List.length_take];rfl)) ?_;(with_reducible refine (impl_above.calls k1 _ _ x3_1 t233 _ ?side1 ?side2 ?side3 A5.out).mono ?_);(case side1 => repeat (first|exact (Kd.R_reads' HO_3.out).2.2|(with_reducible refine Kd.C_alloc ?_ _)|(with_reducible refine Kd.C_drewN ?_ _)|(with_reducible refine Kd.C_drew ?_)));(case side2 => exact (Kd.R_reads' HO_3.out).2.1);(case side3 => exact Go.Proofs.YtmkaknegjahjaaaDoor.Sha.glob_below hG_ (by repeat (first|(with_reducible first|exact HB.out|apply qa5|apply qb5|apply qc5)|exact HB.out)));rintro e w7 ⟨v234,rfl,ho0,hb⟩;refine ⟨_,rfl,?_⟩;have n0_:=qd5 (Kd.R_elder' (by (with_reducible repeat (first|apply Kd.R_alloc|apply Kd.R_drewN|apply Kd.R_drew));exact HO_3.out) (Kd.R_base ho0) hb);have n1_:=qd5 (Kd.R_lower (Kd.R_new' ho0 (Kd.R_lt (by (with_reducible repeat (first|apply Kd.R_alloc|apply Kd.R_drewN|apply Kd.R_drew));exact HO_3.out))) (below_size (by repeat (first|(with_reducible first|exact HB.out|apply qa5|apply qb5|apply qc5)|exact HB.out))));have n2_:=qd5 (below_step (by repeat (first|(with_reducible first|exact HB.out|apply qa5|apply qb5|apply qc5)|exact HB.out)) hb);clear HO_3;clear HB;have HO_3:=n0_;have HO235:=n1_;have HB:=n2_;clear n0_ n1_ n2_;(try clear hb);(try clear hb2);(try clear hk);(try clear hi);(try clear ho0)))
    go_roundg k1
    case measure => have:=HK1.out;omega
    case rel => exact ⟨(t233),H',⟨by have:=HK1.out;omega⟩,⟨by (with_reducible repeat (first|apply Kd.R_alloc|apply Kd.R_drewN|apply Kd.R_drew));exact Kd.R_mono HO235.out (fun _ hk => trivial)⟩,⟨by repeat (first|(with_reducible first|exact HB.out|apply qa5|apply qb5|apply qc5)|exact HB.out)⟩⟩
   ·
    rw [if_neg c4] at H
    have c4b0 : decide (1 < (x3_1.length : Int)) = false:=decide_eq_false c4
    have c4b1 : decide (1 < x3_1.length) = false:=decide_eq_false (by omega)
    clear c4
    by_cases c8 : 0 < (x3_1.length : Int)
    ·
     rw [if_pos c8] at H
     have c8b0 : decide (0 < (x3_1.length : Int)) = true:=decide_eq_true c8
     have c8b1 : decide (0 < x3_1.length) = true:=decide_eq_true (by omega)
     clear c8
     obtain rfl:=Option.some.inj H
     obtain ⟨Ao9,co9,eo9⟩:=Kd.R_slice HO_3.out
     subst eo9
     have p236 : 0 ≤ (0 : Int):=(by omega)
     have q236 : 0 < (x3_1.length : Int):=of_decide_eq_true (by first|(with_reducible assumption)|assumption)
     obtain ⟨ad236,e236,hx236_0⟩:=Kd.at_string (Kd.R_reads' HO_3.out).2.2 0 p236 q236
     cases e236
     have qi236 : (0 < x3_1.length) = True:=eq_true (by omega)
     (try rw [show ((0 : Int)).toNat = 0 from rfl] at hx236_0)
     (try rw [Addr.add_zero'] at hx236_0)
     replace p236:=eq_true p236
     replace q236:=eq_true q236
     go_wp2
     go_ret
     exact ⟨by first|rfl|(simp [errW_none,errW_some] <;> rfl)|(simp [*,errW_none,errW_some] <;> rfl),by repeat (first|(with_reducible first|exact HB.out|apply qa5|apply qb5|apply qc5)|exact HB.out)⟩
    ·
     rw [if_neg c8] at H
     exact absurd H (by simp)

/-! ### impl_ChainRoot: function 26 -/
def impl_ChainRoot.f (k : Nat) (a0 : ByteArray) : Option (ByteArray × Int):=(impl_areLong.f (([a0] : List ByteArray))).bind fun t240 => (if t240 = true then (some ((⟨#[]⟩ : ByteArray),2)) else ((impl_isHash.f a0).bind fun t241 => (if t241 = true then ((impl_chainRoot.f k a0).bind fun t242 => (some (t242,0))) else (some ((⟨#[]⟩ : ByteArray),1)))))
theorem impl_ChainRoot.mono : ∀ a0 k,LeO (impl_ChainRoot.f k a0) (impl_ChainRoot.f (k + 1) a0):=by
 intro a0 k
 unfold impl_ChainRoot.f
 repeat' first
   | (with_reducible exact impl_chainRoot.mono _ _)
   | (with_reducible exact LeO.refl _)
   | (with_reducible exact LeO.none _)
   | (with_reducible refine LeO.ite ?_ ?_)
   | (with_reducible refine LeO.bind ?_ (fun _ => ?_))
   | exact impl_chainRoot.mono _ _
   | exact LeO.none _
   | refine LeO.ite ?_ ?_
   | refine LeO.bind ?_ (fun _ => ?_)
set_option maxHeartbeats 8000000 in
set_option maxRecDepth 100000 in
theorem impl_ChainRoot.calls (k : Nat) (a0 : ByteArray) (r1 : ByteArray) (r2 : Int) (w : World) (hG_ : Go.Proofs.YtmkaknegjahjaaaDoor.Sha.GlobA w) (h : impl_ChainRoot.f k a0 = some (r1,r2)) :
  Calls Tryd.prog 26 #[.string a0] w fun e w' => e = .returned (.tuple #[.string r1,.int .i64 r2]) ∧ Below w.heap.size w w':=by
 have HB:=qd5 (Below.refl w.heap.size w)
 have H : ((impl_areLong.f (([a0] : List ByteArray))).bind fun t240 => (if t240 = true then (some ((⟨#[]⟩ : ByteArray),2)) else ((impl_isHash.f a0).bind fun t241 => (if t241 = true then ((impl_chainRoot.f k a0).bind fun t242 => (some (t242,0))) else (some ((⟨#[]⟩ : ByteArray),1)))))) = some (r1,r2):=h
 clear h
 obtain ⟨y237,hy237⟩ : ∃ y_ : List ByteArray,y_ = (([a0] : List ByteArray)):=⟨_,rfl⟩
 replace H : ((impl_areLong.f y237).bind fun t240 => (if t240 = true then (some ((⟨#[]⟩ : ByteArray),2)) else ((impl_isHash.f a0).bind fun t241 => (if t241 = true then ((impl_chainRoot.f k a0).bind fun t242 => (some (t242,0))) else (some ((⟨#[]⟩ : ByteArray),1)))))) = some (r1,r2):=by first|(rw [hy237];with_reducible exact H)|(have H2_:=(Option.bind_some _ _).symm.trans H;rw [hy237];with_reducible exact H2_)|(have H2_:=(Option.bind_some _ _).symm.trans H;with_reducible exact H2_)|with_reducible exact H|(rw [hy237];exact H)|exact H
 have Ny237:=qd5 hy237
 clear hy237
 replace H:=Option.bind_eq_some_iff.mp H
 obtain ⟨t240,A20,H⟩:=H
 replace H : (if t240 = true then (some ((⟨#[]⟩ : ByteArray),2)) else ((impl_isHash.f a0).bind fun t241 => (if t241 = true then ((impl_chainRoot.f k a0).bind fun t242 => (some (t242,0))) else (some ((⟨#[]⟩ : ByteArray),1))))) = some (r1,r2):=H
 have A2:=qd5 A20
 clear A20
 by_cases c3 : t240 = true
 ·
  subst c3
  have H1 : (some ((⟨#[]⟩ : ByteArray),2)) = some (r1,r2):=by rw [if_pos rfl] at H;exact H
  clear H
  have H:=H1
  clear H1
  simp only [Option.some.injEq,Prod.mk.injEq] at H
  obtain ⟨rfl,rfl⟩:=H
  go_enter Tryd.func26,Tryd.ntmps26
  go_wp2_with (first|((with_reducible refine gate_dst (N:=5) rfl ?_);refine Kd.R_lit Kd.string _ 9 ?hg (N:=5) ?hd (xs:=([a0] : List ByteArray)) (inner:=[.string a0]) (ok:=fun _ => True) (okp:=fun _ => True) ?hr ?hp (fun _ hk => hk) trivial (Below.refl _ _) (Nat.le_refl _) (by simp) ?_;(case hd => rfl);(case hg => rfl);(case hr => first|(go_simp;done)|(go_simp;rfl));(case hp => exact (Reps.one (show Kd.M Kd.string _ _ _ a0 [.string a0] from rfl) (Reps.none _ _)));intro v238 w4 ho5 hb hg_ hnew_;clear hg_ hnew_;(first|rw [← Ny237.out] at ho5|(simp only [Int.reduceToNat] at ho5;rw [← Ny237.out] at ho5));have n0_:=qd5 (Kd.R_lower ho5 (below_size (by repeat (first|(with_reducible first|exact HB.out|apply qa5|apply qb5|apply qc5)|exact HB.out))));have n1_:=qd5 (below_step (by repeat (first|(with_reducible first|exact HB.out|apply qa5|apply qb5|apply qc5)|exact HB.out)) hb);clear HB;have HO239:=n0_;have HB:=n1_;clear n0_ n1_;clear hb ho5;obtain ⟨Ao6,co6,eo6⟩:=Kd.R_slice HO239.out;subst eo6)|((with_reducible refine gate_callee (f:=51) rfl ?_);refine goesL_ (some 6) rfl rfl Tryd.func51 (by kernel_rfl) rfl #[.slice Ao6 y237.length co6] rfl (by (try simp only [List.map_toArray,List.map_cons,List.map_nil]);first|done|rfl|(simp only [List.length_drop,List.length_take];rfl)) ?_;(with_reducible refine (impl_areLong.calls _ _ y237 true _ ?side1 ?side2 A2.out).mono ?_);(case side1 => repeat (first|exact (Kd.R_reads' HO239.out).2.2|(with_reducible refine Kd.C_alloc ?_ _)|(with_reducible refine Kd.C_drewN ?_ _)|(with_reducible refine Kd.C_drew ?_)));(case side2 => exact (Kd.R_reads' HO239.out).2.1);rintro e w' ⟨rfl,⟨nd,rfl⟩⟩;refine ⟨_,rfl,?_⟩))
  go_ret2
  exact ⟨by first|rfl|(simp [errW_none,errW_some] <;> rfl)|(simp [*,errW_none,errW_some] <;> rfl),by repeat (first|(with_reducible first|exact HB.out|apply qa5|apply qb5|apply qc5)|exact HB.out)⟩
 ·
  replace c3:=Bool.eq_false_iff.mpr c3
  subst c3
  have H1 : ((impl_isHash.f a0).bind fun t241 => (if t241 = true then ((impl_chainRoot.f k a0).bind fun t242 => (some (t242,0))) else (some ((⟨#[]⟩ : ByteArray),1)))) = some (r1,r2):=by rw [if_neg (show ¬ (false = true) by decide)] at H;exact H
  clear H
  have H:=H1
  clear H1
  replace H:=Option.bind_eq_some_iff.mp H
  obtain ⟨t241,A70,H⟩:=H
  replace H : (if t241 = true then ((impl_chainRoot.f k a0).bind fun t242 => (some (t242,0))) else (some ((⟨#[]⟩ : ByteArray),1))) = some (r1,r2):=H
  have A7:=qd5 A70
  clear A70
  by_cases c8 : t241 = true
  ·
   subst c8
   have H1 : ((impl_chainRoot.f k a0).bind fun t242 => (some (t242,0))) = some (r1,r2):=by rw [if_pos rfl] at H;exact H
   clear H
   have H:=H1
   clear H1
   replace H:=Option.bind_eq_some_iff.mp H
   obtain ⟨t242,A90,H⟩:=H
   replace H : (some (t242,0)) = some (r1,r2):=H
   have A9:=qd5 A90
   clear A90
   simp only [Option.some.injEq,Prod.mk.injEq] at H
   obtain ⟨rfl,rfl⟩:=H
   go_enter Tryd.func26,Tryd.ntmps26
   go_wp2_with (first|((with_reducible refine gate_dst (N:=5) rfl ?_);refine Kd.R_lit Kd.string _ 9 ?hg (N:=5) ?hd (xs:=([a0] : List ByteArray)) (inner:=[.string a0]) (ok:=fun _ => True) (okp:=fun _ => True) ?hr ?hp (fun _ hk => hk) trivial (Below.refl _ _) (Nat.le_refl _) (by simp) ?_;(case hd => rfl);(case hg => rfl);(case hr => first|(go_simp;done)|(go_simp;rfl));(case hp => exact (Reps.one (show Kd.M Kd.string _ _ _ a0 [.string a0] from rfl) (Reps.none _ _)));intro v238 w10 ho11 hb hg_ hnew_;clear hg_ hnew_;(first|rw [← Ny237.out] at ho11|(simp only [Int.reduceToNat] at ho11;rw [← Ny237.out] at ho11));have n0_:=qd5 (Kd.R_lower ho11 (below_size (by repeat (first|(with_reducible first|exact HB.out|apply qa5|apply qb5|apply qc5)|exact HB.out))));have n1_:=qd5 (below_step (by repeat (first|(with_reducible first|exact HB.out|apply qa5|apply qb5|apply qc5)|exact HB.out)) hb);clear HB;have HO239:=n0_;have HB:=n1_;clear n0_ n1_;clear hb ho11;obtain ⟨Ao12,co12,eo12⟩:=Kd.R_slice HO239.out;subst eo12)|((with_reducible refine gate_callee (f:=51) rfl ?_);refine goesL_ (some 6) rfl rfl Tryd.func51 (by kernel_rfl) rfl #[.slice Ao12 y237.length co12] rfl (by (try simp only [List.map_toArray,List.map_cons,List.map_nil]);first|done|rfl|(simp only [List.length_drop,List.length_take];rfl)) ?_;(with_reducible refine (impl_areLong.calls _ _ y237 false _ ?side1 ?side2 A2.out).mono ?_);(case side1 => repeat (first|exact (Kd.R_reads' HO239.out).2.2|(with_reducible refine Kd.C_alloc ?_ _)|(with_reducible refine Kd.C_drewN ?_ _)|(with_reducible refine Kd.C_drew ?_)));(case side2 => exact (Kd.R_reads' HO239.out).2.1);rintro e w' ⟨rfl,⟨nd,rfl⟩⟩;refine ⟨_,rfl,?_⟩)|((with_reducible refine gate_callee (f:=52) rfl ?_);refine goesL_ (some 8) rfl rfl Tryd.func52 (by kernel_rfl) rfl #[.string a0] rfl (by (try simp only [List.map_toArray,List.map_cons,List.map_nil]);first|done|rfl|(simp only [List.length_drop,List.length_take];rfl)) ?_;(with_reducible refine (impl_isHash.calls a0 true _ A7.out).mono ?_);rintro e w' ⟨rfl,⟨nd,rfl⟩⟩;refine ⟨_,rfl,?_⟩)|((with_reducible refine gate_callee (f:=68) rfl ?_);refine goesL_ (some 11) rfl rfl Tryd.func68 (by kernel_rfl) rfl #[.string a0] rfl (by (try simp only [List.map_toArray,List.map_cons,List.map_nil]);first|done|rfl|(simp only [List.length_drop,List.length_take];rfl)) ?_;(with_reducible refine (impl_chainRoot.calls k a0 t242 _ ?side1 A9.out).mono ?_);(case side1 => exact Go.Proofs.YtmkaknegjahjaaaDoor.Sha.glob_below hG_ (by repeat (first|(with_reducible first|exact HB.out|apply qa5|apply qb5|apply qc5)|exact HB.out)));rintro e w13 ⟨rfl,hb⟩;refine ⟨_,rfl,?_⟩;have n0_:=qd5 (Kd.R_below (by (with_reducible repeat (first|apply Kd.R_alloc|apply Kd.R_drewN|apply Kd.R_drew));exact HO239.out) hb);have n1_:=qd5 (below_step (by repeat (first|(with_reducible first|exact HB.out|apply qa5|apply qb5|apply qc5)|exact HB.out)) hb);clear HO239;clear HB;have HO239:=n0_;have HB:=n1_;clear n0_ n1_;(try clear hb);(try clear hb2);(try clear hk);(try clear hi)))
   go_ret2
   exact ⟨by first|rfl|(simp [errW_none,errW_some] <;> rfl)|(simp [*,errW_none,errW_some] <;> rfl),by repeat (first|(with_reducible first|exact HB.out|apply qa5|apply qb5|apply qc5)|exact HB.out)⟩
  ·
   replace c8:=Bool.eq_false_iff.mpr c8
   subst c8
   have H1 : (some ((⟨#[]⟩ : ByteArray),1)) = some (r1,r2):=by rw [if_neg (show ¬ (false = true) by decide)] at H;exact H
   clear H
   have H:=H1
   clear H1
   simp only [Option.some.injEq,Prod.mk.injEq] at H
   obtain ⟨rfl,rfl⟩:=H
   go_enter Tryd.func26,Tryd.ntmps26
   go_wp2_with (first|((with_reducible refine gate_dst (N:=5) rfl ?_);refine Kd.R_lit Kd.string _ 9 ?hg (N:=5) ?hd (xs:=([a0] : List ByteArray)) (inner:=[.string a0]) (ok:=fun _ => True) (okp:=fun _ => True) ?hr ?hp (fun _ hk => hk) trivial (Below.refl _ _) (Nat.le_refl _) (by simp) ?_;(case hd => rfl);(case hg => rfl);(case hr => first|(go_simp;done)|(go_simp;rfl));(case hp => exact (Reps.one (show Kd.M Kd.string _ _ _ a0 [.string a0] from rfl) (Reps.none _ _)));intro v238 w14 ho15 hb hg_ hnew_;clear hg_ hnew_;(first|rw [← Ny237.out] at ho15|(simp only [Int.reduceToNat] at ho15;rw [← Ny237.out] at ho15));have n0_:=qd5 (Kd.R_lower ho15 (below_size (by repeat (first|(with_reducible first|exact HB.out|apply qa5|apply qb5|apply qc5)|exact HB.out))));have n1_:=qd5 (below_step (by repeat (first|(with_reducible first|exact HB.out|apply qa5|apply qb5|apply qc5)|exact HB.out)) hb);clear HB;have HO239:=n0_;have HB:=n1_;clear n0_ n1_;clear hb ho15;obtain ⟨Ao16,co16,eo16⟩:=Kd.R_slice HO239.out;subst eo16)|((with_reducible refine gate_callee (f:=51) rfl ?_);refine goesL_ (some 6) rfl rfl Tryd.func51 (by kernel_rfl) rfl #[.slice Ao16 y237.length co16] rfl (by (try simp only [List.map_toArray,List.map_cons,List.map_nil]);first|done|rfl|(simp only [List.length_drop,List.length_take];rfl)) ?_;(with_reducible refine (impl_areLong.calls _ _ y237 false _ ?side1 ?side2 A2.out).mono ?_);(case side1 => repeat (first|exact (Kd.R_reads' HO239.out).2.2|(with_reducible refine Kd.C_alloc ?_ _)|(with_reducible refine Kd.C_drewN ?_ _)|(with_reducible refine Kd.C_drew ?_)));(case side2 => exact (Kd.R_reads' HO239.out).2.1);rintro e w' ⟨rfl,⟨nd,rfl⟩⟩;refine ⟨_,rfl,?_⟩)|((with_reducible refine gate_callee (f:=52) rfl ?_);refine goesL_ (some 8) rfl rfl Tryd.func52 (by kernel_rfl) rfl #[.string a0] rfl (by (try simp only [List.map_toArray,List.map_cons,List.map_nil]);first|done|rfl|(simp only [List.length_drop,List.length_take];rfl)) ?_;(with_reducible refine (impl_isHash.calls a0 false _ A7.out).mono ?_);rintro e w' ⟨rfl,⟨nd,rfl⟩⟩;refine ⟨_,rfl,?_⟩))
   go_ret2
   exact ⟨by first|rfl|(simp [errW_none,errW_some] <;> rfl)|(simp [*,errW_none,errW_some] <;> rfl),by repeat (first|(with_reducible first|exact HB.out|apply qa5|apply qb5|apply qc5)|exact HB.out)⟩

/-! ### spec_l03Root: function 69 -/
def spec_l03Root.l0 : Nat → List ByteArray → Option (ByteArray)
 | 0,_ => none
 | k + 1,x0 => if (x0.length : Int) > 1 then ((spec_l03Level.f k x0).bind fun t243 => (spec_l03Root.l0 k t243)) else (if 0 < (x0.length : Int) then (some (rdOf ByteArray.empty x0 0)) else (none))
def spec_l03Root.f (k : Nat) (l0 : List ByteArray) : Option (ByteArray):=spec_l03Root.l0 k l0
theorem spec_l03Root.mono_l : ∀ k,(∀ y0,LeO (spec_l03Root.l0 k y0) (spec_l03Root.l0 (k + 1) y0))
 | 0 => fun _ r h => by simp [spec_l03Root.l0] at h
 | k + 1 => by
  have ih0:=spec_l03Root.mono_l k
  ·
   intro y0
   unfold spec_l03Root.l0
   repeat' first
   | (with_reducible exact ih0 _)
   | (with_reducible exact spec_l03Level.mono _ _)
   | (with_reducible exact LeO.refl _)
   | (with_reducible exact LeO.none _)
   | (with_reducible refine LeO.ite ?_ ?_)
   | (with_reducible refine LeO.bind ?_ (fun _ => ?_))
   | exact ih0 _
   | exact spec_l03Level.mono _ _
   | exact LeO.none _
   | refine LeO.ite ?_ ?_
   | refine LeO.bind ?_ (fun _ => ?_)
theorem spec_l03Root.mono : ∀ a0 k,LeO (spec_l03Root.f k a0) (spec_l03Root.f (k + 1) a0):=by
 intro a0 k
 have ih0:=spec_l03Root.mono_l k
 unfold spec_l03Root.f
 repeat' first
   | (with_reducible exact ih0 _)
   | (with_reducible exact spec_l03Level.mono _ _)
   | (with_reducible exact LeO.refl _)
   | (with_reducible exact LeO.none _)
   | (with_reducible refine LeO.ite ?_ ?_)
   | (with_reducible refine LeO.bind ?_ (fun _ => ?_))
   | exact ih0 _
   | exact spec_l03Level.mono _ _
   | exact LeO.none _
   | refine LeO.ite ?_ ?_
   | refine LeO.bind ?_ (fun _ => ?_)
set_option maxHeartbeats 8000000 in
set_option maxRecDepth 100000 in
theorem spec_l03Root.calls (k : Nat) (P0_ : Nat → Prop) (A0 : Option Addr) (c0 : Nat) (l0 : List ByteArray) (r : ByteArray) (w : World) (hs0 : Kd.V Kd.string 9 w w.heap.size (fun k_ => P0_ k_) (.slice A0 l0.length c0) l0) (h : spec_l03Root.f k l0 = some r) :
  Calls Tryd.prog 69 #[.slice A0 l0.length c0] w fun e w' => e = .returned (.string r) ∧ Below w.heap.size w w':=by
 have HO0:=qd5 (show Kd.V Kd.string 9 w w.heap.size (fun k_ => (P0_ k_ ∨ w.heap.size ≤ k_)) (.slice A0 l0.length c0) l0 from Kd.V_mono hs0 (fun k_ hk => .inl hk))
 have HB:=qd5 (Below.refl w.heap.size w)
 have H : (spec_l03Root.l0 k l0) = some r:=h
 clear h
 have H':=qd5 H
 clear H
 go_enter Tryd.func69,Tryd.ntmps69
 go_wp2
 go_loopg [0] k (fun kq v0 w' => ∃ (x0_1 : List ByteArray),Aside0 (spec_l03Root.l0 kq x0_1 = some r) ∧ Aside0 (kq ≤ k) ∧ Aside0 (Kd.V Kd.string 9 w' w.heap.size (fun k_ => (P0_ k_ ∨ w.heap.size ≤ k_)) v0 x0_1) ∧ Aside0 (Below w.heap.size w w'))
 case atStart => exact ⟨(l0),H',⟨Nat.le_refl _⟩,⟨by (with_reducible repeat (first|apply Kd.V_alloc|apply Kd.V_drewN|apply Kd.V_drew));exact HO0.out⟩,⟨by repeat (first|(with_reducible first|exact HB.out|apply qa5|apply qb5|apply qc5)|exact HB.out)⟩⟩
 case round =>
  clear H'
  obtain ⟨x0_1,HA,HK1,HO_0,HB⟩:=hrel
  cases gk with
  | zero => exact absurd HA.out (by simp [spec_l03Root.l0])
  | succ k1 =>
   have H:=HA.out
   clear HA
   simp only [spec_l03Root.l0] at H
   by_cases c2 : (x0_1.length : Int) > 1
   ·
    rw [if_pos c2] at H
    have c2b0 : decide (1 < (x0_1.length : Int)) = true:=decide_eq_true c2
    have c2b1 : decide (1 < x0_1.length) = true:=decide_eq_true (by omega)
    clear c2
    replace H:=Option.bind_eq_some_iff.mp H
    obtain ⟨t243,A30,H⟩:=H
    replace H : (spec_l03Root.l0 k1 t243) = some r:=H
    have A3:=qd5 A30
    clear A30
    have H':=qd5 H
    clear H
    obtain ⟨Ao4,co4,eo4⟩:=Kd.V_slice HO_0.out
    subst eo4
    go_wp2_with (first|((with_reducible refine gate_callee (f:=109) rfl ?_);refine goesL_ (some 7) rfl rfl Tryd.func109 (by kernel_rfl) rfl #[.slice Ao4 x0_1.length co4] rfl (by (try simp only [List.map_toArray,List.map_cons,List.map_nil]);first|done|rfl|(simp only [List.length_drop,List.length_take];rfl)) ?_;(with_reducible refine (spec_l03Level.calls k1 _ _ x0_1 t243 _ ?side1 ?side2 A3.out).mono ?_);(case side1 => repeat (first|exact (Kd.V_reads' HO_0.out).2.2|(with_reducible refine Kd.C_alloc ?_ _)|(with_reducible refine Kd.C_drewN ?_ _)|(with_reducible refine Kd.C_drew ?_)));(case side2 => exact (Kd.V_reads' HO_0.out).2.1);rintro e w5 ⟨v244,rfl,ho0,hb⟩;refine ⟨_,rfl,?_⟩;have n0_:=qd5 (Kd.V_elder' (by (with_reducible repeat (first|apply Kd.V_alloc|apply Kd.V_drewN|apply Kd.V_drew));exact HO_0.out) (Kd.R_base ho0) hb);have n1_:=qd5 (Kd.R_lower (Kd.R_newM (M:=fun k_ => (w.heap.size ≤ k_)) ho0 (below_size (by repeat (first|(with_reducible first|exact HB.out|apply qa5|apply qb5|apply qc5)|exact HB.out))) (fun k_ h_ => h_)) (below_size (by repeat (first|(with_reducible first|exact HB.out|apply qa5|apply qb5|apply qc5)|exact HB.out))));have n2_:=qd5 (below_step (by repeat (first|(with_reducible first|exact HB.out|apply qa5|apply qb5|apply qc5)|exact HB.out)) hb);clear HO_0;clear HB;have HO_0:=n0_;have HO245:=n1_;have HB:=n2_;clear n0_ n1_ n2_;(try clear hb);(try clear hb2);(try clear hk);(try clear hi);(try clear ho0)))
    go_roundg k1
    case measure => have:=HK1.out;omega
    case rel => exact ⟨(t243),H',⟨by have:=HK1.out;omega⟩,⟨Kd.V_mono (Kd.R_V (by (with_reducible repeat (first|apply Kd.R_alloc|apply Kd.R_drewN|apply Kd.R_drew));exact Kd.R_mono HO245.out (fun _ hk => hk.1))) (fun k_ hk => by first|exact ⟨(.inr (hk.1)),hk.2⟩|exact (.inr (hk)))⟩,⟨by repeat (first|(with_reducible first|exact HB.out|apply qa5|apply qb5|apply qc5)|exact HB.out)⟩⟩
   ·
    rw [if_neg c2] at H
    have c2b0 : decide (1 < (x0_1.length : Int)) = false:=decide_eq_false c2
    have c2b1 : decide (1 < x0_1.length) = false:=decide_eq_false (by omega)
    clear c2
    by_cases c6 : 0 < (x0_1.length : Int)
    ·
     rw [if_pos c6] at H
     have c6b0 : decide (0 < (x0_1.length : Int)) = true:=decide_eq_true c6
     have c6b1 : decide (0 < x0_1.length) = true:=decide_eq_true (by omega)
     clear c6
     obtain rfl:=Option.some.inj H
     obtain ⟨Ao7,co7,eo7⟩:=Kd.V_slice HO_0.out
     subst eo7
     have p246 : 0 ≤ (0 : Int):=(by omega)
     have q246 : 0 < (x0_1.length : Int):=of_decide_eq_true (by first|(with_reducible assumption)|assumption)
     obtain ⟨ad246,e246,hx246_0⟩:=Kd.at_string (Kd.V_reads' HO_0.out).2.2 0 p246 q246
     cases e246
     have qi246 : (0 < x0_1.length) = True:=eq_true (by omega)
     (try rw [show ((0 : Int)).toNat = 0 from rfl] at hx246_0)
     (try rw [Addr.add_zero'] at hx246_0)
     replace p246:=eq_true p246
     replace q246:=eq_true q246
     go_wp2
     go_ret
     exact ⟨by first|rfl|(simp [errW_none,errW_some] <;> rfl)|(simp [*,errW_none,errW_some] <;> rfl),by repeat (first|(with_reducible first|exact HB.out|apply qa5|apply qb5|apply qc5)|exact HB.out)⟩
    ·
     rw [if_neg c6] at H
     exact absurd H (by simp)

/-! ### spec_ChainRoot: function 27 -/
def spec_ChainRoot.f (k : Nat) (a0 : ByteArray) : Option (ByteArray × Int):=if (a0.size : Int) > 65536 then (some ((⟨#[]⟩ : ByteArray),2)) else (if (a0.size : Int) = 32 then ((spec_l03Keys.f k a0).bind fun t247 => ((spec_l03Root.f k t247).bind fun t250 => (some (t250,0)))) else (some ((⟨#[]⟩ : ByteArray),1)))
theorem spec_ChainRoot.mono : ∀ a0 k,LeO (spec_ChainRoot.f k a0) (spec_ChainRoot.f (k + 1) a0):=by
 intro a0 k
 unfold spec_ChainRoot.f
 repeat' first
   | (with_reducible exact spec_l03Keys.mono _ _)
   | (with_reducible exact spec_l03Root.mono _ _)
   | (with_reducible exact LeO.refl _)
   | (with_reducible exact LeO.none _)
   | (with_reducible refine LeO.ite ?_ ?_)
   | (with_reducible refine LeO.bind ?_ (fun _ => ?_))
   | exact spec_l03Keys.mono _ _
   | exact spec_l03Root.mono _ _
   | exact LeO.none _
   | refine LeO.ite ?_ ?_
   | refine LeO.bind ?_ (fun _ => ?_)
set_option maxHeartbeats 8000000 in
set_option maxRecDepth 100000 in
theorem spec_ChainRoot.calls (k : Nat) (a0 : ByteArray) (r1 : ByteArray) (r2 : Int) (w : World) (h : spec_ChainRoot.f k a0 = some (r1,r2)) :
  Calls Tryd.prog 27 #[.string a0] w fun e w' => e = .returned (.tuple #[.string r1,.int .i64 r2]) ∧ Below w.heap.size w w':=by
 have HB:=qd5 (Below.refl w.heap.size w)
 have H : (if (a0.size : Int) > 65536 then (some ((⟨#[]⟩ : ByteArray),2)) else (if (a0.size : Int) = 32 then ((spec_l03Keys.f k a0).bind fun t247 => ((spec_l03Root.f k t247).bind fun t250 => (some (t250,0)))) else (some ((⟨#[]⟩ : ByteArray),1)))) = some (r1,r2):=h
 clear h
 by_cases c2 : (a0.size : Int) > 65536
 ·
  rw [if_pos c2] at H
  have c2b0 : decide (65536 < (a0.size : Int)) = true:=decide_eq_true c2
  have c2b1 : decide (65536 < a0.size) = true:=decide_eq_true (by omega)
  clear c2
  simp only [Option.some.injEq,Prod.mk.injEq] at H
  obtain ⟨rfl,rfl⟩:=H
  go_enter Tryd.func27,Tryd.ntmps27
  go_wp2
  go_ret2
  exact ⟨by first|rfl|(simp [errW_none,errW_some] <;> rfl)|(simp [*,errW_none,errW_some] <;> rfl),by repeat (first|(with_reducible first|exact HB.out|apply qa5|apply qb5|apply qc5)|exact HB.out)⟩
 ·
  rw [if_neg c2] at H
  have c2b0 : decide (65536 < (a0.size : Int)) = false:=decide_eq_false c2
  have c2b1 : decide (65536 < a0.size) = false:=decide_eq_false (by omega)
  clear c2
  by_cases c3 : (a0.size : Int) = 32
  ·
   rw [if_pos c3] at H
   have c3b0 : ((a0.size : Int) == 32) = true:=beq_iff_eq.mpr c3
   have c3b1 : ((a0.size : Int) != 32) = false:=bne_eq_false_iff_eq.mpr c3
   clear c3
   replace H:=Option.bind_eq_some_iff.mp H
   obtain ⟨t247,A40,H⟩:=H
   replace H : ((spec_l03Root.f k t247).bind fun t250 => (some (t250,0))) = some (r1,r2):=H
   have A4:=qd5 A40
   clear A40
   replace H:=Option.bind_eq_some_iff.mp H
   obtain ⟨t250,A50,H⟩:=H
   replace H : (some (t250,0)) = some (r1,r2):=H
   have A5:=qd5 A50
   clear A50
   simp only [Option.some.injEq,Prod.mk.injEq] at H
   obtain ⟨rfl,rfl⟩:=H
   go_enter Tryd.func27,Tryd.ntmps27
   go_wp2_with (first|((with_reducible refine gate_callee (f:=70) rfl ?_);refine goesL_ (some 11) rfl rfl Tryd.func70 (by kernel_rfl) rfl #[.string a0] rfl (by (try simp only [List.map_toArray,List.map_cons,List.map_nil]);first|done|rfl|(simp only [List.length_drop,List.length_take];rfl)) ?_;(with_reducible refine (spec_l03Keys.calls k a0 t247 _ A4.out).mono ?_);rintro e w6 ⟨v248,rfl,ho0,hb⟩;refine ⟨_,rfl,?_⟩;have n0_:=qd5 (Kd.R_lower ho0 (below_size (by repeat (first|(with_reducible first|exact HB.out|apply qa5|apply qb5|apply qc5)|exact HB.out))));have n1_:=qd5 (below_step (by repeat (first|(with_reducible first|exact HB.out|apply qa5|apply qb5|apply qc5)|exact HB.out)) hb);clear HB;have HO249:=n0_;have HB:=n1_;clear n0_ n1_;(try clear hb);(try clear hb2);(try clear hk);(try clear hi);(try clear ho0);obtain ⟨Ao7,co7,eo7⟩:=Kd.R_slice HO249.out;subst eo7)|((with_reducible refine gate_callee (f:=69) rfl ?_);refine goesL_ (some 12) rfl rfl Tryd.func69 (by kernel_rfl) rfl #[.slice Ao7 t247.length co7] rfl (by (try simp only [List.map_toArray,List.map_cons,List.map_nil]);first|done|rfl|(simp only [List.length_drop,List.length_take];rfl)) ?_;(with_reducible refine (spec_l03Root.calls k (fun k_ => some k_ = (.slice Ao7 t247.length co7 : Value).ownBlock) _ _ t247 t250 _ ?side1 A5.out).mono ?_);(case side1 => exact Kd.R_V (Kd.R_tight rfl (HO249.out)));rintro e w8 ⟨rfl,hb⟩;refine ⟨_,rfl,?_⟩;have n0_:=qd5 (Kd.R_below (by (with_reducible repeat (first|apply Kd.R_alloc|apply Kd.R_drewN|apply Kd.R_drew));exact HO249.out) hb);have n1_:=qd5 (below_step (by repeat (first|(with_reducible first|exact HB.out|apply qa5|apply qb5|apply qc5)|exact HB.out)) hb);clear HO249;clear HB;have HO249:=n0_;have HB:=n1_;clear n0_ n1_;(try clear hb);(try clear hb2);(try clear hk);(try clear hi)))
   go_ret2
   exact ⟨by first|rfl|(simp [errW_none,errW_some] <;> rfl)|(simp [*,errW_none,errW_some] <;> rfl),by repeat (first|(with_reducible first|exact HB.out|apply qa5|apply qb5|apply qc5)|exact HB.out)⟩
  ·
   rw [if_neg c3] at H
   have c3b0 : ((a0.size : Int) == 32) = false:=beq_eq_false_iff_ne.mpr c3
   have c3b1 : ((a0.size : Int) != 32) = true:=bne_iff_ne.mpr c3
   simp only [Option.some.injEq,Prod.mk.injEq] at H
   obtain ⟨rfl,rfl⟩:=H
   go_enter Tryd.func27,Tryd.ntmps27
   go_wp2
   go_ret2
   exact ⟨by first|rfl|(simp [errW_none,errW_some] <;> rfl)|(simp [*,errW_none,errW_some] <;> rfl),by repeat (first|(with_reducible first|exact HB.out|apply qa5|apply qb5|apply qc5)|exact HB.out)⟩

end Go.Proofs.YtmkaknegjahjaaaDoor.PFnLamport
