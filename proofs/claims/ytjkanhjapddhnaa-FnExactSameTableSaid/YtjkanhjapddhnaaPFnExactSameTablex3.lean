-- laid by this session's program myprint.py over the kit's printer
-- squeezed
-- aliased
import Derived.Test.YtjkanhjapddhnaaPFnExactSameTablex0
import Derived.Test.YtjkanhjapddhnaaPFnExactSameTablex2
namespace Go.Proofs.Ytjkanhjapddhnaa.PFnExactSameTable
open Go.RowKit Go.Proofs.YtjkanhjapddhnaaV.PrintWords Go.Proofs.YtjkanhjapddhnaaV.PrintLast Go.Proofs.YtjkanhjapddhnaaV.PrintMore
attribute [local go_sem] max2_int min2_int max_two min_two max_three min_three max_four min_four u8_wm u32_wm   -- for this text's walks alone
set_option linter.unusedVariables false
set_option linter.unusedSimpArgs false

/-! ### laws_eqLockS: function 49 -/
theorem qa3 : type_of% @blk_drewN:=@blk_drewN
theorem qb3 : type_of% @blk_alloc:=@blk_alloc
theorem qc3 : type_of% @below_alloc:=@below_alloc
theorem qd3 : type_of% @pw_below_drewN:=@pw_below_drewN
theorem qe3 : type_of% @below_drew1:=@below_drew1
theorem qf3 : type_of% @below_set:=@below_set
theorem qg3 : type_of% @Aside0.mk:=@Aside0.mk
theorem qh3 : type_of% @below_size:=@below_size
def laws_eqLockS.l0 : Nat → List (S70) → List (S70) → Int → Option (Bool)
 | 0,_,_,_ => none
 | k + 1,x0,x1,x5 => if x5 < (x0.length : Int) then (if 0 ≤ x5 then (if x5 < (x1.length : Int) then ((laws_eqLock.f k ((rd_T70 x0 x5).f0) ((rd_T70 x0 x5).f1) ((rd_T70 x0 x5).f2) ((rd_T70 x0 x5).f3) ((rd_T70 x0 x5).f4) ((rd_T70 x1 x5).f0) ((rd_T70 x1 x5).f1) ((rd_T70 x1 x5).f2) ((rd_T70 x1 x5).f3) ((rd_T70 x1 x5).f4)).bind fun t176 => (if t176 = true then (laws_eqLockS.l0 k x0 x1 (wrap64 (x5 + 1))) else (some false))) else (none)) else (none)) else (some true)
def laws_eqLockS.f (k : Nat) (l0 : List (S70)) (l1 : List (S70)) : Option (Bool):=if (l0.length : Int) = (l1.length : Int) then (laws_eqLockS.l0 k l0 l1 0) else (some false)
def laws_eqLockS.T6 : Bool × List (List Nat × List Nat):=(true,[([],[]),([],[]),([0,1],[0,1]),([2],[2]),([],[]),([],[]),([4,5],[4,5]),([6],[6]),([3,7],[3,7]),([8],[8])])
def laws_eqLockS.B6 : List Nat:=[0,0,3,7,0,0,48,112,255,511]
theorem laws_eqLockS.tab6 : rtab .any (opsOf Try.f49 6) = laws_eqLockS.T6:=by kernel_rfl
theorem laws_eqLockS.bits6 : waitsOk laws_eqLockS.T6.2 laws_eqLockS.B6 = true:=by kernel_rfl
set_option maxHeartbeats 8000000 in
set_option maxRecDepth 100000 in
theorem laws_eqLockS.calls (k : Nat) (A0 : Option Addr) (c0 : Nat) (l0 : List (S70)) (A1 : Option Addr) (c1 : Nat) (l1 : List (S70)) (r : Bool) (w : World) (hr0 : Kd.C k70 w A0 l0.length l0) (hc0 : l0.length ≤ c0) (hr1 : Kd.C k70 w A1 l1.length l1) (hc1 : l1.length ≤ c1) (h : laws_eqLockS.f k l0 l1 = some r) :
  Calls Try.prog 49 #[.slice A0 l0.length c0,.slice A1 l1.length c1] w fun e w' => e = .returned (.bool r) ∧ Below w.heap.size w w':=by
 have hu70:=Try.underlying70
 have HR0:=qg3 hr0
 have HC0:=qg3 hc0
 clear hr0 hc0
 have HR1:=qg3 hr1
 have HC1:=qg3 hc1
 clear hr1 hc1
 have HB:=qg3 (Below.refl w.heap.size w)
 have H : (if (l0.length : Int) = (l1.length : Int) then (laws_eqLockS.l0 k l0 l1 0) else (some false)) = some r:=h
 clear h
 by_cases c3 : (l0.length : Int) = (l1.length : Int)
 ·
  rw [if_pos c3] at H
  have c3b0 : ((l0.length : Int) == (l1.length : Int)) = true:=beq_iff_eq.mpr c3
  have c3b1 : ((l0.length : Int) != (l1.length : Int)) = false:=bne_eq_false_iff_eq.mpr c3
  have c3b2 : (l0.length == l1.length) = true:=by first|simpa using c3|(simp at c3 ⊢;omega)
  clear c3
  have H':=qg3 H
  clear H
  go_enter Try.func49,Try.ntmps49
  go_wp2
  go_loopg [5] k (fun kq v5 w' => ∃ (x5_1 : Int),v5 = .int .i64 x5_1 ∧ Aside0 (laws_eqLockS.l0 kq l0 l1 x5_1 = some r) ∧ Aside0 (kq ≤ k) ∧ Aside0 (Below w.heap.size w w'))
  case atStart => exact ⟨(0),(by first|rfl|(simp;done)|(simp [*];done)),H',⟨Nat.le_refl _⟩,⟨by repeat (first|(with_reducible first|exact HB.out|apply qc3|apply qd3|apply qe3)|exact HB.out)⟩⟩
  case round =>
   clear H'
   try clear c1
   try clear p2
   try clear c3
   try clear c3b0
   try clear c3b1
   try clear c3b2
   obtain ⟨x5_1,rfl,HA,HK1,HB⟩:=hrel
   cases gk with
   | zero => exact absurd HA.out (by simp [laws_eqLockS.l0])
   | succ k1 =>
    have H:=HA.out
    clear HA
    simp only [laws_eqLockS.l0] at H
    by_cases c4 : x5_1 < (l0.length : Int)
    ·
     rw [if_pos c4] at H
     have c4b0 : decide (x5_1 < (l0.length : Int)) = true:=decide_eq_true c4
     clear c4
     by_cases c5 : 0 ≤ x5_1
     ·
      rw [if_pos c5] at H
      have c5b0 : decide (0 ≤ x5_1) = true:=decide_eq_true c5
      clear c5
      by_cases c6 : x5_1 < (l1.length : Int)
      ·
       rw [if_pos c6] at H
       have c6b0 : decide (x5_1 < (l1.length : Int)) = true:=decide_eq_true c6
       clear c6
       replace H:=Option.bind_eq_some_iff.mp H
       obtain ⟨t176,A70,H⟩:=H
       replace H : (if t176 = true then (laws_eqLockS.l0 k1 l0 l1 (wrap64 (x5_1 + 1))) else (some false)) = some r:=H
       have A7:=qg3 A70
       clear A70
       by_cases c8 : t176 = true
       ·
        subst c8
        have H1 : (laws_eqLockS.l0 k1 l0 l1 (wrap64 (x5_1 + 1))) = some r:=by rw [if_pos rfl] at H;exact H
        clear H
        have H:=H1
        clear H1
        have H':=qg3 H
        clear H
        try go_wp2
        have n0_:=qg3 (qe3 HB.out)
        clear HB
        have HB:=n0_
        clear n0_
        have p174 : 0 ≤ (x5_1 : Int):=sM (by first|(with_reducible assumption)|assumption)
        have q174 : x5_1 < (l0.length : Int):=sM (by first|(with_reducible assumption)|assumption)
        obtain ⟨ad174,A174_4,c174_4,e174,hx174_0,hx174_1,hx174_2,hx174_3,hx174_4,hl174_4,hi174_4⟩:=at_T70 HR0.out x5_1 p174 q174
        have hw174_4:=hx174_4
        have hw174_3:=hx174_3
        have hw174_2:=hx174_2
        have hw174_1:=hx174_1
        have hw174_0:=hx174_0
        cases e174
        replace hx174_0:=(HB.out.cell (sD w _ hx174_0)).trans hx174_0
        replace hx174_1:=(HB.out.cell (sD w _ hx174_1)).trans hx174_1
        replace hx174_2:=(HB.out.cell (sD w _ hx174_2)).trans hx174_2
        replace hx174_3:=(HB.out.cell (sD w _ hx174_3)).trans hx174_3
        replace hx174_4:=(HB.out.cell (sD w _ hx174_4)).trans hx174_4
        have HR174_4:=qg3 hi174_4
        have HC174_4:=qg3 hl174_4
        clear hi174_4 hl174_4
        replace p174:=eq_true p174
        replace q174:=eq_true q174
        have p175 : 0 ≤ (x5_1 : Int):=sM (by first|(with_reducible assumption)|assumption)
        have q175 : x5_1 < (l1.length : Int):=sM (by first|(with_reducible assumption)|assumption)
        obtain ⟨ad175,A175_4,c175_4,e175,hx175_0,hx175_1,hx175_2,hx175_3,hx175_4,hl175_4,hi175_4⟩:=at_T70 HR1.out x5_1 p175 q175
        have hw175_4:=hx175_4
        have hw175_3:=hx175_3
        have hw175_2:=hx175_2
        have hw175_1:=hx175_1
        have hw175_0:=hx175_0
        cases e175
        replace hx175_0:=(HB.out.cell (sD w _ hx175_0)).trans hx175_0
        replace hx175_1:=(HB.out.cell (sD w _ hx175_1)).trans hx175_1
        replace hx175_2:=(HB.out.cell (sD w _ hx175_2)).trans hx175_2
        replace hx175_3:=(HB.out.cell (sD w _ hx175_3)).trans hx175_3
        replace hx175_4:=(HB.out.cell (sD w _ hx175_4)).trans hx175_4
        have HR175_4:=qg3 hi175_4
        have HC175_4:=qg3 hl175_4
        clear hi175_4 hl175_4
        replace p175:=eq_true p175
        replace q175:=eq_true q175
        refine start_ (n:=10) (S:=fun w' => w'.cell? (ad174.add ((x5_1).toNat * 5)) = some (.string ((rd_T70 l0 x5_1).f0)) ∧ w'.cell? ⟨(ad174.add ((x5_1).toNat * 5)).block,(ad174.add ((x5_1).toNat * 5)).off + 1,none⟩ = some (.int .i64 ((rd_T70 l0 x5_1).f1)) ∧ w'.cell? ⟨(ad174.add ((x5_1).toNat * 5)).block,(ad174.add ((x5_1).toNat * 5)).off + 2,none⟩ = some (.int .i64 ((rd_T70 l0 x5_1).f2)) ∧ w'.cell? ⟨(ad174.add ((x5_1).toNat * 5)).block,(ad174.add ((x5_1).toNat * 5)).off + 3,none⟩ = some (.int .i64 ((rd_T70 l0 x5_1).f3)) ∧ w'.cell? ⟨(ad174.add ((x5_1).toNat * 5)).block,(ad174.add ((x5_1).toNat * 5)).off + 4,none⟩ = some (.slice A174_4 ((rd_T70 l0 x5_1).f4).length c174_4) ∧ w'.cell? (ad175.add ((x5_1).toNat * 5)) = some (.string ((rd_T70 l1 x5_1).f0)) ∧ w'.cell? ⟨(ad175.add ((x5_1).toNat * 5)).block,(ad175.add ((x5_1).toNat * 5)).off + 1,none⟩ = some (.int .i64 ((rd_T70 l1 x5_1).f1)) ∧ w'.cell? ⟨(ad175.add ((x5_1).toNat * 5)).block,(ad175.add ((x5_1).toNat * 5)).off + 2,none⟩ = some (.int .i64 ((rd_T70 l1 x5_1).f2)) ∧ w'.cell? ⟨(ad175.add ((x5_1).toNat * 5)).block,(ad175.add ((x5_1).toNat * 5)).off + 3,none⟩ = some (.int .i64 ((rd_T70 l1 x5_1).f3)) ∧ w'.cell? ⟨(ad175.add ((x5_1).toNat * 5)).block,(ad175.add ((x5_1).toNat * 5)).off + 4,none⟩ = some (.slice A175_4 ((rd_T70 l1 x5_1).f4).length c175_4)) (ds:=[]) #[false,false,false,false,false,false,false,false,false,false] (by kernel_rfl) rfl rfl ⟨((HB.out.cell (sD w _ hw174_0)).trans hw174_0),((HB.out.cell (sD w _ hw174_1)).trans hw174_1),((HB.out.cell (sD w _ hw174_2)).trans hw174_2),((HB.out.cell (sD w _ hw174_3)).trans hw174_3),((HB.out.cell (sD w _ hw174_4)).trans hw174_4),((HB.out.cell (sD w _ hw175_0)).trans hw175_0),((HB.out.cell (sD w _ hw175_1)).trans hw175_1),((HB.out.cell (sD w _ hw175_2)).trans hw175_2),((HB.out.cell (sD w _ hw175_3)).trans hw175_3),((HB.out.cell (sD w _ hw175_4)).trans hw175_4)⟩ (fun hHeld => ?_);refine with_tabW laws_eqLockS.tab6 laws_eqLockS.bits6 (fun HT_ HW_ => ?_)
        generalize wr.drew = w9 at HB HR174_4 HR175_4 hx174_0 hx174_1 hx174_2 hx174_3 hx174_4 hx175_0 hx175_1 hx175_2 hx175_3 hx175_4 hHeld ⊢
        refine pure_ (i:=0) (N:=some 17) (v:=?_) (a':=?_) #[true,false,false,false,false,false,false,false,false,false] rfl rfl (any_of HT_.out (by kernel_rfl)) (fun _ _ _ h => h) (Or.inl ⟨by rfl,?_⟩) ?_ ?_
        rotate_left
        ·
         intro w'
         go_simp
         with_reducible rfl
        rotate_left
        ·
         simp only [Act.put,sA,sB,sC,i64_w,i32_w]
         rfl
        refine pure_ (i:=1) (N:=some 18) (v:=?_) (a':=?_) #[true,true,false,false,false,false,false,false,false,false] rfl rfl (any_of HT_.out (by kernel_rfl)) (fun _ _ _ h => h) (Or.inl ⟨by rfl,?_⟩) ?_ ?_
        rotate_left
        ·
         intro w'
         go_simp
         with_reducible rfl
        rotate_left
        ·
         simp only [Act.put,sA,sB,sC,i64_w,i32_w]
         rfl
        refine pure_ (i:=2) (N:=some 19) (v:=?_) (a':=?_) #[true,true,true,false,false,false,false,false,false,false] rfl rfl (any_of HT_.out (by kernel_rfl)) (fun _ _ _ h => h) (Or.inl ⟨by rfl,?_⟩) ?_ ?_
        rotate_left
        ·
         intro w'
         go_simp
         with_reducible rfl
        rotate_left
        ·
         simp only [Act.put,sA,sB,sC,i64_w,i32_w]
         rfl
        refine pure_ (i:=4) (N:=some 21) (v:=?_) (a':=?_) #[true,true,true,false,true,false,false,false,false,false] rfl rfl (any_of HT_.out (by kernel_rfl)) (fun _ _ _ h => h) (Or.inl ⟨by rfl,?_⟩) ?_ ?_
        rotate_left
        ·
         intro w'
         go_simp
         with_reducible rfl
        rotate_left
        ·
         simp only [Act.put,sA,sB,sC,i64_w,i32_w]
         rfl
        refine pure_ (i:=5) (N:=some 22) (v:=?_) (a':=?_) #[true,true,true,false,true,true,false,false,false,false] rfl rfl (any_of HT_.out (by kernel_rfl)) (fun _ _ _ h => h) (Or.inl ⟨by rfl,?_⟩) ?_ ?_
        rotate_left
        ·
         intro w'
         go_simp
         with_reducible rfl
        rotate_left
        ·
         simp only [Act.put,sA,sB,sC,i64_w,i32_w]
         rfl
        refine pure_ (i:=6) (N:=some 23) (v:=?_) (a':=?_) #[true,true,true,false,true,true,true,false,false,false] rfl rfl (any_of HT_.out (by kernel_rfl)) (fun _ _ _ h => h) (Or.inl ⟨by rfl,?_⟩) ?_ ?_
        rotate_left
        ·
         intro w'
         go_simp
         with_reducible rfl
        rotate_left
        ·
         simp only [Act.put,sA,sB,sC,i64_w,i32_w]
         rfl
        refine take_ (i:=3) (N:=some 20) (v:=?_) (a':=?_) #[true,true,true,true,true,true,true,false,false,false] rfl rfl (take_ofW HT_.out HW_.out (by kernel_rfl)) (fun _ _ _ h => h) (Or.inl ⟨by rfl,?_⟩) hHeld ?_ ?_
        rotate_left
        ·
         rintro w' ⟨s0,s1,s2,s3,s4,s5,s6,s7,s8,s9⟩
         go_simp
         with_reducible rfl
        rotate_left
        ·
         simp only [Act.put,sA,sB,sC,i64_w,i32_w]
         rfl
        refine take_ (i:=7) (N:=some 24) (v:=?_) (a':=?_) #[true,true,true,true,true,true,true,true,false,false] rfl rfl (take_ofW HT_.out HW_.out (by kernel_rfl)) (fun _ _ _ h => h) (Or.inl ⟨by rfl,?_⟩) hHeld ?_ ?_
        rotate_left
        ·
         rintro w' ⟨s0,s1,s2,s3,s4,s5,s6,s7,s8,s9⟩
         go_simp
         with_reducible rfl
        rotate_left
        ·
         simp only [Act.put,sA,sB,sC,i64_w,i32_w]
         rfl
        refine one_ (i:=8) (N:=some 25) #[true,true,true,true,true,true,true,true,true,false] rfl rfl (one_of HT_.out (by kernel_rfl)) (by decide) (fun K hK => ?_)
        refine goes_ Try.func77 (by kernel_rfl) rfl #[.agg #[.string ((rd_T70 l0 x5_1).f0),.int .i64 ((rd_T70 l0 x5_1).f1),.int .i64 ((rd_T70 l0 x5_1).f2),.int .i64 ((rd_T70 l0 x5_1).f3),.slice A174_4 ((rd_T70 l0 x5_1).f4).length c174_4],.agg #[.string ((rd_T70 l1 x5_1).f0),.int .i64 ((rd_T70 l1 x5_1).f1),.int .i64 ((rd_T70 l1 x5_1).f2),.int .i64 ((rd_T70 l1 x5_1).f3),.slice A175_4 ((rd_T70 l1 x5_1).f4).length c175_4]] (by rfl) rfl rfl (by (try simp only [sE,sH,sI]);first|done|rfl|(simp only [sG,sF];rfl)) ?_
        with_reducible refine (laws_eqLock.calls k1 ((rd_T70 l0 x5_1).f0) ((rd_T70 l0 x5_1).f1) ((rd_T70 l0 x5_1).f2) ((rd_T70 l0 x5_1).f3) _ _ ((rd_T70 l0 x5_1).f4) ((rd_T70 l1 x5_1).f0) ((rd_T70 l1 x5_1).f1) ((rd_T70 l1 x5_1).f2) ((rd_T70 l1 x5_1).f3) _ _ ((rd_T70 l1 x5_1).f4) true _ ?side1 ?side2 ?side3 ?side4 A7.out).mono ?_
        (case side1 => repeat (first|exact (Kd.C_below HR174_4.out HB.out)|(with_reducible refine Kd.C_alloc ?_ _)|(with_reducible refine Kd.C_drewN ?_ _)|(with_reducible refine Kd.C_drew ?_)))
        (case side2 => exact HC174_4.out)
        (case side3 => repeat (first|exact (Kd.C_below HR175_4.out HB.out)|(with_reducible refine Kd.C_alloc ?_ _)|(with_reducible refine Kd.C_drewN ?_ _)|(with_reducible refine Kd.C_drew ?_)))
        (case side4 => exact HC175_4.out)
        rintro e w10 ⟨rfl,hb⟩
        refine ⟨_,rfl,?_⟩
        have n0_:=qg3 (sN (by repeat (first|(with_reducible first|exact HB.out|apply qc3|apply qd3|apply qe3)|exact HB.out)) hb)
        clear HB
        have HB:=n0_
        clear n0_
        (try clear hb)
        (try clear hb2)
        (try clear hk)
        (try clear hi)
        refine hK.out _ _ ⟨((HB.out.cell (sD w _ hw174_0)).trans hw174_0),((HB.out.cell (sD w _ hw174_1)).trans hw174_1),((HB.out.cell (sD w _ hw174_2)).trans hw174_2),((HB.out.cell (sD w _ hw174_3)).trans hw174_3),((HB.out.cell (sD w _ hw174_4)).trans hw174_4),((HB.out.cell (sD w _ hw175_0)).trans hw175_0),((HB.out.cell (sD w _ hw175_1)).trans hw175_1),((HB.out.cell (sD w _ hw175_2)).trans hw175_2),((HB.out.cell (sD w _ hw175_3)).trans hw175_3),((HB.out.cell (sD w _ hw175_4)).trans hw175_4)⟩ (fun hHeld => ?_)
        clear hK K
        refine norm_ (a':=?_) ?_ ?_
        rotate_left
        ·
         show Act.put _ (some 25) _ = _
         simp only [Act.put,sA,sB,sC,i64_w,i32_w]
         rfl
        refine pure_ (i:=9) (N:=some 26) (v:=?_) (a':=?_) #[true,true,true,true,true,true,true,true,true,true] rfl rfl (any_of HT_.out (by kernel_rfl)) (fun _ _ _ h => h) (Or.inl ⟨by rfl,?_⟩) ?_ ?_
        rotate_left
        ·
         intro w'
         go_simp
         with_reducible rfl
        rotate_left
        ·
         simp only [Act.put,sA,sB,sC,i64_w,i32_w]
         rfl
        refine done_ (done_of HT_.out (by kernel_rfl)) ?_
        try go_wp2
        go_roundg k1
        case measure => have:=HK1.out;omega
        case rel => exact ⟨(wrap64 (x5_1 + 1)),(by first|rfl|(simp;done)|(simp [*];done)),H',⟨by have:=HK1.out;omega⟩,⟨by repeat (first|(with_reducible first|exact HB.out|apply qc3|apply qd3|apply qe3)|exact HB.out)⟩⟩
       ·
        replace c8:=Bool.eq_false_iff.mpr c8
        subst c8
        have H1 : (some false) = some r:=by rw [if_neg (show ¬ (false = true) by decide)] at H;exact H
        clear H
        have H:=H1
        clear H1
        obtain rfl:=sO H
        try go_wp2
        have n0_:=qg3 (qe3 HB.out)
        clear HB
        have HB:=n0_
        clear n0_
        have p174 : 0 ≤ (x5_1 : Int):=sM (by first|(with_reducible assumption)|assumption)
        have q174 : x5_1 < (l0.length : Int):=sM (by first|(with_reducible assumption)|assumption)
        obtain ⟨ad174,A174_4,c174_4,e174,hx174_0,hx174_1,hx174_2,hx174_3,hx174_4,hl174_4,hi174_4⟩:=at_T70 HR0.out x5_1 p174 q174
        have hw174_4:=hx174_4
        have hw174_3:=hx174_3
        have hw174_2:=hx174_2
        have hw174_1:=hx174_1
        have hw174_0:=hx174_0
        cases e174
        replace hx174_0:=(HB.out.cell (sD w _ hx174_0)).trans hx174_0
        replace hx174_1:=(HB.out.cell (sD w _ hx174_1)).trans hx174_1
        replace hx174_2:=(HB.out.cell (sD w _ hx174_2)).trans hx174_2
        replace hx174_3:=(HB.out.cell (sD w _ hx174_3)).trans hx174_3
        replace hx174_4:=(HB.out.cell (sD w _ hx174_4)).trans hx174_4
        have HR174_4:=qg3 hi174_4
        have HC174_4:=qg3 hl174_4
        clear hi174_4 hl174_4
        replace p174:=eq_true p174
        replace q174:=eq_true q174
        have p175 : 0 ≤ (x5_1 : Int):=sM (by first|(with_reducible assumption)|assumption)
        have q175 : x5_1 < (l1.length : Int):=sM (by first|(with_reducible assumption)|assumption)
        obtain ⟨ad175,A175_4,c175_4,e175,hx175_0,hx175_1,hx175_2,hx175_3,hx175_4,hl175_4,hi175_4⟩:=at_T70 HR1.out x5_1 p175 q175
        have hw175_4:=hx175_4
        have hw175_3:=hx175_3
        have hw175_2:=hx175_2
        have hw175_1:=hx175_1
        have hw175_0:=hx175_0
        cases e175
        replace hx175_0:=(HB.out.cell (sD w _ hx175_0)).trans hx175_0
        replace hx175_1:=(HB.out.cell (sD w _ hx175_1)).trans hx175_1
        replace hx175_2:=(HB.out.cell (sD w _ hx175_2)).trans hx175_2
        replace hx175_3:=(HB.out.cell (sD w _ hx175_3)).trans hx175_3
        replace hx175_4:=(HB.out.cell (sD w _ hx175_4)).trans hx175_4
        have HR175_4:=qg3 hi175_4
        have HC175_4:=qg3 hl175_4
        clear hi175_4 hl175_4
        replace p175:=eq_true p175
        replace q175:=eq_true q175
        refine start_ (n:=10) (S:=fun w' => w'.cell? (ad174.add ((x5_1).toNat * 5)) = some (.string ((rd_T70 l0 x5_1).f0)) ∧ w'.cell? ⟨(ad174.add ((x5_1).toNat * 5)).block,(ad174.add ((x5_1).toNat * 5)).off + 1,none⟩ = some (.int .i64 ((rd_T70 l0 x5_1).f1)) ∧ w'.cell? ⟨(ad174.add ((x5_1).toNat * 5)).block,(ad174.add ((x5_1).toNat * 5)).off + 2,none⟩ = some (.int .i64 ((rd_T70 l0 x5_1).f2)) ∧ w'.cell? ⟨(ad174.add ((x5_1).toNat * 5)).block,(ad174.add ((x5_1).toNat * 5)).off + 3,none⟩ = some (.int .i64 ((rd_T70 l0 x5_1).f3)) ∧ w'.cell? ⟨(ad174.add ((x5_1).toNat * 5)).block,(ad174.add ((x5_1).toNat * 5)).off + 4,none⟩ = some (.slice A174_4 ((rd_T70 l0 x5_1).f4).length c174_4) ∧ w'.cell? (ad175.add ((x5_1).toNat * 5)) = some (.string ((rd_T70 l1 x5_1).f0)) ∧ w'.cell? ⟨(ad175.add ((x5_1).toNat * 5)).block,(ad175.add ((x5_1).toNat * 5)).off + 1,none⟩ = some (.int .i64 ((rd_T70 l1 x5_1).f1)) ∧ w'.cell? ⟨(ad175.add ((x5_1).toNat * 5)).block,(ad175.add ((x5_1).toNat * 5)).off + 2,none⟩ = some (.int .i64 ((rd_T70 l1 x5_1).f2)) ∧ w'.cell? ⟨(ad175.add ((x5_1).toNat * 5)).block,(ad175.add ((x5_1).toNat * 5)).off + 3,none⟩ = some (.int .i64 ((rd_T70 l1 x5_1).f3)) ∧ w'.cell? ⟨(ad175.add ((x5_1).toNat * 5)).block,(ad175.add ((x5_1).toNat * 5)).off + 4,none⟩ = some (.slice A175_4 ((rd_T70 l1 x5_1).f4).length c175_4)) (ds:=[]) #[false,false,false,false,false,false,false,false,false,false] (by kernel_rfl) rfl rfl ⟨((HB.out.cell (sD w _ hw174_0)).trans hw174_0),((HB.out.cell (sD w _ hw174_1)).trans hw174_1),((HB.out.cell (sD w _ hw174_2)).trans hw174_2),((HB.out.cell (sD w _ hw174_3)).trans hw174_3),((HB.out.cell (sD w _ hw174_4)).trans hw174_4),((HB.out.cell (sD w _ hw175_0)).trans hw175_0),((HB.out.cell (sD w _ hw175_1)).trans hw175_1),((HB.out.cell (sD w _ hw175_2)).trans hw175_2),((HB.out.cell (sD w _ hw175_3)).trans hw175_3),((HB.out.cell (sD w _ hw175_4)).trans hw175_4)⟩ (fun hHeld => ?_);refine with_tabW laws_eqLockS.tab6 laws_eqLockS.bits6 (fun HT_ HW_ => ?_)
        generalize wr.drew = w11 at HB HR174_4 HR175_4 hx174_0 hx174_1 hx174_2 hx174_3 hx174_4 hx175_0 hx175_1 hx175_2 hx175_3 hx175_4 hHeld ⊢
        refine pure_ (i:=0) (N:=some 17) (v:=?_) (a':=?_) #[true,false,false,false,false,false,false,false,false,false] rfl rfl (any_of HT_.out (by kernel_rfl)) (fun _ _ _ h => h) (Or.inl ⟨by rfl,?_⟩) ?_ ?_
        rotate_left
        ·
         intro w'
         go_simp
         with_reducible rfl
        rotate_left
        ·
         simp only [Act.put,sA,sB,sC,i64_w,i32_w]
         rfl
        refine pure_ (i:=1) (N:=some 18) (v:=?_) (a':=?_) #[true,true,false,false,false,false,false,false,false,false] rfl rfl (any_of HT_.out (by kernel_rfl)) (fun _ _ _ h => h) (Or.inl ⟨by rfl,?_⟩) ?_ ?_
        rotate_left
        ·
         intro w'
         go_simp
         with_reducible rfl
        rotate_left
        ·
         simp only [Act.put,sA,sB,sC,i64_w,i32_w]
         rfl
        refine pure_ (i:=2) (N:=some 19) (v:=?_) (a':=?_) #[true,true,true,false,false,false,false,false,false,false] rfl rfl (any_of HT_.out (by kernel_rfl)) (fun _ _ _ h => h) (Or.inl ⟨by rfl,?_⟩) ?_ ?_
        rotate_left
        ·
         intro w'
         go_simp
         with_reducible rfl
        rotate_left
        ·
         simp only [Act.put,sA,sB,sC,i64_w,i32_w]
         rfl
        refine pure_ (i:=4) (N:=some 21) (v:=?_) (a':=?_) #[true,true,true,false,true,false,false,false,false,false] rfl rfl (any_of HT_.out (by kernel_rfl)) (fun _ _ _ h => h) (Or.inl ⟨by rfl,?_⟩) ?_ ?_
        rotate_left
        ·
         intro w'
         go_simp
         with_reducible rfl
        rotate_left
        ·
         simp only [Act.put,sA,sB,sC,i64_w,i32_w]
         rfl
        refine pure_ (i:=5) (N:=some 22) (v:=?_) (a':=?_) #[true,true,true,false,true,true,false,false,false,false] rfl rfl (any_of HT_.out (by kernel_rfl)) (fun _ _ _ h => h) (Or.inl ⟨by rfl,?_⟩) ?_ ?_
        rotate_left
        ·
         intro w'
         go_simp
         with_reducible rfl
        rotate_left
        ·
         simp only [Act.put,sA,sB,sC,i64_w,i32_w]
         rfl
        refine pure_ (i:=6) (N:=some 23) (v:=?_) (a':=?_) #[true,true,true,false,true,true,true,false,false,false] rfl rfl (any_of HT_.out (by kernel_rfl)) (fun _ _ _ h => h) (Or.inl ⟨by rfl,?_⟩) ?_ ?_
        rotate_left
        ·
         intro w'
         go_simp
         with_reducible rfl
        rotate_left
        ·
         simp only [Act.put,sA,sB,sC,i64_w,i32_w]
         rfl
        refine take_ (i:=3) (N:=some 20) (v:=?_) (a':=?_) #[true,true,true,true,true,true,true,false,false,false] rfl rfl (take_ofW HT_.out HW_.out (by kernel_rfl)) (fun _ _ _ h => h) (Or.inl ⟨by rfl,?_⟩) hHeld ?_ ?_
        rotate_left
        ·
         rintro w' ⟨s0,s1,s2,s3,s4,s5,s6,s7,s8,s9⟩
         go_simp
         with_reducible rfl
        rotate_left
        ·
         simp only [Act.put,sA,sB,sC,i64_w,i32_w]
         rfl
        refine take_ (i:=7) (N:=some 24) (v:=?_) (a':=?_) #[true,true,true,true,true,true,true,true,false,false] rfl rfl (take_ofW HT_.out HW_.out (by kernel_rfl)) (fun _ _ _ h => h) (Or.inl ⟨by rfl,?_⟩) hHeld ?_ ?_
        rotate_left
        ·
         rintro w' ⟨s0,s1,s2,s3,s4,s5,s6,s7,s8,s9⟩
         go_simp
         with_reducible rfl
        rotate_left
        ·
         simp only [Act.put,sA,sB,sC,i64_w,i32_w]
         rfl
        refine one_ (i:=8) (N:=some 25) #[true,true,true,true,true,true,true,true,true,false] rfl rfl (one_of HT_.out (by kernel_rfl)) (by decide) (fun K hK => ?_)
        refine goes_ Try.func77 (by kernel_rfl) rfl #[.agg #[.string ((rd_T70 l0 x5_1).f0),.int .i64 ((rd_T70 l0 x5_1).f1),.int .i64 ((rd_T70 l0 x5_1).f2),.int .i64 ((rd_T70 l0 x5_1).f3),.slice A174_4 ((rd_T70 l0 x5_1).f4).length c174_4],.agg #[.string ((rd_T70 l1 x5_1).f0),.int .i64 ((rd_T70 l1 x5_1).f1),.int .i64 ((rd_T70 l1 x5_1).f2),.int .i64 ((rd_T70 l1 x5_1).f3),.slice A175_4 ((rd_T70 l1 x5_1).f4).length c175_4]] (by rfl) rfl rfl (by (try simp only [sE,sH,sI]);first|done|rfl|(simp only [sG,sF];rfl)) ?_
        with_reducible refine (laws_eqLock.calls k1 ((rd_T70 l0 x5_1).f0) ((rd_T70 l0 x5_1).f1) ((rd_T70 l0 x5_1).f2) ((rd_T70 l0 x5_1).f3) _ _ ((rd_T70 l0 x5_1).f4) ((rd_T70 l1 x5_1).f0) ((rd_T70 l1 x5_1).f1) ((rd_T70 l1 x5_1).f2) ((rd_T70 l1 x5_1).f3) _ _ ((rd_T70 l1 x5_1).f4) false _ ?side1 ?side2 ?side3 ?side4 A7.out).mono ?_
        (case side1 => repeat (first|exact (Kd.C_below HR174_4.out HB.out)|(with_reducible refine Kd.C_alloc ?_ _)|(with_reducible refine Kd.C_drewN ?_ _)|(with_reducible refine Kd.C_drew ?_)))
        (case side2 => exact HC174_4.out)
        (case side3 => repeat (first|exact (Kd.C_below HR175_4.out HB.out)|(with_reducible refine Kd.C_alloc ?_ _)|(with_reducible refine Kd.C_drewN ?_ _)|(with_reducible refine Kd.C_drew ?_)))
        (case side4 => exact HC175_4.out)
        rintro e w12 ⟨rfl,hb⟩
        refine ⟨_,rfl,?_⟩
        have n0_:=qg3 (sN (by repeat (first|(with_reducible first|exact HB.out|apply qc3|apply qd3|apply qe3)|exact HB.out)) hb)
        clear HB
        have HB:=n0_
        clear n0_
        (try clear hb)
        (try clear hb2)
        (try clear hk)
        (try clear hi)
        refine hK.out _ _ ⟨((HB.out.cell (sD w _ hw174_0)).trans hw174_0),((HB.out.cell (sD w _ hw174_1)).trans hw174_1),((HB.out.cell (sD w _ hw174_2)).trans hw174_2),((HB.out.cell (sD w _ hw174_3)).trans hw174_3),((HB.out.cell (sD w _ hw174_4)).trans hw174_4),((HB.out.cell (sD w _ hw175_0)).trans hw175_0),((HB.out.cell (sD w _ hw175_1)).trans hw175_1),((HB.out.cell (sD w _ hw175_2)).trans hw175_2),((HB.out.cell (sD w _ hw175_3)).trans hw175_3),((HB.out.cell (sD w _ hw175_4)).trans hw175_4)⟩ (fun hHeld => ?_)
        clear hK K
        refine norm_ (a':=?_) ?_ ?_
        rotate_left
        ·
         show Act.put _ (some 25) _ = _
         simp only [Act.put,sA,sB,sC,i64_w,i32_w]
         rfl
        refine pure_ (i:=9) (N:=some 26) (v:=?_) (a':=?_) #[true,true,true,true,true,true,true,true,true,true] rfl rfl (any_of HT_.out (by kernel_rfl)) (fun _ _ _ h => h) (Or.inl ⟨by rfl,?_⟩) ?_ ?_
        rotate_left
        ·
         intro w'
         go_simp
         with_reducible rfl
        rotate_left
        ·
         simp only [Act.put,sA,sB,sC,i64_w,i32_w]
         rfl
        refine done_ (done_of HT_.out (by kernel_rfl)) ?_
        try go_wp2
        go_ret
        exact ⟨by first|rfl|(simp [errW_none,errW_some] <;> rfl)|(simp [*,errW_none,errW_some] <;> rfl),by repeat (first|(with_reducible first|exact HB.out|apply qc3|apply qd3|apply qe3)|exact HB.out)⟩
      ·
       rw [if_neg c6] at H
       exact absurd H (by simp)
     ·
      rw [if_neg c5] at H
      exact absurd H (by simp)
    ·
     rw [if_neg c4] at H
     have c4b0 : decide (x5_1 < (l0.length : Int)) = false:=decide_eq_false c4
     clear c4
     obtain rfl:=sO H
     go_wp2
     go_ret
     exact ⟨by first|rfl|(simp [errW_none,errW_some] <;> rfl)|(simp [*,errW_none,errW_some] <;> rfl),by repeat (first|(with_reducible first|exact HB.out|apply qc3|apply qd3|apply qe3)|exact HB.out)⟩
 ·
  rw [if_neg c3] at H
  have c3b0 : ((l0.length : Int) == (l1.length : Int)) = false:=beq_eq_false_iff_ne.mpr c3
  have c3b1 : ((l0.length : Int) != (l1.length : Int)) = true:=bne_iff_ne.mpr c3
  have c3b2 : (l0.length == l1.length) = false:=by first|simpa using c3|(simp at c3 ⊢;omega)
  obtain rfl:=sO H
  go_enter Try.func49,Try.ntmps49
  go_wp2
  go_ret
  exact ⟨by first|rfl|(simp [errW_none,errW_some] <;> rfl)|(simp [*,errW_none,errW_some] <;> rfl),by repeat (first|(with_reducible first|exact HB.out|apply qc3|apply qd3|apply qe3)|exact HB.out)⟩

/-! ### laws_eqAnswer: function 68 -/
def laws_eqAnswer.f (a0_0 : Int) (a0_1 : Int) (a0_2 : Int) (a0_3 : Int) (a1_0 : Int) (a1_1 : Int) (a1_2 : Int) (a1_3 : Int) : Option (Bool):=if a0_0 = a1_0 then (if a0_1 = a1_1 then (if a0_2 = a1_2 then (if a0_3 = a1_3 then (some true) else (some false)) else (some false)) else (some false)) else (some false)
set_option maxHeartbeats 8000000 in
set_option maxRecDepth 100000 in
theorem laws_eqAnswer.calls (a0_0 : Int) (a0_1 : Int) (a0_2 : Int) (a0_3 : Int) (a1_0 : Int) (a1_1 : Int) (a1_2 : Int) (a1_3 : Int) (r : Bool) (w : World) (h : laws_eqAnswer.f a0_0 a0_1 a0_2 a0_3 a1_0 a1_1 a1_2 a1_3 = some r) :
  Calls Try.prog 68 #[.agg #[.int .i64 a0_0,.int .i64 a0_1,.int .i64 a0_2,.int .i64 a0_3],.agg #[.int .i64 a1_0,.int .i64 a1_1,.int .i64 a1_2,.int .i64 a1_3]] w fun e w' => e = .returned (.bool r) ∧ Below w.heap.size w w':=by
 have hu75:=Try.underlying75
 have HB:=qg3 (Below.refl w.heap.size w)
 have H : (if a0_0 = a1_0 then (if a0_1 = a1_1 then (if a0_2 = a1_2 then (if a0_3 = a1_3 then (some true) else (some false)) else (some false)) else (some false)) else (some false)) = some r:=h
 clear h
 by_cases c3 : a0_0 = a1_0
 ·
  rw [if_pos c3] at H
  have c3b0 : (a0_0 == a1_0) = true:=beq_iff_eq.mpr c3
  have c3b1 : (a0_0 != a1_0) = false:=bne_eq_false_iff_eq.mpr c3
  clear c3
  by_cases c4 : a0_1 = a1_1
  ·
   rw [if_pos c4] at H
   have c4b0 : (a0_1 == a1_1) = true:=beq_iff_eq.mpr c4
   have c4b1 : (a0_1 != a1_1) = false:=bne_eq_false_iff_eq.mpr c4
   clear c4
   by_cases c5 : a0_2 = a1_2
   ·
    rw [if_pos c5] at H
    have c5b0 : (a0_2 == a1_2) = true:=beq_iff_eq.mpr c5
    have c5b1 : (a0_2 != a1_2) = false:=bne_eq_false_iff_eq.mpr c5
    clear c5
    by_cases c6 : a0_3 = a1_3
    ·
     rw [if_pos c6] at H
     have c6b0 : (a0_3 == a1_3) = true:=beq_iff_eq.mpr c6
     have c6b1 : (a0_3 != a1_3) = false:=bne_eq_false_iff_eq.mpr c6
     clear c6
     obtain rfl:=sO H
     go_enter Try.func68,Try.ntmps68
     go_wp2_with (first|((with_reducible refine gate_dst (N:=2) rfl ?_);refine box_event ?hg (N:=2) ?hd (cs:=#[.int .i64 a0_0,.int .i64 a0_1,.int .i64 a0_2,.int .i64 a0_3]) (t:=75) ?hr ?_;(case hd => rfl);(case hg => rfl);(case hr => first|(go_simp;done)|(go_simp;rfl));intro gb177 hg w7 hbox hb;have n0_:=qg3 (sN (by repeat (first|(with_reducible first|exact HB.out|apply qc3|apply qd3|apply qe3)|exact HB.out)) hb);have n1_:=qg3 (hbox);have n2_:=qg3 ((by rw [hg];exact (qh3 (by repeat (first|(with_reducible first|exact HB.out|apply qc3|apply qd3|apply qe3)|exact HB.out))) : w.heap.size ≤ gb177));have n3_:=qg3 ((by rw [hg];exact (qh3 (by repeat (first|(with_reducible first|exact HB.out|apply qc3|apply qd3|apply qe3)|exact HB.out))) : w.heap.size ≤ gb177));clear HB;have HB:=n0_;have BK177:=n1_;have GW177:=n2_;have GE177:=n3_;clear n0_ n1_ n2_ n3_;clear hb hbox hg)|((with_reducible refine gate_dst (N:=3) rfl ?_);refine box_event ?hg (N:=3) ?hd (cs:=#[.int .i64 a1_0,.int .i64 a1_1,.int .i64 a1_2,.int .i64 a1_3]) (t:=75) ?hr ?_;(case hd => rfl);(case hg => rfl);(case hr => first|(go_simp;done)|(go_simp;rfl));intro gb178 hg w8 hbox hb;have n0_:=qg3 (blk_below (g:=gb177) (o:=.cells #[.int .i64 a0_0,.int .i64 a0_1,.int .i64 a0_2,.int .i64 a0_3] 75 (0,0)) (by (with_reducible repeat (first|apply qa3|apply blk_drew|apply qb3));exact BK177.out) hb);have n1_:=qg3 (sN (by repeat (first|(with_reducible first|exact HB.out|apply qc3|apply qd3|apply qe3|refine qf3 ?_ GE177.out)|exact HB.out)) hb);have n2_:=qg3 (hbox);have n3_:=qg3 ((by rw [hg];exact (qh3 (by repeat (first|(with_reducible first|exact HB.out|apply qc3|apply qd3|apply qe3|refine qf3 ?_ GE177.out)|exact HB.out))) : w.heap.size ≤ gb178));have n4_:=qg3 ((by rw [hg];exact (qh3 (by repeat (first|(with_reducible first|exact HB.out|apply qc3|apply qd3|apply qe3|refine qf3 ?_ GE177.out)|exact HB.out))) : w.heap.size ≤ gb178));have n5_:=qg3 ((by rw [hg];exact Nat.ne_of_lt (blk_lt (g:=gb177) (o:=.cells #[.int .i64 a0_0,.int .i64 a0_1,.int .i64 a0_2,.int .i64 a0_3] 75 (0,0)) (by (with_reducible repeat (first|apply qa3|apply blk_drew|apply qb3));exact BK177.out)) : gb177 ≠ gb178));have n6_:=qg3 ((by rw [hg];exact Nat.ne_of_gt (blk_lt (g:=gb177) (o:=.cells #[.int .i64 a0_0,.int .i64 a0_1,.int .i64 a0_2,.int .i64 a0_3] 75 (0,0)) (by (with_reducible repeat (first|apply qa3|apply blk_drew|apply qb3));exact BK177.out)) : gb178 ≠ gb177));clear BK177;clear HB;have BK177:=n0_;have HB:=n1_;have BK178:=n2_;have GW178:=n3_;have GE178:=n4_;have NB177_178:=n5_;have NB178_177:=n6_;clear n0_ n1_ n2_ n3_ n4_ n5_ n6_;clear hb hbox hg;have hnb9:=NB177_178.out;have hnc9:=NB178_177.out;have hcz10_0 : w8.cell? ⟨gb177,0,none⟩ = some (.int .i64 a0_0):=(blk_cell BK177.out 0).trans rfl;have hcz10_1 : w8.cell? ⟨gb177,1,none⟩ = some (.int .i64 a0_1):=(blk_cell BK177.out 1).trans rfl;have hcz10_2 : w8.cell? ⟨gb177,2,none⟩ = some (.int .i64 a0_2):=(blk_cell BK177.out 2).trans rfl;have hcz10_3 : w8.cell? ⟨gb177,3,none⟩ = some (.int .i64 a0_3):=(blk_cell BK177.out 3).trans rfl;have hfz10_0:=sJ BK177.out 0;have hfz10_1:=sJ BK177.out 1;have hfz10_2:=sJ BK177.out 2;have hfz10_3:=sJ BK177.out 3;have hcz11_0 : w8.cell? ⟨gb178,0,none⟩ = some (.int .i64 a1_0):=(blk_cell BK178.out 0).trans rfl;have hcz11_1 : w8.cell? ⟨gb178,1,none⟩ = some (.int .i64 a1_1):=(blk_cell BK178.out 1).trans rfl;have hcz11_2 : w8.cell? ⟨gb178,2,none⟩ = some (.int .i64 a1_2):=(blk_cell BK178.out 2).trans rfl;have hcz11_3 : w8.cell? ⟨gb178,3,none⟩ = some (.int .i64 a1_3):=(blk_cell BK178.out 3).trans rfl;have hfz11_0:=sJ BK178.out 0;have hfz11_1:=sJ BK178.out 1;have hfz11_2:=sJ BK178.out 2;have hfz11_3:=sJ BK178.out 3))
     go_ret
     exact ⟨by first|rfl|(simp [errW_none,errW_some] <;> rfl)|(simp [*,errW_none,errW_some] <;> rfl),by repeat (first|(with_reducible first|exact HB.out|apply qc3|apply qd3|apply qe3|refine qf3 ?_ GE177.out|refine qf3 ?_ GE178.out)|exact HB.out)⟩
    ·
     rw [if_neg c6] at H
     have c6b0 : (a0_3 == a1_3) = false:=beq_eq_false_iff_ne.mpr c6
     have c6b1 : (a0_3 != a1_3) = true:=bne_iff_ne.mpr c6
     obtain rfl:=sO H
     go_enter Try.func68,Try.ntmps68
     go_wp2_with (first|((with_reducible refine gate_dst (N:=2) rfl ?_);refine box_event ?hg (N:=2) ?hd (cs:=#[.int .i64 a0_0,.int .i64 a0_1,.int .i64 a0_2,.int .i64 a0_3]) (t:=75) ?hr ?_;(case hd => rfl);(case hg => rfl);(case hr => first|(go_simp;done)|(go_simp;rfl));intro gb177 hg w12 hbox hb;have n0_:=qg3 (sN (by repeat (first|(with_reducible first|exact HB.out|apply qc3|apply qd3|apply qe3)|exact HB.out)) hb);have n1_:=qg3 (hbox);have n2_:=qg3 ((by rw [hg];exact (qh3 (by repeat (first|(with_reducible first|exact HB.out|apply qc3|apply qd3|apply qe3)|exact HB.out))) : w.heap.size ≤ gb177));have n3_:=qg3 ((by rw [hg];exact (qh3 (by repeat (first|(with_reducible first|exact HB.out|apply qc3|apply qd3|apply qe3)|exact HB.out))) : w.heap.size ≤ gb177));clear HB;have HB:=n0_;have BK177:=n1_;have GW177:=n2_;have GE177:=n3_;clear n0_ n1_ n2_ n3_;clear hb hbox hg)|((with_reducible refine gate_dst (N:=3) rfl ?_);refine box_event ?hg (N:=3) ?hd (cs:=#[.int .i64 a1_0,.int .i64 a1_1,.int .i64 a1_2,.int .i64 a1_3]) (t:=75) ?hr ?_;(case hd => rfl);(case hg => rfl);(case hr => first|(go_simp;done)|(go_simp;rfl));intro gb178 hg w13 hbox hb;have n0_:=qg3 (blk_below (g:=gb177) (o:=.cells #[.int .i64 a0_0,.int .i64 a0_1,.int .i64 a0_2,.int .i64 a0_3] 75 (0,0)) (by (with_reducible repeat (first|apply qa3|apply blk_drew|apply qb3));exact BK177.out) hb);have n1_:=qg3 (sN (by repeat (first|(with_reducible first|exact HB.out|apply qc3|apply qd3|apply qe3|refine qf3 ?_ GE177.out)|exact HB.out)) hb);have n2_:=qg3 (hbox);have n3_:=qg3 ((by rw [hg];exact (qh3 (by repeat (first|(with_reducible first|exact HB.out|apply qc3|apply qd3|apply qe3|refine qf3 ?_ GE177.out)|exact HB.out))) : w.heap.size ≤ gb178));have n4_:=qg3 ((by rw [hg];exact (qh3 (by repeat (first|(with_reducible first|exact HB.out|apply qc3|apply qd3|apply qe3|refine qf3 ?_ GE177.out)|exact HB.out))) : w.heap.size ≤ gb178));have n5_:=qg3 ((by rw [hg];exact Nat.ne_of_lt (blk_lt (g:=gb177) (o:=.cells #[.int .i64 a0_0,.int .i64 a0_1,.int .i64 a0_2,.int .i64 a0_3] 75 (0,0)) (by (with_reducible repeat (first|apply qa3|apply blk_drew|apply qb3));exact BK177.out)) : gb177 ≠ gb178));have n6_:=qg3 ((by rw [hg];exact Nat.ne_of_gt (blk_lt (g:=gb177) (o:=.cells #[.int .i64 a0_0,.int .i64 a0_1,.int .i64 a0_2,.int .i64 a0_3] 75 (0,0)) (by (with_reducible repeat (first|apply qa3|apply blk_drew|apply qb3));exact BK177.out)) : gb178 ≠ gb177));clear BK177;clear HB;have BK177:=n0_;have HB:=n1_;have BK178:=n2_;have GW178:=n3_;have GE178:=n4_;have NB177_178:=n5_;have NB178_177:=n6_;clear n0_ n1_ n2_ n3_ n4_ n5_ n6_;clear hb hbox hg;have hnb14:=NB177_178.out;have hnc14:=NB178_177.out;have hcz15_0 : w13.cell? ⟨gb177,0,none⟩ = some (.int .i64 a0_0):=(blk_cell BK177.out 0).trans rfl;have hcz15_1 : w13.cell? ⟨gb177,1,none⟩ = some (.int .i64 a0_1):=(blk_cell BK177.out 1).trans rfl;have hcz15_2 : w13.cell? ⟨gb177,2,none⟩ = some (.int .i64 a0_2):=(blk_cell BK177.out 2).trans rfl;have hcz15_3 : w13.cell? ⟨gb177,3,none⟩ = some (.int .i64 a0_3):=(blk_cell BK177.out 3).trans rfl;have hfz15_0:=sJ BK177.out 0;have hfz15_1:=sJ BK177.out 1;have hfz15_2:=sJ BK177.out 2;have hfz15_3:=sJ BK177.out 3;have hcz16_0 : w13.cell? ⟨gb178,0,none⟩ = some (.int .i64 a1_0):=(blk_cell BK178.out 0).trans rfl;have hcz16_1 : w13.cell? ⟨gb178,1,none⟩ = some (.int .i64 a1_1):=(blk_cell BK178.out 1).trans rfl;have hcz16_2 : w13.cell? ⟨gb178,2,none⟩ = some (.int .i64 a1_2):=(blk_cell BK178.out 2).trans rfl;have hcz16_3 : w13.cell? ⟨gb178,3,none⟩ = some (.int .i64 a1_3):=(blk_cell BK178.out 3).trans rfl;have hfz16_0:=sJ BK178.out 0;have hfz16_1:=sJ BK178.out 1;have hfz16_2:=sJ BK178.out 2;have hfz16_3:=sJ BK178.out 3))
     go_ret
     exact ⟨by first|rfl|(simp [errW_none,errW_some] <;> rfl)|(simp [*,errW_none,errW_some] <;> rfl),by repeat (first|(with_reducible first|exact HB.out|apply qc3|apply qd3|apply qe3|refine qf3 ?_ GE177.out|refine qf3 ?_ GE178.out)|exact HB.out)⟩
   ·
    rw [if_neg c5] at H
    have c5b0 : (a0_2 == a1_2) = false:=beq_eq_false_iff_ne.mpr c5
    have c5b1 : (a0_2 != a1_2) = true:=bne_iff_ne.mpr c5
    obtain rfl:=sO H
    go_enter Try.func68,Try.ntmps68
    go_wp2_with (first|((with_reducible refine gate_dst (N:=2) rfl ?_);refine box_event ?hg (N:=2) ?hd (cs:=#[.int .i64 a0_0,.int .i64 a0_1,.int .i64 a0_2,.int .i64 a0_3]) (t:=75) ?hr ?_;(case hd => rfl);(case hg => rfl);(case hr => first|(go_simp;done)|(go_simp;rfl));intro gb177 hg w17 hbox hb;have n0_:=qg3 (sN (by repeat (first|(with_reducible first|exact HB.out|apply qc3|apply qd3|apply qe3)|exact HB.out)) hb);have n1_:=qg3 (hbox);have n2_:=qg3 ((by rw [hg];exact (qh3 (by repeat (first|(with_reducible first|exact HB.out|apply qc3|apply qd3|apply qe3)|exact HB.out))) : w.heap.size ≤ gb177));have n3_:=qg3 ((by rw [hg];exact (qh3 (by repeat (first|(with_reducible first|exact HB.out|apply qc3|apply qd3|apply qe3)|exact HB.out))) : w.heap.size ≤ gb177));clear HB;have HB:=n0_;have BK177:=n1_;have GW177:=n2_;have GE177:=n3_;clear n0_ n1_ n2_ n3_;clear hb hbox hg)|((with_reducible refine gate_dst (N:=3) rfl ?_);refine box_event ?hg (N:=3) ?hd (cs:=#[.int .i64 a1_0,.int .i64 a1_1,.int .i64 a1_2,.int .i64 a1_3]) (t:=75) ?hr ?_;(case hd => rfl);(case hg => rfl);(case hr => first|(go_simp;done)|(go_simp;rfl));intro gb178 hg w18 hbox hb;have n0_:=qg3 (blk_below (g:=gb177) (o:=.cells #[.int .i64 a0_0,.int .i64 a0_1,.int .i64 a0_2,.int .i64 a0_3] 75 (0,0)) (by (with_reducible repeat (first|apply qa3|apply blk_drew|apply qb3));exact BK177.out) hb);have n1_:=qg3 (sN (by repeat (first|(with_reducible first|exact HB.out|apply qc3|apply qd3|apply qe3|refine qf3 ?_ GE177.out)|exact HB.out)) hb);have n2_:=qg3 (hbox);have n3_:=qg3 ((by rw [hg];exact (qh3 (by repeat (first|(with_reducible first|exact HB.out|apply qc3|apply qd3|apply qe3|refine qf3 ?_ GE177.out)|exact HB.out))) : w.heap.size ≤ gb178));have n4_:=qg3 ((by rw [hg];exact (qh3 (by repeat (first|(with_reducible first|exact HB.out|apply qc3|apply qd3|apply qe3|refine qf3 ?_ GE177.out)|exact HB.out))) : w.heap.size ≤ gb178));have n5_:=qg3 ((by rw [hg];exact Nat.ne_of_lt (blk_lt (g:=gb177) (o:=.cells #[.int .i64 a0_0,.int .i64 a0_1,.int .i64 a0_2,.int .i64 a0_3] 75 (0,0)) (by (with_reducible repeat (first|apply qa3|apply blk_drew|apply qb3));exact BK177.out)) : gb177 ≠ gb178));have n6_:=qg3 ((by rw [hg];exact Nat.ne_of_gt (blk_lt (g:=gb177) (o:=.cells #[.int .i64 a0_0,.int .i64 a0_1,.int .i64 a0_2,.int .i64 a0_3] 75 (0,0)) (by (with_reducible repeat (first|apply qa3|apply blk_drew|apply qb3));exact BK177.out)) : gb178 ≠ gb177));clear BK177;clear HB;have BK177:=n0_;have HB:=n1_;have BK178:=n2_;have GW178:=n3_;have GE178:=n4_;have NB177_178:=n5_;have NB178_177:=n6_;clear n0_ n1_ n2_ n3_ n4_ n5_ n6_;clear hb hbox hg;have hnb19:=NB177_178.out;have hnc19:=NB178_177.out;have hcz20_0 : w18.cell? ⟨gb177,0,none⟩ = some (.int .i64 a0_0):=(blk_cell BK177.out 0).trans rfl;have hcz20_1 : w18.cell? ⟨gb177,1,none⟩ = some (.int .i64 a0_1):=(blk_cell BK177.out 1).trans rfl;have hcz20_2 : w18.cell? ⟨gb177,2,none⟩ = some (.int .i64 a0_2):=(blk_cell BK177.out 2).trans rfl;have hcz20_3 : w18.cell? ⟨gb177,3,none⟩ = some (.int .i64 a0_3):=(blk_cell BK177.out 3).trans rfl;have hfz20_0:=sJ BK177.out 0;have hfz20_1:=sJ BK177.out 1;have hfz20_2:=sJ BK177.out 2;have hfz20_3:=sJ BK177.out 3;have hcz21_0 : w18.cell? ⟨gb178,0,none⟩ = some (.int .i64 a1_0):=(blk_cell BK178.out 0).trans rfl;have hcz21_1 : w18.cell? ⟨gb178,1,none⟩ = some (.int .i64 a1_1):=(blk_cell BK178.out 1).trans rfl;have hcz21_2 : w18.cell? ⟨gb178,2,none⟩ = some (.int .i64 a1_2):=(blk_cell BK178.out 2).trans rfl;have hcz21_3 : w18.cell? ⟨gb178,3,none⟩ = some (.int .i64 a1_3):=(blk_cell BK178.out 3).trans rfl;have hfz21_0:=sJ BK178.out 0;have hfz21_1:=sJ BK178.out 1;have hfz21_2:=sJ BK178.out 2;have hfz21_3:=sJ BK178.out 3))
    go_ret
    exact ⟨by first|rfl|(simp [errW_none,errW_some] <;> rfl)|(simp [*,errW_none,errW_some] <;> rfl),by repeat (first|(with_reducible first|exact HB.out|apply qc3|apply qd3|apply qe3|refine qf3 ?_ GE177.out|refine qf3 ?_ GE178.out)|exact HB.out)⟩
  ·
   rw [if_neg c4] at H
   have c4b0 : (a0_1 == a1_1) = false:=beq_eq_false_iff_ne.mpr c4
   have c4b1 : (a0_1 != a1_1) = true:=bne_iff_ne.mpr c4
   obtain rfl:=sO H
   go_enter Try.func68,Try.ntmps68
   go_wp2_with (first|((with_reducible refine gate_dst (N:=2) rfl ?_);refine box_event ?hg (N:=2) ?hd (cs:=#[.int .i64 a0_0,.int .i64 a0_1,.int .i64 a0_2,.int .i64 a0_3]) (t:=75) ?hr ?_;(case hd => rfl);(case hg => rfl);(case hr => first|(go_simp;done)|(go_simp;rfl));intro gb177 hg w22 hbox hb;have n0_:=qg3 (sN (by repeat (first|(with_reducible first|exact HB.out|apply qc3|apply qd3|apply qe3)|exact HB.out)) hb);have n1_:=qg3 (hbox);have n2_:=qg3 ((by rw [hg];exact (qh3 (by repeat (first|(with_reducible first|exact HB.out|apply qc3|apply qd3|apply qe3)|exact HB.out))) : w.heap.size ≤ gb177));have n3_:=qg3 ((by rw [hg];exact (qh3 (by repeat (first|(with_reducible first|exact HB.out|apply qc3|apply qd3|apply qe3)|exact HB.out))) : w.heap.size ≤ gb177));clear HB;have HB:=n0_;have BK177:=n1_;have GW177:=n2_;have GE177:=n3_;clear n0_ n1_ n2_ n3_;clear hb hbox hg)|((with_reducible refine gate_dst (N:=3) rfl ?_);refine box_event ?hg (N:=3) ?hd (cs:=#[.int .i64 a1_0,.int .i64 a1_1,.int .i64 a1_2,.int .i64 a1_3]) (t:=75) ?hr ?_;(case hd => rfl);(case hg => rfl);(case hr => first|(go_simp;done)|(go_simp;rfl));intro gb178 hg w23 hbox hb;have n0_:=qg3 (blk_below (g:=gb177) (o:=.cells #[.int .i64 a0_0,.int .i64 a0_1,.int .i64 a0_2,.int .i64 a0_3] 75 (0,0)) (by (with_reducible repeat (first|apply qa3|apply blk_drew|apply qb3));exact BK177.out) hb);have n1_:=qg3 (sN (by repeat (first|(with_reducible first|exact HB.out|apply qc3|apply qd3|apply qe3|refine qf3 ?_ GE177.out)|exact HB.out)) hb);have n2_:=qg3 (hbox);have n3_:=qg3 ((by rw [hg];exact (qh3 (by repeat (first|(with_reducible first|exact HB.out|apply qc3|apply qd3|apply qe3|refine qf3 ?_ GE177.out)|exact HB.out))) : w.heap.size ≤ gb178));have n4_:=qg3 ((by rw [hg];exact (qh3 (by repeat (first|(with_reducible first|exact HB.out|apply qc3|apply qd3|apply qe3|refine qf3 ?_ GE177.out)|exact HB.out))) : w.heap.size ≤ gb178));have n5_:=qg3 ((by rw [hg];exact Nat.ne_of_lt (blk_lt (g:=gb177) (o:=.cells #[.int .i64 a0_0,.int .i64 a0_1,.int .i64 a0_2,.int .i64 a0_3] 75 (0,0)) (by (with_reducible repeat (first|apply qa3|apply blk_drew|apply qb3));exact BK177.out)) : gb177 ≠ gb178));have n6_:=qg3 ((by rw [hg];exact Nat.ne_of_gt (blk_lt (g:=gb177) (o:=.cells #[.int .i64 a0_0,.int .i64 a0_1,.int .i64 a0_2,.int .i64 a0_3] 75 (0,0)) (by (with_reducible repeat (first|apply qa3|apply blk_drew|apply qb3));exact BK177.out)) : gb178 ≠ gb177));clear BK177;clear HB;have BK177:=n0_;have HB:=n1_;have BK178:=n2_;have GW178:=n3_;have GE178:=n4_;have NB177_178:=n5_;have NB178_177:=n6_;clear n0_ n1_ n2_ n3_ n4_ n5_ n6_;clear hb hbox hg;have hnb24:=NB177_178.out;have hnc24:=NB178_177.out;have hcz25_0 : w23.cell? ⟨gb177,0,none⟩ = some (.int .i64 a0_0):=(blk_cell BK177.out 0).trans rfl;have hcz25_1 : w23.cell? ⟨gb177,1,none⟩ = some (.int .i64 a0_1):=(blk_cell BK177.out 1).trans rfl;have hcz25_2 : w23.cell? ⟨gb177,2,none⟩ = some (.int .i64 a0_2):=(blk_cell BK177.out 2).trans rfl;have hcz25_3 : w23.cell? ⟨gb177,3,none⟩ = some (.int .i64 a0_3):=(blk_cell BK177.out 3).trans rfl;have hfz25_0:=sJ BK177.out 0;have hfz25_1:=sJ BK177.out 1;have hfz25_2:=sJ BK177.out 2;have hfz25_3:=sJ BK177.out 3;have hcz26_0 : w23.cell? ⟨gb178,0,none⟩ = some (.int .i64 a1_0):=(blk_cell BK178.out 0).trans rfl;have hcz26_1 : w23.cell? ⟨gb178,1,none⟩ = some (.int .i64 a1_1):=(blk_cell BK178.out 1).trans rfl;have hcz26_2 : w23.cell? ⟨gb178,2,none⟩ = some (.int .i64 a1_2):=(blk_cell BK178.out 2).trans rfl;have hcz26_3 : w23.cell? ⟨gb178,3,none⟩ = some (.int .i64 a1_3):=(blk_cell BK178.out 3).trans rfl;have hfz26_0:=sJ BK178.out 0;have hfz26_1:=sJ BK178.out 1;have hfz26_2:=sJ BK178.out 2;have hfz26_3:=sJ BK178.out 3))
   go_ret
   exact ⟨by first|rfl|(simp [errW_none,errW_some] <;> rfl)|(simp [*,errW_none,errW_some] <;> rfl),by repeat (first|(with_reducible first|exact HB.out|apply qc3|apply qd3|apply qe3|refine qf3 ?_ GE177.out|refine qf3 ?_ GE178.out)|exact HB.out)⟩
 ·
  rw [if_neg c3] at H
  have c3b0 : (a0_0 == a1_0) = false:=beq_eq_false_iff_ne.mpr c3
  have c3b1 : (a0_0 != a1_0) = true:=bne_iff_ne.mpr c3
  obtain rfl:=sO H
  go_enter Try.func68,Try.ntmps68
  go_wp2_with (first|((with_reducible refine gate_dst (N:=2) rfl ?_);refine box_event ?hg (N:=2) ?hd (cs:=#[.int .i64 a0_0,.int .i64 a0_1,.int .i64 a0_2,.int .i64 a0_3]) (t:=75) ?hr ?_;(case hd => rfl);(case hg => rfl);(case hr => first|(go_simp;done)|(go_simp;rfl));intro gb177 hg w27 hbox hb;have n0_:=qg3 (sN (by repeat (first|(with_reducible first|exact HB.out|apply qc3|apply qd3|apply qe3)|exact HB.out)) hb);have n1_:=qg3 (hbox);have n2_:=qg3 ((by rw [hg];exact (qh3 (by repeat (first|(with_reducible first|exact HB.out|apply qc3|apply qd3|apply qe3)|exact HB.out))) : w.heap.size ≤ gb177));have n3_:=qg3 ((by rw [hg];exact (qh3 (by repeat (first|(with_reducible first|exact HB.out|apply qc3|apply qd3|apply qe3)|exact HB.out))) : w.heap.size ≤ gb177));clear HB;have HB:=n0_;have BK177:=n1_;have GW177:=n2_;have GE177:=n3_;clear n0_ n1_ n2_ n3_;clear hb hbox hg)|((with_reducible refine gate_dst (N:=3) rfl ?_);refine box_event ?hg (N:=3) ?hd (cs:=#[.int .i64 a1_0,.int .i64 a1_1,.int .i64 a1_2,.int .i64 a1_3]) (t:=75) ?hr ?_;(case hd => rfl);(case hg => rfl);(case hr => first|(go_simp;done)|(go_simp;rfl));intro gb178 hg w28 hbox hb;have n0_:=qg3 (blk_below (g:=gb177) (o:=.cells #[.int .i64 a0_0,.int .i64 a0_1,.int .i64 a0_2,.int .i64 a0_3] 75 (0,0)) (by (with_reducible repeat (first|apply qa3|apply blk_drew|apply qb3));exact BK177.out) hb);have n1_:=qg3 (sN (by repeat (first|(with_reducible first|exact HB.out|apply qc3|apply qd3|apply qe3|refine qf3 ?_ GE177.out)|exact HB.out)) hb);have n2_:=qg3 (hbox);have n3_:=qg3 ((by rw [hg];exact (qh3 (by repeat (first|(with_reducible first|exact HB.out|apply qc3|apply qd3|apply qe3|refine qf3 ?_ GE177.out)|exact HB.out))) : w.heap.size ≤ gb178));have n4_:=qg3 ((by rw [hg];exact (qh3 (by repeat (first|(with_reducible first|exact HB.out|apply qc3|apply qd3|apply qe3|refine qf3 ?_ GE177.out)|exact HB.out))) : w.heap.size ≤ gb178));have n5_:=qg3 ((by rw [hg];exact Nat.ne_of_lt (blk_lt (g:=gb177) (o:=.cells #[.int .i64 a0_0,.int .i64 a0_1,.int .i64 a0_2,.int .i64 a0_3] 75 (0,0)) (by (with_reducible repeat (first|apply qa3|apply blk_drew|apply qb3));exact BK177.out)) : gb177 ≠ gb178));have n6_:=qg3 ((by rw [hg];exact Nat.ne_of_gt (blk_lt (g:=gb177) (o:=.cells #[.int .i64 a0_0,.int .i64 a0_1,.int .i64 a0_2,.int .i64 a0_3] 75 (0,0)) (by (with_reducible repeat (first|apply qa3|apply blk_drew|apply qb3));exact BK177.out)) : gb178 ≠ gb177));clear BK177;clear HB;have BK177:=n0_;have HB:=n1_;have BK178:=n2_;have GW178:=n3_;have GE178:=n4_;have NB177_178:=n5_;have NB178_177:=n6_;clear n0_ n1_ n2_ n3_ n4_ n5_ n6_;clear hb hbox hg;have hnb29:=NB177_178.out;have hnc29:=NB178_177.out;have hcz30_0 : w28.cell? ⟨gb177,0,none⟩ = some (.int .i64 a0_0):=(blk_cell BK177.out 0).trans rfl;have hcz30_1 : w28.cell? ⟨gb177,1,none⟩ = some (.int .i64 a0_1):=(blk_cell BK177.out 1).trans rfl;have hcz30_2 : w28.cell? ⟨gb177,2,none⟩ = some (.int .i64 a0_2):=(blk_cell BK177.out 2).trans rfl;have hcz30_3 : w28.cell? ⟨gb177,3,none⟩ = some (.int .i64 a0_3):=(blk_cell BK177.out 3).trans rfl;have hfz30_0:=sJ BK177.out 0;have hfz30_1:=sJ BK177.out 1;have hfz30_2:=sJ BK177.out 2;have hfz30_3:=sJ BK177.out 3;have hcz31_0 : w28.cell? ⟨gb178,0,none⟩ = some (.int .i64 a1_0):=(blk_cell BK178.out 0).trans rfl;have hcz31_1 : w28.cell? ⟨gb178,1,none⟩ = some (.int .i64 a1_1):=(blk_cell BK178.out 1).trans rfl;have hcz31_2 : w28.cell? ⟨gb178,2,none⟩ = some (.int .i64 a1_2):=(blk_cell BK178.out 2).trans rfl;have hcz31_3 : w28.cell? ⟨gb178,3,none⟩ = some (.int .i64 a1_3):=(blk_cell BK178.out 3).trans rfl;have hfz31_0:=sJ BK178.out 0;have hfz31_1:=sJ BK178.out 1;have hfz31_2:=sJ BK178.out 2;have hfz31_3:=sJ BK178.out 3))
  go_ret
  exact ⟨by first|rfl|(simp [errW_none,errW_some] <;> rfl)|(simp [*,errW_none,errW_some] <;> rfl),by repeat (first|(with_reducible first|exact HB.out|apply qc3|apply qd3|apply qe3|refine qf3 ?_ GE177.out|refine qf3 ?_ GE178.out)|exact HB.out)⟩

/-! ### laws_eqSeen: function 78 -/
def laws_eqSeen.f (a0_0 : Int) (a0_1 : Int) (a0_2 : Int) (a0_3 : Int) (a0_4 : Int) (a0_5 : Int) (a1_0 : Int) (a1_1 : Int) (a1_2 : Int) (a1_3 : Int) (a1_4 : Int) (a1_5 : Int) : Option (Bool):=if a0_0 = a1_0 then (if a0_1 = a1_1 then ((laws_eqAnswer.f a0_2 a0_3 a0_4 a0_5 a1_2 a1_3 a1_4 a1_5).bind fun t181 => (if t181 = true then (some true) else (some false))) else (some false)) else (some false)
set_option maxHeartbeats 8000000 in
set_option maxRecDepth 100000 in
theorem laws_eqSeen.calls (a0_0 : Int) (a0_1 : Int) (a0_2 : Int) (a0_3 : Int) (a0_4 : Int) (a0_5 : Int) (a1_0 : Int) (a1_1 : Int) (a1_2 : Int) (a1_3 : Int) (a1_4 : Int) (a1_5 : Int) (r : Bool) (w : World) (h : laws_eqSeen.f a0_0 a0_1 a0_2 a0_3 a0_4 a0_5 a1_0 a1_1 a1_2 a1_3 a1_4 a1_5 = some r) :
  Calls Try.prog 78 #[.agg #[.int .i64 a0_0,.int .i64 a0_1,.int .i64 a0_2,.int .i64 a0_3,.int .i64 a0_4,.int .i64 a0_5],.agg #[.int .i64 a1_0,.int .i64 a1_1,.int .i64 a1_2,.int .i64 a1_3,.int .i64 a1_4,.int .i64 a1_5]] w fun e w' => e = .returned (.bool r) ∧ Below w.heap.size w w':=by
 have hu77:=Try.underlying77
 have hu75:=Try.underlying75
 have HB:=qg3 (Below.refl w.heap.size w)
 have H : (if a0_0 = a1_0 then (if a0_1 = a1_1 then ((laws_eqAnswer.f a0_2 a0_3 a0_4 a0_5 a1_2 a1_3 a1_4 a1_5).bind fun t181 => (if t181 = true then (some true) else (some false))) else (some false)) else (some false)) = some r:=h
 clear h
 by_cases c3 : a0_0 = a1_0
 ·
  rw [if_pos c3] at H
  have c3b0 : (a0_0 == a1_0) = true:=beq_iff_eq.mpr c3
  have c3b1 : (a0_0 != a1_0) = false:=bne_eq_false_iff_eq.mpr c3
  clear c3
  by_cases c4 : a0_1 = a1_1
  ·
   rw [if_pos c4] at H
   have c4b0 : (a0_1 == a1_1) = true:=beq_iff_eq.mpr c4
   have c4b1 : (a0_1 != a1_1) = false:=bne_eq_false_iff_eq.mpr c4
   clear c4
   replace H:=Option.bind_eq_some_iff.mp H
   obtain ⟨t181,A50,H⟩:=H
   replace H : (if t181 = true then (some true) else (some false)) = some r:=H
   have A5:=qg3 A50
   clear A50
   by_cases c6 : t181 = true
   ·
    subst c6
    have H1 : (some true) = some r:=by rw [if_pos rfl] at H;exact H
    clear H
    have H:=H1
    clear H1
    obtain rfl:=sO H
    go_enter Try.func78,Try.ntmps78
    go_wp2_with (first|((with_reducible refine gate_dst (N:=2) rfl ?_);refine box_event ?hg (N:=2) ?hd (cs:=#[.int .i64 a0_0,.int .i64 a0_1,.int .i64 a0_2,.int .i64 a0_3,.int .i64 a0_4,.int .i64 a0_5]) (t:=77) ?hr ?_;(case hd => rfl);(case hg => rfl);(case hr => first|(go_simp;done)|(go_simp;rfl));intro gb179 hg w7 hbox hb;have n0_:=qg3 (sN (by repeat (first|(with_reducible first|exact HB.out|apply qc3|apply qd3|apply qe3)|exact HB.out)) hb);have n1_:=qg3 (hbox);have n2_:=qg3 ((by rw [hg];exact (qh3 (by repeat (first|(with_reducible first|exact HB.out|apply qc3|apply qd3|apply qe3)|exact HB.out))) : w.heap.size ≤ gb179));have n3_:=qg3 ((by rw [hg];exact (qh3 (by repeat (first|(with_reducible first|exact HB.out|apply qc3|apply qd3|apply qe3)|exact HB.out))) : w.heap.size ≤ gb179));clear HB;have HB:=n0_;have BK179:=n1_;have GW179:=n2_;have GE179:=n3_;clear n0_ n1_ n2_ n3_;clear hb hbox hg)|((with_reducible refine gate_dst (N:=3) rfl ?_);refine box_event ?hg (N:=3) ?hd (cs:=#[.int .i64 a1_0,.int .i64 a1_1,.int .i64 a1_2,.int .i64 a1_3,.int .i64 a1_4,.int .i64 a1_5]) (t:=77) ?hr ?_;(case hd => rfl);(case hg => rfl);(case hr => first|(go_simp;done)|(go_simp;rfl));intro gb180 hg w8 hbox hb;have n0_:=qg3 (blk_below (g:=gb179) (o:=.cells #[.int .i64 a0_0,.int .i64 a0_1,.int .i64 a0_2,.int .i64 a0_3,.int .i64 a0_4,.int .i64 a0_5] 77 (0,0)) (by (with_reducible repeat (first|apply qa3|apply blk_drew|apply qb3));exact BK179.out) hb);have n1_:=qg3 (sN (by repeat (first|(with_reducible first|exact HB.out|apply qc3|apply qd3|apply qe3|refine qf3 ?_ GE179.out)|exact HB.out)) hb);have n2_:=qg3 (hbox);have n3_:=qg3 ((by rw [hg];exact (qh3 (by repeat (first|(with_reducible first|exact HB.out|apply qc3|apply qd3|apply qe3|refine qf3 ?_ GE179.out)|exact HB.out))) : w.heap.size ≤ gb180));have n4_:=qg3 ((by rw [hg];exact (qh3 (by repeat (first|(with_reducible first|exact HB.out|apply qc3|apply qd3|apply qe3|refine qf3 ?_ GE179.out)|exact HB.out))) : w.heap.size ≤ gb180));have n5_:=qg3 ((by rw [hg];exact Nat.ne_of_lt (blk_lt (g:=gb179) (o:=.cells #[.int .i64 a0_0,.int .i64 a0_1,.int .i64 a0_2,.int .i64 a0_3,.int .i64 a0_4,.int .i64 a0_5] 77 (0,0)) (by (with_reducible repeat (first|apply qa3|apply blk_drew|apply qb3));exact BK179.out)) : gb179 ≠ gb180));have n6_:=qg3 ((by rw [hg];exact Nat.ne_of_gt (blk_lt (g:=gb179) (o:=.cells #[.int .i64 a0_0,.int .i64 a0_1,.int .i64 a0_2,.int .i64 a0_3,.int .i64 a0_4,.int .i64 a0_5] 77 (0,0)) (by (with_reducible repeat (first|apply qa3|apply blk_drew|apply qb3));exact BK179.out)) : gb180 ≠ gb179));clear BK179;clear HB;have BK179:=n0_;have HB:=n1_;have BK180:=n2_;have GW180:=n3_;have GE180:=n4_;have NB179_180:=n5_;have NB180_179:=n6_;clear n0_ n1_ n2_ n3_ n4_ n5_ n6_;clear hb hbox hg;have hnb9:=NB179_180.out;have hnc9:=NB180_179.out;have hcz10_0 : w8.cell? ⟨gb179,0,none⟩ = some (.int .i64 a0_0):=(blk_cell BK179.out 0).trans rfl;have hcz10_1 : w8.cell? ⟨gb179,1,none⟩ = some (.int .i64 a0_1):=(blk_cell BK179.out 1).trans rfl;have hcz10_2 : w8.cell? ⟨gb179,2,none⟩ = some (.int .i64 a0_2):=(blk_cell BK179.out 2).trans rfl;have hcz10_3 : w8.cell? ⟨gb179,3,none⟩ = some (.int .i64 a0_3):=(blk_cell BK179.out 3).trans rfl;have hcz10_4 : w8.cell? ⟨gb179,4,none⟩ = some (.int .i64 a0_4):=(blk_cell BK179.out 4).trans rfl;have hcz10_5 : w8.cell? ⟨gb179,5,none⟩ = some (.int .i64 a0_5):=(blk_cell BK179.out 5).trans rfl;have hfz10_0:=sJ BK179.out 0;have hfz10_1:=sJ BK179.out 1;have hfz10_2:=sJ BK179.out 2;have hfz10_3:=sJ BK179.out 3;have hfz10_4:=sJ BK179.out 4;have hfz10_5:=sJ BK179.out 5;have hcz11_0 : w8.cell? ⟨gb180,0,none⟩ = some (.int .i64 a1_0):=(blk_cell BK180.out 0).trans rfl;have hcz11_1 : w8.cell? ⟨gb180,1,none⟩ = some (.int .i64 a1_1):=(blk_cell BK180.out 1).trans rfl;have hcz11_2 : w8.cell? ⟨gb180,2,none⟩ = some (.int .i64 a1_2):=(blk_cell BK180.out 2).trans rfl;have hcz11_3 : w8.cell? ⟨gb180,3,none⟩ = some (.int .i64 a1_3):=(blk_cell BK180.out 3).trans rfl;have hcz11_4 : w8.cell? ⟨gb180,4,none⟩ = some (.int .i64 a1_4):=(blk_cell BK180.out 4).trans rfl;have hcz11_5 : w8.cell? ⟨gb180,5,none⟩ = some (.int .i64 a1_5):=(blk_cell BK180.out 5).trans rfl;have hfz11_0:=sJ BK180.out 0;have hfz11_1:=sJ BK180.out 1;have hfz11_2:=sJ BK180.out 2;have hfz11_3:=sJ BK180.out 3;have hfz11_4:=sJ BK180.out 4;have hfz11_5:=sJ BK180.out 5)|((with_reducible refine gate_callee (f:=68) rfl ?_);refine goesL_ (some 19) rfl rfl Try.func68 (by kernel_rfl) rfl #[.agg #[.int .i64 a0_2,.int .i64 a0_3,.int .i64 a0_4,.int .i64 a0_5],.agg #[.int .i64 a1_2,.int .i64 a1_3,.int .i64 a1_4,.int .i64 a1_5]] rfl (by (try simp only [sE,sH,sI]);first|done|rfl|(simp only [sG,sF];rfl)) ?_;(with_reducible refine (laws_eqAnswer.calls a0_2 a0_3 a0_4 a0_5 a1_2 a1_3 a1_4 a1_5 true _ A5.out).mono ?_);rintro e w12 ⟨rfl,hb⟩;refine ⟨_,rfl,?_⟩;have n0_:=qg3 (blk_below (g:=gb179) (o:=.cells #[.int .i64 a0_0,.int .i64 a0_1,.int .i64 a0_2,.int .i64 a0_3,.int .i64 a0_4,.int .i64 a0_5] 77 (0,0)) (by (with_reducible repeat (first|apply qa3|apply blk_drew|apply qb3));exact BK179.out) hb);have n1_:=qg3 (blk_below (g:=gb180) (o:=.cells #[.int .i64 a1_0,.int .i64 a1_1,.int .i64 a1_2,.int .i64 a1_3,.int .i64 a1_4,.int .i64 a1_5] 77 (0,0)) (by (with_reducible repeat (first|apply qa3|apply blk_drew|apply qb3));exact BK180.out) hb);have n2_:=qg3 (sN (by repeat (first|(with_reducible first|exact HB.out|apply qc3|apply qd3|apply qe3|refine qf3 ?_ GE179.out|refine qf3 ?_ GE180.out)|exact HB.out)) hb);clear BK179;clear BK180;clear HB;have BK179:=n0_;have BK180:=n1_;have HB:=n2_;clear n0_ n1_ n2_;(try clear hb);(try clear hb2);(try clear hk);(try clear hi)))
    go_ret
    exact ⟨by first|rfl|(simp [errW_none,errW_some] <;> rfl)|(simp [*,errW_none,errW_some] <;> rfl),by repeat (first|(with_reducible first|exact HB.out|apply qc3|apply qd3|apply qe3|refine qf3 ?_ GE179.out|refine qf3 ?_ GE180.out)|exact HB.out)⟩
   ·
    replace c6:=Bool.eq_false_iff.mpr c6
    subst c6
    have H1 : (some false) = some r:=by rw [if_neg (show ¬ (false = true) by decide)] at H;exact H
    clear H
    have H:=H1
    clear H1
    obtain rfl:=sO H
    go_enter Try.func78,Try.ntmps78
    go_wp2_with (first|((with_reducible refine gate_dst (N:=2) rfl ?_);refine box_event ?hg (N:=2) ?hd (cs:=#[.int .i64 a0_0,.int .i64 a0_1,.int .i64 a0_2,.int .i64 a0_3,.int .i64 a0_4,.int .i64 a0_5]) (t:=77) ?hr ?_;(case hd => rfl);(case hg => rfl);(case hr => first|(go_simp;done)|(go_simp;rfl));intro gb179 hg w13 hbox hb;have n0_:=qg3 (sN (by repeat (first|(with_reducible first|exact HB.out|apply qc3|apply qd3|apply qe3)|exact HB.out)) hb);have n1_:=qg3 (hbox);have n2_:=qg3 ((by rw [hg];exact (qh3 (by repeat (first|(with_reducible first|exact HB.out|apply qc3|apply qd3|apply qe3)|exact HB.out))) : w.heap.size ≤ gb179));have n3_:=qg3 ((by rw [hg];exact (qh3 (by repeat (first|(with_reducible first|exact HB.out|apply qc3|apply qd3|apply qe3)|exact HB.out))) : w.heap.size ≤ gb179));clear HB;have HB:=n0_;have BK179:=n1_;have GW179:=n2_;have GE179:=n3_;clear n0_ n1_ n2_ n3_;clear hb hbox hg)|((with_reducible refine gate_dst (N:=3) rfl ?_);refine box_event ?hg (N:=3) ?hd (cs:=#[.int .i64 a1_0,.int .i64 a1_1,.int .i64 a1_2,.int .i64 a1_3,.int .i64 a1_4,.int .i64 a1_5]) (t:=77) ?hr ?_;(case hd => rfl);(case hg => rfl);(case hr => first|(go_simp;done)|(go_simp;rfl));intro gb180 hg w14 hbox hb;have n0_:=qg3 (blk_below (g:=gb179) (o:=.cells #[.int .i64 a0_0,.int .i64 a0_1,.int .i64 a0_2,.int .i64 a0_3,.int .i64 a0_4,.int .i64 a0_5] 77 (0,0)) (by (with_reducible repeat (first|apply qa3|apply blk_drew|apply qb3));exact BK179.out) hb);have n1_:=qg3 (sN (by repeat (first|(with_reducible first|exact HB.out|apply qc3|apply qd3|apply qe3|refine qf3 ?_ GE179.out)|exact HB.out)) hb);have n2_:=qg3 (hbox);have n3_:=qg3 ((by rw [hg];exact (qh3 (by repeat (first|(with_reducible first|exact HB.out|apply qc3|apply qd3|apply qe3|refine qf3 ?_ GE179.out)|exact HB.out))) : w.heap.size ≤ gb180));have n4_:=qg3 ((by rw [hg];exact (qh3 (by repeat (first|(with_reducible first|exact HB.out|apply qc3|apply qd3|apply qe3|refine qf3 ?_ GE179.out)|exact HB.out))) : w.heap.size ≤ gb180));have n5_:=qg3 ((by rw [hg];exact Nat.ne_of_lt (blk_lt (g:=gb179) (o:=.cells #[.int .i64 a0_0,.int .i64 a0_1,.int .i64 a0_2,.int .i64 a0_3,.int .i64 a0_4,.int .i64 a0_5] 77 (0,0)) (by (with_reducible repeat (first|apply qa3|apply blk_drew|apply qb3));exact BK179.out)) : gb179 ≠ gb180));have n6_:=qg3 ((by rw [hg];exact Nat.ne_of_gt (blk_lt (g:=gb179) (o:=.cells #[.int .i64 a0_0,.int .i64 a0_1,.int .i64 a0_2,.int .i64 a0_3,.int .i64 a0_4,.int .i64 a0_5] 77 (0,0)) (by (with_reducible repeat (first|apply qa3|apply blk_drew|apply qb3));exact BK179.out)) : gb180 ≠ gb179));clear BK179;clear HB;have BK179:=n0_;have HB:=n1_;have BK180:=n2_;have GW180:=n3_;have GE180:=n4_;have NB179_180:=n5_;have NB180_179:=n6_;clear n0_ n1_ n2_ n3_ n4_ n5_ n6_;clear hb hbox hg;have hnb15:=NB179_180.out;have hnc15:=NB180_179.out;have hcz16_0 : w14.cell? ⟨gb179,0,none⟩ = some (.int .i64 a0_0):=(blk_cell BK179.out 0).trans rfl;have hcz16_1 : w14.cell? ⟨gb179,1,none⟩ = some (.int .i64 a0_1):=(blk_cell BK179.out 1).trans rfl;have hcz16_2 : w14.cell? ⟨gb179,2,none⟩ = some (.int .i64 a0_2):=(blk_cell BK179.out 2).trans rfl;have hcz16_3 : w14.cell? ⟨gb179,3,none⟩ = some (.int .i64 a0_3):=(blk_cell BK179.out 3).trans rfl;have hcz16_4 : w14.cell? ⟨gb179,4,none⟩ = some (.int .i64 a0_4):=(blk_cell BK179.out 4).trans rfl;have hcz16_5 : w14.cell? ⟨gb179,5,none⟩ = some (.int .i64 a0_5):=(blk_cell BK179.out 5).trans rfl;have hfz16_0:=sJ BK179.out 0;have hfz16_1:=sJ BK179.out 1;have hfz16_2:=sJ BK179.out 2;have hfz16_3:=sJ BK179.out 3;have hfz16_4:=sJ BK179.out 4;have hfz16_5:=sJ BK179.out 5;have hcz17_0 : w14.cell? ⟨gb180,0,none⟩ = some (.int .i64 a1_0):=(blk_cell BK180.out 0).trans rfl;have hcz17_1 : w14.cell? ⟨gb180,1,none⟩ = some (.int .i64 a1_1):=(blk_cell BK180.out 1).trans rfl;have hcz17_2 : w14.cell? ⟨gb180,2,none⟩ = some (.int .i64 a1_2):=(blk_cell BK180.out 2).trans rfl;have hcz17_3 : w14.cell? ⟨gb180,3,none⟩ = some (.int .i64 a1_3):=(blk_cell BK180.out 3).trans rfl;have hcz17_4 : w14.cell? ⟨gb180,4,none⟩ = some (.int .i64 a1_4):=(blk_cell BK180.out 4).trans rfl;have hcz17_5 : w14.cell? ⟨gb180,5,none⟩ = some (.int .i64 a1_5):=(blk_cell BK180.out 5).trans rfl;have hfz17_0:=sJ BK180.out 0;have hfz17_1:=sJ BK180.out 1;have hfz17_2:=sJ BK180.out 2;have hfz17_3:=sJ BK180.out 3;have hfz17_4:=sJ BK180.out 4;have hfz17_5:=sJ BK180.out 5)|((with_reducible refine gate_callee (f:=68) rfl ?_);refine goesL_ (some 19) rfl rfl Try.func68 (by kernel_rfl) rfl #[.agg #[.int .i64 a0_2,.int .i64 a0_3,.int .i64 a0_4,.int .i64 a0_5],.agg #[.int .i64 a1_2,.int .i64 a1_3,.int .i64 a1_4,.int .i64 a1_5]] rfl (by (try simp only [sE,sH,sI]);first|done|rfl|(simp only [sG,sF];rfl)) ?_;(with_reducible refine (laws_eqAnswer.calls a0_2 a0_3 a0_4 a0_5 a1_2 a1_3 a1_4 a1_5 false _ A5.out).mono ?_);rintro e w18 ⟨rfl,hb⟩;refine ⟨_,rfl,?_⟩;have n0_:=qg3 (blk_below (g:=gb179) (o:=.cells #[.int .i64 a0_0,.int .i64 a0_1,.int .i64 a0_2,.int .i64 a0_3,.int .i64 a0_4,.int .i64 a0_5] 77 (0,0)) (by (with_reducible repeat (first|apply qa3|apply blk_drew|apply qb3));exact BK179.out) hb);have n1_:=qg3 (blk_below (g:=gb180) (o:=.cells #[.int .i64 a1_0,.int .i64 a1_1,.int .i64 a1_2,.int .i64 a1_3,.int .i64 a1_4,.int .i64 a1_5] 77 (0,0)) (by (with_reducible repeat (first|apply qa3|apply blk_drew|apply qb3));exact BK180.out) hb);have n2_:=qg3 (sN (by repeat (first|(with_reducible first|exact HB.out|apply qc3|apply qd3|apply qe3|refine qf3 ?_ GE179.out|refine qf3 ?_ GE180.out)|exact HB.out)) hb);clear BK179;clear BK180;clear HB;have BK179:=n0_;have BK180:=n1_;have HB:=n2_;clear n0_ n1_ n2_;(try clear hb);(try clear hb2);(try clear hk);(try clear hi)))
    go_ret
    exact ⟨by first|rfl|(simp [errW_none,errW_some] <;> rfl)|(simp [*,errW_none,errW_some] <;> rfl),by repeat (first|(with_reducible first|exact HB.out|apply qc3|apply qd3|apply qe3|refine qf3 ?_ GE179.out|refine qf3 ?_ GE180.out)|exact HB.out)⟩
  ·
   rw [if_neg c4] at H
   have c4b0 : (a0_1 == a1_1) = false:=beq_eq_false_iff_ne.mpr c4
   have c4b1 : (a0_1 != a1_1) = true:=bne_iff_ne.mpr c4
   obtain rfl:=sO H
   go_enter Try.func78,Try.ntmps78
   go_wp2_with (first|((with_reducible refine gate_dst (N:=2) rfl ?_);refine box_event ?hg (N:=2) ?hd (cs:=#[.int .i64 a0_0,.int .i64 a0_1,.int .i64 a0_2,.int .i64 a0_3,.int .i64 a0_4,.int .i64 a0_5]) (t:=77) ?hr ?_;(case hd => rfl);(case hg => rfl);(case hr => first|(go_simp;done)|(go_simp;rfl));intro gb179 hg w19 hbox hb;have n0_:=qg3 (sN (by repeat (first|(with_reducible first|exact HB.out|apply qc3|apply qd3|apply qe3)|exact HB.out)) hb);have n1_:=qg3 (hbox);have n2_:=qg3 ((by rw [hg];exact (qh3 (by repeat (first|(with_reducible first|exact HB.out|apply qc3|apply qd3|apply qe3)|exact HB.out))) : w.heap.size ≤ gb179));have n3_:=qg3 ((by rw [hg];exact (qh3 (by repeat (first|(with_reducible first|exact HB.out|apply qc3|apply qd3|apply qe3)|exact HB.out))) : w.heap.size ≤ gb179));clear HB;have HB:=n0_;have BK179:=n1_;have GW179:=n2_;have GE179:=n3_;clear n0_ n1_ n2_ n3_;clear hb hbox hg)|((with_reducible refine gate_dst (N:=3) rfl ?_);refine box_event ?hg (N:=3) ?hd (cs:=#[.int .i64 a1_0,.int .i64 a1_1,.int .i64 a1_2,.int .i64 a1_3,.int .i64 a1_4,.int .i64 a1_5]) (t:=77) ?hr ?_;(case hd => rfl);(case hg => rfl);(case hr => first|(go_simp;done)|(go_simp;rfl));intro gb180 hg w20 hbox hb;have n0_:=qg3 (blk_below (g:=gb179) (o:=.cells #[.int .i64 a0_0,.int .i64 a0_1,.int .i64 a0_2,.int .i64 a0_3,.int .i64 a0_4,.int .i64 a0_5] 77 (0,0)) (by (with_reducible repeat (first|apply qa3|apply blk_drew|apply qb3));exact BK179.out) hb);have n1_:=qg3 (sN (by repeat (first|(with_reducible first|exact HB.out|apply qc3|apply qd3|apply qe3|refine qf3 ?_ GE179.out)|exact HB.out)) hb);have n2_:=qg3 (hbox);have n3_:=qg3 ((by rw [hg];exact (qh3 (by repeat (first|(with_reducible first|exact HB.out|apply qc3|apply qd3|apply qe3|refine qf3 ?_ GE179.out)|exact HB.out))) : w.heap.size ≤ gb180));have n4_:=qg3 ((by rw [hg];exact (qh3 (by repeat (first|(with_reducible first|exact HB.out|apply qc3|apply qd3|apply qe3|refine qf3 ?_ GE179.out)|exact HB.out))) : w.heap.size ≤ gb180));have n5_:=qg3 ((by rw [hg];exact Nat.ne_of_lt (blk_lt (g:=gb179) (o:=.cells #[.int .i64 a0_0,.int .i64 a0_1,.int .i64 a0_2,.int .i64 a0_3,.int .i64 a0_4,.int .i64 a0_5] 77 (0,0)) (by (with_reducible repeat (first|apply qa3|apply blk_drew|apply qb3));exact BK179.out)) : gb179 ≠ gb180));have n6_:=qg3 ((by rw [hg];exact Nat.ne_of_gt (blk_lt (g:=gb179) (o:=.cells #[.int .i64 a0_0,.int .i64 a0_1,.int .i64 a0_2,.int .i64 a0_3,.int .i64 a0_4,.int .i64 a0_5] 77 (0,0)) (by (with_reducible repeat (first|apply qa3|apply blk_drew|apply qb3));exact BK179.out)) : gb180 ≠ gb179));clear BK179;clear HB;have BK179:=n0_;have HB:=n1_;have BK180:=n2_;have GW180:=n3_;have GE180:=n4_;have NB179_180:=n5_;have NB180_179:=n6_;clear n0_ n1_ n2_ n3_ n4_ n5_ n6_;clear hb hbox hg;have hnb21:=NB179_180.out;have hnc21:=NB180_179.out;have hcz22_0 : w20.cell? ⟨gb179,0,none⟩ = some (.int .i64 a0_0):=(blk_cell BK179.out 0).trans rfl;have hcz22_1 : w20.cell? ⟨gb179,1,none⟩ = some (.int .i64 a0_1):=(blk_cell BK179.out 1).trans rfl;have hcz22_2 : w20.cell? ⟨gb179,2,none⟩ = some (.int .i64 a0_2):=(blk_cell BK179.out 2).trans rfl;have hcz22_3 : w20.cell? ⟨gb179,3,none⟩ = some (.int .i64 a0_3):=(blk_cell BK179.out 3).trans rfl;have hcz22_4 : w20.cell? ⟨gb179,4,none⟩ = some (.int .i64 a0_4):=(blk_cell BK179.out 4).trans rfl;have hcz22_5 : w20.cell? ⟨gb179,5,none⟩ = some (.int .i64 a0_5):=(blk_cell BK179.out 5).trans rfl;have hfz22_0:=sJ BK179.out 0;have hfz22_1:=sJ BK179.out 1;have hfz22_2:=sJ BK179.out 2;have hfz22_3:=sJ BK179.out 3;have hfz22_4:=sJ BK179.out 4;have hfz22_5:=sJ BK179.out 5;have hcz23_0 : w20.cell? ⟨gb180,0,none⟩ = some (.int .i64 a1_0):=(blk_cell BK180.out 0).trans rfl;have hcz23_1 : w20.cell? ⟨gb180,1,none⟩ = some (.int .i64 a1_1):=(blk_cell BK180.out 1).trans rfl;have hcz23_2 : w20.cell? ⟨gb180,2,none⟩ = some (.int .i64 a1_2):=(blk_cell BK180.out 2).trans rfl;have hcz23_3 : w20.cell? ⟨gb180,3,none⟩ = some (.int .i64 a1_3):=(blk_cell BK180.out 3).trans rfl;have hcz23_4 : w20.cell? ⟨gb180,4,none⟩ = some (.int .i64 a1_4):=(blk_cell BK180.out 4).trans rfl;have hcz23_5 : w20.cell? ⟨gb180,5,none⟩ = some (.int .i64 a1_5):=(blk_cell BK180.out 5).trans rfl;have hfz23_0:=sJ BK180.out 0;have hfz23_1:=sJ BK180.out 1;have hfz23_2:=sJ BK180.out 2;have hfz23_3:=sJ BK180.out 3;have hfz23_4:=sJ BK180.out 4;have hfz23_5:=sJ BK180.out 5))
   go_ret
   exact ⟨by first|rfl|(simp [errW_none,errW_some] <;> rfl)|(simp [*,errW_none,errW_some] <;> rfl),by repeat (first|(with_reducible first|exact HB.out|apply qc3|apply qd3|apply qe3|refine qf3 ?_ GE179.out|refine qf3 ?_ GE180.out)|exact HB.out)⟩
 ·
  rw [if_neg c3] at H
  have c3b0 : (a0_0 == a1_0) = false:=beq_eq_false_iff_ne.mpr c3
  have c3b1 : (a0_0 != a1_0) = true:=bne_iff_ne.mpr c3
  obtain rfl:=sO H
  go_enter Try.func78,Try.ntmps78
  go_wp2_with (first|((with_reducible refine gate_dst (N:=2) rfl ?_);refine box_event ?hg (N:=2) ?hd (cs:=#[.int .i64 a0_0,.int .i64 a0_1,.int .i64 a0_2,.int .i64 a0_3,.int .i64 a0_4,.int .i64 a0_5]) (t:=77) ?hr ?_;(case hd => rfl);(case hg => rfl);(case hr => first|(go_simp;done)|(go_simp;rfl));intro gb179 hg w24 hbox hb;have n0_:=qg3 (sN (by repeat (first|(with_reducible first|exact HB.out|apply qc3|apply qd3|apply qe3)|exact HB.out)) hb);have n1_:=qg3 (hbox);have n2_:=qg3 ((by rw [hg];exact (qh3 (by repeat (first|(with_reducible first|exact HB.out|apply qc3|apply qd3|apply qe3)|exact HB.out))) : w.heap.size ≤ gb179));have n3_:=qg3 ((by rw [hg];exact (qh3 (by repeat (first|(with_reducible first|exact HB.out|apply qc3|apply qd3|apply qe3)|exact HB.out))) : w.heap.size ≤ gb179));clear HB;have HB:=n0_;have BK179:=n1_;have GW179:=n2_;have GE179:=n3_;clear n0_ n1_ n2_ n3_;clear hb hbox hg)|((with_reducible refine gate_dst (N:=3) rfl ?_);refine box_event ?hg (N:=3) ?hd (cs:=#[.int .i64 a1_0,.int .i64 a1_1,.int .i64 a1_2,.int .i64 a1_3,.int .i64 a1_4,.int .i64 a1_5]) (t:=77) ?hr ?_;(case hd => rfl);(case hg => rfl);(case hr => first|(go_simp;done)|(go_simp;rfl));intro gb180 hg w25 hbox hb;have n0_:=qg3 (blk_below (g:=gb179) (o:=.cells #[.int .i64 a0_0,.int .i64 a0_1,.int .i64 a0_2,.int .i64 a0_3,.int .i64 a0_4,.int .i64 a0_5] 77 (0,0)) (by (with_reducible repeat (first|apply qa3|apply blk_drew|apply qb3));exact BK179.out) hb);have n1_:=qg3 (sN (by repeat (first|(with_reducible first|exact HB.out|apply qc3|apply qd3|apply qe3|refine qf3 ?_ GE179.out)|exact HB.out)) hb);have n2_:=qg3 (hbox);have n3_:=qg3 ((by rw [hg];exact (qh3 (by repeat (first|(with_reducible first|exact HB.out|apply qc3|apply qd3|apply qe3|refine qf3 ?_ GE179.out)|exact HB.out))) : w.heap.size ≤ gb180));have n4_:=qg3 ((by rw [hg];exact (qh3 (by repeat (first|(with_reducible first|exact HB.out|apply qc3|apply qd3|apply qe3|refine qf3 ?_ GE179.out)|exact HB.out))) : w.heap.size ≤ gb180));have n5_:=qg3 ((by rw [hg];exact Nat.ne_of_lt (blk_lt (g:=gb179) (o:=.cells #[.int .i64 a0_0,.int .i64 a0_1,.int .i64 a0_2,.int .i64 a0_3,.int .i64 a0_4,.int .i64 a0_5] 77 (0,0)) (by (with_reducible repeat (first|apply qa3|apply blk_drew|apply qb3));exact BK179.out)) : gb179 ≠ gb180));have n6_:=qg3 ((by rw [hg];exact Nat.ne_of_gt (blk_lt (g:=gb179) (o:=.cells #[.int .i64 a0_0,.int .i64 a0_1,.int .i64 a0_2,.int .i64 a0_3,.int .i64 a0_4,.int .i64 a0_5] 77 (0,0)) (by (with_reducible repeat (first|apply qa3|apply blk_drew|apply qb3));exact BK179.out)) : gb180 ≠ gb179));clear BK179;clear HB;have BK179:=n0_;have HB:=n1_;have BK180:=n2_;have GW180:=n3_;have GE180:=n4_;have NB179_180:=n5_;have NB180_179:=n6_;clear n0_ n1_ n2_ n3_ n4_ n5_ n6_;clear hb hbox hg;have hnb26:=NB179_180.out;have hnc26:=NB180_179.out;have hcz27_0 : w25.cell? ⟨gb179,0,none⟩ = some (.int .i64 a0_0):=(blk_cell BK179.out 0).trans rfl;have hcz27_1 : w25.cell? ⟨gb179,1,none⟩ = some (.int .i64 a0_1):=(blk_cell BK179.out 1).trans rfl;have hcz27_2 : w25.cell? ⟨gb179,2,none⟩ = some (.int .i64 a0_2):=(blk_cell BK179.out 2).trans rfl;have hcz27_3 : w25.cell? ⟨gb179,3,none⟩ = some (.int .i64 a0_3):=(blk_cell BK179.out 3).trans rfl;have hcz27_4 : w25.cell? ⟨gb179,4,none⟩ = some (.int .i64 a0_4):=(blk_cell BK179.out 4).trans rfl;have hcz27_5 : w25.cell? ⟨gb179,5,none⟩ = some (.int .i64 a0_5):=(blk_cell BK179.out 5).trans rfl;have hfz27_0:=sJ BK179.out 0;have hfz27_1:=sJ BK179.out 1;have hfz27_2:=sJ BK179.out 2;have hfz27_3:=sJ BK179.out 3;have hfz27_4:=sJ BK179.out 4;have hfz27_5:=sJ BK179.out 5;have hcz28_0 : w25.cell? ⟨gb180,0,none⟩ = some (.int .i64 a1_0):=(blk_cell BK180.out 0).trans rfl;have hcz28_1 : w25.cell? ⟨gb180,1,none⟩ = some (.int .i64 a1_1):=(blk_cell BK180.out 1).trans rfl;have hcz28_2 : w25.cell? ⟨gb180,2,none⟩ = some (.int .i64 a1_2):=(blk_cell BK180.out 2).trans rfl;have hcz28_3 : w25.cell? ⟨gb180,3,none⟩ = some (.int .i64 a1_3):=(blk_cell BK180.out 3).trans rfl;have hcz28_4 : w25.cell? ⟨gb180,4,none⟩ = some (.int .i64 a1_4):=(blk_cell BK180.out 4).trans rfl;have hcz28_5 : w25.cell? ⟨gb180,5,none⟩ = some (.int .i64 a1_5):=(blk_cell BK180.out 5).trans rfl;have hfz28_0:=sJ BK180.out 0;have hfz28_1:=sJ BK180.out 1;have hfz28_2:=sJ BK180.out 2;have hfz28_3:=sJ BK180.out 3;have hfz28_4:=sJ BK180.out 4;have hfz28_5:=sJ BK180.out 5))
  go_ret
  exact ⟨by first|rfl|(simp [errW_none,errW_some] <;> rfl)|(simp [*,errW_none,errW_some] <;> rfl),by repeat (first|(with_reducible first|exact HB.out|apply qc3|apply qd3|apply qe3|refine qf3 ?_ GE179.out|refine qf3 ?_ GE180.out)|exact HB.out)⟩

end Go.Proofs.Ytjkanhjapddhnaa.PFnExactSameTable
