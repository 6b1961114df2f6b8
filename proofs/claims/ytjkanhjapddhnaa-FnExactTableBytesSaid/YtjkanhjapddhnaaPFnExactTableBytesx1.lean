-- laid by this session's program myprint.py over the kit's printer
-- squeezed
-- aliased
import Derived.Test.YtjkanhjapddhnaaPFnExactTableBytesx0
namespace Go.Proofs.Ytjkanhjapddhnaa.PFnExactTableBytes
open Go.RowKit Go.Proofs.YtjkanhjapddhnaaV.PrintWords Go.Proofs.YtjkanhjapddhnaaV.PrintLast Go.Proofs.YtjkanhjapddhnaaV.PrintMore
attribute [local go_sem] max2_int min2_int max_two min_two max_three min_three max_four min_four u8_wm u32_wm   -- for this text's walks alone
set_option linter.unusedVariables false
set_option linter.unusedSimpArgs false

/-! ### laws_szWaiterS: function 100 -/
theorem qa1 : type_of% @blk_drewN:=@blk_drewN
theorem qb1 : type_of% @blk_drew:=@blk_drew
theorem qc1 : type_of% @blk_alloc:=@blk_alloc
theorem qd1 : type_of% @below_alloc:=@below_alloc
theorem qe1 : type_of% @pw_below_drewN:=@pw_below_drewN
theorem qf1 : type_of% @below_drew1:=@below_drew1
theorem qg1 : type_of% @below_set:=@below_set
theorem qh1 : type_of% @Aside0.mk:=@Aside0.mk
theorem qi1 : type_of% @blk_below:=@blk_below
theorem qj1 : type_of% @below_step:=@below_step
theorem qk1 : type_of% @below_size:=@below_size
def laws_szWaiterS.f (l0 : List (S160)) (a1 : Int) : Option (Int):=if (wrap64 (a1 - (l0.length : Int))) < 0 then (some (-1)) else (some (wrap64 (a1 - (l0.length : Int))))
set_option maxHeartbeats 8000000 in
set_option maxRecDepth 100000 in
theorem laws_szWaiterS.calls (A0 : Option Addr) (c0 : Nat) (l0 : List (S160)) (a1 : Int) (r : Int) (w : World) (hr0 : Kd.C k160 w A0 l0.length l0) (hc0 : l0.length ≤ c0) (h : laws_szWaiterS.f l0 a1 = some r) :
  Calls Try.prog 100 #[.slice A0 l0.length c0,.int .i64 a1] w fun e w' => e = .returned (.int .i64 r) ∧ Drawn0 w w':=by
 have HR0:=qh1 hr0
 have HC0:=qh1 hc0
 clear hr0 hc0
 have H : (if (wrap64 (a1 - (l0.length : Int))) < 0 then (some (-1)) else (some (wrap64 (a1 - (l0.length : Int))))) = some r:=h
 clear h
 by_cases c3 : (wrap64 (a1 - (l0.length : Int))) < 0
 ·
  rw [if_pos c3] at H
  have c3b0 : decide ((wrap64 (a1 - (l0.length : Int))) < 0) = true:=decide_eq_true c3
  clear c3
  obtain rfl:=sO H
  go_enter Try.func100,Try.ntmps100
  go_wp2
  go_ret
  exact ⟨by first|rfl|(simp;done)|(simp [*];done),by repeat (first|exact Drawn0.refl _|apply Drawn0.step)⟩
 ·
  rw [if_neg c3] at H
  have c3b0 : decide ((wrap64 (a1 - (l0.length : Int))) < 0) = false:=decide_eq_false c3
  clear c3
  obtain rfl:=sO H
  go_enter Try.func100,Try.ntmps100
  go_wp2
  go_ret
  exact ⟨by first|rfl|(simp;done)|(simp [*];done),by repeat (first|exact Drawn0.refl _|apply Drawn0.step)⟩

/-! ### laws_szLock: function 71 -/
def laws_szLock.f (a0_0 : ByteArray) (a0_1 : Int) (a0_2 : Int) (a0_3 : Int) (l0_4 : List (S160)) (a1 : Int) : Option (Int):=if (wrap64 (a1 - (a0_0.size : Int))) < 0 then (some (-1)) else ((laws_szWaiterS.f l0_4 (wrap64 (a1 - (a0_0.size : Int)))).bind fun t102 => (if t102 < 0 then (some (-1)) else (some t102)))
set_option maxHeartbeats 8000000 in
set_option maxRecDepth 100000 in
theorem laws_szLock.calls (a0_0 : ByteArray) (a0_1 : Int) (a0_2 : Int) (a0_3 : Int) (A0_4 : Option Addr) (c0_4 : Nat) (l0_4 : List (S160)) (a1 : Int) (r : Int) (w : World) (hr0_4 : Kd.C k160 w A0_4 l0_4.length l0_4) (hc0_4 : l0_4.length ≤ c0_4) (h : laws_szLock.f a0_0 a0_1 a0_2 a0_3 l0_4 a1 = some r) :
  Calls Try.prog 71 #[.agg #[.string a0_0,.int .i64 a0_1,.int .i64 a0_2,.int .i64 a0_3,.slice A0_4 l0_4.length c0_4],.int .i64 a1] w fun e w' => e = .returned (.int .i64 r) ∧ Below w.heap.size w w':=by
 have hu110:=Try.underlying110
 have HR0_4:=qh1 hr0_4
 have HC0_4:=qh1 hc0_4
 clear hr0_4 hc0_4
 have HB:=qh1 (Below.refl w.heap.size w)
 have H : (if (wrap64 (a1 - (a0_0.size : Int))) < 0 then (some (-1)) else ((laws_szWaiterS.f l0_4 (wrap64 (a1 - (a0_0.size : Int)))).bind fun t102 => (if t102 < 0 then (some (-1)) else (some t102)))) = some r:=h
 clear h
 by_cases c3 : (wrap64 (a1 - (a0_0.size : Int))) < 0
 ·
  rw [if_pos c3] at H
  have c3b0 : decide ((wrap64 (a1 - (a0_0.size : Int))) < 0) = true:=decide_eq_true c3
  clear c3
  obtain rfl:=sO H
  go_enter Try.func71,Try.ntmps71
  go_wp2_with (first|((with_reducible refine gate_dst (N:=2) rfl ?_);refine box_event ?hg (N:=2) ?hd (cs:=#[.string a0_0,.int .i64 a0_1,.int .i64 a0_2,.int .i64 a0_3,.slice A0_4 l0_4.length c0_4]) (t:=110) ?hr ?_;(case hd => rfl);(case hg => rfl);(case hr => first|(go_simp;done)|(go_simp;rfl));intro gb101 hg w4 hbox hb;have n0_:=qh1 (qj1 (by repeat (first|(with_reducible first|exact HB.out|apply qd1|apply qe1|apply qf1)|exact HB.out)) hb);have n1_:=qh1 (hbox);have n2_:=qh1 ((by rw [hg];exact (qk1 (by repeat (first|(with_reducible first|exact HB.out|apply qd1|apply qe1|apply qf1)|exact HB.out))) : w.heap.size ≤ gb101));have n3_:=qh1 ((by rw [hg];exact (qk1 (by repeat (first|(with_reducible first|exact HB.out|apply qd1|apply qe1|apply qf1)|exact HB.out))) : w.heap.size ≤ gb101));clear HB;have HB:=n0_;have BK101:=n1_;have GW101:=n2_;have GE101:=n3_;clear n0_ n1_ n2_ n3_;clear hb hbox hg;have hcz5_0 : w4.cell? ⟨gb101,0,none⟩ = some (.string a0_0):=(blk_cell BK101.out 0).trans rfl;have hcz5_1 : w4.cell? ⟨gb101,1,none⟩ = some (.int .i64 a0_1):=(blk_cell BK101.out 1).trans rfl;have hcz5_2 : w4.cell? ⟨gb101,2,none⟩ = some (.int .i64 a0_2):=(blk_cell BK101.out 2).trans rfl;have hcz5_3 : w4.cell? ⟨gb101,3,none⟩ = some (.int .i64 a0_3):=(blk_cell BK101.out 3).trans rfl;have hcz5_4 : w4.cell? ⟨gb101,4,none⟩ = some (.slice A0_4 l0_4.length c0_4):=(blk_cell BK101.out 4).trans rfl;have hfz5_0:=sJ BK101.out 0;have hfz5_1:=sJ BK101.out 1;have hfz5_2:=sJ BK101.out 2;have hfz5_3:=sJ BK101.out 3;have hfz5_4:=sJ BK101.out 4))
  go_ret
  exact ⟨by first|rfl|(simp [errW_none,errW_some] <;> rfl)|(simp [*,errW_none,errW_some] <;> rfl),by repeat (first|(with_reducible first|exact HB.out|apply qd1|apply qe1|apply qf1|refine qg1 ?_ GE101.out)|exact HB.out)⟩
 ·
  rw [if_neg c3] at H
  have c3b0 : decide ((wrap64 (a1 - (a0_0.size : Int))) < 0) = false:=decide_eq_false c3
  clear c3
  replace H:=Option.bind_eq_some_iff.mp H
  obtain ⟨t102,A60,H⟩:=H
  replace H : (if t102 < 0 then (some (-1)) else (some t102)) = some r:=H
  have A6:=qh1 A60
  clear A60
  by_cases c7 : t102 < 0
  ·
   rw [if_pos c7] at H
   have c7b0 : decide (t102 < 0) = true:=decide_eq_true c7
   clear c7
   obtain rfl:=sO H
   go_enter Try.func71,Try.ntmps71
   go_wp2_with (first|((with_reducible refine gate_dst (N:=2) rfl ?_);refine box_event ?hg (N:=2) ?hd (cs:=#[.string a0_0,.int .i64 a0_1,.int .i64 a0_2,.int .i64 a0_3,.slice A0_4 l0_4.length c0_4]) (t:=110) ?hr ?_;(case hd => rfl);(case hg => rfl);(case hr => first|(go_simp;done)|(go_simp;rfl));intro gb101 hg w8 hbox hb;have n0_:=qh1 (qj1 (by repeat (first|(with_reducible first|exact HB.out|apply qd1|apply qe1|apply qf1)|exact HB.out)) hb);have n1_:=qh1 (hbox);have n2_:=qh1 ((by rw [hg];exact (qk1 (by repeat (first|(with_reducible first|exact HB.out|apply qd1|apply qe1|apply qf1)|exact HB.out))) : w.heap.size ≤ gb101));have n3_:=qh1 ((by rw [hg];exact (qk1 (by repeat (first|(with_reducible first|exact HB.out|apply qd1|apply qe1|apply qf1)|exact HB.out))) : w.heap.size ≤ gb101));clear HB;have HB:=n0_;have BK101:=n1_;have GW101:=n2_;have GE101:=n3_;clear n0_ n1_ n2_ n3_;clear hb hbox hg;have hcz9_0 : w8.cell? ⟨gb101,0,none⟩ = some (.string a0_0):=(blk_cell BK101.out 0).trans rfl;have hcz9_1 : w8.cell? ⟨gb101,1,none⟩ = some (.int .i64 a0_1):=(blk_cell BK101.out 1).trans rfl;have hcz9_2 : w8.cell? ⟨gb101,2,none⟩ = some (.int .i64 a0_2):=(blk_cell BK101.out 2).trans rfl;have hcz9_3 : w8.cell? ⟨gb101,3,none⟩ = some (.int .i64 a0_3):=(blk_cell BK101.out 3).trans rfl;have hcz9_4 : w8.cell? ⟨gb101,4,none⟩ = some (.slice A0_4 l0_4.length c0_4):=(blk_cell BK101.out 4).trans rfl;have hfz9_0:=sJ BK101.out 0;have hfz9_1:=sJ BK101.out 1;have hfz9_2:=sJ BK101.out 2;have hfz9_3:=sJ BK101.out 3;have hfz9_4:=sJ BK101.out 4)|((with_reducible refine gate_callee (f:=100) rfl ?_);refine goesL_ (some 15) rfl rfl Try.func100 (by kernel_rfl) rfl #[.slice A0_4 l0_4.length c0_4,.int .i64 (wrap64 (a1 - (a0_0.size : Int)))] rfl (by (try simp only [sE,sH,sI]);first|done|rfl|(simp only [sG,sF];rfl)) ?_;(with_reducible refine (laws_szWaiterS.calls _ _ l0_4 (wrap64 (a1 - (a0_0.size : Int))) t102 _ ?side1 ?side2 A6.out).mono ?_);(case side1 => repeat (first|exact (Kd.C_below HR0_4.out HB.out)|(with_reducible refine Kd.C_alloc ?_ _)|(with_reducible refine Kd.C_drewN ?_ _)|(with_reducible refine Kd.C_drew ?_)));(case side2 => exact HC0_4.out);rintro e w' ⟨rfl,⟨nd,rfl⟩⟩;refine ⟨_,rfl,?_⟩))
   go_ret
   exact ⟨by first|rfl|(simp [errW_none,errW_some] <;> rfl)|(simp [*,errW_none,errW_some] <;> rfl),by repeat (first|(with_reducible first|exact HB.out|apply qd1|apply qe1|apply qf1|refine qg1 ?_ GE101.out)|exact HB.out)⟩
  ·
   rw [if_neg c7] at H
   have c7b0 : decide (t102 < 0) = false:=decide_eq_false c7
   clear c7
   obtain rfl:=sO H
   go_enter Try.func71,Try.ntmps71
   go_wp2_with (first|((with_reducible refine gate_dst (N:=2) rfl ?_);refine box_event ?hg (N:=2) ?hd (cs:=#[.string a0_0,.int .i64 a0_1,.int .i64 a0_2,.int .i64 a0_3,.slice A0_4 l0_4.length c0_4]) (t:=110) ?hr ?_;(case hd => rfl);(case hg => rfl);(case hr => first|(go_simp;done)|(go_simp;rfl));intro gb101 hg w10 hbox hb;have n0_:=qh1 (qj1 (by repeat (first|(with_reducible first|exact HB.out|apply qd1|apply qe1|apply qf1)|exact HB.out)) hb);have n1_:=qh1 (hbox);have n2_:=qh1 ((by rw [hg];exact (qk1 (by repeat (first|(with_reducible first|exact HB.out|apply qd1|apply qe1|apply qf1)|exact HB.out))) : w.heap.size ≤ gb101));have n3_:=qh1 ((by rw [hg];exact (qk1 (by repeat (first|(with_reducible first|exact HB.out|apply qd1|apply qe1|apply qf1)|exact HB.out))) : w.heap.size ≤ gb101));clear HB;have HB:=n0_;have BK101:=n1_;have GW101:=n2_;have GE101:=n3_;clear n0_ n1_ n2_ n3_;clear hb hbox hg;have hcz11_0 : w10.cell? ⟨gb101,0,none⟩ = some (.string a0_0):=(blk_cell BK101.out 0).trans rfl;have hcz11_1 : w10.cell? ⟨gb101,1,none⟩ = some (.int .i64 a0_1):=(blk_cell BK101.out 1).trans rfl;have hcz11_2 : w10.cell? ⟨gb101,2,none⟩ = some (.int .i64 a0_2):=(blk_cell BK101.out 2).trans rfl;have hcz11_3 : w10.cell? ⟨gb101,3,none⟩ = some (.int .i64 a0_3):=(blk_cell BK101.out 3).trans rfl;have hcz11_4 : w10.cell? ⟨gb101,4,none⟩ = some (.slice A0_4 l0_4.length c0_4):=(blk_cell BK101.out 4).trans rfl;have hfz11_0:=sJ BK101.out 0;have hfz11_1:=sJ BK101.out 1;have hfz11_2:=sJ BK101.out 2;have hfz11_3:=sJ BK101.out 3;have hfz11_4:=sJ BK101.out 4)|((with_reducible refine gate_callee (f:=100) rfl ?_);refine goesL_ (some 15) rfl rfl Try.func100 (by kernel_rfl) rfl #[.slice A0_4 l0_4.length c0_4,.int .i64 (wrap64 (a1 - (a0_0.size : Int)))] rfl (by (try simp only [sE,sH,sI]);first|done|rfl|(simp only [sG,sF];rfl)) ?_;(with_reducible refine (laws_szWaiterS.calls _ _ l0_4 (wrap64 (a1 - (a0_0.size : Int))) t102 _ ?side1 ?side2 A6.out).mono ?_);(case side1 => repeat (first|exact (Kd.C_below HR0_4.out HB.out)|(with_reducible refine Kd.C_alloc ?_ _)|(with_reducible refine Kd.C_drewN ?_ _)|(with_reducible refine Kd.C_drew ?_)));(case side2 => exact HC0_4.out);rintro e w' ⟨rfl,⟨nd,rfl⟩⟩;refine ⟨_,rfl,?_⟩))
   go_ret
   exact ⟨by first|rfl|(simp [errW_none,errW_some] <;> rfl)|(simp [*,errW_none,errW_some] <;> rfl),by repeat (first|(with_reducible first|exact HB.out|apply qd1|apply qe1|apply qf1|refine qg1 ?_ GE101.out)|exact HB.out)⟩

/-! ### laws_szLockS: function 39 -/
def laws_szLockS.l0 : Nat → List (S110) → Int → Int → Option (Int)
 | 0,_,_,_ => none
 | k + 1,x0,x1,x5 => if x5 < (x0.length : Int) then (if 0 ≤ x5 then ((laws_szLock.f ((rd_T110 x0 x5).f0) ((rd_T110 x0 x5).f1) ((rd_T110 x0 x5).f2) ((rd_T110 x0 x5).f3) ((rd_T110 x0 x5).f4) x1).bind fun t104 => (if t104 < 0 then (some (-1)) else (laws_szLockS.l0 k x0 t104 (wrap64 (x5 + 1))))) else (none)) else (some x1)
def laws_szLockS.f (k : Nat) (l0 : List (S110)) (a1 : Int) : Option (Int):=if (wrap64 (a1 - (l0.length : Int))) < 0 then (some (-1)) else (laws_szLockS.l0 k l0 (wrap64 (a1 - (l0.length : Int))) 0)
set_option maxHeartbeats 8000000 in
set_option maxRecDepth 100000 in
theorem laws_szLockS.calls (k : Nat) (A0 : Option Addr) (c0 : Nat) (l0 : List (S110)) (a1 : Int) (r : Int) (w : World) (hr0 : Kd.C k110 w A0 l0.length l0) (hc0 : l0.length ≤ c0) (h : laws_szLockS.f k l0 a1 = some r) :
  Calls Try.prog 39 #[.slice A0 l0.length c0,.int .i64 a1] w fun e w' => e = .returned (.int .i64 r) ∧ Below w.heap.size w w':=by
 have hu110:=Try.underlying110
 have HR0:=qh1 hr0
 have HC0:=qh1 hc0
 clear hr0 hc0
 have HB:=qh1 (Below.refl w.heap.size w)
 have H : (if (wrap64 (a1 - (l0.length : Int))) < 0 then (some (-1)) else (laws_szLockS.l0 k l0 (wrap64 (a1 - (l0.length : Int))) 0)) = some r:=h
 clear h
 by_cases c3 : (wrap64 (a1 - (l0.length : Int))) < 0
 ·
  rw [if_pos c3] at H
  have c3b0 : decide ((wrap64 (a1 - (l0.length : Int))) < 0) = true:=decide_eq_true c3
  clear c3
  obtain rfl:=sO H
  go_enter Try.func39,Try.ntmps39
  go_wp2
  go_ret
  exact ⟨by first|rfl|(simp [errW_none,errW_some] <;> rfl)|(simp [*,errW_none,errW_some] <;> rfl),by repeat (first|(with_reducible first|exact HB.out|apply qd1|apply qe1|apply qf1)|exact HB.out)⟩
 ·
  rw [if_neg c3] at H
  have c3b0 : decide ((wrap64 (a1 - (l0.length : Int))) < 0) = false:=decide_eq_false c3
  clear c3
  have H':=qh1 H
  clear H
  go_enter Try.func39,Try.ntmps39
  go_wp2
  go_loopg [1,5] k (fun kq v1 v5 w' => ∃ (x1_1 : Int) (x5_1 : Int),v1 = .int .i64 x1_1 ∧ v5 = .int .i64 x5_1 ∧ Aside0 (laws_szLockS.l0 kq l0 x1_1 x5_1 = some r) ∧ Aside0 (kq ≤ k) ∧ Aside0 (Below w.heap.size w w'))
  case atStart => exact ⟨(wrap64 (a1 - (l0.length : Int))),(0),(by first|rfl|(simp;done)|(simp [*];done)),(by first|rfl|(simp;done)|(simp [*];done)),H',⟨Nat.le_refl _⟩,⟨by repeat (first|(with_reducible first|exact HB.out|apply qd1|apply qe1|apply qf1)|exact HB.out)⟩⟩
  case round =>
   clear H'
   try clear p2
   try clear c3
   try clear c3b0
   obtain ⟨x1_1,x5_1,rfl,rfl,HA,HK1,HB⟩:=hrel
   cases gk with
   | zero => exact absurd HA.out (by simp [laws_szLockS.l0])
   | succ k1 =>
    have H:=HA.out
    clear HA
    simp only [laws_szLockS.l0] at H
    by_cases c4 : x5_1 < (l0.length : Int)
    ·
     rw [if_pos c4] at H
     have c4b0 : decide (x5_1 < (l0.length : Int)) = true:=decide_eq_true c4
     clear c4
     by_cases c5 : 0 ≤ x5_1
     ·
      rw [if_pos c5] at H
      have c5b0 : decide (0 ≤ x5_1) = true:=decide_eq_true c5
      clear c5
      replace H:=Option.bind_eq_some_iff.mp H
      obtain ⟨t104,A60,H⟩:=H
      replace H : (if t104 < 0 then (some (-1)) else (laws_szLockS.l0 k1 l0 t104 (wrap64 (x5_1 + 1)))) = some r:=H
      have A6:=qh1 A60
      clear A60
      by_cases c7 : t104 < 0
      ·
       rw [if_pos c7] at H
       have c7b0 : decide (t104 < 0) = true:=decide_eq_true c7
       clear c7
       obtain rfl:=sO H
       have p103 : 0 ≤ (x5_1 : Int):=sM (by first|(with_reducible assumption)|assumption)
       have q103 : x5_1 < (l0.length : Int):=sM (by first|(with_reducible assumption)|assumption)
       obtain ⟨ad103,A103_4,c103_4,e103,hx103_0,hx103_1,hx103_2,hx103_3,hx103_4,hl103_4,hi103_4⟩:=at_T110 HR0.out x5_1 p103 q103
       cases e103
       replace hx103_0:=(HB.out.cell (sD w _ hx103_0)).trans hx103_0
       replace hx103_1:=(HB.out.cell (sD w _ hx103_1)).trans hx103_1
       replace hx103_2:=(HB.out.cell (sD w _ hx103_2)).trans hx103_2
       replace hx103_3:=(HB.out.cell (sD w _ hx103_3)).trans hx103_3
       replace hx103_4:=(HB.out.cell (sD w _ hx103_4)).trans hx103_4
       have HR103_4:=qh1 hi103_4
       have HC103_4:=qh1 hl103_4
       clear hi103_4 hl103_4
       replace p103:=eq_true p103
       replace q103:=eq_true q103
       go_wp2_with (first|((with_reducible refine gate_callee (f:=71) rfl ?_);refine goesL_ (some 23) rfl rfl Try.func71 (by kernel_rfl) rfl #[.agg #[.string ((rd_T110 l0 x5_1).f0),.int .i64 ((rd_T110 l0 x5_1).f1),.int .i64 ((rd_T110 l0 x5_1).f2),.int .i64 ((rd_T110 l0 x5_1).f3),.slice A103_4 ((rd_T110 l0 x5_1).f4).length c103_4],.int .i64 x1_1] rfl (by (try simp only [sE,sH,sI]);first|done|rfl|(simp only [sG,sF];rfl)) ?_;(with_reducible refine (laws_szLock.calls ((rd_T110 l0 x5_1).f0) ((rd_T110 l0 x5_1).f1) ((rd_T110 l0 x5_1).f2) ((rd_T110 l0 x5_1).f3) _ _ ((rd_T110 l0 x5_1).f4) x1_1 t104 _ ?side1 ?side2 A6.out).mono ?_);(case side1 => repeat (first|exact (Kd.C_below HR103_4.out HB.out)|(with_reducible refine Kd.C_alloc ?_ _)|(with_reducible refine Kd.C_drewN ?_ _)|(with_reducible refine Kd.C_drew ?_)));(case side2 => exact HC103_4.out);rintro e w8 ⟨rfl,hb⟩;refine ⟨_,rfl,?_⟩;have n0_:=qh1 (qj1 (by repeat (first|(with_reducible first|exact HB.out|apply qd1|apply qe1|apply qf1)|exact HB.out)) hb);clear HB;have HB:=n0_;clear n0_;(try clear hb);(try clear hb2);(try clear hk);(try clear hi)))
       go_ret
       exact ⟨by first|rfl|(simp [errW_none,errW_some] <;> rfl)|(simp [*,errW_none,errW_some] <;> rfl),by repeat (first|(with_reducible first|exact HB.out|apply qd1|apply qe1|apply qf1)|exact HB.out)⟩
      ·
       rw [if_neg c7] at H
       have c7b0 : decide (t104 < 0) = false:=decide_eq_false c7
       clear c7
       have H':=qh1 H
       clear H
       have p103 : 0 ≤ (x5_1 : Int):=sM (by first|(with_reducible assumption)|assumption)
       have q103 : x5_1 < (l0.length : Int):=sM (by first|(with_reducible assumption)|assumption)
       obtain ⟨ad103,A103_4,c103_4,e103,hx103_0,hx103_1,hx103_2,hx103_3,hx103_4,hl103_4,hi103_4⟩:=at_T110 HR0.out x5_1 p103 q103
       cases e103
       replace hx103_0:=(HB.out.cell (sD w _ hx103_0)).trans hx103_0
       replace hx103_1:=(HB.out.cell (sD w _ hx103_1)).trans hx103_1
       replace hx103_2:=(HB.out.cell (sD w _ hx103_2)).trans hx103_2
       replace hx103_3:=(HB.out.cell (sD w _ hx103_3)).trans hx103_3
       replace hx103_4:=(HB.out.cell (sD w _ hx103_4)).trans hx103_4
       have HR103_4:=qh1 hi103_4
       have HC103_4:=qh1 hl103_4
       clear hi103_4 hl103_4
       replace p103:=eq_true p103
       replace q103:=eq_true q103
       go_wp2_with (first|((with_reducible refine gate_callee (f:=71) rfl ?_);refine goesL_ (some 23) rfl rfl Try.func71 (by kernel_rfl) rfl #[.agg #[.string ((rd_T110 l0 x5_1).f0),.int .i64 ((rd_T110 l0 x5_1).f1),.int .i64 ((rd_T110 l0 x5_1).f2),.int .i64 ((rd_T110 l0 x5_1).f3),.slice A103_4 ((rd_T110 l0 x5_1).f4).length c103_4],.int .i64 x1_1] rfl (by (try simp only [sE,sH,sI]);first|done|rfl|(simp only [sG,sF];rfl)) ?_;(with_reducible refine (laws_szLock.calls ((rd_T110 l0 x5_1).f0) ((rd_T110 l0 x5_1).f1) ((rd_T110 l0 x5_1).f2) ((rd_T110 l0 x5_1).f3) _ _ ((rd_T110 l0 x5_1).f4) x1_1 t104 _ ?side1 ?side2 A6.out).mono ?_);(case side1 => repeat (first|exact (Kd.C_below HR103_4.out HB.out)|(with_reducible refine Kd.C_alloc ?_ _)|(with_reducible refine Kd.C_drewN ?_ _)|(with_reducible refine Kd.C_drew ?_)));(case side2 => exact HC103_4.out);rintro e w9 ⟨rfl,hb⟩;refine ⟨_,rfl,?_⟩;have n0_:=qh1 (qj1 (by repeat (first|(with_reducible first|exact HB.out|apply qd1|apply qe1|apply qf1)|exact HB.out)) hb);clear HB;have HB:=n0_;clear n0_;(try clear hb);(try clear hb2);(try clear hk);(try clear hi)))
       go_roundg k1
       case measure => have:=HK1.out;omega
       case rel => exact ⟨(t104),(wrap64 (x5_1 + 1)),(by first|rfl|(simp;done)|(simp [*];done)),(by first|rfl|(simp;done)|(simp [*];done)),H',⟨by have:=HK1.out;omega⟩,⟨by repeat (first|(with_reducible first|exact HB.out|apply qd1|apply qe1|apply qf1)|exact HB.out)⟩⟩
     ·
      rw [if_neg c5] at H
      exact absurd H (by simp)
    ·
     rw [if_neg c4] at H
     have c4b0 : decide (x5_1 < (l0.length : Int)) = false:=decide_eq_false c4
     clear c4
     obtain rfl:=sO H
     go_wp2
     go_ret
     exact ⟨by first|rfl|(simp [errW_none,errW_some] <;> rfl)|(simp [*,errW_none,errW_some] <;> rfl),by repeat (first|(with_reducible first|exact HB.out|apply qd1|apply qe1|apply qf1)|exact HB.out)⟩

/-! ### laws_szSeenS: function 40 -/
def laws_szSeenS.f (l0 : List (S116)) (a1 : Int) : Option (Int):=if (wrap64 (a1 - (l0.length : Int))) < 0 then (some (-1)) else (some (wrap64 (a1 - (l0.length : Int))))
set_option maxHeartbeats 8000000 in
set_option maxRecDepth 100000 in
theorem laws_szSeenS.calls (A0 : Option Addr) (c0 : Nat) (l0 : List (S116)) (a1 : Int) (r : Int) (w : World) (hr0 : Kd.C k116 w A0 l0.length l0) (hc0 : l0.length ≤ c0) (h : laws_szSeenS.f l0 a1 = some r) :
  Calls Try.prog 40 #[.slice A0 l0.length c0,.int .i64 a1] w fun e w' => e = .returned (.int .i64 r) ∧ Drawn0 w w':=by
 have HR0:=qh1 hr0
 have HC0:=qh1 hc0
 clear hr0 hc0
 have H : (if (wrap64 (a1 - (l0.length : Int))) < 0 then (some (-1)) else (some (wrap64 (a1 - (l0.length : Int))))) = some r:=h
 clear h
 by_cases c3 : (wrap64 (a1 - (l0.length : Int))) < 0
 ·
  rw [if_pos c3] at H
  have c3b0 : decide ((wrap64 (a1 - (l0.length : Int))) < 0) = true:=decide_eq_true c3
  clear c3
  obtain rfl:=sO H
  go_enter Try.func40,Try.ntmps40
  go_wp2
  go_ret
  exact ⟨by first|rfl|(simp;done)|(simp [*];done),by repeat (first|exact Drawn0.refl _|apply Drawn0.step)⟩
 ·
  rw [if_neg c3] at H
  have c3b0 : decide ((wrap64 (a1 - (l0.length : Int))) < 0) = false:=decide_eq_false c3
  clear c3
  obtain rfl:=sO H
  go_enter Try.func40,Try.ntmps40
  go_wp2
  go_ret
  exact ⟨by first|rfl|(simp;done)|(simp [*];done),by repeat (first|exact Drawn0.refl _|apply Drawn0.step)⟩

/-! ### laws_szTable: function 8 -/
def laws_szTable.f (k : Nat) (a0_0 : Int) (a0_1 : Int) (l0_2 : List (S110)) (l0_3 : List (S116)) (a1 : Int) : Option (Int):=(laws_szLockS.f k l0_2 a1).bind fun t106 => (if t106 < 0 then (some (-1)) else ((laws_szSeenS.f l0_3 t106).bind fun t107 => (if t107 < 0 then (some (-1)) else (some t107))))
set_option maxHeartbeats 8000000 in
set_option maxRecDepth 100000 in
theorem laws_szTable.calls (k : Nat) (a0_0 : Int) (a0_1 : Int) (A0_2 : Option Addr) (c0_2 : Nat) (l0_2 : List (S110)) (A0_3 : Option Addr) (c0_3 : Nat) (l0_3 : List (S116)) (a1 : Int) (r : Int) (w : World) (hr0_2 : Kd.C k110 w A0_2 l0_2.length l0_2) (hc0_2 : l0_2.length ≤ c0_2) (hr0_3 : Kd.C k116 w A0_3 l0_3.length l0_3) (hc0_3 : l0_3.length ≤ c0_3) (h : laws_szTable.f k a0_0 a0_1 l0_2 l0_3 a1 = some r) :
  Calls Try.prog 8 #[.agg #[.int .i64 a0_0,.int .i64 a0_1,.slice A0_2 l0_2.length c0_2,.slice A0_3 l0_3.length c0_3],.int .i64 a1] w fun e w' => e = .returned (.int .i64 r) ∧ Below w.heap.size w w':=by
 have hu25:=Try.underlying25
 have HR0_2:=qh1 hr0_2
 have HC0_2:=qh1 hc0_2
 clear hr0_2 hc0_2
 have HR0_3:=qh1 hr0_3
 have HC0_3:=qh1 hc0_3
 clear hr0_3 hc0_3
 have HB:=qh1 (Below.refl w.heap.size w)
 have H : ((laws_szLockS.f k l0_2 a1).bind fun t106 => (if t106 < 0 then (some (-1)) else ((laws_szSeenS.f l0_3 t106).bind fun t107 => (if t107 < 0 then (some (-1)) else (some t107))))) = some r:=h
 clear h
 replace H:=Option.bind_eq_some_iff.mp H
 obtain ⟨t106,A30,H⟩:=H
 replace H : (if t106 < 0 then (some (-1)) else ((laws_szSeenS.f l0_3 t106).bind fun t107 => (if t107 < 0 then (some (-1)) else (some t107)))) = some r:=H
 have A3:=qh1 A30
 clear A30
 by_cases c4 : t106 < 0
 ·
  rw [if_pos c4] at H
  have c4b0 : decide (t106 < 0) = true:=decide_eq_true c4
  clear c4
  obtain rfl:=sO H
  go_enter Try.func8,Try.ntmps8
  go_wp2_with (first|((with_reducible refine gate_dst (N:=2) rfl ?_);refine box_event ?hg (N:=2) ?hd (cs:=#[.int .i64 a0_0,.int .i64 a0_1,.slice A0_2 l0_2.length c0_2,.slice A0_3 l0_3.length c0_3]) (t:=25) ?hr ?_;(case hd => rfl);(case hg => rfl);(case hr => first|(go_simp;done)|(go_simp;rfl));intro gb105 hg w5 hbox hb;have n0_:=qh1 (qj1 (by repeat (first|(with_reducible first|exact HB.out|apply qd1|apply qe1|apply qf1)|exact HB.out)) hb);have n1_:=qh1 (hbox);have n2_:=qh1 ((by rw [hg];exact (qk1 (by repeat (first|(with_reducible first|exact HB.out|apply qd1|apply qe1|apply qf1)|exact HB.out))) : w.heap.size ≤ gb105));have n3_:=qh1 ((by rw [hg];exact (qk1 (by repeat (first|(with_reducible first|exact HB.out|apply qd1|apply qe1|apply qf1)|exact HB.out))) : w.heap.size ≤ gb105));clear HB;have HB:=n0_;have BK105:=n1_;have GW105:=n2_;have GE105:=n3_;clear n0_ n1_ n2_ n3_;clear hb hbox hg;have hcz6_0 : w5.cell? ⟨gb105,0,none⟩ = some (.int .i64 a0_0):=(blk_cell BK105.out 0).trans rfl;have hcz6_1 : w5.cell? ⟨gb105,1,none⟩ = some (.int .i64 a0_1):=(blk_cell BK105.out 1).trans rfl;have hcz6_2 : w5.cell? ⟨gb105,2,none⟩ = some (.slice A0_2 l0_2.length c0_2):=(blk_cell BK105.out 2).trans rfl;have hcz6_3 : w5.cell? ⟨gb105,3,none⟩ = some (.slice A0_3 l0_3.length c0_3):=(blk_cell BK105.out 3).trans rfl;have hfz6_0:=sJ BK105.out 0;have hfz6_1:=sJ BK105.out 1;have hfz6_2:=sJ BK105.out 2;have hfz6_3:=sJ BK105.out 3)|((with_reducible refine gate_callee (f:=39) rfl ?_);refine goesL_ (some 8) rfl rfl Try.func39 (by kernel_rfl) rfl #[.slice A0_2 l0_2.length c0_2,.int .i64 a1] rfl (by (try simp only [sE,sH,sI]);first|done|rfl|(simp only [sG,sF];rfl)) ?_;(with_reducible refine (laws_szLockS.calls k _ _ l0_2 a1 t106 _ ?side1 ?side2 A3.out).mono ?_);(case side1 => repeat (first|exact (Kd.C_below HR0_2.out HB.out)|(with_reducible refine Kd.C_alloc ?_ _)|(with_reducible refine Kd.C_drewN ?_ _)|(with_reducible refine Kd.C_drew ?_)));(case side2 => exact HC0_2.out);rintro e w7 ⟨rfl,hb⟩;refine ⟨_,rfl,?_⟩;have n0_:=qh1 (qi1 (g:=gb105) (o:=.cells #[.int .i64 a0_0,.int .i64 a0_1,.slice A0_2 l0_2.length c0_2,.slice A0_3 l0_3.length c0_3] 25 (0,0)) (by (with_reducible repeat (first|apply qa1|apply qb1|apply qc1));exact BK105.out) hb);have n1_:=qh1 (qj1 (by repeat (first|(with_reducible first|exact HB.out|apply qd1|apply qe1|apply qf1|refine qg1 ?_ GE105.out)|exact HB.out)) hb);clear BK105;clear HB;have BK105:=n0_;have HB:=n1_;clear n0_ n1_;(try clear hb);(try clear hb2);(try clear hk);(try clear hi)))
  go_ret
  exact ⟨by first|rfl|(simp [errW_none,errW_some] <;> rfl)|(simp [*,errW_none,errW_some] <;> rfl),by repeat (first|(with_reducible first|exact HB.out|apply qd1|apply qe1|apply qf1|refine qg1 ?_ GE105.out)|exact HB.out)⟩
 ·
  rw [if_neg c4] at H
  have c4b0 : decide (t106 < 0) = false:=decide_eq_false c4
  clear c4
  replace H:=Option.bind_eq_some_iff.mp H
  obtain ⟨t107,A80,H⟩:=H
  replace H : (if t107 < 0 then (some (-1)) else (some t107)) = some r:=H
  have A8:=qh1 A80
  clear A80
  by_cases c9 : t107 < 0
  ·
   rw [if_pos c9] at H
   have c9b0 : decide (t107 < 0) = true:=decide_eq_true c9
   clear c9
   obtain rfl:=sO H
   go_enter Try.func8,Try.ntmps8
   go_wp2_with (first|((with_reducible refine gate_dst (N:=2) rfl ?_);refine box_event ?hg (N:=2) ?hd (cs:=#[.int .i64 a0_0,.int .i64 a0_1,.slice A0_2 l0_2.length c0_2,.slice A0_3 l0_3.length c0_3]) (t:=25) ?hr ?_;(case hd => rfl);(case hg => rfl);(case hr => first|(go_simp;done)|(go_simp;rfl));intro gb105 hg w10 hbox hb;have n0_:=qh1 (qj1 (by repeat (first|(with_reducible first|exact HB.out|apply qd1|apply qe1|apply qf1)|exact HB.out)) hb);have n1_:=qh1 (hbox);have n2_:=qh1 ((by rw [hg];exact (qk1 (by repeat (first|(with_reducible first|exact HB.out|apply qd1|apply qe1|apply qf1)|exact HB.out))) : w.heap.size ≤ gb105));have n3_:=qh1 ((by rw [hg];exact (qk1 (by repeat (first|(with_reducible first|exact HB.out|apply qd1|apply qe1|apply qf1)|exact HB.out))) : w.heap.size ≤ gb105));clear HB;have HB:=n0_;have BK105:=n1_;have GW105:=n2_;have GE105:=n3_;clear n0_ n1_ n2_ n3_;clear hb hbox hg;have hcz11_0 : w10.cell? ⟨gb105,0,none⟩ = some (.int .i64 a0_0):=(blk_cell BK105.out 0).trans rfl;have hcz11_1 : w10.cell? ⟨gb105,1,none⟩ = some (.int .i64 a0_1):=(blk_cell BK105.out 1).trans rfl;have hcz11_2 : w10.cell? ⟨gb105,2,none⟩ = some (.slice A0_2 l0_2.length c0_2):=(blk_cell BK105.out 2).trans rfl;have hcz11_3 : w10.cell? ⟨gb105,3,none⟩ = some (.slice A0_3 l0_3.length c0_3):=(blk_cell BK105.out 3).trans rfl;have hfz11_0:=sJ BK105.out 0;have hfz11_1:=sJ BK105.out 1;have hfz11_2:=sJ BK105.out 2;have hfz11_3:=sJ BK105.out 3)|((with_reducible refine gate_callee (f:=39) rfl ?_);refine goesL_ (some 8) rfl rfl Try.func39 (by kernel_rfl) rfl #[.slice A0_2 l0_2.length c0_2,.int .i64 a1] rfl (by (try simp only [sE,sH,sI]);first|done|rfl|(simp only [sG,sF];rfl)) ?_;(with_reducible refine (laws_szLockS.calls k _ _ l0_2 a1 t106 _ ?side1 ?side2 A3.out).mono ?_);(case side1 => repeat (first|exact (Kd.C_below HR0_2.out HB.out)|(with_reducible refine Kd.C_alloc ?_ _)|(with_reducible refine Kd.C_drewN ?_ _)|(with_reducible refine Kd.C_drew ?_)));(case side2 => exact HC0_2.out);rintro e w12 ⟨rfl,hb⟩;refine ⟨_,rfl,?_⟩;have n0_:=qh1 (qi1 (g:=gb105) (o:=.cells #[.int .i64 a0_0,.int .i64 a0_1,.slice A0_2 l0_2.length c0_2,.slice A0_3 l0_3.length c0_3] 25 (0,0)) (by (with_reducible repeat (first|apply qa1|apply qb1|apply qc1));exact BK105.out) hb);have n1_:=qh1 (qj1 (by repeat (first|(with_reducible first|exact HB.out|apply qd1|apply qe1|apply qf1|refine qg1 ?_ GE105.out)|exact HB.out)) hb);clear BK105;clear HB;have BK105:=n0_;have HB:=n1_;clear n0_ n1_;(try clear hb);(try clear hb2);(try clear hk);(try clear hi);have hcz13_0 : w12.cell? ⟨gb105,0,none⟩ = some (.int .i64 a0_0):=(blk_cell BK105.out 0).trans rfl;have hcz13_1 : w12.cell? ⟨gb105,1,none⟩ = some (.int .i64 a0_1):=(blk_cell BK105.out 1).trans rfl;have hcz13_2 : w12.cell? ⟨gb105,2,none⟩ = some (.slice A0_2 l0_2.length c0_2):=(blk_cell BK105.out 2).trans rfl;have hcz13_3 : w12.cell? ⟨gb105,3,none⟩ = some (.slice A0_3 l0_3.length c0_3):=(blk_cell BK105.out 3).trans rfl;have hfz13_0:=sJ BK105.out 0;have hfz13_1:=sJ BK105.out 1;have hfz13_2:=sJ BK105.out 2;have hfz13_3:=sJ BK105.out 3)|((with_reducible refine gate_callee (f:=40) rfl ?_);refine goesL_ (some 14) rfl rfl Try.func40 (by kernel_rfl) rfl #[.slice A0_3 l0_3.length c0_3,.int .i64 t106] rfl (by (try simp only [sE,sH,sI]);first|done|rfl|(simp only [sG,sF];rfl)) ?_;(with_reducible refine (laws_szSeenS.calls _ _ l0_3 t106 t107 _ ?side1 ?side2 A8.out).mono ?_);(case side1 => repeat (first|exact (Kd.C_below HR0_3.out HB.out)|(with_reducible refine Kd.C_alloc ?_ _)|(with_reducible refine Kd.C_drewN ?_ _)|(with_reducible refine Kd.C_drew ?_)));(case side2 => exact HC0_3.out);rintro e w' ⟨rfl,⟨nd,rfl⟩⟩;refine ⟨_,rfl,?_⟩))
   go_ret
   exact ⟨by first|rfl|(simp [errW_none,errW_some] <;> rfl)|(simp [*,errW_none,errW_some] <;> rfl),by repeat (first|(with_reducible first|exact HB.out|apply qd1|apply qe1|apply qf1|refine qg1 ?_ GE105.out)|exact HB.out)⟩
  ·
   rw [if_neg c9] at H
   have c9b0 : decide (t107 < 0) = false:=decide_eq_false c9
   clear c9
   obtain rfl:=sO H
   go_enter Try.func8,Try.ntmps8
   go_wp2_with (first|((with_reducible refine gate_dst (N:=2) rfl ?_);refine box_event ?hg (N:=2) ?hd (cs:=#[.int .i64 a0_0,.int .i64 a0_1,.slice A0_2 l0_2.length c0_2,.slice A0_3 l0_3.length c0_3]) (t:=25) ?hr ?_;(case hd => rfl);(case hg => rfl);(case hr => first|(go_simp;done)|(go_simp;rfl));intro gb105 hg w14 hbox hb;have n0_:=qh1 (qj1 (by repeat (first|(with_reducible first|exact HB.out|apply qd1|apply qe1|apply qf1)|exact HB.out)) hb);have n1_:=qh1 (hbox);have n2_:=qh1 ((by rw [hg];exact (qk1 (by repeat (first|(with_reducible first|exact HB.out|apply qd1|apply qe1|apply qf1)|exact HB.out))) : w.heap.size ≤ gb105));have n3_:=qh1 ((by rw [hg];exact (qk1 (by repeat (first|(with_reducible first|exact HB.out|apply qd1|apply qe1|apply qf1)|exact HB.out))) : w.heap.size ≤ gb105));clear HB;have HB:=n0_;have BK105:=n1_;have GW105:=n2_;have GE105:=n3_;clear n0_ n1_ n2_ n3_;clear hb hbox hg;have hcz15_0 : w14.cell? ⟨gb105,0,none⟩ = some (.int .i64 a0_0):=(blk_cell BK105.out 0).trans rfl;have hcz15_1 : w14.cell? ⟨gb105,1,none⟩ = some (.int .i64 a0_1):=(blk_cell BK105.out 1).trans rfl;have hcz15_2 : w14.cell? ⟨gb105,2,none⟩ = some (.slice A0_2 l0_2.length c0_2):=(blk_cell BK105.out 2).trans rfl;have hcz15_3 : w14.cell? ⟨gb105,3,none⟩ = some (.slice A0_3 l0_3.length c0_3):=(blk_cell BK105.out 3).trans rfl;have hfz15_0:=sJ BK105.out 0;have hfz15_1:=sJ BK105.out 1;have hfz15_2:=sJ BK105.out 2;have hfz15_3:=sJ BK105.out 3)|((with_reducible refine gate_callee (f:=39) rfl ?_);refine goesL_ (some 8) rfl rfl Try.func39 (by kernel_rfl) rfl #[.slice A0_2 l0_2.length c0_2,.int .i64 a1] rfl (by (try simp only [sE,sH,sI]);first|done|rfl|(simp only [sG,sF];rfl)) ?_;(with_reducible refine (laws_szLockS.calls k _ _ l0_2 a1 t106 _ ?side1 ?side2 A3.out).mono ?_);(case side1 => repeat (first|exact (Kd.C_below HR0_2.out HB.out)|(with_reducible refine Kd.C_alloc ?_ _)|(with_reducible refine Kd.C_drewN ?_ _)|(with_reducible refine Kd.C_drew ?_)));(case side2 => exact HC0_2.out);rintro e w16 ⟨rfl,hb⟩;refine ⟨_,rfl,?_⟩;have n0_:=qh1 (qi1 (g:=gb105) (o:=.cells #[.int .i64 a0_0,.int .i64 a0_1,.slice A0_2 l0_2.length c0_2,.slice A0_3 l0_3.length c0_3] 25 (0,0)) (by (with_reducible repeat (first|apply qa1|apply qb1|apply qc1));exact BK105.out) hb);have n1_:=qh1 (qj1 (by repeat (first|(with_reducible first|exact HB.out|apply qd1|apply qe1|apply qf1|refine qg1 ?_ GE105.out)|exact HB.out)) hb);clear BK105;clear HB;have BK105:=n0_;have HB:=n1_;clear n0_ n1_;(try clear hb);(try clear hb2);(try clear hk);(try clear hi);have hcz17_0 : w16.cell? ⟨gb105,0,none⟩ = some (.int .i64 a0_0):=(blk_cell BK105.out 0).trans rfl;have hcz17_1 : w16.cell? ⟨gb105,1,none⟩ = some (.int .i64 a0_1):=(blk_cell BK105.out 1).trans rfl;have hcz17_2 : w16.cell? ⟨gb105,2,none⟩ = some (.slice A0_2 l0_2.length c0_2):=(blk_cell BK105.out 2).trans rfl;have hcz17_3 : w16.cell? ⟨gb105,3,none⟩ = some (.slice A0_3 l0_3.length c0_3):=(blk_cell BK105.out 3).trans rfl;have hfz17_0:=sJ BK105.out 0;have hfz17_1:=sJ BK105.out 1;have hfz17_2:=sJ BK105.out 2;have hfz17_3:=sJ BK105.out 3)|((with_reducible refine gate_callee (f:=40) rfl ?_);refine goesL_ (some 14) rfl rfl Try.func40 (by kernel_rfl) rfl #[.slice A0_3 l0_3.length c0_3,.int .i64 t106] rfl (by (try simp only [sE,sH,sI]);first|done|rfl|(simp only [sG,sF];rfl)) ?_;(with_reducible refine (laws_szSeenS.calls _ _ l0_3 t106 t107 _ ?side1 ?side2 A8.out).mono ?_);(case side1 => repeat (first|exact (Kd.C_below HR0_3.out HB.out)|(with_reducible refine Kd.C_alloc ?_ _)|(with_reducible refine Kd.C_drewN ?_ _)|(with_reducible refine Kd.C_drew ?_)));(case side2 => exact HC0_3.out);rintro e w' ⟨rfl,⟨nd,rfl⟩⟩;refine ⟨_,rfl,?_⟩))
   go_ret
   exact ⟨by first|rfl|(simp [errW_none,errW_some] <;> rfl)|(simp [*,errW_none,errW_some] <;> rfl),by repeat (first|(with_reducible first|exact HB.out|apply qd1|apply qe1|apply qf1|refine qg1 ?_ GE105.out)|exact HB.out)⟩

/-! ### laws_toWaiter: function 125 -/
def laws_toWaiter.f (a0_0 : Int) (a0_1 : Int) : Option (Int × Int):=some (a0_0,a0_1)
set_option maxHeartbeats 8000000 in
set_option maxRecDepth 100000 in
theorem laws_toWaiter.calls (a0_0 : Int) (a0_1 : Int) (r1 : Int) (r2 : Int) (w : World) (h : laws_toWaiter.f a0_0 a0_1 = some (r1,r2)) :
  Calls Try.prog 125 #[.agg #[.int .i64 a0_0,.int .i64 a0_1]] w fun e w' => e = .returned (.agg #[.int .i64 r1,.int .i64 r2]) ∧ Below w.heap.size w w':=by
 have hu160:=Try.underlying160
 have hu73:=Try.underlying73
 have HB:=qh1 (Below.refl w.heap.size w)
 have H : (some (a0_0,a0_1)) = some (r1,r2):=h
 clear h
 simp only [Option.some.injEq,Prod.mk.injEq] at H
 obtain ⟨rfl,rfl⟩:=H
 go_enter Try.func125,Try.ntmps125
 go_wp2_with (first|((with_reducible refine gate_dst (N:=1) rfl ?_);refine box_event ?hg (N:=1) ?hd (cs:=#[.int .i64 a0_0,.int .i64 a0_1]) (t:=160) ?hr ?_;(case hd => rfl);(case hg => rfl);(case hr => first|(go_simp;done)|(go_simp;rfl));intro gb108 hg w2 hbox hb;have n0_:=qh1 (qj1 (by repeat (first|(with_reducible first|exact HB.out|apply qd1|apply qe1|apply qf1)|exact HB.out)) hb);have n1_:=qh1 (hbox);have n2_:=qh1 ((by rw [hg];exact (qk1 (by repeat (first|(with_reducible first|exact HB.out|apply qd1|apply qe1|apply qf1)|exact HB.out))) : w.heap.size ≤ gb108));have n3_:=qh1 ((by rw [hg];exact (qk1 (by repeat (first|(with_reducible first|exact HB.out|apply qd1|apply qe1|apply qf1)|exact HB.out))) : w.heap.size ≤ gb108));clear HB;have HB:=n0_;have BK108:=n1_;have GW108:=n2_;have GE108:=n3_;clear n0_ n1_ n2_ n3_;clear hb hbox hg)|((with_reducible refine gate_dst (N:=2) rfl ?_);refine box_event ?hg (N:=2) ?hd (cs:=#[.int .i64 0,.int .i64 0]) (t:=73) ?hr ?_;(case hd => rfl);(case hg => rfl);(case hr => first|(go_simp;done)|(go_simp;rfl));intro gb109 hg w3 hbox hb;have n0_:=qh1 (qi1 (g:=gb108) (o:=.cells #[.int .i64 a0_0,.int .i64 a0_1] 160 (0,0)) (by (with_reducible repeat (first|apply qa1|apply qb1|apply qc1));exact BK108.out) hb);have n1_:=qh1 (qj1 (by repeat (first|(with_reducible first|exact HB.out|apply qd1|apply qe1|apply qf1|refine qg1 ?_ GE108.out)|exact HB.out)) hb);have n2_:=qh1 (hbox);have n3_:=qh1 ((by rw [hg];exact (qk1 (by repeat (first|(with_reducible first|exact HB.out|apply qd1|apply qe1|apply qf1|refine qg1 ?_ GE108.out)|exact HB.out))) : w.heap.size ≤ gb109));have n4_:=qh1 ((by rw [hg];exact (qk1 (by repeat (first|(with_reducible first|exact HB.out|apply qd1|apply qe1|apply qf1|refine qg1 ?_ GE108.out)|exact HB.out))) : w.heap.size ≤ gb109));have n5_:=qh1 ((by rw [hg];exact Nat.ne_of_lt (blk_lt (g:=gb108) (o:=.cells #[.int .i64 a0_0,.int .i64 a0_1] 160 (0,0)) (by (with_reducible repeat (first|apply qa1|apply qb1|apply qc1));exact BK108.out)) : gb108 ≠ gb109));have n6_:=qh1 ((by rw [hg];exact Nat.ne_of_gt (blk_lt (g:=gb108) (o:=.cells #[.int .i64 a0_0,.int .i64 a0_1] 160 (0,0)) (by (with_reducible repeat (first|apply qa1|apply qb1|apply qc1));exact BK108.out)) : gb109 ≠ gb108));clear BK108;clear HB;have BK108:=n0_;have HB:=n1_;have BK109:=n2_;have GW109:=n3_;have GE109:=n4_;have NB108_109:=n5_;have NB109_108:=n6_;clear n0_ n1_ n2_ n3_ n4_ n5_ n6_;clear hb hbox hg)|((with_reducible refine gate_dst (N:=3) rfl ?_);refine box_event ?hg (N:=3) ?hd (cs:=#[.int .i64 0,.int .i64 0]) (t:=73) ?hr ?_;(case hd => rfl);(case hg => rfl);(case hr => first|(go_simp;done)|(go_simp;rfl));intro gb110 hg w4 hbox hb;have n0_:=qh1 (qi1 (g:=gb108) (o:=.cells #[.int .i64 a0_0,.int .i64 a0_1] 160 (0,0)) (by (with_reducible repeat (first|apply qa1|apply qb1|apply qc1));exact BK108.out) hb);have n1_:=qh1 (qi1 (g:=gb109) (o:=.cells #[.int .i64 0,.int .i64 0] 73 (0,0)) (by (with_reducible repeat (first|apply qa1|apply qb1|apply qc1));exact BK109.out) hb);have n2_:=qh1 (qj1 (by repeat (first|(with_reducible first|exact HB.out|apply qd1|apply qe1|apply qf1|refine qg1 ?_ GE108.out|refine qg1 ?_ GE109.out)|exact HB.out)) hb);have n3_:=qh1 (hbox);have n4_:=qh1 ((by rw [hg];exact (qk1 (by repeat (first|(with_reducible first|exact HB.out|apply qd1|apply qe1|apply qf1|refine qg1 ?_ GE108.out|refine qg1 ?_ GE109.out)|exact HB.out))) : w.heap.size ≤ gb110));have n5_:=qh1 ((by rw [hg];exact (qk1 (by repeat (first|(with_reducible first|exact HB.out|apply qd1|apply qe1|apply qf1|refine qg1 ?_ GE108.out|refine qg1 ?_ GE109.out)|exact HB.out))) : w.heap.size ≤ gb110));have n6_:=qh1 ((by rw [hg];exact Nat.ne_of_lt (blk_lt (g:=gb108) (o:=.cells #[.int .i64 a0_0,.int .i64 a0_1] 160 (0,0)) (by (with_reducible repeat (first|apply qa1|apply qb1|apply qc1));exact BK108.out)) : gb108 ≠ gb110));have n7_:=qh1 ((by rw [hg];exact Nat.ne_of_gt (blk_lt (g:=gb108) (o:=.cells #[.int .i64 a0_0,.int .i64 a0_1] 160 (0,0)) (by (with_reducible repeat (first|apply qa1|apply qb1|apply qc1));exact BK108.out)) : gb110 ≠ gb108));have n8_:=qh1 ((by rw [hg];exact Nat.ne_of_lt (blk_lt (g:=gb109) (o:=.cells #[.int .i64 0,.int .i64 0] 73 (0,0)) (by (with_reducible repeat (first|apply qa1|apply qb1|apply qc1));exact BK109.out)) : gb109 ≠ gb110));have n9_:=qh1 ((by rw [hg];exact Nat.ne_of_gt (blk_lt (g:=gb109) (o:=.cells #[.int .i64 0,.int .i64 0] 73 (0,0)) (by (with_reducible repeat (first|apply qa1|apply qb1|apply qc1));exact BK109.out)) : gb110 ≠ gb109));clear BK108;clear BK109;clear HB;have BK108:=n0_;have BK109:=n1_;have HB:=n2_;have BK110:=n3_;have GW110:=n4_;have GE110:=n5_;have NB108_110:=n6_;have NB110_108:=n7_;have NB109_110:=n8_;have NB110_109:=n9_;clear n0_ n1_ n2_ n3_ n4_ n5_ n6_ n7_ n8_ n9_;clear hb hbox hg;have hnb5:=NB108_109.out;have hnc5:=NB109_108.out;have hnb6:=NB108_110.out;have hnc6:=NB110_108.out;have hcz7_0 : w4.cell? ⟨gb108,0,none⟩ = some (.int .i64 a0_0):=(blk_cell BK108.out 0).trans rfl;have hcz7_1 : w4.cell? ⟨gb108,1,none⟩ = some (.int .i64 a0_1):=(blk_cell BK108.out 1).trans rfl;have hfz7_0:=sJ BK108.out 0;have hfz7_1:=sJ BK108.out 1;have hnb8:=NB110_109.out;have hnc8:=NB109_110.out;have hcz9_0 : w4.cell? ⟨gb110,0,none⟩ = some (.int .i64 0):=(blk_cell BK110.out 0).trans rfl;have hcz9_1 : w4.cell? ⟨gb110,1,none⟩ = some (.int .i64 0):=(blk_cell BK110.out 1).trans rfl;have hfz9_0:=sJ BK110.out 0;have hfz9_1:=sJ BK110.out 1;have hcz10_0 : w4.cell? ⟨gb109,0,none⟩ = some (.int .i64 0):=(blk_cell BK109.out 0).trans rfl;have hcz10_1 : w4.cell? ⟨gb109,1,none⟩ = some (.int .i64 0):=(blk_cell BK109.out 1).trans rfl;have hfz10_0:=sJ BK109.out 0;have hfz10_1:=sJ BK109.out 1))
 refine bodyPost_ret (results_cell_row rfl _ _ gb109 73 #[.int .i64 a0_0,.int .i64 a0_1] (0,0) _ rfl (by (with_reducible repeat (first|apply qa1|apply qb1|apply qc1));refine blk_put (cs:=#[.int .i64 a0_0,.int .i64 0]) ?_ 1 _ rfl;(with_reducible repeat (first|apply qa1|apply qb1|apply qc1));refine blk_put (cs:=#[.int .i64 0,.int .i64 0]) ?_ 0 _ rfl;(with_reducible repeat (first|apply qa1|apply qb1|apply qc1));refine blk_far ?_ NB109_110.out _;(with_reducible repeat (first|apply qa1|apply qb1|apply qc1));refine blk_far ?_ NB109_110.out _;(with_reducible repeat (first|apply qa1|apply qb1|apply qc1));exact BK109.out) Try.underlying73 rfl (by kernel_rfl)) rfl ?_
 exact ⟨by first|rfl|(simp [errW_none,errW_some] <;> rfl)|(simp [*,errW_none,errW_some] <;> rfl),by repeat (first|(with_reducible first|exact HB.out|apply qd1|apply qe1|apply qf1|refine qg1 ?_ GE108.out|refine qg1 ?_ GE109.out|refine qg1 ?_ GE110.out)|exact HB.out)⟩

/-! ### laws_toWaiterS: function 102 -/
def laws_toWaiterS.l0 : Nat → List (S160) → List (S73) → Int → Option ((List (S73)))
 | 0,_,_,_ => none
 | k + 1,x0,x3,x4 => if x4 < (x0.length : Int) then (if 0 ≤ x4 then ((laws_toWaiter.f ((rd_T160 x0 x4).f0) ((rd_T160 x0 x4).f1)).bind fun bt115 => (if x4 < (x3.length : Int) then (laws_toWaiterS.l0 k x0 (x3.set (x4 : Int).toNat (⟨bt115.1,bt115.2⟩ : S73)) (wrap64 (x4 + 1))) else (none))) else (none)) else (some x3)
def laws_toWaiterS.f (k : Nat) (l0 : List (S160)) : Option ((List (S73))):=if 0 ≤ (l0.length : Int) then (if ((l0.length : Int) : Int).toNat ≤ 17592186044416 then (laws_toWaiterS.l0 k l0 (List.replicate ((l0.length : Int) : Int).toNat z73) 0) else (none)) else (none)
set_option maxHeartbeats 8000000 in
set_option maxRecDepth 100000 in
theorem laws_toWaiterS.calls (k : Nat) (A0 : Option Addr) (c0 : Nat) (l0 : List (S160)) (r : List (S73)) (w : World) (hr0 : Kd.C k160 w A0 l0.length l0) (hc0 : l0.length ≤ c0) (h : laws_toWaiterS.f k l0 = some r) :
  Calls Try.prog 102 #[.slice A0 l0.length c0] w fun e w' => ∃ v0_ : Value,e = .returned (v0_) ∧ Kd.R k73 73 w' w.heap.size (fun _ => True) v0_ r ∧ Below w.heap.size w w':=by
 have hu160:=Try.underlying160
 have hu73:=Try.underlying73
 have HR0:=qh1 hr0
 have HC0:=qh1 hc0
 clear hr0 hc0
 have HB:=qh1 (Below.refl w.heap.size w)
 have H : (if 0 ≤ (l0.length : Int) then (if ((l0.length : Int) : Int).toNat ≤ 17592186044416 then (laws_toWaiterS.l0 k l0 (List.replicate ((l0.length : Int) : Int).toNat z73) 0) else (none)) else (none)) = some r:=h
 clear h
 by_cases c2 : 0 ≤ (l0.length : Int)
 ·
  rw [if_pos c2] at H
  have c2b0:=eq_true c2
  have c2b1 : decide (0 ≤ (l0.length : Int)) = true:=decide_eq_true c2
  clear c2
  by_cases c3 : ((l0.length : Int) : Int).toNat ≤ 17592186044416
  ·
   rw [if_pos c3] at H
   have c3b0:=eq_true c3
   have c3b1 : decide (((l0.length : Int) : Int).toNat ≤ 17592186044416) = true:=decide_eq_true c3
   clear c3
   obtain ⟨y111,hy111⟩ : ∃ y_ : List (S73),y_ = (List.replicate ((l0.length : Int) : Int).toNat z73):=⟨_,rfl⟩
   replace H : (laws_toWaiterS.l0 k l0 y111 0) = some r:=by first|(rw [hy111];with_reducible exact H)|(have H2_:=(Option.bind_some _ _).symm.trans H;rw [hy111];with_reducible exact H2_)|(have H2_:=(Option.bind_some _ _).symm.trans H;with_reducible exact H2_)|with_reducible exact H|(rw [hy111];exact H)|exact H
   have Ny111:=qh1 hy111
   clear hy111
   have H':=qh1 H
   clear H
   go_enter Try.func102,Try.ntmps102
   go_wp2_with (first|((with_reducible refine gate_dst (N:=7) rfl ?_);refine Kd.R_make k73 _ 73 rfl (N:=7) rfl 68 _ _ rfl (l0.length : Int) rfl rfl Try.underlying68 (.agg #[(.int .i64 0),(.int .i64 0)]) 16 info73 rfl (by decide) (by omega) z73 (ok:=fun _ => True) (okp:=fun _ => True) (k73_mkM _ _ _ z73 ) (fun _ hk => hk) trivial (sM (by first|(with_reducible assumption)|assumption)) (Nat.le_trans (Nat.mul_le_mul_right _ (sM (by first|(with_reducible assumption)|assumption) : (l0.length : Int).toNat ≤ 17592186044416)) (by omega)) (Below.refl _ _) (Nat.le_refl _) ?_;intro v112 w4 ho5 hb hg_ hnew_;clear hg_ hnew_;(first|rw [← Ny111.out] at ho5|(simp only [Int.reduceToNat] at ho5;rw [← Ny111.out] at ho5));have n0_:=qh1 (Kd.R_lower ho5 (qk1 (by repeat (first|(with_reducible first|exact HB.out|apply qd1|apply qe1|apply qf1)|exact HB.out))));have n1_:=qh1 (qj1 (by repeat (first|(with_reducible first|exact HB.out|apply qd1|apply qe1|apply qf1)|exact HB.out)) hb);clear HB;have HO113:=n0_;have HB:=n1_;clear n0_ n1_;clear hb ho5))
   go_loopg [4] k (fun kq v4 w' => ∃ (x3_1 : List (S73)) (x4_1 : Int),v4 = .int .i64 x4_1 ∧ Aside0 (laws_toWaiterS.l0 kq l0 x3_1 x4_1 = some r) ∧ Aside0 (kq ≤ k) ∧ Aside0 (Kd.R k73 73 w' w.heap.size (fun _ => True) v112 x3_1) ∧ Aside0 (Below w.heap.size w w'))
   case atStart => exact ⟨(y111),(0),(by first|rfl|(simp;done)|(simp [*];done)),H',⟨Nat.le_refl _⟩,⟨by (with_reducible repeat (first|apply Kd.R_alloc|apply Kd.R_drewN|apply Kd.R_drew));exact HO113.out⟩,⟨by repeat (first|(with_reducible first|exact HB.out|apply qd1|apply qe1|apply qf1)|exact HB.out)⟩⟩
   case round =>
    clear H'
    try clear c1
    try clear c2
    try clear c2b0
    try clear c2b1
    try clear p2
    try clear c3
    try clear c3b0
    try clear c3b1
    obtain ⟨x3_1,x4_1,rfl,HA,HK1,HO_3,HB⟩:=hrel
    cases gk with
    | zero => exact absurd HA.out (by simp [laws_toWaiterS.l0])
    | succ k1 =>
     have H:=HA.out
     clear HA
     simp only [laws_toWaiterS.l0] at H
     by_cases c6 : x4_1 < (l0.length : Int)
     ·
      rw [if_pos c6] at H
      have c6b0 : decide (x4_1 < (l0.length : Int)) = true:=decide_eq_true c6
      clear c6
      by_cases c7 : 0 ≤ x4_1
      ·
       rw [if_pos c7] at H
       have c7b0 : decide (0 ≤ x4_1) = true:=decide_eq_true c7
       clear c7
       replace H:=Option.bind_eq_some_iff.mp H
       obtain ⟨⟨t115,t116⟩,A80,H⟩:=H
       replace H : (if x4_1 < (x3_1.length : Int) then (laws_toWaiterS.l0 k1 l0 (x3_1.set (x4_1 : Int).toNat (⟨t115,t116⟩ : S73)) (wrap64 (x4_1 + 1))) else (none)) = some r:=H
       have A8:=qh1 A80
       clear A80
       by_cases c9 : x4_1 < (x3_1.length : Int)
       ·
        rw [if_pos c9] at H
        have c9b0 : decide (x4_1 < (x3_1.length : Int)) = true:=decide_eq_true c9
        clear c9
        obtain ⟨y117,hy117⟩ : ∃ y_ : List (S73),y_ = (x3_1.set (x4_1 : Int).toNat (⟨t115,t116⟩ : S73)):=⟨_,rfl⟩
        replace H : (laws_toWaiterS.l0 k1 l0 y117 (wrap64 (x4_1 + 1))) = some r:=by first|(rw [hy117];with_reducible exact H)|(have H2_:=(Option.bind_some _ _).symm.trans H;rw [hy117];with_reducible exact H2_)|(have H2_:=(Option.bind_some _ _).symm.trans H;with_reducible exact H2_)|with_reducible exact H|(rw [hy117];exact H)|exact H
        have Ny117:=qh1 hy117
        clear hy117
        have H':=qh1 H
        clear H
        have p114 : 0 ≤ (x4_1 : Int):=sM (by first|(with_reducible assumption)|assumption)
        have q114 : x4_1 < (l0.length : Int):=sM (by first|(with_reducible assumption)|assumption)
        obtain ⟨ad114,e114,hx114_0,hx114_1⟩:=at_T160 HR0.out x4_1 p114 q114
        cases e114
        replace hx114_0:=(HB.out.cell (sD w _ hx114_0)).trans hx114_0
        replace hx114_1:=(HB.out.cell (sD w _ hx114_1)).trans hx114_1
        replace p114:=eq_true p114
        replace q114:=eq_true q114
        go_wp2_with (first|((with_reducible refine gate_callee (f:=125) rfl ?_);refine goesL_ (some 20) rfl rfl Try.func125 (by kernel_rfl) rfl #[.agg #[.int .i64 ((rd_T160 l0 x4_1).f0),.int .i64 ((rd_T160 l0 x4_1).f1)]] rfl (by (try simp only [sE,sH,sI]);first|done|rfl|(simp only [sG,sF];rfl)) ?_;(with_reducible refine (laws_toWaiter.calls ((rd_T160 l0 x4_1).f0) ((rd_T160 l0 x4_1).f1) t115 t116 _ A8.out).mono ?_);rintro e w11 ⟨rfl,hb⟩;refine ⟨_,rfl,?_⟩;have n0_:=qh1 (Kd.R_below (by (with_reducible repeat (first|apply Kd.R_alloc|apply Kd.R_drewN|apply Kd.R_drew));exact HO_3.out) hb);have n1_:=qh1 (qj1 (by repeat (first|(with_reducible first|exact HB.out|apply qd1|apply qe1|apply qf1)|exact HB.out)) hb);clear HO_3;clear HB;have HO_3:=n0_;have HB:=n1_;clear n0_ n1_;(try clear hb);(try clear hb2);(try clear hk);(try clear hi);have p10 : 0 ≤ (x4_1 : Int):=sM (by first|(with_reducible assumption)|assumption);have q10 : (x4_1 : Int) < ((x3_1.length : Int) : Int):=sM (by first|(with_reducible assumption)|assumption);obtain ⟨go10,co10,eo10,gb10,gl10,cl10,HG10⟩:=Kd.R_form HO_3.out (by omega);(first|cases eo10|(injection eo10 with ea_ en_ ec_;(first|subst ea_|(injection ea_ with ea_;subst ea_));subst ec_;clear en_));have GB10:=qh1 gb10;have GG10:=qh1 HG10;clear gb10 gl10 HG10;obtain ⟨ce10,hcl10,hM10,hcc10,hfr10⟩:=Kd.R_elem HO_3.out z73 (x4_1 : Int) p10 q10;obtain rfl:=k73_openM hM10;have hx10_0 : w11.cell? ⟨go10,(x4_1 : Int).toNat * 2,none⟩ = some (.int .i64 ((rd_T73 x3_1 x4_1).f0)):=hcc10 0 _ rfl;have hx10_1 : w11.cell? ⟨go10,(x4_1 : Int).toNat * 2 + 1,none⟩ = some (.int .i64 ((rd_T73 x3_1 x4_1).f1)):=hcc10 1 _ rfl;have hf10_0 : w11.frozen? ⟨go10,(x4_1 : Int).toNat * 2,none⟩ = false:=hfr10 0 (by decide);have hf10_1 : w11.frozen? ⟨go10,(x4_1 : Int).toNat * 2 + 1,none⟩ = false:=hfr10 1 (by decide);clear hcl10 hcc10 hfr10 hM10;replace p10:=eq_true p10;replace q10:=eq_true q10;have HX12:=qh1 (show Kd.R k73 73 w11 w.heap.size (fun _ => True) (.slice (some ⟨go10,0,none⟩) x3_1.length co10) x3_1 from (by (with_reducible repeat (first|apply Kd.R_alloc|apply Kd.R_drewN|apply Kd.R_drew));exact HO_3.out));obtain ⟨ce12,hcl12,hM12,hcc12,hfr12⟩:=Kd.R_elem HX12.out z73 (x4_1 : Int) (sM (by first|(with_reducible assumption)|assumption)) (by have h_ : (x4_1 : Int) < ((x3_1.length : Int) : Int):=sM (by first|(with_reducible assumption)|assumption);first|exact h_|(have e_:=(Kd.R_reads' HO_3.out).1;omega)|simpa using h_);obtain rfl:=k73_openM hM12;have HP12:=Kd.R_seg HX12.out (x4_1 : Int) (sM (by first|(with_reducible assumption)|assumption)) (by have h_ : (x4_1 : Int) < ((x3_1.length : Int) : Int):=sM (by first|(with_reducible assumption)|assumption);first|exact h_|(have e_:=(Kd.R_reads' HO_3.out).1;omega)|simpa using h_) (seg:=[.int .i64 t115,.int .i64 t116]) (j:=0) hcl12 hcc12 (show 2 ≤ 2 from by decide) (x':=(⟨t115,t116⟩ : S73)) (k73_mkM _ _ _ (⟨t115,t116⟩ : S73) ) (fun _ hk => hk);have hx12_0:=hcc12 0 _ rfl;(try simp only [show (k73).sz = 2 from rfl,Nat.mul_one,Nat.add_zero] at hx12_0);have hf12_0:=hfr12 0 (by decide);(try simp only [show (k73).sz = 2 from rfl,Nat.mul_one,Nat.add_zero] at hf12_0);have hx12_1:=hcc12 1 _ rfl;(try simp only [show (k73).sz = 2 from rfl,Nat.mul_one,Nat.add_zero] at hx12_1);have hf12_1:=hfr12 1 (by decide);(try simp only [show (k73).sz = 2 from rfl,Nat.mul_one,Nat.add_zero] at hf12_1);clear hcl12 hcc12 hfr12 hM12)|((with_reducible refine gate_store (t:=73) (p:=21) rfl ?_);refine store_event (t:=73) (p:=21) (v:=?vo_w13) (w1:=((w11.setCell ⟨go10,(x4_1 : Int).toNat * 2,none⟩ (.int .i64 t115)).setCell ⟨go10,(x4_1 : Int).toNat * 2 + 1,none⟩ (.int .i64 t116))) ?hg ?ho ?hn ?hr ?_;(case ho => rfl);(case hg => rfl);(case hn => rfl);(case hr => first|(go_simp;done)|(go_simp;rfl));intro w13 hw;have hg : w11.grownBy w13 (some go10):=(by rw [hw];exact HP12.2);have hp_ : Kd.R k73 73 w13 w.heap.size (fun _ => True) (.slice (some ⟨go10,0,none⟩) x3_1.length co10) y117:=(by rw [hw,Ny117.out];exact HP12.1);clear HP12;have n0_:=qh1 (hp_);have n1_:=qh1 ((by rw [hw];exact qg1 (qg1 (HB.out) GB10.out) GB10.out : Below w.heap.size w w13));clear HO_3;clear HB;have HO_3:=n0_;have HB:=n1_;clear n0_ n1_;clear hg hw hp_))
        go_roundg k1
        case measure => have:=HK1.out;omega
        case rel => exact ⟨(y117),(wrap64 (x4_1 + 1)),(by first|rfl|(simp;done)|(simp [*];done)),H',⟨by have:=HK1.out;omega⟩,⟨by (with_reducible repeat (first|apply Kd.R_alloc|apply Kd.R_drewN|apply Kd.R_drew));exact HO_3.out⟩,⟨by repeat (first|(with_reducible first|exact HB.out|apply qd1|apply qe1|apply qf1)|exact HB.out)⟩⟩
       ·
        rw [if_neg c9] at H
        exact absurd H (by simp)
      ·
       rw [if_neg c7] at H
       exact absurd H (by simp)
     ·
      rw [if_neg c6] at H
      have c6b0 : decide (x4_1 < (l0.length : Int)) = false:=decide_eq_false c6
      clear c6
      obtain rfl:=sO H
      go_wp2
      go_ret
      exact ⟨_,by first|rfl|(simp [errW_none,errW_some] <;> rfl)|(simp [*,errW_none,errW_some] <;> rfl),by (with_reducible repeat (first|apply Kd.R_alloc|apply Kd.R_drewN|apply Kd.R_drew));exact HO_3.out,by repeat (first|(with_reducible first|exact HB.out|apply qd1|apply qe1|apply qf1)|exact HB.out)⟩
  ·
   rw [if_neg c3] at H
   exact absurd H (by simp)
 ·
  rw [if_neg c2] at H
  exact absurd H (by simp)

/-! ### laws_toLock: function 73 -/
def laws_toLock.f (k : Nat) (a0_0 : ByteArray) (a0_1 : Int) (a0_2 : Int) (a0_3 : Int) (l0_4 : List (S160)) : Option (ByteArray × Int × Int × Int × (List (S73))):=(laws_toWaiterS.f k l0_4).bind fun t121 => (some (a0_0,a0_1,a0_2,a0_3,t121))
set_option maxHeartbeats 8000000 in
set_option maxRecDepth 100000 in
theorem laws_toLock.calls (k : Nat) (a0_0 : ByteArray) (a0_1 : Int) (a0_2 : Int) (a0_3 : Int) (A0_4 : Option Addr) (c0_4 : Nat) (l0_4 : List (S160)) (r1 : ByteArray) (r2 : Int) (r3 : Int) (r4 : Int) (r5 : List (S73)) (w : World) (hr0_4 : Kd.C k160 w A0_4 l0_4.length l0_4) (hc0_4 : l0_4.length ≤ c0_4) (h : laws_toLock.f k a0_0 a0_1 a0_2 a0_3 l0_4 = some (r1,r2,r3,r4,r5)) :
  Calls Try.prog 73 #[.agg #[.string a0_0,.int .i64 a0_1,.int .i64 a0_2,.int .i64 a0_3,.slice A0_4 l0_4.length c0_4]] w fun e w' => ∃ v4_ : Value,e = .returned (.agg #[.string r1,.int .i64 r2,.int .i64 r3,.int .i64 r4,v4_]) ∧ Kd.R k73 73 w' w.heap.size (fun _ => True) v4_ r5 ∧ Below w.heap.size w w':=by
 have hu110:=Try.underlying110
 have hu70:=Try.underlying70
 have HR0_4:=qh1 hr0_4
 have HC0_4:=qh1 hc0_4
 clear hr0_4 hc0_4
 have HB:=qh1 (Below.refl w.heap.size w)
 have H : ((laws_toWaiterS.f k l0_4).bind fun t121 => (some (a0_0,a0_1,a0_2,a0_3,t121))) = some (r1,r2,r3,r4,r5):=h
 clear h
 replace H:=Option.bind_eq_some_iff.mp H
 obtain ⟨t121,A20,H⟩:=H
 replace H : (some (a0_0,a0_1,a0_2,a0_3,t121)) = some (r1,r2,r3,r4,r5):=H
 have A2:=qh1 A20
 clear A20
 simp only [Option.some.injEq,Prod.mk.injEq] at H
 obtain ⟨rfl,rfl,rfl,rfl,rfl⟩:=H
 go_enter Try.func73,Try.ntmps73
 go_wp2_with (first|((with_reducible refine gate_dst (N:=1) rfl ?_);refine box_event ?hg (N:=1) ?hd (cs:=#[.string a0_0,.int .i64 a0_1,.int .i64 a0_2,.int .i64 a0_3,.slice A0_4 l0_4.length c0_4]) (t:=110) ?hr ?_;(case hd => rfl);(case hg => rfl);(case hr => first|(go_simp;done)|(go_simp;rfl));intro gb118 hg w3 hbox hb;have n0_:=qh1 (qj1 (by repeat (first|(with_reducible first|exact HB.out|apply qd1|apply qe1|apply qf1)|exact HB.out)) hb);have n1_:=qh1 (hbox);have n2_:=qh1 ((by rw [hg];exact (qk1 (by repeat (first|(with_reducible first|exact HB.out|apply qd1|apply qe1|apply qf1)|exact HB.out))) : w.heap.size ≤ gb118));have n3_:=qh1 ((by rw [hg];exact (qk1 (by repeat (first|(with_reducible first|exact HB.out|apply qd1|apply qe1|apply qf1)|exact HB.out))) : w.heap.size ≤ gb118));clear HB;have HB:=n0_;have BK118:=n1_;have GW118:=n2_;have GE118:=n3_;clear n0_ n1_ n2_ n3_;clear hb hbox hg)|((with_reducible refine gate_dst (N:=2) rfl ?_);refine box_event ?hg (N:=2) ?hd (cs:=#[.string (⟨#[]⟩ : ByteArray),.int .i64 0,.int .i64 0,.int .i64 0,.slice none 0 0]) (t:=70) ?hr ?_;(case hd => rfl);(case hg => rfl);(case hr => first|(go_simp;done)|(go_simp;rfl));intro gb119 hg w4 hbox hb;have n0_:=qh1 (qi1 (g:=gb118) (o:=.cells #[.string a0_0,.int .i64 a0_1,.int .i64 a0_2,.int .i64 a0_3,.slice A0_4 l0_4.length c0_4] 110 (0,0)) (by (with_reducible repeat (first|apply qa1|apply qb1|apply qc1));exact BK118.out) hb);have n1_:=qh1 (qj1 (by repeat (first|(with_reducible first|exact HB.out|apply qd1|apply qe1|apply qf1|refine qg1 ?_ GE118.out)|exact HB.out)) hb);have n2_:=qh1 (hbox);have n3_:=qh1 ((by rw [hg];exact (qk1 (by repeat (first|(with_reducible first|exact HB.out|apply qd1|apply qe1|apply qf1|refine qg1 ?_ GE118.out)|exact HB.out))) : w.heap.size ≤ gb119));have n4_:=qh1 ((by rw [hg];exact (qk1 (by repeat (first|(with_reducible first|exact HB.out|apply qd1|apply qe1|apply qf1|refine qg1 ?_ GE118.out)|exact HB.out))) : w.heap.size ≤ gb119));have n5_:=qh1 ((by rw [hg];exact Nat.ne_of_lt (blk_lt (g:=gb118) (o:=.cells #[.string a0_0,.int .i64 a0_1,.int .i64 a0_2,.int .i64 a0_3,.slice A0_4 l0_4.length c0_4] 110 (0,0)) (by (with_reducible repeat (first|apply qa1|apply qb1|apply qc1));exact BK118.out)) : gb118 ≠ gb119));have n6_:=qh1 ((by rw [hg];exact Nat.ne_of_gt (blk_lt (g:=gb118) (o:=.cells #[.string a0_0,.int .i64 a0_1,.int .i64 a0_2,.int .i64 a0_3,.slice A0_4 l0_4.length c0_4] 110 (0,0)) (by (with_reducible repeat (first|apply qa1|apply qb1|apply qc1));exact BK118.out)) : gb119 ≠ gb118));clear BK118;clear HB;have BK118:=n0_;have HB:=n1_;have BK119:=n2_;have GW119:=n3_;have GE119:=n4_;have NB118_119:=n5_;have NB119_118:=n6_;clear n0_ n1_ n2_ n3_ n4_ n5_ n6_;clear hb hbox hg)|((with_reducible refine gate_dst (N:=3) rfl ?_);refine box_event ?hg (N:=3) ?hd (cs:=#[.string (⟨#[]⟩ : ByteArray),.int .i64 0,.int .i64 0,.int .i64 0,.slice none 0 0]) (t:=70) ?hr ?_;(case hd => rfl);(case hg => rfl);(case hr => first|(go_simp;done)|(go_simp;rfl));intro gb120 hg w5 hbox hb;have n0_:=qh1 (qi1 (g:=gb118) (o:=.cells #[.string a0_0,.int .i64 a0_1,.int .i64 a0_2,.int .i64 a0_3,.slice A0_4 l0_4.length c0_4] 110 (0,0)) (by (with_reducible repeat (first|apply qa1|apply qb1|apply qc1));exact BK118.out) hb);have n1_:=qh1 (qi1 (g:=gb119) (o:=.cells #[.string (⟨#[]⟩ : ByteArray),.int .i64 0,.int .i64 0,.int .i64 0,.slice none 0 0] 70 (0,0)) (by (with_reducible repeat (first|apply qa1|apply qb1|apply qc1));exact BK119.out) hb);have n2_:=qh1 (qj1 (by repeat (first|(with_reducible first|exact HB.out|apply qd1|apply qe1|apply qf1|refine qg1 ?_ GE118.out|refine qg1 ?_ GE119.out)|exact HB.out)) hb);have n3_:=qh1 (hbox);have n4_:=qh1 ((by rw [hg];exact (qk1 (by repeat (first|(with_reducible first|exact HB.out|apply qd1|apply qe1|apply qf1|refine qg1 ?_ GE118.out|refine qg1 ?_ GE119.out)|exact HB.out))) : w.heap.size ≤ gb120));have n5_:=qh1 ((by rw [hg];exact (qk1 (by repeat (first|(with_reducible first|exact HB.out|apply qd1|apply qe1|apply qf1|refine qg1 ?_ GE118.out|refine qg1 ?_ GE119.out)|exact HB.out))) : w.heap.size ≤ gb120));have n6_:=qh1 ((by rw [hg];exact Nat.ne_of_lt (blk_lt (g:=gb118) (o:=.cells #[.string a0_0,.int .i64 a0_1,.int .i64 a0_2,.int .i64 a0_3,.slice A0_4 l0_4.length c0_4] 110 (0,0)) (by (with_reducible repeat (first|apply qa1|apply qb1|apply qc1));exact BK118.out)) : gb118 ≠ gb120));have n7_:=qh1 ((by rw [hg];exact Nat.ne_of_gt (blk_lt (g:=gb118) (o:=.cells #[.string a0_0,.int .i64 a0_1,.int .i64 a0_2,.int .i64 a0_3,.slice A0_4 l0_4.length c0_4] 110 (0,0)) (by (with_reducible repeat (first|apply qa1|apply qb1|apply qc1));exact BK118.out)) : gb120 ≠ gb118));have n8_:=qh1 ((by rw [hg];exact Nat.ne_of_lt (blk_lt (g:=gb119) (o:=.cells #[.string (⟨#[]⟩ : ByteArray),.int .i64 0,.int .i64 0,.int .i64 0,.slice none 0 0] 70 (0,0)) (by (with_reducible repeat (first|apply qa1|apply qb1|apply qc1));exact BK119.out)) : gb119 ≠ gb120));have n9_:=qh1 ((by rw [hg];exact Nat.ne_of_gt (blk_lt (g:=gb119) (o:=.cells #[.string (⟨#[]⟩ : ByteArray),.int .i64 0,.int .i64 0,.int .i64 0,.slice none 0 0] 70 (0,0)) (by (with_reducible repeat (first|apply qa1|apply qb1|apply qc1));exact BK119.out)) : gb120 ≠ gb119));clear BK118;clear BK119;clear HB;have BK118:=n0_;have BK119:=n1_;have HB:=n2_;have BK120:=n3_;have GW120:=n4_;have GE120:=n5_;have NB118_120:=n6_;have NB120_118:=n7_;have NB119_120:=n8_;have NB120_119:=n9_;clear n0_ n1_ n2_ n3_ n4_ n5_ n6_ n7_ n8_ n9_;clear hb hbox hg;have hnb6:=NB118_119.out;have hnc6:=NB119_118.out;have hnb7:=NB118_120.out;have hnc7:=NB120_118.out;have hcz8_0 : w5.cell? ⟨gb118,0,none⟩ = some (.string a0_0):=(blk_cell BK118.out 0).trans rfl;have hcz8_1 : w5.cell? ⟨gb118,1,none⟩ = some (.int .i64 a0_1):=(blk_cell BK118.out 1).trans rfl;have hcz8_2 : w5.cell? ⟨gb118,2,none⟩ = some (.int .i64 a0_2):=(blk_cell BK118.out 2).trans rfl;have hcz8_3 : w5.cell? ⟨gb118,3,none⟩ = some (.int .i64 a0_3):=(blk_cell BK118.out 3).trans rfl;have hcz8_4 : w5.cell? ⟨gb118,4,none⟩ = some (.slice A0_4 l0_4.length c0_4):=(blk_cell BK118.out 4).trans rfl;have hfz8_0:=sJ BK118.out 0;have hfz8_1:=sJ BK118.out 1;have hfz8_2:=sJ BK118.out 2;have hfz8_3:=sJ BK118.out 3;have hfz8_4:=sJ BK118.out 4;have hnb9:=NB120_119.out;have hnc9:=NB119_120.out;have hcz10_0 : w5.cell? ⟨gb120,0,none⟩ = some (.string (⟨#[]⟩ : ByteArray)):=(blk_cell BK120.out 0).trans rfl;have hcz10_1 : w5.cell? ⟨gb120,1,none⟩ = some (.int .i64 0):=(blk_cell BK120.out 1).trans rfl;have hcz10_2 : w5.cell? ⟨gb120,2,none⟩ = some (.int .i64 0):=(blk_cell BK120.out 2).trans rfl;have hcz10_3 : w5.cell? ⟨gb120,3,none⟩ = some (.int .i64 0):=(blk_cell BK120.out 3).trans rfl;have hcz10_4 : w5.cell? ⟨gb120,4,none⟩ = some (.slice none 0 0):=(blk_cell BK120.out 4).trans rfl;have hfz10_0:=sJ BK120.out 0;have hfz10_1:=sJ BK120.out 1;have hfz10_2:=sJ BK120.out 2;have hfz10_3:=sJ BK120.out 3;have hfz10_4:=sJ BK120.out 4)|((with_reducible refine gate_callee (f:=102) rfl ?_);refine goesL_ (some 18) rfl rfl Try.func102 (by kernel_rfl) rfl #[.slice A0_4 l0_4.length c0_4] rfl (by (try simp only [sE,sH,sI]);first|done|rfl|(simp only [sG,sF];rfl)) ?_;(with_reducible refine (laws_toWaiterS.calls k _ _ l0_4 t121 _ ?side1 ?side2 A2.out).mono ?_);(case side1 => exact Kd.C_below HR0_4.out (by repeat (first|(with_reducible first|exact HB.out|apply qd1|apply qe1|apply qf1|refine qg1 ?_ GE118.out|refine qg1 ?_ GE119.out|refine qg1 ?_ GE120.out)|exact HB.out)));(case side2 => exact HC0_4.out);rintro e w11 ⟨v122,rfl,ho0,hb⟩;refine ⟨_,rfl,?_⟩;have n0_:=qh1 (Kd.R_lower ho0 (qk1 (by repeat (first|(with_reducible first|exact HB.out|apply qd1|apply qe1|apply qf1|refine qg1 ?_ GE118.out|refine qg1 ?_ GE119.out|refine qg1 ?_ GE120.out)|exact HB.out))));have n1_:=qh1 (qi1 (g:=gb118) (o:=.cells #[.string a0_0,.int .i64 a0_1,.int .i64 a0_2,.int .i64 a0_3,.slice A0_4 l0_4.length c0_4] 110 (0,0)) (by (with_reducible repeat (first|apply qa1|apply qb1|apply qc1));refine blk_far ?_ NB118_120.out _;(with_reducible repeat (first|apply qa1|apply qb1|apply qc1));refine blk_far ?_ NB118_120.out _;(with_reducible repeat (first|apply qa1|apply qb1|apply qc1));refine blk_far ?_ NB118_120.out _;(with_reducible repeat (first|apply qa1|apply qb1|apply qc1));refine blk_far ?_ NB118_120.out _;(with_reducible repeat (first|apply qa1|apply qb1|apply qc1));exact BK118.out) hb);have n2_:=qh1 (qi1 (g:=gb119) (o:=.cells #[.string (⟨#[]⟩ : ByteArray),.int .i64 0,.int .i64 0,.int .i64 0,.slice none 0 0] 70 (0,0)) (by (with_reducible repeat (first|apply qa1|apply qb1|apply qc1));refine blk_far ?_ NB119_120.out _;(with_reducible repeat (first|apply qa1|apply qb1|apply qc1));refine blk_far ?_ NB119_120.out _;(with_reducible repeat (first|apply qa1|apply qb1|apply qc1));refine blk_far ?_ NB119_120.out _;(with_reducible repeat (first|apply qa1|apply qb1|apply qc1));refine blk_far ?_ NB119_120.out _;(with_reducible repeat (first|apply qa1|apply qb1|apply qc1));exact BK119.out) hb);have n3_:=qh1 (qi1 (g:=gb120) (o:=.cells #[.string a0_0,.int .i64 a0_1,.int .i64 a0_2,.int .i64 a0_3,.slice none 0 0] 70 (0,0)) (by (with_reducible repeat (first|apply qa1|apply qb1|apply qc1));refine blk_put (cs:=#[.string a0_0,.int .i64 a0_1,.int .i64 a0_2,.int .i64 0,.slice none 0 0]) ?_ 3 _ rfl;(with_reducible repeat (first|apply qa1|apply qb1|apply qc1));refine blk_put (cs:=#[.string a0_0,.int .i64 a0_1,.int .i64 0,.int .i64 0,.slice none 0 0]) ?_ 2 _ rfl;(with_reducible repeat (first|apply qa1|apply qb1|apply qc1));refine blk_put (cs:=#[.string a0_0,.int .i64 0,.int .i64 0,.int .i64 0,.slice none 0 0]) ?_ 1 _ rfl;(with_reducible repeat (first|apply qa1|apply qb1|apply qc1));refine blk_put (cs:=#[.string (⟨#[]⟩ : ByteArray),.int .i64 0,.int .i64 0,.int .i64 0,.slice none 0 0]) ?_ 0 _ rfl;(with_reducible repeat (first|apply qa1|apply qb1|apply qc1));exact BK120.out) hb);have n4_:=qh1 (qj1 (by repeat (first|(with_reducible first|exact HB.out|apply qd1|apply qe1|apply qf1|refine qg1 ?_ GE118.out|refine qg1 ?_ GE119.out|refine qg1 ?_ GE120.out)|exact HB.out)) hb);clear BK118;clear BK119;clear BK120;clear HB;have HO123:=n0_;have BK118:=n1_;have BK119:=n2_;have BK120:=n3_;have HB:=n4_;clear n0_ n1_ n2_ n3_ n4_;(try clear hb);(try clear hb2);(try clear hk);(try clear hi);(try clear ho0);obtain ⟨Ao12,co12,eo12⟩:=Kd.R_slice HO123.out;subst eo12;have hcz13_0 : w11.cell? ⟨gb120,0,none⟩ = some (.string a0_0):=(blk_cell BK120.out 0).trans rfl;have hcz13_1 : w11.cell? ⟨gb120,1,none⟩ = some (.int .i64 a0_1):=(blk_cell BK120.out 1).trans rfl;have hcz13_2 : w11.cell? ⟨gb120,2,none⟩ = some (.int .i64 a0_2):=(blk_cell BK120.out 2).trans rfl;have hcz13_3 : w11.cell? ⟨gb120,3,none⟩ = some (.int .i64 a0_3):=(blk_cell BK120.out 3).trans rfl;have hcz13_4 : w11.cell? ⟨gb120,4,none⟩ = some (.slice none 0 0):=(blk_cell BK120.out 4).trans rfl;have hfz13_0:=sJ BK120.out 0;have hfz13_1:=sJ BK120.out 1;have hfz13_2:=sJ BK120.out 2;have hfz13_3:=sJ BK120.out 3;have hfz13_4:=sJ BK120.out 4;have hcz14_0 : w11.cell? ⟨gb119,0,none⟩ = some (.string (⟨#[]⟩ : ByteArray)):=(blk_cell BK119.out 0).trans rfl;have hcz14_1 : w11.cell? ⟨gb119,1,none⟩ = some (.int .i64 0):=(blk_cell BK119.out 1).trans rfl;have hcz14_2 : w11.cell? ⟨gb119,2,none⟩ = some (.int .i64 0):=(blk_cell BK119.out 2).trans rfl;have hcz14_3 : w11.cell? ⟨gb119,3,none⟩ = some (.int .i64 0):=(blk_cell BK119.out 3).trans rfl;have hcz14_4 : w11.cell? ⟨gb119,4,none⟩ = some (.slice none 0 0):=(blk_cell BK119.out 4).trans rfl;have hfz14_0:=sJ BK119.out 0;have hfz14_1:=sJ BK119.out 1;have hfz14_2:=sJ BK119.out 2;have hfz14_3:=sJ BK119.out 3;have hfz14_4:=sJ BK119.out 4))
 refine bodyPost_ret (results_cell_row rfl _ _ gb119 70 #[.string a0_0,.int .i64 a0_1,.int .i64 a0_2,.int .i64 a0_3,.slice Ao12 t121.length co12] (0,0) _ rfl (by (with_reducible repeat (first|apply qa1|apply qb1|apply qc1));refine blk_put (cs:=#[.string a0_0,.int .i64 a0_1,.int .i64 a0_2,.int .i64 a0_3,.slice none 0 0]) ?_ 4 _ rfl;(with_reducible repeat (first|apply qa1|apply qb1|apply qc1));refine blk_put (cs:=#[.string a0_0,.int .i64 a0_1,.int .i64 a0_2,.int .i64 0,.slice none 0 0]) ?_ 3 _ rfl;(with_reducible repeat (first|apply qa1|apply qb1|apply qc1));refine blk_put (cs:=#[.string a0_0,.int .i64 a0_1,.int .i64 0,.int .i64 0,.slice none 0 0]) ?_ 2 _ rfl;(with_reducible repeat (first|apply qa1|apply qb1|apply qc1));refine blk_put (cs:=#[.string a0_0,.int .i64 0,.int .i64 0,.int .i64 0,.slice none 0 0]) ?_ 1 _ rfl;(with_reducible repeat (first|apply qa1|apply qb1|apply qc1));refine blk_put (cs:=#[.string (⟨#[]⟩ : ByteArray),.int .i64 0,.int .i64 0,.int .i64 0,.slice none 0 0]) ?_ 0 _ rfl;(with_reducible repeat (first|apply qa1|apply qb1|apply qc1));refine blk_far ?_ NB119_120.out _;(with_reducible repeat (first|apply qa1|apply qb1|apply qc1));exact BK119.out) Try.underlying70 rfl (by kernel_rfl)) rfl ?_
 exact ⟨_,by first|rfl|(simp [errW_none,errW_some] <;> rfl)|(simp [*,errW_none,errW_some] <;> rfl),by (with_reducible repeat (first|apply Kd.R_alloc|apply Kd.R_drewN|apply Kd.R_drew));exact Kd.R_mono (Kd.R_far (p:=⟨gb119,4,none⟩) (Kd.R_far (p:=⟨gb119,3,none⟩) (Kd.R_far (p:=⟨gb119,2,none⟩) (Kd.R_far (p:=⟨gb119,1,none⟩) (Kd.R_far (p:=⟨gb119,0,none⟩) (Kd.R_far (p:=⟨gb120,4,none⟩) (Kd.R_types (Kd.R_types HO123.out BK120.out (by decide)) BK119.out (by decide)) (fun _ hk => hk.1.2) (.slice Ao12 t121.length co12)) (fun _ hk => hk.2) (.string a0_0)) (fun _ hk => hk.2) (.int .i64 a0_1)) (fun _ hk => hk.2) (.int .i64 a0_2)) (fun _ hk => hk.2) (.int .i64 a0_3)) (fun _ hk => hk.2) (.slice Ao12 t121.length co12)) (fun _ hk => trivial),by repeat (first|(with_reducible first|exact HB.out|apply qd1|apply qe1|apply qf1|refine qg1 ?_ GE118.out|refine qg1 ?_ GE119.out|refine qg1 ?_ GE120.out)|exact HB.out)⟩

/-! ### laws_toLockS: function 44 -/
def laws_toLockS.l0 : Nat → List (S110) → List (S70) → Int → Option ((List (S70)))
 | 0,_,_,_ => none
 | k + 1,x0,x3,x4 => if x4 < (x0.length : Int) then (if 0 ≤ x4 then ((laws_toLock.f k ((rd_T110 x0 x4).f0) ((rd_T110 x0 x4).f1) ((rd_T110 x0 x4).f2) ((rd_T110 x0 x4).f3) ((rd_T110 x0 x4).f4)).bind fun bt128 => (if x4 < (x3.length : Int) then (laws_toLockS.l0 k x0 (x3.set (x4 : Int).toNat (⟨bt128.1,bt128.2.1,bt128.2.2.1,bt128.2.2.2.1,bt128.2.2.2.2⟩ : S70)) (wrap64 (x4 + 1))) else (none))) else (none)) else (some x3)
def laws_toLockS.f (k : Nat) (l0 : List (S110)) : Option ((List (S70))):=if 0 ≤ (l0.length : Int) then (if ((l0.length : Int) : Int).toNat ≤ 4398046511104 then (laws_toLockS.l0 k l0 (List.replicate ((l0.length : Int) : Int).toNat z70) 0) else (none)) else (none)
set_option maxHeartbeats 8000000 in
set_option maxRecDepth 100000 in
theorem laws_toLockS.calls (k : Nat) (A0 : Option Addr) (c0 : Nat) (l0 : List (S110)) (r : List (S70)) (w : World) (hr0 : Kd.C k110 w A0 l0.length l0) (hc0 : l0.length ≤ c0) (h : laws_toLockS.f k l0 = some r) :
  Calls Try.prog 44 #[.slice A0 l0.length c0] w fun e w' => ∃ v0_ : Value,e = .returned (v0_) ∧ Kd.S k70 70 w' w.heap.size (fun _ => True) v0_ r ∧ Below w.heap.size w w':=by
 have hu110:=Try.underlying110
 have hu70:=Try.underlying70
 have HR0:=qh1 hr0
 have HC0:=qh1 hc0
 clear hr0 hc0
 have HB:=qh1 (Below.refl w.heap.size w)
 have H : (if 0 ≤ (l0.length : Int) then (if ((l0.length : Int) : Int).toNat ≤ 4398046511104 then (laws_toLockS.l0 k l0 (List.replicate ((l0.length : Int) : Int).toNat z70) 0) else (none)) else (none)) = some r:=h
 clear h
 by_cases c2 : 0 ≤ (l0.length : Int)
 ·
  rw [if_pos c2] at H
  have c2b0:=eq_true c2
  have c2b1 : decide (0 ≤ (l0.length : Int)) = true:=decide_eq_true c2
  clear c2
  by_cases c3 : ((l0.length : Int) : Int).toNat ≤ 4398046511104
  ·
   rw [if_pos c3] at H
   have c3b0:=eq_true c3
   have c3b1 : decide (((l0.length : Int) : Int).toNat ≤ 4398046511104) = true:=decide_eq_true c3
   clear c3
   obtain ⟨y124,hy124⟩ : ∃ y_ : List (S70),y_ = (List.replicate ((l0.length : Int) : Int).toNat z70):=⟨_,rfl⟩
   replace H : (laws_toLockS.l0 k l0 y124 0) = some r:=by first|(rw [hy124];with_reducible exact H)|(have H2_:=(Option.bind_some _ _).symm.trans H;rw [hy124];with_reducible exact H2_)|(have H2_:=(Option.bind_some _ _).symm.trans H;with_reducible exact H2_)|with_reducible exact H|(rw [hy124];exact H)|exact H
   have Ny124:=qh1 hy124
   clear hy124
   have H':=qh1 H
   clear H
   go_enter Try.func44,Try.ntmps44
   go_wp2_with (first|((with_reducible refine gate_dst (N:=7) rfl ?_);refine Kd.S_make k70 _ 70 rfl (N:=7) rfl 28 _ _ rfl (l0.length : Int) rfl rfl Try.underlying28 (.agg #[(.string ⟨#[]⟩),(.int .i64 0),(.int .i64 0),(.int .i64 0),(.slice none 0 0)]) 64 info70 rfl (by decide) (by omega) z70 (ok:=fun _ => True) (okp:=fun _ => True) (k70_mkM _ _ _ z70 (Kd.R_nil _ _ _ _ _)) (fun _ hk => hk) trivial (sM (by first|(with_reducible assumption)|assumption)) (Nat.le_trans (Nat.mul_le_mul_right _ (sM (by first|(with_reducible assumption)|assumption) : (l0.length : Int).toNat ≤ 4398046511104)) (by omega)) (Below.refl _ _) (Nat.le_refl _) ?_;intro v125 w4 ho5 hb hg_ hnew_;clear hg_ hnew_;(first|rw [← Ny124.out] at ho5|(simp only [Int.reduceToNat] at ho5;rw [← Ny124.out] at ho5));have n0_:=qh1 (Kd.S_lower ho5 (qk1 (by repeat (first|(with_reducible first|exact HB.out|apply qd1|apply qe1|apply qf1)|exact HB.out))));have n1_:=qh1 (qj1 (by repeat (first|(with_reducible first|exact HB.out|apply qd1|apply qe1|apply qf1)|exact HB.out)) hb);clear HB;have HO126:=n0_;have HB:=n1_;clear n0_ n1_;clear hb ho5))
   go_loopg [4] k (fun kq v4 w' => ∃ (x3_1 : List (S70)) (x4_1 : Int),v4 = .int .i64 x4_1 ∧ Aside0 (laws_toLockS.l0 kq l0 x3_1 x4_1 = some r) ∧ Aside0 (kq ≤ k) ∧ Aside0 (Kd.S k70 70 w' w.heap.size (fun _ => True) v125 x3_1) ∧ Aside0 (Below w.heap.size w w'))
   case atStart => exact ⟨(y124),(0),(by first|rfl|(simp;done)|(simp [*];done)),H',⟨Nat.le_refl _⟩,⟨by (with_reducible repeat (first|apply Kd.S_alloc|apply Kd.S_drewN|apply Kd.S_drew));exact HO126.out⟩,⟨by repeat (first|(with_reducible first|exact HB.out|apply qd1|apply qe1|apply qf1)|exact HB.out)⟩⟩
   case round =>
    clear H'
    try clear c2
    try clear c2b0
    try clear c2b1
    try clear p2
    try clear c3
    try clear c3b0
    try clear c3b1
    try clear c4
    obtain ⟨x3_1,x4_1,rfl,HA,HK1,HO_3,HB⟩:=hrel
    cases gk with
    | zero => exact absurd HA.out (by simp [laws_toLockS.l0])
    | succ k1 =>
     have H:=HA.out
     clear HA
     simp only [laws_toLockS.l0] at H
     by_cases c6 : x4_1 < (l0.length : Int)
     ·
      rw [if_pos c6] at H
      have c6b0 : decide (x4_1 < (l0.length : Int)) = true:=decide_eq_true c6
      clear c6
      by_cases c7 : 0 ≤ x4_1
      ·
       rw [if_pos c7] at H
       have c7b0 : decide (0 ≤ x4_1) = true:=decide_eq_true c7
       clear c7
       replace H:=Option.bind_eq_some_iff.mp H
       obtain ⟨⟨t128,t129,t130,t131,t132⟩,A80,H⟩:=H
       replace H : (if x4_1 < (x3_1.length : Int) then (laws_toLockS.l0 k1 l0 (x3_1.set (x4_1 : Int).toNat (⟨t128,t129,t130,t131,t132⟩ : S70)) (wrap64 (x4_1 + 1))) else (none)) = some r:=H
       have A8:=qh1 A80
       clear A80
       by_cases c9 : x4_1 < (x3_1.length : Int)
       ·
        rw [if_pos c9] at H
        have c9b0 : decide (x4_1 < (x3_1.length : Int)) = true:=decide_eq_true c9
        clear c9
        obtain ⟨y135,hy135⟩ : ∃ y_ : List (S70),y_ = (x3_1.set (x4_1 : Int).toNat (⟨t128,t129,t130,t131,t132⟩ : S70)):=⟨_,rfl⟩
        replace H : (laws_toLockS.l0 k1 l0 y135 (wrap64 (x4_1 + 1))) = some r:=by first|(rw [hy135];with_reducible exact H)|(have H2_:=(Option.bind_some _ _).symm.trans H;rw [hy135];with_reducible exact H2_)|(have H2_:=(Option.bind_some _ _).symm.trans H;with_reducible exact H2_)|with_reducible exact H|(rw [hy135];exact H)|exact H
        have Ny135:=qh1 hy135
        clear hy135
        have H':=qh1 H
        clear H
        have p127 : 0 ≤ (x4_1 : Int):=sM (by first|(with_reducible assumption)|assumption)
        have q127 : x4_1 < (l0.length : Int):=sM (by first|(with_reducible assumption)|assumption)
        obtain ⟨ad127,A127_4,c127_4,e127,hx127_0,hx127_1,hx127_2,hx127_3,hx127_4,hl127_4,hi127_4⟩:=at_T110 HR0.out x4_1 p127 q127
        cases e127
        replace hx127_0:=(HB.out.cell (sD w _ hx127_0)).trans hx127_0
        replace hx127_1:=(HB.out.cell (sD w _ hx127_1)).trans hx127_1
        replace hx127_2:=(HB.out.cell (sD w _ hx127_2)).trans hx127_2
        replace hx127_3:=(HB.out.cell (sD w _ hx127_3)).trans hx127_3
        replace hx127_4:=(HB.out.cell (sD w _ hx127_4)).trans hx127_4
        have HR127_4:=qh1 hi127_4
        have HC127_4:=qh1 hl127_4
        clear hi127_4 hl127_4
        replace p127:=eq_true p127
        replace q127:=eq_true q127
        go_wp2_with (first|((with_reducible refine gate_callee (f:=73) rfl ?_);refine goesL_ (some 20) rfl rfl Try.func73 (by kernel_rfl) rfl #[.agg #[.string ((rd_T110 l0 x4_1).f0),.int .i64 ((rd_T110 l0 x4_1).f1),.int .i64 ((rd_T110 l0 x4_1).f2),.int .i64 ((rd_T110 l0 x4_1).f3),.slice A127_4 ((rd_T110 l0 x4_1).f4).length c127_4]] rfl (by (try simp only [sE,sH,sI]);first|done|rfl|(simp only [sG,sF];rfl)) ?_;(with_reducible refine (laws_toLock.calls k1 ((rd_T110 l0 x4_1).f0) ((rd_T110 l0 x4_1).f1) ((rd_T110 l0 x4_1).f2) ((rd_T110 l0 x4_1).f3) _ _ ((rd_T110 l0 x4_1).f4) t128 t129 t130 t131 t132 _ ?side1 ?side2 A8.out).mono ?_);(case side1 => repeat (first|exact (Kd.C_below HR127_4.out HB.out)|(with_reducible refine Kd.C_alloc ?_ _)|(with_reducible refine Kd.C_drewN ?_ _)|(with_reducible refine Kd.C_drew ?_)));(case side2 => exact HC127_4.out);rintro e w11 ⟨v133,rfl,ho0,hb⟩;refine ⟨_,rfl,?_⟩;have hst_v133:=store_R_ (P:=Try.prog) ho0;have n0_:=qh1 (Kd.S_elder' (by (with_reducible repeat (first|apply Kd.S_alloc|apply Kd.S_drewN|apply Kd.S_drew));exact HO_3.out) (Kd.R_base ho0) hb);have n1_:=qh1 (Kd.R_lower ho0 (qk1 (by repeat (first|(with_reducible first|exact HB.out|apply qd1|apply qe1|apply qf1)|exact HB.out))));have n2_:=qh1 (qj1 (by repeat (first|(with_reducible first|exact HB.out|apply qd1|apply qe1|apply qf1)|exact HB.out)) hb);clear HO_3;clear HB;have HO_3:=n0_;have HO134:=n1_;have HB:=n2_;clear n0_ n1_ n2_;(try clear hb);(try clear hb2);(try clear hk);(try clear hi);(try clear ho0);have p10 : 0 ≤ (x4_1 : Int):=sM (by first|(with_reducible assumption)|assumption);have q10 : (x4_1 : Int) < ((x3_1.length : Int) : Int):=sM (by first|(with_reducible assumption)|assumption);obtain ⟨go10,co10,eo10,gb10,gl10,cl10,HG10⟩:=Kd.S_form HO_3.out (by omega);(first|cases eo10|(injection eo10 with ea_ en_ ec_;(first|subst ea_|(injection ea_ with ea_;subst ea_));subst ec_;clear en_));have GB10:=qh1 gb10;have GG10:=qh1 HG10;clear gb10 gl10 HG10;obtain ⟨_,ce10,hcl10,hM10,hcc10,hfr10,_,_⟩:=Kd.S_elem HO_3.out z70 (x4_1 : Int) p10 q10;obtain ⟨ve10_4,rfl,ge10_4⟩:=k70_openM hM10;have hx10_0 : w11.cell? ⟨go10,(x4_1 : Int).toNat * 5,none⟩ = some (.string ((rd_T70 x3_1 x4_1).f0)):=hcc10 0 _ rfl;have hx10_1 : w11.cell? ⟨go10,(x4_1 : Int).toNat * 5 + 1,none⟩ = some (.int .i64 ((rd_T70 x3_1 x4_1).f1)):=hcc10 1 _ rfl;have hx10_2 : w11.cell? ⟨go10,(x4_1 : Int).toNat * 5 + 2,none⟩ = some (.int .i64 ((rd_T70 x3_1 x4_1).f2)):=hcc10 2 _ rfl;have hx10_3 : w11.cell? ⟨go10,(x4_1 : Int).toNat * 5 + 3,none⟩ = some (.int .i64 ((rd_T70 x3_1 x4_1).f3)):=hcc10 3 _ rfl;have hx10_4 : w11.cell? ⟨go10,(x4_1 : Int).toNat * 5 + 4,none⟩ = some (ve10_4):=hcc10 4 _ rfl;have hf10_0 : w11.frozen? ⟨go10,(x4_1 : Int).toNat * 5,none⟩ = false:=hfr10 0 (by decide);have hf10_1 : w11.frozen? ⟨go10,(x4_1 : Int).toNat * 5 + 1,none⟩ = false:=hfr10 1 (by decide);have hf10_2 : w11.frozen? ⟨go10,(x4_1 : Int).toNat * 5 + 2,none⟩ = false:=hfr10 2 (by decide);have hf10_3 : w11.frozen? ⟨go10,(x4_1 : Int).toNat * 5 + 3,none⟩ = false:=hfr10 3 (by decide);have hf10_4 : w11.frozen? ⟨go10,(x4_1 : Int).toNat * 5 + 4,none⟩ = false:=hfr10 4 (by decide);clear hcl10 hcc10 hfr10 hM10;replace p10:=eq_true p10;replace q10:=eq_true q10;have n_:=qh1 (Kd.S_mono (ok':=(fun k_ => some k_ ≠ (v133 : Value).ownBlock)) HO_3.out (fun k_ hk => hk.2));clear HO_3;have HO_3:=n_;clear n_;have HX12:=qh1 (show Kd.S k70 70 w11 w.heap.size (fun k_ => ((fun _ => True)) k_ ∧ ¬ ((fun k_ => some k_ = (v133 : Value).ownBlock)) k_) (.slice (some ⟨go10,0,none⟩) x3_1.length co10) x3_1 from (by (with_reducible repeat (first|apply Kd.S_alloc|apply Kd.S_drewN|apply Kd.S_drew));exact Kd.S_mono HO_3.out (fun k_ hk => ⟨trivial,fun e_ => hk e_⟩)));obtain ⟨oki12,ce12,hcl12,hM12,hcc12,hfr12,hoki12,hH12⟩:=Kd.S_elem HX12.out z70 (x4_1 : Int) (sM (by first|(with_reducible assumption)|assumption)) (by have h_ : (x4_1 : Int) < ((x3_1.length : Int) : Int):=sM (by first|(with_reducible assumption)|assumption);first|exact h_|(have e_:=(Kd.S_reads' HO_3.out).1;omega)|simpa using h_);obtain ⟨ve12_4,rfl,ge12_4⟩:=k70_openM hM12;have HP12:=Kd.S_seg hH12 (sM (by first|(with_reducible assumption)|assumption)) (by have h_ : (x4_1 : Int) < ((x3_1.length : Int) : Int):=sM (by first|(with_reducible assumption)|assumption);first|exact h_|(have e_:=(Kd.S_reads' HO_3.out).1;omega)|simpa using h_) (seg:=[.string t128,.int .i64 t129,.int .i64 t130,.int .i64 t131,v133]) (j:=0) (show 5 ≤ 5 from by decide) (x':=(⟨t128,t129,t130,t131,t132⟩ : S70)) (k70_mkM _ _ _ (⟨t128,t129,t130,t131,t132⟩ : S70) (Kd.R_mono (Kd.R_tight rfl (Kd.R_mono (ok':=fun k_ => ((fun _ => True)) k_ ∧ k_ ≠ go10) (Kd.R_apart' (HO134.out) (Kd.S_typed HO_3.out) (by decide)) (fun k_ hk => ⟨trivial,fun e_ => (hk.2) (by rw [e_];rfl)⟩))) (fun _ h_ => Or.inr (h_)))) (fun _ hk => hk) (fun k_ hk_ => ((Kd.R_mono (ok':=fun k_ => ((fun _ => True)) k_ ∧ k_ ≠ go10) (Kd.R_apart' (HO134.out) (Kd.S_typed HO_3.out) (by decide)) (fun k_ hk => ⟨trivial,fun e_ => (hk.2) (by rw [e_];rfl)⟩))).1 k_ hk_.symm);have hx12_0:=hcc12 0 _ rfl;(try simp only [show (k70).sz = 5 from rfl,Nat.mul_one,Nat.add_zero] at hx12_0);have hf12_0:=hfr12 0 (by decide);(try simp only [show (k70).sz = 5 from rfl,Nat.mul_one,Nat.add_zero] at hf12_0);have hx12_1:=hcc12 1 _ rfl;(try simp only [show (k70).sz = 5 from rfl,Nat.mul_one,Nat.add_zero] at hx12_1);have hf12_1:=hfr12 1 (by decide);(try simp only [show (k70).sz = 5 from rfl,Nat.mul_one,Nat.add_zero] at hf12_1);have hx12_2:=hcc12 2 _ rfl;(try simp only [show (k70).sz = 5 from rfl,Nat.mul_one,Nat.add_zero] at hx12_2);have hf12_2:=hfr12 2 (by decide);(try simp only [show (k70).sz = 5 from rfl,Nat.mul_one,Nat.add_zero] at hf12_2);have hx12_3:=hcc12 3 _ rfl;(try simp only [show (k70).sz = 5 from rfl,Nat.mul_one,Nat.add_zero] at hx12_3);have hf12_3:=hfr12 3 (by decide);(try simp only [show (k70).sz = 5 from rfl,Nat.mul_one,Nat.add_zero] at hf12_3);have hx12_4:=hcc12 4 _ rfl;(try simp only [show (k70).sz = 5 from rfl,Nat.mul_one,Nat.add_zero] at hx12_4);have hf12_4:=hfr12 4 (by decide);(try simp only [show (k70).sz = 5 from rfl,Nat.mul_one,Nat.add_zero] at hf12_4);clear hcl12 hcc12 hfr12 hM12 hoki12 hH12)|((with_reducible refine gate_store (t:=70) (p:=21) rfl ?_);refine store_event (t:=70) (p:=21) (v:=?vo_w13) (w1:=(((((w11.setCell ⟨go10,(x4_1 : Int).toNat * 5,none⟩ (.string t128)).setCell ⟨go10,(x4_1 : Int).toNat * 5 + 1,none⟩ (.int .i64 t129)).setCell ⟨go10,(x4_1 : Int).toNat * 5 + 2,none⟩ (.int .i64 t130)).setCell ⟨go10,(x4_1 : Int).toNat * 5 + 3,none⟩ (.int .i64 t131)).setCell ⟨go10,(x4_1 : Int).toNat * 5 + 4,none⟩ (v133))) ?hg ?ho ?hn ?hr ?_;(case ho => rfl);(case hg => rfl);(case hn => rfl);(case hr => first|(go_simp;done)|(go_simp;rfl));intro w13 hw;have hg : w11.grownBy w13 (some go10):=(by rw [hw];exact HP12.2);have hp_ : Kd.S k70 70 w13 w.heap.size (fun _ => True) (.slice (some ⟨go10,0,none⟩) x3_1.length co10) y135:=(by rw [hw,Ny135.out];exact HP12.1);clear HP12;have n0_:=qh1 (hp_);have n1_:=qh1 ((by rw [hw];exact qg1 (qg1 (qg1 (qg1 (qg1 (HB.out) GB10.out) GB10.out) GB10.out) GB10.out) GB10.out : Below w.heap.size w w13));clear HO_3;clear HB;clear HO134;have HO_3:=n0_;have HB:=n1_;clear n0_ n1_;clear hg hw hp_))
        go_roundg k1
        case measure => have:=HK1.out;omega
        case rel => exact ⟨(y135),(wrap64 (x4_1 + 1)),(by first|rfl|(simp;done)|(simp [*];done)),H',⟨by have:=HK1.out;omega⟩,⟨by (with_reducible repeat (first|apply Kd.S_alloc|apply Kd.S_drewN|apply Kd.S_drew));exact HO_3.out⟩,⟨by repeat (first|(with_reducible first|exact HB.out|apply qd1|apply qe1|apply qf1)|exact HB.out)⟩⟩
       ·
        rw [if_neg c9] at H
        exact absurd H (by simp)
      ·
       rw [if_neg c7] at H
       exact absurd H (by simp)
     ·
      rw [if_neg c6] at H
      have c6b0 : decide (x4_1 < (l0.length : Int)) = false:=decide_eq_false c6
      clear c6
      obtain rfl:=sO H
      go_wp2
      go_ret
      exact ⟨_,by first|rfl|(simp [errW_none,errW_some] <;> rfl)|(simp [*,errW_none,errW_some] <;> rfl),by (with_reducible repeat (first|apply Kd.S_alloc|apply Kd.S_drewN|apply Kd.S_drew));exact HO_3.out,by repeat (first|(with_reducible first|exact HB.out|apply qd1|apply qe1|apply qf1)|exact HB.out)⟩
  ·
   rw [if_neg c3] at H
   exact absurd H (by simp)
 ·
  rw [if_neg c2] at H
  exact absurd H (by simp)

/-! ### laws_toAnswer: function 103 -/
def laws_toAnswer.f (a0_0 : Int) (a0_1 : Int) (a0_2 : Int) (a0_3 : Int) : Option (Int × Int × Int × Int):=some (a0_0,a0_1,a0_2,a0_3)
set_option maxHeartbeats 8000000 in
set_option maxRecDepth 100000 in
theorem laws_toAnswer.calls (a0_0 : Int) (a0_1 : Int) (a0_2 : Int) (a0_3 : Int) (r1 : Int) (r2 : Int) (r3 : Int) (r4 : Int) (w : World) (h : laws_toAnswer.f a0_0 a0_1 a0_2 a0_3 = some (r1,r2,r3,r4)) :
  Calls Try.prog 103 #[.agg #[.int .i64 a0_0,.int .i64 a0_1,.int .i64 a0_2,.int .i64 a0_3]] w fun e w' => e = .returned (.agg #[.int .i64 r1,.int .i64 r2,.int .i64 r3,.int .i64 r4]) ∧ Below w.heap.size w w':=by
 have hu114:=Try.underlying114
 have hu75:=Try.underlying75
 have HB:=qh1 (Below.refl w.heap.size w)
 have H : (some (a0_0,a0_1,a0_2,a0_3)) = some (r1,r2,r3,r4):=h
 clear h
 simp only [Option.some.injEq,Prod.mk.injEq] at H
 obtain ⟨rfl,rfl,rfl,rfl⟩:=H
 go_enter Try.func103,Try.ntmps103
 go_wp2_with (first|((with_reducible refine gate_dst (N:=1) rfl ?_);refine box_event ?hg (N:=1) ?hd (cs:=#[.int .i64 a0_0,.int .i64 a0_1,.int .i64 a0_2,.int .i64 a0_3]) (t:=114) ?hr ?_;(case hd => rfl);(case hg => rfl);(case hr => first|(go_simp;done)|(go_simp;rfl));intro gb136 hg w2 hbox hb;have n0_:=qh1 (qj1 (by repeat (first|(with_reducible first|exact HB.out|apply qd1|apply qe1|apply qf1)|exact HB.out)) hb);have n1_:=qh1 (hbox);have n2_:=qh1 ((by rw [hg];exact (qk1 (by repeat (first|(with_reducible first|exact HB.out|apply qd1|apply qe1|apply qf1)|exact HB.out))) : w.heap.size ≤ gb136));have n3_:=qh1 ((by rw [hg];exact (qk1 (by repeat (first|(with_reducible first|exact HB.out|apply qd1|apply qe1|apply qf1)|exact HB.out))) : w.heap.size ≤ gb136));clear HB;have HB:=n0_;have BK136:=n1_;have GW136:=n2_;have GE136:=n3_;clear n0_ n1_ n2_ n3_;clear hb hbox hg)|((with_reducible refine gate_dst (N:=2) rfl ?_);refine box_event ?hg (N:=2) ?hd (cs:=#[.int .i64 0,.int .i64 0,.int .i64 0,.int .i64 0]) (t:=75) ?hr ?_;(case hd => rfl);(case hg => rfl);(case hr => first|(go_simp;done)|(go_simp;rfl));intro gb137 hg w3 hbox hb;have n0_:=qh1 (qi1 (g:=gb136) (o:=.cells #[.int .i64 a0_0,.int .i64 a0_1,.int .i64 a0_2,.int .i64 a0_3] 114 (0,0)) (by (with_reducible repeat (first|apply qa1|apply qb1|apply qc1));exact BK136.out) hb);have n1_:=qh1 (qj1 (by repeat (first|(with_reducible first|exact HB.out|apply qd1|apply qe1|apply qf1|refine qg1 ?_ GE136.out)|exact HB.out)) hb);have n2_:=qh1 (hbox);have n3_:=qh1 ((by rw [hg];exact (qk1 (by repeat (first|(with_reducible first|exact HB.out|apply qd1|apply qe1|apply qf1|refine qg1 ?_ GE136.out)|exact HB.out))) : w.heap.size ≤ gb137));have n4_:=qh1 ((by rw [hg];exact (qk1 (by repeat (first|(with_reducible first|exact HB.out|apply qd1|apply qe1|apply qf1|refine qg1 ?_ GE136.out)|exact HB.out))) : w.heap.size ≤ gb137));have n5_:=qh1 ((by rw [hg];exact Nat.ne_of_lt (blk_lt (g:=gb136) (o:=.cells #[.int .i64 a0_0,.int .i64 a0_1,.int .i64 a0_2,.int .i64 a0_3] 114 (0,0)) (by (with_reducible repeat (first|apply qa1|apply qb1|apply qc1));exact BK136.out)) : gb136 ≠ gb137));have n6_:=qh1 ((by rw [hg];exact Nat.ne_of_gt (blk_lt (g:=gb136) (o:=.cells #[.int .i64 a0_0,.int .i64 a0_1,.int .i64 a0_2,.int .i64 a0_3] 114 (0,0)) (by (with_reducible repeat (first|apply qa1|apply qb1|apply qc1));exact BK136.out)) : gb137 ≠ gb136));clear BK136;clear HB;have BK136:=n0_;have HB:=n1_;have BK137:=n2_;have GW137:=n3_;have GE137:=n4_;have NB136_137:=n5_;have NB137_136:=n6_;clear n0_ n1_ n2_ n3_ n4_ n5_ n6_;clear hb hbox hg)|((with_reducible refine gate_dst (N:=3) rfl ?_);refine box_event ?hg (N:=3) ?hd (cs:=#[.int .i64 0,.int .i64 0,.int .i64 0,.int .i64 0]) (t:=75) ?hr ?_;(case hd => rfl);(case hg => rfl);(case hr => first|(go_simp;done)|(go_simp;rfl));intro gb138 hg w4 hbox hb;have n0_:=qh1 (qi1 (g:=gb136) (o:=.cells #[.int .i64 a0_0,.int .i64 a0_1,.int .i64 a0_2,.int .i64 a0_3] 114 (0,0)) (by (with_reducible repeat (first|apply qa1|apply qb1|apply qc1));exact BK136.out) hb);have n1_:=qh1 (qi1 (g:=gb137) (o:=.cells #[.int .i64 0,.int .i64 0,.int .i64 0,.int .i64 0] 75 (0,0)) (by (with_reducible repeat (first|apply qa1|apply qb1|apply qc1));exact BK137.out) hb);have n2_:=qh1 (qj1 (by repeat (first|(with_reducible first|exact HB.out|apply qd1|apply qe1|apply qf1|refine qg1 ?_ GE136.out|refine qg1 ?_ GE137.out)|exact HB.out)) hb);have n3_:=qh1 (hbox);have n4_:=qh1 ((by rw [hg];exact (qk1 (by repeat (first|(with_reducible first|exact HB.out|apply qd1|apply qe1|apply qf1|refine qg1 ?_ GE136.out|refine qg1 ?_ GE137.out)|exact HB.out))) : w.heap.size ≤ gb138));have n5_:=qh1 ((by rw [hg];exact (qk1 (by repeat (first|(with_reducible first|exact HB.out|apply qd1|apply qe1|apply qf1|refine qg1 ?_ GE136.out|refine qg1 ?_ GE137.out)|exact HB.out))) : w.heap.size ≤ gb138));have n6_:=qh1 ((by rw [hg];exact Nat.ne_of_lt (blk_lt (g:=gb136) (o:=.cells #[.int .i64 a0_0,.int .i64 a0_1,.int .i64 a0_2,.int .i64 a0_3] 114 (0,0)) (by (with_reducible repeat (first|apply qa1|apply qb1|apply qc1));exact BK136.out)) : gb136 ≠ gb138));have n7_:=qh1 ((by rw [hg];exact Nat.ne_of_gt (blk_lt (g:=gb136) (o:=.cells #[.int .i64 a0_0,.int .i64 a0_1,.int .i64 a0_2,.int .i64 a0_3] 114 (0,0)) (by (with_reducible repeat (first|apply qa1|apply qb1|apply qc1));exact BK136.out)) : gb138 ≠ gb136));have n8_:=qh1 ((by rw [hg];exact Nat.ne_of_lt (blk_lt (g:=gb137) (o:=.cells #[.int .i64 0,.int .i64 0,.int .i64 0,.int .i64 0] 75 (0,0)) (by (with_reducible repeat (first|apply qa1|apply qb1|apply qc1));exact BK137.out)) : gb137 ≠ gb138));have n9_:=qh1 ((by rw [hg];exact Nat.ne_of_gt (blk_lt (g:=gb137) (o:=.cells #[.int .i64 0,.int .i64 0,.int .i64 0,.int .i64 0] 75 (0,0)) (by (with_reducible repeat (first|apply qa1|apply qb1|apply qc1));exact BK137.out)) : gb138 ≠ gb137));clear BK136;clear BK137;clear HB;have BK136:=n0_;have BK137:=n1_;have HB:=n2_;have BK138:=n3_;have GW138:=n4_;have GE138:=n5_;have NB136_138:=n6_;have NB138_136:=n7_;have NB137_138:=n8_;have NB138_137:=n9_;clear n0_ n1_ n2_ n3_ n4_ n5_ n6_ n7_ n8_ n9_;clear hb hbox hg;have hnb5:=NB136_137.out;have hnc5:=NB137_136.out;have hnb6:=NB136_138.out;have hnc6:=NB138_136.out;have hcz7_0 : w4.cell? ⟨gb136,0,none⟩ = some (.int .i64 a0_0):=(blk_cell BK136.out 0).trans rfl;have hcz7_1 : w4.cell? ⟨gb136,1,none⟩ = some (.int .i64 a0_1):=(blk_cell BK136.out 1).trans rfl;have hcz7_2 : w4.cell? ⟨gb136,2,none⟩ = some (.int .i64 a0_2):=(blk_cell BK136.out 2).trans rfl;have hcz7_3 : w4.cell? ⟨gb136,3,none⟩ = some (.int .i64 a0_3):=(blk_cell BK136.out 3).trans rfl;have hfz7_0:=sJ BK136.out 0;have hfz7_1:=sJ BK136.out 1;have hfz7_2:=sJ BK136.out 2;have hfz7_3:=sJ BK136.out 3;have hnb8:=NB138_137.out;have hnc8:=NB137_138.out;have hcz9_0 : w4.cell? ⟨gb138,0,none⟩ = some (.int .i64 0):=(blk_cell BK138.out 0).trans rfl;have hcz9_1 : w4.cell? ⟨gb138,1,none⟩ = some (.int .i64 0):=(blk_cell BK138.out 1).trans rfl;have hcz9_2 : w4.cell? ⟨gb138,2,none⟩ = some (.int .i64 0):=(blk_cell BK138.out 2).trans rfl;have hcz9_3 : w4.cell? ⟨gb138,3,none⟩ = some (.int .i64 0):=(blk_cell BK138.out 3).trans rfl;have hfz9_0:=sJ BK138.out 0;have hfz9_1:=sJ BK138.out 1;have hfz9_2:=sJ BK138.out 2;have hfz9_3:=sJ BK138.out 3;have hcz10_0 : w4.cell? ⟨gb137,0,none⟩ = some (.int .i64 0):=(blk_cell BK137.out 0).trans rfl;have hcz10_1 : w4.cell? ⟨gb137,1,none⟩ = some (.int .i64 0):=(blk_cell BK137.out 1).trans rfl;have hcz10_2 : w4.cell? ⟨gb137,2,none⟩ = some (.int .i64 0):=(blk_cell BK137.out 2).trans rfl;have hcz10_3 : w4.cell? ⟨gb137,3,none⟩ = some (.int .i64 0):=(blk_cell BK137.out 3).trans rfl;have hfz10_0:=sJ BK137.out 0;have hfz10_1:=sJ BK137.out 1;have hfz10_2:=sJ BK137.out 2;have hfz10_3:=sJ BK137.out 3))
 refine bodyPost_ret (results_cell_row rfl _ _ gb137 75 #[.int .i64 a0_0,.int .i64 a0_1,.int .i64 a0_2,.int .i64 a0_3] (0,0) _ rfl (by (with_reducible repeat (first|apply qa1|apply qb1|apply qc1));refine blk_put (cs:=#[.int .i64 a0_0,.int .i64 a0_1,.int .i64 a0_2,.int .i64 0]) ?_ 3 _ rfl;(with_reducible repeat (first|apply qa1|apply qb1|apply qc1));refine blk_put (cs:=#[.int .i64 a0_0,.int .i64 a0_1,.int .i64 0,.int .i64 0]) ?_ 2 _ rfl;(with_reducible repeat (first|apply qa1|apply qb1|apply qc1));refine blk_put (cs:=#[.int .i64 a0_0,.int .i64 0,.int .i64 0,.int .i64 0]) ?_ 1 _ rfl;(with_reducible repeat (first|apply qa1|apply qb1|apply qc1));refine blk_put (cs:=#[.int .i64 0,.int .i64 0,.int .i64 0,.int .i64 0]) ?_ 0 _ rfl;(with_reducible repeat (first|apply qa1|apply qb1|apply qc1));refine blk_far ?_ NB137_138.out _;(with_reducible repeat (first|apply qa1|apply qb1|apply qc1));refine blk_far ?_ NB137_138.out _;(with_reducible repeat (first|apply qa1|apply qb1|apply qc1));refine blk_far ?_ NB137_138.out _;(with_reducible repeat (first|apply qa1|apply qb1|apply qc1));refine blk_far ?_ NB137_138.out _;(with_reducible repeat (first|apply qa1|apply qb1|apply qc1));exact BK137.out) Try.underlying75 rfl (by kernel_rfl)) rfl ?_
 exact ⟨by first|rfl|(simp [errW_none,errW_some] <;> rfl)|(simp [*,errW_none,errW_some] <;> rfl),by repeat (first|(with_reducible first|exact HB.out|apply qd1|apply qe1|apply qf1|refine qg1 ?_ GE136.out|refine qg1 ?_ GE137.out|refine qg1 ?_ GE138.out)|exact HB.out)⟩

/-! ### laws_toSeen: function 74 -/
def laws_toSeen.f (a0_0 : Int) (a0_1 : Int) (a0_2 : Int) (a0_3 : Int) (a0_4 : Int) (a0_5 : Int) : Option (Int × Int × Int × Int × Int × Int):=(laws_toAnswer.f a0_2 a0_3 a0_4 a0_5).bind fun bt142 => (some (a0_0,a0_1,bt142.1,bt142.2.1,bt142.2.2.1,bt142.2.2.2))
set_option maxHeartbeats 8000000 in
set_option maxRecDepth 100000 in
theorem laws_toSeen.calls (a0_0 : Int) (a0_1 : Int) (a0_2 : Int) (a0_3 : Int) (a0_4 : Int) (a0_5 : Int) (r1 : Int) (r2 : Int) (r3 : Int) (r4 : Int) (r5 : Int) (r6 : Int) (w : World) (h : laws_toSeen.f a0_0 a0_1 a0_2 a0_3 a0_4 a0_5 = some (r1,r2,r3,r4,r5,r6)) :
  Calls Try.prog 74 #[.agg #[.int .i64 a0_0,.int .i64 a0_1,.int .i64 a0_2,.int .i64 a0_3,.int .i64 a0_4,.int .i64 a0_5]] w fun e w' => e = .returned (.agg #[.int .i64 r1,.int .i64 r2,.int .i64 r3,.int .i64 r4,.int .i64 r5,.int .i64 r6]) ∧ Below w.heap.size w w':=by
 have hu116:=Try.underlying116
 have hu77:=Try.underlying77
 have hu114:=Try.underlying114
 have hu75:=Try.underlying75
 have HB:=qh1 (Below.refl w.heap.size w)
 have H : ((laws_toAnswer.f a0_2 a0_3 a0_4 a0_5).bind fun bt142 => (some (a0_0,a0_1,bt142.1,bt142.2.1,bt142.2.2.1,bt142.2.2.2))) = some (r1,r2,r3,r4,r5,r6):=h
 clear h
 replace H:=Option.bind_eq_some_iff.mp H
 obtain ⟨⟨t142,t143,t144,t145⟩,A20,H⟩:=H
 replace H : (some (a0_0,a0_1,t142,t143,t144,t145)) = some (r1,r2,r3,r4,r5,r6):=H
 have A2:=qh1 A20
 clear A20
 simp only [Option.some.injEq,Prod.mk.injEq] at H
 obtain ⟨rfl,rfl,rfl,rfl,rfl,rfl⟩:=H
 go_enter Try.func74,Try.ntmps74
 go_wp2_with (first|((with_reducible refine gate_dst (N:=1) rfl ?_);refine box_event ?hg (N:=1) ?hd (cs:=#[.int .i64 a0_0,.int .i64 a0_1,.int .i64 a0_2,.int .i64 a0_3,.int .i64 a0_4,.int .i64 a0_5]) (t:=116) ?hr ?_;(case hd => rfl);(case hg => rfl);(case hr => first|(go_simp;done)|(go_simp;rfl));intro gb139 hg w3 hbox hb;have n0_:=qh1 (qj1 (by repeat (first|(with_reducible first|exact HB.out|apply qd1|apply qe1|apply qf1)|exact HB.out)) hb);have n1_:=qh1 (hbox);have n2_:=qh1 ((by rw [hg];exact (qk1 (by repeat (first|(with_reducible first|exact HB.out|apply qd1|apply qe1|apply qf1)|exact HB.out))) : w.heap.size ≤ gb139));have n3_:=qh1 ((by rw [hg];exact (qk1 (by repeat (first|(with_reducible first|exact HB.out|apply qd1|apply qe1|apply qf1)|exact HB.out))) : w.heap.size ≤ gb139));clear HB;have HB:=n0_;have BK139:=n1_;have GW139:=n2_;have GE139:=n3_;clear n0_ n1_ n2_ n3_;clear hb hbox hg)|((with_reducible refine gate_dst (N:=2) rfl ?_);refine box_event ?hg (N:=2) ?hd (cs:=#[.int .i64 0,.int .i64 0,.int .i64 0,.int .i64 0,.int .i64 0,.int .i64 0]) (t:=77) ?hr ?_;(case hd => rfl);(case hg => rfl);(case hr => first|(go_simp;done)|(go_simp;rfl));intro gb140 hg w4 hbox hb;have n0_:=qh1 (qi1 (g:=gb139) (o:=.cells #[.int .i64 a0_0,.int .i64 a0_1,.int .i64 a0_2,.int .i64 a0_3,.int .i64 a0_4,.int .i64 a0_5] 116 (0,0)) (by (with_reducible repeat (first|apply qa1|apply qb1|apply qc1));exact BK139.out) hb);have n1_:=qh1 (qj1 (by repeat (first|(with_reducible first|exact HB.out|apply qd1|apply qe1|apply qf1|refine qg1 ?_ GE139.out)|exact HB.out)) hb);have n2_:=qh1 (hbox);have n3_:=qh1 ((by rw [hg];exact (qk1 (by repeat (first|(with_reducible first|exact HB.out|apply qd1|apply qe1|apply qf1|refine qg1 ?_ GE139.out)|exact HB.out))) : w.heap.size ≤ gb140));have n4_:=qh1 ((by rw [hg];exact (qk1 (by repeat (first|(with_reducible first|exact HB.out|apply qd1|apply qe1|apply qf1|refine qg1 ?_ GE139.out)|exact HB.out))) : w.heap.size ≤ gb140));have n5_:=qh1 ((by rw [hg];exact Nat.ne_of_lt (blk_lt (g:=gb139) (o:=.cells #[.int .i64 a0_0,.int .i64 a0_1,.int .i64 a0_2,.int .i64 a0_3,.int .i64 a0_4,.int .i64 a0_5] 116 (0,0)) (by (with_reducible repeat (first|apply qa1|apply qb1|apply qc1));exact BK139.out)) : gb139 ≠ gb140));have n6_:=qh1 ((by rw [hg];exact Nat.ne_of_gt (blk_lt (g:=gb139) (o:=.cells #[.int .i64 a0_0,.int .i64 a0_1,.int .i64 a0_2,.int .i64 a0_3,.int .i64 a0_4,.int .i64 a0_5] 116 (0,0)) (by (with_reducible repeat (first|apply qa1|apply qb1|apply qc1));exact BK139.out)) : gb140 ≠ gb139));clear BK139;clear HB;have BK139:=n0_;have HB:=n1_;have BK140:=n2_;have GW140:=n3_;have GE140:=n4_;have NB139_140:=n5_;have NB140_139:=n6_;clear n0_ n1_ n2_ n3_ n4_ n5_ n6_;clear hb hbox hg)|((with_reducible refine gate_dst (N:=3) rfl ?_);refine box_event ?hg (N:=3) ?hd (cs:=#[.int .i64 0,.int .i64 0,.int .i64 0,.int .i64 0,.int .i64 0,.int .i64 0]) (t:=77) ?hr ?_;(case hd => rfl);(case hg => rfl);(case hr => first|(go_simp;done)|(go_simp;rfl));intro gb141 hg w5 hbox hb;have n0_:=qh1 (qi1 (g:=gb139) (o:=.cells #[.int .i64 a0_0,.int .i64 a0_1,.int .i64 a0_2,.int .i64 a0_3,.int .i64 a0_4,.int .i64 a0_5] 116 (0,0)) (by (with_reducible repeat (first|apply qa1|apply qb1|apply qc1));exact BK139.out) hb);have n1_:=qh1 (qi1 (g:=gb140) (o:=.cells #[.int .i64 0,.int .i64 0,.int .i64 0,.int .i64 0,.int .i64 0,.int .i64 0] 77 (0,0)) (by (with_reducible repeat (first|apply qa1|apply qb1|apply qc1));exact BK140.out) hb);have n2_:=qh1 (qj1 (by repeat (first|(with_reducible first|exact HB.out|apply qd1|apply qe1|apply qf1|refine qg1 ?_ GE139.out|refine qg1 ?_ GE140.out)|exact HB.out)) hb);have n3_:=qh1 (hbox);have n4_:=qh1 ((by rw [hg];exact (qk1 (by repeat (first|(with_reducible first|exact HB.out|apply qd1|apply qe1|apply qf1|refine qg1 ?_ GE139.out|refine qg1 ?_ GE140.out)|exact HB.out))) : w.heap.size ≤ gb141));have n5_:=qh1 ((by rw [hg];exact (qk1 (by repeat (first|(with_reducible first|exact HB.out|apply qd1|apply qe1|apply qf1|refine qg1 ?_ GE139.out|refine qg1 ?_ GE140.out)|exact HB.out))) : w.heap.size ≤ gb141));have n6_:=qh1 ((by rw [hg];exact Nat.ne_of_lt (blk_lt (g:=gb139) (o:=.cells #[.int .i64 a0_0,.int .i64 a0_1,.int .i64 a0_2,.int .i64 a0_3,.int .i64 a0_4,.int .i64 a0_5] 116 (0,0)) (by (with_reducible repeat (first|apply qa1|apply qb1|apply qc1));exact BK139.out)) : gb139 ≠ gb141));have n7_:=qh1 ((by rw [hg];exact Nat.ne_of_gt (blk_lt (g:=gb139) (o:=.cells #[.int .i64 a0_0,.int .i64 a0_1,.int .i64 a0_2,.int .i64 a0_3,.int .i64 a0_4,.int .i64 a0_5] 116 (0,0)) (by (with_reducible repeat (first|apply qa1|apply qb1|apply qc1));exact BK139.out)) : gb141 ≠ gb139));have n8_:=qh1 ((by rw [hg];exact Nat.ne_of_lt (blk_lt (g:=gb140) (o:=.cells #[.int .i64 0,.int .i64 0,.int .i64 0,.int .i64 0,.int .i64 0,.int .i64 0] 77 (0,0)) (by (with_reducible repeat (first|apply qa1|apply qb1|apply qc1));exact BK140.out)) : gb140 ≠ gb141));have n9_:=qh1 ((by rw [hg];exact Nat.ne_of_gt (blk_lt (g:=gb140) (o:=.cells #[.int .i64 0,.int .i64 0,.int .i64 0,.int .i64 0,.int .i64 0,.int .i64 0] 77 (0,0)) (by (with_reducible repeat (first|apply qa1|apply qb1|apply qc1));exact BK140.out)) : gb141 ≠ gb140));clear BK139;clear BK140;clear HB;have BK139:=n0_;have BK140:=n1_;have HB:=n2_;have BK141:=n3_;have GW141:=n4_;have GE141:=n5_;have NB139_141:=n6_;have NB141_139:=n7_;have NB140_141:=n8_;have NB141_140:=n9_;clear n0_ n1_ n2_ n3_ n4_ n5_ n6_ n7_ n8_ n9_;clear hb hbox hg;have hnb6:=NB139_140.out;have hnc6:=NB140_139.out;have hnb7:=NB139_141.out;have hnc7:=NB141_139.out;have hcz8_0 : w5.cell? ⟨gb139,0,none⟩ = some (.int .i64 a0_0):=(blk_cell BK139.out 0).trans rfl;have hcz8_1 : w5.cell? ⟨gb139,1,none⟩ = some (.int .i64 a0_1):=(blk_cell BK139.out 1).trans rfl;have hcz8_2 : w5.cell? ⟨gb139,2,none⟩ = some (.int .i64 a0_2):=(blk_cell BK139.out 2).trans rfl;have hcz8_3 : w5.cell? ⟨gb139,3,none⟩ = some (.int .i64 a0_3):=(blk_cell BK139.out 3).trans rfl;have hcz8_4 : w5.cell? ⟨gb139,4,none⟩ = some (.int .i64 a0_4):=(blk_cell BK139.out 4).trans rfl;have hcz8_5 : w5.cell? ⟨gb139,5,none⟩ = some (.int .i64 a0_5):=(blk_cell BK139.out 5).trans rfl;have hfz8_0:=sJ BK139.out 0;have hfz8_1:=sJ BK139.out 1;have hfz8_2:=sJ BK139.out 2;have hfz8_3:=sJ BK139.out 3;have hfz8_4:=sJ BK139.out 4;have hfz8_5:=sJ BK139.out 5;have hnb9:=NB141_140.out;have hnc9:=NB140_141.out;have hcz10_0 : w5.cell? ⟨gb141,0,none⟩ = some (.int .i64 0):=(blk_cell BK141.out 0).trans rfl;have hcz10_1 : w5.cell? ⟨gb141,1,none⟩ = some (.int .i64 0):=(blk_cell BK141.out 1).trans rfl;have hcz10_2 : w5.cell? ⟨gb141,2,none⟩ = some (.int .i64 0):=(blk_cell BK141.out 2).trans rfl;have hcz10_3 : w5.cell? ⟨gb141,3,none⟩ = some (.int .i64 0):=(blk_cell BK141.out 3).trans rfl;have hcz10_4 : w5.cell? ⟨gb141,4,none⟩ = some (.int .i64 0):=(blk_cell BK141.out 4).trans rfl;have hcz10_5 : w5.cell? ⟨gb141,5,none⟩ = some (.int .i64 0):=(blk_cell BK141.out 5).trans rfl;have hfz10_0:=sJ BK141.out 0;have hfz10_1:=sJ BK141.out 1;have hfz10_2:=sJ BK141.out 2;have hfz10_3:=sJ BK141.out 3;have hfz10_4:=sJ BK141.out 4;have hfz10_5:=sJ BK141.out 5)|((with_reducible refine gate_callee (f:=103) rfl ?_);refine goesL_ (some 12) rfl rfl Try.func103 (by kernel_rfl) rfl #[.agg #[.int .i64 a0_2,.int .i64 a0_3,.int .i64 a0_4,.int .i64 a0_5]] rfl (by (try simp only [sE,sH,sI]);first|done|rfl|(simp only [sG,sF];rfl)) ?_;(with_reducible refine (laws_toAnswer.calls a0_2 a0_3 a0_4 a0_5 t142 t143 t144 t145 _ A2.out).mono ?_);rintro e w11 ⟨rfl,hb⟩;refine ⟨_,rfl,?_⟩;have n0_:=qh1 (qi1 (g:=gb139) (o:=.cells #[.int .i64 a0_0,.int .i64 a0_1,.int .i64 a0_2,.int .i64 a0_3,.int .i64 a0_4,.int .i64 a0_5] 116 (0,0)) (by (with_reducible repeat (first|apply qa1|apply qb1|apply qc1));refine blk_far ?_ NB139_141.out _;(with_reducible repeat (first|apply qa1|apply qb1|apply qc1));refine blk_far ?_ NB139_141.out _;(with_reducible repeat (first|apply qa1|apply qb1|apply qc1));exact BK139.out) hb);have n1_:=qh1 (qi1 (g:=gb140) (o:=.cells #[.int .i64 0,.int .i64 0,.int .i64 0,.int .i64 0,.int .i64 0,.int .i64 0] 77 (0,0)) (by (with_reducible repeat (first|apply qa1|apply qb1|apply qc1));refine blk_far ?_ NB140_141.out _;(with_reducible repeat (first|apply qa1|apply qb1|apply qc1));refine blk_far ?_ NB140_141.out _;(with_reducible repeat (first|apply qa1|apply qb1|apply qc1));exact BK140.out) hb);have n2_:=qh1 (qi1 (g:=gb141) (o:=.cells #[.int .i64 a0_0,.int .i64 a0_1,.int .i64 0,.int .i64 0,.int .i64 0,.int .i64 0] 77 (0,0)) (by (with_reducible repeat (first|apply qa1|apply qb1|apply qc1));refine blk_put (cs:=#[.int .i64 a0_0,.int .i64 0,.int .i64 0,.int .i64 0,.int .i64 0,.int .i64 0]) ?_ 1 _ rfl;(with_reducible repeat (first|apply qa1|apply qb1|apply qc1));refine blk_put (cs:=#[.int .i64 0,.int .i64 0,.int .i64 0,.int .i64 0,.int .i64 0,.int .i64 0]) ?_ 0 _ rfl;(with_reducible repeat (first|apply qa1|apply qb1|apply qc1));exact BK141.out) hb);have n3_:=qh1 (qj1 (by repeat (first|(with_reducible first|exact HB.out|apply qd1|apply qe1|apply qf1|refine qg1 ?_ GE139.out|refine qg1 ?_ GE140.out|refine qg1 ?_ GE141.out)|exact HB.out)) hb);clear BK139;clear BK140;clear BK141;clear HB;have BK139:=n0_;have BK140:=n1_;have BK141:=n2_;have HB:=n3_;clear n0_ n1_ n2_ n3_;(try clear hb);(try clear hb2);(try clear hk);(try clear hi);have hcz12_0 : w11.cell? ⟨gb141,0,none⟩ = some (.int .i64 a0_0):=(blk_cell BK141.out 0).trans rfl;have hcz12_1 : w11.cell? ⟨gb141,1,none⟩ = some (.int .i64 a0_1):=(blk_cell BK141.out 1).trans rfl;have hcz12_2 : w11.cell? ⟨gb141,2,none⟩ = some (.int .i64 0):=(blk_cell BK141.out 2).trans rfl;have hcz12_3 : w11.cell? ⟨gb141,3,none⟩ = some (.int .i64 0):=(blk_cell BK141.out 3).trans rfl;have hcz12_4 : w11.cell? ⟨gb141,4,none⟩ = some (.int .i64 0):=(blk_cell BK141.out 4).trans rfl;have hcz12_5 : w11.cell? ⟨gb141,5,none⟩ = some (.int .i64 0):=(blk_cell BK141.out 5).trans rfl;have hfz12_0:=sJ BK141.out 0;have hfz12_1:=sJ BK141.out 1;have hfz12_2:=sJ BK141.out 2;have hfz12_3:=sJ BK141.out 3;have hfz12_4:=sJ BK141.out 4;have hfz12_5:=sJ BK141.out 5;have hcz13_0 : w11.cell? ⟨gb140,0,none⟩ = some (.int .i64 0):=(blk_cell BK140.out 0).trans rfl;have hcz13_1 : w11.cell? ⟨gb140,1,none⟩ = some (.int .i64 0):=(blk_cell BK140.out 1).trans rfl;have hcz13_2 : w11.cell? ⟨gb140,2,none⟩ = some (.int .i64 0):=(blk_cell BK140.out 2).trans rfl;have hcz13_3 : w11.cell? ⟨gb140,3,none⟩ = some (.int .i64 0):=(blk_cell BK140.out 3).trans rfl;have hcz13_4 : w11.cell? ⟨gb140,4,none⟩ = some (.int .i64 0):=(blk_cell BK140.out 4).trans rfl;have hcz13_5 : w11.cell? ⟨gb140,5,none⟩ = some (.int .i64 0):=(blk_cell BK140.out 5).trans rfl;have hfz13_0:=sJ BK140.out 0;have hfz13_1:=sJ BK140.out 1;have hfz13_2:=sJ BK140.out 2;have hfz13_3:=sJ BK140.out 3;have hfz13_4:=sJ BK140.out 4;have hfz13_5:=sJ BK140.out 5))
 refine bodyPost_ret (results_cell_row rfl _ _ gb140 77 #[.int .i64 a0_0,.int .i64 a0_1,.int .i64 t142,.int .i64 t143,.int .i64 t144,.int .i64 t145] (0,0) _ rfl (by (with_reducible repeat (first|apply qa1|apply qb1|apply qc1));refine blk_put (cs:=#[.int .i64 a0_0,.int .i64 a0_1,.int .i64 t142,.int .i64 t143,.int .i64 t144,.int .i64 0]) ?_ 5 _ rfl;(with_reducible repeat (first|apply qa1|apply qb1|apply qc1));refine blk_put (cs:=#[.int .i64 a0_0,.int .i64 a0_1,.int .i64 t142,.int .i64 t143,.int .i64 0,.int .i64 0]) ?_ 4 _ rfl;(with_reducible repeat (first|apply qa1|apply qb1|apply qc1));refine blk_put (cs:=#[.int .i64 a0_0,.int .i64 a0_1,.int .i64 t142,.int .i64 0,.int .i64 0,.int .i64 0]) ?_ 3 _ rfl;(with_reducible repeat (first|apply qa1|apply qb1|apply qc1));refine blk_put (cs:=#[.int .i64 a0_0,.int .i64 a0_1,.int .i64 0,.int .i64 0,.int .i64 0,.int .i64 0]) ?_ 2 _ rfl;(with_reducible repeat (first|apply qa1|apply qb1|apply qc1));refine blk_put (cs:=#[.int .i64 a0_0,.int .i64 0,.int .i64 0,.int .i64 0,.int .i64 0,.int .i64 0]) ?_ 1 _ rfl;(with_reducible repeat (first|apply qa1|apply qb1|apply qc1));refine blk_put (cs:=#[.int .i64 0,.int .i64 0,.int .i64 0,.int .i64 0,.int .i64 0,.int .i64 0]) ?_ 0 _ rfl;(with_reducible repeat (first|apply qa1|apply qb1|apply qc1));refine blk_far ?_ NB140_141.out _;(with_reducible repeat (first|apply qa1|apply qb1|apply qc1));refine blk_far ?_ NB140_141.out _;(with_reducible repeat (first|apply qa1|apply qb1|apply qc1));refine blk_far ?_ NB140_141.out _;(with_reducible repeat (first|apply qa1|apply qb1|apply qc1));refine blk_far ?_ NB140_141.out _;(with_reducible repeat (first|apply qa1|apply qb1|apply qc1));exact BK140.out) Try.underlying77 rfl (by kernel_rfl)) rfl ?_
 exact ⟨by first|rfl|(simp [errW_none,errW_some] <;> rfl)|(simp [*,errW_none,errW_some] <;> rfl),by repeat (first|(with_reducible first|exact HB.out|apply qd1|apply qe1|apply qf1|refine qg1 ?_ GE139.out|refine qg1 ?_ GE140.out|refine qg1 ?_ GE141.out)|exact HB.out)⟩

/-! ### laws_toSeenS: function 45 -/
def laws_toSeenS.l0 : Nat → List (S116) → List (S77) → Int → Option ((List (S77)))
 | 0,_,_,_ => none
 | k + 1,x0,x3,x4 => if x4 < (x0.length : Int) then (if 0 ≤ x4 then ((laws_toSeen.f ((rd_T116 x0 x4).f0) ((rd_T116 x0 x4).f1) ((rd_T116 x0 x4).f2.f0) ((rd_T116 x0 x4).f2.f1) ((rd_T116 x0 x4).f2.f2) ((rd_T116 x0 x4).f2.f3)).bind fun bt150 => (if x4 < (x3.length : Int) then (laws_toSeenS.l0 k x0 (x3.set (x4 : Int).toNat (⟨bt150.1,bt150.2.1,(⟨bt150.2.2.1,bt150.2.2.2.1,bt150.2.2.2.2.1,bt150.2.2.2.2.2⟩ : S75)⟩ : S77)) (wrap64 (x4 + 1))) else (none))) else (none)) else (some x3)
def laws_toSeenS.f (k : Nat) (l0 : List (S116)) : Option ((List (S77))):=if 0 ≤ (l0.length : Int) then (if ((l0.length : Int) : Int).toNat ≤ 5864062014805 then (laws_toSeenS.l0 k l0 (List.replicate ((l0.length : Int) : Int).toNat z77) 0) else (none)) else (none)
set_option maxHeartbeats 8000000 in
set_option maxRecDepth 100000 in
theorem laws_toSeenS.calls (k : Nat) (A0 : Option Addr) (c0 : Nat) (l0 : List (S116)) (r : List (S77)) (w : World) (hr0 : Kd.C k116 w A0 l0.length l0) (hc0 : l0.length ≤ c0) (h : laws_toSeenS.f k l0 = some r) :
  Calls Try.prog 45 #[.slice A0 l0.length c0] w fun e w' => ∃ v0_ : Value,e = .returned (v0_) ∧ Kd.R k77 77 w' w.heap.size (fun _ => True) v0_ r ∧ Below w.heap.size w w':=by
 have hu116:=Try.underlying116
 have hu77:=Try.underlying77
 have HR0:=qh1 hr0
 have HC0:=qh1 hc0
 clear hr0 hc0
 have HB:=qh1 (Below.refl w.heap.size w)
 have H : (if 0 ≤ (l0.length : Int) then (if ((l0.length : Int) : Int).toNat ≤ 5864062014805 then (laws_toSeenS.l0 k l0 (List.replicate ((l0.length : Int) : Int).toNat z77) 0) else (none)) else (none)) = some r:=h
 clear h
 by_cases c2 : 0 ≤ (l0.length : Int)
 ·
  rw [if_pos c2] at H
  have c2b0:=eq_true c2
  have c2b1 : decide (0 ≤ (l0.length : Int)) = true:=decide_eq_true c2
  clear c2
  by_cases c3 : ((l0.length : Int) : Int).toNat ≤ 5864062014805
  ·
   rw [if_pos c3] at H
   have c3b0:=eq_true c3
   have c3b1 : decide (((l0.length : Int) : Int).toNat ≤ 5864062014805) = true:=decide_eq_true c3
   clear c3
   obtain ⟨y146,hy146⟩ : ∃ y_ : List (S77),y_ = (List.replicate ((l0.length : Int) : Int).toNat z77):=⟨_,rfl⟩
   replace H : (laws_toSeenS.l0 k l0 y146 0) = some r:=by first|(rw [hy146];with_reducible exact H)|(have H2_:=(Option.bind_some _ _).symm.trans H;rw [hy146];with_reducible exact H2_)|(have H2_:=(Option.bind_some _ _).symm.trans H;with_reducible exact H2_)|with_reducible exact H|(rw [hy146];exact H)|exact H
   have Ny146:=qh1 hy146
   clear hy146
   have H':=qh1 H
   clear H
   go_enter Try.func45,Try.ntmps45
   go_wp2_with (first|((with_reducible refine gate_dst (N:=7) rfl ?_);refine Kd.R_make k77 _ 77 rfl (N:=7) rfl 29 _ _ rfl (l0.length : Int) rfl rfl Try.underlying29 (.agg #[(.int .i64 0),(.int .i64 0),(.int .i64 0),(.int .i64 0),(.int .i64 0),(.int .i64 0)]) 48 info77 rfl (by decide) (by omega) z77 (ok:=fun _ => True) (okp:=fun _ => True) (k77_mkM _ _ _ z77 ) (fun _ hk => hk) trivial (sM (by first|(with_reducible assumption)|assumption)) (Nat.le_trans (Nat.mul_le_mul_right _ (sM (by first|(with_reducible assumption)|assumption) : (l0.length : Int).toNat ≤ 5864062014805)) (by omega)) (Below.refl _ _) (Nat.le_refl _) ?_;intro v147 w4 ho5 hb hg_ hnew_;clear hg_ hnew_;(first|rw [← Ny146.out] at ho5|(simp only [Int.reduceToNat] at ho5;rw [← Ny146.out] at ho5));have n0_:=qh1 (Kd.R_lower ho5 (qk1 (by repeat (first|(with_reducible first|exact HB.out|apply qd1|apply qe1|apply qf1)|exact HB.out))));have n1_:=qh1 (qj1 (by repeat (first|(with_reducible first|exact HB.out|apply qd1|apply qe1|apply qf1)|exact HB.out)) hb);clear HB;have HO148:=n0_;have HB:=n1_;clear n0_ n1_;clear hb ho5))
   go_loopg [4] k (fun kq v4 w' => ∃ (x3_1 : List (S77)) (x4_1 : Int),v4 = .int .i64 x4_1 ∧ Aside0 (laws_toSeenS.l0 kq l0 x3_1 x4_1 = some r) ∧ Aside0 (kq ≤ k) ∧ Aside0 (Kd.R k77 77 w' w.heap.size (fun _ => True) v147 x3_1) ∧ Aside0 (Below w.heap.size w w'))
   case atStart => exact ⟨(y146),(0),(by first|rfl|(simp;done)|(simp [*];done)),H',⟨Nat.le_refl _⟩,⟨by (with_reducible repeat (first|apply Kd.R_alloc|apply Kd.R_drewN|apply Kd.R_drew));exact HO148.out⟩,⟨by repeat (first|(with_reducible first|exact HB.out|apply qd1|apply qe1|apply qf1)|exact HB.out)⟩⟩
   case round =>
    clear H'
    try clear c2
    try clear c2b0
    try clear c2b1
    try clear p2
    try clear c3
    try clear c3b0
    try clear c3b1
    try clear c4
    obtain ⟨x3_1,x4_1,rfl,HA,HK1,HO_3,HB⟩:=hrel
    cases gk with
    | zero => exact absurd HA.out (by simp [laws_toSeenS.l0])
    | succ k1 =>
     have H:=HA.out
     clear HA
     simp only [laws_toSeenS.l0] at H
     by_cases c6 : x4_1 < (l0.length : Int)
     ·
      rw [if_pos c6] at H
      have c6b0 : decide (x4_1 < (l0.length : Int)) = true:=decide_eq_true c6
      clear c6
      by_cases c7 : 0 ≤ x4_1
      ·
       rw [if_pos c7] at H
       have c7b0 : decide (0 ≤ x4_1) = true:=decide_eq_true c7
       clear c7
       replace H:=Option.bind_eq_some_iff.mp H
       obtain ⟨⟨t150,t151,t152,t153,t154,t155⟩,A80,H⟩:=H
       replace H : (if x4_1 < (x3_1.length : Int) then (laws_toSeenS.l0 k1 l0 (x3_1.set (x4_1 : Int).toNat (⟨t150,t151,(⟨t152,t153,t154,t155⟩ : S75)⟩ : S77)) (wrap64 (x4_1 + 1))) else (none)) = some r:=H
       have A8:=qh1 A80
       clear A80
       by_cases c9 : x4_1 < (x3_1.length : Int)
       ·
        rw [if_pos c9] at H
        have c9b0 : decide (x4_1 < (x3_1.length : Int)) = true:=decide_eq_true c9
        clear c9
        obtain ⟨y156,hy156⟩ : ∃ y_ : List (S77),y_ = (x3_1.set (x4_1 : Int).toNat (⟨t150,t151,(⟨t152,t153,t154,t155⟩ : S75)⟩ : S77)):=⟨_,rfl⟩
        replace H : (laws_toSeenS.l0 k1 l0 y156 (wrap64 (x4_1 + 1))) = some r:=by first|(rw [hy156];with_reducible exact H)|(have H2_:=(Option.bind_some _ _).symm.trans H;rw [hy156];with_reducible exact H2_)|(have H2_:=(Option.bind_some _ _).symm.trans H;with_reducible exact H2_)|with_reducible exact H|(rw [hy156];exact H)|exact H
        have Ny156:=qh1 hy156
        clear hy156
        have H':=qh1 H
        clear H
        have p149 : 0 ≤ (x4_1 : Int):=sM (by first|(with_reducible assumption)|assumption)
        have q149 : x4_1 < (l0.length : Int):=sM (by first|(with_reducible assumption)|assumption)
        obtain ⟨ad149,e149,hx149_0,hx149_1,hx149_2,hx149_3,hx149_4,hx149_5⟩:=at_T116 HR0.out x4_1 p149 q149
        cases e149
        replace hx149_0:=(HB.out.cell (sD w _ hx149_0)).trans hx149_0
        replace hx149_1:=(HB.out.cell (sD w _ hx149_1)).trans hx149_1
        replace hx149_2:=(HB.out.cell (sD w _ hx149_2)).trans hx149_2
        replace hx149_3:=(HB.out.cell (sD w _ hx149_3)).trans hx149_3
        replace hx149_4:=(HB.out.cell (sD w _ hx149_4)).trans hx149_4
        replace hx149_5:=(HB.out.cell (sD w _ hx149_5)).trans hx149_5
        replace p149:=eq_true p149
        replace q149:=eq_true q149
        go_wp2_with (first|((with_reducible refine gate_callee (f:=74) rfl ?_);refine goesL_ (some 20) rfl rfl Try.func74 (by kernel_rfl) rfl #[.agg #[.int .i64 ((rd_T116 l0 x4_1).f0),.int .i64 ((rd_T116 l0 x4_1).f1),.int .i64 ((rd_T116 l0 x4_1).f2.f0),.int .i64 ((rd_T116 l0 x4_1).f2.f1),.int .i64 ((rd_T116 l0 x4_1).f2.f2),.int .i64 ((rd_T116 l0 x4_1).f2.f3)]] rfl (by (try simp only [sE,sH,sI]);first|done|rfl|(simp only [sG,sF];rfl)) ?_;(with_reducible refine (laws_toSeen.calls ((rd_T116 l0 x4_1).f0) ((rd_T116 l0 x4_1).f1) ((rd_T116 l0 x4_1).f2.f0) ((rd_T116 l0 x4_1).f2.f1) ((rd_T116 l0 x4_1).f2.f2) ((rd_T116 l0 x4_1).f2.f3) t150 t151 t152 t153 t154 t155 _ A8.out).mono ?_);rintro e w11 ⟨rfl,hb⟩;refine ⟨_,rfl,?_⟩;have n0_:=qh1 (Kd.R_below (by (with_reducible repeat (first|apply Kd.R_alloc|apply Kd.R_drewN|apply Kd.R_drew));exact HO_3.out) hb);have n1_:=qh1 (qj1 (by repeat (first|(with_reducible first|exact HB.out|apply qd1|apply qe1|apply qf1)|exact HB.out)) hb);clear HO_3;clear HB;have HO_3:=n0_;have HB:=n1_;clear n0_ n1_;(try clear hb);(try clear hb2);(try clear hk);(try clear hi);have p10 : 0 ≤ (x4_1 : Int):=sM (by first|(with_reducible assumption)|assumption);have q10 : (x4_1 : Int) < ((x3_1.length : Int) : Int):=sM (by first|(with_reducible assumption)|assumption);obtain ⟨go10,co10,eo10,gb10,gl10,cl10,HG10⟩:=Kd.R_form HO_3.out (by omega);(first|cases eo10|(injection eo10 with ea_ en_ ec_;(first|subst ea_|(injection ea_ with ea_;subst ea_));subst ec_;clear en_));have GB10:=qh1 gb10;have GG10:=qh1 HG10;clear gb10 gl10 HG10;obtain ⟨ce10,hcl10,hM10,hcc10,hfr10⟩:=Kd.R_elem HO_3.out z77 (x4_1 : Int) p10 q10;obtain rfl:=k77_openM hM10;have hx10_0 : w11.cell? ⟨go10,(x4_1 : Int).toNat * 6,none⟩ = some (.int .i64 ((rd_T77 x3_1 x4_1).f0)):=hcc10 0 _ rfl;have hx10_1 : w11.cell? ⟨go10,(x4_1 : Int).toNat * 6 + 1,none⟩ = some (.int .i64 ((rd_T77 x3_1 x4_1).f1)):=hcc10 1 _ rfl;have hx10_2 : w11.cell? ⟨go10,(x4_1 : Int).toNat * 6 + 2,none⟩ = some (.int .i64 ((rd_T77 x3_1 x4_1).f2.f0)):=hcc10 2 _ rfl;have hx10_3 : w11.cell? ⟨go10,(x4_1 : Int).toNat * 6 + 3,none⟩ = some (.int .i64 ((rd_T77 x3_1 x4_1).f2.f1)):=hcc10 3 _ rfl;have hx10_4 : w11.cell? ⟨go10,(x4_1 : Int).toNat * 6 + 4,none⟩ = some (.int .i64 ((rd_T77 x3_1 x4_1).f2.f2)):=hcc10 4 _ rfl;have hx10_5 : w11.cell? ⟨go10,(x4_1 : Int).toNat * 6 + 5,none⟩ = some (.int .i64 ((rd_T77 x3_1 x4_1).f2.f3)):=hcc10 5 _ rfl;have hf10_0 : w11.frozen? ⟨go10,(x4_1 : Int).toNat * 6,none⟩ = false:=hfr10 0 (by decide);have hf10_1 : w11.frozen? ⟨go10,(x4_1 : Int).toNat * 6 + 1,none⟩ = false:=hfr10 1 (by decide);have hf10_2 : w11.frozen? ⟨go10,(x4_1 : Int).toNat * 6 + 2,none⟩ = false:=hfr10 2 (by decide);have hf10_3 : w11.frozen? ⟨go10,(x4_1 : Int).toNat * 6 + 3,none⟩ = false:=hfr10 3 (by decide);have hf10_4 : w11.frozen? ⟨go10,(x4_1 : Int).toNat * 6 + 4,none⟩ = false:=hfr10 4 (by decide);have hf10_5 : w11.frozen? ⟨go10,(x4_1 : Int).toNat * 6 + 5,none⟩ = false:=hfr10 5 (by decide);clear hcl10 hcc10 hfr10 hM10;replace p10:=eq_true p10;replace q10:=eq_true q10;have HX12:=qh1 (show Kd.R k77 77 w11 w.heap.size (fun _ => True) (.slice (some ⟨go10,0,none⟩) x3_1.length co10) x3_1 from (by (with_reducible repeat (first|apply Kd.R_alloc|apply Kd.R_drewN|apply Kd.R_drew));exact HO_3.out));obtain ⟨ce12,hcl12,hM12,hcc12,hfr12⟩:=Kd.R_elem HX12.out z77 (x4_1 : Int) (sM (by first|(with_reducible assumption)|assumption)) (by have h_ : (x4_1 : Int) < ((x3_1.length : Int) : Int):=sM (by first|(with_reducible assumption)|assumption);first|exact h_|(have e_:=(Kd.R_reads' HO_3.out).1;omega)|simpa using h_);obtain rfl:=k77_openM hM12;have HP12:=Kd.R_seg HX12.out (x4_1 : Int) (sM (by first|(with_reducible assumption)|assumption)) (by have h_ : (x4_1 : Int) < ((x3_1.length : Int) : Int):=sM (by first|(with_reducible assumption)|assumption);first|exact h_|(have e_:=(Kd.R_reads' HO_3.out).1;omega)|simpa using h_) (seg:=[.int .i64 t150,.int .i64 t151,.int .i64 t152,.int .i64 t153,.int .i64 t154,.int .i64 t155]) (j:=0) hcl12 hcc12 (show 6 ≤ 6 from by decide) (x':=(⟨t150,t151,(⟨t152,t153,t154,t155⟩ : S75)⟩ : S77)) (k77_mkM _ _ _ (⟨t150,t151,(⟨t152,t153,t154,t155⟩ : S75)⟩ : S77) ) (fun _ hk => hk);have hx12_0:=hcc12 0 _ rfl;(try simp only [show (k77).sz = 6 from rfl,Nat.mul_one,Nat.add_zero] at hx12_0);have hf12_0:=hfr12 0 (by decide);(try simp only [show (k77).sz = 6 from rfl,Nat.mul_one,Nat.add_zero] at hf12_0);have hx12_1:=hcc12 1 _ rfl;(try simp only [show (k77).sz = 6 from rfl,Nat.mul_one,Nat.add_zero] at hx12_1);have hf12_1:=hfr12 1 (by decide);(try simp only [show (k77).sz = 6 from rfl,Nat.mul_one,Nat.add_zero] at hf12_1);have hx12_2:=hcc12 2 _ rfl;(try simp only [show (k77).sz = 6 from rfl,Nat.mul_one,Nat.add_zero] at hx12_2);have hf12_2:=hfr12 2 (by decide);(try simp only [show (k77).sz = 6 from rfl,Nat.mul_one,Nat.add_zero] at hf12_2);have hx12_3:=hcc12 3 _ rfl;(try simp only [show (k77).sz = 6 from rfl,Nat.mul_one,Nat.add_zero] at hx12_3);have hf12_3:=hfr12 3 (by decide);(try simp only [show (k77).sz = 6 from rfl,Nat.mul_one,Nat.add_zero] at hf12_3);have hx12_4:=hcc12 4 _ rfl;(try simp only [show (k77).sz = 6 from rfl,Nat.mul_one,Nat.add_zero] at hx12_4);have hf12_4:=hfr12 4 (by decide);(try simp only [show (k77).sz = 6 from rfl,Nat.mul_one,Nat.add_zero] at hf12_4);have hx12_5:=hcc12 5 _ rfl;(try simp only [show (k77).sz = 6 from rfl,Nat.mul_one,Nat.add_zero] at hx12_5);have hf12_5:=hfr12 5 (by decide);(try simp only [show (k77).sz = 6 from rfl,Nat.mul_one,Nat.add_zero] at hf12_5);clear hcl12 hcc12 hfr12 hM12)|((with_reducible refine gate_store (t:=77) (p:=21) rfl ?_);refine store_event (t:=77) (p:=21) (v:=?vo_w13) (w1:=((((((w11.setCell ⟨go10,(x4_1 : Int).toNat * 6,none⟩ (.int .i64 t150)).setCell ⟨go10,(x4_1 : Int).toNat * 6 + 1,none⟩ (.int .i64 t151)).setCell ⟨go10,(x4_1 : Int).toNat * 6 + 2,none⟩ (.int .i64 t152)).setCell ⟨go10,(x4_1 : Int).toNat * 6 + 3,none⟩ (.int .i64 t153)).setCell ⟨go10,(x4_1 : Int).toNat * 6 + 4,none⟩ (.int .i64 t154)).setCell ⟨go10,(x4_1 : Int).toNat * 6 + 5,none⟩ (.int .i64 t155))) ?hg ?ho ?hn ?hr ?_;(case ho => rfl);(case hg => rfl);(case hn => rfl);(case hr => first|(go_simp;done)|(go_simp;rfl));intro w13 hw;have hg : w11.grownBy w13 (some go10):=(by rw [hw];exact HP12.2);have hp_ : Kd.R k77 77 w13 w.heap.size (fun _ => True) (.slice (some ⟨go10,0,none⟩) x3_1.length co10) y156:=(by rw [hw,Ny156.out];exact HP12.1);clear HP12;have n0_:=qh1 (hp_);have n1_:=qh1 ((by rw [hw];exact qg1 (qg1 (qg1 (qg1 (qg1 (qg1 (HB.out) GB10.out) GB10.out) GB10.out) GB10.out) GB10.out) GB10.out : Below w.heap.size w w13));clear HO_3;clear HB;have HO_3:=n0_;have HB:=n1_;clear n0_ n1_;clear hg hw hp_))
        go_roundg k1
        case measure => have:=HK1.out;omega
        case rel => exact ⟨(y156),(wrap64 (x4_1 + 1)),(by first|rfl|(simp;done)|(simp [*];done)),H',⟨by have:=HK1.out;omega⟩,⟨by (with_reducible repeat (first|apply Kd.R_alloc|apply Kd.R_drewN|apply Kd.R_drew));exact HO_3.out⟩,⟨by repeat (first|(with_reducible first|exact HB.out|apply qd1|apply qe1|apply qf1)|exact HB.out)⟩⟩
       ·
        rw [if_neg c9] at H
        exact absurd H (by simp)
      ·
       rw [if_neg c7] at H
       exact absurd H (by simp)
     ·
      rw [if_neg c6] at H
      have c6b0 : decide (x4_1 < (l0.length : Int)) = false:=decide_eq_false c6
      clear c6
      obtain rfl:=sO H
      go_wp2
      go_ret
      exact ⟨_,by first|rfl|(simp [errW_none,errW_some] <;> rfl)|(simp [*,errW_none,errW_some] <;> rfl),by (with_reducible repeat (first|apply Kd.R_alloc|apply Kd.R_drewN|apply Kd.R_drew));exact HO_3.out,by repeat (first|(with_reducible first|exact HB.out|apply qd1|apply qe1|apply qf1)|exact HB.out)⟩
  ·
   rw [if_neg c3] at H
   exact absurd H (by simp)
 ·
  rw [if_neg c2] at H
  exact absurd H (by simp)

/-! ### laws_toTable: function 10 -/
def laws_toTable.f (k : Nat) (a0_0 : Int) (a0_1 : Int) (l0_2 : List (S110)) (l0_3 : List (S116)) : Option (Int × Int × (List (S70)) × (List (S77))):=(laws_toLockS.f k l0_2).bind fun t160 => ((laws_toSeenS.f k l0_3).bind fun t163 => (some (a0_0,a0_1,t160,t163)))
set_option maxHeartbeats 8000000 in
set_option maxRecDepth 100000 in
theorem laws_toTable.calls (k : Nat) (a0_0 : Int) (a0_1 : Int) (A0_2 : Option Addr) (c0_2 : Nat) (l0_2 : List (S110)) (A0_3 : Option Addr) (c0_3 : Nat) (l0_3 : List (S116)) (r1 : Int) (r2 : Int) (r3 : List (S70)) (r4 : List (S77)) (w : World) (hr0_2 : Kd.C k110 w A0_2 l0_2.length l0_2) (hc0_2 : l0_2.length ≤ c0_2) (hr0_3 : Kd.C k116 w A0_3 l0_3.length l0_3) (hc0_3 : l0_3.length ≤ c0_3) (h : laws_toTable.f k a0_0 a0_1 l0_2 l0_3 = some (r1,r2,r3,r4)) :
  Calls Try.prog 10 #[.agg #[.int .i64 a0_0,.int .i64 a0_1,.slice A0_2 l0_2.length c0_2,.slice A0_3 l0_3.length c0_3]] w fun e w' => ∃ v2_ v3_ : Value,e = .returned (.agg #[.int .i64 r1,.int .i64 r2,v2_,v3_]) ∧ Kd.S k70 70 w' w.heap.size (fun _ => True) v2_ r3 ∧ Kd.R k77 77 w' w.heap.size (fun _ => True) v3_ r4 ∧ Below w.heap.size w w':=by
 have hu25:=Try.underlying25
 have hu31:=Try.underlying31
 have HR0_2:=qh1 hr0_2
 have HC0_2:=qh1 hc0_2
 clear hr0_2 hc0_2
 have HR0_3:=qh1 hr0_3
 have HC0_3:=qh1 hc0_3
 clear hr0_3 hc0_3
 have HB:=qh1 (Below.refl w.heap.size w)
 have H : ((laws_toLockS.f k l0_2).bind fun t160 => ((laws_toSeenS.f k l0_3).bind fun t163 => (some (a0_0,a0_1,t160,t163)))) = some (r1,r2,r3,r4):=h
 clear h
 replace H:=Option.bind_eq_some_iff.mp H
 obtain ⟨t160,A20,H⟩:=H
 replace H : ((laws_toSeenS.f k l0_3).bind fun t163 => (some (a0_0,a0_1,t160,t163))) = some (r1,r2,r3,r4):=H
 have A2:=qh1 A20
 clear A20
 replace H:=Option.bind_eq_some_iff.mp H
 obtain ⟨t163,A30,H⟩:=H
 replace H : (some (a0_0,a0_1,t160,t163)) = some (r1,r2,r3,r4):=H
 have A3:=qh1 A30
 clear A30
 simp only [Option.some.injEq,Prod.mk.injEq] at H
 obtain ⟨rfl,rfl,rfl,rfl⟩:=H
 go_enter Try.func10,Try.ntmps10
 go_wp2_with (first|((with_reducible refine gate_dst (N:=1) rfl ?_);refine box_event ?hg (N:=1) ?hd (cs:=#[.int .i64 a0_0,.int .i64 a0_1,.slice A0_2 l0_2.length c0_2,.slice A0_3 l0_3.length c0_3]) (t:=25) ?hr ?_;(case hd => rfl);(case hg => rfl);(case hr => first|(go_simp;done)|(go_simp;rfl));intro gb157 hg w4 hbox hb;have n0_:=qh1 (qj1 (by repeat (first|(with_reducible first|exact HB.out|apply qd1|apply qe1|apply qf1)|exact HB.out)) hb);have n1_:=qh1 (hbox);have n2_:=qh1 ((by rw [hg];exact (qk1 (by repeat (first|(with_reducible first|exact HB.out|apply qd1|apply qe1|apply qf1)|exact HB.out))) : w.heap.size ≤ gb157));have n3_:=qh1 ((by rw [hg];exact (qk1 (by repeat (first|(with_reducible first|exact HB.out|apply qd1|apply qe1|apply qf1)|exact HB.out))) : w.heap.size ≤ gb157));clear HB;have HB:=n0_;have BK157:=n1_;have GW157:=n2_;have GE157:=n3_;clear n0_ n1_ n2_ n3_;clear hb hbox hg)|((with_reducible refine gate_dst (N:=2) rfl ?_);refine box_event ?hg (N:=2) ?hd (cs:=#[.int .i64 0,.int .i64 0,.slice none 0 0,.slice none 0 0]) (t:=31) ?hr ?_;(case hd => rfl);(case hg => rfl);(case hr => first|(go_simp;done)|(go_simp;rfl));intro gb158 hg w5 hbox hb;have n0_:=qh1 (qi1 (g:=gb157) (o:=.cells #[.int .i64 a0_0,.int .i64 a0_1,.slice A0_2 l0_2.length c0_2,.slice A0_3 l0_3.length c0_3] 25 (0,0)) (by (with_reducible repeat (first|apply qa1|apply qb1|apply qc1));exact BK157.out) hb);have n1_:=qh1 (qj1 (by repeat (first|(with_reducible first|exact HB.out|apply qd1|apply qe1|apply qf1|refine qg1 ?_ GE157.out)|exact HB.out)) hb);have n2_:=qh1 (hbox);have n3_:=qh1 ((by rw [hg];exact (qk1 (by repeat (first|(with_reducible first|exact HB.out|apply qd1|apply qe1|apply qf1|refine qg1 ?_ GE157.out)|exact HB.out))) : w.heap.size ≤ gb158));have n4_:=qh1 ((by rw [hg];exact (qk1 (by repeat (first|(with_reducible first|exact HB.out|apply qd1|apply qe1|apply qf1|refine qg1 ?_ GE157.out)|exact HB.out))) : w.heap.size ≤ gb158));have n5_:=qh1 ((by rw [hg];exact Nat.ne_of_lt (blk_lt (g:=gb157) (o:=.cells #[.int .i64 a0_0,.int .i64 a0_1,.slice A0_2 l0_2.length c0_2,.slice A0_3 l0_3.length c0_3] 25 (0,0)) (by (with_reducible repeat (first|apply qa1|apply qb1|apply qc1));exact BK157.out)) : gb157 ≠ gb158));have n6_:=qh1 ((by rw [hg];exact Nat.ne_of_gt (blk_lt (g:=gb157) (o:=.cells #[.int .i64 a0_0,.int .i64 a0_1,.slice A0_2 l0_2.length c0_2,.slice A0_3 l0_3.length c0_3] 25 (0,0)) (by (with_reducible repeat (first|apply qa1|apply qb1|apply qc1));exact BK157.out)) : gb158 ≠ gb157));clear BK157;clear HB;have BK157:=n0_;have HB:=n1_;have BK158:=n2_;have GW158:=n3_;have GE158:=n4_;have NB157_158:=n5_;have NB158_157:=n6_;clear n0_ n1_ n2_ n3_ n4_ n5_ n6_;clear hb hbox hg)|((with_reducible refine gate_dst (N:=3) rfl ?_);refine box_event ?hg (N:=3) ?hd (cs:=#[.int .i64 0,.int .i64 0,.slice none 0 0,.slice none 0 0]) (t:=31) ?hr ?_;(case hd => rfl);(case hg => rfl);(case hr => first|(go_simp;done)|(go_simp;rfl));intro gb159 hg w6 hbox hb;have n0_:=qh1 (qi1 (g:=gb157) (o:=.cells #[.int .i64 a0_0,.int .i64 a0_1,.slice A0_2 l0_2.length c0_2,.slice A0_3 l0_3.length c0_3] 25 (0,0)) (by (with_reducible repeat (first|apply qa1|apply qb1|apply qc1));exact BK157.out) hb);have n1_:=qh1 (qi1 (g:=gb158) (o:=.cells #[.int .i64 0,.int .i64 0,.slice none 0 0,.slice none 0 0] 31 (0,0)) (by (with_reducible repeat (first|apply qa1|apply qb1|apply qc1));exact BK158.out) hb);have n2_:=qh1 (qj1 (by repeat (first|(with_reducible first|exact HB.out|apply qd1|apply qe1|apply qf1|refine qg1 ?_ GE157.out|refine qg1 ?_ GE158.out)|exact HB.out)) hb);have n3_:=qh1 (hbox);have n4_:=qh1 ((by rw [hg];exact (qk1 (by repeat (first|(with_reducible first|exact HB.out|apply qd1|apply qe1|apply qf1|refine qg1 ?_ GE157.out|refine qg1 ?_ GE158.out)|exact HB.out))) : w.heap.size ≤ gb159));have n5_:=qh1 ((by rw [hg];exact (qk1 (by repeat (first|(with_reducible first|exact HB.out|apply qd1|apply qe1|apply qf1|refine qg1 ?_ GE157.out|refine qg1 ?_ GE158.out)|exact HB.out))) : w.heap.size ≤ gb159));have n6_:=qh1 ((by rw [hg];exact Nat.ne_of_lt (blk_lt (g:=gb157) (o:=.cells #[.int .i64 a0_0,.int .i64 a0_1,.slice A0_2 l0_2.length c0_2,.slice A0_3 l0_3.length c0_3] 25 (0,0)) (by (with_reducible repeat (first|apply qa1|apply qb1|apply qc1));exact BK157.out)) : gb157 ≠ gb159));have n7_:=qh1 ((by rw [hg];exact Nat.ne_of_gt (blk_lt (g:=gb157) (o:=.cells #[.int .i64 a0_0,.int .i64 a0_1,.slice A0_2 l0_2.length c0_2,.slice A0_3 l0_3.length c0_3] 25 (0,0)) (by (with_reducible repeat (first|apply qa1|apply qb1|apply qc1));exact BK157.out)) : gb159 ≠ gb157));have n8_:=qh1 ((by rw [hg];exact Nat.ne_of_lt (blk_lt (g:=gb158) (o:=.cells #[.int .i64 0,.int .i64 0,.slice none 0 0,.slice none 0 0] 31 (0,0)) (by (with_reducible repeat (first|apply qa1|apply qb1|apply qc1));exact BK158.out)) : gb158 ≠ gb159));have n9_:=qh1 ((by rw [hg];exact Nat.ne_of_gt (blk_lt (g:=gb158) (o:=.cells #[.int .i64 0,.int .i64 0,.slice none 0 0,.slice none 0 0] 31 (0,0)) (by (with_reducible repeat (first|apply qa1|apply qb1|apply qc1));exact BK158.out)) : gb159 ≠ gb158));clear BK157;clear BK158;clear HB;have BK157:=n0_;have BK158:=n1_;have HB:=n2_;have BK159:=n3_;have GW159:=n4_;have GE159:=n5_;have NB157_159:=n6_;have NB159_157:=n7_;have NB158_159:=n8_;have NB159_158:=n9_;clear n0_ n1_ n2_ n3_ n4_ n5_ n6_ n7_ n8_ n9_;clear hb hbox hg;have hnb7:=NB157_158.out;have hnc7:=NB158_157.out;have hnb8:=NB157_159.out;have hnc8:=NB159_157.out;have hcz9_0 : w6.cell? ⟨gb157,0,none⟩ = some (.int .i64 a0_0):=(blk_cell BK157.out 0).trans rfl;have hcz9_1 : w6.cell? ⟨gb157,1,none⟩ = some (.int .i64 a0_1):=(blk_cell BK157.out 1).trans rfl;have hcz9_2 : w6.cell? ⟨gb157,2,none⟩ = some (.slice A0_2 l0_2.length c0_2):=(blk_cell BK157.out 2).trans rfl;have hcz9_3 : w6.cell? ⟨gb157,3,none⟩ = some (.slice A0_3 l0_3.length c0_3):=(blk_cell BK157.out 3).trans rfl;have hfz9_0:=sJ BK157.out 0;have hfz9_1:=sJ BK157.out 1;have hfz9_2:=sJ BK157.out 2;have hfz9_3:=sJ BK157.out 3;have hnb10:=NB159_158.out;have hnc10:=NB158_159.out;have hcz11_0 : w6.cell? ⟨gb159,0,none⟩ = some (.int .i64 0):=(blk_cell BK159.out 0).trans rfl;have hcz11_1 : w6.cell? ⟨gb159,1,none⟩ = some (.int .i64 0):=(blk_cell BK159.out 1).trans rfl;have hcz11_2 : w6.cell? ⟨gb159,2,none⟩ = some (.slice none 0 0):=(blk_cell BK159.out 2).trans rfl;have hcz11_3 : w6.cell? ⟨gb159,3,none⟩ = some (.slice none 0 0):=(blk_cell BK159.out 3).trans rfl;have hfz11_0:=sJ BK159.out 0;have hfz11_1:=sJ BK159.out 1;have hfz11_2:=sJ BK159.out 2;have hfz11_3:=sJ BK159.out 3)|((with_reducible refine gate_callee (f:=44) rfl ?_);refine goesL_ (some 12) rfl rfl Try.func44 (by kernel_rfl) rfl #[.slice A0_2 l0_2.length c0_2] rfl (by (try simp only [sE,sH,sI]);first|done|rfl|(simp only [sG,sF];rfl)) ?_;(with_reducible refine (laws_toLockS.calls k _ _ l0_2 t160 _ ?side1 ?side2 A2.out).mono ?_);(case side1 => exact Kd.C_below HR0_2.out (by repeat (first|(with_reducible first|exact HB.out|apply qd1|apply qe1|apply qf1|refine qg1 ?_ GE157.out|refine qg1 ?_ GE158.out|refine qg1 ?_ GE159.out)|exact HB.out)));(case side2 => exact HC0_2.out);rintro e w12 ⟨v161,rfl,ho0,hb⟩;refine ⟨_,rfl,?_⟩;have n0_:=qh1 (Kd.S_lower ho0 (qk1 (by repeat (first|(with_reducible first|exact HB.out|apply qd1|apply qe1|apply qf1|refine qg1 ?_ GE157.out|refine qg1 ?_ GE158.out|refine qg1 ?_ GE159.out)|exact HB.out))));have n1_:=qh1 (qi1 (g:=gb157) (o:=.cells #[.int .i64 a0_0,.int .i64 a0_1,.slice A0_2 l0_2.length c0_2,.slice A0_3 l0_3.length c0_3] 25 (0,0)) (by (with_reducible repeat (first|apply qa1|apply qb1|apply qc1));refine blk_far ?_ NB157_159.out _;(with_reducible repeat (first|apply qa1|apply qb1|apply qc1));refine blk_far ?_ NB157_159.out _;(with_reducible repeat (first|apply qa1|apply qb1|apply qc1));exact BK157.out) hb);have n2_:=qh1 (qi1 (g:=gb158) (o:=.cells #[.int .i64 0,.int .i64 0,.slice none 0 0,.slice none 0 0] 31 (0,0)) (by (with_reducible repeat (first|apply qa1|apply qb1|apply qc1));refine blk_far ?_ NB158_159.out _;(with_reducible repeat (first|apply qa1|apply qb1|apply qc1));refine blk_far ?_ NB158_159.out _;(with_reducible repeat (first|apply qa1|apply qb1|apply qc1));exact BK158.out) hb);have n3_:=qh1 (qi1 (g:=gb159) (o:=.cells #[.int .i64 a0_0,.int .i64 a0_1,.slice none 0 0,.slice none 0 0] 31 (0,0)) (by (with_reducible repeat (first|apply qa1|apply qb1|apply qc1));refine blk_put (cs:=#[.int .i64 a0_0,.int .i64 0,.slice none 0 0,.slice none 0 0]) ?_ 1 _ rfl;(with_reducible repeat (first|apply qa1|apply qb1|apply qc1));refine blk_put (cs:=#[.int .i64 0,.int .i64 0,.slice none 0 0,.slice none 0 0]) ?_ 0 _ rfl;(with_reducible repeat (first|apply qa1|apply qb1|apply qc1));exact BK159.out) hb);have n4_:=qh1 (qj1 (by repeat (first|(with_reducible first|exact HB.out|apply qd1|apply qe1|apply qf1|refine qg1 ?_ GE157.out|refine qg1 ?_ GE158.out|refine qg1 ?_ GE159.out)|exact HB.out)) hb);clear BK157;clear BK158;clear BK159;clear HB;have HO162:=n0_;have BK157:=n1_;have BK158:=n2_;have BK159:=n3_;have HB:=n4_;clear n0_ n1_ n2_ n3_ n4_;(try clear hb);(try clear hb2);(try clear hk);(try clear hi);(try clear ho0);obtain ⟨Ao13,co13,eo13⟩:=Kd.S_slice HO162.out;subst eo13;have hcz14_0 : w12.cell? ⟨gb159,0,none⟩ = some (.int .i64 a0_0):=(blk_cell BK159.out 0).trans rfl;have hcz14_1 : w12.cell? ⟨gb159,1,none⟩ = some (.int .i64 a0_1):=(blk_cell BK159.out 1).trans rfl;have hcz14_2 : w12.cell? ⟨gb159,2,none⟩ = some (.slice none 0 0):=(blk_cell BK159.out 2).trans rfl;have hcz14_3 : w12.cell? ⟨gb159,3,none⟩ = some (.slice none 0 0):=(blk_cell BK159.out 3).trans rfl;have hfz14_0:=sJ BK159.out 0;have hfz14_1:=sJ BK159.out 1;have hfz14_2:=sJ BK159.out 2;have hfz14_3:=sJ BK159.out 3;have hcz15_0 : w12.cell? ⟨gb157,0,none⟩ = some (.int .i64 a0_0):=(blk_cell BK157.out 0).trans rfl;have hcz15_1 : w12.cell? ⟨gb157,1,none⟩ = some (.int .i64 a0_1):=(blk_cell BK157.out 1).trans rfl;have hcz15_2 : w12.cell? ⟨gb157,2,none⟩ = some (.slice A0_2 l0_2.length c0_2):=(blk_cell BK157.out 2).trans rfl;have hcz15_3 : w12.cell? ⟨gb157,3,none⟩ = some (.slice A0_3 l0_3.length c0_3):=(blk_cell BK157.out 3).trans rfl;have hfz15_0:=sJ BK157.out 0;have hfz15_1:=sJ BK157.out 1;have hfz15_2:=sJ BK157.out 2;have hfz15_3:=sJ BK157.out 3)|((with_reducible refine gate_callee (f:=45) rfl ?_);refine goesL_ (some 16) rfl rfl Try.func45 (by kernel_rfl) rfl #[.slice A0_3 l0_3.length c0_3] rfl (by (try simp only [sE,sH,sI]);first|done|rfl|(simp only [sG,sF];rfl)) ?_;(with_reducible refine (laws_toSeenS.calls k _ _ l0_3 t163 _ ?side1 ?side2 A3.out).mono ?_);(case side1 => exact Kd.C_below HR0_3.out (by repeat (first|(with_reducible first|exact HB.out|apply qd1|apply qe1|apply qf1|refine qg1 ?_ GE157.out|refine qg1 ?_ GE158.out|refine qg1 ?_ GE159.out)|exact HB.out)));(case side2 => exact HC0_3.out);rintro e w16 ⟨v164,rfl,ho0,hb⟩;refine ⟨_,rfl,?_⟩;have n0_:=qh1 (Kd.S_below (by (with_reducible repeat (first|apply Kd.S_alloc|apply Kd.S_drewN|apply Kd.S_drew));exact (Kd.S_mono (Kd.S_far (p:=⟨gb159,2,none⟩) (Kd.S_types HO162.out BK159.out (by decide)) (fun _ hk => hk.2) (.slice Ao13 t160.length co13)) (fun _ h_ => h_.1))) hb);have n1_:=qh1 (Kd.R_lower ho0 (qk1 (by repeat (first|(with_reducible first|exact HB.out|apply qd1|apply qe1|apply qf1|refine qg1 ?_ GE157.out|refine qg1 ?_ GE158.out|refine qg1 ?_ GE159.out)|exact HB.out))));have n2_:=qh1 (qi1 (g:=gb157) (o:=.cells #[.int .i64 a0_0,.int .i64 a0_1,.slice A0_2 l0_2.length c0_2,.slice A0_3 l0_3.length c0_3] 25 (0,0)) (by (with_reducible repeat (first|apply qa1|apply qb1|apply qc1));refine blk_far ?_ NB157_159.out _;(with_reducible repeat (first|apply qa1|apply qb1|apply qc1));exact BK157.out) hb);have n3_:=qh1 (qi1 (g:=gb158) (o:=.cells #[.int .i64 0,.int .i64 0,.slice none 0 0,.slice none 0 0] 31 (0,0)) (by (with_reducible repeat (first|apply qa1|apply qb1|apply qc1));refine blk_far ?_ NB158_159.out _;(with_reducible repeat (first|apply qa1|apply qb1|apply qc1));exact BK158.out) hb);have n4_:=qh1 (qi1 (g:=gb159) (o:=.cells #[.int .i64 a0_0,.int .i64 a0_1,.slice Ao13 t160.length co13,.slice none 0 0] 31 (0,0)) (by (with_reducible repeat (first|apply qa1|apply qb1|apply qc1));refine blk_put (cs:=#[.int .i64 a0_0,.int .i64 a0_1,.slice none 0 0,.slice none 0 0]) ?_ 2 _ rfl;(with_reducible repeat (first|apply qa1|apply qb1|apply qc1));exact BK159.out) hb);have n5_:=qh1 (qj1 (by repeat (first|(with_reducible first|exact HB.out|apply qd1|apply qe1|apply qf1|refine qg1 ?_ GE157.out|refine qg1 ?_ GE158.out|refine qg1 ?_ GE159.out)|exact HB.out)) hb);clear HO162;clear BK157;clear BK158;clear BK159;clear HB;have HO162:=n0_;have HO165:=n1_;have BK157:=n2_;have BK158:=n3_;have BK159:=n4_;have HB:=n5_;clear n0_ n1_ n2_ n3_ n4_ n5_;(try clear hb);(try clear hb2);(try clear hk);(try clear hi);(try clear ho0);obtain ⟨Ao17,co17,eo17⟩:=Kd.R_slice HO165.out;subst eo17;have hcz18_0 : w16.cell? ⟨gb159,0,none⟩ = some (.int .i64 a0_0):=(blk_cell BK159.out 0).trans rfl;have hcz18_1 : w16.cell? ⟨gb159,1,none⟩ = some (.int .i64 a0_1):=(blk_cell BK159.out 1).trans rfl;have hcz18_2 : w16.cell? ⟨gb159,2,none⟩ = some (.slice Ao13 t160.length co13):=(blk_cell BK159.out 2).trans rfl;have hcz18_3 : w16.cell? ⟨gb159,3,none⟩ = some (.slice none 0 0):=(blk_cell BK159.out 3).trans rfl;have hfz18_0:=sJ BK159.out 0;have hfz18_1:=sJ BK159.out 1;have hfz18_2:=sJ BK159.out 2;have hfz18_3:=sJ BK159.out 3;have hcz19_0 : w16.cell? ⟨gb158,0,none⟩ = some (.int .i64 0):=(blk_cell BK158.out 0).trans rfl;have hcz19_1 : w16.cell? ⟨gb158,1,none⟩ = some (.int .i64 0):=(blk_cell BK158.out 1).trans rfl;have hcz19_2 : w16.cell? ⟨gb158,2,none⟩ = some (.slice none 0 0):=(blk_cell BK158.out 2).trans rfl;have hcz19_3 : w16.cell? ⟨gb158,3,none⟩ = some (.slice none 0 0):=(blk_cell BK158.out 3).trans rfl;have hfz19_0:=sJ BK158.out 0;have hfz19_1:=sJ BK158.out 1;have hfz19_2:=sJ BK158.out 2;have hfz19_3:=sJ BK158.out 3))
 refine bodyPost_ret (results_cell_row rfl _ _ gb158 31 #[.int .i64 a0_0,.int .i64 a0_1,.slice Ao13 t160.length co13,.slice Ao17 t163.length co17] (0,0) _ rfl (by (with_reducible repeat (first|apply qa1|apply qb1|apply qc1));refine blk_put (cs:=#[.int .i64 a0_0,.int .i64 a0_1,.slice Ao13 t160.length co13,.slice none 0 0]) ?_ 3 _ rfl;(with_reducible repeat (first|apply qa1|apply qb1|apply qc1));refine blk_put (cs:=#[.int .i64 a0_0,.int .i64 a0_1,.slice none 0 0,.slice none 0 0]) ?_ 2 _ rfl;(with_reducible repeat (first|apply qa1|apply qb1|apply qc1));refine blk_put (cs:=#[.int .i64 a0_0,.int .i64 0,.slice none 0 0,.slice none 0 0]) ?_ 1 _ rfl;(with_reducible repeat (first|apply qa1|apply qb1|apply qc1));refine blk_put (cs:=#[.int .i64 0,.int .i64 0,.slice none 0 0,.slice none 0 0]) ?_ 0 _ rfl;(with_reducible repeat (first|apply qa1|apply qb1|apply qc1));refine blk_far ?_ NB158_159.out _;(with_reducible repeat (first|apply qa1|apply qb1|apply qc1));exact BK158.out) Try.underlying31 rfl (by kernel_rfl)) rfl ?_
 exact ⟨_,_,by first|rfl|(simp [errW_none,errW_some] <;> rfl)|(simp [*,errW_none,errW_some] <;> rfl),by (with_reducible repeat (first|apply Kd.S_alloc|apply Kd.S_drewN|apply Kd.S_drew));exact Kd.S_mono (Kd.S_far (p:=⟨gb158,3,none⟩) (Kd.S_far (p:=⟨gb158,2,none⟩) (Kd.S_far (p:=⟨gb158,1,none⟩) (Kd.S_far (p:=⟨gb158,0,none⟩) (Kd.S_far (p:=⟨gb159,3,none⟩) (Kd.S_types (Kd.S_types HO162.out BK159.out (by decide)) BK158.out (by decide)) (fun _ hk => hk.1.2) (.slice Ao17 t163.length co17)) (fun _ hk => hk.2) (.int .i64 a0_0)) (fun _ hk => hk.2) (.int .i64 a0_1)) (fun _ hk => hk.2) (.slice Ao13 t160.length co13)) (fun _ hk => hk.2) (.slice Ao17 t163.length co17)) (fun _ hk => trivial),by (with_reducible repeat (first|apply Kd.R_alloc|apply Kd.R_drewN|apply Kd.R_drew));exact Kd.R_mono (Kd.R_far (p:=⟨gb158,3,none⟩) (Kd.R_far (p:=⟨gb158,2,none⟩) (Kd.R_far (p:=⟨gb158,1,none⟩) (Kd.R_far (p:=⟨gb158,0,none⟩) (Kd.R_far (p:=⟨gb159,3,none⟩) (Kd.R_types (Kd.R_types HO165.out BK159.out (by decide)) BK158.out (by decide)) (fun _ hk => hk.1.2) (.slice Ao17 t163.length co17)) (fun _ hk => hk.2) (.int .i64 a0_0)) (fun _ hk => hk.2) (.int .i64 a0_1)) (fun _ hk => hk.2) (.slice Ao13 t160.length co13)) (fun _ hk => hk.2) (.slice Ao17 t163.length co17)) (fun _ hk => trivial),by repeat (first|(with_reducible first|exact HB.out|apply qd1|apply qe1|apply qf1|refine qg1 ?_ GE157.out|refine qg1 ?_ GE158.out|refine qg1 ?_ GE159.out)|exact HB.out)⟩

end Go.Proofs.Ytjkanhjapddhnaa.PFnExactTableBytes
