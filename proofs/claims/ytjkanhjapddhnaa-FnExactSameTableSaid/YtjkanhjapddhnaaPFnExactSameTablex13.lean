-- laid by this session's program myprint.py over the kit's printer
-- squeezed
-- aliased
import Derived.Test.YtjkanhjapddhnaaPFnExactSameTablex0
import Derived.Test.YtjkanhjapddhnaaPFnExactSameTablex10
import Derived.Test.YtjkanhjapddhnaaPFnExactSameTablex12
namespace Go.Proofs.Ytjkanhjapddhnaa.PFnExactSameTable
open Go.RowKit Go.Proofs.YtjkanhjapddhnaaV.PrintWords Go.Proofs.YtjkanhjapddhnaaV.PrintLast Go.Proofs.YtjkanhjapddhnaaV.PrintMore
attribute [local go_sem] max2_int min2_int max_two min_two max_three min_three max_four min_four u8_wm u32_wm   -- for this text's walks alone
set_option linter.unusedVariables false
set_option linter.unusedSimpArgs false

/-! ### impl_SameTable: function 14 -/
theorem qa13 : type_of% @Aside0.mk:=@Aside0.mk
def impl_SameTable.j0 : Nat → Bool → Int → Int → List (S70) → List (S77) → Int → Int → List (S70) → List (S77) → Option (Bool × Int)
 | 0,_,_,_,_,_,_,_,_,_ => none
 | k + 1,x13,x364000,x364001,x364002,x364003,x365000,x365001,x365002,x365003 => if x13 = true then (some (false,1)) else ((impl_tableText.f k x364000 x364001 x364002 x364003).bind fun t367 => ((impl_tableText.f k x365000 x365001 x365002 x365003).bind fun t368 => (some ((t367.toList == t368.toList),0))))
def impl_SameTable.f (k : Nat) (a0_0 : Int) (a0_1 : Int) (l0_2 : List (S70)) (l0_3 : List (S77)) (a1_0 : Int) (a1_1 : Int) (l1_2 : List (S70)) (l1_3 : List (S77)) : Option (Bool × Int):=(impl_TableOK.f a0_0 a0_1 l0_2 l0_3).bind fun t365 => (if t365 = true then ((impl_TableOK.f a1_0 a1_1 l1_2 l1_3).bind fun t366 => (impl_SameTable.j0 k (!t366) a0_0 a0_1 l0_2 l0_3 a1_0 a1_1 l1_2 l1_3)) else (impl_SameTable.j0 k true a0_0 a0_1 l0_2 l0_3 a1_0 a1_1 l1_2 l1_3))
set_option maxHeartbeats 8000000 in
set_option maxRecDepth 100000 in
theorem impl_SameTable.calls (k : Nat) (a0_0 : Int) (a0_1 : Int) (A0_2 : Option Addr) (c0_2 : Nat) (l0_2 : List (S70)) (A0_3 : Option Addr) (c0_3 : Nat) (l0_3 : List (S77)) (a1_0 : Int) (a1_1 : Int) (A1_2 : Option Addr) (c1_2 : Nat) (l1_2 : List (S70)) (A1_3 : Option Addr) (c1_3 : Nat) (l1_3 : List (S77)) (r1 : Bool) (r2 : Int) (w : World) (hr0_2 : Kd.C k70 w A0_2 l0_2.length l0_2) (hc0_2 : l0_2.length ≤ c0_2) (hr0_3 : Kd.C k77 w A0_3 l0_3.length l0_3) (hc0_3 : l0_3.length ≤ c0_3) (hr1_2 : Kd.C k70 w A1_2 l1_2.length l1_2) (hc1_2 : l1_2.length ≤ c1_2) (hr1_3 : Kd.C k77 w A1_3 l1_3.length l1_3) (hc1_3 : l1_3.length ≤ c1_3) (h : impl_SameTable.f k a0_0 a0_1 l0_2 l0_3 a1_0 a1_1 l1_2 l1_3 = some (r1,r2)) :
  Calls Try.prog 14 #[.agg #[.int .i64 a0_0,.int .i64 a0_1,.slice A0_2 l0_2.length c0_2,.slice A0_3 l0_3.length c0_3],.agg #[.int .i64 a1_0,.int .i64 a1_1,.slice A1_2 l1_2.length c1_2,.slice A1_3 l1_3.length c1_3]] w fun e w' => e = .returned (.tuple #[.bool r1,.int .i64 r2]) ∧ Below w.heap.size w w':=by
 have hu31:=Try.underlying31
 have HR0_2:=qa13 hr0_2
 have HC0_2:=qa13 hc0_2
 clear hr0_2 hc0_2
 have HR0_3:=qa13 hr0_3
 have HC0_3:=qa13 hc0_3
 clear hr0_3 hc0_3
 have HR1_2:=qa13 hr1_2
 have HC1_2:=qa13 hc1_2
 clear hr1_2 hc1_2
 have HR1_3:=qa13 hr1_3
 have HC1_3:=qa13 hc1_3
 clear hr1_3 hc1_3
 have HB:=qa13 (Below.refl w.heap.size w)
 have H : ((impl_TableOK.f a0_0 a0_1 l0_2 l0_3).bind fun t365 => (if t365 = true then ((impl_TableOK.f a1_0 a1_1 l1_2 l1_3).bind fun t366 => (impl_SameTable.j0 k (!t366) a0_0 a0_1 l0_2 l0_3 a1_0 a1_1 l1_2 l1_3)) else (impl_SameTable.j0 k true a0_0 a0_1 l0_2 l0_3 a1_0 a1_1 l1_2 l1_3))) = some (r1,r2):=h
 clear h
 have HC3:=qa13 H
 clear H
 go_enter Try.func14,Try.ntmps14
 go_upto_region 1 with (first|((with_reducible refine gate_dst (N:=2) rfl ?_);refine box_event ?hg (N:=2) ?hd (cs:=#[.int .i64 a0_0,.int .i64 a0_1,.slice A0_2 l0_2.length c0_2,.slice A0_3 l0_3.length c0_3]) (t:=31) ?hr ?_;(case hd => rfl);(case hg => rfl);(case hr => first|(go_simp;done)|(go_simp;rfl));intro gb363 hg w4 hbox hb;have n0_:=qa13 (sN (by repeat (first|(with_reducible first|exact HB.out|apply below_alloc|apply pw_below_drewN|apply below_drew1)|exact HB.out)) hb);have n1_:=qa13 (hbox);have n2_:=qa13 ((by rw [hg];exact (below_size (by repeat (first|(with_reducible first|exact HB.out|apply below_alloc|apply pw_below_drewN|apply below_drew1)|exact HB.out))) : w.heap.size ≤ gb363));have n3_:=qa13 ((by rw [hg];exact (below_size (by repeat (first|(with_reducible first|exact HB.out|apply below_alloc|apply pw_below_drewN|apply below_drew1)|exact HB.out))) : w.heap.size ≤ gb363));clear HB;have HB:=n0_;have BK363:=n1_;have GW363:=n2_;have GE363:=n3_;clear n0_ n1_ n2_ n3_;clear hb hbox hg)|((with_reducible refine gate_dst (N:=3) rfl ?_);refine box_event ?hg (N:=3) ?hd (cs:=#[.int .i64 a1_0,.int .i64 a1_1,.slice A1_2 l1_2.length c1_2,.slice A1_3 l1_3.length c1_3]) (t:=31) ?hr ?_;(case hd => rfl);(case hg => rfl);(case hr => first|(go_simp;done)|(go_simp;rfl));intro gb364 hg w5 hbox hb;have n0_:=qa13 (blk_below (g:=gb363) (o:=.cells #[.int .i64 a0_0,.int .i64 a0_1,.slice A0_2 l0_2.length c0_2,.slice A0_3 l0_3.length c0_3] 31 (0,0)) (by (with_reducible repeat (first|apply blk_drewN|apply blk_drew|apply blk_alloc));exact BK363.out) hb);have n1_:=qa13 (sN (by repeat (first|(with_reducible first|exact HB.out|apply below_alloc|apply pw_below_drewN|apply below_drew1|refine below_set ?_ GE363.out)|exact HB.out)) hb);have n2_:=qa13 (hbox);have n3_:=qa13 ((by rw [hg];exact (below_size (by repeat (first|(with_reducible first|exact HB.out|apply below_alloc|apply pw_below_drewN|apply below_drew1|refine below_set ?_ GE363.out)|exact HB.out))) : w.heap.size ≤ gb364));have n4_:=qa13 ((by rw [hg];exact (below_size (by repeat (first|(with_reducible first|exact HB.out|apply below_alloc|apply pw_below_drewN|apply below_drew1|refine below_set ?_ GE363.out)|exact HB.out))) : w.heap.size ≤ gb364));have n5_:=qa13 ((by rw [hg];exact Nat.ne_of_lt (blk_lt (g:=gb363) (o:=.cells #[.int .i64 a0_0,.int .i64 a0_1,.slice A0_2 l0_2.length c0_2,.slice A0_3 l0_3.length c0_3] 31 (0,0)) (by (with_reducible repeat (first|apply blk_drewN|apply blk_drew|apply blk_alloc));exact BK363.out)) : gb363 ≠ gb364));have n6_:=qa13 ((by rw [hg];exact Nat.ne_of_gt (blk_lt (g:=gb363) (o:=.cells #[.int .i64 a0_0,.int .i64 a0_1,.slice A0_2 l0_2.length c0_2,.slice A0_3 l0_3.length c0_3] 31 (0,0)) (by (with_reducible repeat (first|apply blk_drewN|apply blk_drew|apply blk_alloc));exact BK363.out)) : gb364 ≠ gb363));clear BK363;clear HB;have BK363:=n0_;have HB:=n1_;have BK364:=n2_;have GW364:=n3_;have GE364:=n4_;have NB363_364:=n5_;have NB364_363:=n6_;clear n0_ n1_ n2_ n3_ n4_ n5_ n6_;clear hb hbox hg))
 (try simp only [Act.put,sA,sB,sC])
 go_cut [13] (fun v13 wc => ∃ (kq : Nat) (x13_2 : Bool),v13 = .bool x13_2 ∧ Aside0 (impl_SameTable.j0 kq x13_2 a0_0 a0_1 l0_2 l0_3 a1_0 a1_1 l1_2 l1_3 = some (r1,r2)) ∧ Aside0 (kq ≤ k) ∧ Aside0 (wc.heap[gb363]? = some (.cells #[.int .i64 a0_0,.int .i64 a0_1,(.slice A0_2 l0_2.length c0_2),(.slice A0_3 l0_3.length c0_3)] 31 (0,0))) ∧ Aside0 (wc.heap[gb364]? = some (.cells #[.int .i64 a1_0,.int .i64 a1_1,(.slice A1_2 l1_2.length c1_2),(.slice A1_3 l1_3.length c1_3)] 31 (0,0))) ∧ Aside0 (Below w.heap.size w wc))
 case first =>
  have H:=HC3.out
  clear HC3
  replace H:=Option.bind_eq_some_iff.mp H
  obtain ⟨t365,A60,H⟩:=H
  replace H : (if t365 = true then ((impl_TableOK.f a1_0 a1_1 l1_2 l1_3).bind fun t366 => (impl_SameTable.j0 k (!t366) a0_0 a0_1 l0_2 l0_3 a1_0 a1_1 l1_2 l1_3)) else (impl_SameTable.j0 k true a0_0 a0_1 l0_2 l0_3 a1_0 a1_1 l1_2 l1_3)) = some (r1,r2):=H
  have A6:=qa13 A60
  clear A60
  by_cases c7 : t365 = true
  ·
   subst c7
   have H1 : ((impl_TableOK.f a1_0 a1_1 l1_2 l1_3).bind fun t366 => (impl_SameTable.j0 k (!t366) a0_0 a0_1 l0_2 l0_3 a1_0 a1_1 l1_2 l1_3)) = some (r1,r2):=by rw [if_pos rfl] at H;exact H
   clear H
   have H:=H1
   clear H1
   replace H:=Option.bind_eq_some_iff.mp H
   obtain ⟨t366,A80,H⟩:=H
   replace H : (impl_SameTable.j0 k (!t366) a0_0 a0_1 l0_2 l0_3 a1_0 a1_1 l1_2 l1_3) = some (r1,r2):=H
   have A8:=qa13 A80
   clear A80
   have H':=qa13 H
   clear H
   have hnb9:=NB363_364.out
   have hnc9:=NB364_363.out
   have hcz10_0 : w5.cell? ⟨gb363,0,none⟩ = some (.int .i64 a0_0):=(blk_cell BK363.out 0).trans rfl
   have hcz10_1 : w5.cell? ⟨gb363,1,none⟩ = some (.int .i64 a0_1):=(blk_cell BK363.out 1).trans rfl
   have hcz10_2 : w5.cell? ⟨gb363,2,none⟩ = some (.slice A0_2 l0_2.length c0_2):=(blk_cell BK363.out 2).trans rfl
   have hcz10_3 : w5.cell? ⟨gb363,3,none⟩ = some (.slice A0_3 l0_3.length c0_3):=(blk_cell BK363.out 3).trans rfl
   have hfz10_0:=sJ BK363.out 0
   have hfz10_1:=sJ BK363.out 1
   have hfz10_2:=sJ BK363.out 2
   have hfz10_3:=sJ BK363.out 3
   go_wp2_with (first|((with_reducible refine gate_callee (f:=11) rfl ?_);refine goesL_ (some 7) rfl rfl Try.func11 (by kernel_rfl) rfl #[.agg #[.int .i64 a0_0,.int .i64 a0_1,.slice A0_2 l0_2.length c0_2,.slice A0_3 l0_3.length c0_3]] rfl (by (try simp only [sE,sH,sI]);first|done|rfl|(simp only [sG,sF];rfl)) ?_;(with_reducible refine (impl_TableOK.calls a0_0 a0_1 _ _ l0_2 _ _ l0_3 true _ ?side1 ?side2 ?side3 ?side4 A6.out).mono ?_);(case side1 => repeat (first|exact (Kd.C_below HR0_2.out HB.out)|(with_reducible refine Kd.C_alloc ?_ _)|(with_reducible refine Kd.C_drewN ?_ _)|(with_reducible refine Kd.C_drew ?_)));(case side2 => exact HC0_2.out);(case side3 => repeat (first|exact (Kd.C_below HR0_3.out HB.out)|(with_reducible refine Kd.C_alloc ?_ _)|(with_reducible refine Kd.C_drewN ?_ _)|(with_reducible refine Kd.C_drew ?_)));(case side4 => exact HC0_3.out);rintro e w11 ⟨rfl,hb⟩;refine ⟨_,rfl,?_⟩;have n0_:=qa13 (blk_below (g:=gb363) (o:=.cells #[.int .i64 a0_0,.int .i64 a0_1,.slice A0_2 l0_2.length c0_2,.slice A0_3 l0_3.length c0_3] 31 (0,0)) (by (with_reducible repeat (first|apply blk_drewN|apply blk_drew|apply blk_alloc));exact BK363.out) hb);have n1_:=qa13 (blk_below (g:=gb364) (o:=.cells #[.int .i64 a1_0,.int .i64 a1_1,.slice A1_2 l1_2.length c1_2,.slice A1_3 l1_3.length c1_3] 31 (0,0)) (by (with_reducible repeat (first|apply blk_drewN|apply blk_drew|apply blk_alloc));exact BK364.out) hb);have n2_:=qa13 (sN (by repeat (first|(with_reducible first|exact HB.out|apply below_alloc|apply pw_below_drewN|apply below_drew1|refine below_set ?_ GE363.out|refine below_set ?_ GE364.out)|exact HB.out)) hb);clear BK363;clear BK364;clear HB;have BK363:=n0_;have BK364:=n1_;have HB:=n2_;clear n0_ n1_ n2_;(try clear hb);(try clear hb2);(try clear hk);(try clear hi);have hcz12_0 : w11.cell? ⟨gb364,0,none⟩ = some (.int .i64 a1_0):=(blk_cell BK364.out 0).trans rfl;have hcz12_1 : w11.cell? ⟨gb364,1,none⟩ = some (.int .i64 a1_1):=(blk_cell BK364.out 1).trans rfl;have hcz12_2 : w11.cell? ⟨gb364,2,none⟩ = some (.slice A1_2 l1_2.length c1_2):=(blk_cell BK364.out 2).trans rfl;have hcz12_3 : w11.cell? ⟨gb364,3,none⟩ = some (.slice A1_3 l1_3.length c1_3):=(blk_cell BK364.out 3).trans rfl;have hfz12_0:=sJ BK364.out 0;have hfz12_1:=sJ BK364.out 1;have hfz12_2:=sJ BK364.out 2;have hfz12_3:=sJ BK364.out 3)|(go_at_call 11;(with_reducible refine (impl_TableOK.calls a1_0 a1_1 _ _ l1_2 _ _ l1_3 t366 _ ?side1 ?side2 ?side3 ?side4 A8.out).mono ?_);(case side1 => repeat (first|exact (Kd.C_below HR1_2.out HB.out)|(with_reducible refine Kd.C_alloc ?_ _)|(with_reducible refine Kd.C_drewN ?_ _)|(with_reducible refine Kd.C_drew ?_)));(case side2 => exact HC1_2.out);(case side3 => repeat (first|exact (Kd.C_below HR1_3.out HB.out)|(with_reducible refine Kd.C_alloc ?_ _)|(with_reducible refine Kd.C_drewN ?_ _)|(with_reducible refine Kd.C_drew ?_)));(case side4 => exact HC1_3.out);rintro e w13 ⟨rfl,hb⟩;have n0_:=qa13 (blk_below (g:=gb363) (o:=.cells #[.int .i64 a0_0,.int .i64 a0_1,.slice A0_2 l0_2.length c0_2,.slice A0_3 l0_3.length c0_3] 31 (0,0)) (by (with_reducible repeat (first|apply blk_drewN|apply blk_drew|apply blk_alloc));exact BK363.out) hb);have n1_:=qa13 (blk_below (g:=gb364) (o:=.cells #[.int .i64 a1_0,.int .i64 a1_1,.slice A1_2 l1_2.length c1_2,.slice A1_3 l1_3.length c1_3] 31 (0,0)) (by (with_reducible repeat (first|apply blk_drewN|apply blk_drew|apply blk_alloc));exact BK364.out) hb);have n2_:=qa13 (sN (by repeat (first|(with_reducible first|exact HB.out|apply below_alloc|apply pw_below_drewN|apply below_drew1|refine below_set ?_ GE363.out|refine below_set ?_ GE364.out)|exact HB.out)) hb);clear BK363;clear BK364;clear HB;have BK363:=n0_;have BK364:=n1_;have HB:=n2_;clear n0_ n1_ n2_;(try clear hb);(try clear hb2);(try clear hk);(try clear hi)))
   go_meet
   case rel => exact ⟨_,(!t366),(by first|rfl|(simp;done)|(simp [*];done)),H',⟨by first|omega|exact Nat.le_refl _⟩,⟨by (with_reducible repeat (first|apply blk_drewN|apply blk_drew|apply blk_alloc));exact BK363.out⟩,⟨by (with_reducible repeat (first|apply blk_drewN|apply blk_drew|apply blk_alloc));exact BK364.out⟩,⟨by repeat (first|(with_reducible first|exact HB.out|apply below_alloc|apply pw_below_drewN|apply below_drew1|refine below_set ?_ GE363.out|refine below_set ?_ GE364.out)|exact HB.out)⟩⟩
  ·
   replace c7:=Bool.eq_false_iff.mpr c7
   subst c7
   have H1 : (impl_SameTable.j0 k true a0_0 a0_1 l0_2 l0_3 a1_0 a1_1 l1_2 l1_3) = some (r1,r2):=by rw [if_neg (show ¬ (false = true) by decide)] at H;exact H
   clear H
   have H:=H1
   clear H1
   have H':=qa13 H
   clear H
   have hnb14:=NB363_364.out
   have hnc14:=NB364_363.out
   have hcz15_0 : w5.cell? ⟨gb363,0,none⟩ = some (.int .i64 a0_0):=(blk_cell BK363.out 0).trans rfl
   have hcz15_1 : w5.cell? ⟨gb363,1,none⟩ = some (.int .i64 a0_1):=(blk_cell BK363.out 1).trans rfl
   have hcz15_2 : w5.cell? ⟨gb363,2,none⟩ = some (.slice A0_2 l0_2.length c0_2):=(blk_cell BK363.out 2).trans rfl
   have hcz15_3 : w5.cell? ⟨gb363,3,none⟩ = some (.slice A0_3 l0_3.length c0_3):=(blk_cell BK363.out 3).trans rfl
   have hfz15_0:=sJ BK363.out 0
   have hfz15_1:=sJ BK363.out 1
   have hfz15_2:=sJ BK363.out 2
   have hfz15_3:=sJ BK363.out 3
   go_wp2_with (first|((with_reducible refine gate_callee (f:=11) rfl ?_);refine goesL_ (some 7) rfl rfl Try.func11 (by kernel_rfl) rfl #[.agg #[.int .i64 a0_0,.int .i64 a0_1,.slice A0_2 l0_2.length c0_2,.slice A0_3 l0_3.length c0_3]] rfl (by (try simp only [sE,sH,sI]);first|done|rfl|(simp only [sG,sF];rfl)) ?_;(with_reducible refine (impl_TableOK.calls a0_0 a0_1 _ _ l0_2 _ _ l0_3 false _ ?side1 ?side2 ?side3 ?side4 A6.out).mono ?_);(case side1 => repeat (first|exact (Kd.C_below HR0_2.out HB.out)|(with_reducible refine Kd.C_alloc ?_ _)|(with_reducible refine Kd.C_drewN ?_ _)|(with_reducible refine Kd.C_drew ?_)));(case side2 => exact HC0_2.out);(case side3 => repeat (first|exact (Kd.C_below HR0_3.out HB.out)|(with_reducible refine Kd.C_alloc ?_ _)|(with_reducible refine Kd.C_drewN ?_ _)|(with_reducible refine Kd.C_drew ?_)));(case side4 => exact HC0_3.out);rintro e w16 ⟨rfl,hb⟩;refine ⟨_,rfl,?_⟩;have n0_:=qa13 (blk_below (g:=gb363) (o:=.cells #[.int .i64 a0_0,.int .i64 a0_1,.slice A0_2 l0_2.length c0_2,.slice A0_3 l0_3.length c0_3] 31 (0,0)) (by (with_reducible repeat (first|apply blk_drewN|apply blk_drew|apply blk_alloc));exact BK363.out) hb);have n1_:=qa13 (blk_below (g:=gb364) (o:=.cells #[.int .i64 a1_0,.int .i64 a1_1,.slice A1_2 l1_2.length c1_2,.slice A1_3 l1_3.length c1_3] 31 (0,0)) (by (with_reducible repeat (first|apply blk_drewN|apply blk_drew|apply blk_alloc));exact BK364.out) hb);have n2_:=qa13 (sN (by repeat (first|(with_reducible first|exact HB.out|apply below_alloc|apply pw_below_drewN|apply below_drew1|refine below_set ?_ GE363.out|refine below_set ?_ GE364.out)|exact HB.out)) hb);clear BK363;clear BK364;clear HB;have BK363:=n0_;have BK364:=n1_;have HB:=n2_;clear n0_ n1_ n2_;(try clear hb);(try clear hb2);(try clear hk);(try clear hi)))
   go_meet
   case rel => exact ⟨_,(true),(by first|rfl|(simp;done)|(simp [*];done)),H',⟨by first|omega|exact Nat.le_refl _⟩,⟨by (with_reducible repeat (first|apply blk_drewN|apply blk_drew|apply blk_alloc));exact BK363.out⟩,⟨by (with_reducible repeat (first|apply blk_drewN|apply blk_drew|apply blk_alloc));exact BK364.out⟩,⟨by repeat (first|(with_reducible first|exact HB.out|apply below_alloc|apply pw_below_drewN|apply below_drew1|refine below_set ?_ GE363.out|refine below_set ?_ GE364.out)|exact HB.out)⟩⟩
 case rest =>
  clear HC3
  try clear c1
  try clear p2
  try clear c7
  try clear c9
  try clear c11
  try clear c14
  try clear hcz10_0
  try clear hcz10_1
  try clear hcz10_2
  try clear hcz10_3
  try clear hcz12_0
  try clear hcz12_1
  try clear hcz12_2
  try clear hcz12_3
  try clear hcz15_0
  try clear hcz15_1
  try clear hcz15_2
  try clear hcz15_3
  try clear hfz10_0
  try clear hfz10_1
  try clear hfz10_2
  try clear hfz10_3
  try clear hfz12_0
  try clear hfz12_1
  try clear hfz12_2
  try clear hfz12_3
  try clear hfz15_0
  try clear hfz15_1
  try clear hfz15_2
  try clear hfz15_3
  obtain ⟨kq,x13_2,rfl,HA,HJ2,BK363,BK364,HB⟩:=hcut
  cases kq with
  | zero => exact absurd HA.out (by simp [impl_SameTable.j0])
  | succ kj2 =>
   have H:=HA.out
   clear HA
   simp only [impl_SameTable.j0] at H
   by_cases c17 : x13_2 = true
   ·
    subst c17
    have H1 : (some (false,1)) = some (r1,r2):=by rw [if_pos rfl] at H;exact H
    clear H
    have H:=H1
    clear H1
    simp only [Option.some.injEq,Prod.mk.injEq] at H
    obtain ⟨rfl,rfl⟩:=H
    go_wp2
    go_ret2
    exact ⟨by first|rfl|(simp [errW_none,errW_some] <;> rfl)|(simp [*,errW_none,errW_some] <;> rfl),by repeat (first|(with_reducible first|exact HB.out|apply below_alloc|apply pw_below_drewN|apply below_drew1|refine below_set ?_ GE363.out|refine below_set ?_ GE364.out)|exact HB.out)⟩
   ·
    replace c17:=Bool.eq_false_iff.mpr c17
    subst c17
    have H1 : ((impl_tableText.f kj2 a0_0 a0_1 l0_2 l0_3).bind fun t367 => ((impl_tableText.f kj2 a1_0 a1_1 l1_2 l1_3).bind fun t368 => (some ((t367.toList == t368.toList),0)))) = some (r1,r2):=by rw [if_neg (show ¬ (false = true) by decide)] at H;exact H
    clear H
    have H:=H1
    clear H1
    replace H:=Option.bind_eq_some_iff.mp H
    obtain ⟨t367,A180,H⟩:=H
    replace H : ((impl_tableText.f kj2 a1_0 a1_1 l1_2 l1_3).bind fun t368 => (some ((t367.toList == t368.toList),0))) = some (r1,r2):=H
    have A18:=qa13 A180
    clear A180
    replace H:=Option.bind_eq_some_iff.mp H
    obtain ⟨t368,A190,H⟩:=H
    replace H : (some ((t367.toList == t368.toList),0)) = some (r1,r2):=H
    have A19:=qa13 A190
    clear A190
    simp only [Option.some.injEq,Prod.mk.injEq] at H
    obtain ⟨rfl,rfl⟩:=H
    try go_wp2
    have n0_:=qa13 (blk_drew BK363.out)
    have n1_:=qa13 (blk_drew BK364.out)
    have n2_:=qa13 (below_drew1 HB.out)
    clear BK363
    clear BK364
    clear HB
    have BK363:=n0_
    have BK364:=n1_
    have HB:=n2_
    clear n0_ n1_ n2_
    refine start_ (n:=7) (S:=fun w' => w'.cell? ⟨gb363,0,none⟩ = some (.int .i64 a0_0) ∧ w'.cell? ⟨gb363,1,none⟩ = some (.int .i64 a0_1) ∧ w'.cell? ⟨gb363,2,none⟩ = some (.slice A0_2 l0_2.length c0_2) ∧ w'.cell? ⟨gb363,3,none⟩ = some (.slice A0_3 l0_3.length c0_3) ∧ w'.cell? ⟨gb364,0,none⟩ = some (.int .i64 a1_0) ∧ w'.cell? ⟨gb364,1,none⟩ = some (.int .i64 a1_1) ∧ w'.cell? ⟨gb364,2,none⟩ = some (.slice A1_2 l1_2.length c1_2) ∧ w'.cell? ⟨gb364,3,none⟩ = some (.slice A1_3 l1_3.length c1_3)) (ds:=[]) #[false,false,false,false,false,false,false] (by kernel_rfl) rfl rfl ⟨(blk_cell BK363.out 0).trans rfl,(blk_cell BK363.out 1).trans rfl,(blk_cell BK363.out 2).trans rfl,(blk_cell BK363.out 3).trans rfl,(blk_cell BK364.out 0).trans rfl,(blk_cell BK364.out 1).trans rfl,(blk_cell BK364.out 2).trans rfl,(blk_cell BK364.out 3).trans rfl⟩ (fun hHeld => ?_)
    generalize wc.drew = w20 at BK363 BK364 HB hHeld ⊢
    refine take_ (i:=0) (N:=some 14) (v:=?_) (a':=?_) #[true,false,false,false,false,false,false] rfl rfl (by kernel_rfl) (fun _ _ _ h => h) (Or.inl ⟨by rfl,?_⟩) hHeld ?_ ?_
    rotate_left
    ·
     rintro w' ⟨s0,s1,s2,s3,s4,s5,s6,s7⟩
     go_simp
     with_reducible rfl
    rotate_left
    ·
     simp only [Act.put,sA,sB,sC,i64_w,i32_w]
     rfl
    refine take_ (i:=2) (N:=some 16) (v:=?_) (a':=?_) #[true,false,true,false,false,false,false] rfl rfl (by kernel_rfl) (fun _ _ _ h => h) (Or.inl ⟨by rfl,?_⟩) hHeld ?_ ?_
    rotate_left
    ·
     rintro w' ⟨s0,s1,s2,s3,s4,s5,s6,s7⟩
     go_simp
     with_reducible rfl
    rotate_left
    ·
     simp only [Act.put,sA,sB,sC,i64_w,i32_w]
     rfl
    refine one_ (i:=1) (N:=some 15) #[true,true,true,false,false,false,false] rfl rfl (by kernel_rfl) (by decide) (fun K hK => ?_)
    refine goes_ Try.func52 (by kernel_rfl) rfl #[.agg #[.int .i64 a0_0,.int .i64 a0_1,.slice A0_2 l0_2.length c0_2,.slice A0_3 l0_3.length c0_3]] (by rfl) rfl rfl (by (try simp only [sE,sH,sI]);first|done|rfl|(simp only [sG,sF];rfl)) ?_
    with_reducible refine (impl_tableText.calls kj2 a0_0 a0_1 _ _ l0_2 _ _ l0_3 t367 _ ?side1 ?side2 ?side3 ?side4 A18.out).mono ?_
    (case side1 => repeat (first|exact (Kd.C_below HR0_2.out HB.out)|(with_reducible refine Kd.C_alloc ?_ _)|(with_reducible refine Kd.C_drewN ?_ _)|(with_reducible refine Kd.C_drew ?_)))
    (case side2 => exact HC0_2.out)
    (case side3 => repeat (first|exact (Kd.C_below HR0_3.out HB.out)|(with_reducible refine Kd.C_alloc ?_ _)|(with_reducible refine Kd.C_drewN ?_ _)|(with_reducible refine Kd.C_drew ?_)))
    (case side4 => exact HC0_3.out)
    rintro e w21 ⟨rfl,hb⟩
    refine ⟨_,rfl,?_⟩
    have n0_:=qa13 (blk_below (g:=gb363) (o:=.cells #[.int .i64 a0_0,.int .i64 a0_1,.slice A0_2 l0_2.length c0_2,.slice A0_3 l0_3.length c0_3] 31 (0,0)) (by (with_reducible repeat (first|apply blk_drewN|apply blk_drew|apply blk_alloc));exact BK363.out) hb)
    have n1_:=qa13 (blk_below (g:=gb364) (o:=.cells #[.int .i64 a1_0,.int .i64 a1_1,.slice A1_2 l1_2.length c1_2,.slice A1_3 l1_3.length c1_3] 31 (0,0)) (by (with_reducible repeat (first|apply blk_drewN|apply blk_drew|apply blk_alloc));exact BK364.out) hb)
    have n2_:=qa13 (sN (by repeat (first|(with_reducible first|exact HB.out|apply below_alloc|apply pw_below_drewN|apply below_drew1|refine below_set ?_ GE363.out|refine below_set ?_ GE364.out)|exact HB.out)) hb)
    clear BK363
    clear BK364
    clear HB
    have BK363:=n0_
    have BK364:=n1_
    have HB:=n2_
    clear n0_ n1_ n2_
    (try clear hb)
    (try clear hb2)
    (try clear hk)
    (try clear hi)
    refine hK.out _ _ ⟨(blk_cell BK363.out 0).trans rfl,(blk_cell BK363.out 1).trans rfl,(blk_cell BK363.out 2).trans rfl,(blk_cell BK363.out 3).trans rfl,(blk_cell BK364.out 0).trans rfl,(blk_cell BK364.out 1).trans rfl,(blk_cell BK364.out 2).trans rfl,(blk_cell BK364.out 3).trans rfl⟩ (fun hHeld => ?_)
    clear hK K
    refine norm_ (a':=?_) ?_ ?_
    rotate_left
    ·
     show Act.put _ (some 15) _ = _
     simp only [Act.put,sA,sB,sC,i64_w,i32_w]
     rfl
    refine one_ (i:=3) (N:=some 17) #[true,true,true,true,false,false,false] rfl rfl (by kernel_rfl) (by decide) (fun K hK => ?_)
    refine goes_ Try.func52 (by kernel_rfl) rfl #[.agg #[.int .i64 a1_0,.int .i64 a1_1,.slice A1_2 l1_2.length c1_2,.slice A1_3 l1_3.length c1_3]] (by rfl) rfl rfl (by (try simp only [sE,sH,sI]);first|done|rfl|(simp only [sG,sF];rfl)) ?_
    with_reducible refine (impl_tableText.calls kj2 a1_0 a1_1 _ _ l1_2 _ _ l1_3 t368 _ ?side1 ?side2 ?side3 ?side4 A19.out).mono ?_
    (case side1 => repeat (first|exact (Kd.C_below HR1_2.out HB.out)|(with_reducible refine Kd.C_alloc ?_ _)|(with_reducible refine Kd.C_drewN ?_ _)|(with_reducible refine Kd.C_drew ?_)))
    (case side2 => exact HC1_2.out)
    (case side3 => repeat (first|exact (Kd.C_below HR1_3.out HB.out)|(with_reducible refine Kd.C_alloc ?_ _)|(with_reducible refine Kd.C_drewN ?_ _)|(with_reducible refine Kd.C_drew ?_)))
    (case side4 => exact HC1_3.out)
    rintro e w22 ⟨rfl,hb⟩
    refine ⟨_,rfl,?_⟩
    have n0_:=qa13 (blk_below (g:=gb363) (o:=.cells #[.int .i64 a0_0,.int .i64 a0_1,.slice A0_2 l0_2.length c0_2,.slice A0_3 l0_3.length c0_3] 31 (0,0)) (by (with_reducible repeat (first|apply blk_drewN|apply blk_drew|apply blk_alloc));exact BK363.out) hb)
    have n1_:=qa13 (blk_below (g:=gb364) (o:=.cells #[.int .i64 a1_0,.int .i64 a1_1,.slice A1_2 l1_2.length c1_2,.slice A1_3 l1_3.length c1_3] 31 (0,0)) (by (with_reducible repeat (first|apply blk_drewN|apply blk_drew|apply blk_alloc));exact BK364.out) hb)
    have n2_:=qa13 (sN (by repeat (first|(with_reducible first|exact HB.out|apply below_alloc|apply pw_below_drewN|apply below_drew1|refine below_set ?_ GE363.out|refine below_set ?_ GE364.out)|exact HB.out)) hb)
    clear BK363
    clear BK364
    clear HB
    have BK363:=n0_
    have BK364:=n1_
    have HB:=n2_
    clear n0_ n1_ n2_
    (try clear hb)
    (try clear hb2)
    (try clear hk)
    (try clear hi)
    refine hK.out _ _ ⟨(blk_cell BK363.out 0).trans rfl,(blk_cell BK363.out 1).trans rfl,(blk_cell BK363.out 2).trans rfl,(blk_cell BK363.out 3).trans rfl,(blk_cell BK364.out 0).trans rfl,(blk_cell BK364.out 1).trans rfl,(blk_cell BK364.out 2).trans rfl,(blk_cell BK364.out 3).trans rfl⟩ (fun hHeld => ?_)
    clear hK K
    refine norm_ (a':=?_) ?_ ?_
    rotate_left
    ·
     show Act.put _ (some 17) _ = _
     simp only [Act.put,sA,sB,sC,i64_w,i32_w]
     rfl
    refine pure_ (i:=4) (N:=some 18) (v:=?_) (a':=?_) #[true,true,true,true,true,false,false] rfl rfl (by kernel_rfl) (fun _ _ _ h => h) (Or.inl ⟨by rfl,?_⟩) ?_ ?_
    rotate_left
    ·
     intro w'
     go_simp
     with_reducible rfl
    rotate_left
    ·
     simp only [Act.put,sA,sB,sC,i64_w,i32_w]
     rfl
    refine pure_ (i:=5) (N:=some 4) (v:=?_) (a':=?_) #[true,true,true,true,true,true,false] rfl rfl (by kernel_rfl) (fun _ _ _ h => h) (Or.inl ⟨by rfl,?_⟩) ?_ ?_
    rotate_left
    ·
     intro w'
     go_simp
     with_reducible rfl
    rotate_left
    ·
     simp only [Act.put,sA,sB,sC,i64_w,i32_w]
     rfl
    refine pure_ (i:=6) (N:=some 5) (v:=?_) (a':=?_) #[true,true,true,true,true,true,true] rfl rfl (by kernel_rfl) (fun _ _ _ h => h) (Or.inl ⟨by rfl,?_⟩) ?_ ?_
    rotate_left
    ·
     intro w'
     go_simp
     with_reducible rfl
    rotate_left
    ·
     simp only [Act.put,sA,sB,sC,i64_w,i32_w]
     rfl
    refine done_ (by kernel_rfl) ?_
    try go_wp2
    go_ret2
    exact ⟨by first|rfl|(simp [errW_none,errW_some] <;> rfl)|(simp [*,errW_none,errW_some] <;> rfl),by repeat (first|(with_reducible first|exact HB.out|apply below_alloc|apply pw_below_drewN|apply below_drew1|refine below_set ?_ GE363.out|refine below_set ?_ GE364.out)|exact HB.out)⟩

end Go.Proofs.Ytjkanhjapddhnaa.PFnExactSameTable
