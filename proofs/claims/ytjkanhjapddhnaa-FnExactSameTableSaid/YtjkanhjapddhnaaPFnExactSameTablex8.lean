-- laid by this session's program myprint.py over the kit's printer
-- squeezed
-- aliased
import Derived.Test.YtjkanhjapddhnaaPFnExactSameTablex0
import Derived.Test.YtjkanhjapddhnaaPFnExactSameTablex6
import Derived.Test.YtjkanhjapddhnaaPFnExactSameTablex7
namespace Go.Proofs.Ytjkanhjapddhnaa.PFnExactSameTable
open Go.RowKit Go.Proofs.YtjkanhjapddhnaaV.PrintWords Go.Proofs.YtjkanhjapddhnaaV.PrintLast Go.Proofs.YtjkanhjapddhnaaV.PrintMore
attribute [local go_sem] max2_int min2_int max_two min_two max_three min_three max_four min_four u8_wm u32_wm   -- for this text's walks alone
set_option linter.unusedVariables false
set_option linter.unusedSimpArgs false

/-! ### spec_SameTable: function 13 -/
theorem qa8 : type_of% @below_alloc:=@below_alloc
theorem qb8 : type_of% @pw_below_drewN:=@pw_below_drewN
theorem qc8 : type_of% @below_drew1:=@below_drew1
theorem qd8 : type_of% @below_set:=@below_set
theorem qe8 : type_of% @Aside0.mk:=@Aside0.mk
def spec_SameTable.j0 : Nat → Bool → Int → Int → List (S70) → List (S77) → Int → Int → List (S70) → List (S77) → Option (Bool × Int)
 | 0,_,_,_,_,_,_,_,_,_ => none
 | k + 1,x13,x316000,x316001,x316002,x316003,x317000,x317001,x317002,x317003 => if x13 = true then (some (false,1)) else ((spec_l05Bytes.f k x316000 x316001 x316002 x316003).bind fun t319 => ((spec_l05Bytes.f k x317000 x317001 x317002 x317003).bind fun t322 => (some (((strOfNums t319).toList == (strOfNums t322).toList),0))))
def spec_SameTable.f (k : Nat) (a0_0 : Int) (a0_1 : Int) (l0_2 : List (S70)) (l0_3 : List (S77)) (a1_0 : Int) (a1_1 : Int) (l1_2 : List (S70)) (l1_3 : List (S77)) : Option (Bool × Int):=(spec_TableOK.f a0_0 a0_1 l0_2 l0_3).bind fun t317 => (if t317 = true then ((spec_TableOK.f a1_0 a1_1 l1_2 l1_3).bind fun t318 => (spec_SameTable.j0 k (!t318) a0_0 a0_1 l0_2 l0_3 a1_0 a1_1 l1_2 l1_3)) else (spec_SameTable.j0 k true a0_0 a0_1 l0_2 l0_3 a1_0 a1_1 l1_2 l1_3))
def spec_SameTable.T3 : Bool × List (List Nat × List Nat):=(true,[([],[]),([0],[0]),([1],[1]),([],[]),([3,1],[3]),([4],[4]),([2,5],[2,5]),([6,4,0,1,2,3,4,5,6],[6]),([7,0,1,2,3,4,5,6,7],[])])
def spec_SameTable.B3 : List Nat:=[0,1,3,0,11,27,63,127,255]
theorem spec_SameTable.tab3 : rtab .any (opsOf Try.f13 3) = spec_SameTable.T3:=by kernel_rfl
theorem spec_SameTable.bits3 : waitsOk spec_SameTable.T3.2 spec_SameTable.B3 = true:=by kernel_rfl
set_option maxHeartbeats 8000000 in
set_option maxRecDepth 100000 in
theorem spec_SameTable.calls (k : Nat) (a0_0 : Int) (a0_1 : Int) (A0_2 : Option Addr) (c0_2 : Nat) (l0_2 : List (S70)) (A0_3 : Option Addr) (c0_3 : Nat) (l0_3 : List (S77)) (a1_0 : Int) (a1_1 : Int) (A1_2 : Option Addr) (c1_2 : Nat) (l1_2 : List (S70)) (A1_3 : Option Addr) (c1_3 : Nat) (l1_3 : List (S77)) (r1 : Bool) (r2 : Int) (w : World) (hr0_2 : Kd.C k70 w A0_2 l0_2.length l0_2) (hc0_2 : l0_2.length ≤ c0_2) (hr0_3 : Kd.C k77 w A0_3 l0_3.length l0_3) (hc0_3 : l0_3.length ≤ c0_3) (hr1_2 : Kd.C k70 w A1_2 l1_2.length l1_2) (hc1_2 : l1_2.length ≤ c1_2) (hr1_3 : Kd.C k77 w A1_3 l1_3.length l1_3) (hc1_3 : l1_3.length ≤ c1_3) (h : spec_SameTable.f k a0_0 a0_1 l0_2 l0_3 a1_0 a1_1 l1_2 l1_3 = some (r1,r2)) :
  Calls Try.prog 13 #[.agg #[.int .i64 a0_0,.int .i64 a0_1,.slice A0_2 l0_2.length c0_2,.slice A0_3 l0_3.length c0_3],.agg #[.int .i64 a1_0,.int .i64 a1_1,.slice A1_2 l1_2.length c1_2,.slice A1_3 l1_3.length c1_3]] w fun e w' => e = .returned (.tuple #[.bool r1,.int .i64 r2]) ∧ Below w.heap.size w w':=by
 have hu31:=Try.underlying31
 have HR0_2:=qe8 hr0_2
 have HC0_2:=qe8 hc0_2
 clear hr0_2 hc0_2
 have HR0_3:=qe8 hr0_3
 have HC0_3:=qe8 hc0_3
 clear hr0_3 hc0_3
 have HR1_2:=qe8 hr1_2
 have HC1_2:=qe8 hc1_2
 clear hr1_2 hc1_2
 have HR1_3:=qe8 hr1_3
 have HC1_3:=qe8 hc1_3
 clear hr1_3 hc1_3
 have HB:=qe8 (Below.refl w.heap.size w)
 have H : ((spec_TableOK.f a0_0 a0_1 l0_2 l0_3).bind fun t317 => (if t317 = true then ((spec_TableOK.f a1_0 a1_1 l1_2 l1_3).bind fun t318 => (spec_SameTable.j0 k (!t318) a0_0 a0_1 l0_2 l0_3 a1_0 a1_1 l1_2 l1_3)) else (spec_SameTable.j0 k true a0_0 a0_1 l0_2 l0_3 a1_0 a1_1 l1_2 l1_3))) = some (r1,r2):=h
 clear h
 have HC3:=qe8 H
 clear H
 go_enter Try.func13,Try.ntmps13
 go_upto_region 1 with (first|((with_reducible refine gate_dst (N:=2) rfl ?_);refine box_event ?hg (N:=2) ?hd (cs:=#[.int .i64 a0_0,.int .i64 a0_1,.slice A0_2 l0_2.length c0_2,.slice A0_3 l0_3.length c0_3]) (t:=31) ?hr ?_;(case hd => rfl);(case hg => rfl);(case hr => first|(go_simp;done)|(go_simp;rfl));intro gb315 hg w4 hbox hb;have n0_:=qe8 (sN (by repeat (first|(with_reducible first|exact HB.out|apply qa8|apply qb8|apply qc8)|exact HB.out)) hb);have n1_:=qe8 (hbox);have n2_:=qe8 ((by rw [hg];exact (below_size (by repeat (first|(with_reducible first|exact HB.out|apply qa8|apply qb8|apply qc8)|exact HB.out))) : w.heap.size ≤ gb315));have n3_:=qe8 ((by rw [hg];exact (below_size (by repeat (first|(with_reducible first|exact HB.out|apply qa8|apply qb8|apply qc8)|exact HB.out))) : w.heap.size ≤ gb315));clear HB;have HB:=n0_;have BK315:=n1_;have GW315:=n2_;have GE315:=n3_;clear n0_ n1_ n2_ n3_;clear hb hbox hg)|((with_reducible refine gate_dst (N:=3) rfl ?_);refine box_event ?hg (N:=3) ?hd (cs:=#[.int .i64 a1_0,.int .i64 a1_1,.slice A1_2 l1_2.length c1_2,.slice A1_3 l1_3.length c1_3]) (t:=31) ?hr ?_;(case hd => rfl);(case hg => rfl);(case hr => first|(go_simp;done)|(go_simp;rfl));intro gb316 hg w5 hbox hb;have n0_:=qe8 (blk_below (g:=gb315) (o:=.cells #[.int .i64 a0_0,.int .i64 a0_1,.slice A0_2 l0_2.length c0_2,.slice A0_3 l0_3.length c0_3] 31 (0,0)) (by (with_reducible repeat (first|apply blk_drewN|apply blk_drew|apply blk_alloc));exact BK315.out) hb);have n1_:=qe8 (sN (by repeat (first|(with_reducible first|exact HB.out|apply qa8|apply qb8|apply qc8|refine qd8 ?_ GE315.out)|exact HB.out)) hb);have n2_:=qe8 (hbox);have n3_:=qe8 ((by rw [hg];exact (below_size (by repeat (first|(with_reducible first|exact HB.out|apply qa8|apply qb8|apply qc8|refine qd8 ?_ GE315.out)|exact HB.out))) : w.heap.size ≤ gb316));have n4_:=qe8 ((by rw [hg];exact (below_size (by repeat (first|(with_reducible first|exact HB.out|apply qa8|apply qb8|apply qc8|refine qd8 ?_ GE315.out)|exact HB.out))) : w.heap.size ≤ gb316));have n5_:=qe8 ((by rw [hg];exact Nat.ne_of_lt (blk_lt (g:=gb315) (o:=.cells #[.int .i64 a0_0,.int .i64 a0_1,.slice A0_2 l0_2.length c0_2,.slice A0_3 l0_3.length c0_3] 31 (0,0)) (by (with_reducible repeat (first|apply blk_drewN|apply blk_drew|apply blk_alloc));exact BK315.out)) : gb315 ≠ gb316));have n6_:=qe8 ((by rw [hg];exact Nat.ne_of_gt (blk_lt (g:=gb315) (o:=.cells #[.int .i64 a0_0,.int .i64 a0_1,.slice A0_2 l0_2.length c0_2,.slice A0_3 l0_3.length c0_3] 31 (0,0)) (by (with_reducible repeat (first|apply blk_drewN|apply blk_drew|apply blk_alloc));exact BK315.out)) : gb316 ≠ gb315));clear BK315;clear HB;have BK315:=n0_;have HB:=n1_;have BK316:=n2_;have GW316:=n3_;have GE316:=n4_;have NB315_316:=n5_;have NB316_315:=n6_;clear n0_ n1_ n2_ n3_ n4_ n5_ n6_;clear hb hbox hg))
 (try simp only [Act.put,sA,sB,sC])
 go_cut [13] (fun v13 wc => ∃ (kq : Nat) (x13_2 : Bool),v13 = .bool x13_2 ∧ Aside0 (spec_SameTable.j0 kq x13_2 a0_0 a0_1 l0_2 l0_3 a1_0 a1_1 l1_2 l1_3 = some (r1,r2)) ∧ Aside0 (kq ≤ k) ∧ Aside0 (wc.heap[gb315]? = some (.cells #[.int .i64 a0_0,.int .i64 a0_1,(.slice A0_2 l0_2.length c0_2),(.slice A0_3 l0_3.length c0_3)] 31 (0,0))) ∧ Aside0 (wc.heap[gb316]? = some (.cells #[.int .i64 a1_0,.int .i64 a1_1,(.slice A1_2 l1_2.length c1_2),(.slice A1_3 l1_3.length c1_3)] 31 (0,0))) ∧ Aside0 (Below w.heap.size w wc))
 case first =>
  have H:=HC3.out
  clear HC3
  replace H:=Option.bind_eq_some_iff.mp H
  obtain ⟨t317,A60,H⟩:=H
  replace H : (if t317 = true then ((spec_TableOK.f a1_0 a1_1 l1_2 l1_3).bind fun t318 => (spec_SameTable.j0 k (!t318) a0_0 a0_1 l0_2 l0_3 a1_0 a1_1 l1_2 l1_3)) else (spec_SameTable.j0 k true a0_0 a0_1 l0_2 l0_3 a1_0 a1_1 l1_2 l1_3)) = some (r1,r2):=H
  have A6:=qe8 A60
  clear A60
  by_cases c7 : t317 = true
  ·
   subst c7
   have H1 : ((spec_TableOK.f a1_0 a1_1 l1_2 l1_3).bind fun t318 => (spec_SameTable.j0 k (!t318) a0_0 a0_1 l0_2 l0_3 a1_0 a1_1 l1_2 l1_3)) = some (r1,r2):=by rw [if_pos rfl] at H;exact H
   clear H
   have H:=H1
   clear H1
   replace H:=Option.bind_eq_some_iff.mp H
   obtain ⟨t318,A80,H⟩:=H
   replace H : (spec_SameTable.j0 k (!t318) a0_0 a0_1 l0_2 l0_3 a1_0 a1_1 l1_2 l1_3) = some (r1,r2):=H
   have A8:=qe8 A80
   clear A80
   have H':=qe8 H
   clear H
   have hnb9:=NB315_316.out
   have hnc9:=NB316_315.out
   have hcz10_0 : w5.cell? ⟨gb315,0,none⟩ = some (.int .i64 a0_0):=(blk_cell BK315.out 0).trans rfl
   have hcz10_1 : w5.cell? ⟨gb315,1,none⟩ = some (.int .i64 a0_1):=(blk_cell BK315.out 1).trans rfl
   have hcz10_2 : w5.cell? ⟨gb315,2,none⟩ = some (.slice A0_2 l0_2.length c0_2):=(blk_cell BK315.out 2).trans rfl
   have hcz10_3 : w5.cell? ⟨gb315,3,none⟩ = some (.slice A0_3 l0_3.length c0_3):=(blk_cell BK315.out 3).trans rfl
   have hfz10_0:=sJ BK315.out 0
   have hfz10_1:=sJ BK315.out 1
   have hfz10_2:=sJ BK315.out 2
   have hfz10_3:=sJ BK315.out 3
   go_wp2_with (first|((with_reducible refine gate_callee (f:=9) rfl ?_);refine goesL_ (some 7) rfl rfl Try.func9 (by kernel_rfl) rfl #[.agg #[.int .i64 a0_0,.int .i64 a0_1,.slice A0_2 l0_2.length c0_2,.slice A0_3 l0_3.length c0_3]] rfl (by (try simp only [sE,sH,sI]);first|done|rfl|(simp only [sG,sF];rfl)) ?_;(with_reducible refine (spec_TableOK.calls a0_0 a0_1 _ _ l0_2 _ _ l0_3 true _ ?side1 ?side2 ?side3 ?side4 A6.out).mono ?_);(case side1 => repeat (first|exact (Kd.C_below HR0_2.out HB.out)|(with_reducible refine Kd.C_alloc ?_ _)|(with_reducible refine Kd.C_drewN ?_ _)|(with_reducible refine Kd.C_drew ?_)));(case side2 => exact HC0_2.out);(case side3 => repeat (first|exact (Kd.C_below HR0_3.out HB.out)|(with_reducible refine Kd.C_alloc ?_ _)|(with_reducible refine Kd.C_drewN ?_ _)|(with_reducible refine Kd.C_drew ?_)));(case side4 => exact HC0_3.out);rintro e w11 ⟨rfl,hb⟩;refine ⟨_,rfl,?_⟩;have n0_:=qe8 (blk_below (g:=gb315) (o:=.cells #[.int .i64 a0_0,.int .i64 a0_1,.slice A0_2 l0_2.length c0_2,.slice A0_3 l0_3.length c0_3] 31 (0,0)) (by (with_reducible repeat (first|apply blk_drewN|apply blk_drew|apply blk_alloc));exact BK315.out) hb);have n1_:=qe8 (blk_below (g:=gb316) (o:=.cells #[.int .i64 a1_0,.int .i64 a1_1,.slice A1_2 l1_2.length c1_2,.slice A1_3 l1_3.length c1_3] 31 (0,0)) (by (with_reducible repeat (first|apply blk_drewN|apply blk_drew|apply blk_alloc));exact BK316.out) hb);have n2_:=qe8 (sN (by repeat (first|(with_reducible first|exact HB.out|apply qa8|apply qb8|apply qc8|refine qd8 ?_ GE315.out|refine qd8 ?_ GE316.out)|exact HB.out)) hb);clear BK315;clear BK316;clear HB;have BK315:=n0_;have BK316:=n1_;have HB:=n2_;clear n0_ n1_ n2_;(try clear hb);(try clear hb2);(try clear hk);(try clear hi);have hcz12_0 : w11.cell? ⟨gb316,0,none⟩ = some (.int .i64 a1_0):=(blk_cell BK316.out 0).trans rfl;have hcz12_1 : w11.cell? ⟨gb316,1,none⟩ = some (.int .i64 a1_1):=(blk_cell BK316.out 1).trans rfl;have hcz12_2 : w11.cell? ⟨gb316,2,none⟩ = some (.slice A1_2 l1_2.length c1_2):=(blk_cell BK316.out 2).trans rfl;have hcz12_3 : w11.cell? ⟨gb316,3,none⟩ = some (.slice A1_3 l1_3.length c1_3):=(blk_cell BK316.out 3).trans rfl;have hfz12_0:=sJ BK316.out 0;have hfz12_1:=sJ BK316.out 1;have hfz12_2:=sJ BK316.out 2;have hfz12_3:=sJ BK316.out 3)|(go_at_call 9;(with_reducible refine (spec_TableOK.calls a1_0 a1_1 _ _ l1_2 _ _ l1_3 t318 _ ?side1 ?side2 ?side3 ?side4 A8.out).mono ?_);(case side1 => repeat (first|exact (Kd.C_below HR1_2.out HB.out)|(with_reducible refine Kd.C_alloc ?_ _)|(with_reducible refine Kd.C_drewN ?_ _)|(with_reducible refine Kd.C_drew ?_)));(case side2 => exact HC1_2.out);(case side3 => repeat (first|exact (Kd.C_below HR1_3.out HB.out)|(with_reducible refine Kd.C_alloc ?_ _)|(with_reducible refine Kd.C_drewN ?_ _)|(with_reducible refine Kd.C_drew ?_)));(case side4 => exact HC1_3.out);rintro e w13 ⟨rfl,hb⟩;have n0_:=qe8 (blk_below (g:=gb315) (o:=.cells #[.int .i64 a0_0,.int .i64 a0_1,.slice A0_2 l0_2.length c0_2,.slice A0_3 l0_3.length c0_3] 31 (0,0)) (by (with_reducible repeat (first|apply blk_drewN|apply blk_drew|apply blk_alloc));exact BK315.out) hb);have n1_:=qe8 (blk_below (g:=gb316) (o:=.cells #[.int .i64 a1_0,.int .i64 a1_1,.slice A1_2 l1_2.length c1_2,.slice A1_3 l1_3.length c1_3] 31 (0,0)) (by (with_reducible repeat (first|apply blk_drewN|apply blk_drew|apply blk_alloc));exact BK316.out) hb);have n2_:=qe8 (sN (by repeat (first|(with_reducible first|exact HB.out|apply qa8|apply qb8|apply qc8|refine qd8 ?_ GE315.out|refine qd8 ?_ GE316.out)|exact HB.out)) hb);clear BK315;clear BK316;clear HB;have BK315:=n0_;have BK316:=n1_;have HB:=n2_;clear n0_ n1_ n2_;(try clear hb);(try clear hb2);(try clear hk);(try clear hi)))
   go_meet
   case rel => exact ⟨_,(!t318),(by first|rfl|(simp;done)|(simp [*];done)),H',⟨by first|omega|exact Nat.le_refl _⟩,⟨by (with_reducible repeat (first|apply blk_drewN|apply blk_drew|apply blk_alloc));exact BK315.out⟩,⟨by (with_reducible repeat (first|apply blk_drewN|apply blk_drew|apply blk_alloc));exact BK316.out⟩,⟨by repeat (first|(with_reducible first|exact HB.out|apply qa8|apply qb8|apply qc8|refine qd8 ?_ GE315.out|refine qd8 ?_ GE316.out)|exact HB.out)⟩⟩
  ·
   replace c7:=Bool.eq_false_iff.mpr c7
   subst c7
   have H1 : (spec_SameTable.j0 k true a0_0 a0_1 l0_2 l0_3 a1_0 a1_1 l1_2 l1_3) = some (r1,r2):=by rw [if_neg (show ¬ (false = true) by decide)] at H;exact H
   clear H
   have H:=H1
   clear H1
   have H':=qe8 H
   clear H
   have hnb14:=NB315_316.out
   have hnc14:=NB316_315.out
   have hcz15_0 : w5.cell? ⟨gb315,0,none⟩ = some (.int .i64 a0_0):=(blk_cell BK315.out 0).trans rfl
   have hcz15_1 : w5.cell? ⟨gb315,1,none⟩ = some (.int .i64 a0_1):=(blk_cell BK315.out 1).trans rfl
   have hcz15_2 : w5.cell? ⟨gb315,2,none⟩ = some (.slice A0_2 l0_2.length c0_2):=(blk_cell BK315.out 2).trans rfl
   have hcz15_3 : w5.cell? ⟨gb315,3,none⟩ = some (.slice A0_3 l0_3.length c0_3):=(blk_cell BK315.out 3).trans rfl
   have hfz15_0:=sJ BK315.out 0
   have hfz15_1:=sJ BK315.out 1
   have hfz15_2:=sJ BK315.out 2
   have hfz15_3:=sJ BK315.out 3
   go_wp2_with (first|((with_reducible refine gate_callee (f:=9) rfl ?_);refine goesL_ (some 7) rfl rfl Try.func9 (by kernel_rfl) rfl #[.agg #[.int .i64 a0_0,.int .i64 a0_1,.slice A0_2 l0_2.length c0_2,.slice A0_3 l0_3.length c0_3]] rfl (by (try simp only [sE,sH,sI]);first|done|rfl|(simp only [sG,sF];rfl)) ?_;(with_reducible refine (spec_TableOK.calls a0_0 a0_1 _ _ l0_2 _ _ l0_3 false _ ?side1 ?side2 ?side3 ?side4 A6.out).mono ?_);(case side1 => repeat (first|exact (Kd.C_below HR0_2.out HB.out)|(with_reducible refine Kd.C_alloc ?_ _)|(with_reducible refine Kd.C_drewN ?_ _)|(with_reducible refine Kd.C_drew ?_)));(case side2 => exact HC0_2.out);(case side3 => repeat (first|exact (Kd.C_below HR0_3.out HB.out)|(with_reducible refine Kd.C_alloc ?_ _)|(with_reducible refine Kd.C_drewN ?_ _)|(with_reducible refine Kd.C_drew ?_)));(case side4 => exact HC0_3.out);rintro e w16 ⟨rfl,hb⟩;refine ⟨_,rfl,?_⟩;have n0_:=qe8 (blk_below (g:=gb315) (o:=.cells #[.int .i64 a0_0,.int .i64 a0_1,.slice A0_2 l0_2.length c0_2,.slice A0_3 l0_3.length c0_3] 31 (0,0)) (by (with_reducible repeat (first|apply blk_drewN|apply blk_drew|apply blk_alloc));exact BK315.out) hb);have n1_:=qe8 (blk_below (g:=gb316) (o:=.cells #[.int .i64 a1_0,.int .i64 a1_1,.slice A1_2 l1_2.length c1_2,.slice A1_3 l1_3.length c1_3] 31 (0,0)) (by (with_reducible repeat (first|apply blk_drewN|apply blk_drew|apply blk_alloc));exact BK316.out) hb);have n2_:=qe8 (sN (by repeat (first|(with_reducible first|exact HB.out|apply qa8|apply qb8|apply qc8|refine qd8 ?_ GE315.out|refine qd8 ?_ GE316.out)|exact HB.out)) hb);clear BK315;clear BK316;clear HB;have BK315:=n0_;have BK316:=n1_;have HB:=n2_;clear n0_ n1_ n2_;(try clear hb);(try clear hb2);(try clear hk);(try clear hi)))
   go_meet
   case rel => exact ⟨_,(true),(by first|rfl|(simp;done)|(simp [*];done)),H',⟨by first|omega|exact Nat.le_refl _⟩,⟨by (with_reducible repeat (first|apply blk_drewN|apply blk_drew|apply blk_alloc));exact BK315.out⟩,⟨by (with_reducible repeat (first|apply blk_drewN|apply blk_drew|apply blk_alloc));exact BK316.out⟩,⟨by repeat (first|(with_reducible first|exact HB.out|apply qa8|apply qb8|apply qc8|refine qd8 ?_ GE315.out|refine qd8 ?_ GE316.out)|exact HB.out)⟩⟩
 case rest =>
  clear HC3
  try clear c1
  try clear p2
  try clear c7
  try clear c9
  try clear c13
  try clear c14
  try clear hcz10_0
  try clear hcz10_1
  try clear hcz10_2
  try clear hcz10_3
  try clear hcz12_0
  try clear hcz12_1
  try clear hcz12_2
  try clear hcz12_3
  try clear hcz15_0
  try clear hcz15_1
  try clear hcz15_2
  try clear hcz15_3
  try clear hfz10_0
  try clear hfz10_1
  try clear hfz10_2
  try clear hfz10_3
  try clear hfz12_0
  try clear hfz12_1
  try clear hfz12_2
  try clear hfz12_3
  try clear hfz15_0
  try clear hfz15_1
  try clear hfz15_2
  try clear hfz15_3
  obtain ⟨kq,x13_2,rfl,HA,HJ2,BK315,BK316,HB⟩:=hcut
  cases kq with
  | zero => exact absurd HA.out (by simp [spec_SameTable.j0])
  | succ kj2 =>
   have H:=HA.out
   clear HA
   simp only [spec_SameTable.j0] at H
   by_cases c17 : x13_2 = true
   ·
    subst c17
    have H1 : (some (false,1)) = some (r1,r2):=by rw [if_pos rfl] at H;exact H
    clear H
    have H:=H1
    clear H1
    simp only [Option.some.injEq,Prod.mk.injEq] at H
    obtain ⟨rfl,rfl⟩:=H
    go_wp2
    go_ret2
    exact ⟨by first|rfl|(simp [errW_none,errW_some] <;> rfl)|(simp [*,errW_none,errW_some] <;> rfl),by repeat (first|(with_reducible first|exact HB.out|apply qa8|apply qb8|apply qc8|refine qd8 ?_ GE315.out|refine qd8 ?_ GE316.out)|exact HB.out)⟩
   ·
    replace c17:=Bool.eq_false_iff.mpr c17
    subst c17
    have H1 : ((spec_l05Bytes.f kj2 a0_0 a0_1 l0_2 l0_3).bind fun t319 => ((spec_l05Bytes.f kj2 a1_0 a1_1 l1_2 l1_3).bind fun t322 => (some (((strOfNums t319).toList == (strOfNums t322).toList),0)))) = some (r1,r2):=by rw [if_neg (show ¬ (false = true) by decide)] at H;exact H
    clear H
    have H:=H1
    clear H1
    replace H:=Option.bind_eq_some_iff.mp H
    obtain ⟨t319,A180,H⟩:=H
    replace H : ((spec_l05Bytes.f kj2 a1_0 a1_1 l1_2 l1_3).bind fun t322 => (some (((strOfNums t319).toList == (strOfNums t322).toList),0))) = some (r1,r2):=H
    have A18:=qe8 A180
    clear A180
    replace H:=Option.bind_eq_some_iff.mp H
    obtain ⟨t322,A190,H⟩:=H
    replace H : (some (((strOfNums t319).toList == (strOfNums t322).toList),0)) = some (r1,r2):=H
    have A19:=qe8 A190
    clear A190
    simp only [Option.some.injEq,Prod.mk.injEq] at H
    obtain ⟨rfl,rfl⟩:=H
    try go_wp2
    have n0_:=qe8 (blk_drew BK315.out)
    have n1_:=qe8 (blk_drew BK316.out)
    have n2_:=qe8 (qc8 HB.out)
    clear BK315
    clear BK316
    clear HB
    have BK315:=n0_
    have BK316:=n1_
    have HB:=n2_
    clear n0_ n1_ n2_
    refine start_ (n:=9) (S:=fun w' => w'.cell? ⟨gb315,0,none⟩ = some (.int .i64 a0_0) ∧ w'.cell? ⟨gb315,1,none⟩ = some (.int .i64 a0_1) ∧ w'.cell? ⟨gb315,2,none⟩ = some (.slice A0_2 l0_2.length c0_2) ∧ w'.cell? ⟨gb315,3,none⟩ = some (.slice A0_3 l0_3.length c0_3) ∧ w'.cell? ⟨gb316,0,none⟩ = some (.int .i64 a1_0) ∧ w'.cell? ⟨gb316,1,none⟩ = some (.int .i64 a1_1) ∧ w'.cell? ⟨gb316,2,none⟩ = some (.slice A1_2 l1_2.length c1_2) ∧ w'.cell? ⟨gb316,3,none⟩ = some (.slice A1_3 l1_3.length c1_3)) (ds:=[]) #[false,false,false,false,false,false,false,false,false] (by kernel_rfl) rfl rfl ⟨(blk_cell BK315.out 0).trans rfl,(blk_cell BK315.out 1).trans rfl,(blk_cell BK315.out 2).trans rfl,(blk_cell BK315.out 3).trans rfl,(blk_cell BK316.out 0).trans rfl,(blk_cell BK316.out 1).trans rfl,(blk_cell BK316.out 2).trans rfl,(blk_cell BK316.out 3).trans rfl⟩ (fun hHeld => ?_);refine with_tabW spec_SameTable.tab3 spec_SameTable.bits3 (fun HT_ HW_ => ?_)
    generalize wc.drew = w20 at BK315 BK316 HB hHeld ⊢
    refine take_ (i:=0) (N:=some 14) (v:=?_) (a':=?_) #[true,false,false,false,false,false,false,false,false] rfl rfl (take_ofW HT_.out HW_.out (by kernel_rfl)) (fun _ _ _ h => h) (Or.inl ⟨by rfl,?_⟩) hHeld ?_ ?_
    rotate_left
    ·
     rintro w' ⟨s0,s1,s2,s3,s4,s5,s6,s7⟩
     go_simp
     with_reducible rfl
    rotate_left
    ·
     simp only [Act.put,sA,sB,sC,i64_w,i32_w]
     rfl
    refine take_ (i:=3) (N:=some 17) (v:=?_) (a':=?_) #[true,false,false,true,false,false,false,false,false] rfl rfl (take_ofW HT_.out HW_.out (by kernel_rfl)) (fun _ _ _ h => h) (Or.inl ⟨by rfl,?_⟩) hHeld ?_ ?_
    rotate_left
    ·
     rintro w' ⟨s0,s1,s2,s3,s4,s5,s6,s7⟩
     go_simp
     with_reducible rfl
    rotate_left
    ·
     simp only [Act.put,sA,sB,sC,i64_w,i32_w]
     rfl
    refine one_ (i:=1) (N:=some 15) #[true,true,false,true,false,false,false,false,false] rfl rfl (one_of HT_.out (by kernel_rfl)) (by decide) (fun K hK => ?_)
    refine goes_ Try.func51 (by kernel_rfl) rfl #[.agg #[.int .i64 a0_0,.int .i64 a0_1,.slice A0_2 l0_2.length c0_2,.slice A0_3 l0_3.length c0_3]] (by rfl) rfl rfl (by (try simp only [sE,sH,sI]);first|done|rfl|(simp only [sG,sF];rfl)) ?_
    with_reducible refine (spec_l05Bytes.calls kj2 a0_0 a0_1 _ _ l0_2 _ _ l0_3 t319 _ ?side1 ?side2 ?side3 ?side4 A18.out).mono ?_
    (case side1 => repeat (first|exact (Kd.C_below HR0_2.out HB.out)|(with_reducible refine Kd.C_alloc ?_ _)|(with_reducible refine Kd.C_drewN ?_ _)|(with_reducible refine Kd.C_drew ?_)))
    (case side2 => exact HC0_2.out)
    (case side3 => repeat (first|exact (Kd.C_below HR0_3.out HB.out)|(with_reducible refine Kd.C_alloc ?_ _)|(with_reducible refine Kd.C_drewN ?_ _)|(with_reducible refine Kd.C_drew ?_)))
    (case side4 => exact HC0_3.out)
    rintro e w21 ⟨v320,rfl,ho0,hb⟩
    refine ⟨_,rfl,?_⟩
    have n0_:=qe8 (Kd.R_lower ho0 (below_size (by repeat (first|(with_reducible first|exact HB.out|apply qa8|apply qb8|apply qc8|refine qd8 ?_ GE315.out|refine qd8 ?_ GE316.out)|exact HB.out))))
    have n1_:=qe8 (blk_below (g:=gb315) (o:=.cells #[.int .i64 a0_0,.int .i64 a0_1,.slice A0_2 l0_2.length c0_2,.slice A0_3 l0_3.length c0_3] 31 (0,0)) (by (with_reducible repeat (first|apply blk_drewN|apply blk_drew|apply blk_alloc));exact BK315.out) hb)
    have n2_:=qe8 (blk_below (g:=gb316) (o:=.cells #[.int .i64 a1_0,.int .i64 a1_1,.slice A1_2 l1_2.length c1_2,.slice A1_3 l1_3.length c1_3] 31 (0,0)) (by (with_reducible repeat (first|apply blk_drewN|apply blk_drew|apply blk_alloc));exact BK316.out) hb)
    have n3_:=qe8 (sN (by repeat (first|(with_reducible first|exact HB.out|apply qa8|apply qb8|apply qc8|refine qd8 ?_ GE315.out|refine qd8 ?_ GE316.out)|exact HB.out)) hb)
    clear BK315
    clear BK316
    clear HB
    have HO321:=n0_
    have BK315:=n1_
    have BK316:=n2_
    have HB:=n3_
    clear n0_ n1_ n2_ n3_
    (try clear hb)
    (try clear hb2)
    (try clear hk)
    (try clear hi)
    (try clear ho0)
    refine hK.out _ _ ⟨(blk_cell BK315.out 0).trans rfl,(blk_cell BK315.out 1).trans rfl,(blk_cell BK315.out 2).trans rfl,(blk_cell BK315.out 3).trans rfl,(blk_cell BK316.out 0).trans rfl,(blk_cell BK316.out 1).trans rfl,(blk_cell BK316.out 2).trans rfl,(blk_cell BK316.out 3).trans rfl⟩ (fun hHeld => ?_)
    clear hK K
    refine norm_ (a':=?_) ?_ ?_
    rotate_left
    ·
     show Act.put _ (some 15) _ = _
     simp only [Act.put,sA,sB,sC,i64_w,i32_w]
     rfl
    refine join_ (σ:=Value) 3 #[true,true,true,true,true,true,false,false,false] (fun s_ => [(16,.string (strOfNums t319)),(18,s_),(19,.string (strOfNums t322))]) (fun s_ w' => (w'.cell? ⟨gb315,0,none⟩ = some (.int .i64 a0_0) ∧ w'.cell? ⟨gb315,1,none⟩ = some (.int .i64 a0_1) ∧ w'.cell? ⟨gb315,2,none⟩ = some (.slice A0_2 l0_2.length c0_2) ∧ w'.cell? ⟨gb315,3,none⟩ = some (.slice A0_3 l0_3.length c0_3) ∧ w'.cell? ⟨gb316,0,none⟩ = some (.int .i64 a1_0) ∧ w'.cell? ⟨gb316,1,none⟩ = some (.int .i64 a1_1) ∧ w'.cell? ⟨gb316,2,none⟩ = some (.slice A1_2 l1_2.length c1_2) ∧ w'.cell? ⟨gb316,3,none⟩ = some (.slice A1_3 l1_3.length c1_3)) ∧ (Kd.R (Kd.int .u8) 5 w' w.heap.size (fun k_ => some k_ ≠ (s_ : Value).ownBlock) v320 t319) ∧ (Kd.R (Kd.int .u8) 5 w' w.heap.size (fun k_ => some k_ ≠ (v320 : Value).ownBlock) s_ t322) ∧ (w'.heap[gb315]? = some (.cells #[.int .i64 a0_0,.int .i64 a0_1,.slice A0_2 l0_2.length c0_2,.slice A0_3 l0_3.length c0_3] 31 (0,0))) ∧ (w'.heap[gb316]? = some (.cells #[.int .i64 a1_0,.int .i64 a1_1,.slice A1_2 l1_2.length c1_2,.slice A1_3 l1_3.length c1_3] 31 (0,0))) ∧ (Below w.heap.size w w')) ?_ ?_
    rotate_left
    ·
     intro hCont
     refine two_ (i:=2) (j:=4) (Ni:=some 16) (Nj:=some 18) #[true,true,true,true,false,false,false,false,false] #[true,true,false,true,true,false,false,false,false] rfl rfl rfl rfl (two_of HT_.out (by kernel_rfl)) (by decide) (by decide) (fun K hK => ?_) (fun K hK => ?_)
     ·
      skip
      have hcv22:=own_string (P:=Try.prog) Try.underlying38 Try.underlying5 Try.underlying9 (Kd.own_of_R HO321.out)
      refine value_ (w1:=?_) (v:=?_) (by rfl) rfl ?_ ?_
      rotate_left 2
      ·
       go_simp
       constructor
       ·
        rfl
       ·
        rfl
      clear hcv22
      refine hK.out _ _ ⟨(blk_cell BK315.out 0).trans rfl,(blk_cell BK315.out 1).trans rfl,(blk_cell BK315.out 2).trans rfl,(blk_cell BK315.out 3).trans rfl,(blk_cell BK316.out 0).trans rfl,(blk_cell BK316.out 1).trans rfl,(blk_cell BK316.out 2).trans rfl,(blk_cell BK316.out 3).trans rfl⟩ (fun hHeld => ?_)
      clear hK K
      refine norm_ (a':=?_) ?_ ?_
      rotate_left
      ·
       show Act.put _ (some 16) _ = _
       simp only [Act.put,sA,sB,sC,i64_w,i32_w]
       rfl
      refine one_ (i:=4) (N:=some 18) #[true,true,true,true,true,false,false,false,false] rfl rfl (one_of HT_.out (by kernel_rfl)) (by decide) (fun K hK => ?_)
      refine goes_ Try.func51 (by kernel_rfl) rfl #[.agg #[.int .i64 a1_0,.int .i64 a1_1,.slice A1_2 l1_2.length c1_2,.slice A1_3 l1_3.length c1_3]] (by rfl) rfl rfl (by (try simp only [sE,sH,sI]);first|done|rfl|(simp only [sG,sF];rfl)) ?_
      with_reducible refine (spec_l05Bytes.calls kj2 a1_0 a1_1 _ _ l1_2 _ _ l1_3 t322 _ ?side1 ?side2 ?side3 ?side4 A19.out).mono ?_
      (case side1 => repeat (first|exact (Kd.C_below HR1_2.out HB.out)|(with_reducible refine Kd.C_alloc ?_ _)|(with_reducible refine Kd.C_drewN ?_ _)|(with_reducible refine Kd.C_drew ?_)))
      (case side2 => exact HC1_2.out)
      (case side3 => repeat (first|exact (Kd.C_below HR1_3.out HB.out)|(with_reducible refine Kd.C_alloc ?_ _)|(with_reducible refine Kd.C_drewN ?_ _)|(with_reducible refine Kd.C_drew ?_)))
      (case side4 => exact HC1_3.out)
      rintro e w23 ⟨v323,rfl,ho0,hb⟩
      refine ⟨_,rfl,?_⟩
      have n0_:=qe8 (Kd.R_elder' (by (with_reducible repeat (first|apply Kd.R_alloc|apply Kd.R_drewN|apply Kd.R_drew));exact HO321.out) (Kd.R_base ho0) hb)
      have n1_:=qe8 (Kd.R_lower (Kd.R_new' ho0 (Kd.R_lt (by (with_reducible repeat (first|apply Kd.R_alloc|apply Kd.R_drewN|apply Kd.R_drew));exact HO321.out))) (below_size (by repeat (first|(with_reducible first|exact HB.out|apply qa8|apply qb8|apply qc8|refine qd8 ?_ GE315.out|refine qd8 ?_ GE316.out)|exact HB.out))))
      have n2_:=qe8 (blk_below (g:=gb315) (o:=.cells #[.int .i64 a0_0,.int .i64 a0_1,.slice A0_2 l0_2.length c0_2,.slice A0_3 l0_3.length c0_3] 31 (0,0)) (by (with_reducible repeat (first|apply blk_drewN|apply blk_drew|apply blk_alloc));exact BK315.out) hb)
      have n3_:=qe8 (blk_below (g:=gb316) (o:=.cells #[.int .i64 a1_0,.int .i64 a1_1,.slice A1_2 l1_2.length c1_2,.slice A1_3 l1_3.length c1_3] 31 (0,0)) (by (with_reducible repeat (first|apply blk_drewN|apply blk_drew|apply blk_alloc));exact BK316.out) hb)
      have n4_:=qe8 (sN (by repeat (first|(with_reducible first|exact HB.out|apply qa8|apply qb8|apply qc8|refine qd8 ?_ GE315.out|refine qd8 ?_ GE316.out)|exact HB.out)) hb)
      clear HO321
      clear BK315
      clear BK316
      clear HB
      have HO321:=n0_
      have HO324:=n1_
      have BK315:=n2_
      have BK316:=n3_
      have HB:=n4_
      clear n0_ n1_ n2_ n3_ n4_
      (try clear hb)
      (try clear hb2)
      (try clear hk)
      (try clear hi)
      (try clear ho0)
      refine hK.out _ _ ⟨(blk_cell BK315.out 0).trans rfl,(blk_cell BK315.out 1).trans rfl,(blk_cell BK315.out 2).trans rfl,(blk_cell BK315.out 3).trans rfl,(blk_cell BK316.out 0).trans rfl,(blk_cell BK316.out 1).trans rfl,(blk_cell BK316.out 2).trans rfl,(blk_cell BK316.out 3).trans rfl⟩ (fun hHeld => ?_)
      clear hK K
      refine norm_ (a':=?_) ?_ ?_
      rotate_left
      ·
       show Act.put _ (some 18) _ = _
       simp only [Act.put,sA,sB,sC,i64_w,i32_w]
       rfl
      refine one_ (i:=5) (N:=some 19) #[true,true,true,true,true,true,false,false,false] rfl rfl (one_of HT_.out (by kernel_rfl)) (by decide) (fun K hK => ?_)
      have hcv24:=own_string (P:=Try.prog) Try.underlying38 Try.underlying5 Try.underlying9 (Kd.own_of_R HO324.out)
      refine value_ (w1:=?_) (v:=?_) (by rfl) rfl ?_ ?_
      rotate_left 2
      ·
       go_simp
       constructor
       ·
        rfl
       ·
        rfl
      clear hcv24
      refine hK.out _ _ ⟨(blk_cell BK315.out 0).trans rfl,(blk_cell BK315.out 1).trans rfl,(blk_cell BK315.out 2).trans rfl,(blk_cell BK315.out 3).trans rfl,(blk_cell BK316.out 0).trans rfl,(blk_cell BK316.out 1).trans rfl,(blk_cell BK316.out 2).trans rfl,(blk_cell BK316.out 3).trans rfl⟩ (fun hHeld => ?_)
      clear hK K
      refine norm_ (a':=?_) ?_ ?_
      rotate_left
      ·
       show Act.put _ (some 19) _ = _
       simp only [Act.put,sA,sB,sC,i64_w,i32_w]
       rfl
      exact norm_ (by simp only [putAll,Act.put,sA,sB,sC]) (hCont (v323) _ ⟨hHeld,(by (with_reducible repeat (first|apply Kd.R_alloc|apply Kd.R_drewN|apply Kd.R_drew));exact Kd.R_mono HO321.out (fun _ hk => hk.2)),(by (with_reducible repeat (first|apply Kd.R_alloc|apply Kd.R_drewN|apply Kd.R_drew));exact Kd.R_mono HO324.out (fun _ hk => hk.2)),(by (with_reducible repeat (first|apply blk_drewN|apply blk_drew|apply blk_alloc));exact BK315.out),(by (with_reducible repeat (first|apply blk_drewN|apply blk_drew|apply blk_alloc));exact BK316.out),(by repeat (first|(with_reducible first|exact HB.out|apply qa8|apply qb8|apply qc8|refine qd8 ?_ GE315.out|refine qd8 ?_ GE316.out)|exact HB.out))⟩)
     ·
      skip
      refine goes_ Try.func51 (by kernel_rfl) rfl #[.agg #[.int .i64 a1_0,.int .i64 a1_1,.slice A1_2 l1_2.length c1_2,.slice A1_3 l1_3.length c1_3]] (by rfl) rfl rfl (by (try simp only [sE,sH,sI]);first|done|rfl|(simp only [sG,sF];rfl)) ?_
      with_reducible refine (spec_l05Bytes.calls kj2 a1_0 a1_1 _ _ l1_2 _ _ l1_3 t322 _ ?side1 ?side2 ?side3 ?side4 A19.out).mono ?_
      (case side1 => repeat (first|exact (Kd.C_below HR1_2.out HB.out)|(with_reducible refine Kd.C_alloc ?_ _)|(with_reducible refine Kd.C_drewN ?_ _)|(with_reducible refine Kd.C_drew ?_)))
      (case side2 => exact HC1_2.out)
      (case side3 => repeat (first|exact (Kd.C_below HR1_3.out HB.out)|(with_reducible refine Kd.C_alloc ?_ _)|(with_reducible refine Kd.C_drewN ?_ _)|(with_reducible refine Kd.C_drew ?_)))
      (case side4 => exact HC1_3.out)
      rintro e w22 ⟨v323,rfl,ho0,hb⟩
      refine ⟨_,rfl,?_⟩
      have n0_:=qe8 (Kd.R_elder' (by (with_reducible repeat (first|apply Kd.R_alloc|apply Kd.R_drewN|apply Kd.R_drew));exact HO321.out) (Kd.R_base ho0) hb)
      have n1_:=qe8 (Kd.R_lower (Kd.R_new' ho0 (Kd.R_lt (by (with_reducible repeat (first|apply Kd.R_alloc|apply Kd.R_drewN|apply Kd.R_drew));exact HO321.out))) (below_size (by repeat (first|(with_reducible first|exact HB.out|apply qa8|apply qb8|apply qc8|refine qd8 ?_ GE315.out|refine qd8 ?_ GE316.out)|exact HB.out))))
      have n2_:=qe8 (blk_below (g:=gb315) (o:=.cells #[.int .i64 a0_0,.int .i64 a0_1,.slice A0_2 l0_2.length c0_2,.slice A0_3 l0_3.length c0_3] 31 (0,0)) (by (with_reducible repeat (first|apply blk_drewN|apply blk_drew|apply blk_alloc));exact BK315.out) hb)
      have n3_:=qe8 (blk_below (g:=gb316) (o:=.cells #[.int .i64 a1_0,.int .i64 a1_1,.slice A1_2 l1_2.length c1_2,.slice A1_3 l1_3.length c1_3] 31 (0,0)) (by (with_reducible repeat (first|apply blk_drewN|apply blk_drew|apply blk_alloc));exact BK316.out) hb)
      have n4_:=qe8 (sN (by repeat (first|(with_reducible first|exact HB.out|apply qa8|apply qb8|apply qc8|refine qd8 ?_ GE315.out|refine qd8 ?_ GE316.out)|exact HB.out)) hb)
      clear HO321
      clear BK315
      clear BK316
      clear HB
      have HO321:=n0_
      have HO324:=n1_
      have BK315:=n2_
      have BK316:=n3_
      have HB:=n4_
      clear n0_ n1_ n2_ n3_ n4_
      (try clear hb)
      (try clear hb2)
      (try clear hk)
      (try clear hi)
      (try clear ho0)
      refine hK.out _ _ ⟨(blk_cell BK315.out 0).trans rfl,(blk_cell BK315.out 1).trans rfl,(blk_cell BK315.out 2).trans rfl,(blk_cell BK315.out 3).trans rfl,(blk_cell BK316.out 0).trans rfl,(blk_cell BK316.out 1).trans rfl,(blk_cell BK316.out 2).trans rfl,(blk_cell BK316.out 3).trans rfl⟩ (fun hHeld => ?_)
      clear hK K
      refine norm_ (a':=?_) ?_ ?_
      rotate_left
      ·
       show Act.put _ (some 18) _ = _
       simp only [Act.put,sA,sB,sC,i64_w,i32_w]
       rfl
      refine two_ (i:=2) (j:=5) (Ni:=some 16) (Nj:=some 19) #[true,true,true,true,true,false,false,false,false] #[true,true,false,true,true,true,false,false,false] rfl rfl rfl rfl (two_of HT_.out (by kernel_rfl)) (by decide) (by decide) (fun K hK => ?_) (fun K hK => ?_)
      ·
       skip
       have hcv23:=own_string (P:=Try.prog) Try.underlying38 Try.underlying5 Try.underlying9 (Kd.own_of_R HO321.out)
       refine value_ (w1:=?_) (v:=?_) (by rfl) rfl ?_ ?_
       rotate_left 2
       ·
        go_simp
        constructor
        ·
         rfl
        ·
         rfl
       clear hcv23
       refine hK.out _ _ ⟨(blk_cell BK315.out 0).trans rfl,(blk_cell BK315.out 1).trans rfl,(blk_cell BK315.out 2).trans rfl,(blk_cell BK315.out 3).trans rfl,(blk_cell BK316.out 0).trans rfl,(blk_cell BK316.out 1).trans rfl,(blk_cell BK316.out 2).trans rfl,(blk_cell BK316.out 3).trans rfl⟩ (fun hHeld => ?_)
       clear hK K
       refine norm_ (a':=?_) ?_ ?_
       rotate_left
       ·
        show Act.put _ (some 16) _ = _
        simp only [Act.put,sA,sB,sC,i64_w,i32_w]
        rfl
       refine one_ (i:=5) (N:=some 19) #[true,true,true,true,true,true,false,false,false] rfl rfl (one_of HT_.out (by kernel_rfl)) (by decide) (fun K hK => ?_)
       have hcv24:=own_string (P:=Try.prog) Try.underlying38 Try.underlying5 Try.underlying9 (Kd.own_of_R HO324.out)
       refine value_ (w1:=?_) (v:=?_) (by rfl) rfl ?_ ?_
       rotate_left 2
       ·
        go_simp
        constructor
        ·
         rfl
        ·
         rfl
       clear hcv24
       refine hK.out _ _ ⟨(blk_cell BK315.out 0).trans rfl,(blk_cell BK315.out 1).trans rfl,(blk_cell BK315.out 2).trans rfl,(blk_cell BK315.out 3).trans rfl,(blk_cell BK316.out 0).trans rfl,(blk_cell BK316.out 1).trans rfl,(blk_cell BK316.out 2).trans rfl,(blk_cell BK316.out 3).trans rfl⟩ (fun hHeld => ?_)
       clear hK K
       refine norm_ (a':=?_) ?_ ?_
       rotate_left
       ·
        show Act.put _ (some 19) _ = _
        simp only [Act.put,sA,sB,sC,i64_w,i32_w]
        rfl
       exact norm_ (by simp only [putAll,Act.put,sA,sB,sC]) (hCont (v323) _ ⟨hHeld,(by (with_reducible repeat (first|apply Kd.R_alloc|apply Kd.R_drewN|apply Kd.R_drew));exact Kd.R_mono HO321.out (fun _ hk => hk.2)),(by (with_reducible repeat (first|apply Kd.R_alloc|apply Kd.R_drewN|apply Kd.R_drew));exact Kd.R_mono HO324.out (fun _ hk => hk.2)),(by (with_reducible repeat (first|apply blk_drewN|apply blk_drew|apply blk_alloc));exact BK315.out),(by (with_reducible repeat (first|apply blk_drewN|apply blk_drew|apply blk_alloc));exact BK316.out),(by repeat (first|(with_reducible first|exact HB.out|apply qa8|apply qb8|apply qc8|refine qd8 ?_ GE315.out|refine qd8 ?_ GE316.out)|exact HB.out))⟩)
      ·
       skip
       have hcv23:=own_string (P:=Try.prog) Try.underlying38 Try.underlying5 Try.underlying9 (Kd.own_of_R HO324.out)
       refine value_ (w1:=?_) (v:=?_) (by rfl) rfl ?_ ?_
       rotate_left 2
       ·
        go_simp
        constructor
        ·
         rfl
        ·
         rfl
       clear hcv23
       refine hK.out _ _ ⟨(blk_cell BK315.out 0).trans rfl,(blk_cell BK315.out 1).trans rfl,(blk_cell BK315.out 2).trans rfl,(blk_cell BK315.out 3).trans rfl,(blk_cell BK316.out 0).trans rfl,(blk_cell BK316.out 1).trans rfl,(blk_cell BK316.out 2).trans rfl,(blk_cell BK316.out 3).trans rfl⟩ (fun hHeld => ?_)
       clear hK K
       refine norm_ (a':=?_) ?_ ?_
       rotate_left
       ·
        show Act.put _ (some 19) _ = _
        simp only [Act.put,sA,sB,sC,i64_w,i32_w]
        rfl
       refine one_ (i:=2) (N:=some 16) #[true,true,true,true,true,true,false,false,false] rfl rfl (one_of HT_.out (by kernel_rfl)) (by decide) (fun K hK => ?_)
       have hcv24:=own_string (P:=Try.prog) Try.underlying38 Try.underlying5 Try.underlying9 (Kd.own_of_R HO321.out)
       refine value_ (w1:=?_) (v:=?_) (by rfl) rfl ?_ ?_
       rotate_left 2
       ·
        go_simp
        constructor
        ·
         rfl
        ·
         rfl
       clear hcv24
       refine hK.out _ _ ⟨(blk_cell BK315.out 0).trans rfl,(blk_cell BK315.out 1).trans rfl,(blk_cell BK315.out 2).trans rfl,(blk_cell BK315.out 3).trans rfl,(blk_cell BK316.out 0).trans rfl,(blk_cell BK316.out 1).trans rfl,(blk_cell BK316.out 2).trans rfl,(blk_cell BK316.out 3).trans rfl⟩ (fun hHeld => ?_)
       clear hK K
       refine norm_ (a':=?_) ?_ ?_
       rotate_left
       ·
        show Act.put _ (some 16) _ = _
        simp only [Act.put,sA,sB,sC,i64_w,i32_w]
        rfl
       exact norm_ (by simp only [putAll,Act.put,sA,sB,sC]) (hCont (v323) _ ⟨hHeld,(by (with_reducible repeat (first|apply Kd.R_alloc|apply Kd.R_drewN|apply Kd.R_drew));exact Kd.R_mono HO321.out (fun _ hk => hk.2)),(by (with_reducible repeat (first|apply Kd.R_alloc|apply Kd.R_drewN|apply Kd.R_drew));exact Kd.R_mono HO324.out (fun _ hk => hk.2)),(by (with_reducible repeat (first|apply blk_drewN|apply blk_drew|apply blk_alloc));exact BK315.out),(by (with_reducible repeat (first|apply blk_drewN|apply blk_drew|apply blk_alloc));exact BK316.out),(by repeat (first|(with_reducible first|exact HB.out|apply qa8|apply qb8|apply qc8|refine qd8 ?_ GE315.out|refine qd8 ?_ GE316.out)|exact HB.out))⟩)
    rintro v323 w25 ⟨hS_,h0_,h1_,h2_,h3_,h4_⟩
    have n0_ : Aside0 (Kd.R (Kd.int .u8) 5 w25 w.heap.size (fun k_ => some k_ ≠ (v323 : Value).ownBlock) v320 t319):=⟨h0_⟩
    have n1_ : Aside0 (Kd.R (Kd.int .u8) 5 w25 w.heap.size (fun k_ => some k_ ≠ (v320 : Value).ownBlock) v323 t322):=⟨h1_⟩
    have n2_ : Aside0 (w25.heap[gb315]? = some (.cells #[.int .i64 a0_0,.int .i64 a0_1,.slice A0_2 l0_2.length c0_2,.slice A0_3 l0_3.length c0_3] 31 (0,0))):=⟨h2_⟩
    have n3_ : Aside0 (w25.heap[gb316]? = some (.cells #[.int .i64 a1_0,.int .i64 a1_1,.slice A1_2 l1_2.length c1_2,.slice A1_3 l1_3.length c1_3] 31 (0,0))):=⟨h3_⟩
    have n4_ : Aside0 (Below w.heap.size w w25):=⟨h4_⟩
    clear BK315
    clear BK316
    clear HB
    clear h0_ h1_ h2_ h3_ h4_
    have HO321:=n0_
    have HO324:=n1_
    have BK315:=n2_
    have BK316:=n3_
    have HB:=n4_
    clear n0_ n1_ n2_ n3_ n4_
    have hHeld : w25.cell? ⟨gb315,0,none⟩ = some (.int .i64 a0_0) ∧ w25.cell? ⟨gb315,1,none⟩ = some (.int .i64 a0_1) ∧ w25.cell? ⟨gb315,2,none⟩ = some (.slice A0_2 l0_2.length c0_2) ∧ w25.cell? ⟨gb315,3,none⟩ = some (.slice A0_3 l0_3.length c0_3) ∧ w25.cell? ⟨gb316,0,none⟩ = some (.int .i64 a1_0) ∧ w25.cell? ⟨gb316,1,none⟩ = some (.int .i64 a1_1) ∧ w25.cell? ⟨gb316,2,none⟩ = some (.slice A1_2 l1_2.length c1_2) ∧ w25.cell? ⟨gb316,3,none⟩ = some (.slice A1_3 l1_3.length c1_3):=hS_
    refine norm_ (a':=?_) ?_ ?_
    rotate_left
    ·
     simp only [putAll,Act.put,sA,sB,sC]
     rfl
    refine pure_ (i:=6) (N:=some 20) (v:=?_) (a':=?_) #[true,true,true,true,true,true,true,false,false] rfl rfl (any_of HT_.out (by kernel_rfl)) (fun _ _ _ h => h) (Or.inl ⟨by rfl,?_⟩) ?_ ?_
    rotate_left
    ·
     intro w'
     go_simp
     with_reducible rfl
    rotate_left
    ·
     simp only [Act.put,sA,sB,sC,i64_w,i32_w]
     rfl
    refine pure_ (i:=7) (N:=some 4) (v:=?_) (a':=?_) #[true,true,true,true,true,true,true,true,false] rfl rfl (any_of HT_.out (by kernel_rfl)) (fun _ _ _ h => h) (Or.inl ⟨by rfl,?_⟩) ?_ ?_
    rotate_left
    ·
     intro w'
     go_simp
     with_reducible rfl
    rotate_left
    ·
     simp only [Act.put,sA,sB,sC,i64_w,i32_w]
     rfl
    refine pure_ (i:=8) (N:=some 5) (v:=?_) (a':=?_) #[true,true,true,true,true,true,true,true,true] rfl rfl (any_of HT_.out (by kernel_rfl)) (fun _ _ _ h => h) (Or.inl ⟨by rfl,?_⟩) ?_ ?_
    rotate_left
    ·
     intro w'
     go_simp
     with_reducible rfl
    rotate_left
    ·
     simp only [Act.put,sA,sB,sC,i64_w,i32_w]
     rfl
    refine done_ (done_of HT_.out (by kernel_rfl)) ?_
    try go_wp2
    go_ret2
    exact ⟨by first|rfl|(simp [errW_none,errW_some] <;> rfl)|(simp [*,errW_none,errW_some] <;> rfl),by repeat (first|(with_reducible first|exact HB.out|apply qa8|apply qb8|apply qc8|refine qd8 ?_ GE315.out|refine qd8 ?_ GE316.out)|exact HB.out)⟩

/-! ### impl_within: function 46 -/
def impl_within.f (a0 : Int) (a1 : Int) (a2 : Int) : Option (Bool):=if a0 ≥ a1 then (some (decide (a0 ≤ a2))) else (some false)
set_option maxHeartbeats 8000000 in
set_option maxRecDepth 100000 in
theorem impl_within.calls (a0 : Int) (a1 : Int) (a2 : Int) (r : Bool) (w : World) (h : impl_within.f a0 a1 a2 = some r) :
  Calls Try.prog 46 #[.int .i64 a0,.int .i64 a1,.int .i64 a2] w fun e w' => e = .returned (.bool r) ∧ Drawn0 w w':=by
 have H : (if a0 ≥ a1 then (some (decide (a0 ≤ a2))) else (some false)) = some r:=h
 clear h
 by_cases c4 : a0 ≥ a1
 ·
  rw [if_pos c4] at H
  have c4b0 : decide (a1 ≤ a0) = true:=decide_eq_true c4
  clear c4
  obtain rfl:=sO H
  go_enter Try.func46,Try.ntmps46
  go_wp2
  go_ret
  exact ⟨by first|rfl|(simp;done)|(simp [*];done),by repeat (first|exact Drawn0.refl _|apply Drawn0.step)⟩
 ·
  rw [if_neg c4] at H
  have c4b0 : decide (a1 ≤ a0) = false:=decide_eq_false c4
  clear c4
  obtain rfl:=sO H
  go_enter Try.func46,Try.ntmps46
  go_wp2
  go_ret
  exact ⟨by first|rfl|(simp;done)|(simp [*];done),by repeat (first|exact Drawn0.refl _|apply Drawn0.step)⟩

/-! ### impl_isAnswer: function 48 -/
def impl_isAnswer.f (a0_0 : Int) (a0_1 : Int) (a0_2 : Int) (a0_3 : Int) : Option (Bool):=(impl_within.f a0_0 1 8).bind fun t326 => (if t326 = true then ((impl_within.f a0_1 0 1000000).bind fun t327 => (if t327 = true then ((impl_within.f a0_2 (-1) 255).bind fun t328 => (if t328 = true then ((impl_within.f a0_3 0 2000000000).bind fun t329 => (some t329)) else (some false))) else (some false))) else (some false))
set_option maxHeartbeats 8000000 in
set_option maxRecDepth 100000 in
theorem impl_isAnswer.calls (a0_0 : Int) (a0_1 : Int) (a0_2 : Int) (a0_3 : Int) (r : Bool) (w : World) (h : impl_isAnswer.f a0_0 a0_1 a0_2 a0_3 = some r) :
  Calls Try.prog 48 #[.agg #[.int .i64 a0_0,.int .i64 a0_1,.int .i64 a0_2,.int .i64 a0_3]] w fun e w' => e = .returned (.bool r) ∧ Below w.heap.size w w':=by
 have hu75:=Try.underlying75
 have HB:=qe8 (Below.refl w.heap.size w)
 have H : ((impl_within.f a0_0 1 8).bind fun t326 => (if t326 = true then ((impl_within.f a0_1 0 1000000).bind fun t327 => (if t327 = true then ((impl_within.f a0_2 (-1) 255).bind fun t328 => (if t328 = true then ((impl_within.f a0_3 0 2000000000).bind fun t329 => (some t329)) else (some false))) else (some false))) else (some false))) = some r:=h
 clear h
 replace H:=Option.bind_eq_some_iff.mp H
 obtain ⟨t326,A20,H⟩:=H
 replace H : (if t326 = true then ((impl_within.f a0_1 0 1000000).bind fun t327 => (if t327 = true then ((impl_within.f a0_2 (-1) 255).bind fun t328 => (if t328 = true then ((impl_within.f a0_3 0 2000000000).bind fun t329 => (some t329)) else (some false))) else (some false))) else (some false)) = some r:=H
 have A2:=qe8 A20
 clear A20
 by_cases c3 : t326 = true
 ·
  subst c3
  have H1 : ((impl_within.f a0_1 0 1000000).bind fun t327 => (if t327 = true then ((impl_within.f a0_2 (-1) 255).bind fun t328 => (if t328 = true then ((impl_within.f a0_3 0 2000000000).bind fun t329 => (some t329)) else (some false))) else (some false))) = some r:=by rw [if_pos rfl] at H;exact H
  clear H
  have H:=H1
  clear H1
  replace H:=Option.bind_eq_some_iff.mp H
  obtain ⟨t327,A40,H⟩:=H
  replace H : (if t327 = true then ((impl_within.f a0_2 (-1) 255).bind fun t328 => (if t328 = true then ((impl_within.f a0_3 0 2000000000).bind fun t329 => (some t329)) else (some false))) else (some false)) = some r:=H
  have A4:=qe8 A40
  clear A40
  by_cases c5 : t327 = true
  ·
   subst c5
   have H1 : ((impl_within.f a0_2 (-1) 255).bind fun t328 => (if t328 = true then ((impl_within.f a0_3 0 2000000000).bind fun t329 => (some t329)) else (some false))) = some r:=by rw [if_pos rfl] at H;exact H
   clear H
   have H:=H1
   clear H1
   replace H:=Option.bind_eq_some_iff.mp H
   obtain ⟨t328,A60,H⟩:=H
   replace H : (if t328 = true then ((impl_within.f a0_3 0 2000000000).bind fun t329 => (some t329)) else (some false)) = some r:=H
   have A6:=qe8 A60
   clear A60
   by_cases c7 : t328 = true
   ·
    subst c7
    have H1 : ((impl_within.f a0_3 0 2000000000).bind fun t329 => (some t329)) = some r:=by rw [if_pos rfl] at H;exact H
    clear H
    have H:=H1
    clear H1
    replace H:=Option.bind_eq_some_iff.mp H
    obtain ⟨t329,A80,H⟩:=H
    replace H : (some t329) = some r:=H
    have A8:=qe8 A80
    clear A80
    obtain rfl:=sO H
    go_enter Try.func48,Try.ntmps48
    go_wp2_with (first|((with_reducible refine gate_dst (N:=1) rfl ?_);refine box_event ?hg (N:=1) ?hd (cs:=#[.int .i64 a0_0,.int .i64 a0_1,.int .i64 a0_2,.int .i64 a0_3]) (t:=75) ?hr ?_;(case hd => rfl);(case hg => rfl);(case hr => first|(go_simp;done)|(go_simp;rfl));intro gb325 hg w9 hbox hb;have n0_:=qe8 (sN (by repeat (first|(with_reducible first|exact HB.out|apply qa8|apply qb8|apply qc8)|exact HB.out)) hb);have n1_:=qe8 (hbox);have n2_:=qe8 ((by rw [hg];exact (below_size (by repeat (first|(with_reducible first|exact HB.out|apply qa8|apply qb8|apply qc8)|exact HB.out))) : w.heap.size ≤ gb325));have n3_:=qe8 ((by rw [hg];exact (below_size (by repeat (first|(with_reducible first|exact HB.out|apply qa8|apply qb8|apply qc8)|exact HB.out))) : w.heap.size ≤ gb325));clear HB;have HB:=n0_;have BK325:=n1_;have GW325:=n2_;have GE325:=n3_;clear n0_ n1_ n2_ n3_;clear hb hbox hg;have hcz10_0 : w9.cell? ⟨gb325,0,none⟩ = some (.int .i64 a0_0):=(blk_cell BK325.out 0).trans rfl;have hcz10_1 : w9.cell? ⟨gb325,1,none⟩ = some (.int .i64 a0_1):=(blk_cell BK325.out 1).trans rfl;have hcz10_2 : w9.cell? ⟨gb325,2,none⟩ = some (.int .i64 a0_2):=(blk_cell BK325.out 2).trans rfl;have hcz10_3 : w9.cell? ⟨gb325,3,none⟩ = some (.int .i64 a0_3):=(blk_cell BK325.out 3).trans rfl;have hfz10_0:=sJ BK325.out 0;have hfz10_1:=sJ BK325.out 1;have hfz10_2:=sJ BK325.out 2;have hfz10_3:=sJ BK325.out 3)|((with_reducible refine gate_callee (f:=46) rfl ?_);refine goesL_ (some 5) rfl rfl Try.func46 (by kernel_rfl) rfl #[.int .i64 a0_0,.int .i64 1,.int .i64 8] rfl (by (try simp only [sE,sH,sI]);first|done|rfl|(simp only [sG,sF];rfl)) ?_;(with_reducible refine (impl_within.calls a0_0 1 8 true _ A2.out).mono ?_);rintro e w' ⟨rfl,⟨nd,rfl⟩⟩;refine ⟨_,rfl,?_⟩)|(go_at_call 46;(with_reducible refine (impl_within.calls a0_1 0 1000000 true _ A4.out).mono ?_);rintro e w' ⟨rfl,⟨nd,rfl⟩⟩)|(go_at_call 46;(with_reducible refine (impl_within.calls a0_2 (-1) 255 true _ A6.out).mono ?_);rintro e w' ⟨rfl,⟨nd,rfl⟩⟩)|(go_at_call 46;(with_reducible refine (impl_within.calls a0_3 0 2000000000 t329 _ A8.out).mono ?_);rintro e w' ⟨rfl,⟨nd,rfl⟩⟩))
    go_ret
    exact ⟨by first|rfl|(simp [errW_none,errW_some] <;> rfl)|(simp [*,errW_none,errW_some] <;> rfl),by repeat (first|(with_reducible first|exact HB.out|apply qa8|apply qb8|apply qc8|refine qd8 ?_ GE325.out)|exact HB.out)⟩
   ·
    replace c7:=Bool.eq_false_iff.mpr c7
    subst c7
    have H1 : (some false) = some r:=by rw [if_neg (show ¬ (false = true) by decide)] at H;exact H
    clear H
    have H:=H1
    clear H1
    obtain rfl:=sO H
    go_enter Try.func48,Try.ntmps48
    go_wp2_with (first|((with_reducible refine gate_dst (N:=1) rfl ?_);refine box_event ?hg (N:=1) ?hd (cs:=#[.int .i64 a0_0,.int .i64 a0_1,.int .i64 a0_2,.int .i64 a0_3]) (t:=75) ?hr ?_;(case hd => rfl);(case hg => rfl);(case hr => first|(go_simp;done)|(go_simp;rfl));intro gb325 hg w11 hbox hb;have n0_:=qe8 (sN (by repeat (first|(with_reducible first|exact HB.out|apply qa8|apply qb8|apply qc8)|exact HB.out)) hb);have n1_:=qe8 (hbox);have n2_:=qe8 ((by rw [hg];exact (below_size (by repeat (first|(with_reducible first|exact HB.out|apply qa8|apply qb8|apply qc8)|exact HB.out))) : w.heap.size ≤ gb325));have n3_:=qe8 ((by rw [hg];exact (below_size (by repeat (first|(with_reducible first|exact HB.out|apply qa8|apply qb8|apply qc8)|exact HB.out))) : w.heap.size ≤ gb325));clear HB;have HB:=n0_;have BK325:=n1_;have GW325:=n2_;have GE325:=n3_;clear n0_ n1_ n2_ n3_;clear hb hbox hg;have hcz12_0 : w11.cell? ⟨gb325,0,none⟩ = some (.int .i64 a0_0):=(blk_cell BK325.out 0).trans rfl;have hcz12_1 : w11.cell? ⟨gb325,1,none⟩ = some (.int .i64 a0_1):=(blk_cell BK325.out 1).trans rfl;have hcz12_2 : w11.cell? ⟨gb325,2,none⟩ = some (.int .i64 a0_2):=(blk_cell BK325.out 2).trans rfl;have hcz12_3 : w11.cell? ⟨gb325,3,none⟩ = some (.int .i64 a0_3):=(blk_cell BK325.out 3).trans rfl;have hfz12_0:=sJ BK325.out 0;have hfz12_1:=sJ BK325.out 1;have hfz12_2:=sJ BK325.out 2;have hfz12_3:=sJ BK325.out 3)|((with_reducible refine gate_callee (f:=46) rfl ?_);refine goesL_ (some 5) rfl rfl Try.func46 (by kernel_rfl) rfl #[.int .i64 a0_0,.int .i64 1,.int .i64 8] rfl (by (try simp only [sE,sH,sI]);first|done|rfl|(simp only [sG,sF];rfl)) ?_;(with_reducible refine (impl_within.calls a0_0 1 8 true _ A2.out).mono ?_);rintro e w' ⟨rfl,⟨nd,rfl⟩⟩;refine ⟨_,rfl,?_⟩)|(go_at_call 46;(with_reducible refine (impl_within.calls a0_1 0 1000000 true _ A4.out).mono ?_);rintro e w' ⟨rfl,⟨nd,rfl⟩⟩)|(go_at_call 46;(with_reducible refine (impl_within.calls a0_2 (-1) 255 false _ A6.out).mono ?_);rintro e w' ⟨rfl,⟨nd,rfl⟩⟩))
    go_ret
    exact ⟨by first|rfl|(simp [errW_none,errW_some] <;> rfl)|(simp [*,errW_none,errW_some] <;> rfl),by repeat (first|(with_reducible first|exact HB.out|apply qa8|apply qb8|apply qc8|refine qd8 ?_ GE325.out)|exact HB.out)⟩
  ·
   replace c5:=Bool.eq_false_iff.mpr c5
   subst c5
   have H1 : (some false) = some r:=by rw [if_neg (show ¬ (false = true) by decide)] at H;exact H
   clear H
   have H:=H1
   clear H1
   obtain rfl:=sO H
   go_enter Try.func48,Try.ntmps48
   go_wp2_with (first|((with_reducible refine gate_dst (N:=1) rfl ?_);refine box_event ?hg (N:=1) ?hd (cs:=#[.int .i64 a0_0,.int .i64 a0_1,.int .i64 a0_2,.int .i64 a0_3]) (t:=75) ?hr ?_;(case hd => rfl);(case hg => rfl);(case hr => first|(go_simp;done)|(go_simp;rfl));intro gb325 hg w13 hbox hb;have n0_:=qe8 (sN (by repeat (first|(with_reducible first|exact HB.out|apply qa8|apply qb8|apply qc8)|exact HB.out)) hb);have n1_:=qe8 (hbox);have n2_:=qe8 ((by rw [hg];exact (below_size (by repeat (first|(with_reducible first|exact HB.out|apply qa8|apply qb8|apply qc8)|exact HB.out))) : w.heap.size ≤ gb325));have n3_:=qe8 ((by rw [hg];exact (below_size (by repeat (first|(with_reducible first|exact HB.out|apply qa8|apply qb8|apply qc8)|exact HB.out))) : w.heap.size ≤ gb325));clear HB;have HB:=n0_;have BK325:=n1_;have GW325:=n2_;have GE325:=n3_;clear n0_ n1_ n2_ n3_;clear hb hbox hg;have hcz14_0 : w13.cell? ⟨gb325,0,none⟩ = some (.int .i64 a0_0):=(blk_cell BK325.out 0).trans rfl;have hcz14_1 : w13.cell? ⟨gb325,1,none⟩ = some (.int .i64 a0_1):=(blk_cell BK325.out 1).trans rfl;have hcz14_2 : w13.cell? ⟨gb325,2,none⟩ = some (.int .i64 a0_2):=(blk_cell BK325.out 2).trans rfl;have hcz14_3 : w13.cell? ⟨gb325,3,none⟩ = some (.int .i64 a0_3):=(blk_cell BK325.out 3).trans rfl;have hfz14_0:=sJ BK325.out 0;have hfz14_1:=sJ BK325.out 1;have hfz14_2:=sJ BK325.out 2;have hfz14_3:=sJ BK325.out 3)|((with_reducible refine gate_callee (f:=46) rfl ?_);refine goesL_ (some 5) rfl rfl Try.func46 (by kernel_rfl) rfl #[.int .i64 a0_0,.int .i64 1,.int .i64 8] rfl (by (try simp only [sE,sH,sI]);first|done|rfl|(simp only [sG,sF];rfl)) ?_;(with_reducible refine (impl_within.calls a0_0 1 8 true _ A2.out).mono ?_);rintro e w' ⟨rfl,⟨nd,rfl⟩⟩;refine ⟨_,rfl,?_⟩)|(go_at_call 46;(with_reducible refine (impl_within.calls a0_1 0 1000000 false _ A4.out).mono ?_);rintro e w' ⟨rfl,⟨nd,rfl⟩⟩))
   go_ret
   exact ⟨by first|rfl|(simp [errW_none,errW_some] <;> rfl)|(simp [*,errW_none,errW_some] <;> rfl),by repeat (first|(with_reducible first|exact HB.out|apply qa8|apply qb8|apply qc8|refine qd8 ?_ GE325.out)|exact HB.out)⟩
 ·
  replace c3:=Bool.eq_false_iff.mpr c3
  subst c3
  have H1 : (some false) = some r:=by rw [if_neg (show ¬ (false = true) by decide)] at H;exact H
  clear H
  have H:=H1
  clear H1
  obtain rfl:=sO H
  go_enter Try.func48,Try.ntmps48
  go_wp2_with (first|((with_reducible refine gate_dst (N:=1) rfl ?_);refine box_event ?hg (N:=1) ?hd (cs:=#[.int .i64 a0_0,.int .i64 a0_1,.int .i64 a0_2,.int .i64 a0_3]) (t:=75) ?hr ?_;(case hd => rfl);(case hg => rfl);(case hr => first|(go_simp;done)|(go_simp;rfl));intro gb325 hg w15 hbox hb;have n0_:=qe8 (sN (by repeat (first|(with_reducible first|exact HB.out|apply qa8|apply qb8|apply qc8)|exact HB.out)) hb);have n1_:=qe8 (hbox);have n2_:=qe8 ((by rw [hg];exact (below_size (by repeat (first|(with_reducible first|exact HB.out|apply qa8|apply qb8|apply qc8)|exact HB.out))) : w.heap.size ≤ gb325));have n3_:=qe8 ((by rw [hg];exact (below_size (by repeat (first|(with_reducible first|exact HB.out|apply qa8|apply qb8|apply qc8)|exact HB.out))) : w.heap.size ≤ gb325));clear HB;have HB:=n0_;have BK325:=n1_;have GW325:=n2_;have GE325:=n3_;clear n0_ n1_ n2_ n3_;clear hb hbox hg;have hcz16_0 : w15.cell? ⟨gb325,0,none⟩ = some (.int .i64 a0_0):=(blk_cell BK325.out 0).trans rfl;have hcz16_1 : w15.cell? ⟨gb325,1,none⟩ = some (.int .i64 a0_1):=(blk_cell BK325.out 1).trans rfl;have hcz16_2 : w15.cell? ⟨gb325,2,none⟩ = some (.int .i64 a0_2):=(blk_cell BK325.out 2).trans rfl;have hcz16_3 : w15.cell? ⟨gb325,3,none⟩ = some (.int .i64 a0_3):=(blk_cell BK325.out 3).trans rfl;have hfz16_0:=sJ BK325.out 0;have hfz16_1:=sJ BK325.out 1;have hfz16_2:=sJ BK325.out 2;have hfz16_3:=sJ BK325.out 3)|((with_reducible refine gate_callee (f:=46) rfl ?_);refine goesL_ (some 5) rfl rfl Try.func46 (by kernel_rfl) rfl #[.int .i64 a0_0,.int .i64 1,.int .i64 8] rfl (by (try simp only [sE,sH,sI]);first|done|rfl|(simp only [sG,sF];rfl)) ?_;(with_reducible refine (impl_within.calls a0_0 1 8 false _ A2.out).mono ?_);rintro e w' ⟨rfl,⟨nd,rfl⟩⟩;refine ⟨_,rfl,?_⟩))
  go_ret
  exact ⟨by first|rfl|(simp [errW_none,errW_some] <;> rfl)|(simp [*,errW_none,errW_some] <;> rfl),by repeat (first|(with_reducible first|exact HB.out|apply qa8|apply qb8|apply qc8|refine qd8 ?_ GE325.out)|exact HB.out)⟩

/-! ### impl_isLetter: function 126 -/
def impl_isLetter.f (a0 : Int) : Option (Bool):=if a0 ≥ 97 then (if a0 ≤ 122 then (some true) else (if a0 ≥ 65 then (if a0 ≤ 90 then (some true) else (some (a0 == 95))) else (some (a0 == 95)))) else (if a0 ≥ 65 then (if a0 ≤ 90 then (some true) else (some (a0 == 95))) else (some (a0 == 95)))
set_option maxHeartbeats 8000000 in
set_option maxRecDepth 100000 in
theorem impl_isLetter.calls (a0 : Int) (r : Bool) (w : World) (h : impl_isLetter.f a0 = some r) :
  Calls Try.prog 126 #[.int .u8 a0] w fun e w' => e = .returned (.bool r) ∧ Drawn0 w w':=by
 have H : (if a0 ≥ 97 then (if a0 ≤ 122 then (some true) else (if a0 ≥ 65 then (if a0 ≤ 90 then (some true) else (some (a0 == 95))) else (some (a0 == 95)))) else (if a0 ≥ 65 then (if a0 ≤ 90 then (some true) else (some (a0 == 95))) else (some (a0 == 95)))) = some r:=h
 clear h
 by_cases c2 : a0 ≥ 97
 ·
  rw [if_pos c2] at H
  have c2b0 : decide (97 ≤ a0) = true:=decide_eq_true c2
  clear c2
  by_cases c3 : a0 ≤ 122
  ·
   rw [if_pos c3] at H
   have c3b0 : decide (a0 ≤ 122) = true:=decide_eq_true c3
   clear c3
   obtain rfl:=sO H
   go_enter Try.func126,Try.ntmps126
   go_wp2
   go_ret
   exact ⟨by first|rfl|(simp;done)|(simp [*];done),by repeat (first|exact Drawn0.refl _|apply Drawn0.step)⟩
  ·
   rw [if_neg c3] at H
   have c3b0 : decide (a0 ≤ 122) = false:=decide_eq_false c3
   clear c3
   by_cases c4 : a0 ≥ 65
   ·
    rw [if_pos c4] at H
    have c4b0 : decide (65 ≤ a0) = true:=decide_eq_true c4
    clear c4
    by_cases c5 : a0 ≤ 90
    ·
     rw [if_pos c5] at H
     have c5b0 : decide (a0 ≤ 90) = true:=decide_eq_true c5
     clear c5
     obtain rfl:=sO H
     go_enter Try.func126,Try.ntmps126
     go_wp2
     go_ret
     exact ⟨by first|rfl|(simp;done)|(simp [*];done),by repeat (first|exact Drawn0.refl _|apply Drawn0.step)⟩
    ·
     rw [if_neg c5] at H
     have c5b0 : decide (a0 ≤ 90) = false:=decide_eq_false c5
     clear c5
     obtain rfl:=sO H
     go_enter Try.func126,Try.ntmps126
     go_wp2
     go_ret
     exact ⟨by first|rfl|(simp;done)|(simp [*];done),by repeat (first|exact Drawn0.refl _|apply Drawn0.step)⟩
   ·
    rw [if_neg c4] at H
    have c4b0 : decide (65 ≤ a0) = false:=decide_eq_false c4
    clear c4
    obtain rfl:=sO H
    go_enter Try.func126,Try.ntmps126
    go_wp2
    go_ret
    exact ⟨by first|rfl|(simp;done)|(simp [*];done),by repeat (first|exact Drawn0.refl _|apply Drawn0.step)⟩
 ·
  rw [if_neg c2] at H
  have c2b0 : decide (97 ≤ a0) = false:=decide_eq_false c2
  clear c2
  by_cases c6 : a0 ≥ 65
  ·
   rw [if_pos c6] at H
   have c6b0 : decide (65 ≤ a0) = true:=decide_eq_true c6
   clear c6
   by_cases c7 : a0 ≤ 90
   ·
    rw [if_pos c7] at H
    have c7b0 : decide (a0 ≤ 90) = true:=decide_eq_true c7
    clear c7
    obtain rfl:=sO H
    go_enter Try.func126,Try.ntmps126
    go_wp2
    go_ret
    exact ⟨by first|rfl|(simp;done)|(simp [*];done),by repeat (first|exact Drawn0.refl _|apply Drawn0.step)⟩
   ·
    rw [if_neg c7] at H
    have c7b0 : decide (a0 ≤ 90) = false:=decide_eq_false c7
    clear c7
    obtain rfl:=sO H
    go_enter Try.func126,Try.ntmps126
    go_wp2
    go_ret
    exact ⟨by first|rfl|(simp;done)|(simp [*];done),by repeat (first|exact Drawn0.refl _|apply Drawn0.step)⟩
  ·
   rw [if_neg c6] at H
   have c6b0 : decide (65 ≤ a0) = false:=decide_eq_false c6
   clear c6
   obtain rfl:=sO H
   go_enter Try.func126,Try.ntmps126
   go_wp2
   go_ret
   exact ⟨by first|rfl|(simp;done)|(simp [*];done),by repeat (first|exact Drawn0.refl _|apply Drawn0.step)⟩

end Go.Proofs.Ytjkanhjapddhnaa.PFnExactSameTable
