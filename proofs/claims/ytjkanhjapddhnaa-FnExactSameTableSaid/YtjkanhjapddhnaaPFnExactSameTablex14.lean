-- laid by this session's program myprint.py over the kit's printer
-- squeezed
-- aliased
import Derived.Test.YtjkanhjapddhnaaPFnExactSameTablex0
import Derived.Test.YtjkanhjapddhnaaPFnExactSameTablex1
import Derived.Test.YtjkanhjapddhnaaPFnExactSameTablex4
import Derived.Test.YtjkanhjapddhnaaPFnExactSameTablex8
import Derived.Test.YtjkanhjapddhnaaPFnExactSameTablex13
namespace Go.Proofs.Ytjkanhjapddhnaa.PFnExactSameTable
open Go.RowKit Go.Proofs.YtjkanhjapddhnaaV.PrintWords Go.Proofs.YtjkanhjapddhnaaV.PrintLast Go.Proofs.YtjkanhjapddhnaaV.PrintMore
attribute [local go_sem] max2_int min2_int max_two min_two max_three min_three max_four min_four u8_wm u32_wm   -- for this text's walks alone
set_option linter.unusedVariables false
set_option linter.unusedSimpArgs false

/-! ### laws_FnExactSameTable: function 4 -/
theorem qa14 : type_of% @blk_drewN:=@blk_drewN
theorem qb14 : type_of% @blk_drew:=@blk_drew
theorem qc14 : type_of% @blk_alloc:=@blk_alloc
theorem qd14 : type_of% @Kd.R_alloc:=@Kd.R_alloc
theorem qe14 : type_of% @Kd.R_drewN:=@Kd.R_drewN
theorem qf14 : type_of% @Kd.R_drew:=@Kd.R_drew
theorem qg14 : type_of% @below_alloc:=@below_alloc
theorem qh14 : type_of% @pw_below_drewN:=@pw_below_drewN
theorem qi14 : type_of% @below_drew1:=@below_drew1
theorem qj14 : type_of% @below_set:=@below_set
theorem qk14 : type_of% @Aside0.mk:=@Aside0.mk
theorem ql14 : type_of% @blk_below:=@blk_below
theorem qm14 : type_of% @below_size:=@below_size
theorem qn14 : type_of% @Kd.R_far:=@Kd.R_far
def laws_FnExactSameTable.j0 : Nat → Bool → Int → Int → List (S110) → List (S116) → Int → Int → List (S110) → List (S116) → Int → Int → List (S70) → List (S77) → Int → Int → List (S70) → List (S77) → Option (Bool)
 | 0,_,_,_,_,_,_,_,_,_,_,_,_,_,_,_,_,_ => none
 | k + 1,x47,x370000,x370001,x370002,x370003,x371000,x371001,x371002,x371003,x400000,x400001,x400002,x400003,x409000,x409001,x409002,x409003 => if x47 = true then (some false) else ((laws_toTable.f k x370000 x370001 x370002 x370003).bind fun bt411 => ((laws_eqTable.f k x400000 x400001 x400002 x400003 bt411.1 bt411.2.1 bt411.2.2.1 bt411.2.2.2).bind fun t419 => (if t419 = true then ((laws_toTable.f k x371000 x371001 x371002 x371003).bind fun bt420 => ((laws_eqTable.f k x409000 x409001 x409002 x409003 bt420.1 bt420.2.1 bt420.2.2.1 bt420.2.2.2).bind fun t428 => (if t428 = true then (some true) else (some false)))) else (some false))))
def laws_FnExactSameTable.f (k : Nat) (a0_0 : Int) (a0_1 : Int) (l0_2 : List (S110)) (l0_3 : List (S116)) (a1_0 : Int) (a1_1 : Int) (l1_2 : List (S110)) (l1_3 : List (S116)) : Option (Bool):=(laws_szTable.f k a0_0 a0_1 l0_2 l0_3 1048576).bind fun t371 => (if t371 < 0 then (some true) else ((laws_szTable.f k a1_0 a1_1 l1_2 l1_3 t371).bind fun t372 => (if t372 < 0 then (some true) else ((laws_toTable.f k a0_0 a0_1 l0_2 l0_3).bind fun bt373 => ((laws_toTable.f k a1_0 a1_1 l1_2 l1_3).bind fun bt381 => ((spec_SameTable.f k bt373.1 bt373.2.1 bt373.2.2.1 bt373.2.2.2 bt381.1 bt381.2.1 bt381.2.2.1 bt381.2.2.2).bind fun bt389 => ((laws_toTable.f k a0_0 a0_1 l0_2 l0_3).bind fun bt391 => ((laws_toTable.f k a1_0 a1_1 l1_2 l1_3).bind fun bt400 => ((impl_SameTable.f k bt391.1 bt391.2.1 bt391.2.2.1 bt391.2.2.2 bt400.1 bt400.2.1 bt400.2.2.1 bt400.2.2.2).bind fun bt409 => (if (bt409.1 != bt389.1) = true then (laws_FnExactSameTable.j0 k true a0_0 a0_1 l0_2 l0_3 a1_0 a1_1 l1_2 l1_3 bt391.1 bt391.2.1 bt391.2.2.1 bt391.2.2.2 bt400.1 bt400.2.1 bt400.2.2.1 bt400.2.2.2) else (laws_FnExactSameTable.j0 k (bt409.2 != bt389.2) a0_0 a0_1 l0_2 l0_3 a1_0 a1_1 l1_2 l1_3 bt391.1 bt391.2.1 bt391.2.2.1 bt391.2.2.2 bt400.1 bt400.2.1 bt400.2.2.1 bt400.2.2.2)))))))))))
def laws_FnExactSameTable.T8 : Bool × List (List Nat × List Nat):=(true,[([],[]),([0],[0]),([],[]),([2,1],[2]),([1,3,3],[1,3]),([4],[4]),([5],[5]),([5],[5]),([6,4,0,1,2,3,4,5,6],[6]),([7,8,0,1,2,3,4,5,6,7,8],[7])])
def laws_FnExactSameTable.B8 : List Nat:=[0,1,0,7,15,31,63,63,127,511]
theorem laws_FnExactSameTable.tab8 : rtab .any (opsOf Try.f4 8) = laws_FnExactSameTable.T8:=by kernel_rfl
theorem laws_FnExactSameTable.bits8 : waitsOk laws_FnExactSameTable.T8.2 laws_FnExactSameTable.B8 = true:=by kernel_rfl
set_option maxHeartbeats 8000000 in
set_option maxRecDepth 100000 in
theorem laws_FnExactSameTable.calls (k : Nat) (a0_0 : Int) (a0_1 : Int) (A0_2 : Option Addr) (c0_2 : Nat) (l0_2 : List (S110)) (A0_3 : Option Addr) (c0_3 : Nat) (l0_3 : List (S116)) (a1_0 : Int) (a1_1 : Int) (A1_2 : Option Addr) (c1_2 : Nat) (l1_2 : List (S110)) (A1_3 : Option Addr) (c1_3 : Nat) (l1_3 : List (S116)) (r : Bool) (w : World) (hr0_2 : Kd.C k110 w A0_2 l0_2.length l0_2) (hc0_2 : l0_2.length ≤ c0_2) (hr0_3 : Kd.C k116 w A0_3 l0_3.length l0_3) (hc0_3 : l0_3.length ≤ c0_3) (hr1_2 : Kd.C k110 w A1_2 l1_2.length l1_2) (hc1_2 : l1_2.length ≤ c1_2) (hr1_3 : Kd.C k116 w A1_3 l1_3.length l1_3) (hc1_3 : l1_3.length ≤ c1_3) (hr_ : r = true) (h : laws_FnExactSameTable.f k a0_0 a0_1 l0_2 l0_3 a1_0 a1_1 l1_2 l1_3 = some r) :
  Calls Try.prog 4 #[.agg #[.int .i64 a0_0,.int .i64 a0_1,.slice A0_2 l0_2.length c0_2,.slice A0_3 l0_3.length c0_3],.agg #[.int .i64 a1_0,.int .i64 a1_1,.slice A1_2 l1_2.length c1_2,.slice A1_3 l1_3.length c1_3]] w fun e w' => e = .returned (.bool r) ∧ Below w.heap.size w w':=by
 have hu25:=Try.underlying25
 have hu31:=Try.underlying31
 have HR0_2:=qk14 hr0_2
 have HC0_2:=qk14 hc0_2
 clear hr0_2 hc0_2
 have HR0_3:=qk14 hr0_3
 have HC0_3:=qk14 hc0_3
 clear hr0_3 hc0_3
 have HR1_2:=qk14 hr1_2
 have HC1_2:=qk14 hc1_2
 clear hr1_2 hc1_2
 have HR1_3:=qk14 hr1_3
 have HC1_3:=qk14 hc1_3
 clear hr1_3 hc1_3
 have HB:=qk14 (Below.refl w.heap.size w)
 have H : ((laws_szTable.f k a0_0 a0_1 l0_2 l0_3 1048576).bind fun t371 => (if t371 < 0 then (some true) else ((laws_szTable.f k a1_0 a1_1 l1_2 l1_3 t371).bind fun t372 => (if t372 < 0 then (some true) else ((laws_toTable.f k a0_0 a0_1 l0_2 l0_3).bind fun bt373 => ((laws_toTable.f k a1_0 a1_1 l1_2 l1_3).bind fun bt381 => ((spec_SameTable.f k bt373.1 bt373.2.1 bt373.2.2.1 bt373.2.2.2 bt381.1 bt381.2.1 bt381.2.2.1 bt381.2.2.2).bind fun bt389 => ((laws_toTable.f k a0_0 a0_1 l0_2 l0_3).bind fun bt391 => ((laws_toTable.f k a1_0 a1_1 l1_2 l1_3).bind fun bt400 => ((impl_SameTable.f k bt391.1 bt391.2.1 bt391.2.2.1 bt391.2.2.2 bt400.1 bt400.2.1 bt400.2.2.1 bt400.2.2.2).bind fun bt409 => (if (bt409.1 != bt389.1) = true then (laws_FnExactSameTable.j0 k true a0_0 a0_1 l0_2 l0_3 a1_0 a1_1 l1_2 l1_3 bt391.1 bt391.2.1 bt391.2.2.1 bt391.2.2.2 bt400.1 bt400.2.1 bt400.2.2.1 bt400.2.2.2) else (laws_FnExactSameTable.j0 k (bt409.2 != bt389.2) a0_0 a0_1 l0_2 l0_3 a1_0 a1_1 l1_2 l1_3 bt391.1 bt391.2.1 bt391.2.2.1 bt391.2.2.2 bt400.1 bt400.2.1 bt400.2.2.1 bt400.2.2.2)))))))))))) = some r:=h
 clear h
 replace H:=Option.bind_eq_some_iff.mp H
 obtain ⟨t371,A30,H⟩:=H
 replace H : (if t371 < 0 then (some true) else ((laws_szTable.f k a1_0 a1_1 l1_2 l1_3 t371).bind fun t372 => (if t372 < 0 then (some true) else ((laws_toTable.f k a0_0 a0_1 l0_2 l0_3).bind fun bt373 => ((laws_toTable.f k a1_0 a1_1 l1_2 l1_3).bind fun bt381 => ((spec_SameTable.f k bt373.1 bt373.2.1 bt373.2.2.1 bt373.2.2.2 bt381.1 bt381.2.1 bt381.2.2.1 bt381.2.2.2).bind fun bt389 => ((laws_toTable.f k a0_0 a0_1 l0_2 l0_3).bind fun bt391 => ((laws_toTable.f k a1_0 a1_1 l1_2 l1_3).bind fun bt400 => ((impl_SameTable.f k bt391.1 bt391.2.1 bt391.2.2.1 bt391.2.2.2 bt400.1 bt400.2.1 bt400.2.2.1 bt400.2.2.2).bind fun bt409 => (if (bt409.1 != bt389.1) = true then (laws_FnExactSameTable.j0 k true a0_0 a0_1 l0_2 l0_3 a1_0 a1_1 l1_2 l1_3 bt391.1 bt391.2.1 bt391.2.2.1 bt391.2.2.2 bt400.1 bt400.2.1 bt400.2.2.1 bt400.2.2.2) else (laws_FnExactSameTable.j0 k (bt409.2 != bt389.2) a0_0 a0_1 l0_2 l0_3 a1_0 a1_1 l1_2 l1_3 bt391.1 bt391.2.1 bt391.2.2.1 bt391.2.2.2 bt400.1 bt400.2.1 bt400.2.2.1 bt400.2.2.2))))))))))) = some r:=H
 have A3:=qk14 A30
 clear A30
 by_cases c4 : t371 < 0
 ·
  rw [if_pos c4] at H
  have c4b0 : decide (t371 < 0) = true:=decide_eq_true c4
  clear c4
  obtain rfl:=sO H
  go_enter Try.func4,Try.ntmps4
  go_wp2_with (first|((with_reducible refine gate_dst (N:=2) rfl ?_);refine box_event ?hg (N:=2) ?hd (cs:=#[.int .i64 a0_0,.int .i64 a0_1,.slice A0_2 l0_2.length c0_2,.slice A0_3 l0_3.length c0_3]) (t:=25) ?hr ?_;(case hd => rfl);(case hg => rfl);(case hr => first|(go_simp;done)|(go_simp;rfl));intro gb369 hg w5 hbox hb;have n0_:=qk14 (sN (by repeat (first|(with_reducible first|exact HB.out|apply qg14|apply qh14|apply qi14)|exact HB.out)) hb);have n1_:=qk14 (hbox);have n2_:=qk14 ((by rw [hg];exact (qm14 (by repeat (first|(with_reducible first|exact HB.out|apply qg14|apply qh14|apply qi14)|exact HB.out))) : w.heap.size ≤ gb369));have n3_:=qk14 ((by rw [hg];exact (qm14 (by repeat (first|(with_reducible first|exact HB.out|apply qg14|apply qh14|apply qi14)|exact HB.out))) : w.heap.size ≤ gb369));clear HB;have HB:=n0_;have BK369:=n1_;have GW369:=n2_;have GE369:=n3_;clear n0_ n1_ n2_ n3_;clear hb hbox hg)|((with_reducible refine gate_dst (N:=3) rfl ?_);refine box_event ?hg (N:=3) ?hd (cs:=#[.int .i64 a1_0,.int .i64 a1_1,.slice A1_2 l1_2.length c1_2,.slice A1_3 l1_3.length c1_3]) (t:=25) ?hr ?_;(case hd => rfl);(case hg => rfl);(case hr => first|(go_simp;done)|(go_simp;rfl));intro gb370 hg w6 hbox hb;have n0_:=qk14 (ql14 (g:=gb369) (o:=.cells #[.int .i64 a0_0,.int .i64 a0_1,.slice A0_2 l0_2.length c0_2,.slice A0_3 l0_3.length c0_3] 25 (0,0)) (by (with_reducible repeat (first|apply qa14|apply qb14|apply qc14));exact BK369.out) hb);have n1_:=qk14 (sN (by repeat (first|(with_reducible first|exact HB.out|apply qg14|apply qh14|apply qi14|refine qj14 ?_ GE369.out)|exact HB.out)) hb);have n2_:=qk14 (hbox);have n3_:=qk14 ((by rw [hg];exact (qm14 (by repeat (first|(with_reducible first|exact HB.out|apply qg14|apply qh14|apply qi14|refine qj14 ?_ GE369.out)|exact HB.out))) : w.heap.size ≤ gb370));have n4_:=qk14 ((by rw [hg];exact (qm14 (by repeat (first|(with_reducible first|exact HB.out|apply qg14|apply qh14|apply qi14|refine qj14 ?_ GE369.out)|exact HB.out))) : w.heap.size ≤ gb370));have n5_:=qk14 ((by rw [hg];exact Nat.ne_of_lt (blk_lt (g:=gb369) (o:=.cells #[.int .i64 a0_0,.int .i64 a0_1,.slice A0_2 l0_2.length c0_2,.slice A0_3 l0_3.length c0_3] 25 (0,0)) (by (with_reducible repeat (first|apply qa14|apply qb14|apply qc14));exact BK369.out)) : gb369 ≠ gb370));have n6_:=qk14 ((by rw [hg];exact Nat.ne_of_gt (blk_lt (g:=gb369) (o:=.cells #[.int .i64 a0_0,.int .i64 a0_1,.slice A0_2 l0_2.length c0_2,.slice A0_3 l0_3.length c0_3] 25 (0,0)) (by (with_reducible repeat (first|apply qa14|apply qb14|apply qc14));exact BK369.out)) : gb370 ≠ gb369));clear BK369;clear HB;have BK369:=n0_;have HB:=n1_;have BK370:=n2_;have GW370:=n3_;have GE370:=n4_;have NB369_370:=n5_;have NB370_369:=n6_;clear n0_ n1_ n2_ n3_ n4_ n5_ n6_;clear hb hbox hg;have hnb7:=NB369_370.out;have hnc7:=NB370_369.out;have hcz8_0 : w6.cell? ⟨gb369,0,none⟩ = some (.int .i64 a0_0):=(blk_cell BK369.out 0).trans rfl;have hcz8_1 : w6.cell? ⟨gb369,1,none⟩ = some (.int .i64 a0_1):=(blk_cell BK369.out 1).trans rfl;have hcz8_2 : w6.cell? ⟨gb369,2,none⟩ = some (.slice A0_2 l0_2.length c0_2):=(blk_cell BK369.out 2).trans rfl;have hcz8_3 : w6.cell? ⟨gb369,3,none⟩ = some (.slice A0_3 l0_3.length c0_3):=(blk_cell BK369.out 3).trans rfl;have hfz8_0:=sJ BK369.out 0;have hfz8_1:=sJ BK369.out 1;have hfz8_2:=sJ BK369.out 2;have hfz8_3:=sJ BK369.out 3)|((with_reducible refine gate_callee (f:=8) rfl ?_);refine goesL_ (some 14) rfl rfl Try.func8 (by kernel_rfl) rfl #[.agg #[.int .i64 a0_0,.int .i64 a0_1,.slice A0_2 l0_2.length c0_2,.slice A0_3 l0_3.length c0_3],.int .i64 1048576] rfl (by (try simp only [sE,sH,sI]);first|done|rfl|(simp only [sG,sF];rfl)) ?_;(with_reducible refine (laws_szTable.calls k a0_0 a0_1 _ _ l0_2 _ _ l0_3 1048576 t371 _ ?side1 ?side2 ?side3 ?side4 A3.out).mono ?_);(case side1 => repeat (first|exact (Kd.C_below HR0_2.out HB.out)|(with_reducible refine Kd.C_alloc ?_ _)|(with_reducible refine Kd.C_drewN ?_ _)|(with_reducible refine Kd.C_drew ?_)));(case side2 => exact HC0_2.out);(case side3 => repeat (first|exact (Kd.C_below HR0_3.out HB.out)|(with_reducible refine Kd.C_alloc ?_ _)|(with_reducible refine Kd.C_drewN ?_ _)|(with_reducible refine Kd.C_drew ?_)));(case side4 => exact HC0_3.out);rintro e w9 ⟨rfl,hb⟩;refine ⟨_,rfl,?_⟩;have n0_:=qk14 (ql14 (g:=gb369) (o:=.cells #[.int .i64 a0_0,.int .i64 a0_1,.slice A0_2 l0_2.length c0_2,.slice A0_3 l0_3.length c0_3] 25 (0,0)) (by (with_reducible repeat (first|apply qa14|apply qb14|apply qc14));exact BK369.out) hb);have n1_:=qk14 (ql14 (g:=gb370) (o:=.cells #[.int .i64 a1_0,.int .i64 a1_1,.slice A1_2 l1_2.length c1_2,.slice A1_3 l1_3.length c1_3] 25 (0,0)) (by (with_reducible repeat (first|apply qa14|apply qb14|apply qc14));exact BK370.out) hb);have n2_:=qk14 (sN (by repeat (first|(with_reducible first|exact HB.out|apply qg14|apply qh14|apply qi14|refine qj14 ?_ GE369.out|refine qj14 ?_ GE370.out)|exact HB.out)) hb);clear BK369;clear BK370;clear HB;have BK369:=n0_;have BK370:=n1_;have HB:=n2_;clear n0_ n1_ n2_;(try clear hb);(try clear hb2);(try clear hk);(try clear hi)))
  go_ret
  exact ⟨by first|rfl|(simp [errW_none,errW_some] <;> rfl)|(simp [*,errW_none,errW_some] <;> rfl),by repeat (first|(with_reducible first|exact HB.out|apply qg14|apply qh14|apply qi14|refine qj14 ?_ GE369.out|refine qj14 ?_ GE370.out)|exact HB.out)⟩
 ·
  rw [if_neg c4] at H
  have c4b0 : decide (t371 < 0) = false:=decide_eq_false c4
  clear c4
  replace H:=Option.bind_eq_some_iff.mp H
  obtain ⟨t372,A100,H⟩:=H
  replace H : (if t372 < 0 then (some true) else ((laws_toTable.f k a0_0 a0_1 l0_2 l0_3).bind fun bt373 => ((laws_toTable.f k a1_0 a1_1 l1_2 l1_3).bind fun bt381 => ((spec_SameTable.f k bt373.1 bt373.2.1 bt373.2.2.1 bt373.2.2.2 bt381.1 bt381.2.1 bt381.2.2.1 bt381.2.2.2).bind fun bt389 => ((laws_toTable.f k a0_0 a0_1 l0_2 l0_3).bind fun bt391 => ((laws_toTable.f k a1_0 a1_1 l1_2 l1_3).bind fun bt400 => ((impl_SameTable.f k bt391.1 bt391.2.1 bt391.2.2.1 bt391.2.2.2 bt400.1 bt400.2.1 bt400.2.2.1 bt400.2.2.2).bind fun bt409 => (if (bt409.1 != bt389.1) = true then (laws_FnExactSameTable.j0 k true a0_0 a0_1 l0_2 l0_3 a1_0 a1_1 l1_2 l1_3 bt391.1 bt391.2.1 bt391.2.2.1 bt391.2.2.2 bt400.1 bt400.2.1 bt400.2.2.1 bt400.2.2.2) else (laws_FnExactSameTable.j0 k (bt409.2 != bt389.2) a0_0 a0_1 l0_2 l0_3 a1_0 a1_1 l1_2 l1_3 bt391.1 bt391.2.1 bt391.2.2.1 bt391.2.2.2 bt400.1 bt400.2.1 bt400.2.2.1 bt400.2.2.2))))))))) = some r:=H
  have A10:=qk14 A100
  clear A100
  by_cases c11 : t372 < 0
  ·
   rw [if_pos c11] at H
   have c11b0 : decide (t372 < 0) = true:=decide_eq_true c11
   clear c11
   obtain rfl:=sO H
   go_enter Try.func4,Try.ntmps4
   go_wp2_with (first|((with_reducible refine gate_dst (N:=2) rfl ?_);refine box_event ?hg (N:=2) ?hd (cs:=#[.int .i64 a0_0,.int .i64 a0_1,.slice A0_2 l0_2.length c0_2,.slice A0_3 l0_3.length c0_3]) (t:=25) ?hr ?_;(case hd => rfl);(case hg => rfl);(case hr => first|(go_simp;done)|(go_simp;rfl));intro gb369 hg w12 hbox hb;have n0_:=qk14 (sN (by repeat (first|(with_reducible first|exact HB.out|apply qg14|apply qh14|apply qi14)|exact HB.out)) hb);have n1_:=qk14 (hbox);have n2_:=qk14 ((by rw [hg];exact (qm14 (by repeat (first|(with_reducible first|exact HB.out|apply qg14|apply qh14|apply qi14)|exact HB.out))) : w.heap.size ≤ gb369));have n3_:=qk14 ((by rw [hg];exact (qm14 (by repeat (first|(with_reducible first|exact HB.out|apply qg14|apply qh14|apply qi14)|exact HB.out))) : w.heap.size ≤ gb369));clear HB;have HB:=n0_;have BK369:=n1_;have GW369:=n2_;have GE369:=n3_;clear n0_ n1_ n2_ n3_;clear hb hbox hg)|((with_reducible refine gate_dst (N:=3) rfl ?_);refine box_event ?hg (N:=3) ?hd (cs:=#[.int .i64 a1_0,.int .i64 a1_1,.slice A1_2 l1_2.length c1_2,.slice A1_3 l1_3.length c1_3]) (t:=25) ?hr ?_;(case hd => rfl);(case hg => rfl);(case hr => first|(go_simp;done)|(go_simp;rfl));intro gb370 hg w13 hbox hb;have n0_:=qk14 (ql14 (g:=gb369) (o:=.cells #[.int .i64 a0_0,.int .i64 a0_1,.slice A0_2 l0_2.length c0_2,.slice A0_3 l0_3.length c0_3] 25 (0,0)) (by (with_reducible repeat (first|apply qa14|apply qb14|apply qc14));exact BK369.out) hb);have n1_:=qk14 (sN (by repeat (first|(with_reducible first|exact HB.out|apply qg14|apply qh14|apply qi14|refine qj14 ?_ GE369.out)|exact HB.out)) hb);have n2_:=qk14 (hbox);have n3_:=qk14 ((by rw [hg];exact (qm14 (by repeat (first|(with_reducible first|exact HB.out|apply qg14|apply qh14|apply qi14|refine qj14 ?_ GE369.out)|exact HB.out))) : w.heap.size ≤ gb370));have n4_:=qk14 ((by rw [hg];exact (qm14 (by repeat (first|(with_reducible first|exact HB.out|apply qg14|apply qh14|apply qi14|refine qj14 ?_ GE369.out)|exact HB.out))) : w.heap.size ≤ gb370));have n5_:=qk14 ((by rw [hg];exact Nat.ne_of_lt (blk_lt (g:=gb369) (o:=.cells #[.int .i64 a0_0,.int .i64 a0_1,.slice A0_2 l0_2.length c0_2,.slice A0_3 l0_3.length c0_3] 25 (0,0)) (by (with_reducible repeat (first|apply qa14|apply qb14|apply qc14));exact BK369.out)) : gb369 ≠ gb370));have n6_:=qk14 ((by rw [hg];exact Nat.ne_of_gt (blk_lt (g:=gb369) (o:=.cells #[.int .i64 a0_0,.int .i64 a0_1,.slice A0_2 l0_2.length c0_2,.slice A0_3 l0_3.length c0_3] 25 (0,0)) (by (with_reducible repeat (first|apply qa14|apply qb14|apply qc14));exact BK369.out)) : gb370 ≠ gb369));clear BK369;clear HB;have BK369:=n0_;have HB:=n1_;have BK370:=n2_;have GW370:=n3_;have GE370:=n4_;have NB369_370:=n5_;have NB370_369:=n6_;clear n0_ n1_ n2_ n3_ n4_ n5_ n6_;clear hb hbox hg;have hnb14:=NB369_370.out;have hnc14:=NB370_369.out;have hcz15_0 : w13.cell? ⟨gb369,0,none⟩ = some (.int .i64 a0_0):=(blk_cell BK369.out 0).trans rfl;have hcz15_1 : w13.cell? ⟨gb369,1,none⟩ = some (.int .i64 a0_1):=(blk_cell BK369.out 1).trans rfl;have hcz15_2 : w13.cell? ⟨gb369,2,none⟩ = some (.slice A0_2 l0_2.length c0_2):=(blk_cell BK369.out 2).trans rfl;have hcz15_3 : w13.cell? ⟨gb369,3,none⟩ = some (.slice A0_3 l0_3.length c0_3):=(blk_cell BK369.out 3).trans rfl;have hfz15_0:=sJ BK369.out 0;have hfz15_1:=sJ BK369.out 1;have hfz15_2:=sJ BK369.out 2;have hfz15_3:=sJ BK369.out 3)|((with_reducible refine gate_callee (f:=8) rfl ?_);refine goesL_ (some 14) rfl rfl Try.func8 (by kernel_rfl) rfl #[.agg #[.int .i64 a0_0,.int .i64 a0_1,.slice A0_2 l0_2.length c0_2,.slice A0_3 l0_3.length c0_3],.int .i64 1048576] rfl (by (try simp only [sE,sH,sI]);first|done|rfl|(simp only [sG,sF];rfl)) ?_;(with_reducible refine (laws_szTable.calls k a0_0 a0_1 _ _ l0_2 _ _ l0_3 1048576 t371 _ ?side1 ?side2 ?side3 ?side4 A3.out).mono ?_);(case side1 => repeat (first|exact (Kd.C_below HR0_2.out HB.out)|(with_reducible refine Kd.C_alloc ?_ _)|(with_reducible refine Kd.C_drewN ?_ _)|(with_reducible refine Kd.C_drew ?_)));(case side2 => exact HC0_2.out);(case side3 => repeat (first|exact (Kd.C_below HR0_3.out HB.out)|(with_reducible refine Kd.C_alloc ?_ _)|(with_reducible refine Kd.C_drewN ?_ _)|(with_reducible refine Kd.C_drew ?_)));(case side4 => exact HC0_3.out);rintro e w16 ⟨rfl,hb⟩;refine ⟨_,rfl,?_⟩;have n0_:=qk14 (ql14 (g:=gb369) (o:=.cells #[.int .i64 a0_0,.int .i64 a0_1,.slice A0_2 l0_2.length c0_2,.slice A0_3 l0_3.length c0_3] 25 (0,0)) (by (with_reducible repeat (first|apply qa14|apply qb14|apply qc14));exact BK369.out) hb);have n1_:=qk14 (ql14 (g:=gb370) (o:=.cells #[.int .i64 a1_0,.int .i64 a1_1,.slice A1_2 l1_2.length c1_2,.slice A1_3 l1_3.length c1_3] 25 (0,0)) (by (with_reducible repeat (first|apply qa14|apply qb14|apply qc14));exact BK370.out) hb);have n2_:=qk14 (sN (by repeat (first|(with_reducible first|exact HB.out|apply qg14|apply qh14|apply qi14|refine qj14 ?_ GE369.out|refine qj14 ?_ GE370.out)|exact HB.out)) hb);clear BK369;clear BK370;clear HB;have BK369:=n0_;have BK370:=n1_;have HB:=n2_;clear n0_ n1_ n2_;(try clear hb);(try clear hb2);(try clear hk);(try clear hi);have hcz17_0 : w16.cell? ⟨gb370,0,none⟩ = some (.int .i64 a1_0):=(blk_cell BK370.out 0).trans rfl;have hcz17_1 : w16.cell? ⟨gb370,1,none⟩ = some (.int .i64 a1_1):=(blk_cell BK370.out 1).trans rfl;have hcz17_2 : w16.cell? ⟨gb370,2,none⟩ = some (.slice A1_2 l1_2.length c1_2):=(blk_cell BK370.out 2).trans rfl;have hcz17_3 : w16.cell? ⟨gb370,3,none⟩ = some (.slice A1_3 l1_3.length c1_3):=(blk_cell BK370.out 3).trans rfl;have hfz17_0:=sJ BK370.out 0;have hfz17_1:=sJ BK370.out 1;have hfz17_2:=sJ BK370.out 2;have hfz17_3:=sJ BK370.out 3)|((with_reducible refine gate_callee (f:=8) rfl ?_);refine goesL_ (some 19) rfl rfl Try.func8 (by kernel_rfl) rfl #[.agg #[.int .i64 a1_0,.int .i64 a1_1,.slice A1_2 l1_2.length c1_2,.slice A1_3 l1_3.length c1_3],.int .i64 t371] rfl (by (try simp only [sE,sH,sI]);first|done|rfl|(simp only [sG,sF];rfl)) ?_;(with_reducible refine (laws_szTable.calls k a1_0 a1_1 _ _ l1_2 _ _ l1_3 t371 t372 _ ?side1 ?side2 ?side3 ?side4 A10.out).mono ?_);(case side1 => repeat (first|exact (Kd.C_below HR1_2.out HB.out)|(with_reducible refine Kd.C_alloc ?_ _)|(with_reducible refine Kd.C_drewN ?_ _)|(with_reducible refine Kd.C_drew ?_)));(case side2 => exact HC1_2.out);(case side3 => repeat (first|exact (Kd.C_below HR1_3.out HB.out)|(with_reducible refine Kd.C_alloc ?_ _)|(with_reducible refine Kd.C_drewN ?_ _)|(with_reducible refine Kd.C_drew ?_)));(case side4 => exact HC1_3.out);rintro e w18 ⟨rfl,hb⟩;refine ⟨_,rfl,?_⟩;have n0_:=qk14 (ql14 (g:=gb369) (o:=.cells #[.int .i64 a0_0,.int .i64 a0_1,.slice A0_2 l0_2.length c0_2,.slice A0_3 l0_3.length c0_3] 25 (0,0)) (by (with_reducible repeat (first|apply qa14|apply qb14|apply qc14));exact BK369.out) hb);have n1_:=qk14 (ql14 (g:=gb370) (o:=.cells #[.int .i64 a1_0,.int .i64 a1_1,.slice A1_2 l1_2.length c1_2,.slice A1_3 l1_3.length c1_3] 25 (0,0)) (by (with_reducible repeat (first|apply qa14|apply qb14|apply qc14));exact BK370.out) hb);have n2_:=qk14 (sN (by repeat (first|(with_reducible first|exact HB.out|apply qg14|apply qh14|apply qi14|refine qj14 ?_ GE369.out|refine qj14 ?_ GE370.out)|exact HB.out)) hb);clear BK369;clear BK370;clear HB;have BK369:=n0_;have BK370:=n1_;have HB:=n2_;clear n0_ n1_ n2_;(try clear hb);(try clear hb2);(try clear hk);(try clear hi)))
   go_ret
   exact ⟨by first|rfl|(simp [errW_none,errW_some] <;> rfl)|(simp [*,errW_none,errW_some] <;> rfl),by repeat (first|(with_reducible first|exact HB.out|apply qg14|apply qh14|apply qi14|refine qj14 ?_ GE369.out|refine qj14 ?_ GE370.out)|exact HB.out)⟩
  ·
   rw [if_neg c11] at H
   have c11b0 : decide (t372 < 0) = false:=decide_eq_false c11
   clear c11
   replace H:=Option.bind_eq_some_iff.mp H
   obtain ⟨⟨t373,t374,t375,t378⟩,A190,H⟩:=H
   replace H : ((laws_toTable.f k a1_0 a1_1 l1_2 l1_3).bind fun bt381 => ((spec_SameTable.f k t373 t374 t375 t378 bt381.1 bt381.2.1 bt381.2.2.1 bt381.2.2.2).bind fun bt389 => ((laws_toTable.f k a0_0 a0_1 l0_2 l0_3).bind fun bt391 => ((laws_toTable.f k a1_0 a1_1 l1_2 l1_3).bind fun bt400 => ((impl_SameTable.f k bt391.1 bt391.2.1 bt391.2.2.1 bt391.2.2.2 bt400.1 bt400.2.1 bt400.2.2.1 bt400.2.2.2).bind fun bt409 => (if (bt409.1 != bt389.1) = true then (laws_FnExactSameTable.j0 k true a0_0 a0_1 l0_2 l0_3 a1_0 a1_1 l1_2 l1_3 bt391.1 bt391.2.1 bt391.2.2.1 bt391.2.2.2 bt400.1 bt400.2.1 bt400.2.2.1 bt400.2.2.2) else (laws_FnExactSameTable.j0 k (bt409.2 != bt389.2) a0_0 a0_1 l0_2 l0_3 a1_0 a1_1 l1_2 l1_3 bt391.1 bt391.2.1 bt391.2.2.1 bt391.2.2.2 bt400.1 bt400.2.1 bt400.2.2.1 bt400.2.2.2))))))) = some r:=H
   have A19:=qk14 A190
   clear A190
   replace H:=Option.bind_eq_some_iff.mp H
   obtain ⟨⟨t381,t382,t383,t386⟩,A200,H⟩:=H
   replace H : ((spec_SameTable.f k t373 t374 t375 t378 t381 t382 t383 t386).bind fun bt389 => ((laws_toTable.f k a0_0 a0_1 l0_2 l0_3).bind fun bt391 => ((laws_toTable.f k a1_0 a1_1 l1_2 l1_3).bind fun bt400 => ((impl_SameTable.f k bt391.1 bt391.2.1 bt391.2.2.1 bt391.2.2.2 bt400.1 bt400.2.1 bt400.2.2.1 bt400.2.2.2).bind fun bt409 => (if (bt409.1 != bt389.1) = true then (laws_FnExactSameTable.j0 k true a0_0 a0_1 l0_2 l0_3 a1_0 a1_1 l1_2 l1_3 bt391.1 bt391.2.1 bt391.2.2.1 bt391.2.2.2 bt400.1 bt400.2.1 bt400.2.2.1 bt400.2.2.2) else (laws_FnExactSameTable.j0 k (bt409.2 != bt389.2) a0_0 a0_1 l0_2 l0_3 a1_0 a1_1 l1_2 l1_3 bt391.1 bt391.2.1 bt391.2.2.1 bt391.2.2.2 bt400.1 bt400.2.1 bt400.2.2.1 bt400.2.2.2)))))) = some r:=H
   have A20:=qk14 A200
   clear A200
   replace H:=Option.bind_eq_some_iff.mp H
   obtain ⟨⟨t389,t390⟩,A210,H⟩:=H
   replace H : ((laws_toTable.f k a0_0 a0_1 l0_2 l0_3).bind fun bt391 => ((laws_toTable.f k a1_0 a1_1 l1_2 l1_3).bind fun bt400 => ((impl_SameTable.f k bt391.1 bt391.2.1 bt391.2.2.1 bt391.2.2.2 bt400.1 bt400.2.1 bt400.2.2.1 bt400.2.2.2).bind fun bt409 => (if (bt409.1 != t389) = true then (laws_FnExactSameTable.j0 k true a0_0 a0_1 l0_2 l0_3 a1_0 a1_1 l1_2 l1_3 bt391.1 bt391.2.1 bt391.2.2.1 bt391.2.2.2 bt400.1 bt400.2.1 bt400.2.2.1 bt400.2.2.2) else (laws_FnExactSameTable.j0 k (bt409.2 != t390) a0_0 a0_1 l0_2 l0_3 a1_0 a1_1 l1_2 l1_3 bt391.1 bt391.2.1 bt391.2.2.1 bt391.2.2.2 bt400.1 bt400.2.1 bt400.2.2.1 bt400.2.2.2))))) = some r:=H
   have A21:=qk14 A210
   clear A210
   replace H:=Option.bind_eq_some_iff.mp H
   obtain ⟨⟨t391,t392,t393,t396⟩,A220,H⟩:=H
   replace H : ((laws_toTable.f k a1_0 a1_1 l1_2 l1_3).bind fun bt400 => ((impl_SameTable.f k t391 t392 t393 t396 bt400.1 bt400.2.1 bt400.2.2.1 bt400.2.2.2).bind fun bt409 => (if (bt409.1 != t389) = true then (laws_FnExactSameTable.j0 k true a0_0 a0_1 l0_2 l0_3 a1_0 a1_1 l1_2 l1_3 t391 t392 t393 t396 bt400.1 bt400.2.1 bt400.2.2.1 bt400.2.2.2) else (laws_FnExactSameTable.j0 k (bt409.2 != t390) a0_0 a0_1 l0_2 l0_3 a1_0 a1_1 l1_2 l1_3 t391 t392 t393 t396 bt400.1 bt400.2.1 bt400.2.2.1 bt400.2.2.2)))) = some r:=H
   have A22:=qk14 A220
   clear A220
   replace H:=Option.bind_eq_some_iff.mp H
   obtain ⟨⟨t400,t401,t402,t405⟩,A230,H⟩:=H
   replace H : ((impl_SameTable.f k t391 t392 t393 t396 t400 t401 t402 t405).bind fun bt409 => (if (bt409.1 != t389) = true then (laws_FnExactSameTable.j0 k true a0_0 a0_1 l0_2 l0_3 a1_0 a1_1 l1_2 l1_3 t391 t392 t393 t396 t400 t401 t402 t405) else (laws_FnExactSameTable.j0 k (bt409.2 != t390) a0_0 a0_1 l0_2 l0_3 a1_0 a1_1 l1_2 l1_3 t391 t392 t393 t396 t400 t401 t402 t405))) = some r:=H
   have A23:=qk14 A230
   clear A230
   replace H:=Option.bind_eq_some_iff.mp H
   obtain ⟨⟨t409,t410⟩,A240,H⟩:=H
   replace H : (if (t409 != t389) = true then (laws_FnExactSameTable.j0 k true a0_0 a0_1 l0_2 l0_3 a1_0 a1_1 l1_2 l1_3 t391 t392 t393 t396 t400 t401 t402 t405) else (laws_FnExactSameTable.j0 k (t410 != t390) a0_0 a0_1 l0_2 l0_3 a1_0 a1_1 l1_2 l1_3 t391 t392 t393 t396 t400 t401 t402 t405)) = some r:=H
   have A24:=qk14 A240
   clear A240
   have HC25:=qk14 H
   clear H
   go_enter Try.func4,Try.ntmps4
   try go_wp2_with (first|((with_reducible refine gate_dst (N:=2) rfl ?_);refine box_event ?hg (N:=2) ?hd (cs:=#[.int .i64 a0_0,.int .i64 a0_1,.slice A0_2 l0_2.length c0_2,.slice A0_3 l0_3.length c0_3]) (t:=25) ?hr ?_;(case hd => rfl);(case hg => rfl);(case hr => first|(go_simp;done)|(go_simp;rfl));intro gb369 hg w26 hbox hb;have n0_:=qk14 (sN (by repeat (first|(with_reducible first|exact HB.out|apply qg14|apply qh14|apply qi14)|exact HB.out)) hb);have n1_:=qk14 (hbox);have n2_:=qk14 ((by rw [hg];exact (qm14 (by repeat (first|(with_reducible first|exact HB.out|apply qg14|apply qh14|apply qi14)|exact HB.out))) : w.heap.size ≤ gb369));have n3_:=qk14 ((by rw [hg];exact (qm14 (by repeat (first|(with_reducible first|exact HB.out|apply qg14|apply qh14|apply qi14)|exact HB.out))) : w.heap.size ≤ gb369));clear HB;have HB:=n0_;have BK369:=n1_;have GW369:=n2_;have GE369:=n3_;clear n0_ n1_ n2_ n3_;clear hb hbox hg)|((with_reducible refine gate_dst (N:=3) rfl ?_);refine box_event ?hg (N:=3) ?hd (cs:=#[.int .i64 a1_0,.int .i64 a1_1,.slice A1_2 l1_2.length c1_2,.slice A1_3 l1_3.length c1_3]) (t:=25) ?hr ?_;(case hd => rfl);(case hg => rfl);(case hr => first|(go_simp;done)|(go_simp;rfl));intro gb370 hg w27 hbox hb;have n0_:=qk14 (ql14 (g:=gb369) (o:=.cells #[.int .i64 a0_0,.int .i64 a0_1,.slice A0_2 l0_2.length c0_2,.slice A0_3 l0_3.length c0_3] 25 (0,0)) (by (with_reducible repeat (first|apply qa14|apply qb14|apply qc14));exact BK369.out) hb);have n1_:=qk14 (sN (by repeat (first|(with_reducible first|exact HB.out|apply qg14|apply qh14|apply qi14|refine qj14 ?_ GE369.out)|exact HB.out)) hb);have n2_:=qk14 (hbox);have n3_:=qk14 ((by rw [hg];exact (qm14 (by repeat (first|(with_reducible first|exact HB.out|apply qg14|apply qh14|apply qi14|refine qj14 ?_ GE369.out)|exact HB.out))) : w.heap.size ≤ gb370));have n4_:=qk14 ((by rw [hg];exact (qm14 (by repeat (first|(with_reducible first|exact HB.out|apply qg14|apply qh14|apply qi14|refine qj14 ?_ GE369.out)|exact HB.out))) : w.heap.size ≤ gb370));have n5_:=qk14 ((by rw [hg];exact Nat.ne_of_lt (blk_lt (g:=gb369) (o:=.cells #[.int .i64 a0_0,.int .i64 a0_1,.slice A0_2 l0_2.length c0_2,.slice A0_3 l0_3.length c0_3] 25 (0,0)) (by (with_reducible repeat (first|apply qa14|apply qb14|apply qc14));exact BK369.out)) : gb369 ≠ gb370));have n6_:=qk14 ((by rw [hg];exact Nat.ne_of_gt (blk_lt (g:=gb369) (o:=.cells #[.int .i64 a0_0,.int .i64 a0_1,.slice A0_2 l0_2.length c0_2,.slice A0_3 l0_3.length c0_3] 25 (0,0)) (by (with_reducible repeat (first|apply qa14|apply qb14|apply qc14));exact BK369.out)) : gb370 ≠ gb369));clear BK369;clear HB;have BK369:=n0_;have HB:=n1_;have BK370:=n2_;have GW370:=n3_;have GE370:=n4_;have NB369_370:=n5_;have NB370_369:=n6_;clear n0_ n1_ n2_ n3_ n4_ n5_ n6_;clear hb hbox hg;have hnb28:=NB369_370.out;have hnc28:=NB370_369.out;have hcz29_0 : w27.cell? ⟨gb369,0,none⟩ = some (.int .i64 a0_0):=(blk_cell BK369.out 0).trans rfl;have hcz29_1 : w27.cell? ⟨gb369,1,none⟩ = some (.int .i64 a0_1):=(blk_cell BK369.out 1).trans rfl;have hcz29_2 : w27.cell? ⟨gb369,2,none⟩ = some (.slice A0_2 l0_2.length c0_2):=(blk_cell BK369.out 2).trans rfl;have hcz29_3 : w27.cell? ⟨gb369,3,none⟩ = some (.slice A0_3 l0_3.length c0_3):=(blk_cell BK369.out 3).trans rfl;have hfz29_0:=sJ BK369.out 0;have hfz29_1:=sJ BK369.out 1;have hfz29_2:=sJ BK369.out 2;have hfz29_3:=sJ BK369.out 3)|((with_reducible refine gate_callee (f:=8) rfl ?_);refine goesL_ (some 14) rfl rfl Try.func8 (by kernel_rfl) rfl #[.agg #[.int .i64 a0_0,.int .i64 a0_1,.slice A0_2 l0_2.length c0_2,.slice A0_3 l0_3.length c0_3],.int .i64 1048576] rfl (by (try simp only [sE,sH,sI]);first|done|rfl|(simp only [sG,sF];rfl)) ?_;(with_reducible refine (laws_szTable.calls k a0_0 a0_1 _ _ l0_2 _ _ l0_3 1048576 t371 _ ?side1 ?side2 ?side3 ?side4 A3.out).mono ?_);(case side1 => repeat (first|exact (Kd.C_below HR0_2.out HB.out)|(with_reducible refine Kd.C_alloc ?_ _)|(with_reducible refine Kd.C_drewN ?_ _)|(with_reducible refine Kd.C_drew ?_)));(case side2 => exact HC0_2.out);(case side3 => repeat (first|exact (Kd.C_below HR0_3.out HB.out)|(with_reducible refine Kd.C_alloc ?_ _)|(with_reducible refine Kd.C_drewN ?_ _)|(with_reducible refine Kd.C_drew ?_)));(case side4 => exact HC0_3.out);rintro e w30 ⟨rfl,hb⟩;refine ⟨_,rfl,?_⟩;have n0_:=qk14 (ql14 (g:=gb369) (o:=.cells #[.int .i64 a0_0,.int .i64 a0_1,.slice A0_2 l0_2.length c0_2,.slice A0_3 l0_3.length c0_3] 25 (0,0)) (by (with_reducible repeat (first|apply qa14|apply qb14|apply qc14));exact BK369.out) hb);have n1_:=qk14 (ql14 (g:=gb370) (o:=.cells #[.int .i64 a1_0,.int .i64 a1_1,.slice A1_2 l1_2.length c1_2,.slice A1_3 l1_3.length c1_3] 25 (0,0)) (by (with_reducible repeat (first|apply qa14|apply qb14|apply qc14));exact BK370.out) hb);have n2_:=qk14 (sN (by repeat (first|(with_reducible first|exact HB.out|apply qg14|apply qh14|apply qi14|refine qj14 ?_ GE369.out|refine qj14 ?_ GE370.out)|exact HB.out)) hb);clear BK369;clear BK370;clear HB;have BK369:=n0_;have BK370:=n1_;have HB:=n2_;clear n0_ n1_ n2_;(try clear hb);(try clear hb2);(try clear hk);(try clear hi);have hcz31_0 : w30.cell? ⟨gb370,0,none⟩ = some (.int .i64 a1_0):=(blk_cell BK370.out 0).trans rfl;have hcz31_1 : w30.cell? ⟨gb370,1,none⟩ = some (.int .i64 a1_1):=(blk_cell BK370.out 1).trans rfl;have hcz31_2 : w30.cell? ⟨gb370,2,none⟩ = some (.slice A1_2 l1_2.length c1_2):=(blk_cell BK370.out 2).trans rfl;have hcz31_3 : w30.cell? ⟨gb370,3,none⟩ = some (.slice A1_3 l1_3.length c1_3):=(blk_cell BK370.out 3).trans rfl;have hfz31_0:=sJ BK370.out 0;have hfz31_1:=sJ BK370.out 1;have hfz31_2:=sJ BK370.out 2;have hfz31_3:=sJ BK370.out 3)|((with_reducible refine gate_callee (f:=8) rfl ?_);refine goesL_ (some 19) rfl rfl Try.func8 (by kernel_rfl) rfl #[.agg #[.int .i64 a1_0,.int .i64 a1_1,.slice A1_2 l1_2.length c1_2,.slice A1_3 l1_3.length c1_3],.int .i64 t371] rfl (by (try simp only [sE,sH,sI]);first|done|rfl|(simp only [sG,sF];rfl)) ?_;(with_reducible refine (laws_szTable.calls k a1_0 a1_1 _ _ l1_2 _ _ l1_3 t371 t372 _ ?side1 ?side2 ?side3 ?side4 A10.out).mono ?_);(case side1 => repeat (first|exact (Kd.C_below HR1_2.out HB.out)|(with_reducible refine Kd.C_alloc ?_ _)|(with_reducible refine Kd.C_drewN ?_ _)|(with_reducible refine Kd.C_drew ?_)));(case side2 => exact HC1_2.out);(case side3 => repeat (first|exact (Kd.C_below HR1_3.out HB.out)|(with_reducible refine Kd.C_alloc ?_ _)|(with_reducible refine Kd.C_drewN ?_ _)|(with_reducible refine Kd.C_drew ?_)));(case side4 => exact HC1_3.out);rintro e w32 ⟨rfl,hb⟩;refine ⟨_,rfl,?_⟩;have n0_:=qk14 (ql14 (g:=gb369) (o:=.cells #[.int .i64 a0_0,.int .i64 a0_1,.slice A0_2 l0_2.length c0_2,.slice A0_3 l0_3.length c0_3] 25 (0,0)) (by (with_reducible repeat (first|apply qa14|apply qb14|apply qc14));exact BK369.out) hb);have n1_:=qk14 (ql14 (g:=gb370) (o:=.cells #[.int .i64 a1_0,.int .i64 a1_1,.slice A1_2 l1_2.length c1_2,.slice A1_3 l1_3.length c1_3] 25 (0,0)) (by (with_reducible repeat (first|apply qa14|apply qb14|apply qc14));exact BK370.out) hb);have n2_:=qk14 (sN (by repeat (first|(with_reducible first|exact HB.out|apply qg14|apply qh14|apply qi14|refine qj14 ?_ GE369.out|refine qj14 ?_ GE370.out)|exact HB.out)) hb);clear BK369;clear BK370;clear HB;have BK369:=n0_;have BK370:=n1_;have HB:=n2_;clear n0_ n1_ n2_;(try clear hb);(try clear hb2);(try clear hk);(try clear hi)))
   have n0_:=qk14 (qb14 BK369.out)
   have n1_:=qk14 (qb14 BK370.out)
   have n2_:=qk14 (qi14 HB.out)
   clear BK369
   clear BK370
   clear HB
   have BK369:=n0_
   have BK370:=n1_
   have HB:=n2_
   clear n0_ n1_ n2_
   refine start_ (n:=10) (S:=fun w' => w'.cell? ⟨gb369,0,none⟩ = some (.int .i64 a0_0) ∧ w'.cell? ⟨gb369,1,none⟩ = some (.int .i64 a0_1) ∧ w'.cell? ⟨gb369,2,none⟩ = some (.slice A0_2 l0_2.length c0_2) ∧ w'.cell? ⟨gb369,3,none⟩ = some (.slice A0_3 l0_3.length c0_3) ∧ w'.cell? ⟨gb370,0,none⟩ = some (.int .i64 a1_0) ∧ w'.cell? ⟨gb370,1,none⟩ = some (.int .i64 a1_1) ∧ w'.cell? ⟨gb370,2,none⟩ = some (.slice A1_2 l1_2.length c1_2) ∧ w'.cell? ⟨gb370,3,none⟩ = some (.slice A1_3 l1_3.length c1_3)) (ds:=[]) #[false,false,false,false,false,false,false,false,false,false] (by kernel_rfl) rfl rfl ⟨(blk_cell BK369.out 0).trans rfl,(blk_cell BK369.out 1).trans rfl,(blk_cell BK369.out 2).trans rfl,(blk_cell BK369.out 3).trans rfl,(blk_cell BK370.out 0).trans rfl,(blk_cell BK370.out 1).trans rfl,(blk_cell BK370.out 2).trans rfl,(blk_cell BK370.out 3).trans rfl⟩ (fun hHeld => ?_);refine with_tabW laws_FnExactSameTable.tab8 laws_FnExactSameTable.bits8 (fun HT_ HW_ => ?_)
   generalize w32.drew = w33 at BK369 BK370 HB hHeld ⊢
   refine take_ (i:=0) (N:=some 23) (v:=?_) (a':=?_) #[true,false,false,false,false,false,false,false,false,false] rfl rfl (take_ofW HT_.out HW_.out (by kernel_rfl)) (fun _ _ _ h => h) (Or.inl ⟨by rfl,?_⟩) hHeld ?_ ?_
   rotate_left
   ·
    rintro w' ⟨s0,s1,s2,s3,s4,s5,s6,s7⟩
    go_simp
    with_reducible rfl
   rotate_left
   ·
    simp only [Act.put,sA,sB,sC,i64_w,i32_w]
    rfl
   refine take_ (i:=2) (N:=some 25) (v:=?_) (a':=?_) #[true,false,true,false,false,false,false,false,false,false] rfl rfl (take_ofW HT_.out HW_.out (by kernel_rfl)) (fun _ _ _ h => h) (Or.inl ⟨by rfl,?_⟩) hHeld ?_ ?_
   rotate_left
   ·
    rintro w' ⟨s0,s1,s2,s3,s4,s5,s6,s7⟩
    go_simp
    with_reducible rfl
   rotate_left
   ·
    simp only [Act.put,sA,sB,sC,i64_w,i32_w]
    rfl
   refine one_ (i:=1) (N:=some 24) #[true,true,true,false,false,false,false,false,false,false] rfl rfl (one_of HT_.out (by kernel_rfl)) (by decide) (fun K hK => ?_)
   refine goes_ Try.func10 (by kernel_rfl) rfl #[.agg #[.int .i64 a0_0,.int .i64 a0_1,.slice A0_2 l0_2.length c0_2,.slice A0_3 l0_3.length c0_3]] (by rfl) rfl rfl (by (try simp only [sE,sH,sI]);first|done|rfl|(simp only [sG,sF];rfl)) ?_
   with_reducible refine (laws_toTable.calls k a0_0 a0_1 _ _ l0_2 _ _ l0_3 t373 t374 t375 t378 _ ?side1 ?side2 ?side3 ?side4 A19.out).mono ?_
   (case side1 => repeat (first|exact (Kd.C_below HR0_2.out HB.out)|(with_reducible refine Kd.C_alloc ?_ _)|(with_reducible refine Kd.C_drewN ?_ _)|(with_reducible refine Kd.C_drew ?_)))
   (case side2 => exact HC0_2.out)
   (case side3 => repeat (first|exact (Kd.C_below HR0_3.out HB.out)|(with_reducible refine Kd.C_alloc ?_ _)|(with_reducible refine Kd.C_drewN ?_ _)|(with_reducible refine Kd.C_drew ?_)))
   (case side4 => exact HC0_3.out)
   rintro e w34 ⟨v376,v379,rfl,ho0,ho1,hb⟩
   refine ⟨_,rfl,?_⟩
   have n0_:=qk14 (Kd.S_lower ho0 (qm14 (by repeat (first|(with_reducible first|exact HB.out|apply qg14|apply qh14|apply qi14|refine qj14 ?_ GE369.out|refine qj14 ?_ GE370.out)|exact HB.out))))
   have n1_:=qk14 (Kd.R_lower ho1 (qm14 (by repeat (first|(with_reducible first|exact HB.out|apply qg14|apply qh14|apply qi14|refine qj14 ?_ GE369.out|refine qj14 ?_ GE370.out)|exact HB.out))))
   have n2_:=qk14 (ql14 (g:=gb369) (o:=.cells #[.int .i64 a0_0,.int .i64 a0_1,.slice A0_2 l0_2.length c0_2,.slice A0_3 l0_3.length c0_3] 25 (0,0)) (by (with_reducible repeat (first|apply qa14|apply qb14|apply qc14));exact BK369.out) hb)
   have n3_:=qk14 (ql14 (g:=gb370) (o:=.cells #[.int .i64 a1_0,.int .i64 a1_1,.slice A1_2 l1_2.length c1_2,.slice A1_3 l1_3.length c1_3] 25 (0,0)) (by (with_reducible repeat (first|apply qa14|apply qb14|apply qc14));exact BK370.out) hb)
   have n4_:=qk14 (sN (by repeat (first|(with_reducible first|exact HB.out|apply qg14|apply qh14|apply qi14|refine qj14 ?_ GE369.out|refine qj14 ?_ GE370.out)|exact HB.out)) hb)
   clear BK369
   clear BK370
   clear HB
   have HO377:=n0_
   have HO380:=n1_
   have BK369:=n2_
   have BK370:=n3_
   have HB:=n4_
   clear n0_ n1_ n2_ n3_ n4_
   (try clear hb)
   (try clear hb2)
   (try clear hk)
   (try clear hi)
   (try clear ho0)
   (try clear ho1)
   refine hK.out _ _ ⟨(blk_cell BK369.out 0).trans rfl,(blk_cell BK369.out 1).trans rfl,(blk_cell BK369.out 2).trans rfl,(blk_cell BK369.out 3).trans rfl,(blk_cell BK370.out 0).trans rfl,(blk_cell BK370.out 1).trans rfl,(blk_cell BK370.out 2).trans rfl,(blk_cell BK370.out 3).trans rfl⟩ (fun hHeld => ?_)
   clear hK K
   refine norm_ (a':=?_) ?_ ?_
   rotate_left
   ·
    show Act.put _ (some 24) _ = _
    simp only [Act.put,sA,sB,sC,i64_w,i32_w]
    rfl
   refine one_ (i:=3) (N:=some 26) #[true,true,true,true,false,false,false,false,false,false] rfl rfl (one_of HT_.out (by kernel_rfl)) (by decide) (fun K hK => ?_)
   refine goes_ Try.func10 (by kernel_rfl) rfl #[.agg #[.int .i64 a1_0,.int .i64 a1_1,.slice A1_2 l1_2.length c1_2,.slice A1_3 l1_3.length c1_3]] (by rfl) rfl rfl (by (try simp only [sE,sH,sI]);first|done|rfl|(simp only [sG,sF];rfl)) ?_
   with_reducible refine (laws_toTable.calls k a1_0 a1_1 _ _ l1_2 _ _ l1_3 t381 t382 t383 t386 _ ?side1 ?side2 ?side3 ?side4 A20.out).mono ?_
   (case side1 => repeat (first|exact (Kd.C_below HR1_2.out HB.out)|(with_reducible refine Kd.C_alloc ?_ _)|(with_reducible refine Kd.C_drewN ?_ _)|(with_reducible refine Kd.C_drew ?_)))
   (case side2 => exact HC1_2.out)
   (case side3 => repeat (first|exact (Kd.C_below HR1_3.out HB.out)|(with_reducible refine Kd.C_alloc ?_ _)|(with_reducible refine Kd.C_drewN ?_ _)|(with_reducible refine Kd.C_drew ?_)))
   (case side4 => exact HC1_3.out)
   rintro e w35 ⟨v384,v387,rfl,ho0,ho1,hb⟩
   refine ⟨_,rfl,?_⟩
   have n0_:=qk14 (Kd.S_elder' (by (with_reducible repeat (first|apply Kd.S_alloc|apply Kd.S_drewN|apply Kd.S_drew));exact HO377.out) (Kd.S_base ho0) hb)
   have n1_:=qk14 (Kd.R_elder' (by (with_reducible repeat (first|apply qd14|apply qe14|apply qf14));exact HO380.out) (Kd.R_base ho1) hb)
   have n2_:=qk14 (Kd.S_lower (Kd.S_new' ho0 (Kd.S_lt (by (with_reducible repeat (first|apply Kd.S_alloc|apply Kd.S_drewN|apply Kd.S_drew));exact HO377.out))) (qm14 (by repeat (first|(with_reducible first|exact HB.out|apply qg14|apply qh14|apply qi14|refine qj14 ?_ GE369.out|refine qj14 ?_ GE370.out)|exact HB.out))))
   have n3_:=qk14 (Kd.R_lower (Kd.R_new' ho1 (Kd.R_lt (by (with_reducible repeat (first|apply qd14|apply qe14|apply qf14));exact HO380.out))) (qm14 (by repeat (first|(with_reducible first|exact HB.out|apply qg14|apply qh14|apply qi14|refine qj14 ?_ GE369.out|refine qj14 ?_ GE370.out)|exact HB.out))))
   have n4_:=qk14 (ql14 (g:=gb369) (o:=.cells #[.int .i64 a0_0,.int .i64 a0_1,.slice A0_2 l0_2.length c0_2,.slice A0_3 l0_3.length c0_3] 25 (0,0)) (by (with_reducible repeat (first|apply qa14|apply qb14|apply qc14));exact BK369.out) hb)
   have n5_:=qk14 (ql14 (g:=gb370) (o:=.cells #[.int .i64 a1_0,.int .i64 a1_1,.slice A1_2 l1_2.length c1_2,.slice A1_3 l1_3.length c1_3] 25 (0,0)) (by (with_reducible repeat (first|apply qa14|apply qb14|apply qc14));exact BK370.out) hb)
   have n6_:=qk14 (sN (by repeat (first|(with_reducible first|exact HB.out|apply qg14|apply qh14|apply qi14|refine qj14 ?_ GE369.out|refine qj14 ?_ GE370.out)|exact HB.out)) hb)
   clear HO377
   clear HO380
   clear BK369
   clear BK370
   clear HB
   have HO377:=n0_
   have HO380:=n1_
   have HO385:=n2_
   have HO388:=n3_
   have BK369:=n4_
   have BK370:=n5_
   have HB:=n6_
   clear n0_ n1_ n2_ n3_ n4_ n5_ n6_
   (try clear hb)
   (try clear hb2)
   (try clear hk)
   (try clear hi)
   (try clear ho0)
   (try clear ho1)
   obtain ⟨Ao36,co36,eo36⟩:=Kd.S_slice HO377.out
   (first|subst eo36|(injection eo36 with f1_ f2_ f3_;have f4_:=f1_.symm;have f5_:=f3_.symm;clear f1_ f2_ f3_;subst f4_;subst f5_))
   obtain ⟨Ao37,co37,eo37⟩:=Kd.R_slice HO380.out
   (first|subst eo37|(injection eo37 with f1_ f2_ f3_;have f4_:=f1_.symm;have f5_:=f3_.symm;clear f1_ f2_ f3_;subst f4_;subst f5_))
   obtain ⟨Ao38,co38,eo38⟩:=Kd.S_slice HO385.out
   (first|subst eo38|(injection eo38 with f1_ f2_ f3_;have f4_:=f1_.symm;have f5_:=f3_.symm;clear f1_ f2_ f3_;subst f4_;subst f5_))
   obtain ⟨Ao39,co39,eo39⟩:=Kd.R_slice HO388.out
   (first|subst eo39|(injection eo39 with f1_ f2_ f3_;have f4_:=f1_.symm;have f5_:=f3_.symm;clear f1_ f2_ f3_;subst f4_;subst f5_))
   refine hK.out _ _ ⟨(blk_cell BK369.out 0).trans rfl,(blk_cell BK369.out 1).trans rfl,(blk_cell BK369.out 2).trans rfl,(blk_cell BK369.out 3).trans rfl,(blk_cell BK370.out 0).trans rfl,(blk_cell BK370.out 1).trans rfl,(blk_cell BK370.out 2).trans rfl,(blk_cell BK370.out 3).trans rfl⟩ (fun hHeld => ?_)
   clear hK K
   refine norm_ (a':=?_) ?_ ?_
   rotate_left
   ·
    show Act.put _ (some 26) _ = _
    simp only [Act.put,sA,sB,sC,i64_w,i32_w]
    rfl
   refine one_ (i:=4) (N:=some 27) #[true,true,true,true,true,false,false,false,false,false] rfl rfl (one_of HT_.out (by kernel_rfl)) (by decide) (fun K hK => ?_)
   refine goes_ Try.func13 (by kernel_rfl) rfl #[.agg #[.int .i64 t373,.int .i64 t374,.slice Ao36 t375.length co36,.slice Ao37 t378.length co37],.agg #[.int .i64 t381,.int .i64 t382,.slice Ao38 t383.length co38,.slice Ao39 t386.length co39]] (by rfl) rfl rfl (by (try simp only [sE,sH,sI]);first|done|rfl|(simp only [sG,sF];rfl)) ?_
   with_reducible refine (spec_SameTable.calls k t373 t374 _ _ t375 _ _ t378 t381 t382 _ _ t383 _ _ t386 t389 t390 _ ?side1 ?side2 ?side3 ?side4 ?side5 ?side6 ?side7 ?side8 A21.out).mono ?_
   (case side1 => repeat (first|exact (Kd.S_reads' HO377.out).2.2|(with_reducible refine Kd.C_alloc ?_ _)|(with_reducible refine Kd.C_drewN ?_ _)|(with_reducible refine Kd.C_drew ?_)))
   (case side2 => exact (Kd.S_reads' HO377.out).2.1)
   (case side3 => repeat (first|exact (Kd.R_reads' HO380.out).2.2|(with_reducible refine Kd.C_alloc ?_ _)|(with_reducible refine Kd.C_drewN ?_ _)|(with_reducible refine Kd.C_drew ?_)))
   (case side4 => exact (Kd.R_reads' HO380.out).2.1)
   (case side5 => repeat (first|exact (Kd.S_reads' HO385.out).2.2|(with_reducible refine Kd.C_alloc ?_ _)|(with_reducible refine Kd.C_drewN ?_ _)|(with_reducible refine Kd.C_drew ?_)))
   (case side6 => exact (Kd.S_reads' HO385.out).2.1)
   (case side7 => repeat (first|exact (Kd.R_reads' HO388.out).2.2|(with_reducible refine Kd.C_alloc ?_ _)|(with_reducible refine Kd.C_drewN ?_ _)|(with_reducible refine Kd.C_drew ?_)))
   (case side8 => exact (Kd.R_reads' HO388.out).2.1)
   rintro e w40 ⟨rfl,hb⟩
   refine ⟨_,rfl,?_⟩
   have n0_:=qk14 (Kd.S_below (by (with_reducible repeat (first|apply Kd.S_alloc|apply Kd.S_drewN|apply Kd.S_drew));exact HO377.out) hb)
   have n1_:=qk14 (Kd.R_below (by (with_reducible repeat (first|apply qd14|apply qe14|apply qf14));exact HO380.out) hb)
   have n2_:=qk14 (Kd.S_below (by (with_reducible repeat (first|apply Kd.S_alloc|apply Kd.S_drewN|apply Kd.S_drew));exact HO385.out) hb)
   have n3_:=qk14 (Kd.R_below (by (with_reducible repeat (first|apply qd14|apply qe14|apply qf14));exact HO388.out) hb)
   have n4_:=qk14 (ql14 (g:=gb369) (o:=.cells #[.int .i64 a0_0,.int .i64 a0_1,.slice A0_2 l0_2.length c0_2,.slice A0_3 l0_3.length c0_3] 25 (0,0)) (by (with_reducible repeat (first|apply qa14|apply qb14|apply qc14));exact BK369.out) hb)
   have n5_:=qk14 (ql14 (g:=gb370) (o:=.cells #[.int .i64 a1_0,.int .i64 a1_1,.slice A1_2 l1_2.length c1_2,.slice A1_3 l1_3.length c1_3] 25 (0,0)) (by (with_reducible repeat (first|apply qa14|apply qb14|apply qc14));exact BK370.out) hb)
   have n6_:=qk14 (sN (by repeat (first|(with_reducible first|exact HB.out|apply qg14|apply qh14|apply qi14|refine qj14 ?_ GE369.out|refine qj14 ?_ GE370.out)|exact HB.out)) hb)
   clear HO377
   clear HO380
   clear HO385
   clear HO388
   clear BK369
   clear BK370
   clear HB
   have HO377:=n0_
   have HO380:=n1_
   have HO385:=n2_
   have HO388:=n3_
   have BK369:=n4_
   have BK370:=n5_
   have HB:=n6_
   clear n0_ n1_ n2_ n3_ n4_ n5_ n6_
   (try clear hb)
   (try clear hb2)
   (try clear hk)
   (try clear hi)
   refine hK.out _ _ ⟨(blk_cell BK369.out 0).trans rfl,(blk_cell BK369.out 1).trans rfl,(blk_cell BK369.out 2).trans rfl,(blk_cell BK369.out 3).trans rfl,(blk_cell BK370.out 0).trans rfl,(blk_cell BK370.out 1).trans rfl,(blk_cell BK370.out 2).trans rfl,(blk_cell BK370.out 3).trans rfl⟩ (fun hHeld => ?_)
   clear hK K
   refine norm_ (a':=?_) ?_ ?_
   rotate_left
   ·
    show Act.put _ (some 27) _ = _
    simp only [Act.put,sA,sB,sC,i64_w,i32_w]
    rfl
   refine pure_ (i:=5) (N:=some 22) (v:=?_) (a':=?_) #[true,true,true,true,true,true,false,false,false,false] rfl rfl (any_of HT_.out (by kernel_rfl)) (fun _ _ _ h => h) (Or.inl ⟨by rfl,?_⟩) ?_ ?_
   rotate_left
   ·
    intro w'
    go_simp
    with_reducible rfl
   rotate_left
   ·
    simp only [Act.put,sA,sB,sC,i64_w,i32_w]
    rfl
   refine pure_ (i:=6) (N:=some 28) (v:=?_) (a':=?_) #[true,true,true,true,true,true,true,false,false,false] rfl rfl (any_of HT_.out (by kernel_rfl)) (fun _ _ _ h => h) (Or.inl ⟨by rfl,?_⟩) ?_ ?_
   rotate_left
   ·
    intro w'
    go_simp
    with_reducible rfl
   rotate_left
   ·
    simp only [Act.put,sA,sB,sC,i64_w,i32_w]
    rfl
   refine pure_ (i:=7) (N:=some 29) (v:=?_) (a':=?_) #[true,true,true,true,true,true,true,true,false,false] rfl rfl (any_of HT_.out (by kernel_rfl)) (fun _ _ _ h => h) (Or.inl ⟨by rfl,?_⟩) ?_ ?_
   rotate_left
   ·
    intro w'
    go_simp
    with_reducible rfl
   rotate_left
   ·
    simp only [Act.put,sA,sB,sC,i64_w,i32_w]
    rfl
   refine pure_ (i:=8) (N:=some 6) (v:=?_) (a':=?_) #[true,true,true,true,true,true,true,true,true,false] rfl rfl (any_of HT_.out (by kernel_rfl)) (fun _ _ _ h => h) (Or.inl ⟨by rfl,?_⟩) ?_ ?_
   rotate_left
   ·
    intro w'
    go_simp
    with_reducible rfl
   rotate_left
   ·
    simp only [Act.put,sA,sB,sC,i64_w,i32_w]
    rfl
   refine pure_ (i:=9) (N:=some 7) (v:=?_) (a':=?_) #[true,true,true,true,true,true,true,true,true,true] rfl rfl (any_of HT_.out (by kernel_rfl)) (fun _ _ _ h => h) (Or.inl ⟨by rfl,?_⟩) ?_ ?_
   rotate_left
   ·
    intro w'
    go_simp
    with_reducible rfl
   rotate_left
   ·
    simp only [Act.put,sA,sB,sC,i64_w,i32_w]
    rfl
   refine done_ (done_of HT_.out (by kernel_rfl)) ?_
   have hcz41_0 : w40.cell? ⟨gb369,0,none⟩ = some (.int .i64 a0_0):=(blk_cell BK369.out 0).trans rfl
   have hcz41_1 : w40.cell? ⟨gb369,1,none⟩ = some (.int .i64 a0_1):=(blk_cell BK369.out 1).trans rfl
   have hcz41_2 : w40.cell? ⟨gb369,2,none⟩ = some (.slice A0_2 l0_2.length c0_2):=(blk_cell BK369.out 2).trans rfl
   have hcz41_3 : w40.cell? ⟨gb369,3,none⟩ = some (.slice A0_3 l0_3.length c0_3):=(blk_cell BK369.out 3).trans rfl
   have hfz41_0:=sJ BK369.out 0
   have hfz41_1:=sJ BK369.out 1
   have hfz41_2:=sJ BK369.out 2
   have hfz41_3:=sJ BK369.out 3
   go_upto_region 12 with (first|((with_reducible refine gate_callee (f:=10) rfl ?_);refine goesL_ (some 31) rfl rfl Try.func10 (by kernel_rfl) rfl #[.agg #[.int .i64 a0_0,.int .i64 a0_1,.slice A0_2 l0_2.length c0_2,.slice A0_3 l0_3.length c0_3]] rfl (by (try simp only [sE,sH,sI]);first|done|rfl|(simp only [sG,sF];rfl)) ?_;(with_reducible refine (laws_toTable.calls k a0_0 a0_1 _ _ l0_2 _ _ l0_3 t391 t392 t393 t396 _ ?side1 ?side2 ?side3 ?side4 A22.out).mono ?_);(case side1 => repeat (first|exact (Kd.C_below HR0_2.out HB.out)|(with_reducible refine Kd.C_alloc ?_ _)|(with_reducible refine Kd.C_drewN ?_ _)|(with_reducible refine Kd.C_drew ?_)));(case side2 => exact HC0_2.out);(case side3 => repeat (first|exact (Kd.C_below HR0_3.out HB.out)|(with_reducible refine Kd.C_alloc ?_ _)|(with_reducible refine Kd.C_drewN ?_ _)|(with_reducible refine Kd.C_drew ?_)));(case side4 => exact HC0_3.out);rintro e w42 ⟨v394,v397,rfl,ho0,ho1,hb⟩;refine ⟨_,rfl,?_⟩;have n0_:=qk14 (Kd.S_elder' (by (with_reducible repeat (first|apply Kd.S_alloc|apply Kd.S_drewN|apply Kd.S_drew));exact HO377.out) (Kd.S_base ho0) hb);have n1_:=qk14 (Kd.R_elder' (by (with_reducible repeat (first|apply qd14|apply qe14|apply qf14));exact HO380.out) (Kd.R_base ho1) hb);have n2_:=qk14 (Kd.S_elder' (by (with_reducible repeat (first|apply Kd.S_alloc|apply Kd.S_drewN|apply Kd.S_drew));exact HO385.out) (Kd.S_base ho0) hb);have n3_:=qk14 (Kd.R_elder' (by (with_reducible repeat (first|apply qd14|apply qe14|apply qf14));exact HO388.out) (Kd.R_base ho1) hb);have n4_:=qk14 (Kd.S_lower (Kd.S_new' (Kd.S_new' ho0 (Kd.S_lt (by (with_reducible repeat (first|apply Kd.S_alloc|apply Kd.S_drewN|apply Kd.S_drew));exact HO377.out))) (Kd.S_lt (by (with_reducible repeat (first|apply Kd.S_alloc|apply Kd.S_drewN|apply Kd.S_drew));exact HO385.out))) (qm14 (by repeat (first|(with_reducible first|exact HB.out|apply qg14|apply qh14|apply qi14|refine qj14 ?_ GE369.out|refine qj14 ?_ GE370.out)|exact HB.out))));have n5_:=qk14 (Kd.R_lower (Kd.R_new' (Kd.R_new' ho1 (Kd.R_lt (by (with_reducible repeat (first|apply qd14|apply qe14|apply qf14));exact HO380.out))) (Kd.R_lt (by (with_reducible repeat (first|apply qd14|apply qe14|apply qf14));exact HO388.out))) (qm14 (by repeat (first|(with_reducible first|exact HB.out|apply qg14|apply qh14|apply qi14|refine qj14 ?_ GE369.out|refine qj14 ?_ GE370.out)|exact HB.out))));have n6_:=qk14 (ql14 (g:=gb369) (o:=.cells #[.int .i64 a0_0,.int .i64 a0_1,.slice A0_2 l0_2.length c0_2,.slice A0_3 l0_3.length c0_3] 25 (0,0)) (by (with_reducible repeat (first|apply qa14|apply qb14|apply qc14));exact BK369.out) hb);have n7_:=qk14 (ql14 (g:=gb370) (o:=.cells #[.int .i64 a1_0,.int .i64 a1_1,.slice A1_2 l1_2.length c1_2,.slice A1_3 l1_3.length c1_3] 25 (0,0)) (by (with_reducible repeat (first|apply qa14|apply qb14|apply qc14));exact BK370.out) hb);have n8_:=qk14 (sN (by repeat (first|(with_reducible first|exact HB.out|apply qg14|apply qh14|apply qi14|refine qj14 ?_ GE369.out|refine qj14 ?_ GE370.out)|exact HB.out)) hb);clear HO377;clear HO380;clear HO385;clear HO388;clear BK369;clear BK370;clear HB;have HO377:=n0_;have HO380:=n1_;have HO385:=n2_;have HO388:=n3_;have HO395:=n4_;have HO398:=n5_;have BK369:=n6_;have BK370:=n7_;have HB:=n8_;clear n0_ n1_ n2_ n3_ n4_ n5_ n6_ n7_ n8_;(try clear hb);(try clear hb2);(try clear hk);(try clear hi);(try clear ho0);(try clear ho1))|((with_reducible refine gate_dst (N:=8) rfl ?_);refine box_event ?hg (N:=8) ?hd (cs:=#[.int .i64 0,.int .i64 0,.slice none 0 0,.slice none 0 0]) (t:=31) ?hr ?_;(case hd => rfl);(case hg => rfl);(case hr => first|(go_simp;done)|(go_simp;rfl));intro gb399 hg w43 hbox hb;have n0_:=qk14 (Kd.S_below (by (with_reducible repeat (first|apply Kd.S_alloc|apply Kd.S_drewN|apply Kd.S_drew));exact HO377.out) hb);have n1_:=qk14 (Kd.R_below (by (with_reducible repeat (first|apply qd14|apply qe14|apply qf14));exact HO380.out) hb);have n2_:=qk14 (Kd.S_below (by (with_reducible repeat (first|apply Kd.S_alloc|apply Kd.S_drewN|apply Kd.S_drew));exact HO385.out) hb);have n3_:=qk14 (Kd.R_below (by (with_reducible repeat (first|apply qd14|apply qe14|apply qf14));exact HO388.out) hb);have n4_:=qk14 (Kd.S_below (by (with_reducible repeat (first|apply Kd.S_alloc|apply Kd.S_drewN|apply Kd.S_drew));exact HO395.out) hb);have n5_:=qk14 (Kd.R_below (by (with_reducible repeat (first|apply qd14|apply qe14|apply qf14));exact HO398.out) hb);have n6_:=qk14 (ql14 (g:=gb369) (o:=.cells #[.int .i64 a0_0,.int .i64 a0_1,.slice A0_2 l0_2.length c0_2,.slice A0_3 l0_3.length c0_3] 25 (0,0)) (by (with_reducible repeat (first|apply qa14|apply qb14|apply qc14));exact BK369.out) hb);have n7_:=qk14 (ql14 (g:=gb370) (o:=.cells #[.int .i64 a1_0,.int .i64 a1_1,.slice A1_2 l1_2.length c1_2,.slice A1_3 l1_3.length c1_3] 25 (0,0)) (by (with_reducible repeat (first|apply qa14|apply qb14|apply qc14));exact BK370.out) hb);have n8_:=qk14 (sN (by repeat (first|(with_reducible first|exact HB.out|apply qg14|apply qh14|apply qi14|refine qj14 ?_ GE369.out|refine qj14 ?_ GE370.out)|exact HB.out)) hb);have n9_:=qk14 (hbox);have n10_:=qk14 ((by rw [hg];exact (qm14 (by repeat (first|(with_reducible first|exact HB.out|apply qg14|apply qh14|apply qi14|refine qj14 ?_ GE369.out|refine qj14 ?_ GE370.out)|exact HB.out))) : w.heap.size ≤ gb399));have n11_:=qk14 ((by rw [hg];exact (qm14 (by repeat (first|(with_reducible first|exact HB.out|apply qg14|apply qh14|apply qi14|refine qj14 ?_ GE369.out|refine qj14 ?_ GE370.out)|exact HB.out))) : w.heap.size ≤ gb399));have n12_:=qk14 ((by rw [hg];exact Nat.ne_of_lt (blk_lt (g:=gb369) (o:=.cells #[.int .i64 a0_0,.int .i64 a0_1,.slice A0_2 l0_2.length c0_2,.slice A0_3 l0_3.length c0_3] 25 (0,0)) (by (with_reducible repeat (first|apply qa14|apply qb14|apply qc14));exact BK369.out)) : gb369 ≠ gb399));have n13_:=qk14 ((by rw [hg];exact Nat.ne_of_gt (blk_lt (g:=gb369) (o:=.cells #[.int .i64 a0_0,.int .i64 a0_1,.slice A0_2 l0_2.length c0_2,.slice A0_3 l0_3.length c0_3] 25 (0,0)) (by (with_reducible repeat (first|apply qa14|apply qb14|apply qc14));exact BK369.out)) : gb399 ≠ gb369));have n14_:=qk14 ((by rw [hg];exact Nat.ne_of_lt (blk_lt (g:=gb370) (o:=.cells #[.int .i64 a1_0,.int .i64 a1_1,.slice A1_2 l1_2.length c1_2,.slice A1_3 l1_3.length c1_3] 25 (0,0)) (by (with_reducible repeat (first|apply qa14|apply qb14|apply qc14));exact BK370.out)) : gb370 ≠ gb399));have n15_:=qk14 ((by rw [hg];exact Nat.ne_of_gt (blk_lt (g:=gb370) (o:=.cells #[.int .i64 a1_0,.int .i64 a1_1,.slice A1_2 l1_2.length c1_2,.slice A1_3 l1_3.length c1_3] 25 (0,0)) (by (with_reducible repeat (first|apply qa14|apply qb14|apply qc14));exact BK370.out)) : gb399 ≠ gb370));clear HO377;clear HO380;clear HO385;clear HO388;clear HO395;clear HO398;clear BK369;clear BK370;clear HB;have HO377:=n0_;have HO380:=n1_;have HO385:=n2_;have HO388:=n3_;have HO395:=n4_;have HO398:=n5_;have BK369:=n6_;have BK370:=n7_;have HB:=n8_;have BK399:=n9_;have GW399:=n10_;have GE399:=n11_;have NB369_399:=n12_;have NB399_369:=n13_;have NB370_399:=n14_;have NB399_370:=n15_;clear n0_ n1_ n2_ n3_ n4_ n5_ n6_ n7_ n8_ n9_ n10_ n11_ n12_ n13_ n14_ n15_;clear hb hbox hg;have hnb44:=NB399_369.out;have hnc44:=NB369_399.out;have hnb45:=NB399_370.out;have hnc45:=NB370_399.out;have hcz46_0 : w43.cell? ⟨gb399,0,none⟩ = some (.int .i64 0):=(blk_cell BK399.out 0).trans rfl;have hcz46_1 : w43.cell? ⟨gb399,1,none⟩ = some (.int .i64 0):=(blk_cell BK399.out 1).trans rfl;have hcz46_2 : w43.cell? ⟨gb399,2,none⟩ = some (.slice none 0 0):=(blk_cell BK399.out 2).trans rfl;have hcz46_3 : w43.cell? ⟨gb399,3,none⟩ = some (.slice none 0 0):=(blk_cell BK399.out 3).trans rfl;have hfz46_0:=sJ BK399.out 0;have hfz46_1:=sJ BK399.out 1;have hfz46_2:=sJ BK399.out 2;have hfz46_3:=sJ BK399.out 3;obtain ⟨Ao47,co47,eo47⟩:=Kd.S_slice HO395.out;subst eo47;obtain ⟨Ao48,co48,eo48⟩:=Kd.R_slice HO398.out;subst eo48;have hcz49_0 : w43.cell? ⟨gb370,0,none⟩ = some (.int .i64 a1_0):=(blk_cell BK370.out 0).trans rfl;have hcz49_1 : w43.cell? ⟨gb370,1,none⟩ = some (.int .i64 a1_1):=(blk_cell BK370.out 1).trans rfl;have hcz49_2 : w43.cell? ⟨gb370,2,none⟩ = some (.slice A1_2 l1_2.length c1_2):=(blk_cell BK370.out 2).trans rfl;have hcz49_3 : w43.cell? ⟨gb370,3,none⟩ = some (.slice A1_3 l1_3.length c1_3):=(blk_cell BK370.out 3).trans rfl;have hfz49_0:=sJ BK370.out 0;have hfz49_1:=sJ BK370.out 1;have hfz49_2:=sJ BK370.out 2;have hfz49_3:=sJ BK370.out 3)|((with_reducible refine gate_callee (f:=10) rfl ?_);refine goesL_ (some 33) rfl rfl Try.func10 (by kernel_rfl) rfl #[.agg #[.int .i64 a1_0,.int .i64 a1_1,.slice A1_2 l1_2.length c1_2,.slice A1_3 l1_3.length c1_3]] rfl (by (try simp only [sE,sH,sI]);first|done|rfl|(simp only [sG,sF];rfl)) ?_;(with_reducible refine (laws_toTable.calls k a1_0 a1_1 _ _ l1_2 _ _ l1_3 t400 t401 t402 t405 _ ?side1 ?side2 ?side3 ?side4 A23.out).mono ?_);(case side1 => exact Kd.C_below HR1_2.out (by repeat (first|(with_reducible first|exact HB.out|apply qg14|apply qh14|apply qi14|refine qj14 ?_ GE369.out|refine qj14 ?_ GE370.out|refine qj14 ?_ GE399.out)|exact HB.out)));(case side2 => exact HC1_2.out);(case side3 => exact Kd.C_below HR1_3.out (by repeat (first|(with_reducible first|exact HB.out|apply qg14|apply qh14|apply qi14|refine qj14 ?_ GE369.out|refine qj14 ?_ GE370.out|refine qj14 ?_ GE399.out)|exact HB.out)));(case side4 => exact HC1_3.out);rintro e w50 ⟨v403,v406,rfl,ho0,ho1,hb⟩;refine ⟨_,rfl,?_⟩;have n0_:=qk14 (Kd.S_elder' (by (with_reducible repeat (first|apply Kd.S_alloc|apply Kd.S_drewN|apply Kd.S_drew));exact (Kd.S_mono (Kd.S_far (p:=⟨gb399,3,none⟩) (Kd.S_far (p:=⟨gb399,2,none⟩) (Kd.S_far (p:=⟨gb399,1,none⟩) (Kd.S_far (p:=⟨gb399,0,none⟩) (Kd.S_types HO377.out BK399.out (by decide)) (fun _ hk => hk.2) (.int .i64 t391)) (fun _ hk => hk.2) (.int .i64 t392)) (fun _ hk => hk.2) (.slice Ao47 t393.length co47)) (fun _ hk => hk.2) (.slice Ao48 t396.length co48)) (fun _ h_ => h_.1))) (Kd.S_base ho0) hb);have n1_:=qk14 (Kd.R_elder' (by (with_reducible repeat (first|apply qd14|apply qe14|apply qf14));exact (Kd.R_mono (qn14 (p:=⟨gb399,3,none⟩) (qn14 (p:=⟨gb399,2,none⟩) (qn14 (p:=⟨gb399,1,none⟩) (qn14 (p:=⟨gb399,0,none⟩) (Kd.R_types HO380.out BK399.out (by decide)) (fun _ hk => hk.2) (.int .i64 t391)) (fun _ hk => hk.2) (.int .i64 t392)) (fun _ hk => hk.2) (.slice Ao47 t393.length co47)) (fun _ hk => hk.2) (.slice Ao48 t396.length co48)) (fun _ h_ => h_.1))) (Kd.R_base ho1) hb);have n2_:=qk14 (Kd.S_elder' (by (with_reducible repeat (first|apply Kd.S_alloc|apply Kd.S_drewN|apply Kd.S_drew));exact (Kd.S_mono (Kd.S_far (p:=⟨gb399,3,none⟩) (Kd.S_far (p:=⟨gb399,2,none⟩) (Kd.S_far (p:=⟨gb399,1,none⟩) (Kd.S_far (p:=⟨gb399,0,none⟩) (Kd.S_types HO385.out BK399.out (by decide)) (fun _ hk => hk.2) (.int .i64 t391)) (fun _ hk => hk.2) (.int .i64 t392)) (fun _ hk => hk.2) (.slice Ao47 t393.length co47)) (fun _ hk => hk.2) (.slice Ao48 t396.length co48)) (fun _ h_ => h_.1))) (Kd.S_base ho0) hb);have n3_:=qk14 (Kd.R_elder' (by (with_reducible repeat (first|apply qd14|apply qe14|apply qf14));exact (Kd.R_mono (qn14 (p:=⟨gb399,3,none⟩) (qn14 (p:=⟨gb399,2,none⟩) (qn14 (p:=⟨gb399,1,none⟩) (qn14 (p:=⟨gb399,0,none⟩) (Kd.R_types HO388.out BK399.out (by decide)) (fun _ hk => hk.2) (.int .i64 t391)) (fun _ hk => hk.2) (.int .i64 t392)) (fun _ hk => hk.2) (.slice Ao47 t393.length co47)) (fun _ hk => hk.2) (.slice Ao48 t396.length co48)) (fun _ h_ => h_.1))) (Kd.R_base ho1) hb);have n4_:=qk14 (Kd.S_elder' (by (with_reducible repeat (first|apply Kd.S_alloc|apply Kd.S_drewN|apply Kd.S_drew));exact (Kd.S_mono (Kd.S_far (p:=⟨gb399,3,none⟩) (Kd.S_far (p:=⟨gb399,2,none⟩) (Kd.S_far (p:=⟨gb399,1,none⟩) (Kd.S_far (p:=⟨gb399,0,none⟩) (Kd.S_types HO395.out BK399.out (by decide)) (fun _ hk => hk.2) (.int .i64 t391)) (fun _ hk => hk.2) (.int .i64 t392)) (fun _ hk => hk.2) (.slice Ao47 t393.length co47)) (fun _ hk => hk.2) (.slice Ao48 t396.length co48)) (fun _ h_ => h_.1))) (Kd.S_base ho0) hb);have n5_:=qk14 (Kd.R_elder' (by (with_reducible repeat (first|apply qd14|apply qe14|apply qf14));exact (Kd.R_mono (qn14 (p:=⟨gb399,3,none⟩) (qn14 (p:=⟨gb399,2,none⟩) (qn14 (p:=⟨gb399,1,none⟩) (qn14 (p:=⟨gb399,0,none⟩) (Kd.R_types HO398.out BK399.out (by decide)) (fun _ hk => hk.2) (.int .i64 t391)) (fun _ hk => hk.2) (.int .i64 t392)) (fun _ hk => hk.2) (.slice Ao47 t393.length co47)) (fun _ hk => hk.2) (.slice Ao48 t396.length co48)) (fun _ h_ => h_.1))) (Kd.R_base ho1) hb);have n6_:=qk14 (Kd.S_lower (Kd.S_new' (Kd.S_new' (Kd.S_new' ho0 (Kd.S_lt (by (with_reducible repeat (first|apply Kd.S_alloc|apply Kd.S_drewN|apply Kd.S_drew));exact (Kd.S_mono (Kd.S_far (p:=⟨gb399,3,none⟩) (Kd.S_far (p:=⟨gb399,2,none⟩) (Kd.S_far (p:=⟨gb399,1,none⟩) (Kd.S_far (p:=⟨gb399,0,none⟩) (Kd.S_types HO377.out BK399.out (by decide)) (fun _ hk => hk.2) (.int .i64 t391)) (fun _ hk => hk.2) (.int .i64 t392)) (fun _ hk => hk.2) (.slice Ao47 t393.length co47)) (fun _ hk => hk.2) (.slice Ao48 t396.length co48)) (fun _ h_ => h_.1))))) (Kd.S_lt (by (with_reducible repeat (first|apply Kd.S_alloc|apply Kd.S_drewN|apply Kd.S_drew));exact (Kd.S_mono (Kd.S_far (p:=⟨gb399,3,none⟩) (Kd.S_far (p:=⟨gb399,2,none⟩) (Kd.S_far (p:=⟨gb399,1,none⟩) (Kd.S_far (p:=⟨gb399,0,none⟩) (Kd.S_types HO385.out BK399.out (by decide)) (fun _ hk => hk.2) (.int .i64 t391)) (fun _ hk => hk.2) (.int .i64 t392)) (fun _ hk => hk.2) (.slice Ao47 t393.length co47)) (fun _ hk => hk.2) (.slice Ao48 t396.length co48)) (fun _ h_ => h_.1))))) (Kd.S_lt (by (with_reducible repeat (first|apply Kd.S_alloc|apply Kd.S_drewN|apply Kd.S_drew));exact (Kd.S_mono (Kd.S_far (p:=⟨gb399,3,none⟩) (Kd.S_far (p:=⟨gb399,2,none⟩) (Kd.S_far (p:=⟨gb399,1,none⟩) (Kd.S_far (p:=⟨gb399,0,none⟩) (Kd.S_types HO395.out BK399.out (by decide)) (fun _ hk => hk.2) (.int .i64 t391)) (fun _ hk => hk.2) (.int .i64 t392)) (fun _ hk => hk.2) (.slice Ao47 t393.length co47)) (fun _ hk => hk.2) (.slice Ao48 t396.length co48)) (fun _ h_ => h_.1))))) (qm14 (by repeat (first|(with_reducible first|exact HB.out|apply qg14|apply qh14|apply qi14|refine qj14 ?_ GE369.out|refine qj14 ?_ GE370.out|refine qj14 ?_ GE399.out)|exact HB.out))));have n7_:=qk14 (Kd.R_lower (Kd.R_new' (Kd.R_new' (Kd.R_new' ho1 (Kd.R_lt (by (with_reducible repeat (first|apply qd14|apply qe14|apply qf14));exact (Kd.R_mono (qn14 (p:=⟨gb399,3,none⟩) (qn14 (p:=⟨gb399,2,none⟩) (qn14 (p:=⟨gb399,1,none⟩) (qn14 (p:=⟨gb399,0,none⟩) (Kd.R_types HO380.out BK399.out (by decide)) (fun _ hk => hk.2) (.int .i64 t391)) (fun _ hk => hk.2) (.int .i64 t392)) (fun _ hk => hk.2) (.slice Ao47 t393.length co47)) (fun _ hk => hk.2) (.slice Ao48 t396.length co48)) (fun _ h_ => h_.1))))) (Kd.R_lt (by (with_reducible repeat (first|apply qd14|apply qe14|apply qf14));exact (Kd.R_mono (qn14 (p:=⟨gb399,3,none⟩) (qn14 (p:=⟨gb399,2,none⟩) (qn14 (p:=⟨gb399,1,none⟩) (qn14 (p:=⟨gb399,0,none⟩) (Kd.R_types HO388.out BK399.out (by decide)) (fun _ hk => hk.2) (.int .i64 t391)) (fun _ hk => hk.2) (.int .i64 t392)) (fun _ hk => hk.2) (.slice Ao47 t393.length co47)) (fun _ hk => hk.2) (.slice Ao48 t396.length co48)) (fun _ h_ => h_.1))))) (Kd.R_lt (by (with_reducible repeat (first|apply qd14|apply qe14|apply qf14));exact (Kd.R_mono (qn14 (p:=⟨gb399,3,none⟩) (qn14 (p:=⟨gb399,2,none⟩) (qn14 (p:=⟨gb399,1,none⟩) (qn14 (p:=⟨gb399,0,none⟩) (Kd.R_types HO398.out BK399.out (by decide)) (fun _ hk => hk.2) (.int .i64 t391)) (fun _ hk => hk.2) (.int .i64 t392)) (fun _ hk => hk.2) (.slice Ao47 t393.length co47)) (fun _ hk => hk.2) (.slice Ao48 t396.length co48)) (fun _ h_ => h_.1))))) (qm14 (by repeat (first|(with_reducible first|exact HB.out|apply qg14|apply qh14|apply qi14|refine qj14 ?_ GE369.out|refine qj14 ?_ GE370.out|refine qj14 ?_ GE399.out)|exact HB.out))));have n8_:=qk14 (ql14 (g:=gb369) (o:=.cells #[.int .i64 a0_0,.int .i64 a0_1,.slice A0_2 l0_2.length c0_2,.slice A0_3 l0_3.length c0_3] 25 (0,0)) (by (with_reducible repeat (first|apply qa14|apply qb14|apply qc14));refine blk_far ?_ NB369_399.out _;(with_reducible repeat (first|apply qa14|apply qb14|apply qc14));refine blk_far ?_ NB369_399.out _;(with_reducible repeat (first|apply qa14|apply qb14|apply qc14));refine blk_far ?_ NB369_399.out _;(with_reducible repeat (first|apply qa14|apply qb14|apply qc14));refine blk_far ?_ NB369_399.out _;(with_reducible repeat (first|apply qa14|apply qb14|apply qc14));exact BK369.out) hb);have n9_:=qk14 (ql14 (g:=gb370) (o:=.cells #[.int .i64 a1_0,.int .i64 a1_1,.slice A1_2 l1_2.length c1_2,.slice A1_3 l1_3.length c1_3] 25 (0,0)) (by (with_reducible repeat (first|apply qa14|apply qb14|apply qc14));refine blk_far ?_ NB370_399.out _;(with_reducible repeat (first|apply qa14|apply qb14|apply qc14));refine blk_far ?_ NB370_399.out _;(with_reducible repeat (first|apply qa14|apply qb14|apply qc14));refine blk_far ?_ NB370_399.out _;(with_reducible repeat (first|apply qa14|apply qb14|apply qc14));refine blk_far ?_ NB370_399.out _;(with_reducible repeat (first|apply qa14|apply qb14|apply qc14));exact BK370.out) hb);have n10_:=qk14 (ql14 (g:=gb399) (o:=.cells #[.int .i64 t391,.int .i64 t392,.slice Ao47 t393.length co47,.slice Ao48 t396.length co48] 31 (0,0)) (by (with_reducible repeat (first|apply qa14|apply qb14|apply qc14));refine blk_put (cs:=#[.int .i64 t391,.int .i64 t392,.slice Ao47 t393.length co47,.slice none 0 0]) ?_ 3 _ rfl;(with_reducible repeat (first|apply qa14|apply qb14|apply qc14));refine blk_put (cs:=#[.int .i64 t391,.int .i64 t392,.slice none 0 0,.slice none 0 0]) ?_ 2 _ rfl;(with_reducible repeat (first|apply qa14|apply qb14|apply qc14));refine blk_put (cs:=#[.int .i64 t391,.int .i64 0,.slice none 0 0,.slice none 0 0]) ?_ 1 _ rfl;(with_reducible repeat (first|apply qa14|apply qb14|apply qc14));refine blk_put (cs:=#[.int .i64 0,.int .i64 0,.slice none 0 0,.slice none 0 0]) ?_ 0 _ rfl;(with_reducible repeat (first|apply qa14|apply qb14|apply qc14));exact BK399.out) hb);have n11_:=qk14 (sN (by repeat (first|(with_reducible first|exact HB.out|apply qg14|apply qh14|apply qi14|refine qj14 ?_ GE369.out|refine qj14 ?_ GE370.out|refine qj14 ?_ GE399.out)|exact HB.out)) hb);clear HO377;clear HO380;clear HO385;clear HO388;clear HO395;clear HO398;clear BK369;clear BK370;clear BK399;clear HB;have HO377:=n0_;have HO380:=n1_;have HO385:=n2_;have HO388:=n3_;have HO395:=n4_;have HO398:=n5_;have HO404:=n6_;have HO407:=n7_;have BK369:=n8_;have BK370:=n9_;have BK399:=n10_;have HB:=n11_;clear n0_ n1_ n2_ n3_ n4_ n5_ n6_ n7_ n8_ n9_ n10_ n11_;(try clear hb);(try clear hb2);(try clear hk);(try clear hi);(try clear ho0);(try clear ho1))|((with_reducible refine gate_dst (N:=9) rfl ?_);refine box_event ?hg (N:=9) ?hd (cs:=#[.int .i64 0,.int .i64 0,.slice none 0 0,.slice none 0 0]) (t:=31) ?hr ?_;(case hd => rfl);(case hg => rfl);(case hr => first|(go_simp;done)|(go_simp;rfl));intro gb408 hg w51 hbox hb;have n0_:=qk14 (Kd.S_below (by (with_reducible repeat (first|apply Kd.S_alloc|apply Kd.S_drewN|apply Kd.S_drew));exact HO377.out) hb);have n1_:=qk14 (Kd.R_below (by (with_reducible repeat (first|apply qd14|apply qe14|apply qf14));exact HO380.out) hb);have n2_:=qk14 (Kd.S_below (by (with_reducible repeat (first|apply Kd.S_alloc|apply Kd.S_drewN|apply Kd.S_drew));exact HO385.out) hb);have n3_:=qk14 (Kd.R_below (by (with_reducible repeat (first|apply qd14|apply qe14|apply qf14));exact HO388.out) hb);have n4_:=qk14 (Kd.S_below (by (with_reducible repeat (first|apply Kd.S_alloc|apply Kd.S_drewN|apply Kd.S_drew));exact HO395.out) hb);have n5_:=qk14 (Kd.R_below (by (with_reducible repeat (first|apply qd14|apply qe14|apply qf14));exact HO398.out) hb);have n6_:=qk14 (Kd.S_below (by (with_reducible repeat (first|apply Kd.S_alloc|apply Kd.S_drewN|apply Kd.S_drew));exact HO404.out) hb);have n7_:=qk14 (Kd.R_below (by (with_reducible repeat (first|apply qd14|apply qe14|apply qf14));exact HO407.out) hb);have n8_:=qk14 (ql14 (g:=gb369) (o:=.cells #[.int .i64 a0_0,.int .i64 a0_1,.slice A0_2 l0_2.length c0_2,.slice A0_3 l0_3.length c0_3] 25 (0,0)) (by (with_reducible repeat (first|apply qa14|apply qb14|apply qc14));exact BK369.out) hb);have n9_:=qk14 (ql14 (g:=gb370) (o:=.cells #[.int .i64 a1_0,.int .i64 a1_1,.slice A1_2 l1_2.length c1_2,.slice A1_3 l1_3.length c1_3] 25 (0,0)) (by (with_reducible repeat (first|apply qa14|apply qb14|apply qc14));exact BK370.out) hb);have n10_:=qk14 (ql14 (g:=gb399) (o:=.cells #[.int .i64 t391,.int .i64 t392,.slice Ao47 t393.length co47,.slice Ao48 t396.length co48] 31 (0,0)) (by (with_reducible repeat (first|apply qa14|apply qb14|apply qc14));exact BK399.out) hb);have n11_:=qk14 (sN (by repeat (first|(with_reducible first|exact HB.out|apply qg14|apply qh14|apply qi14|refine qj14 ?_ GE369.out|refine qj14 ?_ GE370.out|refine qj14 ?_ GE399.out)|exact HB.out)) hb);have n12_:=qk14 (hbox);have n13_:=qk14 ((by rw [hg];exact (qm14 (by repeat (first|(with_reducible first|exact HB.out|apply qg14|apply qh14|apply qi14|refine qj14 ?_ GE369.out|refine qj14 ?_ GE370.out|refine qj14 ?_ GE399.out)|exact HB.out))) : w.heap.size ≤ gb408));have n14_:=qk14 ((by rw [hg];exact (qm14 (by repeat (first|(with_reducible first|exact HB.out|apply qg14|apply qh14|apply qi14|refine qj14 ?_ GE369.out|refine qj14 ?_ GE370.out|refine qj14 ?_ GE399.out)|exact HB.out))) : w.heap.size ≤ gb408));have n15_:=qk14 ((by rw [hg];exact Nat.ne_of_lt (blk_lt (g:=gb369) (o:=.cells #[.int .i64 a0_0,.int .i64 a0_1,.slice A0_2 l0_2.length c0_2,.slice A0_3 l0_3.length c0_3] 25 (0,0)) (by (with_reducible repeat (first|apply qa14|apply qb14|apply qc14));exact BK369.out)) : gb369 ≠ gb408));have n16_:=qk14 ((by rw [hg];exact Nat.ne_of_gt (blk_lt (g:=gb369) (o:=.cells #[.int .i64 a0_0,.int .i64 a0_1,.slice A0_2 l0_2.length c0_2,.slice A0_3 l0_3.length c0_3] 25 (0,0)) (by (with_reducible repeat (first|apply qa14|apply qb14|apply qc14));exact BK369.out)) : gb408 ≠ gb369));have n17_:=qk14 ((by rw [hg];exact Nat.ne_of_lt (blk_lt (g:=gb370) (o:=.cells #[.int .i64 a1_0,.int .i64 a1_1,.slice A1_2 l1_2.length c1_2,.slice A1_3 l1_3.length c1_3] 25 (0,0)) (by (with_reducible repeat (first|apply qa14|apply qb14|apply qc14));exact BK370.out)) : gb370 ≠ gb408));have n18_:=qk14 ((by rw [hg];exact Nat.ne_of_gt (blk_lt (g:=gb370) (o:=.cells #[.int .i64 a1_0,.int .i64 a1_1,.slice A1_2 l1_2.length c1_2,.slice A1_3 l1_3.length c1_3] 25 (0,0)) (by (with_reducible repeat (first|apply qa14|apply qb14|apply qc14));exact BK370.out)) : gb408 ≠ gb370));have n19_:=qk14 ((by rw [hg];exact Nat.ne_of_lt (blk_lt (g:=gb399) (o:=.cells #[.int .i64 t391,.int .i64 t392,.slice Ao47 t393.length co47,.slice Ao48 t396.length co48] 31 (0,0)) (by (with_reducible repeat (first|apply qa14|apply qb14|apply qc14));exact BK399.out)) : gb399 ≠ gb408));have n20_:=qk14 ((by rw [hg];exact Nat.ne_of_gt (blk_lt (g:=gb399) (o:=.cells #[.int .i64 t391,.int .i64 t392,.slice Ao47 t393.length co47,.slice Ao48 t396.length co48] 31 (0,0)) (by (with_reducible repeat (first|apply qa14|apply qb14|apply qc14));exact BK399.out)) : gb408 ≠ gb399));clear HO377;clear HO380;clear HO385;clear HO388;clear HO395;clear HO398;clear HO404;clear HO407;clear BK369;clear BK370;clear BK399;clear HB;have HO377:=n0_;have HO380:=n1_;have HO385:=n2_;have HO388:=n3_;have HO395:=n4_;have HO398:=n5_;have HO404:=n6_;have HO407:=n7_;have BK369:=n8_;have BK370:=n9_;have BK399:=n10_;have HB:=n11_;have BK408:=n12_;have GW408:=n13_;have GE408:=n14_;have NB369_408:=n15_;have NB408_369:=n16_;have NB370_408:=n17_;have NB408_370:=n18_;have NB399_408:=n19_;have NB408_399:=n20_;clear n0_ n1_ n2_ n3_ n4_ n5_ n6_ n7_ n8_ n9_ n10_ n11_ n12_ n13_ n14_ n15_ n16_ n17_ n18_ n19_ n20_;clear hb hbox hg;have hnb52:=NB408_369.out;have hnc52:=NB369_408.out;have hnb53:=NB408_370.out;have hnc53:=NB370_408.out;have hnb54:=NB408_399.out;have hnc54:=NB399_408.out;have hcz55_0 : w51.cell? ⟨gb408,0,none⟩ = some (.int .i64 0):=(blk_cell BK408.out 0).trans rfl;have hcz55_1 : w51.cell? ⟨gb408,1,none⟩ = some (.int .i64 0):=(blk_cell BK408.out 1).trans rfl;have hcz55_2 : w51.cell? ⟨gb408,2,none⟩ = some (.slice none 0 0):=(blk_cell BK408.out 2).trans rfl;have hcz55_3 : w51.cell? ⟨gb408,3,none⟩ = some (.slice none 0 0):=(blk_cell BK408.out 3).trans rfl;have hfz55_0:=sJ BK408.out 0;have hfz55_1:=sJ BK408.out 1;have hfz55_2:=sJ BK408.out 2;have hfz55_3:=sJ BK408.out 3;obtain ⟨Ao56,co56,eo56⟩:=Kd.S_slice HO404.out;subst eo56;obtain ⟨Ao57,co57,eo57⟩:=Kd.R_slice HO407.out;subst eo57;have hcz58_0 : w51.cell? ⟨gb399,0,none⟩ = some (.int .i64 t391):=(blk_cell BK399.out 0).trans rfl;have hcz58_1 : w51.cell? ⟨gb399,1,none⟩ = some (.int .i64 t392):=(blk_cell BK399.out 1).trans rfl;have hcz58_2 : w51.cell? ⟨gb399,2,none⟩ = some (.slice Ao47 t393.length co47):=(blk_cell BK399.out 2).trans rfl;have hcz58_3 : w51.cell? ⟨gb399,3,none⟩ = some (.slice Ao48 t396.length co48):=(blk_cell BK399.out 3).trans rfl;have hfz58_0:=sJ BK399.out 0;have hfz58_1:=sJ BK399.out 1;have hfz58_2:=sJ BK399.out 2;have hfz58_3:=sJ BK399.out 3)|((with_reducible refine gate_callee (f:=14) rfl ?_);refine goesL_ (some 37) rfl rfl Try.func14 (by kernel_rfl) rfl #[.agg #[.int .i64 t391,.int .i64 t392,.slice Ao47 t393.length co47,.slice Ao48 t396.length co48],.agg #[.int .i64 t400,.int .i64 t401,.slice Ao56 t402.length co56,.slice Ao57 t405.length co57]] rfl (by (try simp only [sE,sH,sI]);first|done|rfl|(simp only [sG,sF];rfl)) ?_;(with_reducible refine (impl_SameTable.calls k t391 t392 _ _ t393 _ _ t396 t400 t401 _ _ t402 _ _ t405 t409 t410 _ ?side1 ?side2 ?side3 ?side4 ?side5 ?side6 ?side7 ?side8 A24.out).mono ?_);(case side1 => refine (Kd.S_reads' (e:=70) (base:=w.heap.size) (ok:=fun k_ => (((True ∧ some k_ ≠ (.slice Ao36 t375.length co36 : Value).ownBlock) ∧ some k_ ≠ (.slice Ao38 t383.length co38 : Value).ownBlock) ∧ some k_ ≠ (.slice Ao56 t402.length co56 : Value).ownBlock)) (n:=t393.length) (c:=co47) ?_).2.2;exact (by (with_reducible repeat (first|apply Kd.S_alloc|apply Kd.S_drewN|apply Kd.S_drew));exact (Kd.S_mono (Kd.S_far (p:=⟨gb408,3,none⟩) (Kd.S_far (p:=⟨gb408,2,none⟩) (Kd.S_far (p:=⟨gb408,1,none⟩) (Kd.S_far (p:=⟨gb408,0,none⟩) (Kd.S_types HO395.out BK408.out (by decide)) (fun _ hk => hk.2) (.int .i64 t400)) (fun _ hk => hk.2) (.int .i64 t401)) (fun _ hk => hk.2) (.slice Ao56 t402.length co56)) (fun _ hk => hk.2) (.slice Ao57 t405.length co57)) (fun _ h_ => h_.1))));(case side2 => exact (Kd.S_reads' HO395.out).2.1);(case side3 => refine (Kd.R_reads' (e:=77) (base:=w.heap.size) (ok:=fun k_ => (((True ∧ some k_ ≠ (.slice Ao37 t378.length co37 : Value).ownBlock) ∧ some k_ ≠ (.slice Ao39 t386.length co39 : Value).ownBlock) ∧ some k_ ≠ (.slice Ao57 t405.length co57 : Value).ownBlock)) (n:=t396.length) (c:=co48) ?_).2.2;exact (by (with_reducible repeat (first|apply qd14|apply qe14|apply qf14));exact (Kd.R_mono (qn14 (p:=⟨gb408,3,none⟩) (qn14 (p:=⟨gb408,2,none⟩) (qn14 (p:=⟨gb408,1,none⟩) (qn14 (p:=⟨gb408,0,none⟩) (Kd.R_types HO398.out BK408.out (by decide)) (fun _ hk => hk.2) (.int .i64 t400)) (fun _ hk => hk.2) (.int .i64 t401)) (fun _ hk => hk.2) (.slice Ao56 t402.length co56)) (fun _ hk => hk.2) (.slice Ao57 t405.length co57)) (fun _ h_ => h_.1))));(case side4 => exact (Kd.R_reads' HO398.out).2.1);(case side5 => refine (Kd.S_reads' (e:=70) (base:=w.heap.size) (ok:=fun k_ => (((True ∧ some k_ ≠ (.slice Ao36 t375.length co36 : Value).ownBlock) ∧ some k_ ≠ (.slice Ao38 t383.length co38 : Value).ownBlock) ∧ some k_ ≠ (.slice Ao47 t393.length co47 : Value).ownBlock)) (n:=t402.length) (c:=co56) ?_).2.2;exact (by (with_reducible repeat (first|apply Kd.S_alloc|apply Kd.S_drewN|apply Kd.S_drew));exact (Kd.S_mono (Kd.S_far (p:=⟨gb408,3,none⟩) (Kd.S_far (p:=⟨gb408,2,none⟩) (Kd.S_far (p:=⟨gb408,1,none⟩) (Kd.S_far (p:=⟨gb408,0,none⟩) (Kd.S_types HO404.out BK408.out (by decide)) (fun _ hk => hk.2) (.int .i64 t400)) (fun _ hk => hk.2) (.int .i64 t401)) (fun _ hk => hk.2) (.slice Ao56 t402.length co56)) (fun _ hk => hk.2) (.slice Ao57 t405.length co57)) (fun _ h_ => h_.1))));(case side6 => exact (Kd.S_reads' HO404.out).2.1);(case side7 => refine (Kd.R_reads' (e:=77) (base:=w.heap.size) (ok:=fun k_ => (((True ∧ some k_ ≠ (.slice Ao37 t378.length co37 : Value).ownBlock) ∧ some k_ ≠ (.slice Ao39 t386.length co39 : Value).ownBlock) ∧ some k_ ≠ (.slice Ao48 t396.length co48 : Value).ownBlock)) (n:=t405.length) (c:=co57) ?_).2.2;exact (by (with_reducible repeat (first|apply qd14|apply qe14|apply qf14));exact (Kd.R_mono (qn14 (p:=⟨gb408,3,none⟩) (qn14 (p:=⟨gb408,2,none⟩) (qn14 (p:=⟨gb408,1,none⟩) (qn14 (p:=⟨gb408,0,none⟩) (Kd.R_types HO407.out BK408.out (by decide)) (fun _ hk => hk.2) (.int .i64 t400)) (fun _ hk => hk.2) (.int .i64 t401)) (fun _ hk => hk.2) (.slice Ao56 t402.length co56)) (fun _ hk => hk.2) (.slice Ao57 t405.length co57)) (fun _ h_ => h_.1))));(case side8 => exact (Kd.R_reads' HO407.out).2.1);rintro e w59 ⟨rfl,hb⟩;refine ⟨_,rfl,?_⟩;have n0_:=qk14 (Kd.S_below (by (with_reducible repeat (first|apply Kd.S_alloc|apply Kd.S_drewN|apply Kd.S_drew));exact (Kd.S_mono (Kd.S_far (p:=⟨gb408,3,none⟩) (Kd.S_far (p:=⟨gb408,2,none⟩) (Kd.S_far (p:=⟨gb408,1,none⟩) (Kd.S_far (p:=⟨gb408,0,none⟩) (Kd.S_types HO377.out BK408.out (by decide)) (fun _ hk => hk.2) (.int .i64 t400)) (fun _ hk => hk.2) (.int .i64 t401)) (fun _ hk => hk.2) (.slice Ao56 t402.length co56)) (fun _ hk => hk.2) (.slice Ao57 t405.length co57)) (fun _ h_ => h_.1))) hb);have n1_:=qk14 (Kd.R_below (by (with_reducible repeat (first|apply qd14|apply qe14|apply qf14));exact (Kd.R_mono (qn14 (p:=⟨gb408,3,none⟩) (qn14 (p:=⟨gb408,2,none⟩) (qn14 (p:=⟨gb408,1,none⟩) (qn14 (p:=⟨gb408,0,none⟩) (Kd.R_types HO380.out BK408.out (by decide)) (fun _ hk => hk.2) (.int .i64 t400)) (fun _ hk => hk.2) (.int .i64 t401)) (fun _ hk => hk.2) (.slice Ao56 t402.length co56)) (fun _ hk => hk.2) (.slice Ao57 t405.length co57)) (fun _ h_ => h_.1))) hb);have n2_:=qk14 (Kd.S_below (by (with_reducible repeat (first|apply Kd.S_alloc|apply Kd.S_drewN|apply Kd.S_drew));exact (Kd.S_mono (Kd.S_far (p:=⟨gb408,3,none⟩) (Kd.S_far (p:=⟨gb408,2,none⟩) (Kd.S_far (p:=⟨gb408,1,none⟩) (Kd.S_far (p:=⟨gb408,0,none⟩) (Kd.S_types HO385.out BK408.out (by decide)) (fun _ hk => hk.2) (.int .i64 t400)) (fun _ hk => hk.2) (.int .i64 t401)) (fun _ hk => hk.2) (.slice Ao56 t402.length co56)) (fun _ hk => hk.2) (.slice Ao57 t405.length co57)) (fun _ h_ => h_.1))) hb);have n3_:=qk14 (Kd.R_below (by (with_reducible repeat (first|apply qd14|apply qe14|apply qf14));exact (Kd.R_mono (qn14 (p:=⟨gb408,3,none⟩) (qn14 (p:=⟨gb408,2,none⟩) (qn14 (p:=⟨gb408,1,none⟩) (qn14 (p:=⟨gb408,0,none⟩) (Kd.R_types HO388.out BK408.out (by decide)) (fun _ hk => hk.2) (.int .i64 t400)) (fun _ hk => hk.2) (.int .i64 t401)) (fun _ hk => hk.2) (.slice Ao56 t402.length co56)) (fun _ hk => hk.2) (.slice Ao57 t405.length co57)) (fun _ h_ => h_.1))) hb);have n4_:=qk14 (Kd.S_below (by (with_reducible repeat (first|apply Kd.S_alloc|apply Kd.S_drewN|apply Kd.S_drew));exact (Kd.S_mono (Kd.S_far (p:=⟨gb408,3,none⟩) (Kd.S_far (p:=⟨gb408,2,none⟩) (Kd.S_far (p:=⟨gb408,1,none⟩) (Kd.S_far (p:=⟨gb408,0,none⟩) (Kd.S_types HO395.out BK408.out (by decide)) (fun _ hk => hk.2) (.int .i64 t400)) (fun _ hk => hk.2) (.int .i64 t401)) (fun _ hk => hk.2) (.slice Ao56 t402.length co56)) (fun _ hk => hk.2) (.slice Ao57 t405.length co57)) (fun _ h_ => h_.1))) hb);have n5_:=qk14 (Kd.R_below (by (with_reducible repeat (first|apply qd14|apply qe14|apply qf14));exact (Kd.R_mono (qn14 (p:=⟨gb408,3,none⟩) (qn14 (p:=⟨gb408,2,none⟩) (qn14 (p:=⟨gb408,1,none⟩) (qn14 (p:=⟨gb408,0,none⟩) (Kd.R_types HO398.out BK408.out (by decide)) (fun _ hk => hk.2) (.int .i64 t400)) (fun _ hk => hk.2) (.int .i64 t401)) (fun _ hk => hk.2) (.slice Ao56 t402.length co56)) (fun _ hk => hk.2) (.slice Ao57 t405.length co57)) (fun _ h_ => h_.1))) hb);have n6_:=qk14 (Kd.S_below (by (with_reducible repeat (first|apply Kd.S_alloc|apply Kd.S_drewN|apply Kd.S_drew));exact (Kd.S_mono (Kd.S_far (p:=⟨gb408,3,none⟩) (Kd.S_far (p:=⟨gb408,2,none⟩) (Kd.S_far (p:=⟨gb408,1,none⟩) (Kd.S_far (p:=⟨gb408,0,none⟩) (Kd.S_types HO404.out BK408.out (by decide)) (fun _ hk => hk.2) (.int .i64 t400)) (fun _ hk => hk.2) (.int .i64 t401)) (fun _ hk => hk.2) (.slice Ao56 t402.length co56)) (fun _ hk => hk.2) (.slice Ao57 t405.length co57)) (fun _ h_ => h_.1))) hb);have n7_:=qk14 (Kd.R_below (by (with_reducible repeat (first|apply qd14|apply qe14|apply qf14));exact (Kd.R_mono (qn14 (p:=⟨gb408,3,none⟩) (qn14 (p:=⟨gb408,2,none⟩) (qn14 (p:=⟨gb408,1,none⟩) (qn14 (p:=⟨gb408,0,none⟩) (Kd.R_types HO407.out BK408.out (by decide)) (fun _ hk => hk.2) (.int .i64 t400)) (fun _ hk => hk.2) (.int .i64 t401)) (fun _ hk => hk.2) (.slice Ao56 t402.length co56)) (fun _ hk => hk.2) (.slice Ao57 t405.length co57)) (fun _ h_ => h_.1))) hb);have n8_:=qk14 (ql14 (g:=gb369) (o:=.cells #[.int .i64 a0_0,.int .i64 a0_1,.slice A0_2 l0_2.length c0_2,.slice A0_3 l0_3.length c0_3] 25 (0,0)) (by (with_reducible repeat (first|apply qa14|apply qb14|apply qc14));refine blk_far ?_ NB369_408.out _;(with_reducible repeat (first|apply qa14|apply qb14|apply qc14));refine blk_far ?_ NB369_408.out _;(with_reducible repeat (first|apply qa14|apply qb14|apply qc14));refine blk_far ?_ NB369_408.out _;(with_reducible repeat (first|apply qa14|apply qb14|apply qc14));refine blk_far ?_ NB369_408.out _;(with_reducible repeat (first|apply qa14|apply qb14|apply qc14));exact BK369.out) hb);have n9_:=qk14 (ql14 (g:=gb370) (o:=.cells #[.int .i64 a1_0,.int .i64 a1_1,.slice A1_2 l1_2.length c1_2,.slice A1_3 l1_3.length c1_3] 25 (0,0)) (by (with_reducible repeat (first|apply qa14|apply qb14|apply qc14));refine blk_far ?_ NB370_408.out _;(with_reducible repeat (first|apply qa14|apply qb14|apply qc14));refine blk_far ?_ NB370_408.out _;(with_reducible repeat (first|apply qa14|apply qb14|apply qc14));refine blk_far ?_ NB370_408.out _;(with_reducible repeat (first|apply qa14|apply qb14|apply qc14));refine blk_far ?_ NB370_408.out _;(with_reducible repeat (first|apply qa14|apply qb14|apply qc14));exact BK370.out) hb);have n10_:=qk14 (ql14 (g:=gb399) (o:=.cells #[.int .i64 t391,.int .i64 t392,.slice Ao47 t393.length co47,.slice Ao48 t396.length co48] 31 (0,0)) (by (with_reducible repeat (first|apply qa14|apply qb14|apply qc14));refine blk_far ?_ NB399_408.out _;(with_reducible repeat (first|apply qa14|apply qb14|apply qc14));refine blk_far ?_ NB399_408.out _;(with_reducible repeat (first|apply qa14|apply qb14|apply qc14));refine blk_far ?_ NB399_408.out _;(with_reducible repeat (first|apply qa14|apply qb14|apply qc14));refine blk_far ?_ NB399_408.out _;(with_reducible repeat (first|apply qa14|apply qb14|apply qc14));exact BK399.out) hb);have n11_:=qk14 (ql14 (g:=gb408) (o:=.cells #[.int .i64 t400,.int .i64 t401,.slice Ao56 t402.length co56,.slice Ao57 t405.length co57] 31 (0,0)) (by (with_reducible repeat (first|apply qa14|apply qb14|apply qc14));refine blk_put (cs:=#[.int .i64 t400,.int .i64 t401,.slice Ao56 t402.length co56,.slice none 0 0]) ?_ 3 _ rfl;(with_reducible repeat (first|apply qa14|apply qb14|apply qc14));refine blk_put (cs:=#[.int .i64 t400,.int .i64 t401,.slice none 0 0,.slice none 0 0]) ?_ 2 _ rfl;(with_reducible repeat (first|apply qa14|apply qb14|apply qc14));refine blk_put (cs:=#[.int .i64 t400,.int .i64 0,.slice none 0 0,.slice none 0 0]) ?_ 1 _ rfl;(with_reducible repeat (first|apply qa14|apply qb14|apply qc14));refine blk_put (cs:=#[.int .i64 0,.int .i64 0,.slice none 0 0,.slice none 0 0]) ?_ 0 _ rfl;(with_reducible repeat (first|apply qa14|apply qb14|apply qc14));exact BK408.out) hb);have n12_:=qk14 (sN (by repeat (first|(with_reducible first|exact HB.out|apply qg14|apply qh14|apply qi14|refine qj14 ?_ GE369.out|refine qj14 ?_ GE370.out|refine qj14 ?_ GE399.out|refine qj14 ?_ GE408.out)|exact HB.out)) hb);clear HO377;clear HO380;clear HO385;clear HO388;clear HO395;clear HO398;clear HO404;clear HO407;clear BK369;clear BK370;clear BK399;clear BK408;clear HB;have HO377:=n0_;have HO380:=n1_;have HO385:=n2_;have HO388:=n3_;have HO395:=n4_;have HO398:=n5_;have HO404:=n6_;have HO407:=n7_;have BK369:=n8_;have BK370:=n9_;have BK399:=n10_;have BK408:=n11_;have HB:=n12_;clear n0_ n1_ n2_ n3_ n4_ n5_ n6_ n7_ n8_ n9_ n10_ n11_ n12_;(try clear hb);(try clear hb2);(try clear hk);(try clear hi)))
   (try simp only [Act.put,sA,sB,sC])
   go_cut [47] (fun v47 wc => ∃ (kq : Nat) (x47_24 : Bool),v47 = .bool x47_24 ∧ Aside0 (laws_FnExactSameTable.j0 kq x47_24 a0_0 a0_1 l0_2 l0_3 a1_0 a1_1 l1_2 l1_3 t391 t392 t393 t396 t400 t401 t402 t405 = some r) ∧ Aside0 (kq ≤ k) ∧ Aside0 (Kd.S k70 70 wc w.heap.size (fun k_ => some k_ ≠ ((.slice Ao56 t402.length co56) : Value).ownBlock) (.slice Ao47 t393.length co47) t393) ∧ Aside0 (Kd.R k77 77 wc w.heap.size (fun k_ => some k_ ≠ ((.slice Ao57 t405.length co57) : Value).ownBlock) (.slice Ao48 t396.length co48) t396) ∧ Aside0 (Kd.S k70 70 wc w.heap.size (fun k_ => some k_ ≠ ((.slice Ao47 t393.length co47) : Value).ownBlock) (.slice Ao56 t402.length co56) t402) ∧ Aside0 (Kd.R k77 77 wc w.heap.size (fun k_ => some k_ ≠ ((.slice Ao48 t396.length co48) : Value).ownBlock) (.slice Ao57 t405.length co57) t405) ∧ Aside0 (wc.heap[gb369]? = some (.cells #[.int .i64 a0_0,.int .i64 a0_1,(.slice A0_2 l0_2.length c0_2),(.slice A0_3 l0_3.length c0_3)] 25 (0,0))) ∧ Aside0 (wc.heap[gb370]? = some (.cells #[.int .i64 a1_0,.int .i64 a1_1,(.slice A1_2 l1_2.length c1_2),(.slice A1_3 l1_3.length c1_3)] 25 (0,0))) ∧ Aside0 (wc.heap[gb399]? = some (.cells #[.int .i64 t391,.int .i64 t392,(.slice Ao47 t393.length co47),(.slice Ao48 t396.length co48)] 31 (0,0))) ∧ Aside0 (wc.heap[gb408]? = some (.cells #[.int .i64 t400,.int .i64 t401,(.slice Ao56 t402.length co56),(.slice Ao57 t405.length co57)] 31 (0,0))) ∧ Aside0 (Below w.heap.size w wc))
   case first =>
    have H:=HC25.out
    clear HC25
    by_cases c60 : (t409 != t389) = true
    ·
     rw [if_pos c60] at H
     have c60b0 : (t409 != t389) = true:=c60
     (try (have c60b1 : decide (t409 = t389) = false:=by simpa using c60))
     (try (have c60b2 : (t409 == t389) = false:=by simpa using c60))
     (try (have c60b3 : ¬ (t409 = t389):=by simpa using c60))
     clear c60
     (first|rw [c60b0]|(simp only [i64_w,i32_w];rw [c60b0])|skip)
     have H':=qk14 H
     clear H
     go_wp2
     go_meet
     case rel => exact ⟨_,(true),(by first|rfl|(simp;done)|(simp [*];done)),H',⟨by first|omega|exact Nat.le_refl _⟩,⟨by (with_reducible repeat (first|apply Kd.S_alloc|apply Kd.S_drewN|apply Kd.S_drew));exact Kd.S_mono HO395.out (fun _ hk => hk.2)⟩,⟨by (with_reducible repeat (first|apply qd14|apply qe14|apply qf14));exact Kd.R_mono HO398.out (fun _ hk => hk.2)⟩,⟨by (with_reducible repeat (first|apply Kd.S_alloc|apply Kd.S_drewN|apply Kd.S_drew));exact Kd.S_mono HO404.out (fun _ hk => hk.2)⟩,⟨by (with_reducible repeat (first|apply qd14|apply qe14|apply qf14));exact Kd.R_mono HO407.out (fun _ hk => hk.2)⟩,⟨by (with_reducible repeat (first|apply qa14|apply qb14|apply qc14));exact BK369.out⟩,⟨by (with_reducible repeat (first|apply qa14|apply qb14|apply qc14));exact BK370.out⟩,⟨by (with_reducible repeat (first|apply qa14|apply qb14|apply qc14));exact BK399.out⟩,⟨by (with_reducible repeat (first|apply qa14|apply qb14|apply qc14));exact BK408.out⟩,⟨by repeat (first|(with_reducible first|exact HB.out|apply qg14|apply qh14|apply qi14|refine qj14 ?_ GE369.out|refine qj14 ?_ GE370.out|refine qj14 ?_ GE399.out|refine qj14 ?_ GE408.out)|exact HB.out)⟩⟩
    ·
     rw [if_neg c60] at H
     have c60b0 : (t409 != t389) = false:=by simpa using c60
     (try (have c60b1 : decide (t409 = t389) = true:=by simpa using c60))
     (try (have c60b2 : (t409 == t389) = true:=by simpa using c60))
     clear c60
     (first|rw [c60b0]|(simp only [i64_w,i32_w];rw [c60b0])|skip)
     have H':=qk14 H
     clear H
     go_wp2
     go_meet
     case rel => exact ⟨_,((t410 != t390)),(by first|rfl|(simp;done)|(simp [*];done)),H',⟨by first|omega|exact Nat.le_refl _⟩,⟨by (with_reducible repeat (first|apply Kd.S_alloc|apply Kd.S_drewN|apply Kd.S_drew));exact Kd.S_mono HO395.out (fun _ hk => hk.2)⟩,⟨by (with_reducible repeat (first|apply qd14|apply qe14|apply qf14));exact Kd.R_mono HO398.out (fun _ hk => hk.2)⟩,⟨by (with_reducible repeat (first|apply Kd.S_alloc|apply Kd.S_drewN|apply Kd.S_drew));exact Kd.S_mono HO404.out (fun _ hk => hk.2)⟩,⟨by (with_reducible repeat (first|apply qd14|apply qe14|apply qf14));exact Kd.R_mono HO407.out (fun _ hk => hk.2)⟩,⟨by (with_reducible repeat (first|apply qa14|apply qb14|apply qc14));exact BK369.out⟩,⟨by (with_reducible repeat (first|apply qa14|apply qb14|apply qc14));exact BK370.out⟩,⟨by (with_reducible repeat (first|apply qa14|apply qb14|apply qc14));exact BK399.out⟩,⟨by (with_reducible repeat (first|apply qa14|apply qb14|apply qc14));exact BK408.out⟩,⟨by repeat (first|(with_reducible first|exact HB.out|apply qg14|apply qh14|apply qi14|refine qj14 ?_ GE369.out|refine qj14 ?_ GE370.out|refine qj14 ?_ GE399.out|refine qj14 ?_ GE408.out)|exact HB.out)⟩⟩
   case rest =>
    clear HC25
    try clear c1
    try clear c2
    try clear p2
    try clear c4
    try clear c4b0
    try clear c5
    try clear c6
    try clear c7
    try clear c8
    try clear c10
    try clear c11
    try clear c11b0
    try clear c13
    try clear c14
    try clear c28
    try clear c44
    try clear c45
    try clear c52
    try clear c53
    try clear c54
    try clear c60
    try clear c60b0
    try clear c60b1
    try clear c60b2
    try clear hcz15_0
    try clear hcz15_1
    try clear hcz15_2
    try clear hcz15_3
    try clear hcz17_0
    try clear hcz17_1
    try clear hcz17_2
    try clear hcz17_3
    try clear hcz29_0
    try clear hcz29_1
    try clear hcz29_2
    try clear hcz29_3
    try clear hcz31_0
    try clear hcz31_1
    try clear hcz31_2
    try clear hcz31_3
    try clear hcz41_0
    try clear hcz41_1
    try clear hcz41_2
    try clear hcz41_3
    try clear hcz46_0
    try clear hcz46_1
    try clear hcz46_2
    try clear hcz46_3
    try clear hcz49_0
    try clear hcz49_1
    try clear hcz49_2
    try clear hcz49_3
    try clear hcz55_0
    try clear hcz55_1
    try clear hcz55_2
    try clear hcz55_3
    try clear hcz58_0
    try clear hcz58_1
    try clear hcz58_2
    try clear hcz58_3
    try clear hcz8_0
    try clear hcz8_1
    try clear hcz8_2
    try clear hcz8_3
    try clear hfz15_0
    try clear hfz15_1
    try clear hfz15_2
    try clear hfz15_3
    try clear hfz17_0
    try clear hfz17_1
    try clear hfz17_2
    try clear hfz17_3
    try clear hfz29_0
    try clear hfz29_1
    try clear hfz29_2
    try clear hfz29_3
    try clear hfz31_0
    try clear hfz31_1
    try clear hfz31_2
    try clear hfz31_3
    try clear hfz41_0
    try clear hfz41_1
    try clear hfz41_2
    try clear hfz41_3
    try clear hfz46_0
    try clear hfz46_1
    try clear hfz46_2
    try clear hfz46_3
    try clear hfz49_0
    try clear hfz49_1
    try clear hfz49_2
    try clear hfz49_3
    try clear hfz55_0
    try clear hfz55_1
    try clear hfz55_2
    try clear hfz55_3
    try clear hfz58_0
    try clear hfz58_1
    try clear hfz58_2
    try clear hfz58_3
    try clear hfz8_0
    try clear hfz8_1
    try clear hfz8_2
    try clear hfz8_3
    obtain ⟨kq,x47_24,rfl,HA,HJ24,HO_400002,HO_400003,HO_409002,HO_409003,BK369,BK370,BK399,BK408,HB⟩:=hcut
    cases kq with
    | zero => exact absurd HA.out (by simp [laws_FnExactSameTable.j0])
    | succ kj24 =>
     have H:=HA.out
     clear HA
     simp only [laws_FnExactSameTable.j0] at H
     by_cases c61 : x47_24 = true
     ·
      subst c61
      have H1 : (some false) = some r:=by rw [if_pos rfl] at H;exact H
      clear H
      have H:=H1
      clear H1
      obtain rfl:=sO H
      exact absurd hr_ (by decide)
     ·
      replace c61:=Bool.eq_false_iff.mpr c61
      subst c61
      have H1 : ((laws_toTable.f kj24 a0_0 a0_1 l0_2 l0_3).bind fun bt411 => ((laws_eqTable.f kj24 t391 t392 t393 t396 bt411.1 bt411.2.1 bt411.2.2.1 bt411.2.2.2).bind fun t419 => (if t419 = true then ((laws_toTable.f kj24 a1_0 a1_1 l1_2 l1_3).bind fun bt420 => ((laws_eqTable.f kj24 t400 t401 t402 t405 bt420.1 bt420.2.1 bt420.2.2.1 bt420.2.2.2).bind fun t428 => (if t428 = true then (some true) else (some false)))) else (some false)))) = some r:=by rw [if_neg (show ¬ (false = true) by decide)] at H;exact H
      clear H
      have H:=H1
      clear H1
      replace H:=Option.bind_eq_some_iff.mp H
      obtain ⟨⟨t411,t412,t413,t416⟩,A620,H⟩:=H
      replace H : ((laws_eqTable.f kj24 t391 t392 t393 t396 t411 t412 t413 t416).bind fun t419 => (if t419 = true then ((laws_toTable.f kj24 a1_0 a1_1 l1_2 l1_3).bind fun bt420 => ((laws_eqTable.f kj24 t400 t401 t402 t405 bt420.1 bt420.2.1 bt420.2.2.1 bt420.2.2.2).bind fun t428 => (if t428 = true then (some true) else (some false)))) else (some false))) = some r:=H
      have A62:=qk14 A620
      clear A620
      replace H:=Option.bind_eq_some_iff.mp H
      obtain ⟨t419,A630,H⟩:=H
      replace H : (if t419 = true then ((laws_toTable.f kj24 a1_0 a1_1 l1_2 l1_3).bind fun bt420 => ((laws_eqTable.f kj24 t400 t401 t402 t405 bt420.1 bt420.2.1 bt420.2.2.1 bt420.2.2.2).bind fun t428 => (if t428 = true then (some true) else (some false)))) else (some false)) = some r:=H
      have A63:=qk14 A630
      clear A630
      by_cases c64 : t419 = true
      ·
       subst c64
       have H1 : ((laws_toTable.f kj24 a1_0 a1_1 l1_2 l1_3).bind fun bt420 => ((laws_eqTable.f kj24 t400 t401 t402 t405 bt420.1 bt420.2.1 bt420.2.2.1 bt420.2.2.2).bind fun t428 => (if t428 = true then (some true) else (some false)))) = some r:=by rw [if_pos rfl] at H;exact H
       clear H
       have H:=H1
       clear H1
       replace H:=Option.bind_eq_some_iff.mp H
       obtain ⟨⟨t420,t421,t422,t425⟩,A650,H⟩:=H
       replace H : ((laws_eqTable.f kj24 t400 t401 t402 t405 t420 t421 t422 t425).bind fun t428 => (if t428 = true then (some true) else (some false))) = some r:=H
       have A65:=qk14 A650
       clear A650
       replace H:=Option.bind_eq_some_iff.mp H
       obtain ⟨t428,A660,H⟩:=H
       replace H : (if t428 = true then (some true) else (some false)) = some r:=H
       have A66:=qk14 A660
       clear A660
       by_cases c67 : t428 = true
       ·
        subst c67
        have H1 : (some true) = some r:=by rw [if_pos rfl] at H;exact H
        clear H
        have H:=H1
        clear H1
        obtain rfl:=sO H
        try go_wp2
        have n0_:=qk14 (Kd.S_drew HO_400002.out)
        have n1_:=qk14 (qf14 HO_400003.out)
        have n2_:=qk14 (Kd.S_drew HO_409002.out)
        have n3_:=qk14 (qf14 HO_409003.out)
        have n4_:=qk14 (qb14 BK369.out)
        have n5_:=qk14 (qb14 BK370.out)
        have n6_:=qk14 (qb14 BK399.out)
        have n7_:=qk14 (qb14 BK408.out)
        have n8_:=qk14 (qi14 HB.out)
        clear HO_400002
        clear HO_400003
        clear HO_409002
        clear HO_409003
        clear BK369
        clear BK370
        clear BK399
        clear BK408
        clear HB
        have HO_400002:=n0_
        have HO_400003:=n1_
        have HO_409002:=n2_
        have HO_409003:=n3_
        have BK369:=n4_
        have BK370:=n5_
        have BK399:=n6_
        have BK408:=n7_
        have HB:=n8_
        clear n0_ n1_ n2_ n3_ n4_ n5_ n6_ n7_ n8_
        refine start_ (n:=5) (S:=fun w' => w'.cell? ⟨gb399,0,none⟩ = some (.int .i64 t391) ∧ w'.cell? ⟨gb399,1,none⟩ = some (.int .i64 t392) ∧ w'.cell? ⟨gb399,2,none⟩ = some (.slice Ao47 t393.length co47) ∧ w'.cell? ⟨gb399,3,none⟩ = some (.slice Ao48 t396.length co48) ∧ w'.cell? ⟨gb369,0,none⟩ = some (.int .i64 a0_0) ∧ w'.cell? ⟨gb369,1,none⟩ = some (.int .i64 a0_1) ∧ w'.cell? ⟨gb369,2,none⟩ = some (.slice A0_2 l0_2.length c0_2) ∧ w'.cell? ⟨gb369,3,none⟩ = some (.slice A0_3 l0_3.length c0_3)) (ds:=[]) #[false,false,false,false,false] (by kernel_rfl) rfl rfl ⟨(blk_cell BK399.out 0).trans rfl,(blk_cell BK399.out 1).trans rfl,(blk_cell BK399.out 2).trans rfl,(blk_cell BK399.out 3).trans rfl,(blk_cell BK369.out 0).trans rfl,(blk_cell BK369.out 1).trans rfl,(blk_cell BK369.out 2).trans rfl,(blk_cell BK369.out 3).trans rfl⟩ (fun hHeld => ?_)
        generalize wc.drew = w68 at HO_400002 HO_400003 HO_409002 HO_409003 BK369 BK370 BK399 BK408 HB hHeld ⊢
        refine take_ (i:=0) (N:=some 48) (v:=?_) (a':=?_) #[true,false,false,false,false] rfl rfl (by kernel_rfl) (fun _ _ _ h => h) (Or.inl ⟨by rfl,?_⟩) hHeld ?_ ?_
        rotate_left
        ·
         rintro w' ⟨s0,s1,s2,s3,s4,s5,s6,s7⟩
         go_simp
         with_reducible rfl
        rotate_left
        ·
         simp only [Act.put,sA,sB,sC,i64_w,i32_w]
         rfl
        refine take_ (i:=1) (N:=some 49) (v:=?_) (a':=?_) #[true,true,false,false,false] rfl rfl (by kernel_rfl) (fun _ _ _ h => h) (Or.inl ⟨by rfl,?_⟩) hHeld ?_ ?_
        rotate_left
        ·
         rintro w' ⟨s0,s1,s2,s3,s4,s5,s6,s7⟩
         go_simp
         with_reducible rfl
        rotate_left
        ·
         simp only [Act.put,sA,sB,sC,i64_w,i32_w]
         rfl
        refine one_ (i:=2) (N:=some 50) #[true,true,true,false,false] rfl rfl (by kernel_rfl) (by decide) (fun K hK => ?_)
        refine goes_ Try.func10 (by kernel_rfl) rfl #[.agg #[.int .i64 a0_0,.int .i64 a0_1,.slice A0_2 l0_2.length c0_2,.slice A0_3 l0_3.length c0_3]] (by rfl) rfl rfl (by (try simp only [sE,sH,sI]);first|done|rfl|(simp only [sG,sF];rfl)) ?_
        with_reducible refine (laws_toTable.calls kj24 a0_0 a0_1 _ _ l0_2 _ _ l0_3 t411 t412 t413 t416 _ ?side1 ?side2 ?side3 ?side4 A62.out).mono ?_
        (case side1 => repeat (first|exact (Kd.C_below HR0_2.out HB.out)|(with_reducible refine Kd.C_alloc ?_ _)|(with_reducible refine Kd.C_drewN ?_ _)|(with_reducible refine Kd.C_drew ?_)))
        (case side2 => exact HC0_2.out)
        (case side3 => repeat (first|exact (Kd.C_below HR0_3.out HB.out)|(with_reducible refine Kd.C_alloc ?_ _)|(with_reducible refine Kd.C_drewN ?_ _)|(with_reducible refine Kd.C_drew ?_)))
        (case side4 => exact HC0_3.out)
        rintro e w69 ⟨v414,v417,rfl,ho0,ho1,hb⟩
        refine ⟨_,rfl,?_⟩
        have n0_:=qk14 (Kd.S_elder' (by (with_reducible repeat (first|apply Kd.S_alloc|apply Kd.S_drewN|apply Kd.S_drew));exact HO_400002.out) (Kd.S_base ho0) hb)
        have n1_:=qk14 (Kd.R_elder' (by (with_reducible repeat (first|apply qd14|apply qe14|apply qf14));exact HO_400003.out) (Kd.R_base ho1) hb)
        have n2_:=qk14 (Kd.S_elder' (by (with_reducible repeat (first|apply Kd.S_alloc|apply Kd.S_drewN|apply Kd.S_drew));exact HO_409002.out) (Kd.S_base ho0) hb)
        have n3_:=qk14 (Kd.R_elder' (by (with_reducible repeat (first|apply qd14|apply qe14|apply qf14));exact HO_409003.out) (Kd.R_base ho1) hb)
        have n4_:=qk14 (Kd.S_lower (Kd.S_new' (Kd.S_new' ho0 (Kd.S_lt (by (with_reducible repeat (first|apply Kd.S_alloc|apply Kd.S_drewN|apply Kd.S_drew));exact HO_400002.out))) (Kd.S_lt (by (with_reducible repeat (first|apply Kd.S_alloc|apply Kd.S_drewN|apply Kd.S_drew));exact HO_409002.out))) (qm14 (by repeat (first|(with_reducible first|exact HB.out|apply qg14|apply qh14|apply qi14|refine qj14 ?_ GE369.out|refine qj14 ?_ GE370.out|refine qj14 ?_ GE399.out|refine qj14 ?_ GE408.out)|exact HB.out))))
        have n5_:=qk14 (Kd.R_lower (Kd.R_new' (Kd.R_new' ho1 (Kd.R_lt (by (with_reducible repeat (first|apply qd14|apply qe14|apply qf14));exact HO_400003.out))) (Kd.R_lt (by (with_reducible repeat (first|apply qd14|apply qe14|apply qf14));exact HO_409003.out))) (qm14 (by repeat (first|(with_reducible first|exact HB.out|apply qg14|apply qh14|apply qi14|refine qj14 ?_ GE369.out|refine qj14 ?_ GE370.out|refine qj14 ?_ GE399.out|refine qj14 ?_ GE408.out)|exact HB.out))))
        have n6_:=qk14 (ql14 (g:=gb369) (o:=.cells #[.int .i64 a0_0,.int .i64 a0_1,.slice A0_2 l0_2.length c0_2,.slice A0_3 l0_3.length c0_3] 25 (0,0)) (by (with_reducible repeat (first|apply qa14|apply qb14|apply qc14));exact BK369.out) hb)
        have n7_:=qk14 (ql14 (g:=gb370) (o:=.cells #[.int .i64 a1_0,.int .i64 a1_1,.slice A1_2 l1_2.length c1_2,.slice A1_3 l1_3.length c1_3] 25 (0,0)) (by (with_reducible repeat (first|apply qa14|apply qb14|apply qc14));exact BK370.out) hb)
        have n8_:=qk14 (ql14 (g:=gb399) (o:=.cells #[.int .i64 t391,.int .i64 t392,.slice Ao47 t393.length co47,.slice Ao48 t396.length co48] 31 (0,0)) (by (with_reducible repeat (first|apply qa14|apply qb14|apply qc14));exact BK399.out) hb)
        have n9_:=qk14 (ql14 (g:=gb408) (o:=.cells #[.int .i64 t400,.int .i64 t401,.slice Ao56 t402.length co56,.slice Ao57 t405.length co57] 31 (0,0)) (by (with_reducible repeat (first|apply qa14|apply qb14|apply qc14));exact BK408.out) hb)
        have n10_:=qk14 (sN (by repeat (first|(with_reducible first|exact HB.out|apply qg14|apply qh14|apply qi14|refine qj14 ?_ GE369.out|refine qj14 ?_ GE370.out|refine qj14 ?_ GE399.out|refine qj14 ?_ GE408.out)|exact HB.out)) hb)
        clear HO_400002
        clear HO_400003
        clear HO_409002
        clear HO_409003
        clear BK369
        clear BK370
        clear BK399
        clear BK408
        clear HB
        have HO_400002:=n0_
        have HO_400003:=n1_
        have HO_409002:=n2_
        have HO_409003:=n3_
        have HO415:=n4_
        have HO418:=n5_
        have BK369:=n6_
        have BK370:=n7_
        have BK399:=n8_
        have BK408:=n9_
        have HB:=n10_
        clear n0_ n1_ n2_ n3_ n4_ n5_ n6_ n7_ n8_ n9_ n10_
        (try clear hb)
        (try clear hb2)
        (try clear hk)
        (try clear hi)
        (try clear ho0)
        (try clear ho1)
        obtain ⟨Ao70,co70,eo70⟩:=Kd.S_slice HO415.out
        (first|subst eo70|(injection eo70 with f1_ f2_ f3_;have f4_:=f1_.symm;have f5_:=f3_.symm;clear f1_ f2_ f3_;subst f4_;subst f5_))
        obtain ⟨Ao71,co71,eo71⟩:=Kd.R_slice HO418.out
        (first|subst eo71|(injection eo71 with f1_ f2_ f3_;have f4_:=f1_.symm;have f5_:=f3_.symm;clear f1_ f2_ f3_;subst f4_;subst f5_))
        refine hK.out _ _ ⟨(blk_cell BK399.out 0).trans rfl,(blk_cell BK399.out 1).trans rfl,(blk_cell BK399.out 2).trans rfl,(blk_cell BK399.out 3).trans rfl,(blk_cell BK369.out 0).trans rfl,(blk_cell BK369.out 1).trans rfl,(blk_cell BK369.out 2).trans rfl,(blk_cell BK369.out 3).trans rfl⟩ (fun hHeld => ?_)
        clear hK K
        refine norm_ (a':=?_) ?_ ?_
        rotate_left
        ·
         show Act.put _ (some 50) _ = _
         simp only [Act.put,sA,sB,sC,i64_w,i32_w]
         rfl
        refine one_ (i:=3) (N:=some 51) #[true,true,true,true,false] rfl rfl (by kernel_rfl) (by decide) (fun K hK => ?_)
        refine goes_ Try.func12 (by kernel_rfl) rfl #[.agg #[.int .i64 t391,.int .i64 t392,.slice Ao47 t393.length co47,.slice Ao48 t396.length co48],.agg #[.int .i64 t411,.int .i64 t412,.slice Ao70 t413.length co70,.slice Ao71 t416.length co71]] (by rfl) rfl rfl (by (try simp only [sE,sH,sI]);first|done|rfl|(simp only [sG,sF];rfl)) ?_
        with_reducible refine (laws_eqTable.calls kj24 t391 t392 _ _ t393 _ _ t396 t411 t412 _ _ t413 _ _ t416 true _ ?side1 ?side2 ?side3 ?side4 ?side5 ?side6 ?side7 ?side8 A63.out).mono ?_
        (case side1 => repeat (first|exact (Kd.S_reads' HO_400002.out).2.2|(with_reducible refine Kd.C_alloc ?_ _)|(with_reducible refine Kd.C_drewN ?_ _)|(with_reducible refine Kd.C_drew ?_)))
        (case side2 => exact (Kd.S_reads' HO_400002.out).2.1)
        (case side3 => repeat (first|exact (Kd.R_reads' HO_400003.out).2.2|(with_reducible refine Kd.C_alloc ?_ _)|(with_reducible refine Kd.C_drewN ?_ _)|(with_reducible refine Kd.C_drew ?_)))
        (case side4 => exact (Kd.R_reads' HO_400003.out).2.1)
        (case side5 => repeat (first|exact (Kd.S_reads' HO415.out).2.2|(with_reducible refine Kd.C_alloc ?_ _)|(with_reducible refine Kd.C_drewN ?_ _)|(with_reducible refine Kd.C_drew ?_)))
        (case side6 => exact (Kd.S_reads' HO415.out).2.1)
        (case side7 => repeat (first|exact (Kd.R_reads' HO418.out).2.2|(with_reducible refine Kd.C_alloc ?_ _)|(with_reducible refine Kd.C_drewN ?_ _)|(with_reducible refine Kd.C_drew ?_)))
        (case side8 => exact (Kd.R_reads' HO418.out).2.1)
        rintro e w72 ⟨rfl,hb⟩
        refine ⟨_,rfl,?_⟩
        have n0_:=qk14 (Kd.S_below (by (with_reducible repeat (first|apply Kd.S_alloc|apply Kd.S_drewN|apply Kd.S_drew));exact HO_400002.out) hb)
        have n1_:=qk14 (Kd.R_below (by (with_reducible repeat (first|apply qd14|apply qe14|apply qf14));exact HO_400003.out) hb)
        have n2_:=qk14 (Kd.S_below (by (with_reducible repeat (first|apply Kd.S_alloc|apply Kd.S_drewN|apply Kd.S_drew));exact HO_409002.out) hb)
        have n3_:=qk14 (Kd.R_below (by (with_reducible repeat (first|apply qd14|apply qe14|apply qf14));exact HO_409003.out) hb)
        have n4_:=qk14 (Kd.S_below (by (with_reducible repeat (first|apply Kd.S_alloc|apply Kd.S_drewN|apply Kd.S_drew));exact HO415.out) hb)
        have n5_:=qk14 (Kd.R_below (by (with_reducible repeat (first|apply qd14|apply qe14|apply qf14));exact HO418.out) hb)
        have n6_:=qk14 (ql14 (g:=gb369) (o:=.cells #[.int .i64 a0_0,.int .i64 a0_1,.slice A0_2 l0_2.length c0_2,.slice A0_3 l0_3.length c0_3] 25 (0,0)) (by (with_reducible repeat (first|apply qa14|apply qb14|apply qc14));exact BK369.out) hb)
        have n7_:=qk14 (ql14 (g:=gb370) (o:=.cells #[.int .i64 a1_0,.int .i64 a1_1,.slice A1_2 l1_2.length c1_2,.slice A1_3 l1_3.length c1_3] 25 (0,0)) (by (with_reducible repeat (first|apply qa14|apply qb14|apply qc14));exact BK370.out) hb)
        have n8_:=qk14 (ql14 (g:=gb399) (o:=.cells #[.int .i64 t391,.int .i64 t392,.slice Ao47 t393.length co47,.slice Ao48 t396.length co48] 31 (0,0)) (by (with_reducible repeat (first|apply qa14|apply qb14|apply qc14));exact BK399.out) hb)
        have n9_:=qk14 (ql14 (g:=gb408) (o:=.cells #[.int .i64 t400,.int .i64 t401,.slice Ao56 t402.length co56,.slice Ao57 t405.length co57] 31 (0,0)) (by (with_reducible repeat (first|apply qa14|apply qb14|apply qc14));exact BK408.out) hb)
        have n10_:=qk14 (sN (by repeat (first|(with_reducible first|exact HB.out|apply qg14|apply qh14|apply qi14|refine qj14 ?_ GE369.out|refine qj14 ?_ GE370.out|refine qj14 ?_ GE399.out|refine qj14 ?_ GE408.out)|exact HB.out)) hb)
        clear HO_400002
        clear HO_400003
        clear HO_409002
        clear HO_409003
        clear HO415
        clear HO418
        clear BK369
        clear BK370
        clear BK399
        clear BK408
        clear HB
        have HO_400002:=n0_
        have HO_400003:=n1_
        have HO_409002:=n2_
        have HO_409003:=n3_
        have HO415:=n4_
        have HO418:=n5_
        have BK369:=n6_
        have BK370:=n7_
        have BK399:=n8_
        have BK408:=n9_
        have HB:=n10_
        clear n0_ n1_ n2_ n3_ n4_ n5_ n6_ n7_ n8_ n9_ n10_
        (try clear hb)
        (try clear hb2)
        (try clear hk)
        (try clear hi)
        refine hK.out _ _ ⟨(blk_cell BK399.out 0).trans rfl,(blk_cell BK399.out 1).trans rfl,(blk_cell BK399.out 2).trans rfl,(blk_cell BK399.out 3).trans rfl,(blk_cell BK369.out 0).trans rfl,(blk_cell BK369.out 1).trans rfl,(blk_cell BK369.out 2).trans rfl,(blk_cell BK369.out 3).trans rfl⟩ (fun hHeld => ?_)
        clear hK K
        refine norm_ (a':=?_) ?_ ?_
        rotate_left
        ·
         show Act.put _ (some 51) _ = _
         simp only [Act.put,sA,sB,sC,i64_w,i32_w]
         rfl
        refine pure_ (i:=4) (N:=some 52) (v:=?_) (a':=?_) #[true,true,true,true,true] rfl rfl (by kernel_rfl) (fun _ _ _ h => h) (Or.inl ⟨by rfl,?_⟩) ?_ ?_
        rotate_left
        ·
         intro w'
         go_simp
         with_reducible rfl
        rotate_left
        ·
         simp only [Act.put,sA,sB,sC,i64_w,i32_w]
         rfl
        refine done_ (by kernel_rfl) ?_
        try go_wp2
        have n0_:=qk14 (Kd.S_drew HO_400002.out)
        have n1_:=qk14 (qf14 HO_400003.out)
        have n2_:=qk14 (Kd.S_drew HO_409002.out)
        have n3_:=qk14 (qf14 HO_409003.out)
        have n4_:=qk14 (Kd.S_drew HO415.out)
        have n5_:=qk14 (qf14 HO418.out)
        have n6_:=qk14 (qb14 BK369.out)
        have n7_:=qk14 (qb14 BK370.out)
        have n8_:=qk14 (qb14 BK399.out)
        have n9_:=qk14 (qb14 BK408.out)
        have n10_:=qk14 (qi14 HB.out)
        clear HO_400002
        clear HO_400003
        clear HO_409002
        clear HO_409003
        clear HO415
        clear HO418
        clear BK369
        clear BK370
        clear BK399
        clear BK408
        clear HB
        have HO_400002:=n0_
        have HO_400003:=n1_
        have HO_409002:=n2_
        have HO_409003:=n3_
        have HO415:=n4_
        have HO418:=n5_
        have BK369:=n6_
        have BK370:=n7_
        have BK399:=n8_
        have BK408:=n9_
        have HB:=n10_
        clear n0_ n1_ n2_ n3_ n4_ n5_ n6_ n7_ n8_ n9_ n10_
        refine start_ (n:=5) (S:=fun w' => w'.cell? ⟨gb408,0,none⟩ = some (.int .i64 t400) ∧ w'.cell? ⟨gb408,1,none⟩ = some (.int .i64 t401) ∧ w'.cell? ⟨gb408,2,none⟩ = some (.slice Ao56 t402.length co56) ∧ w'.cell? ⟨gb408,3,none⟩ = some (.slice Ao57 t405.length co57) ∧ w'.cell? ⟨gb370,0,none⟩ = some (.int .i64 a1_0) ∧ w'.cell? ⟨gb370,1,none⟩ = some (.int .i64 a1_1) ∧ w'.cell? ⟨gb370,2,none⟩ = some (.slice A1_2 l1_2.length c1_2) ∧ w'.cell? ⟨gb370,3,none⟩ = some (.slice A1_3 l1_3.length c1_3)) (ds:=[]) #[false,false,false,false,false] (by kernel_rfl) rfl rfl ⟨(blk_cell BK408.out 0).trans rfl,(blk_cell BK408.out 1).trans rfl,(blk_cell BK408.out 2).trans rfl,(blk_cell BK408.out 3).trans rfl,(blk_cell BK370.out 0).trans rfl,(blk_cell BK370.out 1).trans rfl,(blk_cell BK370.out 2).trans rfl,(blk_cell BK370.out 3).trans rfl⟩ (fun hHeld => ?_)
        generalize w72.drew = w73 at HO_400002 HO_400003 HO_409002 HO_409003 HO415 HO418 BK369 BK370 BK399 BK408 HB hHeld ⊢
        refine take_ (i:=0) (N:=some 53) (v:=?_) (a':=?_) #[true,false,false,false,false] rfl rfl (by kernel_rfl) (fun _ _ _ h => h) (Or.inl ⟨by rfl,?_⟩) hHeld ?_ ?_
        rotate_left
        ·
         rintro w' ⟨s0,s1,s2,s3,s4,s5,s6,s7⟩
         go_simp
         with_reducible rfl
        rotate_left
        ·
         simp only [Act.put,sA,sB,sC,i64_w,i32_w]
         rfl
        refine take_ (i:=1) (N:=some 54) (v:=?_) (a':=?_) #[true,true,false,false,false] rfl rfl (by kernel_rfl) (fun _ _ _ h => h) (Or.inl ⟨by rfl,?_⟩) hHeld ?_ ?_
        rotate_left
        ·
         rintro w' ⟨s0,s1,s2,s3,s4,s5,s6,s7⟩
         go_simp
         with_reducible rfl
        rotate_left
        ·
         simp only [Act.put,sA,sB,sC,i64_w,i32_w]
         rfl
        refine one_ (i:=2) (N:=some 55) #[true,true,true,false,false] rfl rfl (by kernel_rfl) (by decide) (fun K hK => ?_)
        refine goes_ Try.func10 (by kernel_rfl) rfl #[.agg #[.int .i64 a1_0,.int .i64 a1_1,.slice A1_2 l1_2.length c1_2,.slice A1_3 l1_3.length c1_3]] (by rfl) rfl rfl (by (try simp only [sE,sH,sI]);first|done|rfl|(simp only [sG,sF];rfl)) ?_
        with_reducible refine (laws_toTable.calls kj24 a1_0 a1_1 _ _ l1_2 _ _ l1_3 t420 t421 t422 t425 _ ?side1 ?side2 ?side3 ?side4 A65.out).mono ?_
        (case side1 => repeat (first|exact (Kd.C_below HR1_2.out HB.out)|(with_reducible refine Kd.C_alloc ?_ _)|(with_reducible refine Kd.C_drewN ?_ _)|(with_reducible refine Kd.C_drew ?_)))
        (case side2 => exact HC1_2.out)
        (case side3 => repeat (first|exact (Kd.C_below HR1_3.out HB.out)|(with_reducible refine Kd.C_alloc ?_ _)|(with_reducible refine Kd.C_drewN ?_ _)|(with_reducible refine Kd.C_drew ?_)))
        (case side4 => exact HC1_3.out)
        rintro e w74 ⟨v423,v426,rfl,ho0,ho1,hb⟩
        refine ⟨_,rfl,?_⟩
        have n0_:=qk14 (Kd.S_elder' (by (with_reducible repeat (first|apply Kd.S_alloc|apply Kd.S_drewN|apply Kd.S_drew));exact HO_400002.out) (Kd.S_base ho0) hb)
        have n1_:=qk14 (Kd.R_elder' (by (with_reducible repeat (first|apply qd14|apply qe14|apply qf14));exact HO_400003.out) (Kd.R_base ho1) hb)
        have n2_:=qk14 (Kd.S_elder' (by (with_reducible repeat (first|apply Kd.S_alloc|apply Kd.S_drewN|apply Kd.S_drew));exact HO_409002.out) (Kd.S_base ho0) hb)
        have n3_:=qk14 (Kd.R_elder' (by (with_reducible repeat (first|apply qd14|apply qe14|apply qf14));exact HO_409003.out) (Kd.R_base ho1) hb)
        have n4_:=qk14 (Kd.S_elder' (by (with_reducible repeat (first|apply Kd.S_alloc|apply Kd.S_drewN|apply Kd.S_drew));exact HO415.out) (Kd.S_base ho0) hb)
        have n5_:=qk14 (Kd.R_elder' (by (with_reducible repeat (first|apply qd14|apply qe14|apply qf14));exact HO418.out) (Kd.R_base ho1) hb)
        have n6_:=qk14 (Kd.S_lower (Kd.S_new' (Kd.S_new' (Kd.S_new' ho0 (Kd.S_lt (by (with_reducible repeat (first|apply Kd.S_alloc|apply Kd.S_drewN|apply Kd.S_drew));exact HO_400002.out))) (Kd.S_lt (by (with_reducible repeat (first|apply Kd.S_alloc|apply Kd.S_drewN|apply Kd.S_drew));exact HO_409002.out))) (Kd.S_lt (by (with_reducible repeat (first|apply Kd.S_alloc|apply Kd.S_drewN|apply Kd.S_drew));exact HO415.out))) (qm14 (by repeat (first|(with_reducible first|exact HB.out|apply qg14|apply qh14|apply qi14|refine qj14 ?_ GE369.out|refine qj14 ?_ GE370.out|refine qj14 ?_ GE399.out|refine qj14 ?_ GE408.out)|exact HB.out))))
        have n7_:=qk14 (Kd.R_lower (Kd.R_new' (Kd.R_new' (Kd.R_new' ho1 (Kd.R_lt (by (with_reducible repeat (first|apply qd14|apply qe14|apply qf14));exact HO_400003.out))) (Kd.R_lt (by (with_reducible repeat (first|apply qd14|apply qe14|apply qf14));exact HO_409003.out))) (Kd.R_lt (by (with_reducible repeat (first|apply qd14|apply qe14|apply qf14));exact HO418.out))) (qm14 (by repeat (first|(with_reducible first|exact HB.out|apply qg14|apply qh14|apply qi14|refine qj14 ?_ GE369.out|refine qj14 ?_ GE370.out|refine qj14 ?_ GE399.out|refine qj14 ?_ GE408.out)|exact HB.out))))
        have n8_:=qk14 (ql14 (g:=gb369) (o:=.cells #[.int .i64 a0_0,.int .i64 a0_1,.slice A0_2 l0_2.length c0_2,.slice A0_3 l0_3.length c0_3] 25 (0,0)) (by (with_reducible repeat (first|apply qa14|apply qb14|apply qc14));exact BK369.out) hb)
        have n9_:=qk14 (ql14 (g:=gb370) (o:=.cells #[.int .i64 a1_0,.int .i64 a1_1,.slice A1_2 l1_2.length c1_2,.slice A1_3 l1_3.length c1_3] 25 (0,0)) (by (with_reducible repeat (first|apply qa14|apply qb14|apply qc14));exact BK370.out) hb)
        have n10_:=qk14 (ql14 (g:=gb399) (o:=.cells #[.int .i64 t391,.int .i64 t392,.slice Ao47 t393.length co47,.slice Ao48 t396.length co48] 31 (0,0)) (by (with_reducible repeat (first|apply qa14|apply qb14|apply qc14));exact BK399.out) hb)
        have n11_:=qk14 (ql14 (g:=gb408) (o:=.cells #[.int .i64 t400,.int .i64 t401,.slice Ao56 t402.length co56,.slice Ao57 t405.length co57] 31 (0,0)) (by (with_reducible repeat (first|apply qa14|apply qb14|apply qc14));exact BK408.out) hb)
        have n12_:=qk14 (sN (by repeat (first|(with_reducible first|exact HB.out|apply qg14|apply qh14|apply qi14|refine qj14 ?_ GE369.out|refine qj14 ?_ GE370.out|refine qj14 ?_ GE399.out|refine qj14 ?_ GE408.out)|exact HB.out)) hb)
        clear HO_400002
        clear HO_400003
        clear HO_409002
        clear HO_409003
        clear HO415
        clear HO418
        clear BK369
        clear BK370
        clear BK399
        clear BK408
        clear HB
        have HO_400002:=n0_
        have HO_400003:=n1_
        have HO_409002:=n2_
        have HO_409003:=n3_
        have HO415:=n4_
        have HO418:=n5_
        have HO424:=n6_
        have HO427:=n7_
        have BK369:=n8_
        have BK370:=n9_
        have BK399:=n10_
        have BK408:=n11_
        have HB:=n12_
        clear n0_ n1_ n2_ n3_ n4_ n5_ n6_ n7_ n8_ n9_ n10_ n11_ n12_
        (try clear hb)
        (try clear hb2)
        (try clear hk)
        (try clear hi)
        (try clear ho0)
        (try clear ho1)
        obtain ⟨Ao75,co75,eo75⟩:=Kd.S_slice HO424.out
        (first|subst eo75|(injection eo75 with f1_ f2_ f3_;have f4_:=f1_.symm;have f5_:=f3_.symm;clear f1_ f2_ f3_;subst f4_;subst f5_))
        obtain ⟨Ao76,co76,eo76⟩:=Kd.R_slice HO427.out
        (first|subst eo76|(injection eo76 with f1_ f2_ f3_;have f4_:=f1_.symm;have f5_:=f3_.symm;clear f1_ f2_ f3_;subst f4_;subst f5_))
        refine hK.out _ _ ⟨(blk_cell BK408.out 0).trans rfl,(blk_cell BK408.out 1).trans rfl,(blk_cell BK408.out 2).trans rfl,(blk_cell BK408.out 3).trans rfl,(blk_cell BK370.out 0).trans rfl,(blk_cell BK370.out 1).trans rfl,(blk_cell BK370.out 2).trans rfl,(blk_cell BK370.out 3).trans rfl⟩ (fun hHeld => ?_)
        clear hK K
        refine norm_ (a':=?_) ?_ ?_
        rotate_left
        ·
         show Act.put _ (some 55) _ = _
         simp only [Act.put,sA,sB,sC,i64_w,i32_w]
         rfl
        refine one_ (i:=3) (N:=some 56) #[true,true,true,true,false] rfl rfl (by kernel_rfl) (by decide) (fun K hK => ?_)
        refine goes_ Try.func12 (by kernel_rfl) rfl #[.agg #[.int .i64 t400,.int .i64 t401,.slice Ao56 t402.length co56,.slice Ao57 t405.length co57],.agg #[.int .i64 t420,.int .i64 t421,.slice Ao75 t422.length co75,.slice Ao76 t425.length co76]] (by rfl) rfl rfl (by (try simp only [sE,sH,sI]);first|done|rfl|(simp only [sG,sF];rfl)) ?_
        with_reducible refine (laws_eqTable.calls kj24 t400 t401 _ _ t402 _ _ t405 t420 t421 _ _ t422 _ _ t425 true _ ?side1 ?side2 ?side3 ?side4 ?side5 ?side6 ?side7 ?side8 A66.out).mono ?_
        (case side1 => repeat (first|exact (Kd.S_reads' HO_409002.out).2.2|(with_reducible refine Kd.C_alloc ?_ _)|(with_reducible refine Kd.C_drewN ?_ _)|(with_reducible refine Kd.C_drew ?_)))
        (case side2 => exact (Kd.S_reads' HO_409002.out).2.1)
        (case side3 => repeat (first|exact (Kd.R_reads' HO_409003.out).2.2|(with_reducible refine Kd.C_alloc ?_ _)|(with_reducible refine Kd.C_drewN ?_ _)|(with_reducible refine Kd.C_drew ?_)))
        (case side4 => exact (Kd.R_reads' HO_409003.out).2.1)
        (case side5 => repeat (first|exact (Kd.S_reads' HO424.out).2.2|(with_reducible refine Kd.C_alloc ?_ _)|(with_reducible refine Kd.C_drewN ?_ _)|(with_reducible refine Kd.C_drew ?_)))
        (case side6 => exact (Kd.S_reads' HO424.out).2.1)
        (case side7 => repeat (first|exact (Kd.R_reads' HO427.out).2.2|(with_reducible refine Kd.C_alloc ?_ _)|(with_reducible refine Kd.C_drewN ?_ _)|(with_reducible refine Kd.C_drew ?_)))
        (case side8 => exact (Kd.R_reads' HO427.out).2.1)
        rintro e w77 ⟨rfl,hb⟩
        refine ⟨_,rfl,?_⟩
        have n0_:=qk14 (Kd.S_below (by (with_reducible repeat (first|apply Kd.S_alloc|apply Kd.S_drewN|apply Kd.S_drew));exact HO_400002.out) hb)
        have n1_:=qk14 (Kd.R_below (by (with_reducible repeat (first|apply qd14|apply qe14|apply qf14));exact HO_400003.out) hb)
        have n2_:=qk14 (Kd.S_below (by (with_reducible repeat (first|apply Kd.S_alloc|apply Kd.S_drewN|apply Kd.S_drew));exact HO_409002.out) hb)
        have n3_:=qk14 (Kd.R_below (by (with_reducible repeat (first|apply qd14|apply qe14|apply qf14));exact HO_409003.out) hb)
        have n4_:=qk14 (Kd.S_below (by (with_reducible repeat (first|apply Kd.S_alloc|apply Kd.S_drewN|apply Kd.S_drew));exact HO415.out) hb)
        have n5_:=qk14 (Kd.R_below (by (with_reducible repeat (first|apply qd14|apply qe14|apply qf14));exact HO418.out) hb)
        have n6_:=qk14 (Kd.S_below (by (with_reducible repeat (first|apply Kd.S_alloc|apply Kd.S_drewN|apply Kd.S_drew));exact HO424.out) hb)
        have n7_:=qk14 (Kd.R_below (by (with_reducible repeat (first|apply qd14|apply qe14|apply qf14));exact HO427.out) hb)
        have n8_:=qk14 (ql14 (g:=gb369) (o:=.cells #[.int .i64 a0_0,.int .i64 a0_1,.slice A0_2 l0_2.length c0_2,.slice A0_3 l0_3.length c0_3] 25 (0,0)) (by (with_reducible repeat (first|apply qa14|apply qb14|apply qc14));exact BK369.out) hb)
        have n9_:=qk14 (ql14 (g:=gb370) (o:=.cells #[.int .i64 a1_0,.int .i64 a1_1,.slice A1_2 l1_2.length c1_2,.slice A1_3 l1_3.length c1_3] 25 (0,0)) (by (with_reducible repeat (first|apply qa14|apply qb14|apply qc14));exact BK370.out) hb)
        have n10_:=qk14 (ql14 (g:=gb399) (o:=.cells #[.int .i64 t391,.int .i64 t392,.slice Ao47 t393.length co47,.slice Ao48 t396.length co48] 31 (0,0)) (by (with_reducible repeat (first|apply qa14|apply qb14|apply qc14));exact BK399.out) hb)
        have n11_:=qk14 (ql14 (g:=gb408) (o:=.cells #[.int .i64 t400,.int .i64 t401,.slice Ao56 t402.length co56,.slice Ao57 t405.length co57] 31 (0,0)) (by (with_reducible repeat (first|apply qa14|apply qb14|apply qc14));exact BK408.out) hb)
        have n12_:=qk14 (sN (by repeat (first|(with_reducible first|exact HB.out|apply qg14|apply qh14|apply qi14|refine qj14 ?_ GE369.out|refine qj14 ?_ GE370.out|refine qj14 ?_ GE399.out|refine qj14 ?_ GE408.out)|exact HB.out)) hb)
        clear HO_400002
        clear HO_400003
        clear HO_409002
        clear HO_409003
        clear HO415
        clear HO418
        clear HO424
        clear HO427
        clear BK369
        clear BK370
        clear BK399
        clear BK408
        clear HB
        have HO_400002:=n0_
        have HO_400003:=n1_
        have HO_409002:=n2_
        have HO_409003:=n3_
        have HO415:=n4_
        have HO418:=n5_
        have HO424:=n6_
        have HO427:=n7_
        have BK369:=n8_
        have BK370:=n9_
        have BK399:=n10_
        have BK408:=n11_
        have HB:=n12_
        clear n0_ n1_ n2_ n3_ n4_ n5_ n6_ n7_ n8_ n9_ n10_ n11_ n12_
        (try clear hb)
        (try clear hb2)
        (try clear hk)
        (try clear hi)
        refine hK.out _ _ ⟨(blk_cell BK408.out 0).trans rfl,(blk_cell BK408.out 1).trans rfl,(blk_cell BK408.out 2).trans rfl,(blk_cell BK408.out 3).trans rfl,(blk_cell BK370.out 0).trans rfl,(blk_cell BK370.out 1).trans rfl,(blk_cell BK370.out 2).trans rfl,(blk_cell BK370.out 3).trans rfl⟩ (fun hHeld => ?_)
        clear hK K
        refine norm_ (a':=?_) ?_ ?_
        rotate_left
        ·
         show Act.put _ (some 56) _ = _
         simp only [Act.put,sA,sB,sC,i64_w,i32_w]
         rfl
        refine pure_ (i:=4) (N:=some 57) (v:=?_) (a':=?_) #[true,true,true,true,true] rfl rfl (by kernel_rfl) (fun _ _ _ h => h) (Or.inl ⟨by rfl,?_⟩) ?_ ?_
        rotate_left
        ·
         intro w'
         go_simp
         with_reducible rfl
        rotate_left
        ·
         simp only [Act.put,sA,sB,sC,i64_w,i32_w]
         rfl
        refine done_ (by kernel_rfl) ?_
        try go_wp2
        go_ret
        exact ⟨by first|rfl|(simp [errW_none,errW_some] <;> rfl)|(simp [*,errW_none,errW_some] <;> rfl),by repeat (first|(with_reducible first|exact HB.out|apply qg14|apply qh14|apply qi14|refine qj14 ?_ GE369.out|refine qj14 ?_ GE370.out|refine qj14 ?_ GE399.out|refine qj14 ?_ GE408.out)|exact HB.out)⟩
       ·
        replace c67:=Bool.eq_false_iff.mpr c67
        subst c67
        have H1 : (some false) = some r:=by rw [if_neg (show ¬ (false = true) by decide)] at H;exact H
        clear H
        have H:=H1
        clear H1
        obtain rfl:=sO H
        exact absurd hr_ (by decide)
      ·
       replace c64:=Bool.eq_false_iff.mpr c64
       subst c64
       have H1 : (some false) = some r:=by rw [if_neg (show ¬ (false = true) by decide)] at H;exact H
       clear H
       have H:=H1
       clear H1
       obtain rfl:=sO H
       exact absurd hr_ (by decide)

end Go.Proofs.Ytjkanhjapddhnaa.PFnExactSameTable
