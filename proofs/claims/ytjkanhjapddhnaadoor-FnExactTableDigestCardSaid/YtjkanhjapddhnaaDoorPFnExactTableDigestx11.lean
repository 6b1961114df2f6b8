-- laid by this session's program myprint.py over the kit's printer
-- squeezed
-- aliased
import Derived.Test.YtjkanhjapddhnaaDoorPFnExactTableDigestx0
import Derived.Test.YtjkanhjapddhnaaDoorPFnExactTableDigestx1
import Derived.Test.YtjkanhjapddhnaaDoorPFnExactTableDigestx5
import Derived.Test.YtjkanhjapddhnaaDoorPFnExactTableDigestx10
namespace Go.Proofs.YtjkanhjapddhnaaDoor.PFnExactTableDigest
open Go.RowKit Go.Proofs.YtjkanhjapddhnaaDoorV.PrintWords Go.Proofs.YtjkanhjapddhnaaDoorV.PrintLast Go.Proofs.YtjkanhjapddhnaaDoorV.PrintMore
attribute [local go_sem] max2_int min2_int max_two min_two max_three min_three max_four min_four u8_wm u32_wm   -- for this text's walks alone
set_option linter.unusedVariables false
set_option linter.unusedSimpArgs false

/-! ### laws_FnExactTableDigest: function 3 -/
theorem qa11 : type_of% @below_alloc:=@below_alloc
theorem qb11 : type_of% @pw_below_drewN:=@pw_below_drewN
theorem qc11 : type_of% @below_drew1:=@below_drew1
theorem qd11 : type_of% @below_set:=@below_set
theorem qe11 : type_of% @Aside0.mk:=@Aside0.mk
def laws_FnExactTableDigest.j0 : Nat → Bool → Int → Int → List (S51) → List (S74) → Int → Int → List (S55) → List (S62) → Option (Bool)
 | 0,_,_,_,_,_,_,_,_,_ => none
 | k + 1,x34,x347000,x347001,x347002,x347003,x367000,x367001,x367002,x367003 => if x34 = true then (some false) else ((laws_toTable.f k x347000 x347001 x347002 x347003).bind fun bt369 => ((laws_eqTable.f x367000 x367001 x367002 x367003 bt369.1 bt369.2.1 bt369.2.2.1 bt369.2.2.2).bind fun t377 => (if t377 = true then (some true) else (some false))))
def laws_FnExactTableDigest.f (k : Nat) (a0_0 : Int) (a0_1 : Int) (l0_2 : List (S51)) (l0_3 : List (S74)) : Option (Bool):=(laws_szTable.f k a0_0 a0_1 l0_2 l0_3 1048576).bind fun t347 => (if t347 < 0 then (some true) else ((laws_toTable.f k a0_0 a0_1 l0_2 l0_3).bind fun bt348 => ((spec_TableDigest.f k bt348.1 bt348.2.1 bt348.2.2.1 bt348.2.2.2).bind fun bt356 => ((laws_toTable.f k a0_0 a0_1 l0_2 l0_3).bind fun bt358 => ((impl_TableDigest.f k bt358.1 bt358.2.1 bt358.2.2.1 bt358.2.2.2).bind fun bt367 => (if bt367.1.toList = bt356.1.toList then (laws_FnExactTableDigest.j0 k (bt367.2 != bt356.2) a0_0 a0_1 l0_2 l0_3 bt358.1 bt358.2.1 bt358.2.2.1 bt358.2.2.2) else (laws_FnExactTableDigest.j0 k true a0_0 a0_1 l0_2 l0_3 bt358.1 bt358.2.1 bt358.2.2.1 bt358.2.2.2)))))))
set_option maxHeartbeats 8000000 in
set_option maxRecDepth 100000 in
theorem laws_FnExactTableDigest.calls (k : Nat) (a0_0 : Int) (a0_1 : Int) (A0_2 : Option Addr) (c0_2 : Nat) (l0_2 : List (S51)) (A0_3 : Option Addr) (c0_3 : Nat) (l0_3 : List (S74)) (r : Bool) (w : World) (hr0_2 : Kd.C k51 w A0_2 l0_2.length l0_2) (hc0_2 : l0_2.length ≤ c0_2) (hr0_3 : Kd.C k74 w A0_3 l0_3.length l0_3) (hc0_3 : l0_3.length ≤ c0_3) (hG_ : Go.Proofs.YtjkanhjapddhnaaDoor.Sha.GlobA w) (hr_ : r = true) (h : laws_FnExactTableDigest.f k a0_0 a0_1 l0_2 l0_3 = some r) :
  Calls Tryd.prog 3 #[.agg #[.int .i64 a0_0,.int .i64 a0_1,.slice A0_2 l0_2.length c0_2,.slice A0_3 l0_3.length c0_3]] w fun e w' => e = .returned (.bool r) ∧ Below w.heap.size w w':=by
 have hu25:=Tryd.underlying25
 have hu32:=Tryd.underlying32
 have HR0_2:=qe11 hr0_2
 have HC0_2:=qe11 hc0_2
 clear hr0_2 hc0_2
 have HR0_3:=qe11 hr0_3
 have HC0_3:=qe11 hc0_3
 clear hr0_3 hc0_3
 have HB:=qe11 (Below.refl w.heap.size w)
 have H : ((laws_szTable.f k a0_0 a0_1 l0_2 l0_3 1048576).bind fun t347 => (if t347 < 0 then (some true) else ((laws_toTable.f k a0_0 a0_1 l0_2 l0_3).bind fun bt348 => ((spec_TableDigest.f k bt348.1 bt348.2.1 bt348.2.2.1 bt348.2.2.2).bind fun bt356 => ((laws_toTable.f k a0_0 a0_1 l0_2 l0_3).bind fun bt358 => ((impl_TableDigest.f k bt358.1 bt358.2.1 bt358.2.2.1 bt358.2.2.2).bind fun bt367 => (if bt367.1.toList = bt356.1.toList then (laws_FnExactTableDigest.j0 k (bt367.2 != bt356.2) a0_0 a0_1 l0_2 l0_3 bt358.1 bt358.2.1 bt358.2.2.1 bt358.2.2.2) else (laws_FnExactTableDigest.j0 k true a0_0 a0_1 l0_2 l0_3 bt358.1 bt358.2.1 bt358.2.2.1 bt358.2.2.2)))))))) = some r:=h
 clear h
 replace H:=Option.bind_eq_some_iff.mp H
 obtain ⟨t347,A20,H⟩:=H
 replace H : (if t347 < 0 then (some true) else ((laws_toTable.f k a0_0 a0_1 l0_2 l0_3).bind fun bt348 => ((spec_TableDigest.f k bt348.1 bt348.2.1 bt348.2.2.1 bt348.2.2.2).bind fun bt356 => ((laws_toTable.f k a0_0 a0_1 l0_2 l0_3).bind fun bt358 => ((impl_TableDigest.f k bt358.1 bt358.2.1 bt358.2.2.1 bt358.2.2.2).bind fun bt367 => (if bt367.1.toList = bt356.1.toList then (laws_FnExactTableDigest.j0 k (bt367.2 != bt356.2) a0_0 a0_1 l0_2 l0_3 bt358.1 bt358.2.1 bt358.2.2.1 bt358.2.2.2) else (laws_FnExactTableDigest.j0 k true a0_0 a0_1 l0_2 l0_3 bt358.1 bt358.2.1 bt358.2.2.1 bt358.2.2.2))))))) = some r:=H
 have A2:=qe11 A20
 clear A20
 by_cases c3 : t347 < 0
 ·
  rw [if_pos c3] at H
  have c3b0 : decide (t347 < 0) = true:=decide_eq_true c3
  clear c3
  obtain rfl:=sO H
  go_enter Tryd.func3,Tryd.ntmps3
  go_wp2_with (first|((with_reducible refine gate_dst (N:=1) rfl ?_);refine box_event ?hg (N:=1) ?hd (cs:=#[.int .i64 a0_0,.int .i64 a0_1,.slice A0_2 l0_2.length c0_2,.slice A0_3 l0_3.length c0_3]) (t:=25) ?hr ?_;(case hd => rfl);(case hg => rfl);(case hr => first|(go_simp;done)|(go_simp;rfl));intro gb346 hg w4 hbox hb;have n0_:=qe11 (sN (by repeat (first|(with_reducible first|exact HB.out|apply qa11|apply qb11|apply qc11)|exact HB.out)) hb);have n1_:=qe11 (hbox);have n2_:=qe11 ((by rw [hg];exact (below_size (by repeat (first|(with_reducible first|exact HB.out|apply qa11|apply qb11|apply qc11)|exact HB.out))) : w.heap.size ≤ gb346));have n3_:=qe11 ((by rw [hg];exact (below_size (by repeat (first|(with_reducible first|exact HB.out|apply qa11|apply qb11|apply qc11)|exact HB.out))) : w.heap.size ≤ gb346));clear HB;have HB:=n0_;have BK346:=n1_;have GW346:=n2_;have GE346:=n3_;clear n0_ n1_ n2_ n3_;clear hb hbox hg;have hcz5_0 : w4.cell? ⟨gb346,0,none⟩ = some (.int .i64 a0_0):=(blk_cell BK346.out 0).trans rfl;have hcz5_1 : w4.cell? ⟨gb346,1,none⟩ = some (.int .i64 a0_1):=(blk_cell BK346.out 1).trans rfl;have hcz5_2 : w4.cell? ⟨gb346,2,none⟩ = some (.slice A0_2 l0_2.length c0_2):=(blk_cell BK346.out 2).trans rfl;have hcz5_3 : w4.cell? ⟨gb346,3,none⟩ = some (.slice A0_3 l0_3.length c0_3):=(blk_cell BK346.out 3).trans rfl;have hfz5_0:=sJ BK346.out 0;have hfz5_1:=sJ BK346.out 1;have hfz5_2:=sJ BK346.out 2;have hfz5_3:=sJ BK346.out 3)|((with_reducible refine gate_callee (f:=4) rfl ?_);refine goesL_ (some 11) rfl rfl Tryd.func4 (by kernel_rfl) rfl #[.agg #[.int .i64 a0_0,.int .i64 a0_1,.slice A0_2 l0_2.length c0_2,.slice A0_3 l0_3.length c0_3],.int .i64 1048576] rfl (by (try simp only [sE,sH,sI]);first|done|rfl|(simp only [sG,sF];rfl)) ?_;(with_reducible refine (laws_szTable.calls k a0_0 a0_1 _ _ l0_2 _ _ l0_3 1048576 t347 _ ?side1 ?side2 ?side3 ?side4 A2.out).mono ?_);(case side1 => repeat (first|exact (Kd.C_below HR0_2.out HB.out)|(with_reducible refine Kd.C_alloc ?_ _)|(with_reducible refine Kd.C_drewN ?_ _)|(with_reducible refine Kd.C_drew ?_)));(case side2 => exact HC0_2.out);(case side3 => repeat (first|exact (Kd.C_below HR0_3.out HB.out)|(with_reducible refine Kd.C_alloc ?_ _)|(with_reducible refine Kd.C_drewN ?_ _)|(with_reducible refine Kd.C_drew ?_)));(case side4 => exact HC0_3.out);rintro e w6 ⟨rfl,hb⟩;refine ⟨_,rfl,?_⟩;have n0_:=qe11 (blk_below (g:=gb346) (o:=.cells #[.int .i64 a0_0,.int .i64 a0_1,.slice A0_2 l0_2.length c0_2,.slice A0_3 l0_3.length c0_3] 25 (0,0)) (by (with_reducible repeat (first|apply blk_drewN|apply blk_drew|apply blk_alloc));exact BK346.out) hb);have n1_:=qe11 (sN (by repeat (first|(with_reducible first|exact HB.out|apply qa11|apply qb11|apply qc11|refine qd11 ?_ GE346.out)|exact HB.out)) hb);clear BK346;clear HB;have BK346:=n0_;have HB:=n1_;clear n0_ n1_;(try clear hb);(try clear hb2);(try clear hk);(try clear hi)))
  go_ret
  exact ⟨by first|rfl|(simp [errW_none,errW_some] <;> rfl)|(simp [*,errW_none,errW_some] <;> rfl),by repeat (first|(with_reducible first|exact HB.out|apply qa11|apply qb11|apply qc11|refine qd11 ?_ GE346.out)|exact HB.out)⟩
 ·
  rw [if_neg c3] at H
  have c3b0 : decide (t347 < 0) = false:=decide_eq_false c3
  clear c3
  replace H:=Option.bind_eq_some_iff.mp H
  obtain ⟨⟨t348,t349,t350,t353⟩,A70,H⟩:=H
  replace H : ((spec_TableDigest.f k t348 t349 t350 t353).bind fun bt356 => ((laws_toTable.f k a0_0 a0_1 l0_2 l0_3).bind fun bt358 => ((impl_TableDigest.f k bt358.1 bt358.2.1 bt358.2.2.1 bt358.2.2.2).bind fun bt367 => (if bt367.1.toList = bt356.1.toList then (laws_FnExactTableDigest.j0 k (bt367.2 != bt356.2) a0_0 a0_1 l0_2 l0_3 bt358.1 bt358.2.1 bt358.2.2.1 bt358.2.2.2) else (laws_FnExactTableDigest.j0 k true a0_0 a0_1 l0_2 l0_3 bt358.1 bt358.2.1 bt358.2.2.1 bt358.2.2.2))))) = some r:=H
  have A7:=qe11 A70
  clear A70
  replace H:=Option.bind_eq_some_iff.mp H
  obtain ⟨⟨t356,t357⟩,A80,H⟩:=H
  replace H : ((laws_toTable.f k a0_0 a0_1 l0_2 l0_3).bind fun bt358 => ((impl_TableDigest.f k bt358.1 bt358.2.1 bt358.2.2.1 bt358.2.2.2).bind fun bt367 => (if bt367.1.toList = t356.toList then (laws_FnExactTableDigest.j0 k (bt367.2 != t357) a0_0 a0_1 l0_2 l0_3 bt358.1 bt358.2.1 bt358.2.2.1 bt358.2.2.2) else (laws_FnExactTableDigest.j0 k true a0_0 a0_1 l0_2 l0_3 bt358.1 bt358.2.1 bt358.2.2.1 bt358.2.2.2)))) = some r:=H
  have A8:=qe11 A80
  clear A80
  replace H:=Option.bind_eq_some_iff.mp H
  obtain ⟨⟨t358,t359,t360,t363⟩,A90,H⟩:=H
  replace H : ((impl_TableDigest.f k t358 t359 t360 t363).bind fun bt367 => (if bt367.1.toList = t356.toList then (laws_FnExactTableDigest.j0 k (bt367.2 != t357) a0_0 a0_1 l0_2 l0_3 t358 t359 t360 t363) else (laws_FnExactTableDigest.j0 k true a0_0 a0_1 l0_2 l0_3 t358 t359 t360 t363))) = some r:=H
  have A9:=qe11 A90
  clear A90
  replace H:=Option.bind_eq_some_iff.mp H
  obtain ⟨⟨t367,t368⟩,A100,H⟩:=H
  replace H : (if t367.toList = t356.toList then (laws_FnExactTableDigest.j0 k (t368 != t357) a0_0 a0_1 l0_2 l0_3 t358 t359 t360 t363) else (laws_FnExactTableDigest.j0 k true a0_0 a0_1 l0_2 l0_3 t358 t359 t360 t363)) = some r:=H
  have A10:=qe11 A100
  clear A100
  have HC11:=qe11 H
  clear H
  go_enter Tryd.func3,Tryd.ntmps3
  go_upto_region 8 with (first|((with_reducible refine gate_dst (N:=1) rfl ?_);refine box_event ?hg (N:=1) ?hd (cs:=#[.int .i64 a0_0,.int .i64 a0_1,.slice A0_2 l0_2.length c0_2,.slice A0_3 l0_3.length c0_3]) (t:=25) ?hr ?_;(case hd => rfl);(case hg => rfl);(case hr => first|(go_simp;done)|(go_simp;rfl));intro gb346 hg w12 hbox hb;have n0_:=qe11 (sN (by repeat (first|(with_reducible first|exact HB.out|apply qa11|apply qb11|apply qc11)|exact HB.out)) hb);have n1_:=qe11 (hbox);have n2_:=qe11 ((by rw [hg];exact (below_size (by repeat (first|(with_reducible first|exact HB.out|apply qa11|apply qb11|apply qc11)|exact HB.out))) : w.heap.size ≤ gb346));have n3_:=qe11 ((by rw [hg];exact (below_size (by repeat (first|(with_reducible first|exact HB.out|apply qa11|apply qb11|apply qc11)|exact HB.out))) : w.heap.size ≤ gb346));clear HB;have HB:=n0_;have BK346:=n1_;have GW346:=n2_;have GE346:=n3_;clear n0_ n1_ n2_ n3_;clear hb hbox hg;have hcz13_0 : w12.cell? ⟨gb346,0,none⟩ = some (.int .i64 a0_0):=(blk_cell BK346.out 0).trans rfl;have hcz13_1 : w12.cell? ⟨gb346,1,none⟩ = some (.int .i64 a0_1):=(blk_cell BK346.out 1).trans rfl;have hcz13_2 : w12.cell? ⟨gb346,2,none⟩ = some (.slice A0_2 l0_2.length c0_2):=(blk_cell BK346.out 2).trans rfl;have hcz13_3 : w12.cell? ⟨gb346,3,none⟩ = some (.slice A0_3 l0_3.length c0_3):=(blk_cell BK346.out 3).trans rfl;have hfz13_0:=sJ BK346.out 0;have hfz13_1:=sJ BK346.out 1;have hfz13_2:=sJ BK346.out 2;have hfz13_3:=sJ BK346.out 3)|((with_reducible refine gate_callee (f:=4) rfl ?_);refine goesL_ (some 11) rfl rfl Tryd.func4 (by kernel_rfl) rfl #[.agg #[.int .i64 a0_0,.int .i64 a0_1,.slice A0_2 l0_2.length c0_2,.slice A0_3 l0_3.length c0_3],.int .i64 1048576] rfl (by (try simp only [sE,sH,sI]);first|done|rfl|(simp only [sG,sF];rfl)) ?_;(with_reducible refine (laws_szTable.calls k a0_0 a0_1 _ _ l0_2 _ _ l0_3 1048576 t347 _ ?side1 ?side2 ?side3 ?side4 A2.out).mono ?_);(case side1 => repeat (first|exact (Kd.C_below HR0_2.out HB.out)|(with_reducible refine Kd.C_alloc ?_ _)|(with_reducible refine Kd.C_drewN ?_ _)|(with_reducible refine Kd.C_drew ?_)));(case side2 => exact HC0_2.out);(case side3 => repeat (first|exact (Kd.C_below HR0_3.out HB.out)|(with_reducible refine Kd.C_alloc ?_ _)|(with_reducible refine Kd.C_drewN ?_ _)|(with_reducible refine Kd.C_drew ?_)));(case side4 => exact HC0_3.out);rintro e w14 ⟨rfl,hb⟩;refine ⟨_,rfl,?_⟩;have n0_:=qe11 (blk_below (g:=gb346) (o:=.cells #[.int .i64 a0_0,.int .i64 a0_1,.slice A0_2 l0_2.length c0_2,.slice A0_3 l0_3.length c0_3] 25 (0,0)) (by (with_reducible repeat (first|apply blk_drewN|apply blk_drew|apply blk_alloc));exact BK346.out) hb);have n1_:=qe11 (sN (by repeat (first|(with_reducible first|exact HB.out|apply qa11|apply qb11|apply qc11|refine qd11 ?_ GE346.out)|exact HB.out)) hb);clear BK346;clear HB;have BK346:=n0_;have HB:=n1_;clear n0_ n1_;(try clear hb);(try clear hb2);(try clear hk);(try clear hi);have hcz15_0 : w14.cell? ⟨gb346,0,none⟩ = some (.int .i64 a0_0):=(blk_cell BK346.out 0).trans rfl;have hcz15_1 : w14.cell? ⟨gb346,1,none⟩ = some (.int .i64 a0_1):=(blk_cell BK346.out 1).trans rfl;have hcz15_2 : w14.cell? ⟨gb346,2,none⟩ = some (.slice A0_2 l0_2.length c0_2):=(blk_cell BK346.out 2).trans rfl;have hcz15_3 : w14.cell? ⟨gb346,3,none⟩ = some (.slice A0_3 l0_3.length c0_3):=(blk_cell BK346.out 3).trans rfl;have hfz15_0:=sJ BK346.out 0;have hfz15_1:=sJ BK346.out 1;have hfz15_2:=sJ BK346.out 2;have hfz15_3:=sJ BK346.out 3)|((with_reducible refine gate_callee (f:=6) rfl ?_);refine goesL_ (some 16) rfl rfl Tryd.func6 (by kernel_rfl) rfl #[.agg #[.int .i64 a0_0,.int .i64 a0_1,.slice A0_2 l0_2.length c0_2,.slice A0_3 l0_3.length c0_3]] rfl (by (try simp only [sE,sH,sI]);first|done|rfl|(simp only [sG,sF];rfl)) ?_;(with_reducible refine (laws_toTable.calls k a0_0 a0_1 _ _ l0_2 _ _ l0_3 t348 t349 t350 t353 _ ?side1 ?side2 ?side3 ?side4 A7.out).mono ?_);(case side1 => repeat (first|exact (Kd.C_below HR0_2.out HB.out)|(with_reducible refine Kd.C_alloc ?_ _)|(with_reducible refine Kd.C_drewN ?_ _)|(with_reducible refine Kd.C_drew ?_)));(case side2 => exact HC0_2.out);(case side3 => repeat (first|exact (Kd.C_below HR0_3.out HB.out)|(with_reducible refine Kd.C_alloc ?_ _)|(with_reducible refine Kd.C_drewN ?_ _)|(with_reducible refine Kd.C_drew ?_)));(case side4 => exact HC0_3.out);rintro e w16 ⟨v351,v354,rfl,ho0,ho1,hb⟩;refine ⟨_,rfl,?_⟩;have n0_:=qe11 (Kd.S_lower ho0 (below_size (by repeat (first|(with_reducible first|exact HB.out|apply qa11|apply qb11|apply qc11|refine qd11 ?_ GE346.out)|exact HB.out))));have n1_:=qe11 (Kd.R_lower ho1 (below_size (by repeat (first|(with_reducible first|exact HB.out|apply qa11|apply qb11|apply qc11|refine qd11 ?_ GE346.out)|exact HB.out))));have n2_:=qe11 (blk_below (g:=gb346) (o:=.cells #[.int .i64 a0_0,.int .i64 a0_1,.slice A0_2 l0_2.length c0_2,.slice A0_3 l0_3.length c0_3] 25 (0,0)) (by (with_reducible repeat (first|apply blk_drewN|apply blk_drew|apply blk_alloc));exact BK346.out) hb);have n3_:=qe11 (sN (by repeat (first|(with_reducible first|exact HB.out|apply qa11|apply qb11|apply qc11|refine qd11 ?_ GE346.out)|exact HB.out)) hb);clear BK346;clear HB;have HO352:=n0_;have HO355:=n1_;have BK346:=n2_;have HB:=n3_;clear n0_ n1_ n2_ n3_;(try clear hb);(try clear hb2);(try clear hk);(try clear hi);(try clear ho0);(try clear ho1);obtain ⟨Ao17,co17,eo17⟩:=Kd.S_slice HO352.out;subst eo17;obtain ⟨Ao18,co18,eo18⟩:=Kd.R_slice HO355.out;subst eo18)|((with_reducible refine gate_callee (f:=5) rfl ?_);refine goesL_ (some 17) rfl rfl Tryd.func5 (by kernel_rfl) rfl #[.agg #[.int .i64 t348,.int .i64 t349,.slice Ao17 t350.length co17,.slice Ao18 t353.length co18]] rfl (by (try simp only [sE,sH,sI]);first|done|rfl|(simp only [sG,sF];rfl)) ?_;(with_reducible refine (spec_TableDigest.calls k t348 t349 _ _ t350 _ _ t353 t356 t357 _ ?side1 ?side2 ?side3 ?side4 A8.out).mono ?_);(case side1 => repeat (first|exact (Kd.S_reads' HO352.out).2.2|(with_reducible refine Kd.C_alloc ?_ _)|(with_reducible refine Kd.C_drewN ?_ _)|(with_reducible refine Kd.C_drew ?_)));(case side2 => exact (Kd.S_reads' HO352.out).2.1);(case side3 => repeat (first|exact (Kd.R_reads' HO355.out).2.2|(with_reducible refine Kd.C_alloc ?_ _)|(with_reducible refine Kd.C_drewN ?_ _)|(with_reducible refine Kd.C_drew ?_)));(case side4 => exact (Kd.R_reads' HO355.out).2.1);rintro e w19 ⟨rfl,hb⟩;refine ⟨_,rfl,?_⟩;have n0_:=qe11 (Kd.S_below (by (with_reducible repeat (first|apply Kd.S_alloc|apply Kd.S_drewN|apply Kd.S_drew));exact HO352.out) hb);have n1_:=qe11 (Kd.R_below (by (with_reducible repeat (first|apply Kd.R_alloc|apply Kd.R_drewN|apply Kd.R_drew));exact HO355.out) hb);have n2_:=qe11 (blk_below (g:=gb346) (o:=.cells #[.int .i64 a0_0,.int .i64 a0_1,.slice A0_2 l0_2.length c0_2,.slice A0_3 l0_3.length c0_3] 25 (0,0)) (by (with_reducible repeat (first|apply blk_drewN|apply blk_drew|apply blk_alloc));exact BK346.out) hb);have n3_:=qe11 (sN (by repeat (first|(with_reducible first|exact HB.out|apply qa11|apply qb11|apply qc11|refine qd11 ?_ GE346.out)|exact HB.out)) hb);clear HO352;clear HO355;clear BK346;clear HB;have HO352:=n0_;have HO355:=n1_;have BK346:=n2_;have HB:=n3_;clear n0_ n1_ n2_ n3_;(try clear hb);(try clear hb2);(try clear hk);(try clear hi);have hcz20_0 : w19.cell? ⟨gb346,0,none⟩ = some (.int .i64 a0_0):=(blk_cell BK346.out 0).trans rfl;have hcz20_1 : w19.cell? ⟨gb346,1,none⟩ = some (.int .i64 a0_1):=(blk_cell BK346.out 1).trans rfl;have hcz20_2 : w19.cell? ⟨gb346,2,none⟩ = some (.slice A0_2 l0_2.length c0_2):=(blk_cell BK346.out 2).trans rfl;have hcz20_3 : w19.cell? ⟨gb346,3,none⟩ = some (.slice A0_3 l0_3.length c0_3):=(blk_cell BK346.out 3).trans rfl;have hfz20_0:=sJ BK346.out 0;have hfz20_1:=sJ BK346.out 1;have hfz20_2:=sJ BK346.out 2;have hfz20_3:=sJ BK346.out 3)|((with_reducible refine gate_callee (f:=6) rfl ?_);refine goesL_ (some 21) rfl rfl Tryd.func6 (by kernel_rfl) rfl #[.agg #[.int .i64 a0_0,.int .i64 a0_1,.slice A0_2 l0_2.length c0_2,.slice A0_3 l0_3.length c0_3]] rfl (by (try simp only [sE,sH,sI]);first|done|rfl|(simp only [sG,sF];rfl)) ?_;(with_reducible refine (laws_toTable.calls k a0_0 a0_1 _ _ l0_2 _ _ l0_3 t358 t359 t360 t363 _ ?side1 ?side2 ?side3 ?side4 A9.out).mono ?_);(case side1 => repeat (first|exact (Kd.C_below HR0_2.out HB.out)|(with_reducible refine Kd.C_alloc ?_ _)|(with_reducible refine Kd.C_drewN ?_ _)|(with_reducible refine Kd.C_drew ?_)));(case side2 => exact HC0_2.out);(case side3 => repeat (first|exact (Kd.C_below HR0_3.out HB.out)|(with_reducible refine Kd.C_alloc ?_ _)|(with_reducible refine Kd.C_drewN ?_ _)|(with_reducible refine Kd.C_drew ?_)));(case side4 => exact HC0_3.out);rintro e w21 ⟨v361,v364,rfl,ho0,ho1,hb⟩;refine ⟨_,rfl,?_⟩;have n0_:=qe11 (Kd.S_elder' (by (with_reducible repeat (first|apply Kd.S_alloc|apply Kd.S_drewN|apply Kd.S_drew));exact HO352.out) (Kd.S_base ho0) hb);have n1_:=qe11 (Kd.R_elder' (by (with_reducible repeat (first|apply Kd.R_alloc|apply Kd.R_drewN|apply Kd.R_drew));exact HO355.out) (Kd.R_base ho1) hb);have n2_:=qe11 (Kd.S_lower (Kd.S_new' ho0 (Kd.S_lt (by (with_reducible repeat (first|apply Kd.S_alloc|apply Kd.S_drewN|apply Kd.S_drew));exact HO352.out))) (below_size (by repeat (first|(with_reducible first|exact HB.out|apply qa11|apply qb11|apply qc11|refine qd11 ?_ GE346.out)|exact HB.out))));have n3_:=qe11 (Kd.R_lower (Kd.R_new' ho1 (Kd.R_lt (by (with_reducible repeat (first|apply Kd.R_alloc|apply Kd.R_drewN|apply Kd.R_drew));exact HO355.out))) (below_size (by repeat (first|(with_reducible first|exact HB.out|apply qa11|apply qb11|apply qc11|refine qd11 ?_ GE346.out)|exact HB.out))));have n4_:=qe11 (blk_below (g:=gb346) (o:=.cells #[.int .i64 a0_0,.int .i64 a0_1,.slice A0_2 l0_2.length c0_2,.slice A0_3 l0_3.length c0_3] 25 (0,0)) (by (with_reducible repeat (first|apply blk_drewN|apply blk_drew|apply blk_alloc));exact BK346.out) hb);have n5_:=qe11 (sN (by repeat (first|(with_reducible first|exact HB.out|apply qa11|apply qb11|apply qc11|refine qd11 ?_ GE346.out)|exact HB.out)) hb);clear HO352;clear HO355;clear BK346;clear HB;have HO352:=n0_;have HO355:=n1_;have HO362:=n2_;have HO365:=n3_;have BK346:=n4_;have HB:=n5_;clear n0_ n1_ n2_ n3_ n4_ n5_;(try clear hb);(try clear hb2);(try clear hk);(try clear hi);(try clear ho0);(try clear ho1))|((with_reducible refine gate_dst (N:=6) rfl ?_);refine box_event ?hg (N:=6) ?hd (cs:=#[.int .i64 0,.int .i64 0,.slice none 0 0,.slice none 0 0]) (t:=32) ?hr ?_;(case hd => rfl);(case hg => rfl);(case hr => first|(go_simp;done)|(go_simp;rfl));intro gb366 hg w22 hbox hb;have n0_:=qe11 (Kd.S_below (by (with_reducible repeat (first|apply Kd.S_alloc|apply Kd.S_drewN|apply Kd.S_drew));exact HO352.out) hb);have n1_:=qe11 (Kd.R_below (by (with_reducible repeat (first|apply Kd.R_alloc|apply Kd.R_drewN|apply Kd.R_drew));exact HO355.out) hb);have n2_:=qe11 (Kd.S_below (by (with_reducible repeat (first|apply Kd.S_alloc|apply Kd.S_drewN|apply Kd.S_drew));exact HO362.out) hb);have n3_:=qe11 (Kd.R_below (by (with_reducible repeat (first|apply Kd.R_alloc|apply Kd.R_drewN|apply Kd.R_drew));exact HO365.out) hb);have n4_:=qe11 (blk_below (g:=gb346) (o:=.cells #[.int .i64 a0_0,.int .i64 a0_1,.slice A0_2 l0_2.length c0_2,.slice A0_3 l0_3.length c0_3] 25 (0,0)) (by (with_reducible repeat (first|apply blk_drewN|apply blk_drew|apply blk_alloc));exact BK346.out) hb);have n5_:=qe11 (sN (by repeat (first|(with_reducible first|exact HB.out|apply qa11|apply qb11|apply qc11|refine qd11 ?_ GE346.out)|exact HB.out)) hb);have n6_:=qe11 (hbox);have n7_:=qe11 ((by rw [hg];exact (below_size (by repeat (first|(with_reducible first|exact HB.out|apply qa11|apply qb11|apply qc11|refine qd11 ?_ GE346.out)|exact HB.out))) : w.heap.size ≤ gb366));have n8_:=qe11 ((by rw [hg];exact (below_size (by repeat (first|(with_reducible first|exact HB.out|apply qa11|apply qb11|apply qc11|refine qd11 ?_ GE346.out)|exact HB.out))) : w.heap.size ≤ gb366));have n9_:=qe11 ((by rw [hg];exact Nat.ne_of_lt (blk_lt (g:=gb346) (o:=.cells #[.int .i64 a0_0,.int .i64 a0_1,.slice A0_2 l0_2.length c0_2,.slice A0_3 l0_3.length c0_3] 25 (0,0)) (by (with_reducible repeat (first|apply blk_drewN|apply blk_drew|apply blk_alloc));exact BK346.out)) : gb346 ≠ gb366));have n10_:=qe11 ((by rw [hg];exact Nat.ne_of_gt (blk_lt (g:=gb346) (o:=.cells #[.int .i64 a0_0,.int .i64 a0_1,.slice A0_2 l0_2.length c0_2,.slice A0_3 l0_3.length c0_3] 25 (0,0)) (by (with_reducible repeat (first|apply blk_drewN|apply blk_drew|apply blk_alloc));exact BK346.out)) : gb366 ≠ gb346));clear HO352;clear HO355;clear HO362;clear HO365;clear BK346;clear HB;have HO352:=n0_;have HO355:=n1_;have HO362:=n2_;have HO365:=n3_;have BK346:=n4_;have HB:=n5_;have BK366:=n6_;have GW366:=n7_;have GE366:=n8_;have NB346_366:=n9_;have NB366_346:=n10_;clear n0_ n1_ n2_ n3_ n4_ n5_ n6_ n7_ n8_ n9_ n10_;clear hb hbox hg;have hnb23:=NB366_346.out;have hnc23:=NB346_366.out;have hcz24_0 : w22.cell? ⟨gb366,0,none⟩ = some (.int .i64 0):=(blk_cell BK366.out 0).trans rfl;have hcz24_1 : w22.cell? ⟨gb366,1,none⟩ = some (.int .i64 0):=(blk_cell BK366.out 1).trans rfl;have hcz24_2 : w22.cell? ⟨gb366,2,none⟩ = some (.slice none 0 0):=(blk_cell BK366.out 2).trans rfl;have hcz24_3 : w22.cell? ⟨gb366,3,none⟩ = some (.slice none 0 0):=(blk_cell BK366.out 3).trans rfl;have hfz24_0:=sJ BK366.out 0;have hfz24_1:=sJ BK366.out 1;have hfz24_2:=sJ BK366.out 2;have hfz24_3:=sJ BK366.out 3;obtain ⟨Ao25,co25,eo25⟩:=Kd.S_slice HO362.out;subst eo25;obtain ⟨Ao26,co26,eo26⟩:=Kd.R_slice HO365.out;subst eo26)|((with_reducible refine gate_callee (f:=7) rfl ?_);refine goesL_ (some 24) rfl rfl Tryd.func7 (by kernel_rfl) rfl #[.agg #[.int .i64 t358,.int .i64 t359,.slice Ao25 t360.length co25,.slice Ao26 t363.length co26]] rfl (by (try simp only [sE,sH,sI]);first|done|rfl|(simp only [sG,sF];rfl)) ?_;(with_reducible refine (impl_TableDigest.calls k t358 t359 _ _ t360 _ _ t363 t367 t368 _ ?side1 ?side2 ?side3 ?side4 ?side5 A10.out).mono ?_);(case side1 => refine (Kd.S_reads' (e:=55) (base:=w.heap.size) (ok:=fun k_ => (True ∧ some k_ ≠ (.slice Ao17 t350.length co17 : Value).ownBlock)) (n:=t360.length) (c:=co25) ?_).2.2;exact (by (with_reducible repeat (first|apply Kd.S_alloc|apply Kd.S_drewN|apply Kd.S_drew));exact (Kd.S_mono (Kd.S_far (p:=⟨gb366,3,none⟩) (Kd.S_far (p:=⟨gb366,2,none⟩) (Kd.S_far (p:=⟨gb366,1,none⟩) (Kd.S_far (p:=⟨gb366,0,none⟩) (Kd.S_types HO362.out BK366.out (by decide)) (fun _ hk => hk.2) (.int .i64 t358)) (fun _ hk => hk.2) (.int .i64 t359)) (fun _ hk => hk.2) (.slice Ao25 t360.length co25)) (fun _ hk => hk.2) (.slice Ao26 t363.length co26)) (fun _ h_ => h_.1))));(case side2 => exact (Kd.S_reads' HO362.out).2.1);(case side3 => refine (Kd.R_reads' (e:=62) (base:=w.heap.size) (ok:=fun k_ => (True ∧ some k_ ≠ (.slice Ao18 t353.length co18 : Value).ownBlock)) (n:=t363.length) (c:=co26) ?_).2.2;exact (by (with_reducible repeat (first|apply Kd.R_alloc|apply Kd.R_drewN|apply Kd.R_drew));exact (Kd.R_mono (Kd.R_far (p:=⟨gb366,3,none⟩) (Kd.R_far (p:=⟨gb366,2,none⟩) (Kd.R_far (p:=⟨gb366,1,none⟩) (Kd.R_far (p:=⟨gb366,0,none⟩) (Kd.R_types HO365.out BK366.out (by decide)) (fun _ hk => hk.2) (.int .i64 t358)) (fun _ hk => hk.2) (.int .i64 t359)) (fun _ hk => hk.2) (.slice Ao25 t360.length co25)) (fun _ hk => hk.2) (.slice Ao26 t363.length co26)) (fun _ h_ => h_.1))));(case side4 => exact (Kd.R_reads' HO365.out).2.1);(case side5 => exact Go.Proofs.YtjkanhjapddhnaaDoor.Sha.glob_below hG_ (by repeat (first|(with_reducible first|exact HB.out|apply qa11|apply qb11|apply qc11|refine qd11 ?_ GE346.out|refine qd11 ?_ GE366.out)|exact HB.out)));rintro e w27 ⟨rfl,hb⟩;refine ⟨_,rfl,?_⟩;have n0_:=qe11 (Kd.S_below (by (with_reducible repeat (first|apply Kd.S_alloc|apply Kd.S_drewN|apply Kd.S_drew));exact (Kd.S_mono (Kd.S_far (p:=⟨gb366,3,none⟩) (Kd.S_far (p:=⟨gb366,2,none⟩) (Kd.S_far (p:=⟨gb366,1,none⟩) (Kd.S_far (p:=⟨gb366,0,none⟩) (Kd.S_types HO352.out BK366.out (by decide)) (fun _ hk => hk.2) (.int .i64 t358)) (fun _ hk => hk.2) (.int .i64 t359)) (fun _ hk => hk.2) (.slice Ao25 t360.length co25)) (fun _ hk => hk.2) (.slice Ao26 t363.length co26)) (fun _ h_ => h_.1))) hb);have n1_:=qe11 (Kd.R_below (by (with_reducible repeat (first|apply Kd.R_alloc|apply Kd.R_drewN|apply Kd.R_drew));exact (Kd.R_mono (Kd.R_far (p:=⟨gb366,3,none⟩) (Kd.R_far (p:=⟨gb366,2,none⟩) (Kd.R_far (p:=⟨gb366,1,none⟩) (Kd.R_far (p:=⟨gb366,0,none⟩) (Kd.R_types HO355.out BK366.out (by decide)) (fun _ hk => hk.2) (.int .i64 t358)) (fun _ hk => hk.2) (.int .i64 t359)) (fun _ hk => hk.2) (.slice Ao25 t360.length co25)) (fun _ hk => hk.2) (.slice Ao26 t363.length co26)) (fun _ h_ => h_.1))) hb);have n2_:=qe11 (Kd.S_below (by (with_reducible repeat (first|apply Kd.S_alloc|apply Kd.S_drewN|apply Kd.S_drew));exact (Kd.S_mono (Kd.S_far (p:=⟨gb366,3,none⟩) (Kd.S_far (p:=⟨gb366,2,none⟩) (Kd.S_far (p:=⟨gb366,1,none⟩) (Kd.S_far (p:=⟨gb366,0,none⟩) (Kd.S_types HO362.out BK366.out (by decide)) (fun _ hk => hk.2) (.int .i64 t358)) (fun _ hk => hk.2) (.int .i64 t359)) (fun _ hk => hk.2) (.slice Ao25 t360.length co25)) (fun _ hk => hk.2) (.slice Ao26 t363.length co26)) (fun _ h_ => h_.1))) hb);have n3_:=qe11 (Kd.R_below (by (with_reducible repeat (first|apply Kd.R_alloc|apply Kd.R_drewN|apply Kd.R_drew));exact (Kd.R_mono (Kd.R_far (p:=⟨gb366,3,none⟩) (Kd.R_far (p:=⟨gb366,2,none⟩) (Kd.R_far (p:=⟨gb366,1,none⟩) (Kd.R_far (p:=⟨gb366,0,none⟩) (Kd.R_types HO365.out BK366.out (by decide)) (fun _ hk => hk.2) (.int .i64 t358)) (fun _ hk => hk.2) (.int .i64 t359)) (fun _ hk => hk.2) (.slice Ao25 t360.length co25)) (fun _ hk => hk.2) (.slice Ao26 t363.length co26)) (fun _ h_ => h_.1))) hb);have n4_:=qe11 (blk_below (g:=gb346) (o:=.cells #[.int .i64 a0_0,.int .i64 a0_1,.slice A0_2 l0_2.length c0_2,.slice A0_3 l0_3.length c0_3] 25 (0,0)) (by (with_reducible repeat (first|apply blk_drewN|apply blk_drew|apply blk_alloc));refine blk_far ?_ NB346_366.out _;(with_reducible repeat (first|apply blk_drewN|apply blk_drew|apply blk_alloc));refine blk_far ?_ NB346_366.out _;(with_reducible repeat (first|apply blk_drewN|apply blk_drew|apply blk_alloc));refine blk_far ?_ NB346_366.out _;(with_reducible repeat (first|apply blk_drewN|apply blk_drew|apply blk_alloc));refine blk_far ?_ NB346_366.out _;(with_reducible repeat (first|apply blk_drewN|apply blk_drew|apply blk_alloc));exact BK346.out) hb);have n5_:=qe11 (blk_below (g:=gb366) (o:=.cells #[.int .i64 t358,.int .i64 t359,.slice Ao25 t360.length co25,.slice Ao26 t363.length co26] 32 (0,0)) (by (with_reducible repeat (first|apply blk_drewN|apply blk_drew|apply blk_alloc));refine blk_put (cs:=#[.int .i64 t358,.int .i64 t359,.slice Ao25 t360.length co25,.slice none 0 0]) ?_ 3 _ rfl;(with_reducible repeat (first|apply blk_drewN|apply blk_drew|apply blk_alloc));refine blk_put (cs:=#[.int .i64 t358,.int .i64 t359,.slice none 0 0,.slice none 0 0]) ?_ 2 _ rfl;(with_reducible repeat (first|apply blk_drewN|apply blk_drew|apply blk_alloc));refine blk_put (cs:=#[.int .i64 t358,.int .i64 0,.slice none 0 0,.slice none 0 0]) ?_ 1 _ rfl;(with_reducible repeat (first|apply blk_drewN|apply blk_drew|apply blk_alloc));refine blk_put (cs:=#[.int .i64 0,.int .i64 0,.slice none 0 0,.slice none 0 0]) ?_ 0 _ rfl;(with_reducible repeat (first|apply blk_drewN|apply blk_drew|apply blk_alloc));exact BK366.out) hb);have n6_:=qe11 (sN (by repeat (first|(with_reducible first|exact HB.out|apply qa11|apply qb11|apply qc11|refine qd11 ?_ GE346.out|refine qd11 ?_ GE366.out)|exact HB.out)) hb);clear HO352;clear HO355;clear HO362;clear HO365;clear BK346;clear BK366;clear HB;have HO352:=n0_;have HO355:=n1_;have HO362:=n2_;have HO365:=n3_;have BK346:=n4_;have BK366:=n5_;have HB:=n6_;clear n0_ n1_ n2_ n3_ n4_ n5_ n6_;(try clear hb);(try clear hb2);(try clear hk);(try clear hi)))
  (try simp only [Act.put,sA,sB,sC])
  go_cut [34] (fun v34 wc => ∃ (kq : Nat) (x34_10 : Bool),v34 = .bool x34_10 ∧ Aside0 (laws_FnExactTableDigest.j0 kq x34_10 a0_0 a0_1 l0_2 l0_3 t358 t359 t360 t363 = some r) ∧ Aside0 (kq ≤ k) ∧ Aside0 (Kd.S k55 55 wc w.heap.size (fun _ => True) (.slice Ao25 t360.length co25) t360) ∧ Aside0 (Kd.R k62 62 wc w.heap.size (fun _ => True) (.slice Ao26 t363.length co26) t363) ∧ Aside0 (wc.heap[gb346]? = some (.cells #[.int .i64 a0_0,.int .i64 a0_1,(.slice A0_2 l0_2.length c0_2),(.slice A0_3 l0_3.length c0_3)] 25 (0,0))) ∧ Aside0 (wc.heap[gb366]? = some (.cells #[.int .i64 t358,.int .i64 t359,(.slice Ao25 t360.length co25),(.slice Ao26 t363.length co26)] 32 (0,0))) ∧ Aside0 (Below w.heap.size w wc))
  case first =>
   have H:=HC11.out
   clear HC11
   by_cases c28 : t367.toList = t356.toList
   ·
    rw [if_pos c28] at H
    have c28b0 : (t367.toList == t356.toList) = true:=beq_iff_eq.mpr c28
    have c28b1 : (t367.toList != t356.toList) = false:=bne_eq_false_iff_eq.mpr c28
    clear c28
    (first|rw [c28b0]|(simp only [i64_w,i32_w];rw [c28b0])|skip)
    have H':=qe11 H
    clear H
    go_wp2
    go_meet
    case rel => exact ⟨_,((t368 != t357)),(by first|rfl|(simp;done)|(simp [*];done)),H',⟨by first|omega|exact Nat.le_refl _⟩,⟨by (with_reducible repeat (first|apply Kd.S_alloc|apply Kd.S_drewN|apply Kd.S_drew));exact Kd.S_mono HO362.out (fun _ hk => trivial)⟩,⟨by (with_reducible repeat (first|apply Kd.R_alloc|apply Kd.R_drewN|apply Kd.R_drew));exact Kd.R_mono HO365.out (fun _ hk => trivial)⟩,⟨by (with_reducible repeat (first|apply blk_drewN|apply blk_drew|apply blk_alloc));exact BK346.out⟩,⟨by (with_reducible repeat (first|apply blk_drewN|apply blk_drew|apply blk_alloc));exact BK366.out⟩,⟨by repeat (first|(with_reducible first|exact HB.out|apply qa11|apply qb11|apply qc11|refine qd11 ?_ GE346.out|refine qd11 ?_ GE366.out)|exact HB.out)⟩⟩
   ·
    rw [if_neg c28] at H
    have c28b0 : (t367.toList == t356.toList) = false:=beq_eq_false_iff_ne.mpr c28
    have c28b1 : (t367.toList != t356.toList) = true:=bne_iff_ne.mpr c28
    (first|rw [c28b0]|(simp only [i64_w,i32_w];rw [c28b0])|skip)
    have H':=qe11 H
    clear H
    go_wp2
    go_meet
    case rel => exact ⟨_,(true),(by first|rfl|(simp;done)|(simp [*];done)),H',⟨by first|omega|exact Nat.le_refl _⟩,⟨by (with_reducible repeat (first|apply Kd.S_alloc|apply Kd.S_drewN|apply Kd.S_drew));exact Kd.S_mono HO362.out (fun _ hk => trivial)⟩,⟨by (with_reducible repeat (first|apply Kd.R_alloc|apply Kd.R_drewN|apply Kd.R_drew));exact Kd.R_mono HO365.out (fun _ hk => trivial)⟩,⟨by (with_reducible repeat (first|apply blk_drewN|apply blk_drew|apply blk_alloc));exact BK346.out⟩,⟨by (with_reducible repeat (first|apply blk_drewN|apply blk_drew|apply blk_alloc));exact BK366.out⟩,⟨by repeat (first|(with_reducible first|exact HB.out|apply qa11|apply qb11|apply qc11|refine qd11 ?_ GE346.out|refine qd11 ?_ GE366.out)|exact HB.out)⟩⟩
  case rest =>
   clear HC11
   try clear c2
   try clear p2
   try clear c3
   try clear c3b0
   try clear c4
   try clear c5
   try clear c6
   try clear c7
   try clear c23
   try clear c28
   try clear c28b0
   try clear c28b1
   try clear hcz13_0
   try clear hcz13_1
   try clear hcz13_2
   try clear hcz13_3
   try clear hcz15_0
   try clear hcz15_1
   try clear hcz15_2
   try clear hcz15_3
   try clear hcz20_0
   try clear hcz20_1
   try clear hcz20_2
   try clear hcz20_3
   try clear hcz24_0
   try clear hcz24_1
   try clear hcz24_2
   try clear hcz24_3
   try clear hcz5_0
   try clear hcz5_1
   try clear hcz5_2
   try clear hcz5_3
   try clear hfz13_0
   try clear hfz13_1
   try clear hfz13_2
   try clear hfz13_3
   try clear hfz15_0
   try clear hfz15_1
   try clear hfz15_2
   try clear hfz15_3
   try clear hfz20_0
   try clear hfz20_1
   try clear hfz20_2
   try clear hfz20_3
   try clear hfz24_0
   try clear hfz24_1
   try clear hfz24_2
   try clear hfz24_3
   try clear hfz5_0
   try clear hfz5_1
   try clear hfz5_2
   try clear hfz5_3
   obtain ⟨kq,x34_10,rfl,HA,HJ10,HO_367002,HO_367003,BK346,BK366,HB⟩:=hcut
   cases kq with
   | zero => exact absurd HA.out (by simp [laws_FnExactTableDigest.j0])
   | succ kj10 =>
    have H:=HA.out
    clear HA
    simp only [laws_FnExactTableDigest.j0] at H
    by_cases c29 : x34_10 = true
    ·
     subst c29
     have H1 : (some false) = some r:=by rw [if_pos rfl] at H;exact H
     clear H
     have H:=H1
     clear H1
     obtain rfl:=sO H
     exact absurd hr_ (by decide)
    ·
     replace c29:=Bool.eq_false_iff.mpr c29
     subst c29
     have H1 : ((laws_toTable.f kj10 a0_0 a0_1 l0_2 l0_3).bind fun bt369 => ((laws_eqTable.f t358 t359 t360 t363 bt369.1 bt369.2.1 bt369.2.2.1 bt369.2.2.2).bind fun t377 => (if t377 = true then (some true) else (some false)))) = some r:=by rw [if_neg (show ¬ (false = true) by decide)] at H;exact H
     clear H
     have H:=H1
     clear H1
     replace H:=Option.bind_eq_some_iff.mp H
     obtain ⟨⟨t369,t370,t371,t374⟩,A300,H⟩:=H
     replace H : ((laws_eqTable.f t358 t359 t360 t363 t369 t370 t371 t374).bind fun t377 => (if t377 = true then (some true) else (some false))) = some r:=H
     have A30:=qe11 A300
     clear A300
     replace H:=Option.bind_eq_some_iff.mp H
     obtain ⟨t377,A310,H⟩:=H
     replace H : (if t377 = true then (some true) else (some false)) = some r:=H
     have A31:=qe11 A310
     clear A310
     by_cases c32 : t377 = true
     ·
      subst c32
      have H1 : (some true) = some r:=by rw [if_pos rfl] at H;exact H
      clear H
      have H:=H1
      clear H1
      obtain rfl:=sO H
      try go_wp2
      have n0_:=qe11 (Kd.S_drew HO_367002.out)
      have n1_:=qe11 (Kd.R_drew HO_367003.out)
      have n2_:=qe11 (blk_drew BK346.out)
      have n3_:=qe11 (blk_drew BK366.out)
      have n4_:=qe11 (qc11 HB.out)
      clear HO_367002
      clear HO_367003
      clear BK346
      clear BK366
      clear HB
      have HO_367002:=n0_
      have HO_367003:=n1_
      have BK346:=n2_
      have BK366:=n3_
      have HB:=n4_
      clear n0_ n1_ n2_ n3_ n4_
      refine start_ (n:=5) (S:=fun w' => w'.cell? ⟨gb366,0,none⟩ = some (.int .i64 t358) ∧ w'.cell? ⟨gb366,1,none⟩ = some (.int .i64 t359) ∧ w'.cell? ⟨gb366,2,none⟩ = some (.slice Ao25 t360.length co25) ∧ w'.cell? ⟨gb366,3,none⟩ = some (.slice Ao26 t363.length co26) ∧ w'.cell? ⟨gb346,0,none⟩ = some (.int .i64 a0_0) ∧ w'.cell? ⟨gb346,1,none⟩ = some (.int .i64 a0_1) ∧ w'.cell? ⟨gb346,2,none⟩ = some (.slice A0_2 l0_2.length c0_2) ∧ w'.cell? ⟨gb346,3,none⟩ = some (.slice A0_3 l0_3.length c0_3)) (ds:=[]) #[false,false,false,false,false] (by kernel_rfl) rfl rfl ⟨(blk_cell BK366.out 0).trans rfl,(blk_cell BK366.out 1).trans rfl,(blk_cell BK366.out 2).trans rfl,(blk_cell BK366.out 3).trans rfl,(blk_cell BK346.out 0).trans rfl,(blk_cell BK346.out 1).trans rfl,(blk_cell BK346.out 2).trans rfl,(blk_cell BK346.out 3).trans rfl⟩ (fun hHeld => ?_)
      generalize wc.drew = w33 at HO_367002 HO_367003 BK346 BK366 HB hHeld ⊢
      refine take_ (i:=0) (N:=some 35) (v:=?_) (a':=?_) #[true,false,false,false,false] rfl rfl (by kernel_rfl) (fun _ _ _ h => h) (Or.inl ⟨by rfl,?_⟩) hHeld ?_ ?_
      rotate_left
      ·
       rintro w' ⟨s0,s1,s2,s3,s4,s5,s6,s7⟩
       go_simp
       with_reducible rfl
      rotate_left
      ·
       simp only [Act.put,sA,sB,sC,i64_w,i32_w]
       rfl
      refine take_ (i:=1) (N:=some 36) (v:=?_) (a':=?_) #[true,true,false,false,false] rfl rfl (by kernel_rfl) (fun _ _ _ h => h) (Or.inl ⟨by rfl,?_⟩) hHeld ?_ ?_
      rotate_left
      ·
       rintro w' ⟨s0,s1,s2,s3,s4,s5,s6,s7⟩
       go_simp
       with_reducible rfl
      rotate_left
      ·
       simp only [Act.put,sA,sB,sC,i64_w,i32_w]
       rfl
      refine one_ (i:=2) (N:=some 37) #[true,true,true,false,false] rfl rfl (by kernel_rfl) (by decide) (fun K hK => ?_)
      refine goes_ Tryd.func6 (by kernel_rfl) rfl #[.agg #[.int .i64 a0_0,.int .i64 a0_1,.slice A0_2 l0_2.length c0_2,.slice A0_3 l0_3.length c0_3]] (by rfl) rfl rfl (by (try simp only [sE,sH,sI]);first|done|rfl|(simp only [sG,sF];rfl)) ?_
      with_reducible refine (laws_toTable.calls kj10 a0_0 a0_1 _ _ l0_2 _ _ l0_3 t369 t370 t371 t374 _ ?side1 ?side2 ?side3 ?side4 A30.out).mono ?_
      (case side1 => repeat (first|exact (Kd.C_below HR0_2.out HB.out)|(with_reducible refine Kd.C_alloc ?_ _)|(with_reducible refine Kd.C_drewN ?_ _)|(with_reducible refine Kd.C_drew ?_)))
      (case side2 => exact HC0_2.out)
      (case side3 => repeat (first|exact (Kd.C_below HR0_3.out HB.out)|(with_reducible refine Kd.C_alloc ?_ _)|(with_reducible refine Kd.C_drewN ?_ _)|(with_reducible refine Kd.C_drew ?_)))
      (case side4 => exact HC0_3.out)
      rintro e w34 ⟨v372,v375,rfl,ho0,ho1,hb⟩
      refine ⟨_,rfl,?_⟩
      have n0_:=qe11 (Kd.S_elder' (by (with_reducible repeat (first|apply Kd.S_alloc|apply Kd.S_drewN|apply Kd.S_drew));exact HO_367002.out) (Kd.S_base ho0) hb)
      have n1_:=qe11 (Kd.R_elder' (by (with_reducible repeat (first|apply Kd.R_alloc|apply Kd.R_drewN|apply Kd.R_drew));exact HO_367003.out) (Kd.R_base ho1) hb)
      have n2_:=qe11 (Kd.S_lower (Kd.S_new' ho0 (Kd.S_lt (by (with_reducible repeat (first|apply Kd.S_alloc|apply Kd.S_drewN|apply Kd.S_drew));exact HO_367002.out))) (below_size (by repeat (first|(with_reducible first|exact HB.out|apply qa11|apply qb11|apply qc11|refine qd11 ?_ GE346.out|refine qd11 ?_ GE366.out)|exact HB.out))))
      have n3_:=qe11 (Kd.R_lower (Kd.R_new' ho1 (Kd.R_lt (by (with_reducible repeat (first|apply Kd.R_alloc|apply Kd.R_drewN|apply Kd.R_drew));exact HO_367003.out))) (below_size (by repeat (first|(with_reducible first|exact HB.out|apply qa11|apply qb11|apply qc11|refine qd11 ?_ GE346.out|refine qd11 ?_ GE366.out)|exact HB.out))))
      have n4_:=qe11 (blk_below (g:=gb346) (o:=.cells #[.int .i64 a0_0,.int .i64 a0_1,.slice A0_2 l0_2.length c0_2,.slice A0_3 l0_3.length c0_3] 25 (0,0)) (by (with_reducible repeat (first|apply blk_drewN|apply blk_drew|apply blk_alloc));exact BK346.out) hb)
      have n5_:=qe11 (blk_below (g:=gb366) (o:=.cells #[.int .i64 t358,.int .i64 t359,.slice Ao25 t360.length co25,.slice Ao26 t363.length co26] 32 (0,0)) (by (with_reducible repeat (first|apply blk_drewN|apply blk_drew|apply blk_alloc));exact BK366.out) hb)
      have n6_:=qe11 (sN (by repeat (first|(with_reducible first|exact HB.out|apply qa11|apply qb11|apply qc11|refine qd11 ?_ GE346.out|refine qd11 ?_ GE366.out)|exact HB.out)) hb)
      clear HO_367002
      clear HO_367003
      clear BK346
      clear BK366
      clear HB
      have HO_367002:=n0_
      have HO_367003:=n1_
      have HO373:=n2_
      have HO376:=n3_
      have BK346:=n4_
      have BK366:=n5_
      have HB:=n6_
      clear n0_ n1_ n2_ n3_ n4_ n5_ n6_
      (try clear hb)
      (try clear hb2)
      (try clear hk)
      (try clear hi)
      (try clear ho0)
      (try clear ho1)
      obtain ⟨Ao35,co35,eo35⟩:=Kd.S_slice HO373.out
      (first|subst eo35|(injection eo35 with f1_ f2_ f3_;have f4_:=f1_.symm;have f5_:=f3_.symm;clear f1_ f2_ f3_;subst f4_;subst f5_))
      obtain ⟨Ao36,co36,eo36⟩:=Kd.R_slice HO376.out
      (first|subst eo36|(injection eo36 with f1_ f2_ f3_;have f4_:=f1_.symm;have f5_:=f3_.symm;clear f1_ f2_ f3_;subst f4_;subst f5_))
      refine hK.out _ _ ⟨(blk_cell BK366.out 0).trans rfl,(blk_cell BK366.out 1).trans rfl,(blk_cell BK366.out 2).trans rfl,(blk_cell BK366.out 3).trans rfl,(blk_cell BK346.out 0).trans rfl,(blk_cell BK346.out 1).trans rfl,(blk_cell BK346.out 2).trans rfl,(blk_cell BK346.out 3).trans rfl⟩ (fun hHeld => ?_)
      clear hK K
      refine norm_ (a':=?_) ?_ ?_
      rotate_left
      ·
       show Act.put _ (some 37) _ = _
       simp only [Act.put,sA,sB,sC,i64_w,i32_w]
       rfl
      refine one_ (i:=3) (N:=some 38) #[true,true,true,true,false] rfl rfl (by kernel_rfl) (by decide) (fun K hK => ?_)
      refine goes_ Tryd.func8 (by kernel_rfl) rfl #[.agg #[.int .i64 t358,.int .i64 t359,.slice Ao25 t360.length co25,.slice Ao26 t363.length co26],.agg #[.int .i64 t369,.int .i64 t370,.slice Ao35 t371.length co35,.slice Ao36 t374.length co36]] (by rfl) rfl rfl (by (try simp only [sE,sH,sI]);first|done|rfl|(simp only [sG,sF];rfl)) ?_
      with_reducible refine (laws_eqTable.calls t358 t359 _ _ t360 _ _ t363 t369 t370 _ _ t371 _ _ t374 true _ ?side1 ?side2 ?side3 ?side4 ?side5 ?side6 ?side7 ?side8 A31.out).mono ?_
      (case side1 => repeat (first|exact (Kd.S_reads' HO_367002.out).2.2|(with_reducible refine Kd.C_alloc ?_ _)|(with_reducible refine Kd.C_drewN ?_ _)|(with_reducible refine Kd.C_drew ?_)))
      (case side2 => exact (Kd.S_reads' HO_367002.out).2.1)
      (case side3 => repeat (first|exact (Kd.R_reads' HO_367003.out).2.2|(with_reducible refine Kd.C_alloc ?_ _)|(with_reducible refine Kd.C_drewN ?_ _)|(with_reducible refine Kd.C_drew ?_)))
      (case side4 => exact (Kd.R_reads' HO_367003.out).2.1)
      (case side5 => repeat (first|exact (Kd.S_reads' HO373.out).2.2|(with_reducible refine Kd.C_alloc ?_ _)|(with_reducible refine Kd.C_drewN ?_ _)|(with_reducible refine Kd.C_drew ?_)))
      (case side6 => exact (Kd.S_reads' HO373.out).2.1)
      (case side7 => repeat (first|exact (Kd.R_reads' HO376.out).2.2|(with_reducible refine Kd.C_alloc ?_ _)|(with_reducible refine Kd.C_drewN ?_ _)|(with_reducible refine Kd.C_drew ?_)))
      (case side8 => exact (Kd.R_reads' HO376.out).2.1)
      rintro e w37 ⟨rfl,hb⟩
      refine ⟨_,rfl,?_⟩
      have n0_:=qe11 (Kd.S_below (by (with_reducible repeat (first|apply Kd.S_alloc|apply Kd.S_drewN|apply Kd.S_drew));exact HO_367002.out) hb)
      have n1_:=qe11 (Kd.R_below (by (with_reducible repeat (first|apply Kd.R_alloc|apply Kd.R_drewN|apply Kd.R_drew));exact HO_367003.out) hb)
      have n2_:=qe11 (Kd.S_below (by (with_reducible repeat (first|apply Kd.S_alloc|apply Kd.S_drewN|apply Kd.S_drew));exact HO373.out) hb)
      have n3_:=qe11 (Kd.R_below (by (with_reducible repeat (first|apply Kd.R_alloc|apply Kd.R_drewN|apply Kd.R_drew));exact HO376.out) hb)
      have n4_:=qe11 (blk_below (g:=gb346) (o:=.cells #[.int .i64 a0_0,.int .i64 a0_1,.slice A0_2 l0_2.length c0_2,.slice A0_3 l0_3.length c0_3] 25 (0,0)) (by (with_reducible repeat (first|apply blk_drewN|apply blk_drew|apply blk_alloc));exact BK346.out) hb)
      have n5_:=qe11 (blk_below (g:=gb366) (o:=.cells #[.int .i64 t358,.int .i64 t359,.slice Ao25 t360.length co25,.slice Ao26 t363.length co26] 32 (0,0)) (by (with_reducible repeat (first|apply blk_drewN|apply blk_drew|apply blk_alloc));exact BK366.out) hb)
      have n6_:=qe11 (sN (by repeat (first|(with_reducible first|exact HB.out|apply qa11|apply qb11|apply qc11|refine qd11 ?_ GE346.out|refine qd11 ?_ GE366.out)|exact HB.out)) hb)
      clear HO_367002
      clear HO_367003
      clear HO373
      clear HO376
      clear BK346
      clear BK366
      clear HB
      have HO_367002:=n0_
      have HO_367003:=n1_
      have HO373:=n2_
      have HO376:=n3_
      have BK346:=n4_
      have BK366:=n5_
      have HB:=n6_
      clear n0_ n1_ n2_ n3_ n4_ n5_ n6_
      (try clear hb)
      (try clear hb2)
      (try clear hk)
      (try clear hi)
      refine hK.out _ _ ⟨(blk_cell BK366.out 0).trans rfl,(blk_cell BK366.out 1).trans rfl,(blk_cell BK366.out 2).trans rfl,(blk_cell BK366.out 3).trans rfl,(blk_cell BK346.out 0).trans rfl,(blk_cell BK346.out 1).trans rfl,(blk_cell BK346.out 2).trans rfl,(blk_cell BK346.out 3).trans rfl⟩ (fun hHeld => ?_)
      clear hK K
      refine norm_ (a':=?_) ?_ ?_
      rotate_left
      ·
       show Act.put _ (some 38) _ = _
       simp only [Act.put,sA,sB,sC,i64_w,i32_w]
       rfl
      refine pure_ (i:=4) (N:=some 39) (v:=?_) (a':=?_) #[true,true,true,true,true] rfl rfl (by kernel_rfl) (fun _ _ _ h => h) (Or.inl ⟨by rfl,?_⟩) ?_ ?_
      rotate_left
      ·
       intro w'
       go_simp
       with_reducible rfl
      rotate_left
      ·
       simp only [Act.put,sA,sB,sC,i64_w,i32_w]
       rfl
      refine done_ (by kernel_rfl) ?_
      try go_wp2
      go_ret
      exact ⟨by first|rfl|(simp [errW_none,errW_some] <;> rfl)|(simp [*,errW_none,errW_some] <;> rfl),by repeat (first|(with_reducible first|exact HB.out|apply qa11|apply qb11|apply qc11|refine qd11 ?_ GE346.out|refine qd11 ?_ GE366.out)|exact HB.out)⟩
     ·
      replace c32:=Bool.eq_false_iff.mpr c32
      subst c32
      have H1 : (some false) = some r:=by rw [if_neg (show ¬ (false = true) by decide)] at H;exact H
      clear H
      have H:=H1
      clear H1
      obtain rfl:=sO H
      exact absurd hr_ (by decide)

end Go.Proofs.YtjkanhjapddhnaaDoor.PFnExactTableDigest
