-- laid by this session's program myprint.py over the kit's printer
-- squeezed
-- aliased
import Derived.Test.YtjkanhjapddhnaaPFnExactTableBytesx0
import Derived.Test.YtjkanhjapddhnaaPFnExactTableBytesx3
import Derived.Test.YtjkanhjapddhnaaPFnExactTableBytesx4
namespace Go.Proofs.Ytjkanhjapddhnaa.PFnExactTableBytes
open Go.RowKit Go.Proofs.YtjkanhjapddhnaaV.PrintWords Go.Proofs.YtjkanhjapddhnaaV.PrintLast Go.Proofs.YtjkanhjapddhnaaV.PrintMore
attribute [local go_sem] max2_int min2_int max_two min_two max_three min_three max_four min_four u8_wm u32_wm   -- for this text's walks alone
set_option linter.unusedVariables false
set_option linter.unusedSimpArgs false

/-! ### spec_TableBytes: function 15 -/
theorem qa5 : type_of% @below_alloc:=@below_alloc
theorem qb5 : type_of% @pw_below_drewN:=@pw_below_drewN
theorem qc5 : type_of% @below_drew1:=@below_drew1
theorem qd5 : type_of% @Aside0.mk:=@Aside0.mk
def spec_TableBytes.f (k : Nat) (a0_0 : Int) (a0_1 : Int) (l0_2 : List (S70)) (l0_3 : List (S77)) : Option (List Int × Int):=(spec_TableOK.f a0_0 a0_1 l0_2 l0_3).bind fun t293 => (if t293 = true then ((spec_l05Bytes.f k a0_0 a0_1 l0_2 l0_3).bind fun t294 => (some (t294,0))) else (some ((([] : List Int)),1)))
set_option maxHeartbeats 8000000 in
set_option maxRecDepth 100000 in
theorem spec_TableBytes.calls (k : Nat) (a0_0 : Int) (a0_1 : Int) (A0_2 : Option Addr) (c0_2 : Nat) (l0_2 : List (S70)) (A0_3 : Option Addr) (c0_3 : Nat) (l0_3 : List (S77)) (r1 : List Int) (r2 : Int) (w : World) (hr0_2 : Kd.C k70 w A0_2 l0_2.length l0_2) (hc0_2 : l0_2.length ≤ c0_2) (hr0_3 : Kd.C k77 w A0_3 l0_3.length l0_3) (hc0_3 : l0_3.length ≤ c0_3) (h : spec_TableBytes.f k a0_0 a0_1 l0_2 l0_3 = some (r1,r2)) :
  Calls Try.prog 15 #[.agg #[.int .i64 a0_0,.int .i64 a0_1,.slice A0_2 l0_2.length c0_2,.slice A0_3 l0_3.length c0_3]] w fun e w' => ∃ v0_ : Value,e = .returned (.tuple #[v0_,.int .i64 r2]) ∧ Kd.R (Kd.int .u8) 5 w' w.heap.size (fun _ => True) v0_ r1 ∧ Below w.heap.size w w':=by
 have hu31:=Try.underlying31
 have HR0_2:=qd5 hr0_2
 have HC0_2:=qd5 hc0_2
 clear hr0_2 hc0_2
 have HR0_3:=qd5 hr0_3
 have HC0_3:=qd5 hc0_3
 clear hr0_3 hc0_3
 have HB:=qd5 (Below.refl w.heap.size w)
 have H : ((spec_TableOK.f a0_0 a0_1 l0_2 l0_3).bind fun t293 => (if t293 = true then ((spec_l05Bytes.f k a0_0 a0_1 l0_2 l0_3).bind fun t294 => (some (t294,0))) else (some ((([] : List Int)),1)))) = some (r1,r2):=h
 clear h
 replace H:=Option.bind_eq_some_iff.mp H
 obtain ⟨t293,A20,H⟩:=H
 replace H : (if t293 = true then ((spec_l05Bytes.f k a0_0 a0_1 l0_2 l0_3).bind fun t294 => (some (t294,0))) else (some ((([] : List Int)),1))) = some (r1,r2):=H
 have A2:=qd5 A20
 clear A20
 by_cases c3 : t293 = true
 ·
  subst c3
  have H1 : ((spec_l05Bytes.f k a0_0 a0_1 l0_2 l0_3).bind fun t294 => (some (t294,0))) = some (r1,r2):=by rw [if_pos rfl] at H;exact H
  clear H
  have H:=H1
  clear H1
  replace H:=Option.bind_eq_some_iff.mp H
  obtain ⟨t294,A40,H⟩:=H
  replace H : (some (t294,0)) = some (r1,r2):=H
  have A4:=qd5 A40
  clear A40
  simp only [Option.some.injEq,Prod.mk.injEq] at H
  obtain ⟨rfl,rfl⟩:=H
  go_enter Try.func15,Try.ntmps15
  go_wp2_with (first|((with_reducible refine gate_dst (N:=1) rfl ?_);refine box_event ?hg (N:=1) ?hd (cs:=#[.int .i64 a0_0,.int .i64 a0_1,.slice A0_2 l0_2.length c0_2,.slice A0_3 l0_3.length c0_3]) (t:=31) ?hr ?_;(case hd => rfl);(case hg => rfl);(case hr => first|(go_simp;done)|(go_simp;rfl));intro gb292 hg w5 hbox hb;have n0_:=qd5 (sN (by repeat (first|(with_reducible first|exact HB.out|apply qa5|apply qb5|apply qc5)|exact HB.out)) hb);have n1_:=qd5 (hbox);have n2_:=qd5 ((by rw [hg];exact (below_size (by repeat (first|(with_reducible first|exact HB.out|apply qa5|apply qb5|apply qc5)|exact HB.out))) : w.heap.size ≤ gb292));have n3_:=qd5 ((by rw [hg];exact (below_size (by repeat (first|(with_reducible first|exact HB.out|apply qa5|apply qb5|apply qc5)|exact HB.out))) : w.heap.size ≤ gb292));clear HB;have HB:=n0_;have BK292:=n1_;have GW292:=n2_;have GE292:=n3_;clear n0_ n1_ n2_ n3_;clear hb hbox hg;have hcz6_0 : w5.cell? ⟨gb292,0,none⟩ = some (.int .i64 a0_0):=(blk_cell BK292.out 0).trans rfl;have hcz6_1 : w5.cell? ⟨gb292,1,none⟩ = some (.int .i64 a0_1):=(blk_cell BK292.out 1).trans rfl;have hcz6_2 : w5.cell? ⟨gb292,2,none⟩ = some (.slice A0_2 l0_2.length c0_2):=(blk_cell BK292.out 2).trans rfl;have hcz6_3 : w5.cell? ⟨gb292,3,none⟩ = some (.slice A0_3 l0_3.length c0_3):=(blk_cell BK292.out 3).trans rfl;have hfz6_0:=sJ BK292.out 0;have hfz6_1:=sJ BK292.out 1;have hfz6_2:=sJ BK292.out 2;have hfz6_3:=sJ BK292.out 3)|((with_reducible refine gate_callee (f:=9) rfl ?_);refine goesL_ (some 5) rfl rfl Try.func9 (by kernel_rfl) rfl #[.agg #[.int .i64 a0_0,.int .i64 a0_1,.slice A0_2 l0_2.length c0_2,.slice A0_3 l0_3.length c0_3]] rfl (by (try simp only [sE,sH,sI]);first|done|rfl|(simp only [sG,sF];rfl)) ?_;(with_reducible refine (spec_TableOK.calls a0_0 a0_1 _ _ l0_2 _ _ l0_3 true _ ?side1 ?side2 ?side3 ?side4 A2.out).mono ?_);(case side1 => repeat (first|exact (Kd.C_below HR0_2.out HB.out)|(with_reducible refine Kd.C_alloc ?_ _)|(with_reducible refine Kd.C_drewN ?_ _)|(with_reducible refine Kd.C_drew ?_)));(case side2 => exact HC0_2.out);(case side3 => repeat (first|exact (Kd.C_below HR0_3.out HB.out)|(with_reducible refine Kd.C_alloc ?_ _)|(with_reducible refine Kd.C_drewN ?_ _)|(with_reducible refine Kd.C_drew ?_)));(case side4 => exact HC0_3.out);rintro e w7 ⟨rfl,hb⟩;refine ⟨_,rfl,?_⟩;have n0_:=qd5 (blk_below (g:=gb292) (o:=.cells #[.int .i64 a0_0,.int .i64 a0_1,.slice A0_2 l0_2.length c0_2,.slice A0_3 l0_3.length c0_3] 31 (0,0)) (by (with_reducible repeat (first|apply blk_drewN|apply blk_drew|apply blk_alloc));exact BK292.out) hb);have n1_:=qd5 (sN (by repeat (first|(with_reducible first|exact HB.out|apply qa5|apply qb5|apply qc5|refine below_set ?_ GE292.out)|exact HB.out)) hb);clear BK292;clear HB;have BK292:=n0_;have HB:=n1_;clear n0_ n1_;(try clear hb);(try clear hb2);(try clear hk);(try clear hi);have hcz8_0 : w7.cell? ⟨gb292,0,none⟩ = some (.int .i64 a0_0):=(blk_cell BK292.out 0).trans rfl;have hcz8_1 : w7.cell? ⟨gb292,1,none⟩ = some (.int .i64 a0_1):=(blk_cell BK292.out 1).trans rfl;have hcz8_2 : w7.cell? ⟨gb292,2,none⟩ = some (.slice A0_2 l0_2.length c0_2):=(blk_cell BK292.out 2).trans rfl;have hcz8_3 : w7.cell? ⟨gb292,3,none⟩ = some (.slice A0_3 l0_3.length c0_3):=(blk_cell BK292.out 3).trans rfl;have hfz8_0:=sJ BK292.out 0;have hfz8_1:=sJ BK292.out 1;have hfz8_2:=sJ BK292.out 2;have hfz8_3:=sJ BK292.out 3)|((with_reducible refine gate_callee (f:=51) rfl ?_);refine goesL_ (some 9) rfl rfl Try.func51 (by kernel_rfl) rfl #[.agg #[.int .i64 a0_0,.int .i64 a0_1,.slice A0_2 l0_2.length c0_2,.slice A0_3 l0_3.length c0_3]] rfl (by (try simp only [sE,sH,sI]);first|done|rfl|(simp only [sG,sF];rfl)) ?_;(with_reducible refine (spec_l05Bytes.calls k a0_0 a0_1 _ _ l0_2 _ _ l0_3 t294 _ ?side1 ?side2 ?side3 ?side4 A4.out).mono ?_);(case side1 => repeat (first|exact (Kd.C_below HR0_2.out HB.out)|(with_reducible refine Kd.C_alloc ?_ _)|(with_reducible refine Kd.C_drewN ?_ _)|(with_reducible refine Kd.C_drew ?_)));(case side2 => exact HC0_2.out);(case side3 => repeat (first|exact (Kd.C_below HR0_3.out HB.out)|(with_reducible refine Kd.C_alloc ?_ _)|(with_reducible refine Kd.C_drewN ?_ _)|(with_reducible refine Kd.C_drew ?_)));(case side4 => exact HC0_3.out);rintro e w9 ⟨v295,rfl,ho0,hb⟩;refine ⟨_,rfl,?_⟩;have n0_:=qd5 (Kd.R_lower ho0 (below_size (by repeat (first|(with_reducible first|exact HB.out|apply qa5|apply qb5|apply qc5|refine below_set ?_ GE292.out)|exact HB.out))));have n1_:=qd5 (blk_below (g:=gb292) (o:=.cells #[.int .i64 a0_0,.int .i64 a0_1,.slice A0_2 l0_2.length c0_2,.slice A0_3 l0_3.length c0_3] 31 (0,0)) (by (with_reducible repeat (first|apply blk_drewN|apply blk_drew|apply blk_alloc));exact BK292.out) hb);have n2_:=qd5 (sN (by repeat (first|(with_reducible first|exact HB.out|apply qa5|apply qb5|apply qc5|refine below_set ?_ GE292.out)|exact HB.out)) hb);clear BK292;clear HB;have HO296:=n0_;have BK292:=n1_;have HB:=n2_;clear n0_ n1_ n2_;(try clear hb);(try clear hb2);(try clear hk);(try clear hi);(try clear ho0)))
  go_ret2
  exact ⟨_,by first|rfl|(simp [errW_none,errW_some] <;> rfl)|(simp [*,errW_none,errW_some] <;> rfl),by (with_reducible repeat (first|apply Kd.R_alloc|apply Kd.R_drewN|apply Kd.R_drew));exact HO296.out,by repeat (first|(with_reducible first|exact HB.out|apply qa5|apply qb5|apply qc5|refine below_set ?_ GE292.out)|exact HB.out)⟩
 ·
  replace c3:=Bool.eq_false_iff.mpr c3
  subst c3
  have H1 : (some ((([] : List Int)),1)) = some (r1,r2):=by rw [if_neg (show ¬ (false = true) by decide)] at H;exact H
  clear H
  have H:=H1
  clear H1
  obtain ⟨y297,hy297⟩ : ∃ y_ : List Int,y_ = (([] : List Int)):=⟨_,rfl⟩
  replace H : (some (y297,1)) = some (r1,r2):=by first|(rw [hy297];with_reducible exact H)|(have H2_:=(Option.bind_some _ _).symm.trans H;rw [hy297];with_reducible exact H2_)|(have H2_:=(Option.bind_some _ _).symm.trans H;with_reducible exact H2_)|with_reducible exact H|(rw [hy297];exact H)|exact H
  have Ny297:=qd5 hy297
  clear hy297
  simp only [Option.some.injEq,Prod.mk.injEq] at H
  obtain ⟨rfl,rfl⟩:=H
  go_enter Try.func15,Try.ntmps15
  go_wp2_with (first|((with_reducible refine gate_dst (N:=1) rfl ?_);refine box_event ?hg (N:=1) ?hd (cs:=#[.int .i64 a0_0,.int .i64 a0_1,.slice A0_2 l0_2.length c0_2,.slice A0_3 l0_3.length c0_3]) (t:=31) ?hr ?_;(case hd => rfl);(case hg => rfl);(case hr => first|(go_simp;done)|(go_simp;rfl));intro gb292 hg w10 hbox hb;have n0_:=qd5 (sN (by repeat (first|(with_reducible first|exact HB.out|apply qa5|apply qb5|apply qc5)|exact HB.out)) hb);have n1_:=qd5 (hbox);have n2_:=qd5 ((by rw [hg];exact (below_size (by repeat (first|(with_reducible first|exact HB.out|apply qa5|apply qb5|apply qc5)|exact HB.out))) : w.heap.size ≤ gb292));have n3_:=qd5 ((by rw [hg];exact (below_size (by repeat (first|(with_reducible first|exact HB.out|apply qa5|apply qb5|apply qc5)|exact HB.out))) : w.heap.size ≤ gb292));clear HB;have HB:=n0_;have BK292:=n1_;have GW292:=n2_;have GE292:=n3_;clear n0_ n1_ n2_ n3_;clear hb hbox hg;have hcz11_0 : w10.cell? ⟨gb292,0,none⟩ = some (.int .i64 a0_0):=(blk_cell BK292.out 0).trans rfl;have hcz11_1 : w10.cell? ⟨gb292,1,none⟩ = some (.int .i64 a0_1):=(blk_cell BK292.out 1).trans rfl;have hcz11_2 : w10.cell? ⟨gb292,2,none⟩ = some (.slice A0_2 l0_2.length c0_2):=(blk_cell BK292.out 2).trans rfl;have hcz11_3 : w10.cell? ⟨gb292,3,none⟩ = some (.slice A0_3 l0_3.length c0_3):=(blk_cell BK292.out 3).trans rfl;have hfz11_0:=sJ BK292.out 0;have hfz11_1:=sJ BK292.out 1;have hfz11_2:=sJ BK292.out 2;have hfz11_3:=sJ BK292.out 3)|((with_reducible refine gate_callee (f:=9) rfl ?_);refine goesL_ (some 5) rfl rfl Try.func9 (by kernel_rfl) rfl #[.agg #[.int .i64 a0_0,.int .i64 a0_1,.slice A0_2 l0_2.length c0_2,.slice A0_3 l0_3.length c0_3]] rfl (by (try simp only [sE,sH,sI]);first|done|rfl|(simp only [sG,sF];rfl)) ?_;(with_reducible refine (spec_TableOK.calls a0_0 a0_1 _ _ l0_2 _ _ l0_3 false _ ?side1 ?side2 ?side3 ?side4 A2.out).mono ?_);(case side1 => repeat (first|exact (Kd.C_below HR0_2.out HB.out)|(with_reducible refine Kd.C_alloc ?_ _)|(with_reducible refine Kd.C_drewN ?_ _)|(with_reducible refine Kd.C_drew ?_)));(case side2 => exact HC0_2.out);(case side3 => repeat (first|exact (Kd.C_below HR0_3.out HB.out)|(with_reducible refine Kd.C_alloc ?_ _)|(with_reducible refine Kd.C_drewN ?_ _)|(with_reducible refine Kd.C_drew ?_)));(case side4 => exact HC0_3.out);rintro e w12 ⟨rfl,hb⟩;refine ⟨_,rfl,?_⟩;have n0_:=qd5 (blk_below (g:=gb292) (o:=.cells #[.int .i64 a0_0,.int .i64 a0_1,.slice A0_2 l0_2.length c0_2,.slice A0_3 l0_3.length c0_3] 31 (0,0)) (by (with_reducible repeat (first|apply blk_drewN|apply blk_drew|apply blk_alloc));exact BK292.out) hb);have n1_:=qd5 (sN (by repeat (first|(with_reducible first|exact HB.out|apply qa5|apply qb5|apply qc5|refine below_set ?_ GE292.out)|exact HB.out)) hb);clear BK292;clear HB;have BK292:=n0_;have HB:=n1_;clear n0_ n1_;(try clear hb);(try clear hb2);(try clear hk);(try clear hi))|((with_reducible refine gate_dst (N:=7) rfl ?_);refine Kd.R_lit (Kd.int .u8) _ 5 ?hg (N:=7) ?hd (xs:=([] : List Int)) (inner:=[]) (ok:=fun _ => True) (okp:=fun _ => True) ?hr ?hp (fun _ hk => hk) trivial (Below.refl _ _) (Nat.le_refl _) (by simp) ?_;(case hd => rfl);(case hg => rfl);(case hr => first|(go_simp;done)|(go_simp;rfl));(case hp => exact (Reps.none _ _));intro v298 w13 ho14 hb hg_ hnew_;clear hg_ hnew_;(first|rw [← Ny297.out] at ho14|(simp only [Int.reduceToNat] at ho14;rw [← Ny297.out] at ho14));have n0_:=qd5 (Kd.R_lower ho14 (below_size (by repeat (first|(with_reducible first|exact HB.out|apply qa5|apply qb5|apply qc5|refine below_set ?_ GE292.out)|exact HB.out))));have n1_:=qd5 (blk_below (g:=gb292) (o:=.cells #[.int .i64 a0_0,.int .i64 a0_1,.slice A0_2 l0_2.length c0_2,.slice A0_3 l0_3.length c0_3] 31 (0,0)) (by (with_reducible repeat (first|apply blk_drewN|apply blk_drew|apply blk_alloc));exact BK292.out) hb);have n2_:=qd5 (sN (by repeat (first|(with_reducible first|exact HB.out|apply qa5|apply qb5|apply qc5|refine below_set ?_ GE292.out)|exact HB.out)) hb);clear BK292;clear HB;have HO299:=n0_;have BK292:=n1_;have HB:=n2_;clear n0_ n1_ n2_;clear hb ho14))
  go_ret2
  exact ⟨_,by first|rfl|(simp [errW_none,errW_some] <;> rfl)|(simp [*,errW_none,errW_some] <;> rfl),by (with_reducible repeat (first|apply Kd.R_alloc|apply Kd.R_drewN|apply Kd.R_drew));exact HO299.out,by repeat (first|(with_reducible first|exact HB.out|apply qa5|apply qb5|apply qc5|refine below_set ?_ GE292.out)|exact HB.out)⟩

/-! ### impl_within: function 46 -/
def impl_within.f (a0 : Int) (a1 : Int) (a2 : Int) : Option (Bool):=if a0 ≥ a1 then (some (decide (a0 ≤ a2))) else (some false)
set_option maxHeartbeats 8000000 in
set_option maxRecDepth 100000 in
theorem impl_within.calls (a0 : Int) (a1 : Int) (a2 : Int) (r : Bool) (w : World) (h : impl_within.f a0 a1 a2 = some r) :
  Calls Try.prog 46 #[.int .i64 a0,.int .i64 a1,.int .i64 a2] w fun e w' => e = .returned (.bool r) ∧ Drawn0 w w':=by
 have H : (if a0 ≥ a1 then (some (decide (a0 ≤ a2))) else (some false)) = some r:=h
 clear h
 by_cases c4 : a0 ≥ a1
 ·
  rw [if_pos c4] at H
  have c4b0 : decide (a1 ≤ a0) = true:=decide_eq_true c4
  clear c4
  obtain rfl:=sO H
  go_enter Try.func46,Try.ntmps46
  go_wp2
  go_ret
  exact ⟨by first|rfl|(simp;done)|(simp [*];done),by repeat (first|exact Drawn0.refl _|apply Drawn0.step)⟩
 ·
  rw [if_neg c4] at H
  have c4b0 : decide (a1 ≤ a0) = false:=decide_eq_false c4
  clear c4
  obtain rfl:=sO H
  go_enter Try.func46,Try.ntmps46
  go_wp2
  go_ret
  exact ⟨by first|rfl|(simp;done)|(simp [*];done),by repeat (first|exact Drawn0.refl _|apply Drawn0.step)⟩

/-! ### impl_isAnswer: function 48 -/
def impl_isAnswer.f (a0_0 : Int) (a0_1 : Int) (a0_2 : Int) (a0_3 : Int) : Option (Bool):=(impl_within.f a0_0 1 8).bind fun t301 => (if t301 = true then ((impl_within.f a0_1 0 1000000).bind fun t302 => (if t302 = true then ((impl_within.f a0_2 (-1) 255).bind fun t303 => (if t303 = true then ((impl_within.f a0_3 0 2000000000).bind fun t304 => (some t304)) else (some false))) else (some false))) else (some false))
set_option maxHeartbeats 8000000 in
set_option maxRecDepth 100000 in
theorem impl_isAnswer.calls (a0_0 : Int) (a0_1 : Int) (a0_2 : Int) (a0_3 : Int) (r : Bool) (w : World) (h : impl_isAnswer.f a0_0 a0_1 a0_2 a0_3 = some r) :
  Calls Try.prog 48 #[.agg #[.int .i64 a0_0,.int .i64 a0_1,.int .i64 a0_2,.int .i64 a0_3]] w fun e w' => e = .returned (.bool r) ∧ Below w.heap.size w w':=by
 have hu75:=Try.underlying75
 have HB:=qd5 (Below.refl w.heap.size w)
 have H : ((impl_within.f a0_0 1 8).bind fun t301 => (if t301 = true then ((impl_within.f a0_1 0 1000000).bind fun t302 => (if t302 = true then ((impl_within.f a0_2 (-1) 255).bind fun t303 => (if t303 = true then ((impl_within.f a0_3 0 2000000000).bind fun t304 => (some t304)) else (some false))) else (some false))) else (some false))) = some r:=h
 clear h
 replace H:=Option.bind_eq_some_iff.mp H
 obtain ⟨t301,A20,H⟩:=H
 replace H : (if t301 = true then ((impl_within.f a0_1 0 1000000).bind fun t302 => (if t302 = true then ((impl_within.f a0_2 (-1) 255).bind fun t303 => (if t303 = true then ((impl_within.f a0_3 0 2000000000).bind fun t304 => (some t304)) else (some false))) else (some false))) else (some false)) = some r:=H
 have A2:=qd5 A20
 clear A20
 by_cases c3 : t301 = true
 ·
  subst c3
  have H1 : ((impl_within.f a0_1 0 1000000).bind fun t302 => (if t302 = true then ((impl_within.f a0_2 (-1) 255).bind fun t303 => (if t303 = true then ((impl_within.f a0_3 0 2000000000).bind fun t304 => (some t304)) else (some false))) else (some false))) = some r:=by rw [if_pos rfl] at H;exact H
  clear H
  have H:=H1
  clear H1
  replace H:=Option.bind_eq_some_iff.mp H
  obtain ⟨t302,A40,H⟩:=H
  replace H : (if t302 = true then ((impl_within.f a0_2 (-1) 255).bind fun t303 => (if t303 = true then ((impl_within.f a0_3 0 2000000000).bind fun t304 => (some t304)) else (some false))) else (some false)) = some r:=H
  have A4:=qd5 A40
  clear A40
  by_cases c5 : t302 = true
  ·
   subst c5
   have H1 : ((impl_within.f a0_2 (-1) 255).bind fun t303 => (if t303 = true then ((impl_within.f a0_3 0 2000000000).bind fun t304 => (some t304)) else (some false))) = some r:=by rw [if_pos rfl] at H;exact H
   clear H
   have H:=H1
   clear H1
   replace H:=Option.bind_eq_some_iff.mp H
   obtain ⟨t303,A60,H⟩:=H
   replace H : (if t303 = true then ((impl_within.f a0_3 0 2000000000).bind fun t304 => (some t304)) else (some false)) = some r:=H
   have A6:=qd5 A60
   clear A60
   by_cases c7 : t303 = true
   ·
    subst c7
    have H1 : ((impl_within.f a0_3 0 2000000000).bind fun t304 => (some t304)) = some r:=by rw [if_pos rfl] at H;exact H
    clear H
    have H:=H1
    clear H1
    replace H:=Option.bind_eq_some_iff.mp H
    obtain ⟨t304,A80,H⟩:=H
    replace H : (some t304) = some r:=H
    have A8:=qd5 A80
    clear A80
    obtain rfl:=sO H
    go_enter Try.func48,Try.ntmps48
    go_wp2_with (first|((with_reducible refine gate_dst (N:=1) rfl ?_);refine box_event ?hg (N:=1) ?hd (cs:=#[.int .i64 a0_0,.int .i64 a0_1,.int .i64 a0_2,.int .i64 a0_3]) (t:=75) ?hr ?_;(case hd => rfl);(case hg => rfl);(case hr => first|(go_simp;done)|(go_simp;rfl));intro gb300 hg w9 hbox hb;have n0_:=qd5 (sN (by repeat (first|(with_reducible first|exact HB.out|apply qa5|apply qb5|apply qc5)|exact HB.out)) hb);have n1_:=qd5 (hbox);have n2_:=qd5 ((by rw [hg];exact (below_size (by repeat (first|(with_reducible first|exact HB.out|apply qa5|apply qb5|apply qc5)|exact HB.out))) : w.heap.size ≤ gb300));have n3_:=qd5 ((by rw [hg];exact (below_size (by repeat (first|(with_reducible first|exact HB.out|apply qa5|apply qb5|apply qc5)|exact HB.out))) : w.heap.size ≤ gb300));clear HB;have HB:=n0_;have BK300:=n1_;have GW300:=n2_;have GE300:=n3_;clear n0_ n1_ n2_ n3_;clear hb hbox hg;have hcz10_0 : w9.cell? ⟨gb300,0,none⟩ = some (.int .i64 a0_0):=(blk_cell BK300.out 0).trans rfl;have hcz10_1 : w9.cell? ⟨gb300,1,none⟩ = some (.int .i64 a0_1):=(blk_cell BK300.out 1).trans rfl;have hcz10_2 : w9.cell? ⟨gb300,2,none⟩ = some (.int .i64 a0_2):=(blk_cell BK300.out 2).trans rfl;have hcz10_3 : w9.cell? ⟨gb300,3,none⟩ = some (.int .i64 a0_3):=(blk_cell BK300.out 3).trans rfl;have hfz10_0:=sJ BK300.out 0;have hfz10_1:=sJ BK300.out 1;have hfz10_2:=sJ BK300.out 2;have hfz10_3:=sJ BK300.out 3)|((with_reducible refine gate_callee (f:=46) rfl ?_);refine goesL_ (some 5) rfl rfl Try.func46 (by kernel_rfl) rfl #[.int .i64 a0_0,.int .i64 1,.int .i64 8] rfl (by (try simp only [sE,sH,sI]);first|done|rfl|(simp only [sG,sF];rfl)) ?_;(with_reducible refine (impl_within.calls a0_0 1 8 true _ A2.out).mono ?_);rintro e w' ⟨rfl,⟨nd,rfl⟩⟩;refine ⟨_,rfl,?_⟩)|(go_at_call 46;(with_reducible refine (impl_within.calls a0_1 0 1000000 true _ A4.out).mono ?_);rintro e w' ⟨rfl,⟨nd,rfl⟩⟩)|(go_at_call 46;(with_reducible refine (impl_within.calls a0_2 (-1) 255 true _ A6.out).mono ?_);rintro e w' ⟨rfl,⟨nd,rfl⟩⟩)|(go_at_call 46;(with_reducible refine (impl_within.calls a0_3 0 2000000000 t304 _ A8.out).mono ?_);rintro e w' ⟨rfl,⟨nd,rfl⟩⟩))
    go_ret
    exact ⟨by first|rfl|(simp [errW_none,errW_some] <;> rfl)|(simp [*,errW_none,errW_some] <;> rfl),by repeat (first|(with_reducible first|exact HB.out|apply qa5|apply qb5|apply qc5|refine below_set ?_ GE300.out)|exact HB.out)⟩
   ·
    replace c7:=Bool.eq_false_iff.mpr c7
    subst c7
    have H1 : (some false) = some r:=by rw [if_neg (show ¬ (false = true) by decide)] at H;exact H
    clear H
    have H:=H1
    clear H1
    obtain rfl:=sO H
    go_enter Try.func48,Try.ntmps48
    go_wp2_with (first|((with_reducible refine gate_dst (N:=1) rfl ?_);refine box_event ?hg (N:=1) ?hd (cs:=#[.int .i64 a0_0,.int .i64 a0_1,.int .i64 a0_2,.int .i64 a0_3]) (t:=75) ?hr ?_;(case hd => rfl);(case hg => rfl);(case hr => first|(go_simp;done)|(go_simp;rfl));intro gb300 hg w11 hbox hb;have n0_:=qd5 (sN (by repeat (first|(with_reducible first|exact HB.out|apply qa5|apply qb5|apply qc5)|exact HB.out)) hb);have n1_:=qd5 (hbox);have n2_:=qd5 ((by rw [hg];exact (below_size (by repeat (first|(with_reducible first|exact HB.out|apply qa5|apply qb5|apply qc5)|exact HB.out))) : w.heap.size ≤ gb300));have n3_:=qd5 ((by rw [hg];exact (below_size (by repeat (first|(with_reducible first|exact HB.out|apply qa5|apply qb5|apply qc5)|exact HB.out))) : w.heap.size ≤ gb300));clear HB;have HB:=n0_;have BK300:=n1_;have GW300:=n2_;have GE300:=n3_;clear n0_ n1_ n2_ n3_;clear hb hbox hg;have hcz12_0 : w11.cell? ⟨gb300,0,none⟩ = some (.int .i64 a0_0):=(blk_cell BK300.out 0).trans rfl;have hcz12_1 : w11.cell? ⟨gb300,1,none⟩ = some (.int .i64 a0_1):=(blk_cell BK300.out 1).trans rfl;have hcz12_2 : w11.cell? ⟨gb300,2,none⟩ = some (.int .i64 a0_2):=(blk_cell BK300.out 2).trans rfl;have hcz12_3 : w11.cell? ⟨gb300,3,none⟩ = some (.int .i64 a0_3):=(blk_cell BK300.out 3).trans rfl;have hfz12_0:=sJ BK300.out 0;have hfz12_1:=sJ BK300.out 1;have hfz12_2:=sJ BK300.out 2;have hfz12_3:=sJ BK300.out 3)|((with_reducible refine gate_callee (f:=46) rfl ?_);refine goesL_ (some 5) rfl rfl Try.func46 (by kernel_rfl) rfl #[.int .i64 a0_0,.int .i64 1,.int .i64 8] rfl (by (try simp only [sE,sH,sI]);first|done|rfl|(simp only [sG,sF];rfl)) ?_;(with_reducible refine (impl_within.calls a0_0 1 8 true _ A2.out).mono ?_);rintro e w' ⟨rfl,⟨nd,rfl⟩⟩;refine ⟨_,rfl,?_⟩)|(go_at_call 46;(with_reducible refine (impl_within.calls a0_1 0 1000000 true _ A4.out).mono ?_);rintro e w' ⟨rfl,⟨nd,rfl⟩⟩)|(go_at_call 46;(with_reducible refine (impl_within.calls a0_2 (-1) 255 false _ A6.out).mono ?_);rintro e w' ⟨rfl,⟨nd,rfl⟩⟩))
    go_ret
    exact ⟨by first|rfl|(simp [errW_none,errW_some] <;> rfl)|(simp [*,errW_none,errW_some] <;> rfl),by repeat (first|(with_reducible first|exact HB.out|apply qa5|apply qb5|apply qc5|refine below_set ?_ GE300.out)|exact HB.out)⟩
  ·
   replace c5:=Bool.eq_false_iff.mpr c5
   subst c5
   have H1 : (some false) = some r:=by rw [if_neg (show ¬ (false = true) by decide)] at H;exact H
   clear H
   have H:=H1
   clear H1
   obtain rfl:=sO H
   go_enter Try.func48,Try.ntmps48
   go_wp2_with (first|((with_reducible refine gate_dst (N:=1) rfl ?_);refine box_event ?hg (N:=1) ?hd (cs:=#[.int .i64 a0_0,.int .i64 a0_1,.int .i64 a0_2,.int .i64 a0_3]) (t:=75) ?hr ?_;(case hd => rfl);(case hg => rfl);(case hr => first|(go_simp;done)|(go_simp;rfl));intro gb300 hg w13 hbox hb;have n0_:=qd5 (sN (by repeat (first|(with_reducible first|exact HB.out|apply qa5|apply qb5|apply qc5)|exact HB.out)) hb);have n1_:=qd5 (hbox);have n2_:=qd5 ((by rw [hg];exact (below_size (by repeat (first|(with_reducible first|exact HB.out|apply qa5|apply qb5|apply qc5)|exact HB.out))) : w.heap.size ≤ gb300));have n3_:=qd5 ((by rw [hg];exact (below_size (by repeat (first|(with_reducible first|exact HB.out|apply qa5|apply qb5|apply qc5)|exact HB.out))) : w.heap.size ≤ gb300));clear HB;have HB:=n0_;have BK300:=n1_;have GW300:=n2_;have GE300:=n3_;clear n0_ n1_ n2_ n3_;clear hb hbox hg;have hcz14_0 : w13.cell? ⟨gb300,0,none⟩ = some (.int .i64 a0_0):=(blk_cell BK300.out 0).trans rfl;have hcz14_1 : w13.cell? ⟨gb300,1,none⟩ = some (.int .i64 a0_1):=(blk_cell BK300.out 1).trans rfl;have hcz14_2 : w13.cell? ⟨gb300,2,none⟩ = some (.int .i64 a0_2):=(blk_cell BK300.out 2).trans rfl;have hcz14_3 : w13.cell? ⟨gb300,3,none⟩ = some (.int .i64 a0_3):=(blk_cell BK300.out 3).trans rfl;have hfz14_0:=sJ BK300.out 0;have hfz14_1:=sJ BK300.out 1;have hfz14_2:=sJ BK300.out 2;have hfz14_3:=sJ BK300.out 3)|((with_reducible refine gate_callee (f:=46) rfl ?_);refine goesL_ (some 5) rfl rfl Try.func46 (by kernel_rfl) rfl #[.int .i64 a0_0,.int .i64 1,.int .i64 8] rfl (by (try simp only [sE,sH,sI]);first|done|rfl|(simp only [sG,sF];rfl)) ?_;(with_reducible refine (impl_within.calls a0_0 1 8 true _ A2.out).mono ?_);rintro e w' ⟨rfl,⟨nd,rfl⟩⟩;refine ⟨_,rfl,?_⟩)|(go_at_call 46;(with_reducible refine (impl_within.calls a0_1 0 1000000 false _ A4.out).mono ?_);rintro e w' ⟨rfl,⟨nd,rfl⟩⟩))
   go_ret
   exact ⟨by first|rfl|(simp [errW_none,errW_some] <;> rfl)|(simp [*,errW_none,errW_some] <;> rfl),by repeat (first|(with_reducible first|exact HB.out|apply qa5|apply qb5|apply qc5|refine below_set ?_ GE300.out)|exact HB.out)⟩
 ·
  replace c3:=Bool.eq_false_iff.mpr c3
  subst c3
  have H1 : (some false) = some r:=by rw [if_neg (show ¬ (false = true) by decide)] at H;exact H
  clear H
  have H:=H1
  clear H1
  obtain rfl:=sO H
  go_enter Try.func48,Try.ntmps48
  go_wp2_with (first|((with_reducible refine gate_dst (N:=1) rfl ?_);refine box_event ?hg (N:=1) ?hd (cs:=#[.int .i64 a0_0,.int .i64 a0_1,.int .i64 a0_2,.int .i64 a0_3]) (t:=75) ?hr ?_;(case hd => rfl);(case hg => rfl);(case hr => first|(go_simp;done)|(go_simp;rfl));intro gb300 hg w15 hbox hb;have n0_:=qd5 (sN (by repeat (first|(with_reducible first|exact HB.out|apply qa5|apply qb5|apply qc5)|exact HB.out)) hb);have n1_:=qd5 (hbox);have n2_:=qd5 ((by rw [hg];exact (below_size (by repeat (first|(with_reducible first|exact HB.out|apply qa5|apply qb5|apply qc5)|exact HB.out))) : w.heap.size ≤ gb300));have n3_:=qd5 ((by rw [hg];exact (below_size (by repeat (first|(with_reducible first|exact HB.out|apply qa5|apply qb5|apply qc5)|exact HB.out))) : w.heap.size ≤ gb300));clear HB;have HB:=n0_;have BK300:=n1_;have GW300:=n2_;have GE300:=n3_;clear n0_ n1_ n2_ n3_;clear hb hbox hg;have hcz16_0 : w15.cell? ⟨gb300,0,none⟩ = some (.int .i64 a0_0):=(blk_cell BK300.out 0).trans rfl;have hcz16_1 : w15.cell? ⟨gb300,1,none⟩ = some (.int .i64 a0_1):=(blk_cell BK300.out 1).trans rfl;have hcz16_2 : w15.cell? ⟨gb300,2,none⟩ = some (.int .i64 a0_2):=(blk_cell BK300.out 2).trans rfl;have hcz16_3 : w15.cell? ⟨gb300,3,none⟩ = some (.int .i64 a0_3):=(blk_cell BK300.out 3).trans rfl;have hfz16_0:=sJ BK300.out 0;have hfz16_1:=sJ BK300.out 1;have hfz16_2:=sJ BK300.out 2;have hfz16_3:=sJ BK300.out 3)|((with_reducible refine gate_callee (f:=46) rfl ?_);refine goesL_ (some 5) rfl rfl Try.func46 (by kernel_rfl) rfl #[.int .i64 a0_0,.int .i64 1,.int .i64 8] rfl (by (try simp only [sE,sH,sI]);first|done|rfl|(simp only [sG,sF];rfl)) ?_;(with_reducible refine (impl_within.calls a0_0 1 8 false _ A2.out).mono ?_);rintro e w' ⟨rfl,⟨nd,rfl⟩⟩;refine ⟨_,rfl,?_⟩))
  go_ret
  exact ⟨by first|rfl|(simp [errW_none,errW_some] <;> rfl)|(simp [*,errW_none,errW_some] <;> rfl),by repeat (first|(with_reducible first|exact HB.out|apply qa5|apply qb5|apply qc5|refine below_set ?_ GE300.out)|exact HB.out)⟩

/-! ### impl_isLetter: function 126 -/
def impl_isLetter.f (a0 : Int) : Option (Bool):=if a0 ≥ 97 then (if a0 ≤ 122 then (some true) else (if a0 ≥ 65 then (if a0 ≤ 90 then (some true) else (some (a0 == 95))) else (some (a0 == 95)))) else (if a0 ≥ 65 then (if a0 ≤ 90 then (some true) else (some (a0 == 95))) else (some (a0 == 95)))
set_option maxHeartbeats 8000000 in
set_option maxRecDepth 100000 in
theorem impl_isLetter.calls (a0 : Int) (r : Bool) (w : World) (h : impl_isLetter.f a0 = some r) :
  Calls Try.prog 126 #[.int .u8 a0] w fun e w' => e = .returned (.bool r) ∧ Drawn0 w w':=by
 have H : (if a0 ≥ 97 then (if a0 ≤ 122 then (some true) else (if a0 ≥ 65 then (if a0 ≤ 90 then (some true) else (some (a0 == 95))) else (some (a0 == 95)))) else (if a0 ≥ 65 then (if a0 ≤ 90 then (some true) else (some (a0 == 95))) else (some (a0 == 95)))) = some r:=h
 clear h
 by_cases c2 : a0 ≥ 97
 ·
  rw [if_pos c2] at H
  have c2b0 : decide (97 ≤ a0) = true:=decide_eq_true c2
  clear c2
  by_cases c3 : a0 ≤ 122
  ·
   rw [if_pos c3] at H
   have c3b0 : decide (a0 ≤ 122) = true:=decide_eq_true c3
   clear c3
   obtain rfl:=sO H
   go_enter Try.func126,Try.ntmps126
   go_wp2
   go_ret
   exact ⟨by first|rfl|(simp;done)|(simp [*];done),by repeat (first|exact Drawn0.refl _|apply Drawn0.step)⟩
  ·
   rw [if_neg c3] at H
   have c3b0 : decide (a0 ≤ 122) = false:=decide_eq_false c3
   clear c3
   by_cases c4 : a0 ≥ 65
   ·
    rw [if_pos c4] at H
    have c4b0 : decide (65 ≤ a0) = true:=decide_eq_true c4
    clear c4
    by_cases c5 : a0 ≤ 90
    ·
     rw [if_pos c5] at H
     have c5b0 : decide (a0 ≤ 90) = true:=decide_eq_true c5
     clear c5
     obtain rfl:=sO H
     go_enter Try.func126,Try.ntmps126
     go_wp2
     go_ret
     exact ⟨by first|rfl|(simp;done)|(simp [*];done),by repeat (first|exact Drawn0.refl _|apply Drawn0.step)⟩
    ·
     rw [if_neg c5] at H
     have c5b0 : decide (a0 ≤ 90) = false:=decide_eq_false c5
     clear c5
     obtain rfl:=sO H
     go_enter Try.func126,Try.ntmps126
     go_wp2
     go_ret
     exact ⟨by first|rfl|(simp;done)|(simp [*];done),by repeat (first|exact Drawn0.refl _|apply Drawn0.step)⟩
   ·
    rw [if_neg c4] at H
    have c4b0 : decide (65 ≤ a0) = false:=decide_eq_false c4
    clear c4
    obtain rfl:=sO H
    go_enter Try.func126,Try.ntmps126
    go_wp2
    go_ret
    exact ⟨by first|rfl|(simp;done)|(simp [*];done),by repeat (first|exact Drawn0.refl _|apply Drawn0.step)⟩
 ·
  rw [if_neg c2] at H
  have c2b0 : decide (97 ≤ a0) = false:=decide_eq_false c2
  clear c2
  by_cases c6 : a0 ≥ 65
  ·
   rw [if_pos c6] at H
   have c6b0 : decide (65 ≤ a0) = true:=decide_eq_true c6
   clear c6
   by_cases c7 : a0 ≤ 90
   ·
    rw [if_pos c7] at H
    have c7b0 : decide (a0 ≤ 90) = true:=decide_eq_true c7
    clear c7
    obtain rfl:=sO H
    go_enter Try.func126,Try.ntmps126
    go_wp2
    go_ret
    exact ⟨by first|rfl|(simp;done)|(simp [*];done),by repeat (first|exact Drawn0.refl _|apply Drawn0.step)⟩
   ·
    rw [if_neg c7] at H
    have c7b0 : decide (a0 ≤ 90) = false:=decide_eq_false c7
    clear c7
    obtain rfl:=sO H
    go_enter Try.func126,Try.ntmps126
    go_wp2
    go_ret
    exact ⟨by first|rfl|(simp;done)|(simp [*];done),by repeat (first|exact Drawn0.refl _|apply Drawn0.step)⟩
  ·
   rw [if_neg c6] at H
   have c6b0 : decide (65 ≤ a0) = false:=decide_eq_false c6
   clear c6
   obtain rfl:=sO H
   go_enter Try.func126,Try.ntmps126
   go_wp2
   go_ret
   exact ⟨by first|rfl|(simp;done)|(simp [*];done),by repeat (first|exact Drawn0.refl _|apply Drawn0.step)⟩

/-! ### impl_NameOK: function 104 -/
mutual
def impl_NameOK.j0 : Nat → ByteArray → Bool → Option (Bool)
 | 0,_,_ => none
 | k + 1,x0,x17 => if x17 = true then (some false) else (impl_NameOK.l0 k x0 (x0.size : Int) 0)
def impl_NameOK.l0 : Nat → ByteArray → Int → Int → Option (Bool)
 | 0,_,_,_ => none
 | k + 1,x0,x19,x20 => if x20 < x19 then (if 0 ≤ x20 then (if x20 < (x0.size : Int) then ((impl_isLetter.f (bt x0 x20)).bind fun t306 => (if t306 = true then (impl_NameOK.l0 k x0 x19 (wrap64 (x20 + 1))) else (if (bt x0 x20) < 48 then (some false) else (if (bt x0 x20) > 57 then (some false) else (impl_NameOK.l0 k x0 x19 (wrap64 (x20 + 1))))))) else (none)) else (none)) else (some true)
end
def impl_NameOK.f (k : Nat) (a0 : ByteArray) : Option (Bool):=if (a0.size : Int) < 1 then (impl_NameOK.j0 k a0 true) else (if (a0.size : Int) > 40 then (impl_NameOK.j0 k a0 true) else (if 0 < (a0.size : Int) then ((impl_isLetter.f (bt a0 0)).bind fun t305 => (impl_NameOK.j0 k a0 (!t305))) else (none)))
set_option maxHeartbeats 8000000 in
set_option maxRecDepth 100000 in
theorem impl_NameOK.calls (k : Nat) (a0 : ByteArray) (r : Bool) (w : World) (h : impl_NameOK.f k a0 = some r) :
  Calls Try.prog 104 #[.string a0] w fun e w' => e = .returned (.bool r) ∧ Drawn0 w w':=by
 have H : (if (a0.size : Int) < 1 then (impl_NameOK.j0 k a0 true) else (if (a0.size : Int) > 40 then (impl_NameOK.j0 k a0 true) else (if 0 < (a0.size : Int) then ((impl_isLetter.f (bt a0 0)).bind fun t305 => (impl_NameOK.j0 k a0 (!t305))) else (none)))) = some r:=h
 clear h
 have HC2:=qd5 H
 clear H
 go_enter Try.func104,Try.ntmps104
 go_upto_region 1 with (fail)
 go_cut [17] (fun v17 wc => ∃ (kq : Nat) (x17_1 : Bool),v17 = .bool x17_1 ∧ Aside0 (impl_NameOK.j0 kq a0 x17_1 = some r) ∧ Aside0 (kq ≤ k) ∧ Drawn0 w wc)
 case first =>
  have H:=HC2.out
  clear HC2
  by_cases c3 : (a0.size : Int) < 1
  ·
   rw [if_pos c3] at H
   have c3b0 : decide ((a0.size : Int) < 1) = true:=decide_eq_true c3
   have c3b1 : decide (a0.size < 1) = true:=decide_eq_true (by omega)
   clear c3
   (first|rw [c3b0]|(simp only [i64_w,i32_w];rw [c3b0])|skip)
   have H':=qd5 H
   clear H
   go_wp2
   go_meet
   case rel => exact ⟨_,(true),(by first|rfl|(simp;done)|(simp [*];done)),H',⟨by first|omega|exact Nat.le_refl _⟩,by repeat (first|exact Drawn0.refl _|apply Drawn0.step)⟩
  ·
   rw [if_neg c3] at H
   have c3b0 : decide ((a0.size : Int) < 1) = false:=decide_eq_false c3
   have c3b1 : decide (a0.size < 1) = false:=decide_eq_false (by omega)
   clear c3
   (first|rw [c3b0]|(simp only [i64_w,i32_w];rw [c3b0])|skip)
   by_cases c4 : (a0.size : Int) > 40
   ·
    rw [if_pos c4] at H
    have c4b0 : decide (40 < (a0.size : Int)) = true:=decide_eq_true c4
    have c4b1 : decide (40 < a0.size) = true:=decide_eq_true (by omega)
    clear c4
    have H':=qd5 H
    clear H
    go_wp2
    go_meet
    case rel => exact ⟨_,(true),(by first|rfl|(simp;done)|(simp [*];done)),H',⟨by first|omega|exact Nat.le_refl _⟩,by repeat (first|exact Drawn0.refl _|apply Drawn0.step)⟩
   ·
    rw [if_neg c4] at H
    have c4b0 : decide (40 < (a0.size : Int)) = false:=decide_eq_false c4
    have c4b1 : decide (40 < a0.size) = false:=decide_eq_false (by omega)
    clear c4
    by_cases c5 : 0 < (a0.size : Int)
    ·
     rw [if_pos c5] at H
     have c5b0 : decide (0 < (a0.size : Int)) = true:=decide_eq_true c5
     have c5b1 : decide (0 < a0.size) = true:=decide_eq_true (by omega)
     clear c5
     replace H:=Option.bind_eq_some_iff.mp H
     obtain ⟨t305,A70,H⟩:=H
     replace H : (impl_NameOK.j0 k a0 (!t305)) = some r:=H
     have A7:=qd5 A70
     clear A70
     have H':=qd5 H
     clear H
     have p6 : 0 ≤ (0 : Int):=(by omega)
     have q6 : 0 < a0.size:=(by have : (0 : Int) < (a0.size : Int):=sM (by first|(with_reducible assumption)|assumption);omega)
     have hx6 : ∀ h : 0 < a0.size,((a0[0]'h).toNat : Int) = bt a0 0:=bt_at a0 0
     clear p6
     have qi6 : (0 < (a0.size : Int)) = True:=eq_true (sM (by first|(with_reducible assumption)|assumption))
     replace q6:=eq_true q6
     go_wp2_with (first|(go_at_call 126;(with_reducible refine (impl_isLetter.calls (bt a0 0) t305 _ A7.out).mono ?_);rintro e w' ⟨rfl,⟨nd,rfl⟩⟩))
     go_meet
     case rel => exact ⟨_,(!t305),(by first|rfl|(simp;done)|(simp [*];done)),H',⟨by first|omega|exact Nat.le_refl _⟩,by repeat (first|exact Drawn0.refl _|apply Drawn0.step)⟩
    ·
     rw [if_neg c5] at H
     exact absurd H (by simp)
 case rest =>
  clear HC2
  try clear c1
  try clear p2
  try clear c3
  try clear c3b0
  try clear c3b1
  try clear c4
  try clear c4b0
  try clear c4b1
  try clear c5
  try clear c5b0
  try clear c5b1
  try clear p6
  try clear q6
  try clear hx6
  try clear qi6
  try clear p6
  try clear q6
  obtain ⟨kq,x17_1,rfl,HA,HJ1,⟨mc1,rfl⟩⟩:=hcut
  cases kq with
  | zero => exact absurd HA.out (by simp [impl_NameOK.j0])
  | succ kj1 =>
   have H:=HA.out
   clear HA
   simp only [impl_NameOK.j0] at H
   by_cases c8 : x17_1 = true
   ·
    subst c8
    have H1 : (some false) = some r:=by rw [if_pos rfl] at H;exact H
    clear H
    have H:=H1
    clear H1
    obtain rfl:=sO H
    go_wp2
    go_ret
    exact ⟨by first|rfl|(simp;done)|(simp [*];done),by repeat (first|exact Drawn0.refl _|apply Drawn0.step)⟩
   ·
    replace c8:=Bool.eq_false_iff.mpr c8
    subst c8
    have H1 : (impl_NameOK.l0 kj1 a0 (a0.size : Int) 0) = some r:=by rw [if_neg (show ¬ (false = true) by decide)] at H;exact H
    clear H
    have H:=H1
    clear H1
    have H':=qd5 H
    clear H
    go_wp2
    go_loopg [20] kj1 (fun kq v20 w' => ∃ (x20_2 : Int),v20 = .int .i64 x20_2 ∧ Aside0 (impl_NameOK.l0 kq a0 (a0.size : Int) x20_2 = some r) ∧ Aside0 (kq ≤ kj1) ∧ Drawn0 w w')
    case atStart => exact ⟨(0),(by first|rfl|(simp;done)|(simp [*];done)),H',⟨Nat.le_refl _⟩,by repeat (first|exact Drawn0.refl _|apply Drawn0.step)⟩
    case round =>
     clear H'
     try clear c1
     try clear p2
     try clear c3
     try clear c3b0
     try clear c3b1
     try clear c4
     try clear c4b0
     try clear c4b1
     try clear c5
     try clear c5b0
     try clear c5b1
     try clear p6
     try clear q6
     try clear hx6
     try clear qi6
     try clear c8
     try clear p2
     try clear p6
     try clear q6
     obtain ⟨x20_2,rfl,HA,HK2,⟨m2,rfl⟩⟩:=hrel
     cases gk with
     | zero => exact absurd HA.out (by simp [impl_NameOK.l0])
     | succ k2 =>
      have H:=HA.out
      clear HA
      simp only [impl_NameOK.l0] at H
      by_cases c9 : x20_2 < (a0.size : Int)
      ·
       rw [if_pos c9] at H
       have c9b0 : decide (x20_2 < (a0.size : Int)) = true:=decide_eq_true c9
       clear c9
       by_cases c10 : 0 ≤ x20_2
       ·
        rw [if_pos c10] at H
        have c10b0 : decide (0 ≤ x20_2) = true:=decide_eq_true c10
        clear c10
        by_cases c11 : x20_2 < (a0.size : Int)
        ·
         rw [if_pos c11] at H
         have c11b0 : decide (x20_2 < (a0.size : Int)) = true:=decide_eq_true c11
         clear c11
         replace H:=Option.bind_eq_some_iff.mp H
         obtain ⟨t306,A130,H⟩:=H
         replace H : (if t306 = true then (impl_NameOK.l0 k2 a0 (a0.size : Int) (wrap64 (x20_2 + 1))) else (if (bt a0 x20_2) < 48 then (some false) else (if (bt a0 x20_2) > 57 then (some false) else (impl_NameOK.l0 k2 a0 (a0.size : Int) (wrap64 (x20_2 + 1)))))) = some r:=H
         have A13:=qd5 A130
         clear A130
         by_cases c14 : t306 = true
         ·
          subst c14
          have H1 : (impl_NameOK.l0 k2 a0 (a0.size : Int) (wrap64 (x20_2 + 1))) = some r:=by rw [if_pos rfl] at H;exact H
          clear H
          have H:=H1
          clear H1
          have H':=qd5 H
          clear H
          have p12 : 0 ≤ (x20_2 : Int):=sM (by first|(with_reducible assumption)|assumption)
          have q12 : x20_2 < (a0.size : Int):=sM (by first|(with_reducible assumption)|assumption)
          have hx12:=bt_at a0 x20_2
          have bl12:=(bt_range a0 x20_2).1
          have bh12:=(bt_range a0 x20_2).2
          replace p12:=eq_true p12
          replace q12:=eq_true q12
          go_wp2_with (first|((with_reducible refine gate_callee (f:=126) rfl ?_);refine goesL_ (some 26) rfl rfl Try.func126 (by kernel_rfl) rfl #[.int .u8 (bt a0 x20_2)] rfl (by (try simp only [sE,sH,sI]);first|done|rfl|(simp only [sG,sF];rfl)) ?_;(with_reducible refine (impl_isLetter.calls (bt a0 x20_2) true _ A13.out).mono ?_);rintro e w' ⟨rfl,⟨nd,rfl⟩⟩;refine ⟨_,rfl,?_⟩))
          go_roundg k2
          case measure => have:=HJ1.out;have:=HK2.out;omega
          case rel => exact ⟨(wrap64 (x20_2 + 1)),(by first|rfl|(simp;done)|(simp [*];done)),H',⟨by have:=HJ1.out;have:=HK2.out;omega⟩,by repeat (first|exact Drawn0.refl _|apply Drawn0.step)⟩
         ·
          replace c14:=Bool.eq_false_iff.mpr c14
          subst c14
          have H1 : (if (bt a0 x20_2) < 48 then (some false) else (if (bt a0 x20_2) > 57 then (some false) else (impl_NameOK.l0 k2 a0 (a0.size : Int) (wrap64 (x20_2 + 1))))) = some r:=by rw [if_neg (show ¬ (false = true) by decide)] at H;exact H
          clear H
          have H:=H1
          clear H1
          by_cases c16 : (bt a0 x20_2) < 48
          ·
           rw [if_pos c16] at H
           have c16b0 : decide ((bt a0 x20_2) < 48) = true:=decide_eq_true c16
           clear c16
           obtain rfl:=sO H
           have p12 : 0 ≤ (x20_2 : Int):=sM (by first|(with_reducible assumption)|assumption)
           have q12 : x20_2 < (a0.size : Int):=sM (by first|(with_reducible assumption)|assumption)
           have hx12:=bt_at a0 x20_2
           have bl12:=(bt_range a0 x20_2).1
           have bh12:=(bt_range a0 x20_2).2
           replace p12:=eq_true p12
           replace q12:=eq_true q12
           go_wp2_with (first|((with_reducible refine gate_callee (f:=126) rfl ?_);refine goesL_ (some 26) rfl rfl Try.func126 (by kernel_rfl) rfl #[.int .u8 (bt a0 x20_2)] rfl (by (try simp only [sE,sH,sI]);first|done|rfl|(simp only [sG,sF];rfl)) ?_;(with_reducible refine (impl_isLetter.calls (bt a0 x20_2) false _ A13.out).mono ?_);rintro e w' ⟨rfl,⟨nd,rfl⟩⟩;refine ⟨_,rfl,?_⟩;have p15 : 0 ≤ (x20_2 : Int):=sM (by first|(with_reducible assumption)|assumption);have q15 : x20_2 < (a0.size : Int):=sM (by first|(with_reducible assumption)|assumption);have hx15:=bt_at a0 x20_2;have bl15:=(bt_range a0 x20_2).1;have bh15:=(bt_range a0 x20_2).2;replace p15:=eq_true p15;replace q15:=eq_true q15))
           go_ret
           exact ⟨by first|rfl|(simp;done)|(simp [*];done),by repeat (first|exact Drawn0.refl _|apply Drawn0.step)⟩
          ·
           rw [if_neg c16] at H
           have c16b0 : decide ((bt a0 x20_2) < 48) = false:=decide_eq_false c16
           clear c16
           by_cases c18 : (bt a0 x20_2) > 57
           ·
            rw [if_pos c18] at H
            have c18b0 : decide (57 < (bt a0 x20_2)) = true:=decide_eq_true c18
            clear c18
            obtain rfl:=sO H
            have p12 : 0 ≤ (x20_2 : Int):=sM (by first|(with_reducible assumption)|assumption)
            have q12 : x20_2 < (a0.size : Int):=sM (by first|(with_reducible assumption)|assumption)
            have hx12:=bt_at a0 x20_2
            have bl12:=(bt_range a0 x20_2).1
            have bh12:=(bt_range a0 x20_2).2
            replace p12:=eq_true p12
            replace q12:=eq_true q12
            go_wp2_with (first|((with_reducible refine gate_callee (f:=126) rfl ?_);refine goesL_ (some 26) rfl rfl Try.func126 (by kernel_rfl) rfl #[.int .u8 (bt a0 x20_2)] rfl (by (try simp only [sE,sH,sI]);first|done|rfl|(simp only [sG,sF];rfl)) ?_;(with_reducible refine (impl_isLetter.calls (bt a0 x20_2) false _ A13.out).mono ?_);rintro e w' ⟨rfl,⟨nd,rfl⟩⟩;refine ⟨_,rfl,?_⟩;have p15 : 0 ≤ (x20_2 : Int):=sM (by first|(with_reducible assumption)|assumption);have q15 : x20_2 < (a0.size : Int):=sM (by first|(with_reducible assumption)|assumption);have hx15:=bt_at a0 x20_2;have bl15:=(bt_range a0 x20_2).1;have bh15:=(bt_range a0 x20_2).2;replace p15:=eq_true p15;replace q15:=eq_true q15;have p17 : 0 ≤ (x20_2 : Int):=sM (by first|(with_reducible assumption)|assumption);have q17 : x20_2 < (a0.size : Int):=sM (by first|(with_reducible assumption)|assumption);have hx17:=bt_at a0 x20_2;have bl17:=(bt_range a0 x20_2).1;have bh17:=(bt_range a0 x20_2).2;replace p17:=eq_true p17;replace q17:=eq_true q17))
            go_ret
            exact ⟨by first|rfl|(simp;done)|(simp [*];done),by repeat (first|exact Drawn0.refl _|apply Drawn0.step)⟩
           ·
            rw [if_neg c18] at H
            have c18b0 : decide (57 < (bt a0 x20_2)) = false:=decide_eq_false c18
            clear c18
            have H':=qd5 H
            clear H
            have p12 : 0 ≤ (x20_2 : Int):=sM (by first|(with_reducible assumption)|assumption)
            have q12 : x20_2 < (a0.size : Int):=sM (by first|(with_reducible assumption)|assumption)
            have hx12:=bt_at a0 x20_2
            have bl12:=(bt_range a0 x20_2).1
            have bh12:=(bt_range a0 x20_2).2
            replace p12:=eq_true p12
            replace q12:=eq_true q12
            go_wp2_with (first|((with_reducible refine gate_callee (f:=126) rfl ?_);refine goesL_ (some 26) rfl rfl Try.func126 (by kernel_rfl) rfl #[.int .u8 (bt a0 x20_2)] rfl (by (try simp only [sE,sH,sI]);first|done|rfl|(simp only [sG,sF];rfl)) ?_;(with_reducible refine (impl_isLetter.calls (bt a0 x20_2) false _ A13.out).mono ?_);rintro e w' ⟨rfl,⟨nd,rfl⟩⟩;refine ⟨_,rfl,?_⟩;have p15 : 0 ≤ (x20_2 : Int):=sM (by first|(with_reducible assumption)|assumption);have q15 : x20_2 < (a0.size : Int):=sM (by first|(with_reducible assumption)|assumption);have hx15:=bt_at a0 x20_2;have bl15:=(bt_range a0 x20_2).1;have bh15:=(bt_range a0 x20_2).2;replace p15:=eq_true p15;replace q15:=eq_true q15;have p17 : 0 ≤ (x20_2 : Int):=sM (by first|(with_reducible assumption)|assumption);have q17 : x20_2 < (a0.size : Int):=sM (by first|(with_reducible assumption)|assumption);have hx17:=bt_at a0 x20_2;have bl17:=(bt_range a0 x20_2).1;have bh17:=(bt_range a0 x20_2).2;replace p17:=eq_true p17;replace q17:=eq_true q17))
            go_roundg k2
            case measure => have:=HJ1.out;have:=HK2.out;omega
            case rel => exact ⟨(wrap64 (x20_2 + 1)),(by first|rfl|(simp;done)|(simp [*];done)),H',⟨by have:=HJ1.out;have:=HK2.out;omega⟩,by repeat (first|exact Drawn0.refl _|apply Drawn0.step)⟩
        ·
         rw [if_neg c11] at H
         exact absurd H (by simp)
       ·
        rw [if_neg c10] at H
        exact absurd H (by simp)
      ·
       rw [if_neg c9] at H
       have c9b0 : decide (x20_2 < (a0.size : Int)) = false:=decide_eq_false c9
       clear c9
       obtain rfl:=sO H
       go_wp2
       go_ret
       exact ⟨by first|rfl|(simp;done)|(simp [*];done),by repeat (first|exact Drawn0.refl _|apply Drawn0.step)⟩

/-! ### impl_isOpName: function 75 -/
def impl_isOpName.f (k : Nat) (a0 : ByteArray) : Option (Bool):=if (a0.size : Int) ≤ 12 then ((impl_NameOK.f k a0).bind fun t307 => (some t307)) else (some false)
set_option maxHeartbeats 8000000 in
set_option maxRecDepth 100000 in
theorem impl_isOpName.calls (k : Nat) (a0 : ByteArray) (r : Bool) (w : World) (h : impl_isOpName.f k a0 = some r) :
  Calls Try.prog 75 #[.string a0] w fun e w' => e = .returned (.bool r) ∧ Drawn0 w w':=by
 have H : (if (a0.size : Int) ≤ 12 then ((impl_NameOK.f k a0).bind fun t307 => (some t307)) else (some false)) = some r:=h
 clear h
 by_cases c2 : (a0.size : Int) ≤ 12
 ·
  rw [if_pos c2] at H
  have c2b0 : decide ((a0.size : Int) ≤ 12) = true:=decide_eq_true c2
  have c2b1 : decide (a0.size ≤ 12) = true:=decide_eq_true (by omega)
  clear c2
  replace H:=Option.bind_eq_some_iff.mp H
  obtain ⟨t307,A30,H⟩:=H
  replace H : (some t307) = some r:=H
  have A3:=qd5 A30
  clear A30
  obtain rfl:=sO H
  go_enter Try.func75,Try.ntmps75
  go_wp2_with (first|(go_at_call 104;(with_reducible refine (impl_NameOK.calls k a0 t307 _ A3.out).mono ?_);rintro e w' ⟨rfl,⟨nd,rfl⟩⟩))
  go_ret
  exact ⟨by first|rfl|(simp;done)|(simp [*];done),by repeat (first|exact Drawn0.refl _|apply Drawn0.step)⟩
 ·
  rw [if_neg c2] at H
  have c2b0 : decide ((a0.size : Int) ≤ 12) = false:=decide_eq_false c2
  have c2b1 : decide (a0.size ≤ 12) = false:=decide_eq_false (by omega)
  clear c2
  obtain rfl:=sO H
  go_enter Try.func75,Try.ntmps75
  go_wp2
  go_ret
  exact ⟨by first|rfl|(simp;done)|(simp [*];done),by repeat (first|exact Drawn0.refl _|apply Drawn0.step)⟩

end Go.Proofs.Ytjkanhjapddhnaa.PFnExactTableBytes
