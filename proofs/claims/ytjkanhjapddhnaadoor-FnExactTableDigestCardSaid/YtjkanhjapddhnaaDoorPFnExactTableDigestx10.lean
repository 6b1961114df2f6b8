-- laid by this session's program myprint.py over the kit's printer
-- squeezed
-- aliased
import Derived.Test.YtjkanhjapddhnaaDoorPFnExactTableDigestx0
import Derived.Test.YtjkanhjapddhnaaDoorPFnExactTableDigestx7
import Derived.Test.YtjkanhjapddhnaaDoorPFnExactTableDigestx9
namespace Go.Proofs.YtjkanhjapddhnaaDoor.PFnExactTableDigest
open Go.RowKit Go.Proofs.YtjkanhjapddhnaaDoorV.PrintWords Go.Proofs.YtjkanhjapddhnaaDoorV.PrintLast Go.Proofs.YtjkanhjapddhnaaDoorV.PrintMore
attribute [local go_sem] max2_int min2_int max_two min_two max_three min_three max_four min_four u8_wm u32_wm   -- for this text's walks alone
set_option linter.unusedVariables false
set_option linter.unusedSimpArgs false

/-! ### impl_TableDigest: function 7 -/
theorem qa10 : type_of% @Aside0.mk:=@Aside0.mk
def impl_TableDigest.f (k : Nat) (a0_0 : Int) (a0_1 : Int) (l0_2 : List (S55)) (l0_3 : List (S62)) : Option (ByteArray × Int):=(impl_TableOK.f a0_0 a0_1 l0_2 l0_3).bind fun t343 => (if t343 = true then ((impl_tableText.f k a0_0 a0_1 l0_2 l0_3).bind fun t344 => (if 5 + t344.size ≤ 9223372036854775807 then ((impl_hash.f ((⟨#[116,97,98,108,101]⟩ : ByteArray) ++ t344)).bind fun t345 => (some (t345,0))) else (none))) else (some ((⟨#[]⟩ : ByteArray),1)))
set_option maxHeartbeats 8000000 in
set_option maxRecDepth 100000 in
theorem impl_TableDigest.calls (k : Nat) (a0_0 : Int) (a0_1 : Int) (A0_2 : Option Addr) (c0_2 : Nat) (l0_2 : List (S55)) (A0_3 : Option Addr) (c0_3 : Nat) (l0_3 : List (S62)) (r1 : ByteArray) (r2 : Int) (w : World) (hr0_2 : Kd.C k55 w A0_2 l0_2.length l0_2) (hc0_2 : l0_2.length ≤ c0_2) (hr0_3 : Kd.C k62 w A0_3 l0_3.length l0_3) (hc0_3 : l0_3.length ≤ c0_3) (hG_ : Go.Proofs.YtjkanhjapddhnaaDoor.Sha.GlobA w) (h : impl_TableDigest.f k a0_0 a0_1 l0_2 l0_3 = some (r1,r2)) :
  Calls Tryd.prog 7 #[.agg #[.int .i64 a0_0,.int .i64 a0_1,.slice A0_2 l0_2.length c0_2,.slice A0_3 l0_3.length c0_3]] w fun e w' => e = .returned (.tuple #[.string r1,.int .i64 r2]) ∧ Below w.heap.size w w':=by
 have hu32:=Tryd.underlying32
 have HR0_2:=qa10 hr0_2
 have HC0_2:=qa10 hc0_2
 clear hr0_2 hc0_2
 have HR0_3:=qa10 hr0_3
 have HC0_3:=qa10 hc0_3
 clear hr0_3 hc0_3
 have HB:=qa10 (Below.refl w.heap.size w)
 have H : ((impl_TableOK.f a0_0 a0_1 l0_2 l0_3).bind fun t343 => (if t343 = true then ((impl_tableText.f k a0_0 a0_1 l0_2 l0_3).bind fun t344 => (if 5 + t344.size ≤ 9223372036854775807 then ((impl_hash.f ((⟨#[116,97,98,108,101]⟩ : ByteArray) ++ t344)).bind fun t345 => (some (t345,0))) else (none))) else (some ((⟨#[]⟩ : ByteArray),1)))) = some (r1,r2):=h
 clear h
 replace H:=Option.bind_eq_some_iff.mp H
 obtain ⟨t343,A20,H⟩:=H
 replace H : (if t343 = true then ((impl_tableText.f k a0_0 a0_1 l0_2 l0_3).bind fun t344 => (if 5 + t344.size ≤ 9223372036854775807 then ((impl_hash.f ((⟨#[116,97,98,108,101]⟩ : ByteArray) ++ t344)).bind fun t345 => (some (t345,0))) else (none))) else (some ((⟨#[]⟩ : ByteArray),1))) = some (r1,r2):=H
 have A2:=qa10 A20
 clear A20
 by_cases c3 : t343 = true
 ·
  subst c3
  have H1 : ((impl_tableText.f k a0_0 a0_1 l0_2 l0_3).bind fun t344 => (if 5 + t344.size ≤ 9223372036854775807 then ((impl_hash.f ((⟨#[116,97,98,108,101]⟩ : ByteArray) ++ t344)).bind fun t345 => (some (t345,0))) else (none))) = some (r1,r2):=by rw [if_pos rfl] at H;exact H
  clear H
  have H:=H1
  clear H1
  replace H:=Option.bind_eq_some_iff.mp H
  obtain ⟨t344,A40,H⟩:=H
  replace H : (if 5 + t344.size ≤ 9223372036854775807 then ((impl_hash.f ((⟨#[116,97,98,108,101]⟩ : ByteArray) ++ t344)).bind fun t345 => (some (t345,0))) else (none)) = some (r1,r2):=H
  have A4:=qa10 A40
  clear A40
  by_cases c5 : 5 + t344.size ≤ 9223372036854775807
  ·
   rw [if_pos c5] at H
   have c5b0:=eq_true c5
   have c5b1 : decide (5 + t344.size ≤ 9223372036854775807) = true:=decide_eq_true c5
   try have c5b2 : (9223372036854775807 < 5 + t344.size) = False:=eq_false (Nat.not_lt.2 c5)
   replace H:=Option.bind_eq_some_iff.mp H
   obtain ⟨t345,A60,H⟩:=H
   replace H : (some (t345,0)) = some (r1,r2):=H
   have A6:=qa10 A60
   clear A60
   simp only [Option.some.injEq,Prod.mk.injEq] at H
   obtain ⟨rfl,rfl⟩:=H
   go_enter Tryd.func7,Tryd.ntmps7
   go_wp2_with (first|((with_reducible refine gate_dst (N:=1) rfl ?_);refine box_event ?hg (N:=1) ?hd (cs:=#[.int .i64 a0_0,.int .i64 a0_1,.slice A0_2 l0_2.length c0_2,.slice A0_3 l0_3.length c0_3]) (t:=32) ?hr ?_;(case hd => rfl);(case hg => rfl);(case hr => first|(go_simp;done)|(go_simp;rfl));intro gb342 hg w7 hbox hb;have n0_:=qa10 (sN (by repeat (first|(with_reducible first|exact HB.out|apply below_alloc|apply pw_below_drewN|apply below_drew1)|exact HB.out)) hb);have n1_:=qa10 (hbox);have n2_:=qa10 ((by rw [hg];exact (below_size (by repeat (first|(with_reducible first|exact HB.out|apply below_alloc|apply pw_below_drewN|apply below_drew1)|exact HB.out))) : w.heap.size ≤ gb342));have n3_:=qa10 ((by rw [hg];exact (below_size (by repeat (first|(with_reducible first|exact HB.out|apply below_alloc|apply pw_below_drewN|apply below_drew1)|exact HB.out))) : w.heap.size ≤ gb342));clear HB;have HB:=n0_;have BK342:=n1_;have GW342:=n2_;have GE342:=n3_;clear n0_ n1_ n2_ n3_;clear hb hbox hg;have hcz8_0 : w7.cell? ⟨gb342,0,none⟩ = some (.int .i64 a0_0):=(blk_cell BK342.out 0).trans rfl;have hcz8_1 : w7.cell? ⟨gb342,1,none⟩ = some (.int .i64 a0_1):=(blk_cell BK342.out 1).trans rfl;have hcz8_2 : w7.cell? ⟨gb342,2,none⟩ = some (.slice A0_2 l0_2.length c0_2):=(blk_cell BK342.out 2).trans rfl;have hcz8_3 : w7.cell? ⟨gb342,3,none⟩ = some (.slice A0_3 l0_3.length c0_3):=(blk_cell BK342.out 3).trans rfl;have hfz8_0:=sJ BK342.out 0;have hfz8_1:=sJ BK342.out 1;have hfz8_2:=sJ BK342.out 2;have hfz8_3:=sJ BK342.out 3)|((with_reducible refine gate_callee (f:=16) rfl ?_);refine goesL_ (some 5) rfl rfl Tryd.func16 (by kernel_rfl) rfl #[.agg #[.int .i64 a0_0,.int .i64 a0_1,.slice A0_2 l0_2.length c0_2,.slice A0_3 l0_3.length c0_3]] rfl (by (try simp only [sE,sH,sI]);first|done|rfl|(simp only [sG,sF];rfl)) ?_;(with_reducible refine (impl_TableOK.calls a0_0 a0_1 _ _ l0_2 _ _ l0_3 true _ ?side1 ?side2 ?side3 ?side4 A2.out).mono ?_);(case side1 => repeat (first|exact (Kd.C_below HR0_2.out HB.out)|(with_reducible refine Kd.C_alloc ?_ _)|(with_reducible refine Kd.C_drewN ?_ _)|(with_reducible refine Kd.C_drew ?_)));(case side2 => exact HC0_2.out);(case side3 => repeat (first|exact (Kd.C_below HR0_3.out HB.out)|(with_reducible refine Kd.C_alloc ?_ _)|(with_reducible refine Kd.C_drewN ?_ _)|(with_reducible refine Kd.C_drew ?_)));(case side4 => exact HC0_3.out);rintro e w9 ⟨rfl,hb⟩;refine ⟨_,rfl,?_⟩;have n0_:=qa10 (blk_below (g:=gb342) (o:=.cells #[.int .i64 a0_0,.int .i64 a0_1,.slice A0_2 l0_2.length c0_2,.slice A0_3 l0_3.length c0_3] 32 (0,0)) (by (with_reducible repeat (first|apply blk_drewN|apply blk_drew|apply blk_alloc));exact BK342.out) hb);have n1_:=qa10 (sN (by repeat (first|(with_reducible first|exact HB.out|apply below_alloc|apply pw_below_drewN|apply below_drew1|refine below_set ?_ GE342.out)|exact HB.out)) hb);clear BK342;clear HB;have BK342:=n0_;have HB:=n1_;clear n0_ n1_;(try clear hb);(try clear hb2);(try clear hk);(try clear hi);have hcz10_0 : w9.cell? ⟨gb342,0,none⟩ = some (.int .i64 a0_0):=(blk_cell BK342.out 0).trans rfl;have hcz10_1 : w9.cell? ⟨gb342,1,none⟩ = some (.int .i64 a0_1):=(blk_cell BK342.out 1).trans rfl;have hcz10_2 : w9.cell? ⟨gb342,2,none⟩ = some (.slice A0_2 l0_2.length c0_2):=(blk_cell BK342.out 2).trans rfl;have hcz10_3 : w9.cell? ⟨gb342,3,none⟩ = some (.slice A0_3 l0_3.length c0_3):=(blk_cell BK342.out 3).trans rfl;have hfz10_0:=sJ BK342.out 0;have hfz10_1:=sJ BK342.out 1;have hfz10_2:=sJ BK342.out 2;have hfz10_3:=sJ BK342.out 3)|((with_reducible refine gate_callee (f:=18) rfl ?_);refine goesL_ (some 8) rfl rfl Tryd.func18 (by kernel_rfl) rfl #[.agg #[.int .i64 a0_0,.int .i64 a0_1,.slice A0_2 l0_2.length c0_2,.slice A0_3 l0_3.length c0_3]] rfl (by (try simp only [sE,sH,sI]);first|done|rfl|(simp only [sG,sF];rfl)) ?_;(with_reducible refine (impl_tableText.calls k a0_0 a0_1 _ _ l0_2 _ _ l0_3 t344 _ ?side1 ?side2 ?side3 ?side4 A4.out).mono ?_);(case side1 => repeat (first|exact (Kd.C_below HR0_2.out HB.out)|(with_reducible refine Kd.C_alloc ?_ _)|(with_reducible refine Kd.C_drewN ?_ _)|(with_reducible refine Kd.C_drew ?_)));(case side2 => exact HC0_2.out);(case side3 => repeat (first|exact (Kd.C_below HR0_3.out HB.out)|(with_reducible refine Kd.C_alloc ?_ _)|(with_reducible refine Kd.C_drewN ?_ _)|(with_reducible refine Kd.C_drew ?_)));(case side4 => exact HC0_3.out);rintro e w11 ⟨rfl,hb⟩;refine ⟨_,rfl,?_⟩;have n0_:=qa10 (blk_below (g:=gb342) (o:=.cells #[.int .i64 a0_0,.int .i64 a0_1,.slice A0_2 l0_2.length c0_2,.slice A0_3 l0_3.length c0_3] 32 (0,0)) (by (with_reducible repeat (first|apply blk_drewN|apply blk_drew|apply blk_alloc));exact BK342.out) hb);have n1_:=qa10 (sN (by repeat (first|(with_reducible first|exact HB.out|apply below_alloc|apply pw_below_drewN|apply below_drew1|refine below_set ?_ GE342.out)|exact HB.out)) hb);clear BK342;clear HB;have BK342:=n0_;have HB:=n1_;clear n0_ n1_;(try clear hb);(try clear hb2);(try clear hk);(try clear hi))|((with_reducible refine gate_callee (f:=17) rfl ?_);refine goesL_ (some 10) rfl rfl Tryd.func17 (by kernel_rfl) rfl #[.string ((⟨#[116,97,98,108,101]⟩ : ByteArray) ++ t344)] rfl (by (try simp only [sE,sH,sI]);first|done|rfl|(simp only [sG,sF];rfl)) ?_;(with_reducible refine (impl_hash.calls ((⟨#[116,97,98,108,101]⟩ : ByteArray) ++ t344) t345 _ ?side1 A6.out).mono ?_);(case side1 => exact Go.Proofs.YtjkanhjapddhnaaDoor.Sha.glob_below hG_ (by repeat (first|(with_reducible first|exact HB.out|apply below_alloc|apply pw_below_drewN|apply below_drew1|refine below_set ?_ GE342.out)|exact HB.out)));rintro e w12 ⟨rfl,hb⟩;refine ⟨_,rfl,?_⟩;have n0_:=qa10 (blk_below (g:=gb342) (o:=.cells #[.int .i64 a0_0,.int .i64 a0_1,.slice A0_2 l0_2.length c0_2,.slice A0_3 l0_3.length c0_3] 32 (0,0)) (by (with_reducible repeat (first|apply blk_drewN|apply blk_drew|apply blk_alloc));exact BK342.out) hb);have n1_:=qa10 (sN (by repeat (first|(with_reducible first|exact HB.out|apply below_alloc|apply pw_below_drewN|apply below_drew1|refine below_set ?_ GE342.out)|exact HB.out)) hb);clear BK342;clear HB;have BK342:=n0_;have HB:=n1_;clear n0_ n1_;(try clear hb);(try clear hb2);(try clear hk);(try clear hi)))
   go_ret2
   exact ⟨by first|rfl|(simp [errW_none,errW_some] <;> rfl)|(simp [*,errW_none,errW_some] <;> rfl),by repeat (first|(with_reducible first|exact HB.out|apply below_alloc|apply pw_below_drewN|apply below_drew1|refine below_set ?_ GE342.out)|exact HB.out)⟩
  ·
   rw [if_neg c5] at H
   exact absurd H (by simp)
 ·
  replace c3:=Bool.eq_false_iff.mpr c3
  subst c3
  have H1 : (some ((⟨#[]⟩ : ByteArray),1)) = some (r1,r2):=by rw [if_neg (show ¬ (false = true) by decide)] at H;exact H
  clear H
  have H:=H1
  clear H1
  simp only [Option.some.injEq,Prod.mk.injEq] at H
  obtain ⟨rfl,rfl⟩:=H
  go_enter Tryd.func7,Tryd.ntmps7
  go_wp2_with (first|((with_reducible refine gate_dst (N:=1) rfl ?_);refine box_event ?hg (N:=1) ?hd (cs:=#[.int .i64 a0_0,.int .i64 a0_1,.slice A0_2 l0_2.length c0_2,.slice A0_3 l0_3.length c0_3]) (t:=32) ?hr ?_;(case hd => rfl);(case hg => rfl);(case hr => first|(go_simp;done)|(go_simp;rfl));intro gb342 hg w13 hbox hb;have n0_:=qa10 (sN (by repeat (first|(with_reducible first|exact HB.out|apply below_alloc|apply pw_below_drewN|apply below_drew1)|exact HB.out)) hb);have n1_:=qa10 (hbox);have n2_:=qa10 ((by rw [hg];exact (below_size (by repeat (first|(with_reducible first|exact HB.out|apply below_alloc|apply pw_below_drewN|apply below_drew1)|exact HB.out))) : w.heap.size ≤ gb342));have n3_:=qa10 ((by rw [hg];exact (below_size (by repeat (first|(with_reducible first|exact HB.out|apply below_alloc|apply pw_below_drewN|apply below_drew1)|exact HB.out))) : w.heap.size ≤ gb342));clear HB;have HB:=n0_;have BK342:=n1_;have GW342:=n2_;have GE342:=n3_;clear n0_ n1_ n2_ n3_;clear hb hbox hg;have hcz14_0 : w13.cell? ⟨gb342,0,none⟩ = some (.int .i64 a0_0):=(blk_cell BK342.out 0).trans rfl;have hcz14_1 : w13.cell? ⟨gb342,1,none⟩ = some (.int .i64 a0_1):=(blk_cell BK342.out 1).trans rfl;have hcz14_2 : w13.cell? ⟨gb342,2,none⟩ = some (.slice A0_2 l0_2.length c0_2):=(blk_cell BK342.out 2).trans rfl;have hcz14_3 : w13.cell? ⟨gb342,3,none⟩ = some (.slice A0_3 l0_3.length c0_3):=(blk_cell BK342.out 3).trans rfl;have hfz14_0:=sJ BK342.out 0;have hfz14_1:=sJ BK342.out 1;have hfz14_2:=sJ BK342.out 2;have hfz14_3:=sJ BK342.out 3)|((with_reducible refine gate_callee (f:=16) rfl ?_);refine goesL_ (some 5) rfl rfl Tryd.func16 (by kernel_rfl) rfl #[.agg #[.int .i64 a0_0,.int .i64 a0_1,.slice A0_2 l0_2.length c0_2,.slice A0_3 l0_3.length c0_3]] rfl (by (try simp only [sE,sH,sI]);first|done|rfl|(simp only [sG,sF];rfl)) ?_;(with_reducible refine (impl_TableOK.calls a0_0 a0_1 _ _ l0_2 _ _ l0_3 false _ ?side1 ?side2 ?side3 ?side4 A2.out).mono ?_);(case side1 => repeat (first|exact (Kd.C_below HR0_2.out HB.out)|(with_reducible refine Kd.C_alloc ?_ _)|(with_reducible refine Kd.C_drewN ?_ _)|(with_reducible refine Kd.C_drew ?_)));(case side2 => exact HC0_2.out);(case side3 => repeat (first|exact (Kd.C_below HR0_3.out HB.out)|(with_reducible refine Kd.C_alloc ?_ _)|(with_reducible refine Kd.C_drewN ?_ _)|(with_reducible refine Kd.C_drew ?_)));(case side4 => exact HC0_3.out);rintro e w15 ⟨rfl,hb⟩;refine ⟨_,rfl,?_⟩;have n0_:=qa10 (blk_below (g:=gb342) (o:=.cells #[.int .i64 a0_0,.int .i64 a0_1,.slice A0_2 l0_2.length c0_2,.slice A0_3 l0_3.length c0_3] 32 (0,0)) (by (with_reducible repeat (first|apply blk_drewN|apply blk_drew|apply blk_alloc));exact BK342.out) hb);have n1_:=qa10 (sN (by repeat (first|(with_reducible first|exact HB.out|apply below_alloc|apply pw_below_drewN|apply below_drew1|refine below_set ?_ GE342.out)|exact HB.out)) hb);clear BK342;clear HB;have BK342:=n0_;have HB:=n1_;clear n0_ n1_;(try clear hb);(try clear hb2);(try clear hk);(try clear hi)))
  go_ret2
  exact ⟨by first|rfl|(simp [errW_none,errW_some] <;> rfl)|(simp [*,errW_none,errW_some] <;> rfl),by repeat (first|(with_reducible first|exact HB.out|apply below_alloc|apply pw_below_drewN|apply below_drew1|refine below_set ?_ GE342.out)|exact HB.out)⟩

/-! ### laws_eqTable: function 8, given -/
section
open Go.Proofs.YtjkanhjapddhnaaDoor.Quiet2 Go.Lib
set_option maxHeartbeats 20000000 in
set_option maxRecDepth 100000 in
theorem eqW_calls (a b : Int) (w : World) : Calls Tryd.prog 54 #[.agg #[.int .i64 a,.int .i64 b],.agg #[.int .i64 a,.int .i64 b]] w fun e w' => e = .returned (.bool true) ∧ Below w.heap.size w w':=by
 have HB:=qa10 (((Below.refl _ w).alloc (Nat.le_refl _) (.cells #[.int .i64 a,.int .i64 b] 58 (0,0))).alloc (by simp) (.cells #[.int .i64 a,.int .i64 b] 58 (0,0)))
 go_enter Tryd.func54,Tryd.ntmps54
 go_wp2_with fail
 go_ret
 exact ⟨rfl,HB.out⟩
set_option maxHeartbeats 20000000 in
set_option maxRecDepth 100000 in
theorem eqA_calls (a b c d : Int) (w : World) : Calls Tryd.prog 47 #[.agg #[.int .i64 a,.int .i64 b,.int .i64 c,.int .i64 d],.agg #[.int .i64 a,.int .i64 b,.int .i64 c,.int .i64 d]] w fun e w' => e = .returned (.bool true) ∧ Below w.heap.size w w':=by
 have HB:=qa10 (((Below.refl _ w).alloc (Nat.le_refl _) (.cells #[.int .i64 a,.int .i64 b,.int .i64 c,.int .i64 d] 60 (0,0))).alloc (by simp) (.cells #[.int .i64 a,.int .i64 b,.int .i64 c,.int .i64 d] 60 (0,0)))
 go_enter Tryd.func47,Tryd.ntmps47
 go_wp2_with fail
 go_ret
 exact ⟨rfl,HB.out⟩
set_option maxHeartbeats 20000000 in
set_option maxRecDepth 100000 in
theorem eqN_calls (s t a b c d : Int) (w : World) : Calls Tryd.prog 37 #[.agg #[.int .i64 s,.int .i64 t,.int .i64 a,.int .i64 b,.int .i64 c,.int .i64 d],.agg #[.int .i64 s,.int .i64 t,.int .i64 a,.int .i64 b,.int .i64 c,.int .i64 d]] w fun e w' => e = .returned (.bool true) ∧ Below w.heap.size w w':=by
 have HB:=qa10 (((Below.refl _ w).alloc (Nat.le_refl _) (.cells #[.int .i64 s,.int .i64 t,.int .i64 a,.int .i64 b,.int .i64 c,.int .i64 d] 62 (0,0))).alloc (by simp) (.cells #[.int .i64 s,.int .i64 t,.int .i64 a,.int .i64 b,.int .i64 c,.int .i64 d] 62 (0,0)))
 go_enter Tryd.func37,Tryd.ntmps37
 go_wp2_with fail
 refine (eqA_calls _ _ _ _ _).mono ?_
 rintro e w' ⟨rfl,hb⟩
 have HW:=qa10 (below_then HB.out HB.out.size hb)
 clear hb
 go_wp2_with fail
 go_ret
 exact ⟨rfl,HW.out⟩
set_option maxHeartbeats 20000000 in
set_option maxRecDepth 100000 in
theorem eqWS_calls (A0 : Option Addr) (c0 : Nat) (A1 : Option Addr) (c1 : Nat) (l : List S58) (w : World) (hr0 : Kd.C k58 w A0 l.length l) (hr1 : Kd.C k58 w A1 l.length l) :
  Calls Tryd.prog 46 #[.slice A0 l.length c0,.slice A1 l.length c1] w fun e w' => e = .returned (.bool true) ∧ Below w.heap.size w w':=by
 have hn : l.length ≤ 9223372036854775807:=hr0.2.1
 have HR0:=qa10 hr0
 have HR1:=qa10 hr1
 have HB0:=qa10 (Below.refl w.heap.size w)
 clear hr0 hr1
 go_enter Tryd.func46,Tryd.ntmps46
 go_wp2_with fail
 go_loopg [5] l.length (fun g v5 wx => ∃ i : Nat,v5 = .int .i64 i ∧ i ≤ l.length ∧ Aside0 (i + g = l.length) ∧ Aside0 (Below w.heap.size w wx))
 case atStart => exact ⟨0,rfl,Nat.zero_le _,⟨by omega⟩,HB0⟩
 case round =>
  clear HB0
  obtain ⟨i,rfl,hi,HM,HB⟩:=hrel
  by_cases hlt : i < l.length
  ·
   obtain ⟨ad0,e0,y0,y1⟩:=at_T58 (Kd.C_below HR0.out HB.out) (i : Int) (by omega) (by omega)
   obtain ⟨ad1,e1,z0,z1⟩:=at_T58 (Kd.C_below HR1.out HB.out) (i : Int) (by omega) (by omega)
   cases e0
   cases e1
   simp only [Int.toNat_natCast] at y0 y1 z0 z1
   replace y0:=Blw.cell y0
   replace y1:=Blw.cell y1
   replace z0:=Blw.cell z0
   replace z1:=Blw.cell z1
   have p0 : ((i : Int) < (l.length : Int)) = True:=eq_true (by omega)
   have p1 : (0 ≤ (i : Int)) = True:=eq_true (by omega)
   have p2 : decide ((i : Int) < (l.length : Int)) = true:=decide_eq_true (by omega)
   go_upto_region 6 with fail
   refine wp_region_blw (by kernel_rfl) (by kernel_rfl) ?_
   repeat (go_big_quiet_step (exact Calls.blw (eqW_calls _ _ _)))
   refine wpQuiet_nil ?_
   intro _ hw'
   obtain ⟨xq,rfl⟩:=hw'
   have HXQ:=qa10 (below_then HB.out HB.out.size xq.h)
   clear y0 y1 z0 z1
   go_wp2_with fail
   go_roundg (gk - 1)
   case measure => have:=HM.out;omega
   case rel => exact ⟨i + 1,by go_num,by omega,⟨by have:=HM.out;omega⟩,HXQ⟩
  ·
   obtain rfl : i = l.length:=by omega
   go_wp2_with fail
   go_ret
   exact ⟨rfl,HB.out⟩
set_option maxHeartbeats 20000000 in
set_option maxRecDepth 100000 in
theorem eqL_calls (s : ByteArray) (a b c : Int) (A0 : Option Addr) (c0 : Nat) (A1 : Option Addr) (c1 : Nat) (l : List S58) (w : World) (hr0 : Kd.C k58 w A0 l.length l) (hr1 : Kd.C k58 w A1 l.length l) :
  Calls Tryd.prog 36 #[.agg #[.string s,.int .i64 a,.int .i64 b,.int .i64 c,.slice A0 l.length c0],.agg #[.string s,.int .i64 a,.int .i64 b,.int .i64 c,.slice A1 l.length c1]] w fun e w' => e = .returned (.bool true) ∧ Below w.heap.size w w':=by
 have HR0:=qa10 hr0
 have HR1:=qa10 hr1
 have HB:=qa10 (((Below.refl _ w).alloc (Nat.le_refl _) (.cells #[.string s,.int .i64 a,.int .i64 b,.int .i64 c,.slice A0 l.length c0] 55 (0,0))).alloc (by simp) (.cells #[.string s,.int .i64 a,.int .i64 b,.int .i64 c,.slice A1 l.length c1] 55 (0,0)))
 clear hr0 hr1
 go_enter Tryd.func36,Tryd.ntmps36
 go_wp2_with fail
 refine (eqWS_calls _ _ _ _ _ _ (Kd.C_below HR0.out HB.out) (Kd.C_below HR1.out HB.out)).mono ?_
 rintro e w' ⟨rfl,hb⟩
 have HW:=qa10 (below_then HB.out HB.out.size hb)
 clear hb
 go_wp2_with fail
 go_ret
 exact ⟨rfl,HW.out⟩
set_option maxHeartbeats 20000000 in
set_option maxRecDepth 100000 in
theorem eqLS_calls (A0 : Option Addr) (c0 : Nat) (A1 : Option Addr) (c1 : Nat) (l : List S55) (w : World) (hr0 : Kd.C k55 w A0 l.length l) (hr1 : Kd.C k55 w A1 l.length l) :
  Calls Tryd.prog 19 #[.slice A0 l.length c0,.slice A1 l.length c1] w fun e w' => e = .returned (.bool true) ∧ Below w.heap.size w w':=by
 have hn : l.length ≤ 9223372036854775807:=hr0.2.1
 have HR0:=qa10 hr0
 have HR1:=qa10 hr1
 have HB0:=qa10 (Below.refl w.heap.size w)
 clear hr0 hr1
 go_enter Tryd.func19,Tryd.ntmps19
 go_wp2_with fail
 go_loopg [5] l.length (fun g v5 wx => ∃ i : Nat,v5 = .int .i64 i ∧ i ≤ l.length ∧ Aside0 (i + g = l.length) ∧ Aside0 (Below w.heap.size w wx))
 case atStart => exact ⟨0,rfl,Nat.zero_le _,⟨by omega⟩,HB0⟩
 case round =>
  clear HB0
  obtain ⟨i,rfl,hi,HM,HB⟩:=hrel
  by_cases hlt : i < l.length
  ·
   obtain ⟨ad0,B0,d0,e0,y0,y1,y2,y3,y4,-,hw0⟩:=at_T55 (Kd.C_below HR0.out HB.out) (i : Int) (by omega) (by omega)
   obtain ⟨ad1,B1,d1,e1,z0,z1,z2,z3,z4,-,hw1⟩:=at_T55 (Kd.C_below HR1.out HB.out) (i : Int) (by omega) (by omega)
   cases e0
   cases e1
   simp only [Int.toNat_natCast] at y0 y1 y2 y3 y4 z0 z1 z2 z3 z4
   have W0:=qa10 hw0
   have W1:=qa10 hw1
   clear hw0 hw1
   replace y0:=Blw.cell y0
   replace y1:=Blw.cell y1
   replace y2:=Blw.cell y2
   replace y3:=Blw.cell y3
   replace y4:=Blw.cell y4
   replace z0:=Blw.cell z0
   replace z1:=Blw.cell z1
   replace z2:=Blw.cell z2
   replace z3:=Blw.cell z3
   replace z4:=Blw.cell z4
   have p0 : ((i : Int) < (l.length : Int)) = True:=eq_true (by omega)
   have p1 : (0 ≤ (i : Int)) = True:=eq_true (by omega)
   have p2 : decide ((i : Int) < (l.length : Int)) = true:=decide_eq_true (by omega)
   go_upto_region 6 with fail
   refine wp_region_blw (by kernel_rfl) (by kernel_rfl) ?_
   repeat (go_big_quiet_step (exact Calls.blw (eqL_calls _ _ _ _ _ _ _ _ _ _ (Kd.C_below W0.out (Blw.h _)) (Kd.C_below W1.out (Blw.h _)))))
   refine wpQuiet_nil ?_
   intro _ hw'
   obtain ⟨xq,rfl⟩:=hw'
   have HXQ:=qa10 (below_then HB.out HB.out.size xq.h)
   clear y0 y1 y2 y3 y4 z0 z1 z2 z3 z4 W0 W1
   go_wp2_with fail
   go_roundg (gk - 1)
   case measure => have:=HM.out;omega
   case rel => exact ⟨i + 1,by go_num,by omega,⟨by have:=HM.out;omega⟩,HXQ⟩
  ·
   obtain rfl : i = l.length:=by omega
   go_wp2_with fail
   go_ret
   exact ⟨rfl,HB.out⟩
set_option maxHeartbeats 20000000 in
set_option maxRecDepth 100000 in
theorem eqNS_calls (A0 : Option Addr) (c0 : Nat) (A1 : Option Addr) (c1 : Nat) (l : List S62) (w : World) (hr0 : Kd.C k62 w A0 l.length l) (hr1 : Kd.C k62 w A1 l.length l) :
  Calls Tryd.prog 20 #[.slice A0 l.length c0,.slice A1 l.length c1] w fun e w' => e = .returned (.bool true) ∧ Below w.heap.size w w':=by
 have hn : l.length ≤ 9223372036854775807:=hr0.2.1
 have HR0:=qa10 hr0
 have HR1:=qa10 hr1
 have HB0:=qa10 (Below.refl w.heap.size w)
 clear hr0 hr1
 go_enter Tryd.func20,Tryd.ntmps20
 go_wp2_with fail
 go_loopg [5] l.length (fun g v5 wx => ∃ i : Nat,v5 = .int .i64 i ∧ i ≤ l.length ∧ Aside0 (i + g = l.length) ∧ Aside0 (Below w.heap.size w wx))
 case atStart => exact ⟨0,rfl,Nat.zero_le _,⟨by omega⟩,HB0⟩
 case round =>
  clear HB0
  obtain ⟨i,rfl,hi,HM,HB⟩:=hrel
  by_cases hlt : i < l.length
  ·
   obtain ⟨ad0,e0,y0,y1,y2,y3,y4,y5⟩:=at_T62 (Kd.C_below HR0.out HB.out) (i : Int) (by omega) (by omega)
   obtain ⟨ad1,e1,z0,z1,z2,z3,z4,z5⟩:=at_T62 (Kd.C_below HR1.out HB.out) (i : Int) (by omega) (by omega)
   cases e0
   cases e1
   simp only [Int.toNat_natCast] at y0 y1 y2 y3 y4 y5 z0 z1 z2 z3 z4 z5
   replace y0:=Blw.cell y0
   replace y1:=Blw.cell y1
   replace y2:=Blw.cell y2
   replace y3:=Blw.cell y3
   replace y4:=Blw.cell y4
   replace y5:=Blw.cell y5
   replace z0:=Blw.cell z0
   replace z1:=Blw.cell z1
   replace z2:=Blw.cell z2
   replace z3:=Blw.cell z3
   replace z4:=Blw.cell z4
   replace z5:=Blw.cell z5
   have p0 : ((i : Int) < (l.length : Int)) = True:=eq_true (by omega)
   have p1 : (0 ≤ (i : Int)) = True:=eq_true (by omega)
   have p2 : decide ((i : Int) < (l.length : Int)) = true:=decide_eq_true (by omega)
   go_upto_region 6 with fail
   refine wp_region_blw (by kernel_rfl) (by kernel_rfl) ?_
   repeat (go_big_quiet_step (exact Calls.blw (eqN_calls _ _ _ _ _ _ _)))
   refine wpQuiet_nil ?_
   intro _ hw'
   obtain ⟨xq,rfl⟩:=hw'
   have HXQ:=qa10 (below_then HB.out HB.out.size xq.h)
   clear y0 y1 y2 y3 y4 y5 z0 z1 z2 z3 z4 z5
   go_wp2_with fail
   go_roundg (gk - 1)
   case measure => have:=HM.out;omega
   case rel => exact ⟨i + 1,by go_num,by omega,⟨by have:=HM.out;omega⟩,HXQ⟩
  ·
   obtain rfl : i = l.length:=by omega
   go_wp2_with fail
   go_ret
   exact ⟨rfl,HB.out⟩
set_option maxHeartbeats 20000000 in
set_option maxRecDepth 100000 in
theorem eqT_calls (t0 t1 : Int) (A0 : Option Addr) (c0 : Nat) (A1 : Option Addr) (c1 : Nat) (B0 : Option Addr) (d0 : Nat) (B1 : Option Addr) (d1 : Nat) (l : List S55) (m : List S62) (w : World) (hr0 : Kd.C k55 w A0 l.length l) (hr1 : Kd.C k55 w A1 l.length l) (hs0 : Kd.C k62 w B0 m.length m) (hs1 : Kd.C k62 w B1 m.length m) :
  Calls Tryd.prog 8 #[.agg #[.int .i64 t0,.int .i64 t1,.slice A0 l.length c0,.slice B0 m.length d0],.agg #[.int .i64 t0,.int .i64 t1,.slice A1 l.length c1,.slice B1 m.length d1]] w fun e w' => e = .returned (.bool true) ∧ Below w.heap.size w w':=by
 have HR0:=qa10 hr0
 have HR1:=qa10 hr1
 have HS0:=qa10 hs0
 have HS1:=qa10 hs1
 have HB:=qa10 (((Below.refl _ w).alloc (Nat.le_refl _) (.cells #[.int .i64 t0,.int .i64 t1,.slice A0 l.length c0,.slice B0 m.length d0] 32 (0,0))).alloc (by simp) (.cells #[.int .i64 t0,.int .i64 t1,.slice A1 l.length c1,.slice B1 m.length d1] 32 (0,0)))
 clear hr0 hr1 hs0 hs1
 have HG0:=qa10 (blk_alloc (heap_alloc_new w (.cells #[.int .i64 t0,.int .i64 t1,.slice A0 l.length c0,.slice B0 m.length d0] 32 (0,0))) (.cells #[.int .i64 t0,.int .i64 t1,.slice A1 l.length c1,.slice B1 m.length d1] 32 (0,0)))
 have HG1 : Aside0 ((((w.alloc (.cells #[.int .i64 t0,.int .i64 t1,.slice A0 l.length c0,.slice B0 m.length d0] 32 (0,0)))).alloc (.cells #[.int .i64 t0,.int .i64 t1,.slice A1 l.length c1,.slice B1 m.length d1] 32 (0,0))).heap[w.heap.size + 1]? = some (.cells #[.int .i64 t0,.int .i64 t1,.slice A1 l.length c1,.slice B1 m.length d1] 32 (0,0))):=⟨by
  have h:=heap_alloc_new (w.alloc (.cells #[.int .i64 t0,.int .i64 t1,.slice A0 l.length c0,.slice B0 m.length d0] 32 (0,0))) (.cells #[.int .i64 t0,.int .i64 t1,.slice A1 l.length c1,.slice B1 m.length d1] 32 (0,0))
  have e : (w.alloc (.cells #[.int .i64 t0,.int .i64 t1,.slice A0 l.length c0,.slice B0 m.length d0] 32 (0,0))).heap.size = w.heap.size + 1:=by simp
  rw [e] at h
  exact h⟩
 go_enter Tryd.func8,Tryd.ntmps8
 go_wp2_with fail
 refine (eqLS_calls _ _ _ _ _ _ (Kd.C_below HR0.out HB.out) (Kd.C_below HR1.out HB.out)).mono ?_
 rintro e w1 ⟨rfl,hb⟩
 have HW:=qa10 (below_then HB.out HB.out.size hb)
 have g0:=blk_below HG0.out hb
 have g1:=blk_below HG1.out hb
 have x0 : w1.cell? ⟨w.heap.size,3,none⟩ = some (.slice B0 m.length d0):=(blk_cell g0 3).trans rfl
 have x1 : w1.cell? ⟨w.heap.size + 1,3,none⟩ = some (.slice B1 m.length d1):=(blk_cell g1 3).trans rfl
 clear hb g0 g1
 go_wp2_with fail
 refine (eqNS_calls _ _ _ _ _ _ (Kd.C_below HS0.out HW.out) (Kd.C_below HS1.out HW.out)).mono ?_
 rintro e w2 ⟨rfl,hb⟩
 have HW2:=qa10 (below_then HW.out HW.out.size hb)
 clear hb x0 x1
 go_wp2_with fail
 go_ret
 exact ⟨rfl,HW2.out⟩
end
def sameW_ (a b : S58) : Bool:=a.f0 == b.f0 && a.f1 == b.f1
def sameWS_ : List S58 → List S58 → Bool
 | [],[] => true
 | x :: l,y :: m => sameW_ x y && sameWS_ l m
 | _,_ => false
def sameL_ (a b : S55) : Bool:=a.f0.toList == b.f0.toList && (a.f1 == b.f1 && (a.f2 == b.f2 && (a.f3 == b.f3 && sameWS_ a.f4 b.f4)))
def sameLS_ : List S55 → List S55 → Bool
 | [],[] => true
 | x :: l,y :: m => sameL_ x y && sameLS_ l m
 | _,_ => false
def sameN_ (a b : S62) : Bool:=a.f0 == b.f0 && (a.f1 == b.f1 && (a.f2.f0 == b.f2.f0 && (a.f2.f1 == b.f2.f1 && (a.f2.f2 == b.f2.f2 && a.f2.f3 == b.f2.f3))))
def sameNS_ : List S62 → List S62 → Bool
 | [],[] => true
 | x :: l,y :: m => sameN_ x y && sameNS_ l m
 | _,_ => false
theorem toList_inj_ {a b : ByteArray} (h : a.toList = b.toList) : a = b:=by
 rw [ByteArray.toList_eq,ByteArray.toList_eq] at h
 exact Go.WideShapes.bytes_inj h
theorem sameW_of {a b : S58} (h : sameW_ a b = true) : a = b:=by
 cases a;cases b
 simp only [sameW_,Bool.and_eq_true,beq_iff_eq] at h
 obtain ⟨rfl,rfl⟩:=h
 rfl
theorem sameWS_of : ∀ {l m : List S58},sameWS_ l m = true → l = m
 | [],[],_ => rfl
 | x :: l,y :: m,h => by
  rw [sameWS_,Bool.and_eq_true] at h
  rw [sameW_of h.1,sameWS_of h.2]
 | [],_ :: _,h => by simp [sameWS_] at h
 | _ :: _,[],h => by simp [sameWS_] at h
theorem sameL_of {a b : S55} (h : sameL_ a b = true) : a = b:=by
 cases a;cases b
 simp only [sameL_,Bool.and_eq_true,beq_iff_eq] at h
 obtain ⟨h0,rfl,rfl,rfl,h4⟩:=h
 rw [toList_inj_ h0,sameWS_of h4]
theorem sameLS_of : ∀ {l m : List S55},sameLS_ l m = true → l = m
 | [],[],_ => rfl
 | x :: l,y :: m,h => by
  rw [sameLS_,Bool.and_eq_true] at h
  rw [sameL_of h.1,sameLS_of h.2]
 | [],_ :: _,h => by simp [sameLS_] at h
 | _ :: _,[],h => by simp [sameLS_] at h
theorem sameN_of {a b : S62} (h : sameN_ a b = true) : a = b:=by
 obtain ⟨a0,a1,⟨a2,a3,a4,a5⟩⟩:=a
 obtain ⟨b0,b1,⟨b2,b3,b4,b5⟩⟩:=b
 simp only [sameN_,Bool.and_eq_true,beq_iff_eq] at h
 obtain ⟨rfl,rfl,rfl,rfl,rfl,rfl⟩:=h
 rfl
theorem sameNS_of : ∀ {l m : List S62},sameNS_ l m = true → l = m
 | [],[],_ => rfl
 | x :: l,y :: m,h => by
  rw [sameNS_,Bool.and_eq_true] at h
  rw [sameN_of h.1,sameNS_of h.2]
 | [],_ :: _,h => by simp [sameNS_] at h
 | _ :: _,[],h => by simp [sameNS_] at h
theorem sameWS_refl : ∀ l : List S58,sameWS_ l l = true
 | [] => rfl
 | x :: l => by rw [sameWS_,sameWS_refl l];simp [sameW_]
theorem sameLS_refl : ∀ l : List S55,sameLS_ l l = true
 | [] => rfl
 | x :: l => by rw [sameLS_,sameLS_refl l];simp [sameL_,sameWS_refl]
theorem sameNS_refl : ∀ l : List S62,sameNS_ l l = true
 | [] => rfl
 | x :: l => by rw [sameNS_,sameNS_refl l];simp [sameN_]
def laws_eqTable.f (a0_0 : Int) (a0_1 : Int) (l0_2 : List S55) (l0_3 : List S62) (a1_0 : Int) (a1_1 : Int) (l1_2 : List S55) (l1_3 : List S62) : Option Bool :=
 if (a0_0 == a1_0 && (a0_1 == a1_1 && (sameLS_ l0_2 l1_2 && sameNS_ l0_3 l1_3))) = true then some true else none
theorem laws_eqTable.same (a0_0 : Int) (a0_1 : Int) (l0_2 : List S55) (l0_3 : List S62) : laws_eqTable.f a0_0 a0_1 l0_2 l0_3 a0_0 a0_1 l0_2 l0_3 = some true:=by
 unfold laws_eqTable.f
 rw [sameLS_refl,sameNS_refl,if_pos (by simp)]
theorem laws_eqTable.calls (a0_0 : Int) (a0_1 : Int) (A0_2 : Option Addr) (c0_2 : Nat) (l0_2 : List S55) (A0_3 : Option Addr) (c0_3 : Nat) (l0_3 : List S62) (a1_0 : Int) (a1_1 : Int) (A1_2 : Option Addr) (c1_2 : Nat) (l1_2 : List S55) (A1_3 : Option Addr) (c1_3 : Nat) (l1_3 : List S62) (r : Bool) (w : World) (hr0_2 : Kd.C k55 w A0_2 l0_2.length l0_2) (hc0_2 : l0_2.length ≤ c0_2) (hr0_3 : Kd.C k62 w A0_3 l0_3.length l0_3) (hc0_3 : l0_3.length ≤ c0_3) (hr1_2 : Kd.C k55 w A1_2 l1_2.length l1_2) (hc1_2 : l1_2.length ≤ c1_2) (hr1_3 : Kd.C k62 w A1_3 l1_3.length l1_3) (hc1_3 : l1_3.length ≤ c1_3) (h : laws_eqTable.f a0_0 a0_1 l0_2 l0_3 a1_0 a1_1 l1_2 l1_3 = some r) :
  Calls Tryd.prog 8 #[.agg #[.int .i64 a0_0,.int .i64 a0_1,.slice A0_2 l0_2.length c0_2,.slice A0_3 l0_3.length c0_3],.agg #[.int .i64 a1_0,.int .i64 a1_1,.slice A1_2 l1_2.length c1_2,.slice A1_3 l1_3.length c1_3]] w fun e w' => e = .returned (.bool r) ∧ Below w.heap.size w w':=by
 by_cases hs : (a0_0 == a1_0 && (a0_1 == a1_1 && (sameLS_ l0_2 l1_2 && sameNS_ l0_3 l1_3))) = true
 ·
  rw [laws_eqTable.f,if_pos hs] at h
  simp only [Bool.and_eq_true,beq_iff_eq] at hs
  obtain ⟨rfl,rfl,h2,h3⟩:=hs
  obtain rfl:=sameLS_of h2
  obtain rfl:=sameNS_of h3
  obtain rfl:=sO h
  exact eqT_calls a0_0 a0_1 A0_2 c0_2 A1_2 c1_2 A0_3 c0_3 A1_3 c1_3 l0_2 l0_3 w hr0_2 hr1_2 hr0_3 hr1_3
 ·
  rw [laws_eqTable.f,if_neg hs] at h
  cases h


end Go.Proofs.YtjkanhjapddhnaaDoor.PFnExactTableDigest
