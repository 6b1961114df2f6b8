-- squeezed
-- aliased
import Derived.Test.YtjkanhjapddhnaaPFnExactRunRequestsx0
import Derived.Test.YtjkanhjapddhnaaPFnExactRunRequestsx3
import Derived.Test.YtjkanhjapddhnaaPFnExactRunRequestsx5
namespace Go.Proofs.Ytjkanhjapddhnaa.PFnExactRunRequests
open Go.RowKit Go.Proofs.YtjkanhjapddhnaaV.PrintWords Go.Proofs.YtjkanhjapddhnaaV.PrintLast Go.Proofs.YtjkanhjapddhnaaV.PrintMore
attribute [local go_sem] max2_int min2_int max_two min_two max_three min_three max_four min_four u8_wm u32_wm   -- for this text's walks alone
set_option linter.unusedVariables false
set_option linter.unusedSimpArgs false
theorem qa6 : type_of% @below_alloc:=@below_alloc
theorem qb6 : type_of% @pw_below_drewN:=@pw_below_drewN
theorem qc6 : type_of% @below_drew1:=@below_drew1
theorem qd6 : type_of% @below_set:=@below_set
theorem qe6 : type_of% @Aside0.mk:=@Aside0.mk
theorem qf6 : type_of% @below_size:=@below_size
def spec_RequestOK.f (k : Nat) (a0_0 : Int) (a0_1 : Int) (a0_2 : Int) (a0_3 : Int) (a0_4 : ByteArray) : Option (Bool):=(spec_l01In.f a0_0 0 255).bind fun t220 => (if t220 = true then ((spec_l01In.f a0_1 1 65535).bind fun t221 => (if t221 = true then ((spec_l01In.f a0_2 1 4).bind fun t222 => (if t222 = true then ((spec_l01In.f a0_3 0 1000).bind fun t223 => (if t223 = true then ((spec_l02Text.f k a0_4 12).bind fun t224 => (if t224 = true then (if a0_2 = 1 then (some ((decide (a0_3 > 0)) == true)) else (some ((decide (a0_3 > 0)) == (a0_2 == 3)))) else (some false))) else (some false))) else (some false))) else (some false))) else (some false))
set_option maxHeartbeats 8000000 in
set_option maxRecDepth 100000 in
theorem spec_RequestOK.calls (k : Nat) (a0_0 : Int) (a0_1 : Int) (a0_2 : Int) (a0_3 : Int) (a0_4 : ByteArray) (r : Bool) (w : World) (h : spec_RequestOK.f k a0_0 a0_1 a0_2 a0_3 a0_4 = some r) :
  Calls Try.prog 64 #[.agg #[.int .i64 a0_0,.int .i64 a0_1,.int .i64 a0_2,.int .i64 a0_3,.string a0_4]] w fun e w' => e = .returned (.bool r) ∧ Below w.heap.size w w':=by
 have hu94:=Try.underlying94
 have HB:=qe6 (Below.refl w.heap.size w)
 have H : ((spec_l01In.f a0_0 0 255).bind fun t220 => (if t220 = true then ((spec_l01In.f a0_1 1 65535).bind fun t221 => (if t221 = true then ((spec_l01In.f a0_2 1 4).bind fun t222 => (if t222 = true then ((spec_l01In.f a0_3 0 1000).bind fun t223 => (if t223 = true then ((spec_l02Text.f k a0_4 12).bind fun t224 => (if t224 = true then (if a0_2 = 1 then (some ((decide (a0_3 > 0)) == true)) else (some ((decide (a0_3 > 0)) == (a0_2 == 3)))) else (some false))) else (some false))) else (some false))) else (some false))) else (some false))) = some r:=h
 clear h
 replace H:=Option.bind_eq_some_iff.mp H
 obtain ⟨t220,A20,H⟩:=H
 replace H : (if t220 = true then ((spec_l01In.f a0_1 1 65535).bind fun t221 => (if t221 = true then ((spec_l01In.f a0_2 1 4).bind fun t222 => (if t222 = true then ((spec_l01In.f a0_3 0 1000).bind fun t223 => (if t223 = true then ((spec_l02Text.f k a0_4 12).bind fun t224 => (if t224 = true then (if a0_2 = 1 then (some ((decide (a0_3 > 0)) == true)) else (some ((decide (a0_3 > 0)) == (a0_2 == 3)))) else (some false))) else (some false))) else (some false))) else (some false))) else (some false)) = some r:=H
 have A2:=qe6 A20
 clear A20
 by_cases c3 : t220 = true
 ·
  subst c3
  have H1 : ((spec_l01In.f a0_1 1 65535).bind fun t221 => (if t221 = true then ((spec_l01In.f a0_2 1 4).bind fun t222 => (if t222 = true then ((spec_l01In.f a0_3 0 1000).bind fun t223 => (if t223 = true then ((spec_l02Text.f k a0_4 12).bind fun t224 => (if t224 = true then (if a0_2 = 1 then (some ((decide (a0_3 > 0)) == true)) else (some ((decide (a0_3 > 0)) == (a0_2 == 3)))) else (some false))) else (some false))) else (some false))) else (some false))) = some r:=by rw [if_pos rfl] at H;exact H
  clear H
  have H:=H1
  clear H1
  replace H:=Option.bind_eq_some_iff.mp H
  obtain ⟨t221,A40,H⟩:=H
  replace H : (if t221 = true then ((spec_l01In.f a0_2 1 4).bind fun t222 => (if t222 = true then ((spec_l01In.f a0_3 0 1000).bind fun t223 => (if t223 = true then ((spec_l02Text.f k a0_4 12).bind fun t224 => (if t224 = true then (if a0_2 = 1 then (some ((decide (a0_3 > 0)) == true)) else (some ((decide (a0_3 > 0)) == (a0_2 == 3)))) else (some false))) else (some false))) else (some false))) else (some false)) = some r:=H
  have A4:=qe6 A40
  clear A40
  by_cases c5 : t221 = true
  ·
   subst c5
   have H1 : ((spec_l01In.f a0_2 1 4).bind fun t222 => (if t222 = true then ((spec_l01In.f a0_3 0 1000).bind fun t223 => (if t223 = true then ((spec_l02Text.f k a0_4 12).bind fun t224 => (if t224 = true then (if a0_2 = 1 then (some ((decide (a0_3 > 0)) == true)) else (some ((decide (a0_3 > 0)) == (a0_2 == 3)))) else (some false))) else (some false))) else (some false))) = some r:=by rw [if_pos rfl] at H;exact H
   clear H
   have H:=H1
   clear H1
   replace H:=Option.bind_eq_some_iff.mp H
   obtain ⟨t222,A60,H⟩:=H
   replace H : (if t222 = true then ((spec_l01In.f a0_3 0 1000).bind fun t223 => (if t223 = true then ((spec_l02Text.f k a0_4 12).bind fun t224 => (if t224 = true then (if a0_2 = 1 then (some ((decide (a0_3 > 0)) == true)) else (some ((decide (a0_3 > 0)) == (a0_2 == 3)))) else (some false))) else (some false))) else (some false)) = some r:=H
   have A6:=qe6 A60
   clear A60
   by_cases c7 : t222 = true
   ·
    subst c7
    have H1 : ((spec_l01In.f a0_3 0 1000).bind fun t223 => (if t223 = true then ((spec_l02Text.f k a0_4 12).bind fun t224 => (if t224 = true then (if a0_2 = 1 then (some ((decide (a0_3 > 0)) == true)) else (some ((decide (a0_3 > 0)) == (a0_2 == 3)))) else (some false))) else (some false))) = some r:=by rw [if_pos rfl] at H;exact H
    clear H
    have H:=H1
    clear H1
    replace H:=Option.bind_eq_some_iff.mp H
    obtain ⟨t223,A80,H⟩:=H
    replace H : (if t223 = true then ((spec_l02Text.f k a0_4 12).bind fun t224 => (if t224 = true then (if a0_2 = 1 then (some ((decide (a0_3 > 0)) == true)) else (some ((decide (a0_3 > 0)) == (a0_2 == 3)))) else (some false))) else (some false)) = some r:=H
    have A8:=qe6 A80
    clear A80
    by_cases c9 : t223 = true
    ·
     subst c9
     have H1 : ((spec_l02Text.f k a0_4 12).bind fun t224 => (if t224 = true then (if a0_2 = 1 then (some ((decide (a0_3 > 0)) == true)) else (some ((decide (a0_3 > 0)) == (a0_2 == 3)))) else (some false))) = some r:=by rw [if_pos rfl] at H;exact H
     clear H
     have H:=H1
     clear H1
     replace H:=Option.bind_eq_some_iff.mp H
     obtain ⟨t224,A100,H⟩:=H
     replace H : (if t224 = true then (if a0_2 = 1 then (some ((decide (a0_3 > 0)) == true)) else (some ((decide (a0_3 > 0)) == (a0_2 == 3)))) else (some false)) = some r:=H
     have A10:=qe6 A100
     clear A100
     by_cases c11 : t224 = true
     ·
      subst c11
      have H1 : (if a0_2 = 1 then (some ((decide (a0_3 > 0)) == true)) else (some ((decide (a0_3 > 0)) == (a0_2 == 3)))) = some r:=by rw [if_pos rfl] at H;exact H
      clear H
      have H:=H1
      clear H1
      by_cases c12 : a0_2 = 1
      ·
       rw [if_pos c12] at H
       have c12b0 : (a0_2 == 1) = true:=beq_iff_eq.mpr c12
       have c12b1 : (a0_2 != 1) = false:=bne_eq_false_iff_eq.mpr c12
       clear c12
       obtain rfl:=sO H
       go_enter Try.func64,Try.ntmps64
       go_wp2_with (first|((with_reducible refine gate_dst (N:=1) rfl ?_);refine box_event ?hg (N:=1) ?hd (cs:=#[.int .i64 a0_0,.int .i64 a0_1,.int .i64 a0_2,.int .i64 a0_3,.string a0_4]) (t:=94) ?hr ?_;(case hd => rfl);(case hg => rfl);(case hr => first|(go_simp;done)|(go_simp;rfl));intro gb219 hg w13 hbox hb;have n0_:=qe6 (sN (by repeat (first|(with_reducible first|exact HB.out|apply qa6|apply qb6|apply qc6)|exact HB.out)) hb);have n1_:=qe6 (hbox);have n2_:=qe6 ((by rw [hg];exact (qf6 (by repeat (first|(with_reducible first|exact HB.out|apply qa6|apply qb6|apply qc6)|exact HB.out))) : w.heap.size ≤ gb219));have n3_:=qe6 ((by rw [hg];exact (qf6 (by repeat (first|(with_reducible first|exact HB.out|apply qa6|apply qb6|apply qc6)|exact HB.out))) : w.heap.size ≤ gb219));clear HB;have HB:=n0_;have BK219:=n1_;have GW219:=n2_;have GE219:=n3_;clear n0_ n1_ n2_ n3_;clear hb hbox hg;have hcz14_0 : w13.cell? ⟨gb219,0,none⟩ = some (.int .i64 a0_0):=(blk_cell BK219.out 0).trans rfl;have hcz14_1 : w13.cell? ⟨gb219,1,none⟩ = some (.int .i64 a0_1):=(blk_cell BK219.out 1).trans rfl;have hcz14_2 : w13.cell? ⟨gb219,2,none⟩ = some (.int .i64 a0_2):=(blk_cell BK219.out 2).trans rfl;have hcz14_3 : w13.cell? ⟨gb219,3,none⟩ = some (.int .i64 a0_3):=(blk_cell BK219.out 3).trans rfl;have hcz14_4 : w13.cell? ⟨gb219,4,none⟩ = some (.string a0_4):=(blk_cell BK219.out 4).trans rfl;have hfz14_0:=sJ BK219.out 0;have hfz14_1:=sJ BK219.out 1;have hfz14_2:=sJ BK219.out 2;have hfz14_3:=sJ BK219.out 3;have hfz14_4:=sJ BK219.out 4)|((with_reducible refine gate_callee (f:=41) rfl ?_);refine goesL_ (some 5) rfl rfl Try.func41 (by kernel_rfl) rfl #[.int .i64 a0_0,.int .i64 0,.int .i64 255] rfl (by (try simp only [sE,sH,sI]);first|done|rfl|(simp only [sG,sF];rfl)) ?_;(with_reducible refine (spec_l01In.calls a0_0 0 255 true _ A2.out).mono ?_);rintro e w' ⟨rfl,⟨nd,rfl⟩⟩;refine ⟨_,rfl,?_⟩)|(go_at_call 41;(with_reducible refine (spec_l01In.calls a0_1 1 65535 true _ A4.out).mono ?_);rintro e w' ⟨rfl,⟨nd,rfl⟩⟩)|(go_at_call 41;(with_reducible refine (spec_l01In.calls a0_2 1 4 true _ A6.out).mono ?_);rintro e w' ⟨rfl,⟨nd,rfl⟩⟩)|(go_at_call 41;(with_reducible refine (spec_l01In.calls a0_3 0 1000 true _ A8.out).mono ?_);rintro e w' ⟨rfl,⟨nd,rfl⟩⟩)|(go_at_call 42;(with_reducible refine (spec_l02Text.calls k a0_4 12 true _ A10.out).mono ?_);rintro e w' ⟨rfl,⟨nd,rfl⟩⟩))
       go_ret
       exact ⟨by first|rfl|(simp [errW_none,errW_some] <;> rfl)|(simp [*,errW_none,errW_some] <;> rfl),by repeat (first|(with_reducible first|exact HB.out|apply qa6|apply qb6|apply qc6|refine qd6 ?_ GE219.out)|exact HB.out)⟩
      ·
       rw [if_neg c12] at H
       have c12b0 : (a0_2 == 1) = false:=beq_eq_false_iff_ne.mpr c12
       have c12b1 : (a0_2 != 1) = true:=bne_iff_ne.mpr c12
       obtain rfl:=sO H
       go_enter Try.func64,Try.ntmps64
       go_wp2_with (first|((with_reducible refine gate_dst (N:=1) rfl ?_);refine box_event ?hg (N:=1) ?hd (cs:=#[.int .i64 a0_0,.int .i64 a0_1,.int .i64 a0_2,.int .i64 a0_3,.string a0_4]) (t:=94) ?hr ?_;(case hd => rfl);(case hg => rfl);(case hr => first|(go_simp;done)|(go_simp;rfl));intro gb219 hg w15 hbox hb;have n0_:=qe6 (sN (by repeat (first|(with_reducible first|exact HB.out|apply qa6|apply qb6|apply qc6)|exact HB.out)) hb);have n1_:=qe6 (hbox);have n2_:=qe6 ((by rw [hg];exact (qf6 (by repeat (first|(with_reducible first|exact HB.out|apply qa6|apply qb6|apply qc6)|exact HB.out))) : w.heap.size ≤ gb219));have n3_:=qe6 ((by rw [hg];exact (qf6 (by repeat (first|(with_reducible first|exact HB.out|apply qa6|apply qb6|apply qc6)|exact HB.out))) : w.heap.size ≤ gb219));clear HB;have HB:=n0_;have BK219:=n1_;have GW219:=n2_;have GE219:=n3_;clear n0_ n1_ n2_ n3_;clear hb hbox hg;have hcz16_0 : w15.cell? ⟨gb219,0,none⟩ = some (.int .i64 a0_0):=(blk_cell BK219.out 0).trans rfl;have hcz16_1 : w15.cell? ⟨gb219,1,none⟩ = some (.int .i64 a0_1):=(blk_cell BK219.out 1).trans rfl;have hcz16_2 : w15.cell? ⟨gb219,2,none⟩ = some (.int .i64 a0_2):=(blk_cell BK219.out 2).trans rfl;have hcz16_3 : w15.cell? ⟨gb219,3,none⟩ = some (.int .i64 a0_3):=(blk_cell BK219.out 3).trans rfl;have hcz16_4 : w15.cell? ⟨gb219,4,none⟩ = some (.string a0_4):=(blk_cell BK219.out 4).trans rfl;have hfz16_0:=sJ BK219.out 0;have hfz16_1:=sJ BK219.out 1;have hfz16_2:=sJ BK219.out 2;have hfz16_3:=sJ BK219.out 3;have hfz16_4:=sJ BK219.out 4)|((with_reducible refine gate_callee (f:=41) rfl ?_);refine goesL_ (some 5) rfl rfl Try.func41 (by kernel_rfl) rfl #[.int .i64 a0_0,.int .i64 0,.int .i64 255] rfl (by (try simp only [sE,sH,sI]);first|done|rfl|(simp only [sG,sF];rfl)) ?_;(with_reducible refine (spec_l01In.calls a0_0 0 255 true _ A2.out).mono ?_);rintro e w' ⟨rfl,⟨nd,rfl⟩⟩;refine ⟨_,rfl,?_⟩)|(go_at_call 41;(with_reducible refine (spec_l01In.calls a0_1 1 65535 true _ A4.out).mono ?_);rintro e w' ⟨rfl,⟨nd,rfl⟩⟩)|(go_at_call 41;(with_reducible refine (spec_l01In.calls a0_2 1 4 true _ A6.out).mono ?_);rintro e w' ⟨rfl,⟨nd,rfl⟩⟩)|(go_at_call 41;(with_reducible refine (spec_l01In.calls a0_3 0 1000 true _ A8.out).mono ?_);rintro e w' ⟨rfl,⟨nd,rfl⟩⟩)|(go_at_call 42;(with_reducible refine (spec_l02Text.calls k a0_4 12 true _ A10.out).mono ?_);rintro e w' ⟨rfl,⟨nd,rfl⟩⟩))
       go_ret
       exact ⟨by first|rfl|(simp [errW_none,errW_some] <;> rfl)|(simp [*,errW_none,errW_some] <;> rfl),by repeat (first|(with_reducible first|exact HB.out|apply qa6|apply qb6|apply qc6|refine qd6 ?_ GE219.out)|exact HB.out)⟩
     ·
      replace c11:=Bool.eq_false_iff.mpr c11
      subst c11
      have H1 : (some false) = some r:=by rw [if_neg (show ¬ (false = true) by decide)] at H;exact H
      clear H
      have H:=H1
      clear H1
      obtain rfl:=sO H
      go_enter Try.func64,Try.ntmps64
      go_wp2_with (first|((with_reducible refine gate_dst (N:=1) rfl ?_);refine box_event ?hg (N:=1) ?hd (cs:=#[.int .i64 a0_0,.int .i64 a0_1,.int .i64 a0_2,.int .i64 a0_3,.string a0_4]) (t:=94) ?hr ?_;(case hd => rfl);(case hg => rfl);(case hr => first|(go_simp;done)|(go_simp;rfl));intro gb219 hg w17 hbox hb;have n0_:=qe6 (sN (by repeat (first|(with_reducible first|exact HB.out|apply qa6|apply qb6|apply qc6)|exact HB.out)) hb);have n1_:=qe6 (hbox);have n2_:=qe6 ((by rw [hg];exact (qf6 (by repeat (first|(with_reducible first|exact HB.out|apply qa6|apply qb6|apply qc6)|exact HB.out))) : w.heap.size ≤ gb219));have n3_:=qe6 ((by rw [hg];exact (qf6 (by repeat (first|(with_reducible first|exact HB.out|apply qa6|apply qb6|apply qc6)|exact HB.out))) : w.heap.size ≤ gb219));clear HB;have HB:=n0_;have BK219:=n1_;have GW219:=n2_;have GE219:=n3_;clear n0_ n1_ n2_ n3_;clear hb hbox hg;have hcz18_0 : w17.cell? ⟨gb219,0,none⟩ = some (.int .i64 a0_0):=(blk_cell BK219.out 0).trans rfl;have hcz18_1 : w17.cell? ⟨gb219,1,none⟩ = some (.int .i64 a0_1):=(blk_cell BK219.out 1).trans rfl;have hcz18_2 : w17.cell? ⟨gb219,2,none⟩ = some (.int .i64 a0_2):=(blk_cell BK219.out 2).trans rfl;have hcz18_3 : w17.cell? ⟨gb219,3,none⟩ = some (.int .i64 a0_3):=(blk_cell BK219.out 3).trans rfl;have hcz18_4 : w17.cell? ⟨gb219,4,none⟩ = some (.string a0_4):=(blk_cell BK219.out 4).trans rfl;have hfz18_0:=sJ BK219.out 0;have hfz18_1:=sJ BK219.out 1;have hfz18_2:=sJ BK219.out 2;have hfz18_3:=sJ BK219.out 3;have hfz18_4:=sJ BK219.out 4)|((with_reducible refine gate_callee (f:=41) rfl ?_);refine goesL_ (some 5) rfl rfl Try.func41 (by kernel_rfl) rfl #[.int .i64 a0_0,.int .i64 0,.int .i64 255] rfl (by (try simp only [sE,sH,sI]);first|done|rfl|(simp only [sG,sF];rfl)) ?_;(with_reducible refine (spec_l01In.calls a0_0 0 255 true _ A2.out).mono ?_);rintro e w' ⟨rfl,⟨nd,rfl⟩⟩;refine ⟨_,rfl,?_⟩)|(go_at_call 41;(with_reducible refine (spec_l01In.calls a0_1 1 65535 true _ A4.out).mono ?_);rintro e w' ⟨rfl,⟨nd,rfl⟩⟩)|(go_at_call 41;(with_reducible refine (spec_l01In.calls a0_2 1 4 true _ A6.out).mono ?_);rintro e w' ⟨rfl,⟨nd,rfl⟩⟩)|(go_at_call 41;(with_reducible refine (spec_l01In.calls a0_3 0 1000 true _ A8.out).mono ?_);rintro e w' ⟨rfl,⟨nd,rfl⟩⟩)|(go_at_call 42;(with_reducible refine (spec_l02Text.calls k a0_4 12 false _ A10.out).mono ?_);rintro e w' ⟨rfl,⟨nd,rfl⟩⟩))
      go_ret
      exact ⟨by first|rfl|(simp [errW_none,errW_some] <;> rfl)|(simp [*,errW_none,errW_some] <;> rfl),by repeat (first|(with_reducible first|exact HB.out|apply qa6|apply qb6|apply qc6|refine qd6 ?_ GE219.out)|exact HB.out)⟩
    ·
     replace c9:=Bool.eq_false_iff.mpr c9
     subst c9
     have H1 : (some false) = some r:=by rw [if_neg (show ¬ (false = true) by decide)] at H;exact H
     clear H
     have H:=H1
     clear H1
     obtain rfl:=sO H
     go_enter Try.func64,Try.ntmps64
     go_wp2_with (first|((with_reducible refine gate_dst (N:=1) rfl ?_);refine box_event ?hg (N:=1) ?hd (cs:=#[.int .i64 a0_0,.int .i64 a0_1,.int .i64 a0_2,.int .i64 a0_3,.string a0_4]) (t:=94) ?hr ?_;(case hd => rfl);(case hg => rfl);(case hr => first|(go_simp;done)|(go_simp;rfl));intro gb219 hg w19 hbox hb;have n0_:=qe6 (sN (by repeat (first|(with_reducible first|exact HB.out|apply qa6|apply qb6|apply qc6)|exact HB.out)) hb);have n1_:=qe6 (hbox);have n2_:=qe6 ((by rw [hg];exact (qf6 (by repeat (first|(with_reducible first|exact HB.out|apply qa6|apply qb6|apply qc6)|exact HB.out))) : w.heap.size ≤ gb219));have n3_:=qe6 ((by rw [hg];exact (qf6 (by repeat (first|(with_reducible first|exact HB.out|apply qa6|apply qb6|apply qc6)|exact HB.out))) : w.heap.size ≤ gb219));clear HB;have HB:=n0_;have BK219:=n1_;have GW219:=n2_;have GE219:=n3_;clear n0_ n1_ n2_ n3_;clear hb hbox hg;have hcz20_0 : w19.cell? ⟨gb219,0,none⟩ = some (.int .i64 a0_0):=(blk_cell BK219.out 0).trans rfl;have hcz20_1 : w19.cell? ⟨gb219,1,none⟩ = some (.int .i64 a0_1):=(blk_cell BK219.out 1).trans rfl;have hcz20_2 : w19.cell? ⟨gb219,2,none⟩ = some (.int .i64 a0_2):=(blk_cell BK219.out 2).trans rfl;have hcz20_3 : w19.cell? ⟨gb219,3,none⟩ = some (.int .i64 a0_3):=(blk_cell BK219.out 3).trans rfl;have hcz20_4 : w19.cell? ⟨gb219,4,none⟩ = some (.string a0_4):=(blk_cell BK219.out 4).trans rfl;have hfz20_0:=sJ BK219.out 0;have hfz20_1:=sJ BK219.out 1;have hfz20_2:=sJ BK219.out 2;have hfz20_3:=sJ BK219.out 3;have hfz20_4:=sJ BK219.out 4)|((with_reducible refine gate_callee (f:=41) rfl ?_);refine goesL_ (some 5) rfl rfl Try.func41 (by kernel_rfl) rfl #[.int .i64 a0_0,.int .i64 0,.int .i64 255] rfl (by (try simp only [sE,sH,sI]);first|done|rfl|(simp only [sG,sF];rfl)) ?_;(with_reducible refine (spec_l01In.calls a0_0 0 255 true _ A2.out).mono ?_);rintro e w' ⟨rfl,⟨nd,rfl⟩⟩;refine ⟨_,rfl,?_⟩)|(go_at_call 41;(with_reducible refine (spec_l01In.calls a0_1 1 65535 true _ A4.out).mono ?_);rintro e w' ⟨rfl,⟨nd,rfl⟩⟩)|(go_at_call 41;(with_reducible refine (spec_l01In.calls a0_2 1 4 true _ A6.out).mono ?_);rintro e w' ⟨rfl,⟨nd,rfl⟩⟩)|(go_at_call 41;(with_reducible refine (spec_l01In.calls a0_3 0 1000 false _ A8.out).mono ?_);rintro e w' ⟨rfl,⟨nd,rfl⟩⟩))
     go_ret
     exact ⟨by first|rfl|(simp [errW_none,errW_some] <;> rfl)|(simp [*,errW_none,errW_some] <;> rfl),by repeat (first|(with_reducible first|exact HB.out|apply qa6|apply qb6|apply qc6|refine qd6 ?_ GE219.out)|exact HB.out)⟩
   ·
    replace c7:=Bool.eq_false_iff.mpr c7
    subst c7
    have H1 : (some false) = some r:=by rw [if_neg (show ¬ (false = true) by decide)] at H;exact H
    clear H
    have H:=H1
    clear H1
    obtain rfl:=sO H
    go_enter Try.func64,Try.ntmps64
    go_wp2_with (first|((with_reducible refine gate_dst (N:=1) rfl ?_);refine box_event ?hg (N:=1) ?hd (cs:=#[.int .i64 a0_0,.int .i64 a0_1,.int .i64 a0_2,.int .i64 a0_3,.string a0_4]) (t:=94) ?hr ?_;(case hd => rfl);(case hg => rfl);(case hr => first|(go_simp;done)|(go_simp;rfl));intro gb219 hg w21 hbox hb;have n0_:=qe6 (sN (by repeat (first|(with_reducible first|exact HB.out|apply qa6|apply qb6|apply qc6)|exact HB.out)) hb);have n1_:=qe6 (hbox);have n2_:=qe6 ((by rw [hg];exact (qf6 (by repeat (first|(with_reducible first|exact HB.out|apply qa6|apply qb6|apply qc6)|exact HB.out))) : w.heap.size ≤ gb219));have n3_:=qe6 ((by rw [hg];exact (qf6 (by repeat (first|(with_reducible first|exact HB.out|apply qa6|apply qb6|apply qc6)|exact HB.out))) : w.heap.size ≤ gb219));clear HB;have HB:=n0_;have BK219:=n1_;have GW219:=n2_;have GE219:=n3_;clear n0_ n1_ n2_ n3_;clear hb hbox hg;have hcz22_0 : w21.cell? ⟨gb219,0,none⟩ = some (.int .i64 a0_0):=(blk_cell BK219.out 0).trans rfl;have hcz22_1 : w21.cell? ⟨gb219,1,none⟩ = some (.int .i64 a0_1):=(blk_cell BK219.out 1).trans rfl;have hcz22_2 : w21.cell? ⟨gb219,2,none⟩ = some (.int .i64 a0_2):=(blk_cell BK219.out 2).trans rfl;have hcz22_3 : w21.cell? ⟨gb219,3,none⟩ = some (.int .i64 a0_3):=(blk_cell BK219.out 3).trans rfl;have hcz22_4 : w21.cell? ⟨gb219,4,none⟩ = some (.string a0_4):=(blk_cell BK219.out 4).trans rfl;have hfz22_0:=sJ BK219.out 0;have hfz22_1:=sJ BK219.out 1;have hfz22_2:=sJ BK219.out 2;have hfz22_3:=sJ BK219.out 3;have hfz22_4:=sJ BK219.out 4)|((with_reducible refine gate_callee (f:=41) rfl ?_);refine goesL_ (some 5) rfl rfl Try.func41 (by kernel_rfl) rfl #[.int .i64 a0_0,.int .i64 0,.int .i64 255] rfl (by (try simp only [sE,sH,sI]);first|done|rfl|(simp only [sG,sF];rfl)) ?_;(with_reducible refine (spec_l01In.calls a0_0 0 255 true _ A2.out).mono ?_);rintro e w' ⟨rfl,⟨nd,rfl⟩⟩;refine ⟨_,rfl,?_⟩)|(go_at_call 41;(with_reducible refine (spec_l01In.calls a0_1 1 65535 true _ A4.out).mono ?_);rintro e w' ⟨rfl,⟨nd,rfl⟩⟩)|(go_at_call 41;(with_reducible refine (spec_l01In.calls a0_2 1 4 false _ A6.out).mono ?_);rintro e w' ⟨rfl,⟨nd,rfl⟩⟩))
    go_ret
    exact ⟨by first|rfl|(simp [errW_none,errW_some] <;> rfl)|(simp [*,errW_none,errW_some] <;> rfl),by repeat (first|(with_reducible first|exact HB.out|apply qa6|apply qb6|apply qc6|refine qd6 ?_ GE219.out)|exact HB.out)⟩
  ·
   replace c5:=Bool.eq_false_iff.mpr c5
   subst c5
   have H1 : (some false) = some r:=by rw [if_neg (show ¬ (false = true) by decide)] at H;exact H
   clear H
   have H:=H1
   clear H1
   obtain rfl:=sO H
   go_enter Try.func64,Try.ntmps64
   go_wp2_with (first|((with_reducible refine gate_dst (N:=1) rfl ?_);refine box_event ?hg (N:=1) ?hd (cs:=#[.int .i64 a0_0,.int .i64 a0_1,.int .i64 a0_2,.int .i64 a0_3,.string a0_4]) (t:=94) ?hr ?_;(case hd => rfl);(case hg => rfl);(case hr => first|(go_simp;done)|(go_simp;rfl));intro gb219 hg w23 hbox hb;have n0_:=qe6 (sN (by repeat (first|(with_reducible first|exact HB.out|apply qa6|apply qb6|apply qc6)|exact HB.out)) hb);have n1_:=qe6 (hbox);have n2_:=qe6 ((by rw [hg];exact (qf6 (by repeat (first|(with_reducible first|exact HB.out|apply qa6|apply qb6|apply qc6)|exact HB.out))) : w.heap.size ≤ gb219));have n3_:=qe6 ((by rw [hg];exact (qf6 (by repeat (first|(with_reducible first|exact HB.out|apply qa6|apply qb6|apply qc6)|exact HB.out))) : w.heap.size ≤ gb219));clear HB;have HB:=n0_;have BK219:=n1_;have GW219:=n2_;have GE219:=n3_;clear n0_ n1_ n2_ n3_;clear hb hbox hg;have hcz24_0 : w23.cell? ⟨gb219,0,none⟩ = some (.int .i64 a0_0):=(blk_cell BK219.out 0).trans rfl;have hcz24_1 : w23.cell? ⟨gb219,1,none⟩ = some (.int .i64 a0_1):=(blk_cell BK219.out 1).trans rfl;have hcz24_2 : w23.cell? ⟨gb219,2,none⟩ = some (.int .i64 a0_2):=(blk_cell BK219.out 2).trans rfl;have hcz24_3 : w23.cell? ⟨gb219,3,none⟩ = some (.int .i64 a0_3):=(blk_cell BK219.out 3).trans rfl;have hcz24_4 : w23.cell? ⟨gb219,4,none⟩ = some (.string a0_4):=(blk_cell BK219.out 4).trans rfl;have hfz24_0:=sJ BK219.out 0;have hfz24_1:=sJ BK219.out 1;have hfz24_2:=sJ BK219.out 2;have hfz24_3:=sJ BK219.out 3;have hfz24_4:=sJ BK219.out 4)|((with_reducible refine gate_callee (f:=41) rfl ?_);refine goesL_ (some 5) rfl rfl Try.func41 (by kernel_rfl) rfl #[.int .i64 a0_0,.int .i64 0,.int .i64 255] rfl (by (try simp only [sE,sH,sI]);first|done|rfl|(simp only [sG,sF];rfl)) ?_;(with_reducible refine (spec_l01In.calls a0_0 0 255 true _ A2.out).mono ?_);rintro e w' ⟨rfl,⟨nd,rfl⟩⟩;refine ⟨_,rfl,?_⟩)|(go_at_call 41;(with_reducible refine (spec_l01In.calls a0_1 1 65535 false _ A4.out).mono ?_);rintro e w' ⟨rfl,⟨nd,rfl⟩⟩))
   go_ret
   exact ⟨by first|rfl|(simp [errW_none,errW_some] <;> rfl)|(simp [*,errW_none,errW_some] <;> rfl),by repeat (first|(with_reducible first|exact HB.out|apply qa6|apply qb6|apply qc6|refine qd6 ?_ GE219.out)|exact HB.out)⟩
 ·
  replace c3:=Bool.eq_false_iff.mpr c3
  subst c3
  have H1 : (some false) = some r:=by rw [if_neg (show ¬ (false = true) by decide)] at H;exact H
  clear H
  have H:=H1
  clear H1
  obtain rfl:=sO H
  go_enter Try.func64,Try.ntmps64
  go_wp2_with (first|((with_reducible refine gate_dst (N:=1) rfl ?_);refine box_event ?hg (N:=1) ?hd (cs:=#[.int .i64 a0_0,.int .i64 a0_1,.int .i64 a0_2,.int .i64 a0_3,.string a0_4]) (t:=94) ?hr ?_;(case hd => rfl);(case hg => rfl);(case hr => first|(go_simp;done)|(go_simp;rfl));intro gb219 hg w25 hbox hb;have n0_:=qe6 (sN (by repeat (first|(with_reducible first|exact HB.out|apply qa6|apply qb6|apply qc6)|exact HB.out)) hb);have n1_:=qe6 (hbox);have n2_:=qe6 ((by rw [hg];exact (qf6 (by repeat (first|(with_reducible first|exact HB.out|apply qa6|apply qb6|apply qc6)|exact HB.out))) : w.heap.size ≤ gb219));have n3_:=qe6 ((by rw [hg];exact (qf6 (by repeat (first|(with_reducible first|exact HB.out|apply qa6|apply qb6|apply qc6)|exact HB.out))) : w.heap.size ≤ gb219));clear HB;have HB:=n0_;have BK219:=n1_;have GW219:=n2_;have GE219:=n3_;clear n0_ n1_ n2_ n3_;clear hb hbox hg;have hcz26_0 : w25.cell? ⟨gb219,0,none⟩ = some (.int .i64 a0_0):=(blk_cell BK219.out 0).trans rfl;have hcz26_1 : w25.cell? ⟨gb219,1,none⟩ = some (.int .i64 a0_1):=(blk_cell BK219.out 1).trans rfl;have hcz26_2 : w25.cell? ⟨gb219,2,none⟩ = some (.int .i64 a0_2):=(blk_cell BK219.out 2).trans rfl;have hcz26_3 : w25.cell? ⟨gb219,3,none⟩ = some (.int .i64 a0_3):=(blk_cell BK219.out 3).trans rfl;have hcz26_4 : w25.cell? ⟨gb219,4,none⟩ = some (.string a0_4):=(blk_cell BK219.out 4).trans rfl;have hfz26_0:=sJ BK219.out 0;have hfz26_1:=sJ BK219.out 1;have hfz26_2:=sJ BK219.out 2;have hfz26_3:=sJ BK219.out 3;have hfz26_4:=sJ BK219.out 4)|((with_reducible refine gate_callee (f:=41) rfl ?_);refine goesL_ (some 5) rfl rfl Try.func41 (by kernel_rfl) rfl #[.int .i64 a0_0,.int .i64 0,.int .i64 255] rfl (by (try simp only [sE,sH,sI]);first|done|rfl|(simp only [sG,sF];rfl)) ?_;(with_reducible refine (spec_l01In.calls a0_0 0 255 false _ A2.out).mono ?_);rintro e w' ⟨rfl,⟨nd,rfl⟩⟩;refine ⟨_,rfl,?_⟩))
  go_ret
  exact ⟨by first|rfl|(simp [errW_none,errW_some] <;> rfl)|(simp [*,errW_none,errW_some] <;> rfl),by repeat (first|(with_reducible first|exact HB.out|apply qa6|apply qb6|apply qc6|refine qd6 ?_ GE219.out)|exact HB.out)⟩
def impl_bare.f (a0 : Int) : Option (Int × Int × Int × Int):=some (a0,0,(-1),0)
set_option maxHeartbeats 8000000 in
set_option maxRecDepth 100000 in
theorem impl_bare.calls (a0 : Int) (r1 : Int) (r2 : Int) (r3 : Int) (r4 : Int) (w : World) (h : impl_bare.f a0 = some (r1,r2,r3,r4)) :
  Calls Try.prog 96 #[.int .i64 a0] w fun e w' => e = .returned (.agg #[.int .i64 r1,.int .i64 r2,.int .i64 r3,.int .i64 r4]) ∧ Below w.heap.size w w':=by
 have hu75:=Try.underlying75
 have HB:=qe6 (Below.refl w.heap.size w)
 have H : (some (a0,0,(-1),0)) = some (r1,r2,r3,r4):=h
 clear h
 simp only [Option.some.injEq,Prod.mk.injEq] at H
 obtain ⟨rfl,rfl,rfl,rfl⟩:=H
 go_enter Try.func96,Try.ntmps96
 go_wp2_with (first|((with_reducible refine gate_dst (N:=2) rfl ?_);refine box_event ?hg (N:=2) ?hd (cs:=#[.int .i64 0,.int .i64 0,.int .i64 0,.int .i64 0]) (t:=75) ?hr ?_;(case hd => rfl);(case hg => rfl);(case hr => first|(go_simp;done)|(go_simp;rfl));intro gb262 hg w2 hbox hb;have n0_:=qe6 (sN (by repeat (first|(with_reducible first|exact HB.out|apply qa6|apply qb6|apply qc6)|exact HB.out)) hb);have n1_:=qe6 (hbox);have n2_:=qe6 ((by rw [hg];exact (qf6 (by repeat (first|(with_reducible first|exact HB.out|apply qa6|apply qb6|apply qc6)|exact HB.out))) : w.heap.size ≤ gb262));have n3_:=qe6 ((by rw [hg];exact (qf6 (by repeat (first|(with_reducible first|exact HB.out|apply qa6|apply qb6|apply qc6)|exact HB.out))) : w.heap.size ≤ gb262));clear HB;have HB:=n0_;have BK262:=n1_;have GW262:=n2_;have GE262:=n3_;clear n0_ n1_ n2_ n3_;clear hb hbox hg;have hcz3_0 : w2.cell? ⟨gb262,0,none⟩ = some (.int .i64 0):=(blk_cell BK262.out 0).trans rfl;have hcz3_1 : w2.cell? ⟨gb262,1,none⟩ = some (.int .i64 0):=(blk_cell BK262.out 1).trans rfl;have hcz3_2 : w2.cell? ⟨gb262,2,none⟩ = some (.int .i64 0):=(blk_cell BK262.out 2).trans rfl;have hcz3_3 : w2.cell? ⟨gb262,3,none⟩ = some (.int .i64 0):=(blk_cell BK262.out 3).trans rfl;have hfz3_0:=sJ BK262.out 0;have hfz3_1:=sJ BK262.out 1;have hfz3_2:=sJ BK262.out 2;have hfz3_3:=sJ BK262.out 3))
 refine bodyPost_ret (results_cell_row rfl _ _ gb262 75 #[.int .i64 a0,.int .i64 0,.int .i64 (-1),.int .i64 0] (0,0) _ rfl (by (with_reducible repeat (first|apply blk_drewN|apply blk_drew|apply blk_alloc));refine blk_put (cs:=#[.int .i64 a0,.int .i64 0,.int .i64 (-1),.int .i64 0]) ?_ 3 _ rfl;(with_reducible repeat (first|apply blk_drewN|apply blk_drew|apply blk_alloc));refine blk_put (cs:=#[.int .i64 a0,.int .i64 0,.int .i64 0,.int .i64 0]) ?_ 2 _ rfl;(with_reducible repeat (first|apply blk_drewN|apply blk_drew|apply blk_alloc));refine blk_put (cs:=#[.int .i64 a0,.int .i64 0,.int .i64 0,.int .i64 0]) ?_ 1 _ rfl;(with_reducible repeat (first|apply blk_drewN|apply blk_drew|apply blk_alloc));refine blk_put (cs:=#[.int .i64 0,.int .i64 0,.int .i64 0,.int .i64 0]) ?_ 0 _ rfl;(with_reducible repeat (first|apply blk_drewN|apply blk_drew|apply blk_alloc));exact BK262.out) Try.underlying75 rfl (by kernel_rfl)) rfl ?_
 exact ⟨by first|rfl|(simp [errW_none,errW_some] <;> rfl)|(simp [*,errW_none,errW_some] <;> rfl),by repeat (first|(with_reducible first|exact HB.out|apply qa6|apply qb6|apply qc6|refine qd6 ?_ GE262.out)|exact HB.out)⟩
end Go.Proofs.Ytjkanhjapddhnaa.PFnExactRunRequests
