-- squeezed
-- aliased
import Derived.Test.YtjkanhjapddhnaaPFnExactRunRequestsx0
import Derived.Test.YtjkanhjapddhnaaPFnExactRunRequestsx1
namespace Go.Proofs.Ytjkanhjapddhnaa.PFnExactRunRequests
open Go.RowKit Go.Proofs.YtjkanhjapddhnaaV.PrintWords Go.Proofs.YtjkanhjapddhnaaV.PrintLast Go.Proofs.YtjkanhjapddhnaaV.PrintMore
attribute [local go_sem] max2_int min2_int max_two min_two max_three min_three max_four min_four u8_wm u32_wm   -- for this text's walks alone
set_option linter.unusedVariables false
set_option linter.unusedSimpArgs false
theorem qa3 : type_of% @Aside0.mk:=@Aside0.mk
def spec_l01In.f (a0 : Int) (a1 : Int) (a2 : Int) : Option (Bool):=if a0 ≥ a1 then (some (decide (a0 ≤ a2))) else (some false)
set_option maxHeartbeats 8000000 in
set_option maxRecDepth 100000 in
theorem spec_l01In.calls (a0 : Int) (a1 : Int) (a2 : Int) (r : Bool) (w : World) (h : spec_l01In.f a0 a1 a2 = some r) :
  Calls Try.prog 41 #[.int .i64 a0,.int .i64 a1,.int .i64 a2] w fun e w' => e = .returned (.bool r) ∧ Drawn0 w w':=by
 have H : (if a0 ≥ a1 then (some (decide (a0 ≤ a2))) else (some false)) = some r:=h
 clear h
 by_cases c4 : a0 ≥ a1
 ·
  rw [if_pos c4] at H
  have c4b0 : decide (a1 ≤ a0) = true:=decide_eq_true c4
  clear c4
  obtain rfl:=sO H
  go_enter Try.func41,Try.ntmps41
  go_wp2
  go_ret
  exact ⟨by first|rfl|(simp;done)|(simp [*];done),by repeat (first|exact Drawn0.refl _|apply Drawn0.step)⟩
 ·
  rw [if_neg c4] at H
  have c4b0 : decide (a1 ≤ a0) = false:=decide_eq_false c4
  clear c4
  obtain rfl:=sO H
  go_enter Try.func41,Try.ntmps41
  go_wp2
  go_ret
  exact ⟨by first|rfl|(simp;done)|(simp [*];done),by repeat (first|exact Drawn0.refl _|apply Drawn0.step)⟩
def spec_l05New.f  : Option (Int × Int × (List (S70)) × (List (S77))):=some (0,1,(([] : List (S70))),(([] : List (S77))))
set_option maxHeartbeats 8000000 in
set_option maxRecDepth 100000 in
theorem spec_l05New.calls  (r1 : Int) (r2 : Int) (r3 : List (S70)) (r4 : List (S77)) (w : World) (h : spec_l05New.f  = some (r1,r2,r3,r4)) :
  Calls Try.prog 56 #[] w fun e w' => ∃ v2_ v3_ : Value,e = .returned (.agg #[.int .i64 r1,.int .i64 r2,v2_,v3_]) ∧ Kd.S k70 70 w' w.heap.size (fun _ => True) v2_ r3 ∧ Kd.R k77 77 w' w.heap.size (fun _ => True) v3_ r4 ∧ Below w.heap.size w w':=by
 have hu31:=Try.underlying31
 have HB:=qa3 (Below.refl w.heap.size w)
 have H : (some (0,1,(([] : List (S70))),(([] : List (S77))))) = some (r1,r2,r3,r4):=h
 clear h
 obtain ⟨y147,hy147⟩ : ∃ y_ : List (S70),y_ = (([] : List (S70))):=⟨_,rfl⟩
 replace H : (some (0,1,y147,(([] : List (S77))))) = some (r1,r2,r3,r4):=by first|(rw [hy147];with_reducible exact H)|(have H2_:=(Option.bind_some _ _).symm.trans H;rw [hy147];with_reducible exact H2_)|(have H2_:=(Option.bind_some _ _).symm.trans H;with_reducible exact H2_)|with_reducible exact H|(rw [hy147];exact H)|exact H
 have Ny147:=qa3 hy147
 clear hy147
 obtain ⟨y150,hy150⟩ : ∃ y_ : List (S77),y_ = (([] : List (S77))):=⟨_,rfl⟩
 replace H : (some (0,1,y147,y150)) = some (r1,r2,r3,r4):=by first|(rw [hy150];with_reducible exact H)|(have H2_:=(Option.bind_some _ _).symm.trans H;rw [hy150];with_reducible exact H2_)|(have H2_:=(Option.bind_some _ _).symm.trans H;with_reducible exact H2_)|with_reducible exact H|(rw [hy150];exact H)|exact H
 have Ny150:=qa3 hy150
 clear hy150
 simp only [Option.some.injEq,Prod.mk.injEq] at H
 obtain ⟨rfl,rfl,rfl,rfl⟩:=H
 go_enter Try.func56,Try.ntmps56
 go_wp2_with (first|((with_reducible refine gate_dst (N:=0) rfl ?_);refine box_event ?hg (N:=0) ?hd (cs:=#[.int .i64 0,.int .i64 0,.slice none 0 0,.slice none 0 0]) (t:=31) ?hr ?_;(case hd => rfl);(case hg => rfl);(case hr => first|(go_simp;done)|(go_simp;rfl));intro gb146 hg w1 hbox hb;have n0_:=qa3 (sN (by repeat (first|(with_reducible first|exact HB.out|apply below_alloc|apply pw_below_drewN|apply below_drew1)|exact HB.out)) hb);have n1_:=qa3 (hbox);have n2_:=qa3 ((by rw [hg];exact (below_size (by repeat (first|(with_reducible first|exact HB.out|apply below_alloc|apply pw_below_drewN|apply below_drew1)|exact HB.out))) : w.heap.size ≤ gb146));have n3_:=qa3 ((by rw [hg];exact (below_size (by repeat (first|(with_reducible first|exact HB.out|apply below_alloc|apply pw_below_drewN|apply below_drew1)|exact HB.out))) : w.heap.size ≤ gb146));clear HB;have HB:=n0_;have BK146:=n1_;have GW146:=n2_;have GE146:=n3_;clear n0_ n1_ n2_ n3_;clear hb hbox hg)|((with_reducible refine gate_dst (N:=1) rfl ?_);refine Kd.S_lit k70 _ 70 ?hg (N:=1) ?hd (xs:=([] : List (S70))) (inner:=[]) (ok:=fun _ => True) (okp:=fun _ => True) ?hr ?hp (fun _ hk => hk) trivial (Below.refl _ _) (Nat.le_refl _) (by simp) ?_;(case hd => rfl);(case hg => rfl);(case hr => first|(go_simp;done)|(go_simp;rfl));(case hp => exact (Reps.none _ _));intro v148 w2 ho3 hb hg_ hnew_;clear hg_ hnew_;(first|rw [← Ny147.out] at ho3|(simp only [Int.reduceToNat] at ho3;rw [← Ny147.out] at ho3));have n0_:=qa3 (Kd.S_lower ho3 (below_size (by repeat (first|(with_reducible first|exact HB.out|apply below_alloc|apply pw_below_drewN|apply below_drew1|refine below_set ?_ GE146.out)|exact HB.out))));have n1_:=qa3 (blk_below (g:=gb146) (o:=.cells #[.int .i64 0,.int .i64 0,.slice none 0 0,.slice none 0 0] 31 (0,0)) (by (with_reducible repeat (first|apply blk_drewN|apply blk_drew|apply blk_alloc));exact BK146.out) hb);have n2_:=qa3 (sN (by repeat (first|(with_reducible first|exact HB.out|apply below_alloc|apply pw_below_drewN|apply below_drew1|refine below_set ?_ GE146.out)|exact HB.out)) hb);clear BK146;clear HB;have HO149:=n0_;have BK146:=n1_;have HB:=n2_;clear n0_ n1_ n2_;clear hb ho3)|((with_reducible refine gate_dst (N:=2) rfl ?_);refine Kd.R_lit k77 _ 77 ?hg (N:=2) ?hd (xs:=([] : List (S77))) (inner:=[]) (ok:=fun _ => True) (okp:=fun _ => True) ?hr ?hp (fun _ hk => hk) trivial (Below.refl _ _) (Nat.le_refl _) (by simp) ?_;(case hd => rfl);(case hg => rfl);(case hr => first|(go_simp;done)|(go_simp;rfl));(case hp => exact (Reps.none _ _));intro v151 w4 ho5 hb hg_ hnew_;clear hg_ hnew_;(first|rw [← Ny150.out] at ho5|(simp only [Int.reduceToNat] at ho5;rw [← Ny150.out] at ho5));have n0_:=qa3 (Kd.S_below (by (with_reducible repeat (first|apply Kd.S_alloc|apply Kd.S_drewN|apply Kd.S_drew));exact HO149.out) hb);have n1_:=qa3 (Kd.R_lower ho5 (below_size (by repeat (first|(with_reducible first|exact HB.out|apply below_alloc|apply pw_below_drewN|apply below_drew1|refine below_set ?_ GE146.out)|exact HB.out))));have n2_:=qa3 (blk_below (g:=gb146) (o:=.cells #[.int .i64 0,.int .i64 0,.slice none 0 0,.slice none 0 0] 31 (0,0)) (by (with_reducible repeat (first|apply blk_drewN|apply blk_drew|apply blk_alloc));exact BK146.out) hb);have n3_:=qa3 (sN (by repeat (first|(with_reducible first|exact HB.out|apply below_alloc|apply pw_below_drewN|apply below_drew1|refine below_set ?_ GE146.out)|exact HB.out)) hb);clear HO149;clear BK146;clear HB;have HO149:=n0_;have HO152:=n1_;have BK146:=n2_;have HB:=n3_;clear n0_ n1_ n2_ n3_;clear hb ho5;obtain ⟨Ao6,co6,eo6⟩:=Kd.R_slice HO152.out;subst eo6;obtain ⟨Ao7,co7,eo7⟩:=Kd.S_slice HO149.out;subst eo7;have hcz8_0 : w4.cell? ⟨gb146,0,none⟩ = some (.int .i64 0):=(blk_cell BK146.out 0).trans rfl;have hcz8_1 : w4.cell? ⟨gb146,1,none⟩ = some (.int .i64 0):=(blk_cell BK146.out 1).trans rfl;have hcz8_2 : w4.cell? ⟨gb146,2,none⟩ = some (.slice none 0 0):=(blk_cell BK146.out 2).trans rfl;have hcz8_3 : w4.cell? ⟨gb146,3,none⟩ = some (.slice none 0 0):=(blk_cell BK146.out 3).trans rfl;have hfz8_0:=sJ BK146.out 0;have hfz8_1:=sJ BK146.out 1;have hfz8_2:=sJ BK146.out 2;have hfz8_3:=sJ BK146.out 3))
 refine bodyPost_ret (results_cell_row rfl _ _ gb146 31 #[.int .i64 0,.int .i64 1,.slice Ao7 y147.length co7,.slice Ao6 y150.length co6] (0,0) _ rfl (by (with_reducible repeat (first|apply blk_drewN|apply blk_drew|apply blk_alloc));refine blk_put (cs:=#[.int .i64 0,.int .i64 1,.slice Ao7 y147.length co7,.slice none 0 0]) ?_ 3 _ rfl;(with_reducible repeat (first|apply blk_drewN|apply blk_drew|apply blk_alloc));refine blk_put (cs:=#[.int .i64 0,.int .i64 1,.slice none 0 0,.slice none 0 0]) ?_ 2 _ rfl;(with_reducible repeat (first|apply blk_drewN|apply blk_drew|apply blk_alloc));refine blk_put (cs:=#[.int .i64 0,.int .i64 0,.slice none 0 0,.slice none 0 0]) ?_ 1 _ rfl;(with_reducible repeat (first|apply blk_drewN|apply blk_drew|apply blk_alloc));refine blk_put (cs:=#[.int .i64 0,.int .i64 0,.slice none 0 0,.slice none 0 0]) ?_ 0 _ rfl;(with_reducible repeat (first|apply blk_drewN|apply blk_drew|apply blk_alloc));exact BK146.out) Try.underlying31 rfl (by kernel_rfl)) rfl ?_
 exact ⟨_,_,by first|rfl|(simp [errW_none,errW_some] <;> rfl)|(simp [*,errW_none,errW_some] <;> rfl),by (with_reducible repeat (first|apply Kd.S_alloc|apply Kd.S_drewN|apply Kd.S_drew));exact Kd.S_mono (Kd.S_far (p:=⟨gb146,3,none⟩) (Kd.S_far (p:=⟨gb146,2,none⟩) (Kd.S_far (p:=⟨gb146,1,none⟩) (Kd.S_far (p:=⟨gb146,0,none⟩) (Kd.S_types HO149.out BK146.out (by decide)) (fun _ hk => hk.2) (.int .i64 0)) (fun _ hk => hk.2) (.int .i64 1)) (fun _ hk => hk.2) (.slice Ao7 y147.length co7)) (fun _ hk => hk.2) (.slice Ao6 y150.length co6)) (fun _ hk => trivial),by (with_reducible repeat (first|apply Kd.R_alloc|apply Kd.R_drewN|apply Kd.R_drew));exact Kd.R_mono (Kd.R_far (p:=⟨gb146,3,none⟩) (Kd.R_far (p:=⟨gb146,2,none⟩) (Kd.R_far (p:=⟨gb146,1,none⟩) (Kd.R_far (p:=⟨gb146,0,none⟩) (Kd.R_types HO152.out BK146.out (by decide)) (fun _ hk => hk.2) (.int .i64 0)) (fun _ hk => hk.2) (.int .i64 1)) (fun _ hk => hk.2) (.slice Ao7 y147.length co7)) (fun _ hk => hk.2) (.slice Ao6 y150.length co6)) (fun _ hk => trivial),by repeat (first|(with_reducible first|exact HB.out|apply below_alloc|apply pw_below_drewN|apply below_drew1|refine below_set ?_ GE146.out)|exact HB.out)⟩
end Go.Proofs.Ytjkanhjapddhnaa.PFnExactRunRequests
