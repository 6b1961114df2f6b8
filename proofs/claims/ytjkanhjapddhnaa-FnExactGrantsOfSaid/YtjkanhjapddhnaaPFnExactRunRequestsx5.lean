-- squeezed
-- aliased
import Derived.Test.YtjkanhjapddhnaaPFnExactRunRequestsx0
import Derived.Test.YtjkanhjapddhnaaPFnExactRunRequestsx3
namespace Go.Proofs.Ytjkanhjapddhnaa.PFnExactRunRequests
open Go.RowKit Go.Proofs.YtjkanhjapddhnaaV.PrintWords Go.Proofs.YtjkanhjapddhnaaV.PrintLast Go.Proofs.YtjkanhjapddhnaaV.PrintMore
attribute [local go_sem] max2_int min2_int max_two min_two max_three min_three max_four min_four u8_wm u32_wm   -- for this text's walks alone
set_option linter.unusedVariables false
set_option linter.unusedSimpArgs false
theorem qa5 : type_of% @below_alloc:=@below_alloc
theorem qb5 : type_of% @pw_below_drewN:=@pw_below_drewN
theorem qc5 : type_of% @below_drew1:=@below_drew1
theorem qd5 : type_of% @Aside0.mk:=@Aside0.mk
def spec_AddTime.f (a0 : Int) (a1 : Int) : Option (Int):=if (mx a0 0) > (wrap64 (9223372036854775807 - (mx a1 0))) then (some 9223372036854775807) else (some (wrap64 ((mx a0 0) + (mx a1 0))))
set_option maxHeartbeats 8000000 in
set_option maxRecDepth 100000 in
theorem spec_AddTime.calls (a0 : Int) (a1 : Int) (r : Int) (w : World) (h : spec_AddTime.f a0 a1 = some r) :
  Calls Try.prog 113 #[.int .i64 a0,.int .i64 a1] w fun e w' => e = .returned (.int .i64 r) ∧ Below w.heap.size w w':=by
 have HB:=qd5 (Below.refl w.heap.size w)
 have H : (if (mx a0 0) > (wrap64 (9223372036854775807 - (mx a1 0))) then (some 9223372036854775807) else (some (wrap64 ((mx a0 0) + (mx a1 0))))) = some r:=h
 clear h
 obtain ⟨ji3,hji3⟩ : ∃ j_ : Int,(mx a0 0) = j_:=⟨_,rfl⟩
 replace H : (if (ji3) > (wrap64 (9223372036854775807 - (mx a1 0))) then (some 9223372036854775807) else (some (wrap64 ((ji3) + (mx a1 0))))) = some r:=by first|(rw [hji3] at H;exact H)|(simp only [hji3] at H ⊢;exact H)
 (try (have hji3l : 0 ≤ ji3:=by (rw [← hji3];unfold mx;(repeat' split) <;> omega)))
 (try (have hji3m : 0 ≤ ji3:=by omega))
 have hji3_ : (if a0 < 0 then 0 else a0) = ji3:=hji3
 obtain ⟨ji4,hji4⟩ : ∃ j_ : Int,(mx a1 0) = j_:=⟨_,rfl⟩
 replace H : (if (ji3) > (wrap64 (9223372036854775807 - (ji4))) then (some 9223372036854775807) else (some (wrap64 ((ji3) + (ji4))))) = some r:=by first|(rw [hji4] at H;exact H)|(simp only [hji4] at H ⊢;exact H)
 (try (have hji4l : 0 ≤ ji4:=by (rw [← hji4];unfold mx;(repeat' split) <;> omega)))
 (try (have hji4m : 0 ≤ ji4:=by omega))
 have hji4_ : (if a1 < 0 then 0 else a1) = ji4:=hji4
 by_cases c5 : (ji3) > (wrap64 (9223372036854775807 - (ji4)))
 ·
  rw [if_pos c5] at H
  have c5b0 : decide ((wrap64 (9223372036854775807 - (ji4))) < (ji3)) = true:=decide_eq_true c5
  clear c5
  obtain rfl:=sO H
  go_enter Try.func113,Try.ntmps113
  go_wp2
  go_ret
  exact ⟨by first|rfl|(simp [errW_none,errW_some] <;> rfl)|(simp only [← hji3,← hji4];first|rfl|(simp [errW_none,errW_some] <;> rfl))|(simp [*,errW_none,errW_some] <;> rfl),by repeat (first|(with_reducible first|exact HB.out|apply qa5|apply qb5|apply qc5)|exact HB.out)⟩
 ·
  rw [if_neg c5] at H
  have c5b0 : decide ((wrap64 (9223372036854775807 - (ji4))) < (ji3)) = false:=decide_eq_false c5
  clear c5
  obtain rfl:=sO H
  go_enter Try.func113,Try.ntmps113
  go_wp2
  go_ret
  exact ⟨by first|rfl|(simp [errW_none,errW_some] <;> rfl)|(simp only [← hji3,← hji4];first|rfl|(simp [errW_none,errW_some] <;> rfl))|(simp [*,errW_none,errW_some] <;> rfl),by repeat (first|(with_reducible first|exact HB.out|apply qa5|apply qb5|apply qc5)|exact HB.out)⟩
def spec_l05Find.l0 : Nat → ByteArray → Int → Int → Int → List (S70) → List (S77) → Option (Int)
 | 0,_,_,_,_,_,_ => none
 | k + 1,x1,x5,x191000,x191001,x191002,x191003 => if x5 < (x191002.length : Int) then (if 0 ≤ x5 then (if ((rd_T70 x191002 x5).f0).toList = x1.toList then (some x5) else (spec_l05Find.l0 k x1 (wrap64 (x5 + 1)) x191000 x191001 x191002 x191003)) else (none)) else (some (-1))
def spec_l05Find.f (k : Nat) (a0_0 : Int) (a0_1 : Int) (l0_2 : List (S70)) (l0_3 : List (S77)) (a1 : ByteArray) : Option (Int):=spec_l05Find.l0 k a1 0 a0_0 a0_1 l0_2 l0_3
set_option maxHeartbeats 8000000 in
set_option maxRecDepth 100000 in
theorem spec_l05Find.calls (k : Nat) (a0_0 : Int) (a0_1 : Int) (A0_2 : Option Addr) (c0_2 : Nat) (l0_2 : List (S70)) (A0_3 : Option Addr) (c0_3 : Nat) (l0_3 : List (S77)) (a1 : ByteArray) (r : Int) (w : World) (hr0_2 : Kd.C k70 w A0_2 l0_2.length l0_2) (hc0_2 : l0_2.length ≤ c0_2) (hr0_3 : Kd.C k77 w A0_3 l0_3.length l0_3) (hc0_3 : l0_3.length ≤ c0_3) (h : spec_l05Find.f k a0_0 a0_1 l0_2 l0_3 a1 = some r) :
  Calls Try.prog 110 #[.agg #[.int .i64 a0_0,.int .i64 a0_1,.slice A0_2 l0_2.length c0_2,.slice A0_3 l0_3.length c0_3],.string a1] w fun e w' => e = .returned (.int .i64 r) ∧ Below w.heap.size w w':=by
 have hu31:=Try.underlying31
 have HR0_2:=qd5 hr0_2
 have HC0_2:=qd5 hc0_2
 clear hr0_2 hc0_2
 have HR0_3:=qd5 hr0_3
 have HC0_3:=qd5 hc0_3
 clear hr0_3 hc0_3
 have HB:=qd5 (Below.refl w.heap.size w)
 have H : (spec_l05Find.l0 k a1 0 a0_0 a0_1 l0_2 l0_3) = some r:=h
 clear h
 have H':=qd5 H
 clear H
 go_enter Try.func110,Try.ntmps110
 go_wp2_with (first|((with_reducible refine gate_dst (N:=2) rfl ?_);refine box_event ?hg (N:=2) ?hd (cs:=#[.int .i64 a0_0,.int .i64 a0_1,.slice A0_2 l0_2.length c0_2,.slice A0_3 l0_3.length c0_3]) (t:=31) ?hr ?_;(case hd => rfl);(case hg => rfl);(case hr => first|(go_simp;done)|(go_simp;rfl));intro gb190 hg w3 hbox hb;have n0_:=qd5 (sN (by repeat (first|(with_reducible first|exact HB.out|apply qa5|apply qb5|apply qc5)|exact HB.out)) hb);have n1_:=qd5 (hbox);have n2_:=qd5 ((by rw [hg];exact (below_size (by repeat (first|(with_reducible first|exact HB.out|apply qa5|apply qb5|apply qc5)|exact HB.out))) : w.heap.size ≤ gb190));have n3_:=qd5 ((by rw [hg];exact (below_size (by repeat (first|(with_reducible first|exact HB.out|apply qa5|apply qb5|apply qc5)|exact HB.out))) : w.heap.size ≤ gb190));clear HB;have HB:=n0_;have BK190:=n1_;have GW190:=n2_;have GE190:=n3_;clear n0_ n1_ n2_ n3_;clear hb hbox hg))
 go_loopg [5] k (fun kq v5 w' => ∃ (x5_1 : Int),v5 = .int .i64 x5_1 ∧ Aside0 (spec_l05Find.l0 kq a1 x5_1 a0_0 a0_1 l0_2 l0_3 = some r) ∧ Aside0 (kq ≤ k) ∧ Aside0 (w'.heap[gb190]? = some (.cells #[.int .i64 a0_0,.int .i64 a0_1,(.slice A0_2 l0_2.length c0_2),(.slice A0_3 l0_3.length c0_3)] 31 (0,0))) ∧ Aside0 (Below w.heap.size w w'))
 case atStart => exact ⟨(0),(by first|rfl|(simp;done)|(simp [*];done)),H',⟨Nat.le_refl _⟩,⟨by (with_reducible repeat (first|apply blk_drewN|apply blk_drew|apply blk_alloc));exact BK190.out⟩,⟨by repeat (first|(with_reducible first|exact HB.out|apply qa5|apply qb5|apply qc5|refine below_set ?_ GE190.out)|exact HB.out)⟩⟩
 case round =>
  clear H'
  try clear c1
  try clear p2
  obtain ⟨x5_1,rfl,HA,HK1,BK190,HB⟩:=hrel
  cases gk with
  | zero => exact absurd HA.out (by simp [spec_l05Find.l0])
  | succ k1 =>
   have H:=HA.out
   clear HA
   simp only [spec_l05Find.l0] at H
   by_cases c4 : x5_1 < (l0_2.length : Int)
   ·
    rw [if_pos c4] at H
    have c4b0 : decide (x5_1 < (l0_2.length : Int)) = true:=decide_eq_true c4
    clear c4
    by_cases c5 : 0 ≤ x5_1
    ·
     rw [if_pos c5] at H
     have c5b0 : decide (0 ≤ x5_1) = true:=decide_eq_true c5
     clear c5
     by_cases c6 : ((rd_T70 l0_2 x5_1).f0).toList = a1.toList
     ·
      rw [if_pos c6] at H
      have c6b0 : (((rd_T70 l0_2 x5_1).f0).toList == a1.toList) = true:=beq_iff_eq.mpr c6
      have c6b1 : (((rd_T70 l0_2 x5_1).f0).toList != a1.toList) = false:=bne_eq_false_iff_eq.mpr c6
      clear c6
      obtain rfl:=sO H
      have hcz7_0 : wr.cell? ⟨gb190,0,none⟩ = some (.int .i64 a0_0):=(blk_cell BK190.out 0).trans rfl
      have hcz7_1 : wr.cell? ⟨gb190,1,none⟩ = some (.int .i64 a0_1):=(blk_cell BK190.out 1).trans rfl
      have hcz7_2 : wr.cell? ⟨gb190,2,none⟩ = some (.slice A0_2 l0_2.length c0_2):=(blk_cell BK190.out 2).trans rfl
      have hcz7_3 : wr.cell? ⟨gb190,3,none⟩ = some (.slice A0_3 l0_3.length c0_3):=(blk_cell BK190.out 3).trans rfl
      have hfz7_0:=sJ BK190.out 0
      have hfz7_1:=sJ BK190.out 1
      have hfz7_2:=sJ BK190.out 2
      have hfz7_3:=sJ BK190.out 3
      have p191 : 0 ≤ (x5_1 : Int):=sM (by first|(with_reducible assumption)|assumption)
      have q191 : x5_1 < (l0_2.length : Int):=sM (by first|(with_reducible assumption)|assumption)
      obtain ⟨ad191,A191_4,c191_4,e191,hx191_0,hx191_1,hx191_2,hx191_3,hx191_4,hl191_4,hi191_4⟩:=at_T70 HR0_2.out x5_1 p191 q191
      cases e191
      replace hx191_0:=(HB.out.cell (sD w _ hx191_0)).trans hx191_0
      replace hx191_1:=(HB.out.cell (sD w _ hx191_1)).trans hx191_1
      replace hx191_2:=(HB.out.cell (sD w _ hx191_2)).trans hx191_2
      replace hx191_3:=(HB.out.cell (sD w _ hx191_3)).trans hx191_3
      replace hx191_4:=(HB.out.cell (sD w _ hx191_4)).trans hx191_4
      have HR191_4:=qd5 hi191_4
      have HC191_4:=qd5 hl191_4
      clear hi191_4 hl191_4
      replace p191:=eq_true p191
      replace q191:=eq_true q191
      go_wp2
      go_ret
      exact ⟨by first|rfl|(simp [errW_none,errW_some] <;> rfl)|(simp [*,errW_none,errW_some] <;> rfl),by repeat (first|(with_reducible first|exact HB.out|apply qa5|apply qb5|apply qc5|refine below_set ?_ GE190.out)|exact HB.out)⟩
     ·
      rw [if_neg c6] at H
      have c6b0 : (((rd_T70 l0_2 x5_1).f0).toList == a1.toList) = false:=beq_eq_false_iff_ne.mpr c6
      have c6b1 : (((rd_T70 l0_2 x5_1).f0).toList != a1.toList) = true:=bne_iff_ne.mpr c6
      have H':=qd5 H
      clear H
      have hcz8_0 : wr.cell? ⟨gb190,0,none⟩ = some (.int .i64 a0_0):=(blk_cell BK190.out 0).trans rfl
      have hcz8_1 : wr.cell? ⟨gb190,1,none⟩ = some (.int .i64 a0_1):=(blk_cell BK190.out 1).trans rfl
      have hcz8_2 : wr.cell? ⟨gb190,2,none⟩ = some (.slice A0_2 l0_2.length c0_2):=(blk_cell BK190.out 2).trans rfl
      have hcz8_3 : wr.cell? ⟨gb190,3,none⟩ = some (.slice A0_3 l0_3.length c0_3):=(blk_cell BK190.out 3).trans rfl
      have hfz8_0:=sJ BK190.out 0
      have hfz8_1:=sJ BK190.out 1
      have hfz8_2:=sJ BK190.out 2
      have hfz8_3:=sJ BK190.out 3
      have p191 : 0 ≤ (x5_1 : Int):=sM (by first|(with_reducible assumption)|assumption)
      have q191 : x5_1 < (l0_2.length : Int):=sM (by first|(with_reducible assumption)|assumption)
      obtain ⟨ad191,A191_4,c191_4,e191,hx191_0,hx191_1,hx191_2,hx191_3,hx191_4,hl191_4,hi191_4⟩:=at_T70 HR0_2.out x5_1 p191 q191
      cases e191
      replace hx191_0:=(HB.out.cell (sD w _ hx191_0)).trans hx191_0
      replace hx191_1:=(HB.out.cell (sD w _ hx191_1)).trans hx191_1
      replace hx191_2:=(HB.out.cell (sD w _ hx191_2)).trans hx191_2
      replace hx191_3:=(HB.out.cell (sD w _ hx191_3)).trans hx191_3
      replace hx191_4:=(HB.out.cell (sD w _ hx191_4)).trans hx191_4
      have HR191_4:=qd5 hi191_4
      have HC191_4:=qd5 hl191_4
      clear hi191_4 hl191_4
      replace p191:=eq_true p191
      replace q191:=eq_true q191
      go_wp2
      go_roundg k1
      case measure => have:=HK1.out;omega
      case rel => exact ⟨(wrap64 (x5_1 + 1)),(by first|rfl|(simp;done)|(simp [*];done)),H',⟨by have:=HK1.out;omega⟩,⟨by (with_reducible repeat (first|apply blk_drewN|apply blk_drew|apply blk_alloc));exact BK190.out⟩,⟨by repeat (first|(with_reducible first|exact HB.out|apply qa5|apply qb5|apply qc5|refine below_set ?_ GE190.out)|exact HB.out)⟩⟩
    ·
     rw [if_neg c5] at H
     exact absurd H (by simp)
   ·
    rw [if_neg c4] at H
    have c4b0 : decide (x5_1 < (l0_2.length : Int)) = false:=decide_eq_false c4
    clear c4
    obtain rfl:=sO H
    have hcz9_0 : wr.cell? ⟨gb190,0,none⟩ = some (.int .i64 a0_0):=(blk_cell BK190.out 0).trans rfl
    have hcz9_1 : wr.cell? ⟨gb190,1,none⟩ = some (.int .i64 a0_1):=(blk_cell BK190.out 1).trans rfl
    have hcz9_2 : wr.cell? ⟨gb190,2,none⟩ = some (.slice A0_2 l0_2.length c0_2):=(blk_cell BK190.out 2).trans rfl
    have hcz9_3 : wr.cell? ⟨gb190,3,none⟩ = some (.slice A0_3 l0_3.length c0_3):=(blk_cell BK190.out 3).trans rfl
    have hfz9_0:=sJ BK190.out 0
    have hfz9_1:=sJ BK190.out 1
    have hfz9_2:=sJ BK190.out 2
    have hfz9_3:=sJ BK190.out 3
    go_wp2
    go_ret
    exact ⟨by first|rfl|(simp [errW_none,errW_some] <;> rfl)|(simp [*,errW_none,errW_some] <;> rfl),by repeat (first|(with_reducible first|exact HB.out|apply qa5|apply qb5|apply qc5|refine below_set ?_ GE190.out)|exact HB.out)⟩
def spec_l05Tell.f (a0 : Int) (a1_0 : ByteArray) (a1_1 : Int) (a1_2 : Int) (a1_3 : Int) (l1_4 : List (S73)) : Option (Int × Int × Int × Int):=some (a0,a1_1,a1_2,a1_3)
set_option maxHeartbeats 8000000 in
set_option maxRecDepth 100000 in
theorem spec_l05Tell.calls (a0 : Int) (a1_0 : ByteArray) (a1_1 : Int) (a1_2 : Int) (a1_3 : Int) (A1_4 : Option Addr) (c1_4 : Nat) (l1_4 : List (S73)) (r1 : Int) (r2 : Int) (r3 : Int) (r4 : Int) (w : World) (hr1_4 : Kd.C k73 w A1_4 l1_4.length l1_4) (hc1_4 : l1_4.length ≤ c1_4) (h : spec_l05Tell.f a0 a1_0 a1_1 a1_2 a1_3 l1_4 = some (r1,r2,r3,r4)) :
  Calls Try.prog 111 #[.int .i64 a0,.agg #[.string a1_0,.int .i64 a1_1,.int .i64 a1_2,.int .i64 a1_3,.slice A1_4 l1_4.length c1_4]] w fun e w' => e = .returned (.agg #[.int .i64 r1,.int .i64 r2,.int .i64 r3,.int .i64 r4]) ∧ Below w.heap.size w w':=by
 have hu70:=Try.underlying70
 have hu75:=Try.underlying75
 have HR1_4:=qd5 hr1_4
 have HC1_4:=qd5 hc1_4
 clear hr1_4 hc1_4
 have HB:=qd5 (Below.refl w.heap.size w)
 have H : (some (a0,a1_1,a1_2,a1_3)) = some (r1,r2,r3,r4):=h
 clear h
 simp only [Option.some.injEq,Prod.mk.injEq] at H
 obtain ⟨rfl,rfl,rfl,rfl⟩:=H
 go_enter Try.func111,Try.ntmps111
 go_wp2_with (first|((with_reducible refine gate_dst (N:=3) rfl ?_);refine box_event ?hg (N:=3) ?hd (cs:=#[.string a1_0,.int .i64 a1_1,.int .i64 a1_2,.int .i64 a1_3,.slice A1_4 l1_4.length c1_4]) (t:=70) ?hr ?_;(case hd => rfl);(case hg => rfl);(case hr => first|(go_simp;done)|(go_simp;rfl));intro gb192 hg w3 hbox hb;have n0_:=qd5 (sN (by repeat (first|(with_reducible first|exact HB.out|apply qa5|apply qb5|apply qc5)|exact HB.out)) hb);have n1_:=qd5 (hbox);have n2_:=qd5 ((by rw [hg];exact (below_size (by repeat (first|(with_reducible first|exact HB.out|apply qa5|apply qb5|apply qc5)|exact HB.out))) : w.heap.size ≤ gb192));have n3_:=qd5 ((by rw [hg];exact (below_size (by repeat (first|(with_reducible first|exact HB.out|apply qa5|apply qb5|apply qc5)|exact HB.out))) : w.heap.size ≤ gb192));clear HB;have HB:=n0_;have BK192:=n1_;have GW192:=n2_;have GE192:=n3_;clear n0_ n1_ n2_ n3_;clear hb hbox hg)|((with_reducible refine gate_dst (N:=4) rfl ?_);refine box_event ?hg (N:=4) ?hd (cs:=#[.int .i64 0,.int .i64 0,.int .i64 0,.int .i64 0]) (t:=75) ?hr ?_;(case hd => rfl);(case hg => rfl);(case hr => first|(go_simp;done)|(go_simp;rfl));intro gb193 hg w4 hbox hb;have n0_:=qd5 (blk_below (g:=gb192) (o:=.cells #[.string a1_0,.int .i64 a1_1,.int .i64 a1_2,.int .i64 a1_3,.slice A1_4 l1_4.length c1_4] 70 (0,0)) (by (with_reducible repeat (first|apply blk_drewN|apply blk_drew|apply blk_alloc));exact BK192.out) hb);have n1_:=qd5 (sN (by repeat (first|(with_reducible first|exact HB.out|apply qa5|apply qb5|apply qc5|refine below_set ?_ GE192.out)|exact HB.out)) hb);have n2_:=qd5 (hbox);have n3_:=qd5 ((by rw [hg];exact (below_size (by repeat (first|(with_reducible first|exact HB.out|apply qa5|apply qb5|apply qc5|refine below_set ?_ GE192.out)|exact HB.out))) : w.heap.size ≤ gb193));have n4_:=qd5 ((by rw [hg];exact (below_size (by repeat (first|(with_reducible first|exact HB.out|apply qa5|apply qb5|apply qc5|refine below_set ?_ GE192.out)|exact HB.out))) : w.heap.size ≤ gb193));have n5_:=qd5 ((by rw [hg];exact Nat.ne_of_lt (blk_lt (g:=gb192) (o:=.cells #[.string a1_0,.int .i64 a1_1,.int .i64 a1_2,.int .i64 a1_3,.slice A1_4 l1_4.length c1_4] 70 (0,0)) (by (with_reducible repeat (first|apply blk_drewN|apply blk_drew|apply blk_alloc));exact BK192.out)) : gb192 ≠ gb193));have n6_:=qd5 ((by rw [hg];exact Nat.ne_of_gt (blk_lt (g:=gb192) (o:=.cells #[.string a1_0,.int .i64 a1_1,.int .i64 a1_2,.int .i64 a1_3,.slice A1_4 l1_4.length c1_4] 70 (0,0)) (by (with_reducible repeat (first|apply blk_drewN|apply blk_drew|apply blk_alloc));exact BK192.out)) : gb193 ≠ gb192));clear BK192;clear HB;have BK192:=n0_;have HB:=n1_;have BK193:=n2_;have GW193:=n3_;have GE193:=n4_;have NB192_193:=n5_;have NB193_192:=n6_;clear n0_ n1_ n2_ n3_ n4_ n5_ n6_;clear hb hbox hg;have hnb5:=NB192_193.out;have hnc5:=NB193_192.out;have hcz6_0 : w4.cell? ⟨gb192,0,none⟩ = some (.string a1_0):=(blk_cell BK192.out 0).trans rfl;have hcz6_1 : w4.cell? ⟨gb192,1,none⟩ = some (.int .i64 a1_1):=(blk_cell BK192.out 1).trans rfl;have hcz6_2 : w4.cell? ⟨gb192,2,none⟩ = some (.int .i64 a1_2):=(blk_cell BK192.out 2).trans rfl;have hcz6_3 : w4.cell? ⟨gb192,3,none⟩ = some (.int .i64 a1_3):=(blk_cell BK192.out 3).trans rfl;have hcz6_4 : w4.cell? ⟨gb192,4,none⟩ = some (.slice A1_4 l1_4.length c1_4):=(blk_cell BK192.out 4).trans rfl;have hfz6_0:=sJ BK192.out 0;have hfz6_1:=sJ BK192.out 1;have hfz6_2:=sJ BK192.out 2;have hfz6_3:=sJ BK192.out 3;have hfz6_4:=sJ BK192.out 4;have hcz7_0 : w4.cell? ⟨gb193,0,none⟩ = some (.int .i64 0):=(blk_cell BK193.out 0).trans rfl;have hcz7_1 : w4.cell? ⟨gb193,1,none⟩ = some (.int .i64 0):=(blk_cell BK193.out 1).trans rfl;have hcz7_2 : w4.cell? ⟨gb193,2,none⟩ = some (.int .i64 0):=(blk_cell BK193.out 2).trans rfl;have hcz7_3 : w4.cell? ⟨gb193,3,none⟩ = some (.int .i64 0):=(blk_cell BK193.out 3).trans rfl;have hfz7_0:=sJ BK193.out 0;have hfz7_1:=sJ BK193.out 1;have hfz7_2:=sJ BK193.out 2;have hfz7_3:=sJ BK193.out 3))
 refine bodyPost_ret (results_cell_row rfl _ _ gb193 75 #[.int .i64 a0,.int .i64 a1_1,.int .i64 a1_2,.int .i64 a1_3] (0,0) _ rfl (by (with_reducible repeat (first|apply blk_drewN|apply blk_drew|apply blk_alloc));refine blk_put (cs:=#[.int .i64 a0,.int .i64 a1_1,.int .i64 a1_2,.int .i64 0]) ?_ 3 _ rfl;(with_reducible repeat (first|apply blk_drewN|apply blk_drew|apply blk_alloc));refine blk_put (cs:=#[.int .i64 a0,.int .i64 a1_1,.int .i64 0,.int .i64 0]) ?_ 2 _ rfl;(with_reducible repeat (first|apply blk_drewN|apply blk_drew|apply blk_alloc));refine blk_put (cs:=#[.int .i64 a0,.int .i64 0,.int .i64 0,.int .i64 0]) ?_ 1 _ rfl;(with_reducible repeat (first|apply blk_drewN|apply blk_drew|apply blk_alloc));refine blk_put (cs:=#[.int .i64 0,.int .i64 0,.int .i64 0,.int .i64 0]) ?_ 0 _ rfl;(with_reducible repeat (first|apply blk_drewN|apply blk_drew|apply blk_alloc));exact BK193.out) Try.underlying75 rfl (by kernel_rfl)) rfl ?_
 exact ⟨by first|rfl|(simp [errW_none,errW_some] <;> rfl)|(simp [*,errW_none,errW_some] <;> rfl),by repeat (first|(with_reducible first|exact HB.out|apply qa5|apply qb5|apply qc5|refine below_set ?_ GE192.out|refine below_set ?_ GE193.out)|exact HB.out)⟩
def spec_l05Waits.l0 : Nat → Int → Int → ByteArray → Int → Int → Int → List (S73) → Option (Int)
 | 0,_,_,_,_,_,_,_ => none
 | k + 1,x1,x5,x195000,x195001,x195002,x195003,x195004 => if x5 < (x195004.length : Int) then (if 0 ≤ x5 then (if ((rd_T73 x195004 x5).f0) = x1 then (some x5) else (spec_l05Waits.l0 k x1 (wrap64 (x5 + 1)) x195000 x195001 x195002 x195003 x195004)) else (none)) else (some (-1))
def spec_l05Waits.f (k : Nat) (a0_0 : ByteArray) (a0_1 : Int) (a0_2 : Int) (a0_3 : Int) (l0_4 : List (S73)) (a1 : Int) : Option (Int):=spec_l05Waits.l0 k a1 0 a0_0 a0_1 a0_2 a0_3 l0_4
set_option maxHeartbeats 8000000 in
set_option maxRecDepth 100000 in
theorem spec_l05Waits.calls (k : Nat) (a0_0 : ByteArray) (a0_1 : Int) (a0_2 : Int) (a0_3 : Int) (A0_4 : Option Addr) (c0_4 : Nat) (l0_4 : List (S73)) (a1 : Int) (r : Int) (w : World) (hr0_4 : Kd.C k73 w A0_4 l0_4.length l0_4) (hc0_4 : l0_4.length ≤ c0_4) (h : spec_l05Waits.f k a0_0 a0_1 a0_2 a0_3 l0_4 a1 = some r) :
  Calls Try.prog 112 #[.agg #[.string a0_0,.int .i64 a0_1,.int .i64 a0_2,.int .i64 a0_3,.slice A0_4 l0_4.length c0_4],.int .i64 a1] w fun e w' => e = .returned (.int .i64 r) ∧ Below w.heap.size w w':=by
 have hu70:=Try.underlying70
 have HR0_4:=qd5 hr0_4
 have HC0_4:=qd5 hc0_4
 clear hr0_4 hc0_4
 have HB:=qd5 (Below.refl w.heap.size w)
 have H : (spec_l05Waits.l0 k a1 0 a0_0 a0_1 a0_2 a0_3 l0_4) = some r:=h
 clear h
 have H':=qd5 H
 clear H
 go_enter Try.func112,Try.ntmps112
 go_wp2_with (first|((with_reducible refine gate_dst (N:=2) rfl ?_);refine box_event ?hg (N:=2) ?hd (cs:=#[.string a0_0,.int .i64 a0_1,.int .i64 a0_2,.int .i64 a0_3,.slice A0_4 l0_4.length c0_4]) (t:=70) ?hr ?_;(case hd => rfl);(case hg => rfl);(case hr => first|(go_simp;done)|(go_simp;rfl));intro gb194 hg w3 hbox hb;have n0_:=qd5 (sN (by repeat (first|(with_reducible first|exact HB.out|apply qa5|apply qb5|apply qc5)|exact HB.out)) hb);have n1_:=qd5 (hbox);have n2_:=qd5 ((by rw [hg];exact (below_size (by repeat (first|(with_reducible first|exact HB.out|apply qa5|apply qb5|apply qc5)|exact HB.out))) : w.heap.size ≤ gb194));have n3_:=qd5 ((by rw [hg];exact (below_size (by repeat (first|(with_reducible first|exact HB.out|apply qa5|apply qb5|apply qc5)|exact HB.out))) : w.heap.size ≤ gb194));clear HB;have HB:=n0_;have BK194:=n1_;have GW194:=n2_;have GE194:=n3_;clear n0_ n1_ n2_ n3_;clear hb hbox hg))
 go_loopg [5] k (fun kq v5 w' => ∃ (x5_1 : Int),v5 = .int .i64 x5_1 ∧ Aside0 (spec_l05Waits.l0 kq a1 x5_1 a0_0 a0_1 a0_2 a0_3 l0_4 = some r) ∧ Aside0 (kq ≤ k) ∧ Aside0 (w'.heap[gb194]? = some (.cells #[.string a0_0,.int .i64 a0_1,.int .i64 a0_2,.int .i64 a0_3,(.slice A0_4 l0_4.length c0_4)] 70 (0,0))) ∧ Aside0 (Below w.heap.size w w'))
 case atStart => exact ⟨(0),(by first|rfl|(simp;done)|(simp [*];done)),H',⟨Nat.le_refl _⟩,⟨by (with_reducible repeat (first|apply blk_drewN|apply blk_drew|apply blk_alloc));exact BK194.out⟩,⟨by repeat (first|(with_reducible first|exact HB.out|apply qa5|apply qb5|apply qc5|refine below_set ?_ GE194.out)|exact HB.out)⟩⟩
 case round =>
  clear H'
  try clear c1
  try clear p2
  obtain ⟨x5_1,rfl,HA,HK1,BK194,HB⟩:=hrel
  cases gk with
  | zero => exact absurd HA.out (by simp [spec_l05Waits.l0])
  | succ k1 =>
   have H:=HA.out
   clear HA
   simp only [spec_l05Waits.l0] at H
   by_cases c4 : x5_1 < (l0_4.length : Int)
   ·
    rw [if_pos c4] at H
    have c4b0 : decide (x5_1 < (l0_4.length : Int)) = true:=decide_eq_true c4
    clear c4
    by_cases c5 : 0 ≤ x5_1
    ·
     rw [if_pos c5] at H
     have c5b0 : decide (0 ≤ x5_1) = true:=decide_eq_true c5
     clear c5
     by_cases c6 : ((rd_T73 l0_4 x5_1).f0) = a1
     ·
      rw [if_pos c6] at H
      have c6b0 : (((rd_T73 l0_4 x5_1).f0) == a1) = true:=beq_iff_eq.mpr c6
      have c6b1 : (((rd_T73 l0_4 x5_1).f0) != a1) = false:=bne_eq_false_iff_eq.mpr c6
      clear c6
      obtain rfl:=sO H
      have hcz7_0 : wr.cell? ⟨gb194,0,none⟩ = some (.string a0_0):=(blk_cell BK194.out 0).trans rfl
      have hcz7_1 : wr.cell? ⟨gb194,1,none⟩ = some (.int .i64 a0_1):=(blk_cell BK194.out 1).trans rfl
      have hcz7_2 : wr.cell? ⟨gb194,2,none⟩ = some (.int .i64 a0_2):=(blk_cell BK194.out 2).trans rfl
      have hcz7_3 : wr.cell? ⟨gb194,3,none⟩ = some (.int .i64 a0_3):=(blk_cell BK194.out 3).trans rfl
      have hcz7_4 : wr.cell? ⟨gb194,4,none⟩ = some (.slice A0_4 l0_4.length c0_4):=(blk_cell BK194.out 4).trans rfl
      have hfz7_0:=sJ BK194.out 0
      have hfz7_1:=sJ BK194.out 1
      have hfz7_2:=sJ BK194.out 2
      have hfz7_3:=sJ BK194.out 3
      have hfz7_4:=sJ BK194.out 4
      have p195 : 0 ≤ (x5_1 : Int):=sM (by first|(with_reducible assumption)|assumption)
      have q195 : x5_1 < (l0_4.length : Int):=sM (by first|(with_reducible assumption)|assumption)
      obtain ⟨ad195,e195,hx195_0,hx195_1⟩:=at_T73 HR0_4.out x5_1 p195 q195
      cases e195
      replace hx195_0:=(HB.out.cell (sD w _ hx195_0)).trans hx195_0
      replace hx195_1:=(HB.out.cell (sD w _ hx195_1)).trans hx195_1
      replace p195:=eq_true p195
      replace q195:=eq_true q195
      go_wp2
      go_ret
      exact ⟨by first|rfl|(simp [errW_none,errW_some] <;> rfl)|(simp [*,errW_none,errW_some] <;> rfl),by repeat (first|(with_reducible first|exact HB.out|apply qa5|apply qb5|apply qc5|refine below_set ?_ GE194.out)|exact HB.out)⟩
     ·
      rw [if_neg c6] at H
      have c6b0 : (((rd_T73 l0_4 x5_1).f0) == a1) = false:=beq_eq_false_iff_ne.mpr c6
      have c6b1 : (((rd_T73 l0_4 x5_1).f0) != a1) = true:=bne_iff_ne.mpr c6
      have H':=qd5 H
      clear H
      have hcz8_0 : wr.cell? ⟨gb194,0,none⟩ = some (.string a0_0):=(blk_cell BK194.out 0).trans rfl
      have hcz8_1 : wr.cell? ⟨gb194,1,none⟩ = some (.int .i64 a0_1):=(blk_cell BK194.out 1).trans rfl
      have hcz8_2 : wr.cell? ⟨gb194,2,none⟩ = some (.int .i64 a0_2):=(blk_cell BK194.out 2).trans rfl
      have hcz8_3 : wr.cell? ⟨gb194,3,none⟩ = some (.int .i64 a0_3):=(blk_cell BK194.out 3).trans rfl
      have hcz8_4 : wr.cell? ⟨gb194,4,none⟩ = some (.slice A0_4 l0_4.length c0_4):=(blk_cell BK194.out 4).trans rfl
      have hfz8_0:=sJ BK194.out 0
      have hfz8_1:=sJ BK194.out 1
      have hfz8_2:=sJ BK194.out 2
      have hfz8_3:=sJ BK194.out 3
      have hfz8_4:=sJ BK194.out 4
      have p195 : 0 ≤ (x5_1 : Int):=sM (by first|(with_reducible assumption)|assumption)
      have q195 : x5_1 < (l0_4.length : Int):=sM (by first|(with_reducible assumption)|assumption)
      obtain ⟨ad195,e195,hx195_0,hx195_1⟩:=at_T73 HR0_4.out x5_1 p195 q195
      cases e195
      replace hx195_0:=(HB.out.cell (sD w _ hx195_0)).trans hx195_0
      replace hx195_1:=(HB.out.cell (sD w _ hx195_1)).trans hx195_1
      replace p195:=eq_true p195
      replace q195:=eq_true q195
      go_wp2
      go_roundg k1
      case measure => have:=HK1.out;omega
      case rel => exact ⟨(wrap64 (x5_1 + 1)),(by first|rfl|(simp;done)|(simp [*];done)),H',⟨by have:=HK1.out;omega⟩,⟨by (with_reducible repeat (first|apply blk_drewN|apply blk_drew|apply blk_alloc));exact BK194.out⟩,⟨by repeat (first|(with_reducible first|exact HB.out|apply qa5|apply qb5|apply qc5|refine below_set ?_ GE194.out)|exact HB.out)⟩⟩
    ·
     rw [if_neg c5] at H
     exact absurd H (by simp)
   ·
    rw [if_neg c4] at H
    have c4b0 : decide (x5_1 < (l0_4.length : Int)) = false:=decide_eq_false c4
    clear c4
    obtain rfl:=sO H
    have hcz9_0 : wr.cell? ⟨gb194,0,none⟩ = some (.string a0_0):=(blk_cell BK194.out 0).trans rfl
    have hcz9_1 : wr.cell? ⟨gb194,1,none⟩ = some (.int .i64 a0_1):=(blk_cell BK194.out 1).trans rfl
    have hcz9_2 : wr.cell? ⟨gb194,2,none⟩ = some (.int .i64 a0_2):=(blk_cell BK194.out 2).trans rfl
    have hcz9_3 : wr.cell? ⟨gb194,3,none⟩ = some (.int .i64 a0_3):=(blk_cell BK194.out 3).trans rfl
    have hcz9_4 : wr.cell? ⟨gb194,4,none⟩ = some (.slice A0_4 l0_4.length c0_4):=(blk_cell BK194.out 4).trans rfl
    have hfz9_0:=sJ BK194.out 0
    have hfz9_1:=sJ BK194.out 1
    have hfz9_2:=sJ BK194.out 2
    have hfz9_3:=sJ BK194.out 3
    have hfz9_4:=sJ BK194.out 4
    go_wp2
    go_ret
    exact ⟨by first|rfl|(simp [errW_none,errW_some] <;> rfl)|(simp [*,errW_none,errW_some] <;> rfl),by repeat (first|(with_reducible first|exact HB.out|apply qa5|apply qb5|apply qc5|refine below_set ?_ GE194.out)|exact HB.out)⟩
def spec_l00Letter.f (a0 : Int) : Option (Bool):=if a0 ≥ 97 then (if a0 ≤ 122 then (some true) else (if a0 ≥ 65 then (if a0 ≤ 90 then (some true) else (some (a0 == 95))) else (some (a0 == 95)))) else (if a0 ≥ 65 then (if a0 ≤ 90 then (some true) else (some (a0 == 95))) else (some (a0 == 95)))
set_option maxHeartbeats 8000000 in
set_option maxRecDepth 100000 in
theorem spec_l00Letter.calls (a0 : Int) (r : Bool) (w : World) (h : spec_l00Letter.f a0 = some r) :
  Calls Try.prog 123 #[.int .u8 a0] w fun e w' => e = .returned (.bool r) ∧ Drawn0 w w':=by
 have H : (if a0 ≥ 97 then (if a0 ≤ 122 then (some true) else (if a0 ≥ 65 then (if a0 ≤ 90 then (some true) else (some (a0 == 95))) else (some (a0 == 95)))) else (if a0 ≥ 65 then (if a0 ≤ 90 then (some true) else (some (a0 == 95))) else (some (a0 == 95)))) = some r:=h
 clear h
 by_cases c2 : a0 ≥ 97
 ·
  rw [if_pos c2] at H
  have c2b0 : decide (97 ≤ a0) = true:=decide_eq_true c2
  clear c2
  by_cases c3 : a0 ≤ 122
  ·
   rw [if_pos c3] at H
   have c3b0 : decide (a0 ≤ 122) = true:=decide_eq_true c3
   clear c3
   obtain rfl:=sO H
   go_enter Try.func123,Try.ntmps123
   go_wp2
   go_ret
   exact ⟨by first|rfl|(simp;done)|(simp [*];done),by repeat (first|exact Drawn0.refl _|apply Drawn0.step)⟩
  ·
   rw [if_neg c3] at H
   have c3b0 : decide (a0 ≤ 122) = false:=decide_eq_false c3
   clear c3
   by_cases c4 : a0 ≥ 65
   ·
    rw [if_pos c4] at H
    have c4b0 : decide (65 ≤ a0) = true:=decide_eq_true c4
    clear c4
    by_cases c5 : a0 ≤ 90
    ·
     rw [if_pos c5] at H
     have c5b0 : decide (a0 ≤ 90) = true:=decide_eq_true c5
     clear c5
     obtain rfl:=sO H
     go_enter Try.func123,Try.ntmps123
     go_wp2
     go_ret
     exact ⟨by first|rfl|(simp;done)|(simp [*];done),by repeat (first|exact Drawn0.refl _|apply Drawn0.step)⟩
    ·
     rw [if_neg c5] at H
     have c5b0 : decide (a0 ≤ 90) = false:=decide_eq_false c5
     clear c5
     obtain rfl:=sO H
     go_enter Try.func123,Try.ntmps123
     go_wp2
     go_ret
     exact ⟨by first|rfl|(simp;done)|(simp [*];done),by repeat (first|exact Drawn0.refl _|apply Drawn0.step)⟩
   ·
    rw [if_neg c4] at H
    have c4b0 : decide (65 ≤ a0) = false:=decide_eq_false c4
    clear c4
    obtain rfl:=sO H
    go_enter Try.func123,Try.ntmps123
    go_wp2
    go_ret
    exact ⟨by first|rfl|(simp;done)|(simp [*];done),by repeat (first|exact Drawn0.refl _|apply Drawn0.step)⟩
 ·
  rw [if_neg c2] at H
  have c2b0 : decide (97 ≤ a0) = false:=decide_eq_false c2
  clear c2
  by_cases c6 : a0 ≥ 65
  ·
   rw [if_pos c6] at H
   have c6b0 : decide (65 ≤ a0) = true:=decide_eq_true c6
   clear c6
   by_cases c7 : a0 ≤ 90
   ·
    rw [if_pos c7] at H
    have c7b0 : decide (a0 ≤ 90) = true:=decide_eq_true c7
    clear c7
    obtain rfl:=sO H
    go_enter Try.func123,Try.ntmps123
    go_wp2
    go_ret
    exact ⟨by first|rfl|(simp;done)|(simp [*];done),by repeat (first|exact Drawn0.refl _|apply Drawn0.step)⟩
   ·
    rw [if_neg c7] at H
    have c7b0 : decide (a0 ≤ 90) = false:=decide_eq_false c7
    clear c7
    obtain rfl:=sO H
    go_enter Try.func123,Try.ntmps123
    go_wp2
    go_ret
    exact ⟨by first|rfl|(simp;done)|(simp [*];done),by repeat (first|exact Drawn0.refl _|apply Drawn0.step)⟩
  ·
   rw [if_neg c6] at H
   have c6b0 : decide (65 ≤ a0) = false:=decide_eq_false c6
   clear c6
   obtain rfl:=sO H
   go_enter Try.func123,Try.ntmps123
   go_wp2
   go_ret
   exact ⟨by first|rfl|(simp;done)|(simp [*];done),by repeat (first|exact Drawn0.refl _|apply Drawn0.step)⟩
def spec_l00Digit.f (a0 : Int) : Option (Bool):=if a0 ≥ 48 then (some (decide (a0 ≤ 57))) else (some false)
set_option maxHeartbeats 8000000 in
set_option maxRecDepth 100000 in
theorem spec_l00Digit.calls (a0 : Int) (r : Bool) (w : World) (h : spec_l00Digit.f a0 = some r) :
  Calls Try.prog 124 #[.int .u8 a0] w fun e w' => e = .returned (.bool r) ∧ Drawn0 w w':=by
 have H : (if a0 ≥ 48 then (some (decide (a0 ≤ 57))) else (some false)) = some r:=h
 clear h
 by_cases c2 : a0 ≥ 48
 ·
  rw [if_pos c2] at H
  have c2b0 : decide (48 ≤ a0) = true:=decide_eq_true c2
  clear c2
  obtain rfl:=sO H
  go_enter Try.func124,Try.ntmps124
  go_wp2
  go_ret
  exact ⟨by first|rfl|(simp;done)|(simp [*];done),by repeat (first|exact Drawn0.refl _|apply Drawn0.step)⟩
 ·
  rw [if_neg c2] at H
  have c2b0 : decide (48 ≤ a0) = false:=decide_eq_false c2
  clear c2
  obtain rfl:=sO H
  go_enter Try.func124,Try.ntmps124
  go_wp2
  go_ret
  exact ⟨by first|rfl|(simp;done)|(simp [*];done),by repeat (first|exact Drawn0.refl _|apply Drawn0.step)⟩
mutual
def spec_l00Word.j0 : Nat → ByteArray → Bool → Option (Bool)
 | 0,_,_ => none
 | k + 1,x0,x17 => if x17 = true then (some false) else (spec_l00Word.l0 k x0 1)
def spec_l00Word.l0 : Nat → ByteArray → Int → Option (Bool)
 | 0,_,_ => none
 | k + 1,x0,x3 => if x3 < (x0.size : Int) then (if 0 ≤ x3 then ((spec_l00Letter.f (bt x0 x3)).bind fun t214 => (if t214 = true then (spec_l00Word.l0 k x0 (wrap64 (x3 + 1))) else ((spec_l00Digit.f (bt x0 x3)).bind fun t215 => (if t215 = true then (spec_l00Word.l0 k x0 (wrap64 (x3 + 1))) else (some false))))) else (none)) else (some true)
end
def spec_l00Word.f (k : Nat) (a0 : ByteArray) : Option (Bool):=if (a0.size : Int) < 1 then (spec_l00Word.j0 k a0 true) else (if (a0.size : Int) > 40 then (spec_l00Word.j0 k a0 true) else (if 0 < (a0.size : Int) then ((spec_l00Letter.f (bt a0 0)).bind fun t213 => (spec_l00Word.j0 k a0 (!t213))) else (none)))
set_option maxHeartbeats 8000000 in
set_option maxRecDepth 100000 in
theorem spec_l00Word.calls (k : Nat) (a0 : ByteArray) (r : Bool) (w : World) (h : spec_l00Word.f k a0 = some r) :
  Calls Try.prog 101 #[.string a0] w fun e w' => e = .returned (.bool r) ∧ Drawn0 w w':=by
 have H : (if (a0.size : Int) < 1 then (spec_l00Word.j0 k a0 true) else (if (a0.size : Int) > 40 then (spec_l00Word.j0 k a0 true) else (if 0 < (a0.size : Int) then ((spec_l00Letter.f (bt a0 0)).bind fun t213 => (spec_l00Word.j0 k a0 (!t213))) else (none)))) = some r:=h
 clear h
 have HC2:=qd5 H
 clear H
 go_enter Try.func101,Try.ntmps101
 go_upto_region 1 with (fail)
 go_cut [17] (fun v17 wc => ∃ (kq : Nat) (x17_1 : Bool),v17 = .bool x17_1 ∧ Aside0 (spec_l00Word.j0 kq a0 x17_1 = some r) ∧ Aside0 (kq ≤ k) ∧ Drawn0 w wc)
 case first =>
  have H:=HC2.out
  clear HC2
  by_cases c3 : (a0.size : Int) < 1
  ·
   rw [if_pos c3] at H
   have c3b0 : decide ((a0.size : Int) < 1) = true:=decide_eq_true c3
   have c3b1 : decide (a0.size < 1) = true:=decide_eq_true (by omega)
   clear c3
   (first|rw [c3b0]|(simp only [i64_w,i32_w];rw [c3b0])|skip)
   have H':=qd5 H
   clear H
   go_wp2
   go_meet
   case rel => exact ⟨_,(true),(by first|rfl|(simp;done)|(simp [*];done)),H',⟨by first|omega|exact Nat.le_refl _⟩,by repeat (first|exact Drawn0.refl _|apply Drawn0.step)⟩
  ·
   rw [if_neg c3] at H
   have c3b0 : decide ((a0.size : Int) < 1) = false:=decide_eq_false c3
   have c3b1 : decide (a0.size < 1) = false:=decide_eq_false (by omega)
   clear c3
   (first|rw [c3b0]|(simp only [i64_w,i32_w];rw [c3b0])|skip)
   by_cases c4 : (a0.size : Int) > 40
   ·
    rw [if_pos c4] at H
    have c4b0 : decide (40 < (a0.size : Int)) = true:=decide_eq_true c4
    have c4b1 : decide (40 < a0.size) = true:=decide_eq_true (by omega)
    clear c4
    have H':=qd5 H
    clear H
    go_wp2
    go_meet
    case rel => exact ⟨_,(true),(by first|rfl|(simp;done)|(simp [*];done)),H',⟨by first|omega|exact Nat.le_refl _⟩,by repeat (first|exact Drawn0.refl _|apply Drawn0.step)⟩
   ·
    rw [if_neg c4] at H
    have c4b0 : decide (40 < (a0.size : Int)) = false:=decide_eq_false c4
    have c4b1 : decide (40 < a0.size) = false:=decide_eq_false (by omega)
    clear c4
    by_cases c5 : 0 < (a0.size : Int)
    ·
     rw [if_pos c5] at H
     have c5b0 : decide (0 < (a0.size : Int)) = true:=decide_eq_true c5
     have c5b1 : decide (0 < a0.size) = true:=decide_eq_true (by omega)
     clear c5
     replace H:=Option.bind_eq_some_iff.mp H
     obtain ⟨t213,A70,H⟩:=H
     replace H : (spec_l00Word.j0 k a0 (!t213)) = some r:=H
     have A7:=qd5 A70
     clear A70
     have H':=qd5 H
     clear H
     have p6 : 0 ≤ (0 : Int):=(by omega)
     have q6 : 0 < a0.size:=(by have : (0 : Int) < (a0.size : Int):=sM (by first|(with_reducible assumption)|assumption);omega)
     have hx6 : ∀ h : 0 < a0.size,((a0[0]'h).toNat : Int) = bt a0 0:=bt_at a0 0
     clear p6
     have qi6 : (0 < (a0.size : Int)) = True:=eq_true (sM (by first|(with_reducible assumption)|assumption))
     replace q6:=eq_true q6
     go_wp2_with (first|(go_at_call 123;(with_reducible refine (spec_l00Letter.calls (bt a0 0) t213 _ A7.out).mono ?_);rintro e w' ⟨rfl,⟨nd,rfl⟩⟩))
     go_meet
     case rel => exact ⟨_,(!t213),(by first|rfl|(simp;done)|(simp [*];done)),H',⟨by first|omega|exact Nat.le_refl _⟩,by repeat (first|exact Drawn0.refl _|apply Drawn0.step)⟩
    ·
     rw [if_neg c5] at H
     exact absurd H (by simp)
 case rest =>
  clear HC2
  try clear c1
  try clear p2
  try clear c3
  try clear c3b0
  try clear c3b1
  try clear c4
  try clear c4b0
  try clear c4b1
  try clear c5
  try clear c5b0
  try clear c5b1
  try clear p6
  try clear q6
  try clear hx6
  try clear qi6
  try clear p6
  try clear q6
  obtain ⟨kq,x17_1,rfl,HA,HJ1,⟨mc1,rfl⟩⟩:=hcut
  cases kq with
  | zero => exact absurd HA.out (by simp [spec_l00Word.j0])
  | succ kj1 =>
   have H:=HA.out
   clear HA
   simp only [spec_l00Word.j0] at H
   by_cases c8 : x17_1 = true
   ·
    subst c8
    have H1 : (some false) = some r:=by rw [if_pos rfl] at H;exact H
    clear H
    have H:=H1
    clear H1
    obtain rfl:=sO H
    go_wp2
    go_ret
    exact ⟨by first|rfl|(simp;done)|(simp [*];done),by repeat (first|exact Drawn0.refl _|apply Drawn0.step)⟩
   ·
    replace c8:=Bool.eq_false_iff.mpr c8
    subst c8
    have H1 : (spec_l00Word.l0 kj1 a0 1) = some r:=by rw [if_neg (show ¬ (false = true) by decide)] at H;exact H
    clear H
    have H:=H1
    clear H1
    have H':=qd5 H
    clear H
    go_wp2
    go_loopg [3] kj1 (fun kq v3 w' => ∃ (x3_2 : Int),v3 = .int .i64 x3_2 ∧ Aside0 (spec_l00Word.l0 kq a0 x3_2 = some r) ∧ Aside0 (kq ≤ kj1) ∧ Drawn0 w w')
    case atStart => exact ⟨(1),(by first|rfl|(simp;done)|(simp [*];done)),H',⟨Nat.le_refl _⟩,by repeat (first|exact Drawn0.refl _|apply Drawn0.step)⟩
    case round =>
     clear H'
     try clear c1
     try clear p2
     try clear c3
     try clear c3b0
     try clear c3b1
     try clear c4
     try clear c4b0
     try clear c4b1
     try clear c5
     try clear c5b0
     try clear c5b1
     try clear p6
     try clear q6
     try clear hx6
     try clear qi6
     try clear c8
     try clear p2
     try clear p6
     try clear q6
     obtain ⟨x3_2,rfl,HA,HK2,⟨m2,rfl⟩⟩:=hrel
     cases gk with
     | zero => exact absurd HA.out (by simp [spec_l00Word.l0])
     | succ k2 =>
      have H:=HA.out
      clear HA
      simp only [spec_l00Word.l0] at H
      by_cases c9 : x3_2 < (a0.size : Int)
      ·
       rw [if_pos c9] at H
       have c9b0 : decide (x3_2 < (a0.size : Int)) = true:=decide_eq_true c9
       clear c9
       by_cases c10 : 0 ≤ x3_2
       ·
        rw [if_pos c10] at H
        have c10b0 : decide (0 ≤ x3_2) = true:=decide_eq_true c10
        clear c10
        replace H:=Option.bind_eq_some_iff.mp H
        obtain ⟨t214,A120,H⟩:=H
        replace H : (if t214 = true then (spec_l00Word.l0 k2 a0 (wrap64 (x3_2 + 1))) else ((spec_l00Digit.f (bt a0 x3_2)).bind fun t215 => (if t215 = true then (spec_l00Word.l0 k2 a0 (wrap64 (x3_2 + 1))) else (some false)))) = some r:=H
        have A12:=qd5 A120
        clear A120
        by_cases c13 : t214 = true
        ·
         subst c13
         have H1 : (spec_l00Word.l0 k2 a0 (wrap64 (x3_2 + 1))) = some r:=by rw [if_pos rfl] at H;exact H
         clear H
         have H:=H1
         clear H1
         have H':=qd5 H
         clear H
         have p11 : 0 ≤ (x3_2 : Int):=sM (by first|(with_reducible assumption)|assumption)
         have q11 : x3_2 < (a0.size : Int):=sM (by first|(with_reducible assumption)|assumption)
         have hx11:=bt_at a0 x3_2
         have bl11:=(bt_range a0 x3_2).1
         have bh11:=(bt_range a0 x3_2).2
         replace p11:=eq_true p11
         replace q11:=eq_true q11
         go_wp2_with (first|((with_reducible refine gate_callee (f:=123) rfl ?_);refine goesL_ (some 27) rfl rfl Try.func123 (by kernel_rfl) rfl #[.int .u8 (bt a0 x3_2)] rfl (by (try simp only [sE,sH,sI]);first|done|rfl|(simp only [sG,sF];rfl)) ?_;(with_reducible refine (spec_l00Letter.calls (bt a0 x3_2) true _ A12.out).mono ?_);rintro e w' ⟨rfl,⟨nd,rfl⟩⟩;refine ⟨_,rfl,?_⟩))
         go_roundg k2
         case measure => have:=HJ1.out;have:=HK2.out;omega
         case rel => exact ⟨(wrap64 (x3_2 + 1)),(by first|rfl|(simp;done)|(simp [*];done)),H',⟨by have:=HJ1.out;have:=HK2.out;omega⟩,by repeat (first|exact Drawn0.refl _|apply Drawn0.step)⟩
        ·
         replace c13:=Bool.eq_false_iff.mpr c13
         subst c13
         have H1 : ((spec_l00Digit.f (bt a0 x3_2)).bind fun t215 => (if t215 = true then (spec_l00Word.l0 k2 a0 (wrap64 (x3_2 + 1))) else (some false))) = some r:=by rw [if_neg (show ¬ (false = true) by decide)] at H;exact H
         clear H
         have H:=H1
         clear H1
         replace H:=Option.bind_eq_some_iff.mp H
         obtain ⟨t215,A150,H⟩:=H
         replace H : (if t215 = true then (spec_l00Word.l0 k2 a0 (wrap64 (x3_2 + 1))) else (some false)) = some r:=H
         have A15:=qd5 A150
         clear A150
         by_cases c16 : t215 = true
         ·
          subst c16
          have H1 : (spec_l00Word.l0 k2 a0 (wrap64 (x3_2 + 1))) = some r:=by rw [if_pos rfl] at H;exact H
          clear H
          have H:=H1
          clear H1
          have H':=qd5 H
          clear H
          have p11 : 0 ≤ (x3_2 : Int):=sM (by first|(with_reducible assumption)|assumption)
          have q11 : x3_2 < (a0.size : Int):=sM (by first|(with_reducible assumption)|assumption)
          have hx11:=bt_at a0 x3_2
          have bl11:=(bt_range a0 x3_2).1
          have bh11:=(bt_range a0 x3_2).2
          replace p11:=eq_true p11
          replace q11:=eq_true q11
          go_wp2_with (first|((with_reducible refine gate_callee (f:=123) rfl ?_);refine goesL_ (some 27) rfl rfl Try.func123 (by kernel_rfl) rfl #[.int .u8 (bt a0 x3_2)] rfl (by (try simp only [sE,sH,sI]);first|done|rfl|(simp only [sG,sF];rfl)) ?_;(with_reducible refine (spec_l00Letter.calls (bt a0 x3_2) false _ A12.out).mono ?_);rintro e w' ⟨rfl,⟨nd,rfl⟩⟩;refine ⟨_,rfl,?_⟩;have p14 : 0 ≤ (x3_2 : Int):=sM (by first|(with_reducible assumption)|assumption);have q14 : x3_2 < (a0.size : Int):=sM (by first|(with_reducible assumption)|assumption);have hx14:=bt_at a0 x3_2;have bl14:=(bt_range a0 x3_2).1;have bh14:=(bt_range a0 x3_2).2;replace p14:=eq_true p14;replace q14:=eq_true q14)|(go_at_call 124;(with_reducible refine (spec_l00Digit.calls (bt a0 x3_2) true _ A15.out).mono ?_);rintro e w' ⟨rfl,⟨nd,rfl⟩⟩))
          go_roundg k2
          case measure => have:=HJ1.out;have:=HK2.out;omega
          case rel => exact ⟨(wrap64 (x3_2 + 1)),(by first|rfl|(simp;done)|(simp [*];done)),H',⟨by have:=HJ1.out;have:=HK2.out;omega⟩,by repeat (first|exact Drawn0.refl _|apply Drawn0.step)⟩
         ·
          replace c16:=Bool.eq_false_iff.mpr c16
          subst c16
          have H1 : (some false) = some r:=by rw [if_neg (show ¬ (false = true) by decide)] at H;exact H
          clear H
          have H:=H1
          clear H1
          obtain rfl:=sO H
          have p11 : 0 ≤ (x3_2 : Int):=sM (by first|(with_reducible assumption)|assumption)
          have q11 : x3_2 < (a0.size : Int):=sM (by first|(with_reducible assumption)|assumption)
          have hx11:=bt_at a0 x3_2
          have bl11:=(bt_range a0 x3_2).1
          have bh11:=(bt_range a0 x3_2).2
          replace p11:=eq_true p11
          replace q11:=eq_true q11
          go_wp2_with (first|((with_reducible refine gate_callee (f:=123) rfl ?_);refine goesL_ (some 27) rfl rfl Try.func123 (by kernel_rfl) rfl #[.int .u8 (bt a0 x3_2)] rfl (by (try simp only [sE,sH,sI]);first|done|rfl|(simp only [sG,sF];rfl)) ?_;(with_reducible refine (spec_l00Letter.calls (bt a0 x3_2) false _ A12.out).mono ?_);rintro e w' ⟨rfl,⟨nd,rfl⟩⟩;refine ⟨_,rfl,?_⟩;have p14 : 0 ≤ (x3_2 : Int):=sM (by first|(with_reducible assumption)|assumption);have q14 : x3_2 < (a0.size : Int):=sM (by first|(with_reducible assumption)|assumption);have hx14:=bt_at a0 x3_2;have bl14:=(bt_range a0 x3_2).1;have bh14:=(bt_range a0 x3_2).2;replace p14:=eq_true p14;replace q14:=eq_true q14)|(go_at_call 124;(with_reducible refine (spec_l00Digit.calls (bt a0 x3_2) false _ A15.out).mono ?_);rintro e w' ⟨rfl,⟨nd,rfl⟩⟩))
          go_ret
          exact ⟨by first|rfl|(simp;done)|(simp [*];done),by repeat (first|exact Drawn0.refl _|apply Drawn0.step)⟩
       ·
        rw [if_neg c10] at H
        exact absurd H (by simp)
      ·
       rw [if_neg c9] at H
       have c9b0 : decide (x3_2 < (a0.size : Int)) = false:=decide_eq_false c9
       clear c9
       obtain rfl:=sO H
       go_wp2
       go_ret
       exact ⟨by first|rfl|(simp;done)|(simp [*];done),by repeat (first|exact Drawn0.refl _|apply Drawn0.step)⟩
def spec_NameOK.f (k : Nat) (a0 : ByteArray) : Option (Bool):=(spec_l00Word.f k a0).bind fun t216 => (some t216)
set_option maxHeartbeats 8000000 in
set_option maxRecDepth 100000 in
theorem spec_NameOK.calls (k : Nat) (a0 : ByteArray) (r : Bool) (w : World) (h : spec_NameOK.f k a0 = some r) :
  Calls Try.prog 72 #[.string a0] w fun e w' => e = .returned (.bool r) ∧ Drawn0 w w':=by
 have H : ((spec_l00Word.f k a0).bind fun t216 => (some t216)) = some r:=h
 clear h
 replace H:=Option.bind_eq_some_iff.mp H
 obtain ⟨t216,A20,H⟩:=H
 replace H : (some t216) = some r:=H
 have A2:=qd5 A20
 clear A20
 obtain rfl:=sO H
 go_enter Try.func72,Try.ntmps72
 go_wp2_with (first|((with_reducible refine gate_callee (f:=101) rfl ?_);refine goesL_ (some 4) rfl rfl Try.func101 (by kernel_rfl) rfl #[.string a0] rfl (by (try simp only [sE,sH,sI]);first|done|rfl|(simp only [sG,sF];rfl)) ?_;(with_reducible refine (spec_l00Word.calls k a0 t216 _ A2.out).mono ?_);rintro e w' ⟨rfl,⟨nd,rfl⟩⟩;refine ⟨_,rfl,?_⟩))
 go_ret
 exact ⟨by first|rfl|(simp;done)|(simp [*];done),by repeat (first|exact Drawn0.refl _|apply Drawn0.step)⟩
def spec_l02Text.f (k : Nat) (a0 : ByteArray) (a1 : Int) : Option (Bool):=(spec_l01In.f (a0.size : Int) 1 a1).bind fun t217 => (if t217 = true then ((spec_NameOK.f k a0).bind fun t218 => (some t218)) else (some false))
set_option maxHeartbeats 8000000 in
set_option maxRecDepth 100000 in
theorem spec_l02Text.calls (k : Nat) (a0 : ByteArray) (a1 : Int) (r : Bool) (w : World) (h : spec_l02Text.f k a0 a1 = some r) :
  Calls Try.prog 42 #[.string a0,.int .i64 a1] w fun e w' => e = .returned (.bool r) ∧ Drawn0 w w':=by
 have H : ((spec_l01In.f (a0.size : Int) 1 a1).bind fun t217 => (if t217 = true then ((spec_NameOK.f k a0).bind fun t218 => (some t218)) else (some false))) = some r:=h
 clear h
 replace H:=Option.bind_eq_some_iff.mp H
 obtain ⟨t217,A30,H⟩:=H
 replace H : (if t217 = true then ((spec_NameOK.f k a0).bind fun t218 => (some t218)) else (some false)) = some r:=H
 have A3:=qd5 A30
 clear A30
 by_cases c4 : t217 = true
 ·
  subst c4
  have H1 : ((spec_NameOK.f k a0).bind fun t218 => (some t218)) = some r:=by rw [if_pos rfl] at H;exact H
  clear H
  have H:=H1
  clear H1
  replace H:=Option.bind_eq_some_iff.mp H
  obtain ⟨t218,A50,H⟩:=H
  replace H : (some t218) = some r:=H
  have A5:=qd5 A50
  clear A50
  obtain rfl:=sO H
  go_enter Try.func42,Try.ntmps42
  go_wp2_with (first|((with_reducible refine gate_callee (f:=41) rfl ?_);refine goesL_ (some 8) rfl rfl Try.func41 (by kernel_rfl) rfl #[.int .i64 (a0.size : Int),.int .i64 1,.int .i64 a1] rfl (by (try simp only [sE,sH,sI]);first|done|rfl|(simp only [sG,sF];rfl)) ?_;(with_reducible refine (spec_l01In.calls (a0.size : Int) 1 a1 true _ A3.out).mono ?_);rintro e w' ⟨rfl,⟨nd,rfl⟩⟩;refine ⟨_,rfl,?_⟩)|(go_at_call 72;(with_reducible refine (spec_NameOK.calls k a0 t218 _ A5.out).mono ?_);rintro e w' ⟨rfl,⟨nd,rfl⟩⟩))
  go_ret
  exact ⟨by first|rfl|(simp;done)|(simp [*];done),by repeat (first|exact Drawn0.refl _|apply Drawn0.step)⟩
 ·
  replace c4:=Bool.eq_false_iff.mpr c4
  subst c4
  have H1 : (some false) = some r:=by rw [if_neg (show ¬ (false = true) by decide)] at H;exact H
  clear H
  have H:=H1
  clear H1
  obtain rfl:=sO H
  go_enter Try.func42,Try.ntmps42
  go_wp2_with (first|((with_reducible refine gate_callee (f:=41) rfl ?_);refine goesL_ (some 8) rfl rfl Try.func41 (by kernel_rfl) rfl #[.int .i64 (a0.size : Int),.int .i64 1,.int .i64 a1] rfl (by (try simp only [sE,sH,sI]);first|done|rfl|(simp only [sG,sF];rfl)) ?_;(with_reducible refine (spec_l01In.calls (a0.size : Int) 1 a1 false _ A3.out).mono ?_);rintro e w' ⟨rfl,⟨nd,rfl⟩⟩;refine ⟨_,rfl,?_⟩))
  go_ret
  exact ⟨by first|rfl|(simp;done)|(simp [*];done),by repeat (first|exact Drawn0.refl _|apply Drawn0.step)⟩
end Go.Proofs.Ytjkanhjapddhnaa.PFnExactRunRequests
