-- laid by this session's program myprint.py over the kit's printer
-- squeezed
-- aliased
import Derived.Test.YtjkanhjapddhnaaPFnExactSameTablex0
namespace Go.Proofs.Ytjkanhjapddhnaa.PFnExactSameTable
open Go.RowKit Go.Proofs.YtjkanhjapddhnaaV.PrintWords Go.Proofs.YtjkanhjapddhnaaV.PrintLast Go.Proofs.YtjkanhjapddhnaaV.PrintMore
attribute [local go_sem] max2_int min2_int max_two min_two max_three min_three max_four min_four u8_wm u32_wm   -- for this text's walks alone
set_option linter.unusedVariables false
set_option linter.unusedSimpArgs false

/-! ### laws_eqWaiter: function 127 -/
theorem qa2 : type_of% @blk_drewN:=@blk_drewN
theorem qb2 : type_of% @blk_alloc:=@blk_alloc
theorem qc2 : type_of% @below_alloc:=@below_alloc
theorem qd2 : type_of% @pw_below_drewN:=@pw_below_drewN
theorem qe2 : type_of% @below_drew1:=@below_drew1
theorem qf2 : type_of% @below_set:=@below_set
theorem qg2 : type_of% @Aside0.mk:=@Aside0.mk
theorem qh2 : type_of% @below_size:=@below_size
def laws_eqWaiter.f (a0_0 : Int) (a0_1 : Int) (a1_0 : Int) (a1_1 : Int) : Option (Bool):=if a0_0 = a1_0 then (if a0_1 = a1_1 then (some true) else (some false)) else (some false)
set_option maxHeartbeats 8000000 in
set_option maxRecDepth 100000 in
theorem laws_eqWaiter.calls (a0_0 : Int) (a0_1 : Int) (a1_0 : Int) (a1_1 : Int) (r : Bool) (w : World) (h : laws_eqWaiter.f a0_0 a0_1 a1_0 a1_1 = some r) :
  Calls Try.prog 127 #[.agg #[.int .i64 a0_0,.int .i64 a0_1],.agg #[.int .i64 a1_0,.int .i64 a1_1]] w fun e w' => e = .returned (.bool r) ∧ Below w.heap.size w w':=by
 have hu73:=Try.underlying73
 have HB:=qg2 (Below.refl w.heap.size w)
 have H : (if a0_0 = a1_0 then (if a0_1 = a1_1 then (some true) else (some false)) else (some false)) = some r:=h
 clear h
 by_cases c3 : a0_0 = a1_0
 ·
  rw [if_pos c3] at H
  have c3b0 : (a0_0 == a1_0) = true:=beq_iff_eq.mpr c3
  have c3b1 : (a0_0 != a1_0) = false:=bne_eq_false_iff_eq.mpr c3
  clear c3
  by_cases c4 : a0_1 = a1_1
  ·
   rw [if_pos c4] at H
   have c4b0 : (a0_1 == a1_1) = true:=beq_iff_eq.mpr c4
   have c4b1 : (a0_1 != a1_1) = false:=bne_eq_false_iff_eq.mpr c4
   clear c4
   obtain rfl:=sO H
   go_enter Try.func127,Try.ntmps127
   go_wp2_with (first|((with_reducible refine gate_dst (N:=2) rfl ?_);refine box_event ?hg (N:=2) ?hd (cs:=#[.int .i64 a0_0,.int .i64 a0_1]) (t:=73) ?hr ?_;(case hd => rfl);(case hg => rfl);(case hr => first|(go_simp;done)|(go_simp;rfl));intro gb166 hg w5 hbox hb;have n0_:=qg2 (sN (by repeat (first|(with_reducible first|exact HB.out|apply qc2|apply qd2|apply qe2)|exact HB.out)) hb);have n1_:=qg2 (hbox);have n2_:=qg2 ((by rw [hg];exact (qh2 (by repeat (first|(with_reducible first|exact HB.out|apply qc2|apply qd2|apply qe2)|exact HB.out))) : w.heap.size ≤ gb166));have n3_:=qg2 ((by rw [hg];exact (qh2 (by repeat (first|(with_reducible first|exact HB.out|apply qc2|apply qd2|apply qe2)|exact HB.out))) : w.heap.size ≤ gb166));clear HB;have HB:=n0_;have BK166:=n1_;have GW166:=n2_;have GE166:=n3_;clear n0_ n1_ n2_ n3_;clear hb hbox hg)|((with_reducible refine gate_dst (N:=3) rfl ?_);refine box_event ?hg (N:=3) ?hd (cs:=#[.int .i64 a1_0,.int .i64 a1_1]) (t:=73) ?hr ?_;(case hd => rfl);(case hg => rfl);(case hr => first|(go_simp;done)|(go_simp;rfl));intro gb167 hg w6 hbox hb;have n0_:=qg2 (blk_below (g:=gb166) (o:=.cells #[.int .i64 a0_0,.int .i64 a0_1] 73 (0,0)) (by (with_reducible repeat (first|apply qa2|apply blk_drew|apply qb2));exact BK166.out) hb);have n1_:=qg2 (sN (by repeat (first|(with_reducible first|exact HB.out|apply qc2|apply qd2|apply qe2|refine qf2 ?_ GE166.out)|exact HB.out)) hb);have n2_:=qg2 (hbox);have n3_:=qg2 ((by rw [hg];exact (qh2 (by repeat (first|(with_reducible first|exact HB.out|apply qc2|apply qd2|apply qe2|refine qf2 ?_ GE166.out)|exact HB.out))) : w.heap.size ≤ gb167));have n4_:=qg2 ((by rw [hg];exact (qh2 (by repeat (first|(with_reducible first|exact HB.out|apply qc2|apply qd2|apply qe2|refine qf2 ?_ GE166.out)|exact HB.out))) : w.heap.size ≤ gb167));have n5_:=qg2 ((by rw [hg];exact Nat.ne_of_lt (blk_lt (g:=gb166) (o:=.cells #[.int .i64 a0_0,.int .i64 a0_1] 73 (0,0)) (by (with_reducible repeat (first|apply qa2|apply blk_drew|apply qb2));exact BK166.out)) : gb166 ≠ gb167));have n6_:=qg2 ((by rw [hg];exact Nat.ne_of_gt (blk_lt (g:=gb166) (o:=.cells #[.int .i64 a0_0,.int .i64 a0_1] 73 (0,0)) (by (with_reducible repeat (first|apply qa2|apply blk_drew|apply qb2));exact BK166.out)) : gb167 ≠ gb166));clear BK166;clear HB;have BK166:=n0_;have HB:=n1_;have BK167:=n2_;have GW167:=n3_;have GE167:=n4_;have NB166_167:=n5_;have NB167_166:=n6_;clear n0_ n1_ n2_ n3_ n4_ n5_ n6_;clear hb hbox hg;have hnb7:=NB166_167.out;have hnc7:=NB167_166.out;have hcz8_0 : w6.cell? ⟨gb166,0,none⟩ = some (.int .i64 a0_0):=(blk_cell BK166.out 0).trans rfl;have hcz8_1 : w6.cell? ⟨gb166,1,none⟩ = some (.int .i64 a0_1):=(blk_cell BK166.out 1).trans rfl;have hfz8_0:=sJ BK166.out 0;have hfz8_1:=sJ BK166.out 1;have hcz9_0 : w6.cell? ⟨gb167,0,none⟩ = some (.int .i64 a1_0):=(blk_cell BK167.out 0).trans rfl;have hcz9_1 : w6.cell? ⟨gb167,1,none⟩ = some (.int .i64 a1_1):=(blk_cell BK167.out 1).trans rfl;have hfz9_0:=sJ BK167.out 0;have hfz9_1:=sJ BK167.out 1))
   go_ret
   exact ⟨by first|rfl|(simp [errW_none,errW_some] <;> rfl)|(simp [*,errW_none,errW_some] <;> rfl),by repeat (first|(with_reducible first|exact HB.out|apply qc2|apply qd2|apply qe2|refine qf2 ?_ GE166.out|refine qf2 ?_ GE167.out)|exact HB.out)⟩
  ·
   rw [if_neg c4] at H
   have c4b0 : (a0_1 == a1_1) = false:=beq_eq_false_iff_ne.mpr c4
   have c4b1 : (a0_1 != a1_1) = true:=bne_iff_ne.mpr c4
   obtain rfl:=sO H
   go_enter Try.func127,Try.ntmps127
   go_wp2_with (first|((with_reducible refine gate_dst (N:=2) rfl ?_);refine box_event ?hg (N:=2) ?hd (cs:=#[.int .i64 a0_0,.int .i64 a0_1]) (t:=73) ?hr ?_;(case hd => rfl);(case hg => rfl);(case hr => first|(go_simp;done)|(go_simp;rfl));intro gb166 hg w10 hbox hb;have n0_:=qg2 (sN (by repeat (first|(with_reducible first|exact HB.out|apply qc2|apply qd2|apply qe2)|exact HB.out)) hb);have n1_:=qg2 (hbox);have n2_:=qg2 ((by rw [hg];exact (qh2 (by repeat (first|(with_reducible first|exact HB.out|apply qc2|apply qd2|apply qe2)|exact HB.out))) : w.heap.size ≤ gb166));have n3_:=qg2 ((by rw [hg];exact (qh2 (by repeat (first|(with_reducible first|exact HB.out|apply qc2|apply qd2|apply qe2)|exact HB.out))) : w.heap.size ≤ gb166));clear HB;have HB:=n0_;have BK166:=n1_;have GW166:=n2_;have GE166:=n3_;clear n0_ n1_ n2_ n3_;clear hb hbox hg)|((with_reducible refine gate_dst (N:=3) rfl ?_);refine box_event ?hg (N:=3) ?hd (cs:=#[.int .i64 a1_0,.int .i64 a1_1]) (t:=73) ?hr ?_;(case hd => rfl);(case hg => rfl);(case hr => first|(go_simp;done)|(go_simp;rfl));intro gb167 hg w11 hbox hb;have n0_:=qg2 (blk_below (g:=gb166) (o:=.cells #[.int .i64 a0_0,.int .i64 a0_1] 73 (0,0)) (by (with_reducible repeat (first|apply qa2|apply blk_drew|apply qb2));exact BK166.out) hb);have n1_:=qg2 (sN (by repeat (first|(with_reducible first|exact HB.out|apply qc2|apply qd2|apply qe2|refine qf2 ?_ GE166.out)|exact HB.out)) hb);have n2_:=qg2 (hbox);have n3_:=qg2 ((by rw [hg];exact (qh2 (by repeat (first|(with_reducible first|exact HB.out|apply qc2|apply qd2|apply qe2|refine qf2 ?_ GE166.out)|exact HB.out))) : w.heap.size ≤ gb167));have n4_:=qg2 ((by rw [hg];exact (qh2 (by repeat (first|(with_reducible first|exact HB.out|apply qc2|apply qd2|apply qe2|refine qf2 ?_ GE166.out)|exact HB.out))) : w.heap.size ≤ gb167));have n5_:=qg2 ((by rw [hg];exact Nat.ne_of_lt (blk_lt (g:=gb166) (o:=.cells #[.int .i64 a0_0,.int .i64 a0_1] 73 (0,0)) (by (with_reducible repeat (first|apply qa2|apply blk_drew|apply qb2));exact BK166.out)) : gb166 ≠ gb167));have n6_:=qg2 ((by rw [hg];exact Nat.ne_of_gt (blk_lt (g:=gb166) (o:=.cells #[.int .i64 a0_0,.int .i64 a0_1] 73 (0,0)) (by (with_reducible repeat (first|apply qa2|apply blk_drew|apply qb2));exact BK166.out)) : gb167 ≠ gb166));clear BK166;clear HB;have BK166:=n0_;have HB:=n1_;have BK167:=n2_;have GW167:=n3_;have GE167:=n4_;have NB166_167:=n5_;have NB167_166:=n6_;clear n0_ n1_ n2_ n3_ n4_ n5_ n6_;clear hb hbox hg;have hnb12:=NB166_167.out;have hnc12:=NB167_166.out;have hcz13_0 : w11.cell? ⟨gb166,0,none⟩ = some (.int .i64 a0_0):=(blk_cell BK166.out 0).trans rfl;have hcz13_1 : w11.cell? ⟨gb166,1,none⟩ = some (.int .i64 a0_1):=(blk_cell BK166.out 1).trans rfl;have hfz13_0:=sJ BK166.out 0;have hfz13_1:=sJ BK166.out 1;have hcz14_0 : w11.cell? ⟨gb167,0,none⟩ = some (.int .i64 a1_0):=(blk_cell BK167.out 0).trans rfl;have hcz14_1 : w11.cell? ⟨gb167,1,none⟩ = some (.int .i64 a1_1):=(blk_cell BK167.out 1).trans rfl;have hfz14_0:=sJ BK167.out 0;have hfz14_1:=sJ BK167.out 1))
   go_ret
   exact ⟨by first|rfl|(simp [errW_none,errW_some] <;> rfl)|(simp [*,errW_none,errW_some] <;> rfl),by repeat (first|(with_reducible first|exact HB.out|apply qc2|apply qd2|apply qe2|refine qf2 ?_ GE166.out|refine qf2 ?_ GE167.out)|exact HB.out)⟩
 ·
  rw [if_neg c3] at H
  have c3b0 : (a0_0 == a1_0) = false:=beq_eq_false_iff_ne.mpr c3
  have c3b1 : (a0_0 != a1_0) = true:=bne_iff_ne.mpr c3
  obtain rfl:=sO H
  go_enter Try.func127,Try.ntmps127
  go_wp2_with (first|((with_reducible refine gate_dst (N:=2) rfl ?_);refine box_event ?hg (N:=2) ?hd (cs:=#[.int .i64 a0_0,.int .i64 a0_1]) (t:=73) ?hr ?_;(case hd => rfl);(case hg => rfl);(case hr => first|(go_simp;done)|(go_simp;rfl));intro gb166 hg w15 hbox hb;have n0_:=qg2 (sN (by repeat (first|(with_reducible first|exact HB.out|apply qc2|apply qd2|apply qe2)|exact HB.out)) hb);have n1_:=qg2 (hbox);have n2_:=qg2 ((by rw [hg];exact (qh2 (by repeat (first|(with_reducible first|exact HB.out|apply qc2|apply qd2|apply qe2)|exact HB.out))) : w.heap.size ≤ gb166));have n3_:=qg2 ((by rw [hg];exact (qh2 (by repeat (first|(with_reducible first|exact HB.out|apply qc2|apply qd2|apply qe2)|exact HB.out))) : w.heap.size ≤ gb166));clear HB;have HB:=n0_;have BK166:=n1_;have GW166:=n2_;have GE166:=n3_;clear n0_ n1_ n2_ n3_;clear hb hbox hg)|((with_reducible refine gate_dst (N:=3) rfl ?_);refine box_event ?hg (N:=3) ?hd (cs:=#[.int .i64 a1_0,.int .i64 a1_1]) (t:=73) ?hr ?_;(case hd => rfl);(case hg => rfl);(case hr => first|(go_simp;done)|(go_simp;rfl));intro gb167 hg w16 hbox hb;have n0_:=qg2 (blk_below (g:=gb166) (o:=.cells #[.int .i64 a0_0,.int .i64 a0_1] 73 (0,0)) (by (with_reducible repeat (first|apply qa2|apply blk_drew|apply qb2));exact BK166.out) hb);have n1_:=qg2 (sN (by repeat (first|(with_reducible first|exact HB.out|apply qc2|apply qd2|apply qe2|refine qf2 ?_ GE166.out)|exact HB.out)) hb);have n2_:=qg2 (hbox);have n3_:=qg2 ((by rw [hg];exact (qh2 (by repeat (first|(with_reducible first|exact HB.out|apply qc2|apply qd2|apply qe2|refine qf2 ?_ GE166.out)|exact HB.out))) : w.heap.size ≤ gb167));have n4_:=qg2 ((by rw [hg];exact (qh2 (by repeat (first|(with_reducible first|exact HB.out|apply qc2|apply qd2|apply qe2|refine qf2 ?_ GE166.out)|exact HB.out))) : w.heap.size ≤ gb167));have n5_:=qg2 ((by rw [hg];exact Nat.ne_of_lt (blk_lt (g:=gb166) (o:=.cells #[.int .i64 a0_0,.int .i64 a0_1] 73 (0,0)) (by (with_reducible repeat (first|apply qa2|apply blk_drew|apply qb2));exact BK166.out)) : gb166 ≠ gb167));have n6_:=qg2 ((by rw [hg];exact Nat.ne_of_gt (blk_lt (g:=gb166) (o:=.cells #[.int .i64 a0_0,.int .i64 a0_1] 73 (0,0)) (by (with_reducible repeat (first|apply qa2|apply blk_drew|apply qb2));exact BK166.out)) : gb167 ≠ gb166));clear BK166;clear HB;have BK166:=n0_;have HB:=n1_;have BK167:=n2_;have GW167:=n3_;have GE167:=n4_;have NB166_167:=n5_;have NB167_166:=n6_;clear n0_ n1_ n2_ n3_ n4_ n5_ n6_;clear hb hbox hg;have hnb17:=NB166_167.out;have hnc17:=NB167_166.out;have hcz18_0 : w16.cell? ⟨gb166,0,none⟩ = some (.int .i64 a0_0):=(blk_cell BK166.out 0).trans rfl;have hcz18_1 : w16.cell? ⟨gb166,1,none⟩ = some (.int .i64 a0_1):=(blk_cell BK166.out 1).trans rfl;have hfz18_0:=sJ BK166.out 0;have hfz18_1:=sJ BK166.out 1;have hcz19_0 : w16.cell? ⟨gb167,0,none⟩ = some (.int .i64 a1_0):=(blk_cell BK167.out 0).trans rfl;have hcz19_1 : w16.cell? ⟨gb167,1,none⟩ = some (.int .i64 a1_1):=(blk_cell BK167.out 1).trans rfl;have hfz19_0:=sJ BK167.out 0;have hfz19_1:=sJ BK167.out 1))
  go_ret
  exact ⟨by first|rfl|(simp [errW_none,errW_some] <;> rfl)|(simp [*,errW_none,errW_some] <;> rfl),by repeat (first|(with_reducible first|exact HB.out|apply qc2|apply qd2|apply qe2|refine qf2 ?_ GE166.out|refine qf2 ?_ GE167.out)|exact HB.out)⟩

/-! ### laws_eqWaiterS: function 107 -/
def laws_eqWaiterS.l0 : Nat → List (S73) → List (S73) → Int → Option (Bool)
 | 0,_,_,_ => none
 | k + 1,x0,x1,x5 => if x5 < (x0.length : Int) then (if 0 ≤ x5 then (if x5 < (x1.length : Int) then ((laws_eqWaiter.f ((rd_T73 x0 x5).f0) ((rd_T73 x0 x5).f1) ((rd_T73 x1 x5).f0) ((rd_T73 x1 x5).f1)).bind fun t170 => (if t170 = true then (laws_eqWaiterS.l0 k x0 x1 (wrap64 (x5 + 1))) else (some false))) else (none)) else (none)) else (some true)
def laws_eqWaiterS.f (k : Nat) (l0 : List (S73)) (l1 : List (S73)) : Option (Bool):=if (l0.length : Int) = (l1.length : Int) then (laws_eqWaiterS.l0 k l0 l1 0) else (some false)
def laws_eqWaiterS.T6 : Bool × List (List Nat × List Nat):=(true,[([],[]),([],[]),([0,1],[0,1]),([2],[2]),([],[]),([],[]),([4,5],[4,5]),([6],[6]),([3,7],[3,7]),([8],[8])])
def laws_eqWaiterS.B6 : List Nat:=[0,0,3,7,0,0,48,112,255,511]
theorem laws_eqWaiterS.tab6 : rtab .any (opsOf Try.f107 6) = laws_eqWaiterS.T6:=by kernel_rfl
theorem laws_eqWaiterS.bits6 : waitsOk laws_eqWaiterS.T6.2 laws_eqWaiterS.B6 = true:=by kernel_rfl
set_option maxHeartbeats 8000000 in
set_option maxRecDepth 100000 in
theorem laws_eqWaiterS.calls (k : Nat) (A0 : Option Addr) (c0 : Nat) (l0 : List (S73)) (A1 : Option Addr) (c1 : Nat) (l1 : List (S73)) (r : Bool) (w : World) (hr0 : Kd.C k73 w A0 l0.length l0) (hc0 : l0.length ≤ c0) (hr1 : Kd.C k73 w A1 l1.length l1) (hc1 : l1.length ≤ c1) (h : laws_eqWaiterS.f k l0 l1 = some r) :
  Calls Try.prog 107 #[.slice A0 l0.length c0,.slice A1 l1.length c1] w fun e w' => e = .returned (.bool r) ∧ Below w.heap.size w w':=by
 have hu73:=Try.underlying73
 have HR0:=qg2 hr0
 have HC0:=qg2 hc0
 clear hr0 hc0
 have HR1:=qg2 hr1
 have HC1:=qg2 hc1
 clear hr1 hc1
 have HB:=qg2 (Below.refl w.heap.size w)
 have H : (if (l0.length : Int) = (l1.length : Int) then (laws_eqWaiterS.l0 k l0 l1 0) else (some false)) = some r:=h
 clear h
 by_cases c3 : (l0.length : Int) = (l1.length : Int)
 ·
  rw [if_pos c3] at H
  have c3b0 : ((l0.length : Int) == (l1.length : Int)) = true:=beq_iff_eq.mpr c3
  have c3b1 : ((l0.length : Int) != (l1.length : Int)) = false:=bne_eq_false_iff_eq.mpr c3
  have c3b2 : (l0.length == l1.length) = true:=by first|simpa using c3|(simp at c3 ⊢;omega)
  clear c3
  have H':=qg2 H
  clear H
  go_enter Try.func107,Try.ntmps107
  go_wp2
  go_loopg [5] k (fun kq v5 w' => ∃ (x5_1 : Int),v5 = .int .i64 x5_1 ∧ Aside0 (laws_eqWaiterS.l0 kq l0 l1 x5_1 = some r) ∧ Aside0 (kq ≤ k) ∧ Aside0 (Below w.heap.size w w'))
  case atStart => exact ⟨(0),(by first|rfl|(simp;done)|(simp [*];done)),H',⟨Nat.le_refl _⟩,⟨by repeat (first|(with_reducible first|exact HB.out|apply qc2|apply qd2|apply qe2)|exact HB.out)⟩⟩
  case round =>
   clear H'
   try clear c1
   try clear p2
   try clear c3
   try clear c3b0
   try clear c3b1
   try clear c3b2
   obtain ⟨x5_1,rfl,HA,HK1,HB⟩:=hrel
   cases gk with
   | zero => exact absurd HA.out (by simp [laws_eqWaiterS.l0])
   | succ k1 =>
    have H:=HA.out
    clear HA
    simp only [laws_eqWaiterS.l0] at H
    by_cases c4 : x5_1 < (l0.length : Int)
    ·
     rw [if_pos c4] at H
     have c4b0 : decide (x5_1 < (l0.length : Int)) = true:=decide_eq_true c4
     clear c4
     by_cases c5 : 0 ≤ x5_1
     ·
      rw [if_pos c5] at H
      have c5b0 : decide (0 ≤ x5_1) = true:=decide_eq_true c5
      clear c5
      by_cases c6 : x5_1 < (l1.length : Int)
      ·
       rw [if_pos c6] at H
       have c6b0 : decide (x5_1 < (l1.length : Int)) = true:=decide_eq_true c6
       clear c6
       replace H:=Option.bind_eq_some_iff.mp H
       obtain ⟨t170,A70,H⟩:=H
       replace H : (if t170 = true then (laws_eqWaiterS.l0 k1 l0 l1 (wrap64 (x5_1 + 1))) else (some false)) = some r:=H
       have A7:=qg2 A70
       clear A70
       by_cases c8 : t170 = true
       ·
        subst c8
        have H1 : (laws_eqWaiterS.l0 k1 l0 l1 (wrap64 (x5_1 + 1))) = some r:=by rw [if_pos rfl] at H;exact H
        clear H
        have H:=H1
        clear H1
        have H':=qg2 H
        clear H
        try go_wp2
        have n0_:=qg2 (qe2 HB.out)
        clear HB
        have HB:=n0_
        clear n0_
        have p168 : 0 ≤ (x5_1 : Int):=sM (by first|(with_reducible assumption)|assumption)
        have q168 : x5_1 < (l0.length : Int):=sM (by first|(with_reducible assumption)|assumption)
        obtain ⟨ad168,e168,hx168_0,hx168_1⟩:=at_T73 HR0.out x5_1 p168 q168
        have hw168_1:=hx168_1
        have hw168_0:=hx168_0
        cases e168
        replace hx168_0:=(HB.out.cell (sD w _ hx168_0)).trans hx168_0
        replace hx168_1:=(HB.out.cell (sD w _ hx168_1)).trans hx168_1
        replace p168:=eq_true p168
        replace q168:=eq_true q168
        have p169 : 0 ≤ (x5_1 : Int):=sM (by first|(with_reducible assumption)|assumption)
        have q169 : x5_1 < (l1.length : Int):=sM (by first|(with_reducible assumption)|assumption)
        obtain ⟨ad169,e169,hx169_0,hx169_1⟩:=at_T73 HR1.out x5_1 p169 q169
        have hw169_1:=hx169_1
        have hw169_0:=hx169_0
        cases e169
        replace hx169_0:=(HB.out.cell (sD w _ hx169_0)).trans hx169_0
        replace hx169_1:=(HB.out.cell (sD w _ hx169_1)).trans hx169_1
        replace p169:=eq_true p169
        replace q169:=eq_true q169
        refine start_ (n:=10) (S:=fun w' => w'.cell? (ad168.add ((x5_1).toNat * 2)) = some (.int .i64 ((rd_T73 l0 x5_1).f0)) ∧ w'.cell? ⟨(ad168.add ((x5_1).toNat * 2)).block,(ad168.add ((x5_1).toNat * 2)).off + 1,none⟩ = some (.int .i64 ((rd_T73 l0 x5_1).f1)) ∧ w'.cell? (ad169.add ((x5_1).toNat * 2)) = some (.int .i64 ((rd_T73 l1 x5_1).f0)) ∧ w'.cell? ⟨(ad169.add ((x5_1).toNat * 2)).block,(ad169.add ((x5_1).toNat * 2)).off + 1,none⟩ = some (.int .i64 ((rd_T73 l1 x5_1).f1))) (ds:=[]) #[false,false,false,false,false,false,false,false,false,false] (by kernel_rfl) rfl rfl ⟨((HB.out.cell (sD w _ hw168_0)).trans hw168_0),((HB.out.cell (sD w _ hw168_1)).trans hw168_1),((HB.out.cell (sD w _ hw169_0)).trans hw169_0),((HB.out.cell (sD w _ hw169_1)).trans hw169_1)⟩ (fun hHeld => ?_);refine with_tabW laws_eqWaiterS.tab6 laws_eqWaiterS.bits6 (fun HT_ HW_ => ?_)
        generalize wr.drew = w9 at HB hx168_0 hx168_1 hx169_0 hx169_1 hHeld ⊢
        refine pure_ (i:=0) (N:=some 17) (v:=?_) (a':=?_) #[true,false,false,false,false,false,false,false,false,false] rfl rfl (any_of HT_.out (by kernel_rfl)) (fun _ _ _ h => h) (Or.inl ⟨by rfl,?_⟩) ?_ ?_
        rotate_left
        ·
         intro w'
         go_simp
         with_reducible rfl
        rotate_left
        ·
         simp only [Act.put,sA,sB,sC,i64_w,i32_w]
         rfl
        refine pure_ (i:=1) (N:=some 18) (v:=?_) (a':=?_) #[true,true,false,false,false,false,false,false,false,false] rfl rfl (any_of HT_.out (by kernel_rfl)) (fun _ _ _ h => h) (Or.inl ⟨by rfl,?_⟩) ?_ ?_
        rotate_left
        ·
         intro w'
         go_simp
         with_reducible rfl
        rotate_left
        ·
         simp only [Act.put,sA,sB,sC,i64_w,i32_w]
         rfl
        refine pure_ (i:=2) (N:=some 19) (v:=?_) (a':=?_) #[true,true,true,false,false,false,false,false,false,false] rfl rfl (any_of HT_.out (by kernel_rfl)) (fun _ _ _ h => h) (Or.inl ⟨by rfl,?_⟩) ?_ ?_
        rotate_left
        ·
         intro w'
         go_simp
         with_reducible rfl
        rotate_left
        ·
         simp only [Act.put,sA,sB,sC,i64_w,i32_w]
         rfl
        refine pure_ (i:=4) (N:=some 21) (v:=?_) (a':=?_) #[true,true,true,false,true,false,false,false,false,false] rfl rfl (any_of HT_.out (by kernel_rfl)) (fun _ _ _ h => h) (Or.inl ⟨by rfl,?_⟩) ?_ ?_
        rotate_left
        ·
         intro w'
         go_simp
         with_reducible rfl
        rotate_left
        ·
         simp only [Act.put,sA,sB,sC,i64_w,i32_w]
         rfl
        refine pure_ (i:=5) (N:=some 22) (v:=?_) (a':=?_) #[true,true,true,false,true,true,false,false,false,false] rfl rfl (any_of HT_.out (by kernel_rfl)) (fun _ _ _ h => h) (Or.inl ⟨by rfl,?_⟩) ?_ ?_
        rotate_left
        ·
         intro w'
         go_simp
         with_reducible rfl
        rotate_left
        ·
         simp only [Act.put,sA,sB,sC,i64_w,i32_w]
         rfl
        refine pure_ (i:=6) (N:=some 23) (v:=?_) (a':=?_) #[true,true,true,false,true,true,true,false,false,false] rfl rfl (any_of HT_.out (by kernel_rfl)) (fun _ _ _ h => h) (Or.inl ⟨by rfl,?_⟩) ?_ ?_
        rotate_left
        ·
         intro w'
         go_simp
         with_reducible rfl
        rotate_left
        ·
         simp only [Act.put,sA,sB,sC,i64_w,i32_w]
         rfl
        refine take_ (i:=3) (N:=some 20) (v:=?_) (a':=?_) #[true,true,true,true,true,true,true,false,false,false] rfl rfl (take_ofW HT_.out HW_.out (by kernel_rfl)) (fun _ _ _ h => h) (Or.inl ⟨by rfl,?_⟩) hHeld ?_ ?_
        rotate_left
        ·
         rintro w' ⟨s0,s1,s2,s3⟩
         go_simp
         with_reducible rfl
        rotate_left
        ·
         simp only [Act.put,sA,sB,sC,i64_w,i32_w]
         rfl
        refine take_ (i:=7) (N:=some 24) (v:=?_) (a':=?_) #[true,true,true,true,true,true,true,true,false,false] rfl rfl (take_ofW HT_.out HW_.out (by kernel_rfl)) (fun _ _ _ h => h) (Or.inl ⟨by rfl,?_⟩) hHeld ?_ ?_
        rotate_left
        ·
         rintro w' ⟨s0,s1,s2,s3⟩
         go_simp
         with_reducible rfl
        rotate_left
        ·
         simp only [Act.put,sA,sB,sC,i64_w,i32_w]
         rfl
        refine one_ (i:=8) (N:=some 25) #[true,true,true,true,true,true,true,true,true,false] rfl rfl (one_of HT_.out (by kernel_rfl)) (by decide) (fun K hK => ?_)
        refine goes_ Try.func127 (by kernel_rfl) rfl #[.agg #[.int .i64 ((rd_T73 l0 x5_1).f0),.int .i64 ((rd_T73 l0 x5_1).f1)],.agg #[.int .i64 ((rd_T73 l1 x5_1).f0),.int .i64 ((rd_T73 l1 x5_1).f1)]] (by rfl) rfl rfl (by (try simp only [sE,sH,sI]);first|done|rfl|(simp only [sG,sF];rfl)) ?_
        with_reducible refine (laws_eqWaiter.calls ((rd_T73 l0 x5_1).f0) ((rd_T73 l0 x5_1).f1) ((rd_T73 l1 x5_1).f0) ((rd_T73 l1 x5_1).f1) true _ A7.out).mono ?_
        rintro e w10 ⟨rfl,hb⟩
        refine ⟨_,rfl,?_⟩
        have n0_:=qg2 (sN (by repeat (first|(with_reducible first|exact HB.out|apply qc2|apply qd2|apply qe2)|exact HB.out)) hb)
        clear HB
        have HB:=n0_
        clear n0_
        (try clear hb)
        (try clear hb2)
        (try clear hk)
        (try clear hi)
        refine hK.out _ _ ⟨((HB.out.cell (sD w _ hw168_0)).trans hw168_0),((HB.out.cell (sD w _ hw168_1)).trans hw168_1),((HB.out.cell (sD w _ hw169_0)).trans hw169_0),((HB.out.cell (sD w _ hw169_1)).trans hw169_1)⟩ (fun hHeld => ?_)
        clear hK K
        refine norm_ (a':=?_) ?_ ?_
        rotate_left
        ·
         show Act.put _ (some 25) _ = _
         simp only [Act.put,sA,sB,sC,i64_w,i32_w]
         rfl
        refine pure_ (i:=9) (N:=some 26) (v:=?_) (a':=?_) #[true,true,true,true,true,true,true,true,true,true] rfl rfl (any_of HT_.out (by kernel_rfl)) (fun _ _ _ h => h) (Or.inl ⟨by rfl,?_⟩) ?_ ?_
        rotate_left
        ·
         intro w'
         go_simp
         with_reducible rfl
        rotate_left
        ·
         simp only [Act.put,sA,sB,sC,i64_w,i32_w]
         rfl
        refine done_ (done_of HT_.out (by kernel_rfl)) ?_
        try go_wp2
        go_roundg k1
        case measure => have:=HK1.out;omega
        case rel => exact ⟨(wrap64 (x5_1 + 1)),(by first|rfl|(simp;done)|(simp [*];done)),H',⟨by have:=HK1.out;omega⟩,⟨by repeat (first|(with_reducible first|exact HB.out|apply qc2|apply qd2|apply qe2)|exact HB.out)⟩⟩
       ·
        replace c8:=Bool.eq_false_iff.mpr c8
        subst c8
        have H1 : (some false) = some r:=by rw [if_neg (show ¬ (false = true) by decide)] at H;exact H
        clear H
        have H:=H1
        clear H1
        obtain rfl:=sO H
        try go_wp2
        have n0_:=qg2 (qe2 HB.out)
        clear HB
        have HB:=n0_
        clear n0_
        have p168 : 0 ≤ (x5_1 : Int):=sM (by first|(with_reducible assumption)|assumption)
        have q168 : x5_1 < (l0.length : Int):=sM (by first|(with_reducible assumption)|assumption)
        obtain ⟨ad168,e168,hx168_0,hx168_1⟩:=at_T73 HR0.out x5_1 p168 q168
        have hw168_1:=hx168_1
        have hw168_0:=hx168_0
        cases e168
        replace hx168_0:=(HB.out.cell (sD w _ hx168_0)).trans hx168_0
        replace hx168_1:=(HB.out.cell (sD w _ hx168_1)).trans hx168_1
        replace p168:=eq_true p168
        replace q168:=eq_true q168
        have p169 : 0 ≤ (x5_1 : Int):=sM (by first|(with_reducible assumption)|assumption)
        have q169 : x5_1 < (l1.length : Int):=sM (by first|(with_reducible assumption)|assumption)
        obtain ⟨ad169,e169,hx169_0,hx169_1⟩:=at_T73 HR1.out x5_1 p169 q169
        have hw169_1:=hx169_1
        have hw169_0:=hx169_0
        cases e169
        replace hx169_0:=(HB.out.cell (sD w _ hx169_0)).trans hx169_0
        replace hx169_1:=(HB.out.cell (sD w _ hx169_1)).trans hx169_1
        replace p169:=eq_true p169
        replace q169:=eq_true q169
        refine start_ (n:=10) (S:=fun w' => w'.cell? (ad168.add ((x5_1).toNat * 2)) = some (.int .i64 ((rd_T73 l0 x5_1).f0)) ∧ w'.cell? ⟨(ad168.add ((x5_1).toNat * 2)).block,(ad168.add ((x5_1).toNat * 2)).off + 1,none⟩ = some (.int .i64 ((rd_T73 l0 x5_1).f1)) ∧ w'.cell? (ad169.add ((x5_1).toNat * 2)) = some (.int .i64 ((rd_T73 l1 x5_1).f0)) ∧ w'.cell? ⟨(ad169.add ((x5_1).toNat * 2)).block,(ad169.add ((x5_1).toNat * 2)).off + 1,none⟩ = some (.int .i64 ((rd_T73 l1 x5_1).f1))) (ds:=[]) #[false,false,false,false,false,false,false,false,false,false] (by kernel_rfl) rfl rfl ⟨((HB.out.cell (sD w _ hw168_0)).trans hw168_0),((HB.out.cell (sD w _ hw168_1)).trans hw168_1),((HB.out.cell (sD w _ hw169_0)).trans hw169_0),((HB.out.cell (sD w _ hw169_1)).trans hw169_1)⟩ (fun hHeld => ?_);refine with_tabW laws_eqWaiterS.tab6 laws_eqWaiterS.bits6 (fun HT_ HW_ => ?_)
        generalize wr.drew = w11 at HB hx168_0 hx168_1 hx169_0 hx169_1 hHeld ⊢
        refine pure_ (i:=0) (N:=some 17) (v:=?_) (a':=?_) #[true,false,false,false,false,false,false,false,false,false] rfl rfl (any_of HT_.out (by kernel_rfl)) (fun _ _ _ h => h) (Or.inl ⟨by rfl,?_⟩) ?_ ?_
        rotate_left
        ·
         intro w'
         go_simp
         with_reducible rfl
        rotate_left
        ·
         simp only [Act.put,sA,sB,sC,i64_w,i32_w]
         rfl
        refine pure_ (i:=1) (N:=some 18) (v:=?_) (a':=?_) #[true,true,false,false,false,false,false,false,false,false] rfl rfl (any_of HT_.out (by kernel_rfl)) (fun _ _ _ h => h) (Or.inl ⟨by rfl,?_⟩) ?_ ?_
        rotate_left
        ·
         intro w'
         go_simp
         with_reducible rfl
        rotate_left
        ·
         simp only [Act.put,sA,sB,sC,i64_w,i32_w]
         rfl
        refine pure_ (i:=2) (N:=some 19) (v:=?_) (a':=?_) #[true,true,true,false,false,false,false,false,false,false] rfl rfl (any_of HT_.out (by kernel_rfl)) (fun _ _ _ h => h) (Or.inl ⟨by rfl,?_⟩) ?_ ?_
        rotate_left
        ·
         intro w'
         go_simp
         with_reducible rfl
        rotate_left
        ·
         simp only [Act.put,sA,sB,sC,i64_w,i32_w]
         rfl
        refine pure_ (i:=4) (N:=some 21) (v:=?_) (a':=?_) #[true,true,true,false,true,false,false,false,false,false] rfl rfl (any_of HT_.out (by kernel_rfl)) (fun _ _ _ h => h) (Or.inl ⟨by rfl,?_⟩) ?_ ?_
        rotate_left
        ·
         intro w'
         go_simp
         with_reducible rfl
        rotate_left
        ·
         simp only [Act.put,sA,sB,sC,i64_w,i32_w]
         rfl
        refine pure_ (i:=5) (N:=some 22) (v:=?_) (a':=?_) #[true,true,true,false,true,true,false,false,false,false] rfl rfl (any_of HT_.out (by kernel_rfl)) (fun _ _ _ h => h) (Or.inl ⟨by rfl,?_⟩) ?_ ?_
        rotate_left
        ·
         intro w'
         go_simp
         with_reducible rfl
        rotate_left
        ·
         simp only [Act.put,sA,sB,sC,i64_w,i32_w]
         rfl
        refine pure_ (i:=6) (N:=some 23) (v:=?_) (a':=?_) #[true,true,true,false,true,true,true,false,false,false] rfl rfl (any_of HT_.out (by kernel_rfl)) (fun _ _ _ h => h) (Or.inl ⟨by rfl,?_⟩) ?_ ?_
        rotate_left
        ·
         intro w'
         go_simp
         with_reducible rfl
        rotate_left
        ·
         simp only [Act.put,sA,sB,sC,i64_w,i32_w]
         rfl
        refine take_ (i:=3) (N:=some 20) (v:=?_) (a':=?_) #[true,true,true,true,true,true,true,false,false,false] rfl rfl (take_ofW HT_.out HW_.out (by kernel_rfl)) (fun _ _ _ h => h) (Or.inl ⟨by rfl,?_⟩) hHeld ?_ ?_
        rotate_left
        ·
         rintro w' ⟨s0,s1,s2,s3⟩
         go_simp
         with_reducible rfl
        rotate_left
        ·
         simp only [Act.put,sA,sB,sC,i64_w,i32_w]
         rfl
        refine take_ (i:=7) (N:=some 24) (v:=?_) (a':=?_) #[true,true,true,true,true,true,true,true,false,false] rfl rfl (take_ofW HT_.out HW_.out (by kernel_rfl)) (fun _ _ _ h => h) (Or.inl ⟨by rfl,?_⟩) hHeld ?_ ?_
        rotate_left
        ·
         rintro w' ⟨s0,s1,s2,s3⟩
         go_simp
         with_reducible rfl
        rotate_left
        ·
         simp only [Act.put,sA,sB,sC,i64_w,i32_w]
         rfl
        refine one_ (i:=8) (N:=some 25) #[true,true,true,true,true,true,true,true,true,false] rfl rfl (one_of HT_.out (by kernel_rfl)) (by decide) (fun K hK => ?_)
        refine goes_ Try.func127 (by kernel_rfl) rfl #[.agg #[.int .i64 ((rd_T73 l0 x5_1).f0),.int .i64 ((rd_T73 l0 x5_1).f1)],.agg #[.int .i64 ((rd_T73 l1 x5_1).f0),.int .i64 ((rd_T73 l1 x5_1).f1)]] (by rfl) rfl rfl (by (try simp only [sE,sH,sI]);first|done|rfl|(simp only [sG,sF];rfl)) ?_
        with_reducible refine (laws_eqWaiter.calls ((rd_T73 l0 x5_1).f0) ((rd_T73 l0 x5_1).f1) ((rd_T73 l1 x5_1).f0) ((rd_T73 l1 x5_1).f1) false _ A7.out).mono ?_
        rintro e w12 ⟨rfl,hb⟩
        refine ⟨_,rfl,?_⟩
        have n0_:=qg2 (sN (by repeat (first|(with_reducible first|exact HB.out|apply qc2|apply qd2|apply qe2)|exact HB.out)) hb)
        clear HB
        have HB:=n0_
        clear n0_
        (try clear hb)
        (try clear hb2)
        (try clear hk)
        (try clear hi)
        refine hK.out _ _ ⟨((HB.out.cell (sD w _ hw168_0)).trans hw168_0),((HB.out.cell (sD w _ hw168_1)).trans hw168_1),((HB.out.cell (sD w _ hw169_0)).trans hw169_0),((HB.out.cell (sD w _ hw169_1)).trans hw169_1)⟩ (fun hHeld => ?_)
        clear hK K
        refine norm_ (a':=?_) ?_ ?_
        rotate_left
        ·
         show Act.put _ (some 25) _ = _
         simp only [Act.put,sA,sB,sC,i64_w,i32_w]
         rfl
        refine pure_ (i:=9) (N:=some 26) (v:=?_) (a':=?_) #[true,true,true,true,true,true,true,true,true,true] rfl rfl (any_of HT_.out (by kernel_rfl)) (fun _ _ _ h => h) (Or.inl ⟨by rfl,?_⟩) ?_ ?_
        rotate_left
        ·
         intro w'
         go_simp
         with_reducible rfl
        rotate_left
        ·
         simp only [Act.put,sA,sB,sC,i64_w,i32_w]
         rfl
        refine done_ (done_of HT_.out (by kernel_rfl)) ?_
        try go_wp2
        go_ret
        exact ⟨by first|rfl|(simp [errW_none,errW_some] <;> rfl)|(simp [*,errW_none,errW_some] <;> rfl),by repeat (first|(with_reducible first|exact HB.out|apply qc2|apply qd2|apply qe2)|exact HB.out)⟩
      ·
       rw [if_neg c6] at H
       exact absurd H (by simp)
     ·
      rw [if_neg c5] at H
      exact absurd H (by simp)
    ·
     rw [if_neg c4] at H
     have c4b0 : decide (x5_1 < (l0.length : Int)) = false:=decide_eq_false c4
     clear c4
     obtain rfl:=sO H
     go_wp2
     go_ret
     exact ⟨by first|rfl|(simp [errW_none,errW_some] <;> rfl)|(simp [*,errW_none,errW_some] <;> rfl),by repeat (first|(with_reducible first|exact HB.out|apply qc2|apply qd2|apply qe2)|exact HB.out)⟩
 ·
  rw [if_neg c3] at H
  have c3b0 : ((l0.length : Int) == (l1.length : Int)) = false:=beq_eq_false_iff_ne.mpr c3
  have c3b1 : ((l0.length : Int) != (l1.length : Int)) = true:=bne_iff_ne.mpr c3
  have c3b2 : (l0.length == l1.length) = false:=by first|simpa using c3|(simp at c3 ⊢;omega)
  obtain rfl:=sO H
  go_enter Try.func107,Try.ntmps107
  go_wp2
  go_ret
  exact ⟨by first|rfl|(simp [errW_none,errW_some] <;> rfl)|(simp [*,errW_none,errW_some] <;> rfl),by repeat (first|(with_reducible first|exact HB.out|apply qc2|apply qd2|apply qe2)|exact HB.out)⟩

/-! ### laws_eqLock: function 77 -/
def laws_eqLock.f (k : Nat) (a0_0 : ByteArray) (a0_1 : Int) (a0_2 : Int) (a0_3 : Int) (l0_4 : List (S73)) (a1_0 : ByteArray) (a1_1 : Int) (a1_2 : Int) (a1_3 : Int) (l1_4 : List (S73)) : Option (Bool):=if a0_0.toList = a1_0.toList then (if a0_1 = a1_1 then (if a0_2 = a1_2 then (if a0_3 = a1_3 then ((laws_eqWaiterS.f k l0_4 l1_4).bind fun t173 => (if t173 = true then (some true) else (some false))) else (some false)) else (some false)) else (some false)) else (some false)
set_option maxHeartbeats 8000000 in
set_option maxRecDepth 100000 in
theorem laws_eqLock.calls (k : Nat) (a0_0 : ByteArray) (a0_1 : Int) (a0_2 : Int) (a0_3 : Int) (A0_4 : Option Addr) (c0_4 : Nat) (l0_4 : List (S73)) (a1_0 : ByteArray) (a1_1 : Int) (a1_2 : Int) (a1_3 : Int) (A1_4 : Option Addr) (c1_4 : Nat) (l1_4 : List (S73)) (r : Bool) (w : World) (hr0_4 : Kd.C k73 w A0_4 l0_4.length l0_4) (hc0_4 : l0_4.length ≤ c0_4) (hr1_4 : Kd.C k73 w A1_4 l1_4.length l1_4) (hc1_4 : l1_4.length ≤ c1_4) (h : laws_eqLock.f k a0_0 a0_1 a0_2 a0_3 l0_4 a1_0 a1_1 a1_2 a1_3 l1_4 = some r) :
  Calls Try.prog 77 #[.agg #[.string a0_0,.int .i64 a0_1,.int .i64 a0_2,.int .i64 a0_3,.slice A0_4 l0_4.length c0_4],.agg #[.string a1_0,.int .i64 a1_1,.int .i64 a1_2,.int .i64 a1_3,.slice A1_4 l1_4.length c1_4]] w fun e w' => e = .returned (.bool r) ∧ Below w.heap.size w w':=by
 have hu70:=Try.underlying70
 have HR0_4:=qg2 hr0_4
 have HC0_4:=qg2 hc0_4
 clear hr0_4 hc0_4
 have HR1_4:=qg2 hr1_4
 have HC1_4:=qg2 hc1_4
 clear hr1_4 hc1_4
 have HB:=qg2 (Below.refl w.heap.size w)
 have H : (if a0_0.toList = a1_0.toList then (if a0_1 = a1_1 then (if a0_2 = a1_2 then (if a0_3 = a1_3 then ((laws_eqWaiterS.f k l0_4 l1_4).bind fun t173 => (if t173 = true then (some true) else (some false))) else (some false)) else (some false)) else (some false)) else (some false)) = some r:=h
 clear h
 by_cases c3 : a0_0.toList = a1_0.toList
 ·
  rw [if_pos c3] at H
  have c3b0 : (a0_0.toList == a1_0.toList) = true:=beq_iff_eq.mpr c3
  have c3b1 : (a0_0.toList != a1_0.toList) = false:=bne_eq_false_iff_eq.mpr c3
  clear c3
  by_cases c4 : a0_1 = a1_1
  ·
   rw [if_pos c4] at H
   have c4b0 : (a0_1 == a1_1) = true:=beq_iff_eq.mpr c4
   have c4b1 : (a0_1 != a1_1) = false:=bne_eq_false_iff_eq.mpr c4
   clear c4
   by_cases c5 : a0_2 = a1_2
   ·
    rw [if_pos c5] at H
    have c5b0 : (a0_2 == a1_2) = true:=beq_iff_eq.mpr c5
    have c5b1 : (a0_2 != a1_2) = false:=bne_eq_false_iff_eq.mpr c5
    clear c5
    by_cases c6 : a0_3 = a1_3
    ·
     rw [if_pos c6] at H
     have c6b0 : (a0_3 == a1_3) = true:=beq_iff_eq.mpr c6
     have c6b1 : (a0_3 != a1_3) = false:=bne_eq_false_iff_eq.mpr c6
     clear c6
     replace H:=Option.bind_eq_some_iff.mp H
     obtain ⟨t173,A70,H⟩:=H
     replace H : (if t173 = true then (some true) else (some false)) = some r:=H
     have A7:=qg2 A70
     clear A70
     by_cases c8 : t173 = true
     ·
      subst c8
      have H1 : (some true) = some r:=by rw [if_pos rfl] at H;exact H
      clear H
      have H:=H1
      clear H1
      obtain rfl:=sO H
      go_enter Try.func77,Try.ntmps77
      go_wp2_with (first|((with_reducible refine gate_dst (N:=2) rfl ?_);refine box_event ?hg (N:=2) ?hd (cs:=#[.string a0_0,.int .i64 a0_1,.int .i64 a0_2,.int .i64 a0_3,.slice A0_4 l0_4.length c0_4]) (t:=70) ?hr ?_;(case hd => rfl);(case hg => rfl);(case hr => first|(go_simp;done)|(go_simp;rfl));intro gb171 hg w9 hbox hb;have n0_:=qg2 (sN (by repeat (first|(with_reducible first|exact HB.out|apply qc2|apply qd2|apply qe2)|exact HB.out)) hb);have n1_:=qg2 (hbox);have n2_:=qg2 ((by rw [hg];exact (qh2 (by repeat (first|(with_reducible first|exact HB.out|apply qc2|apply qd2|apply qe2)|exact HB.out))) : w.heap.size ≤ gb171));have n3_:=qg2 ((by rw [hg];exact (qh2 (by repeat (first|(with_reducible first|exact HB.out|apply qc2|apply qd2|apply qe2)|exact HB.out))) : w.heap.size ≤ gb171));clear HB;have HB:=n0_;have BK171:=n1_;have GW171:=n2_;have GE171:=n3_;clear n0_ n1_ n2_ n3_;clear hb hbox hg)|((with_reducible refine gate_dst (N:=3) rfl ?_);refine box_event ?hg (N:=3) ?hd (cs:=#[.string a1_0,.int .i64 a1_1,.int .i64 a1_2,.int .i64 a1_3,.slice A1_4 l1_4.length c1_4]) (t:=70) ?hr ?_;(case hd => rfl);(case hg => rfl);(case hr => first|(go_simp;done)|(go_simp;rfl));intro gb172 hg w10 hbox hb;have n0_:=qg2 (blk_below (g:=gb171) (o:=.cells #[.string a0_0,.int .i64 a0_1,.int .i64 a0_2,.int .i64 a0_3,.slice A0_4 l0_4.length c0_4] 70 (0,0)) (by (with_reducible repeat (first|apply qa2|apply blk_drew|apply qb2));exact BK171.out) hb);have n1_:=qg2 (sN (by repeat (first|(with_reducible first|exact HB.out|apply qc2|apply qd2|apply qe2|refine qf2 ?_ GE171.out)|exact HB.out)) hb);have n2_:=qg2 (hbox);have n3_:=qg2 ((by rw [hg];exact (qh2 (by repeat (first|(with_reducible first|exact HB.out|apply qc2|apply qd2|apply qe2|refine qf2 ?_ GE171.out)|exact HB.out))) : w.heap.size ≤ gb172));have n4_:=qg2 ((by rw [hg];exact (qh2 (by repeat (first|(with_reducible first|exact HB.out|apply qc2|apply qd2|apply qe2|refine qf2 ?_ GE171.out)|exact HB.out))) : w.heap.size ≤ gb172));have n5_:=qg2 ((by rw [hg];exact Nat.ne_of_lt (blk_lt (g:=gb171) (o:=.cells #[.string a0_0,.int .i64 a0_1,.int .i64 a0_2,.int .i64 a0_3,.slice A0_4 l0_4.length c0_4] 70 (0,0)) (by (with_reducible repeat (first|apply qa2|apply blk_drew|apply qb2));exact BK171.out)) : gb171 ≠ gb172));have n6_:=qg2 ((by rw [hg];exact Nat.ne_of_gt (blk_lt (g:=gb171) (o:=.cells #[.string a0_0,.int .i64 a0_1,.int .i64 a0_2,.int .i64 a0_3,.slice A0_4 l0_4.length c0_4] 70 (0,0)) (by (with_reducible repeat (first|apply qa2|apply blk_drew|apply qb2));exact BK171.out)) : gb172 ≠ gb171));clear BK171;clear HB;have BK171:=n0_;have HB:=n1_;have BK172:=n2_;have GW172:=n3_;have GE172:=n4_;have NB171_172:=n5_;have NB172_171:=n6_;clear n0_ n1_ n2_ n3_ n4_ n5_ n6_;clear hb hbox hg;have hnb11:=NB171_172.out;have hnc11:=NB172_171.out;have hcz12_0 : w10.cell? ⟨gb171,0,none⟩ = some (.string a0_0):=(blk_cell BK171.out 0).trans rfl;have hcz12_1 : w10.cell? ⟨gb171,1,none⟩ = some (.int .i64 a0_1):=(blk_cell BK171.out 1).trans rfl;have hcz12_2 : w10.cell? ⟨gb171,2,none⟩ = some (.int .i64 a0_2):=(blk_cell BK171.out 2).trans rfl;have hcz12_3 : w10.cell? ⟨gb171,3,none⟩ = some (.int .i64 a0_3):=(blk_cell BK171.out 3).trans rfl;have hcz12_4 : w10.cell? ⟨gb171,4,none⟩ = some (.slice A0_4 l0_4.length c0_4):=(blk_cell BK171.out 4).trans rfl;have hfz12_0:=sJ BK171.out 0;have hfz12_1:=sJ BK171.out 1;have hfz12_2:=sJ BK171.out 2;have hfz12_3:=sJ BK171.out 3;have hfz12_4:=sJ BK171.out 4;have hcz13_0 : w10.cell? ⟨gb172,0,none⟩ = some (.string a1_0):=(blk_cell BK172.out 0).trans rfl;have hcz13_1 : w10.cell? ⟨gb172,1,none⟩ = some (.int .i64 a1_1):=(blk_cell BK172.out 1).trans rfl;have hcz13_2 : w10.cell? ⟨gb172,2,none⟩ = some (.int .i64 a1_2):=(blk_cell BK172.out 2).trans rfl;have hcz13_3 : w10.cell? ⟨gb172,3,none⟩ = some (.int .i64 a1_3):=(blk_cell BK172.out 3).trans rfl;have hcz13_4 : w10.cell? ⟨gb172,4,none⟩ = some (.slice A1_4 l1_4.length c1_4):=(blk_cell BK172.out 4).trans rfl;have hfz13_0:=sJ BK172.out 0;have hfz13_1:=sJ BK172.out 1;have hfz13_2:=sJ BK172.out 2;have hfz13_3:=sJ BK172.out 3;have hfz13_4:=sJ BK172.out 4)|((with_reducible refine gate_callee (f:=107) rfl ?_);refine goesL_ (some 29) rfl rfl Try.func107 (by kernel_rfl) rfl #[.slice A0_4 l0_4.length c0_4,.slice A1_4 l1_4.length c1_4] rfl (by (try simp only [sE,sH,sI]);first|done|rfl|(simp only [sG,sF];rfl)) ?_;(with_reducible refine (laws_eqWaiterS.calls k _ _ l0_4 _ _ l1_4 true _ ?side1 ?side2 ?side3 ?side4 A7.out).mono ?_);(case side1 => repeat (first|exact (Kd.C_below HR0_4.out HB.out)|(with_reducible refine Kd.C_alloc ?_ _)|(with_reducible refine Kd.C_drewN ?_ _)|(with_reducible refine Kd.C_drew ?_)));(case side2 => exact HC0_4.out);(case side3 => repeat (first|exact (Kd.C_below HR1_4.out HB.out)|(with_reducible refine Kd.C_alloc ?_ _)|(with_reducible refine Kd.C_drewN ?_ _)|(with_reducible refine Kd.C_drew ?_)));(case side4 => exact HC1_4.out);rintro e w14 ⟨rfl,hb⟩;refine ⟨_,rfl,?_⟩;have n0_:=qg2 (blk_below (g:=gb171) (o:=.cells #[.string a0_0,.int .i64 a0_1,.int .i64 a0_2,.int .i64 a0_3,.slice A0_4 l0_4.length c0_4] 70 (0,0)) (by (with_reducible repeat (first|apply qa2|apply blk_drew|apply qb2));exact BK171.out) hb);have n1_:=qg2 (blk_below (g:=gb172) (o:=.cells #[.string a1_0,.int .i64 a1_1,.int .i64 a1_2,.int .i64 a1_3,.slice A1_4 l1_4.length c1_4] 70 (0,0)) (by (with_reducible repeat (first|apply qa2|apply blk_drew|apply qb2));exact BK172.out) hb);have n2_:=qg2 (sN (by repeat (first|(with_reducible first|exact HB.out|apply qc2|apply qd2|apply qe2|refine qf2 ?_ GE171.out|refine qf2 ?_ GE172.out)|exact HB.out)) hb);clear BK171;clear BK172;clear HB;have BK171:=n0_;have BK172:=n1_;have HB:=n2_;clear n0_ n1_ n2_;(try clear hb);(try clear hb2);(try clear hk);(try clear hi)))
      go_ret
      exact ⟨by first|rfl|(simp [errW_none,errW_some] <;> rfl)|(simp [*,errW_none,errW_some] <;> rfl),by repeat (first|(with_reducible first|exact HB.out|apply qc2|apply qd2|apply qe2|refine qf2 ?_ GE171.out|refine qf2 ?_ GE172.out)|exact HB.out)⟩
     ·
      replace c8:=Bool.eq_false_iff.mpr c8
      subst c8
      have H1 : (some false) = some r:=by rw [if_neg (show ¬ (false = true) by decide)] at H;exact H
      clear H
      have H:=H1
      clear H1
      obtain rfl:=sO H
      go_enter Try.func77,Try.ntmps77
      go_wp2_with (first|((with_reducible refine gate_dst (N:=2) rfl ?_);refine box_event ?hg (N:=2) ?hd (cs:=#[.string a0_0,.int .i64 a0_1,.int .i64 a0_2,.int .i64 a0_3,.slice A0_4 l0_4.length c0_4]) (t:=70) ?hr ?_;(case hd => rfl);(case hg => rfl);(case hr => first|(go_simp;done)|(go_simp;rfl));intro gb171 hg w15 hbox hb;have n0_:=qg2 (sN (by repeat (first|(with_reducible first|exact HB.out|apply qc2|apply qd2|apply qe2)|exact HB.out)) hb);have n1_:=qg2 (hbox);have n2_:=qg2 ((by rw [hg];exact (qh2 (by repeat (first|(with_reducible first|exact HB.out|apply qc2|apply qd2|apply qe2)|exact HB.out))) : w.heap.size ≤ gb171));have n3_:=qg2 ((by rw [hg];exact (qh2 (by repeat (first|(with_reducible first|exact HB.out|apply qc2|apply qd2|apply qe2)|exact HB.out))) : w.heap.size ≤ gb171));clear HB;have HB:=n0_;have BK171:=n1_;have GW171:=n2_;have GE171:=n3_;clear n0_ n1_ n2_ n3_;clear hb hbox hg)|((with_reducible refine gate_dst (N:=3) rfl ?_);refine box_event ?hg (N:=3) ?hd (cs:=#[.string a1_0,.int .i64 a1_1,.int .i64 a1_2,.int .i64 a1_3,.slice A1_4 l1_4.length c1_4]) (t:=70) ?hr ?_;(case hd => rfl);(case hg => rfl);(case hr => first|(go_simp;done)|(go_simp;rfl));intro gb172 hg w16 hbox hb;have n0_:=qg2 (blk_below (g:=gb171) (o:=.cells #[.string a0_0,.int .i64 a0_1,.int .i64 a0_2,.int .i64 a0_3,.slice A0_4 l0_4.length c0_4] 70 (0,0)) (by (with_reducible repeat (first|apply qa2|apply blk_drew|apply qb2));exact BK171.out) hb);have n1_:=qg2 (sN (by repeat (first|(with_reducible first|exact HB.out|apply qc2|apply qd2|apply qe2|refine qf2 ?_ GE171.out)|exact HB.out)) hb);have n2_:=qg2 (hbox);have n3_:=qg2 ((by rw [hg];exact (qh2 (by repeat (first|(with_reducible first|exact HB.out|apply qc2|apply qd2|apply qe2|refine qf2 ?_ GE171.out)|exact HB.out))) : w.heap.size ≤ gb172));have n4_:=qg2 ((by rw [hg];exact (qh2 (by repeat (first|(with_reducible first|exact HB.out|apply qc2|apply qd2|apply qe2|refine qf2 ?_ GE171.out)|exact HB.out))) : w.heap.size ≤ gb172));have n5_:=qg2 ((by rw [hg];exact Nat.ne_of_lt (blk_lt (g:=gb171) (o:=.cells #[.string a0_0,.int .i64 a0_1,.int .i64 a0_2,.int .i64 a0_3,.slice A0_4 l0_4.length c0_4] 70 (0,0)) (by (with_reducible repeat (first|apply qa2|apply blk_drew|apply qb2));exact BK171.out)) : gb171 ≠ gb172));have n6_:=qg2 ((by rw [hg];exact Nat.ne_of_gt (blk_lt (g:=gb171) (o:=.cells #[.string a0_0,.int .i64 a0_1,.int .i64 a0_2,.int .i64 a0_3,.slice A0_4 l0_4.length c0_4] 70 (0,0)) (by (with_reducible repeat (first|apply qa2|apply blk_drew|apply qb2));exact BK171.out)) : gb172 ≠ gb171));clear BK171;clear HB;have BK171:=n0_;have HB:=n1_;have BK172:=n2_;have GW172:=n3_;have GE172:=n4_;have NB171_172:=n5_;have NB172_171:=n6_;clear n0_ n1_ n2_ n3_ n4_ n5_ n6_;clear hb hbox hg;have hnb17:=NB171_172.out;have hnc17:=NB172_171.out;have hcz18_0 : w16.cell? ⟨gb171,0,none⟩ = some (.string a0_0):=(blk_cell BK171.out 0).trans rfl;have hcz18_1 : w16.cell? ⟨gb171,1,none⟩ = some (.int .i64 a0_1):=(blk_cell BK171.out 1).trans rfl;have hcz18_2 : w16.cell? ⟨gb171,2,none⟩ = some (.int .i64 a0_2):=(blk_cell BK171.out 2).trans rfl;have hcz18_3 : w16.cell? ⟨gb171,3,none⟩ = some (.int .i64 a0_3):=(blk_cell BK171.out 3).trans rfl;have hcz18_4 : w16.cell? ⟨gb171,4,none⟩ = some (.slice A0_4 l0_4.length c0_4):=(blk_cell BK171.out 4).trans rfl;have hfz18_0:=sJ BK171.out 0;have hfz18_1:=sJ BK171.out 1;have hfz18_2:=sJ BK171.out 2;have hfz18_3:=sJ BK171.out 3;have hfz18_4:=sJ BK171.out 4;have hcz19_0 : w16.cell? ⟨gb172,0,none⟩ = some (.string a1_0):=(blk_cell BK172.out 0).trans rfl;have hcz19_1 : w16.cell? ⟨gb172,1,none⟩ = some (.int .i64 a1_1):=(blk_cell BK172.out 1).trans rfl;have hcz19_2 : w16.cell? ⟨gb172,2,none⟩ = some (.int .i64 a1_2):=(blk_cell BK172.out 2).trans rfl;have hcz19_3 : w16.cell? ⟨gb172,3,none⟩ = some (.int .i64 a1_3):=(blk_cell BK172.out 3).trans rfl;have hcz19_4 : w16.cell? ⟨gb172,4,none⟩ = some (.slice A1_4 l1_4.length c1_4):=(blk_cell BK172.out 4).trans rfl;have hfz19_0:=sJ BK172.out 0;have hfz19_1:=sJ BK172.out 1;have hfz19_2:=sJ BK172.out 2;have hfz19_3:=sJ BK172.out 3;have hfz19_4:=sJ BK172.out 4)|((with_reducible refine gate_callee (f:=107) rfl ?_);refine goesL_ (some 29) rfl rfl Try.func107 (by kernel_rfl) rfl #[.slice A0_4 l0_4.length c0_4,.slice A1_4 l1_4.length c1_4] rfl (by (try simp only [sE,sH,sI]);first|done|rfl|(simp only [sG,sF];rfl)) ?_;(with_reducible refine (laws_eqWaiterS.calls k _ _ l0_4 _ _ l1_4 false _ ?side1 ?side2 ?side3 ?side4 A7.out).mono ?_);(case side1 => repeat (first|exact (Kd.C_below HR0_4.out HB.out)|(with_reducible refine Kd.C_alloc ?_ _)|(with_reducible refine Kd.C_drewN ?_ _)|(with_reducible refine Kd.C_drew ?_)));(case side2 => exact HC0_4.out);(case side3 => repeat (first|exact (Kd.C_below HR1_4.out HB.out)|(with_reducible refine Kd.C_alloc ?_ _)|(with_reducible refine Kd.C_drewN ?_ _)|(with_reducible refine Kd.C_drew ?_)));(case side4 => exact HC1_4.out);rintro e w20 ⟨rfl,hb⟩;refine ⟨_,rfl,?_⟩;have n0_:=qg2 (blk_below (g:=gb171) (o:=.cells #[.string a0_0,.int .i64 a0_1,.int .i64 a0_2,.int .i64 a0_3,.slice A0_4 l0_4.length c0_4] 70 (0,0)) (by (with_reducible repeat (first|apply qa2|apply blk_drew|apply qb2));exact BK171.out) hb);have n1_:=qg2 (blk_below (g:=gb172) (o:=.cells #[.string a1_0,.int .i64 a1_1,.int .i64 a1_2,.int .i64 a1_3,.slice A1_4 l1_4.length c1_4] 70 (0,0)) (by (with_reducible repeat (first|apply qa2|apply blk_drew|apply qb2));exact BK172.out) hb);have n2_:=qg2 (sN (by repeat (first|(with_reducible first|exact HB.out|apply qc2|apply qd2|apply qe2|refine qf2 ?_ GE171.out|refine qf2 ?_ GE172.out)|exact HB.out)) hb);clear BK171;clear BK172;clear HB;have BK171:=n0_;have BK172:=n1_;have HB:=n2_;clear n0_ n1_ n2_;(try clear hb);(try clear hb2);(try clear hk);(try clear hi)))
      go_ret
      exact ⟨by first|rfl|(simp [errW_none,errW_some] <;> rfl)|(simp [*,errW_none,errW_some] <;> rfl),by repeat (first|(with_reducible first|exact HB.out|apply qc2|apply qd2|apply qe2|refine qf2 ?_ GE171.out|refine qf2 ?_ GE172.out)|exact HB.out)⟩
    ·
     rw [if_neg c6] at H
     have c6b0 : (a0_3 == a1_3) = false:=beq_eq_false_iff_ne.mpr c6
     have c6b1 : (a0_3 != a1_3) = true:=bne_iff_ne.mpr c6
     obtain rfl:=sO H
     go_enter Try.func77,Try.ntmps77
     go_wp2_with (first|((with_reducible refine gate_dst (N:=2) rfl ?_);refine box_event ?hg (N:=2) ?hd (cs:=#[.string a0_0,.int .i64 a0_1,.int .i64 a0_2,.int .i64 a0_3,.slice A0_4 l0_4.length c0_4]) (t:=70) ?hr ?_;(case hd => rfl);(case hg => rfl);(case hr => first|(go_simp;done)|(go_simp;rfl));intro gb171 hg w21 hbox hb;have n0_:=qg2 (sN (by repeat (first|(with_reducible first|exact HB.out|apply qc2|apply qd2|apply qe2)|exact HB.out)) hb);have n1_:=qg2 (hbox);have n2_:=qg2 ((by rw [hg];exact (qh2 (by repeat (first|(with_reducible first|exact HB.out|apply qc2|apply qd2|apply qe2)|exact HB.out))) : w.heap.size ≤ gb171));have n3_:=qg2 ((by rw [hg];exact (qh2 (by repeat (first|(with_reducible first|exact HB.out|apply qc2|apply qd2|apply qe2)|exact HB.out))) : w.heap.size ≤ gb171));clear HB;have HB:=n0_;have BK171:=n1_;have GW171:=n2_;have GE171:=n3_;clear n0_ n1_ n2_ n3_;clear hb hbox hg)|((with_reducible refine gate_dst (N:=3) rfl ?_);refine box_event ?hg (N:=3) ?hd (cs:=#[.string a1_0,.int .i64 a1_1,.int .i64 a1_2,.int .i64 a1_3,.slice A1_4 l1_4.length c1_4]) (t:=70) ?hr ?_;(case hd => rfl);(case hg => rfl);(case hr => first|(go_simp;done)|(go_simp;rfl));intro gb172 hg w22 hbox hb;have n0_:=qg2 (blk_below (g:=gb171) (o:=.cells #[.string a0_0,.int .i64 a0_1,.int .i64 a0_2,.int .i64 a0_3,.slice A0_4 l0_4.length c0_4] 70 (0,0)) (by (with_reducible repeat (first|apply qa2|apply blk_drew|apply qb2));exact BK171.out) hb);have n1_:=qg2 (sN (by repeat (first|(with_reducible first|exact HB.out|apply qc2|apply qd2|apply qe2|refine qf2 ?_ GE171.out)|exact HB.out)) hb);have n2_:=qg2 (hbox);have n3_:=qg2 ((by rw [hg];exact (qh2 (by repeat (first|(with_reducible first|exact HB.out|apply qc2|apply qd2|apply qe2|refine qf2 ?_ GE171.out)|exact HB.out))) : w.heap.size ≤ gb172));have n4_:=qg2 ((by rw [hg];exact (qh2 (by repeat (first|(with_reducible first|exact HB.out|apply qc2|apply qd2|apply qe2|refine qf2 ?_ GE171.out)|exact HB.out))) : w.heap.size ≤ gb172));have n5_:=qg2 ((by rw [hg];exact Nat.ne_of_lt (blk_lt (g:=gb171) (o:=.cells #[.string a0_0,.int .i64 a0_1,.int .i64 a0_2,.int .i64 a0_3,.slice A0_4 l0_4.length c0_4] 70 (0,0)) (by (with_reducible repeat (first|apply qa2|apply blk_drew|apply qb2));exact BK171.out)) : gb171 ≠ gb172));have n6_:=qg2 ((by rw [hg];exact Nat.ne_of_gt (blk_lt (g:=gb171) (o:=.cells #[.string a0_0,.int .i64 a0_1,.int .i64 a0_2,.int .i64 a0_3,.slice A0_4 l0_4.length c0_4] 70 (0,0)) (by (with_reducible repeat (first|apply qa2|apply blk_drew|apply qb2));exact BK171.out)) : gb172 ≠ gb171));clear BK171;clear HB;have BK171:=n0_;have HB:=n1_;have BK172:=n2_;have GW172:=n3_;have GE172:=n4_;have NB171_172:=n5_;have NB172_171:=n6_;clear n0_ n1_ n2_ n3_ n4_ n5_ n6_;clear hb hbox hg;have hnb23:=NB171_172.out;have hnc23:=NB172_171.out;have hcz24_0 : w22.cell? ⟨gb171,0,none⟩ = some (.string a0_0):=(blk_cell BK171.out 0).trans rfl;have hcz24_1 : w22.cell? ⟨gb171,1,none⟩ = some (.int .i64 a0_1):=(blk_cell BK171.out 1).trans rfl;have hcz24_2 : w22.cell? ⟨gb171,2,none⟩ = some (.int .i64 a0_2):=(blk_cell BK171.out 2).trans rfl;have hcz24_3 : w22.cell? ⟨gb171,3,none⟩ = some (.int .i64 a0_3):=(blk_cell BK171.out 3).trans rfl;have hcz24_4 : w22.cell? ⟨gb171,4,none⟩ = some (.slice A0_4 l0_4.length c0_4):=(blk_cell BK171.out 4).trans rfl;have hfz24_0:=sJ BK171.out 0;have hfz24_1:=sJ BK171.out 1;have hfz24_2:=sJ BK171.out 2;have hfz24_3:=sJ BK171.out 3;have hfz24_4:=sJ BK171.out 4;have hcz25_0 : w22.cell? ⟨gb172,0,none⟩ = some (.string a1_0):=(blk_cell BK172.out 0).trans rfl;have hcz25_1 : w22.cell? ⟨gb172,1,none⟩ = some (.int .i64 a1_1):=(blk_cell BK172.out 1).trans rfl;have hcz25_2 : w22.cell? ⟨gb172,2,none⟩ = some (.int .i64 a1_2):=(blk_cell BK172.out 2).trans rfl;have hcz25_3 : w22.cell? ⟨gb172,3,none⟩ = some (.int .i64 a1_3):=(blk_cell BK172.out 3).trans rfl;have hcz25_4 : w22.cell? ⟨gb172,4,none⟩ = some (.slice A1_4 l1_4.length c1_4):=(blk_cell BK172.out 4).trans rfl;have hfz25_0:=sJ BK172.out 0;have hfz25_1:=sJ BK172.out 1;have hfz25_2:=sJ BK172.out 2;have hfz25_3:=sJ BK172.out 3;have hfz25_4:=sJ BK172.out 4))
     go_ret
     exact ⟨by first|rfl|(simp [errW_none,errW_some] <;> rfl)|(simp [*,errW_none,errW_some] <;> rfl),by repeat (first|(with_reducible first|exact HB.out|apply qc2|apply qd2|apply qe2|refine qf2 ?_ GE171.out|refine qf2 ?_ GE172.out)|exact HB.out)⟩
   ·
    rw [if_neg c5] at H
    have c5b0 : (a0_2 == a1_2) = false:=beq_eq_false_iff_ne.mpr c5
    have c5b1 : (a0_2 != a1_2) = true:=bne_iff_ne.mpr c5
    obtain rfl:=sO H
    go_enter Try.func77,Try.ntmps77
    go_wp2_with (first|((with_reducible refine gate_dst (N:=2) rfl ?_);refine box_event ?hg (N:=2) ?hd (cs:=#[.string a0_0,.int .i64 a0_1,.int .i64 a0_2,.int .i64 a0_3,.slice A0_4 l0_4.length c0_4]) (t:=70) ?hr ?_;(case hd => rfl);(case hg => rfl);(case hr => first|(go_simp;done)|(go_simp;rfl));intro gb171 hg w26 hbox hb;have n0_:=qg2 (sN (by repeat (first|(with_reducible first|exact HB.out|apply qc2|apply qd2|apply qe2)|exact HB.out)) hb);have n1_:=qg2 (hbox);have n2_:=qg2 ((by rw [hg];exact (qh2 (by repeat (first|(with_reducible first|exact HB.out|apply qc2|apply qd2|apply qe2)|exact HB.out))) : w.heap.size ≤ gb171));have n3_:=qg2 ((by rw [hg];exact (qh2 (by repeat (first|(with_reducible first|exact HB.out|apply qc2|apply qd2|apply qe2)|exact HB.out))) : w.heap.size ≤ gb171));clear HB;have HB:=n0_;have BK171:=n1_;have GW171:=n2_;have GE171:=n3_;clear n0_ n1_ n2_ n3_;clear hb hbox hg)|((with_reducible refine gate_dst (N:=3) rfl ?_);refine box_event ?hg (N:=3) ?hd (cs:=#[.string a1_0,.int .i64 a1_1,.int .i64 a1_2,.int .i64 a1_3,.slice A1_4 l1_4.length c1_4]) (t:=70) ?hr ?_;(case hd => rfl);(case hg => rfl);(case hr => first|(go_simp;done)|(go_simp;rfl));intro gb172 hg w27 hbox hb;have n0_:=qg2 (blk_below (g:=gb171) (o:=.cells #[.string a0_0,.int .i64 a0_1,.int .i64 a0_2,.int .i64 a0_3,.slice A0_4 l0_4.length c0_4] 70 (0,0)) (by (with_reducible repeat (first|apply qa2|apply blk_drew|apply qb2));exact BK171.out) hb);have n1_:=qg2 (sN (by repeat (first|(with_reducible first|exact HB.out|apply qc2|apply qd2|apply qe2|refine qf2 ?_ GE171.out)|exact HB.out)) hb);have n2_:=qg2 (hbox);have n3_:=qg2 ((by rw [hg];exact (qh2 (by repeat (first|(with_reducible first|exact HB.out|apply qc2|apply qd2|apply qe2|refine qf2 ?_ GE171.out)|exact HB.out))) : w.heap.size ≤ gb172));have n4_:=qg2 ((by rw [hg];exact (qh2 (by repeat (first|(with_reducible first|exact HB.out|apply qc2|apply qd2|apply qe2|refine qf2 ?_ GE171.out)|exact HB.out))) : w.heap.size ≤ gb172));have n5_:=qg2 ((by rw [hg];exact Nat.ne_of_lt (blk_lt (g:=gb171) (o:=.cells #[.string a0_0,.int .i64 a0_1,.int .i64 a0_2,.int .i64 a0_3,.slice A0_4 l0_4.length c0_4] 70 (0,0)) (by (with_reducible repeat (first|apply qa2|apply blk_drew|apply qb2));exact BK171.out)) : gb171 ≠ gb172));have n6_:=qg2 ((by rw [hg];exact Nat.ne_of_gt (blk_lt (g:=gb171) (o:=.cells #[.string a0_0,.int .i64 a0_1,.int .i64 a0_2,.int .i64 a0_3,.slice A0_4 l0_4.length c0_4] 70 (0,0)) (by (with_reducible repeat (first|apply qa2|apply blk_drew|apply qb2));exact BK171.out)) : gb172 ≠ gb171));clear BK171;clear HB;have BK171:=n0_;have HB:=n1_;have BK172:=n2_;have GW172:=n3_;have GE172:=n4_;have NB171_172:=n5_;have NB172_171:=n6_;clear n0_ n1_ n2_ n3_ n4_ n5_ n6_;clear hb hbox hg;have hnb28:=NB171_172.out;have hnc28:=NB172_171.out;have hcz29_0 : w27.cell? ⟨gb171,0,none⟩ = some (.string a0_0):=(blk_cell BK171.out 0).trans rfl;have hcz29_1 : w27.cell? ⟨gb171,1,none⟩ = some (.int .i64 a0_1):=(blk_cell BK171.out 1).trans rfl;have hcz29_2 : w27.cell? ⟨gb171,2,none⟩ = some (.int .i64 a0_2):=(blk_cell BK171.out 2).trans rfl;have hcz29_3 : w27.cell? ⟨gb171,3,none⟩ = some (.int .i64 a0_3):=(blk_cell BK171.out 3).trans rfl;have hcz29_4 : w27.cell? ⟨gb171,4,none⟩ = some (.slice A0_4 l0_4.length c0_4):=(blk_cell BK171.out 4).trans rfl;have hfz29_0:=sJ BK171.out 0;have hfz29_1:=sJ BK171.out 1;have hfz29_2:=sJ BK171.out 2;have hfz29_3:=sJ BK171.out 3;have hfz29_4:=sJ BK171.out 4;have hcz30_0 : w27.cell? ⟨gb172,0,none⟩ = some (.string a1_0):=(blk_cell BK172.out 0).trans rfl;have hcz30_1 : w27.cell? ⟨gb172,1,none⟩ = some (.int .i64 a1_1):=(blk_cell BK172.out 1).trans rfl;have hcz30_2 : w27.cell? ⟨gb172,2,none⟩ = some (.int .i64 a1_2):=(blk_cell BK172.out 2).trans rfl;have hcz30_3 : w27.cell? ⟨gb172,3,none⟩ = some (.int .i64 a1_3):=(blk_cell BK172.out 3).trans rfl;have hcz30_4 : w27.cell? ⟨gb172,4,none⟩ = some (.slice A1_4 l1_4.length c1_4):=(blk_cell BK172.out 4).trans rfl;have hfz30_0:=sJ BK172.out 0;have hfz30_1:=sJ BK172.out 1;have hfz30_2:=sJ BK172.out 2;have hfz30_3:=sJ BK172.out 3;have hfz30_4:=sJ BK172.out 4))
    go_ret
    exact ⟨by first|rfl|(simp [errW_none,errW_some] <;> rfl)|(simp [*,errW_none,errW_some] <;> rfl),by repeat (first|(with_reducible first|exact HB.out|apply qc2|apply qd2|apply qe2|refine qf2 ?_ GE171.out|refine qf2 ?_ GE172.out)|exact HB.out)⟩
  ·
   rw [if_neg c4] at H
   have c4b0 : (a0_1 == a1_1) = false:=beq_eq_false_iff_ne.mpr c4
   have c4b1 : (a0_1 != a1_1) = true:=bne_iff_ne.mpr c4
   obtain rfl:=sO H
   go_enter Try.func77,Try.ntmps77
   go_wp2_with (first|((with_reducible refine gate_dst (N:=2) rfl ?_);refine box_event ?hg (N:=2) ?hd (cs:=#[.string a0_0,.int .i64 a0_1,.int .i64 a0_2,.int .i64 a0_3,.slice A0_4 l0_4.length c0_4]) (t:=70) ?hr ?_;(case hd => rfl);(case hg => rfl);(case hr => first|(go_simp;done)|(go_simp;rfl));intro gb171 hg w31 hbox hb;have n0_:=qg2 (sN (by repeat (first|(with_reducible first|exact HB.out|apply qc2|apply qd2|apply qe2)|exact HB.out)) hb);have n1_:=qg2 (hbox);have n2_:=qg2 ((by rw [hg];exact (qh2 (by repeat (first|(with_reducible first|exact HB.out|apply qc2|apply qd2|apply qe2)|exact HB.out))) : w.heap.size ≤ gb171));have n3_:=qg2 ((by rw [hg];exact (qh2 (by repeat (first|(with_reducible first|exact HB.out|apply qc2|apply qd2|apply qe2)|exact HB.out))) : w.heap.size ≤ gb171));clear HB;have HB:=n0_;have BK171:=n1_;have GW171:=n2_;have GE171:=n3_;clear n0_ n1_ n2_ n3_;clear hb hbox hg)|((with_reducible refine gate_dst (N:=3) rfl ?_);refine box_event ?hg (N:=3) ?hd (cs:=#[.string a1_0,.int .i64 a1_1,.int .i64 a1_2,.int .i64 a1_3,.slice A1_4 l1_4.length c1_4]) (t:=70) ?hr ?_;(case hd => rfl);(case hg => rfl);(case hr => first|(go_simp;done)|(go_simp;rfl));intro gb172 hg w32 hbox hb;have n0_:=qg2 (blk_below (g:=gb171) (o:=.cells #[.string a0_0,.int .i64 a0_1,.int .i64 a0_2,.int .i64 a0_3,.slice A0_4 l0_4.length c0_4] 70 (0,0)) (by (with_reducible repeat (first|apply qa2|apply blk_drew|apply qb2));exact BK171.out) hb);have n1_:=qg2 (sN (by repeat (first|(with_reducible first|exact HB.out|apply qc2|apply qd2|apply qe2|refine qf2 ?_ GE171.out)|exact HB.out)) hb);have n2_:=qg2 (hbox);have n3_:=qg2 ((by rw [hg];exact (qh2 (by repeat (first|(with_reducible first|exact HB.out|apply qc2|apply qd2|apply qe2|refine qf2 ?_ GE171.out)|exact HB.out))) : w.heap.size ≤ gb172));have n4_:=qg2 ((by rw [hg];exact (qh2 (by repeat (first|(with_reducible first|exact HB.out|apply qc2|apply qd2|apply qe2|refine qf2 ?_ GE171.out)|exact HB.out))) : w.heap.size ≤ gb172));have n5_:=qg2 ((by rw [hg];exact Nat.ne_of_lt (blk_lt (g:=gb171) (o:=.cells #[.string a0_0,.int .i64 a0_1,.int .i64 a0_2,.int .i64 a0_3,.slice A0_4 l0_4.length c0_4] 70 (0,0)) (by (with_reducible repeat (first|apply qa2|apply blk_drew|apply qb2));exact BK171.out)) : gb171 ≠ gb172));have n6_:=qg2 ((by rw [hg];exact Nat.ne_of_gt (blk_lt (g:=gb171) (o:=.cells #[.string a0_0,.int .i64 a0_1,.int .i64 a0_2,.int .i64 a0_3,.slice A0_4 l0_4.length c0_4] 70 (0,0)) (by (with_reducible repeat (first|apply qa2|apply blk_drew|apply qb2));exact BK171.out)) : gb172 ≠ gb171));clear BK171;clear HB;have BK171:=n0_;have HB:=n1_;have BK172:=n2_;have GW172:=n3_;have GE172:=n4_;have NB171_172:=n5_;have NB172_171:=n6_;clear n0_ n1_ n2_ n3_ n4_ n5_ n6_;clear hb hbox hg;have hnb33:=NB171_172.out;have hnc33:=NB172_171.out;have hcz34_0 : w32.cell? ⟨gb171,0,none⟩ = some (.string a0_0):=(blk_cell BK171.out 0).trans rfl;have hcz34_1 : w32.cell? ⟨gb171,1,none⟩ = some (.int .i64 a0_1):=(blk_cell BK171.out 1).trans rfl;have hcz34_2 : w32.cell? ⟨gb171,2,none⟩ = some (.int .i64 a0_2):=(blk_cell BK171.out 2).trans rfl;have hcz34_3 : w32.cell? ⟨gb171,3,none⟩ = some (.int .i64 a0_3):=(blk_cell BK171.out 3).trans rfl;have hcz34_4 : w32.cell? ⟨gb171,4,none⟩ = some (.slice A0_4 l0_4.length c0_4):=(blk_cell BK171.out 4).trans rfl;have hfz34_0:=sJ BK171.out 0;have hfz34_1:=sJ BK171.out 1;have hfz34_2:=sJ BK171.out 2;have hfz34_3:=sJ BK171.out 3;have hfz34_4:=sJ BK171.out 4;have hcz35_0 : w32.cell? ⟨gb172,0,none⟩ = some (.string a1_0):=(blk_cell BK172.out 0).trans rfl;have hcz35_1 : w32.cell? ⟨gb172,1,none⟩ = some (.int .i64 a1_1):=(blk_cell BK172.out 1).trans rfl;have hcz35_2 : w32.cell? ⟨gb172,2,none⟩ = some (.int .i64 a1_2):=(blk_cell BK172.out 2).trans rfl;have hcz35_3 : w32.cell? ⟨gb172,3,none⟩ = some (.int .i64 a1_3):=(blk_cell BK172.out 3).trans rfl;have hcz35_4 : w32.cell? ⟨gb172,4,none⟩ = some (.slice A1_4 l1_4.length c1_4):=(blk_cell BK172.out 4).trans rfl;have hfz35_0:=sJ BK172.out 0;have hfz35_1:=sJ BK172.out 1;have hfz35_2:=sJ BK172.out 2;have hfz35_3:=sJ BK172.out 3;have hfz35_4:=sJ BK172.out 4))
   go_ret
   exact ⟨by first|rfl|(simp [errW_none,errW_some] <;> rfl)|(simp [*,errW_none,errW_some] <;> rfl),by repeat (first|(with_reducible first|exact HB.out|apply qc2|apply qd2|apply qe2|refine qf2 ?_ GE171.out|refine qf2 ?_ GE172.out)|exact HB.out)⟩
 ·
  rw [if_neg c3] at H
  have c3b0 : (a0_0.toList == a1_0.toList) = false:=beq_eq_false_iff_ne.mpr c3
  have c3b1 : (a0_0.toList != a1_0.toList) = true:=bne_iff_ne.mpr c3
  obtain rfl:=sO H
  go_enter Try.func77,Try.ntmps77
  go_wp2_with (first|((with_reducible refine gate_dst (N:=2) rfl ?_);refine box_event ?hg (N:=2) ?hd (cs:=#[.string a0_0,.int .i64 a0_1,.int .i64 a0_2,.int .i64 a0_3,.slice A0_4 l0_4.length c0_4]) (t:=70) ?hr ?_;(case hd => rfl);(case hg => rfl);(case hr => first|(go_simp;done)|(go_simp;rfl));intro gb171 hg w36 hbox hb;have n0_:=qg2 (sN (by repeat (first|(with_reducible first|exact HB.out|apply qc2|apply qd2|apply qe2)|exact HB.out)) hb);have n1_:=qg2 (hbox);have n2_:=qg2 ((by rw [hg];exact (qh2 (by repeat (first|(with_reducible first|exact HB.out|apply qc2|apply qd2|apply qe2)|exact HB.out))) : w.heap.size ≤ gb171));have n3_:=qg2 ((by rw [hg];exact (qh2 (by repeat (first|(with_reducible first|exact HB.out|apply qc2|apply qd2|apply qe2)|exact HB.out))) : w.heap.size ≤ gb171));clear HB;have HB:=n0_;have BK171:=n1_;have GW171:=n2_;have GE171:=n3_;clear n0_ n1_ n2_ n3_;clear hb hbox hg)|((with_reducible refine gate_dst (N:=3) rfl ?_);refine box_event ?hg (N:=3) ?hd (cs:=#[.string a1_0,.int .i64 a1_1,.int .i64 a1_2,.int .i64 a1_3,.slice A1_4 l1_4.length c1_4]) (t:=70) ?hr ?_;(case hd => rfl);(case hg => rfl);(case hr => first|(go_simp;done)|(go_simp;rfl));intro gb172 hg w37 hbox hb;have n0_:=qg2 (blk_below (g:=gb171) (o:=.cells #[.string a0_0,.int .i64 a0_1,.int .i64 a0_2,.int .i64 a0_3,.slice A0_4 l0_4.length c0_4] 70 (0,0)) (by (with_reducible repeat (first|apply qa2|apply blk_drew|apply qb2));exact BK171.out) hb);have n1_:=qg2 (sN (by repeat (first|(with_reducible first|exact HB.out|apply qc2|apply qd2|apply qe2|refine qf2 ?_ GE171.out)|exact HB.out)) hb);have n2_:=qg2 (hbox);have n3_:=qg2 ((by rw [hg];exact (qh2 (by repeat (first|(with_reducible first|exact HB.out|apply qc2|apply qd2|apply qe2|refine qf2 ?_ GE171.out)|exact HB.out))) : w.heap.size ≤ gb172));have n4_:=qg2 ((by rw [hg];exact (qh2 (by repeat (first|(with_reducible first|exact HB.out|apply qc2|apply qd2|apply qe2|refine qf2 ?_ GE171.out)|exact HB.out))) : w.heap.size ≤ gb172));have n5_:=qg2 ((by rw [hg];exact Nat.ne_of_lt (blk_lt (g:=gb171) (o:=.cells #[.string a0_0,.int .i64 a0_1,.int .i64 a0_2,.int .i64 a0_3,.slice A0_4 l0_4.length c0_4] 70 (0,0)) (by (with_reducible repeat (first|apply qa2|apply blk_drew|apply qb2));exact BK171.out)) : gb171 ≠ gb172));have n6_:=qg2 ((by rw [hg];exact Nat.ne_of_gt (blk_lt (g:=gb171) (o:=.cells #[.string a0_0,.int .i64 a0_1,.int .i64 a0_2,.int .i64 a0_3,.slice A0_4 l0_4.length c0_4] 70 (0,0)) (by (with_reducible repeat (first|apply qa2|apply blk_drew|apply qb2));exact BK171.out)) : gb172 ≠ gb171));clear BK171;clear HB;have BK171:=n0_;have HB:=n1_;have BK172:=n2_;have GW172:=n3_;have GE172:=n4_;have NB171_172:=n5_;have NB172_171:=n6_;clear n0_ n1_ n2_ n3_ n4_ n5_ n6_;clear hb hbox hg;have hnb38:=NB171_172.out;have hnc38:=NB172_171.out;have hcz39_0 : w37.cell? ⟨gb171,0,none⟩ = some (.string a0_0):=(blk_cell BK171.out 0).trans rfl;have hcz39_1 : w37.cell? ⟨gb171,1,none⟩ = some (.int .i64 a0_1):=(blk_cell BK171.out 1).trans rfl;have hcz39_2 : w37.cell? ⟨gb171,2,none⟩ = some (.int .i64 a0_2):=(blk_cell BK171.out 2).trans rfl;have hcz39_3 : w37.cell? ⟨gb171,3,none⟩ = some (.int .i64 a0_3):=(blk_cell BK171.out 3).trans rfl;have hcz39_4 : w37.cell? ⟨gb171,4,none⟩ = some (.slice A0_4 l0_4.length c0_4):=(blk_cell BK171.out 4).trans rfl;have hfz39_0:=sJ BK171.out 0;have hfz39_1:=sJ BK171.out 1;have hfz39_2:=sJ BK171.out 2;have hfz39_3:=sJ BK171.out 3;have hfz39_4:=sJ BK171.out 4;have hcz40_0 : w37.cell? ⟨gb172,0,none⟩ = some (.string a1_0):=(blk_cell BK172.out 0).trans rfl;have hcz40_1 : w37.cell? ⟨gb172,1,none⟩ = some (.int .i64 a1_1):=(blk_cell BK172.out 1).trans rfl;have hcz40_2 : w37.cell? ⟨gb172,2,none⟩ = some (.int .i64 a1_2):=(blk_cell BK172.out 2).trans rfl;have hcz40_3 : w37.cell? ⟨gb172,3,none⟩ = some (.int .i64 a1_3):=(blk_cell BK172.out 3).trans rfl;have hcz40_4 : w37.cell? ⟨gb172,4,none⟩ = some (.slice A1_4 l1_4.length c1_4):=(blk_cell BK172.out 4).trans rfl;have hfz40_0:=sJ BK172.out 0;have hfz40_1:=sJ BK172.out 1;have hfz40_2:=sJ BK172.out 2;have hfz40_3:=sJ BK172.out 3;have hfz40_4:=sJ BK172.out 4))
  go_ret
  exact ⟨by first|rfl|(simp [errW_none,errW_some] <;> rfl)|(simp [*,errW_none,errW_some] <;> rfl),by repeat (first|(with_reducible first|exact HB.out|apply qc2|apply qd2|apply qe2|refine qf2 ?_ GE171.out|refine qf2 ?_ GE172.out)|exact HB.out)⟩

end Go.Proofs.Ytjkanhjapddhnaa.PFnExactSameTable
