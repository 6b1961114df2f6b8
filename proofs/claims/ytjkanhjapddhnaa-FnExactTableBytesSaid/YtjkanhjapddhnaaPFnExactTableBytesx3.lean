-- laid by this session's program myprint.py over the kit's printer
-- squeezed
-- aliased
import Derived.Test.YtjkanhjapddhnaaPFnExactTableBytesx0
import Derived.Test.YtjkanhjapddhnaaPFnExactTableBytesx2
namespace Go.Proofs.Ytjkanhjapddhnaa.PFnExactTableBytes
open Go.RowKit Go.Proofs.YtjkanhjapddhnaaV.PrintWords Go.Proofs.YtjkanhjapddhnaaV.PrintLast Go.Proofs.YtjkanhjapddhnaaV.PrintMore
attribute [local go_sem] max2_int min2_int max_two min_two max_three min_three max_four min_four u8_wm u32_wm   -- for this text's walks alone
set_option linter.unusedVariables false
set_option linter.unusedSimpArgs false

/-! ### spec_l05Answer: function 43 -/
theorem qa3 : type_of% @below_alloc:=@below_alloc
theorem qb3 : type_of% @pw_below_drewN:=@pw_below_drewN
theorem qc3 : type_of% @below_drew1:=@below_drew1
theorem qd3 : type_of% @Aside0.mk:=@Aside0.mk
def spec_l05Answer.f (a0_0 : Int) (a0_1 : Int) (a0_2 : Int) (a0_3 : Int) : Option (Bool):=(spec_l01In.f a0_0 1 8).bind fun t173 => (if t173 = true then ((spec_l01In.f a0_1 0 1000000).bind fun t174 => (if t174 = true then ((spec_l01In.f a0_2 (-1) 255).bind fun t175 => (if t175 = true then ((spec_l01In.f a0_3 0 2000000000).bind fun t176 => (some t176)) else (some false))) else (some false))) else (some false))
set_option maxHeartbeats 8000000 in
set_option maxRecDepth 100000 in
theorem spec_l05Answer.calls (a0_0 : Int) (a0_1 : Int) (a0_2 : Int) (a0_3 : Int) (r : Bool) (w : World) (h : spec_l05Answer.f a0_0 a0_1 a0_2 a0_3 = some r) :
  Calls Try.prog 43 #[.agg #[.int .i64 a0_0,.int .i64 a0_1,.int .i64 a0_2,.int .i64 a0_3]] w fun e w' => e = .returned (.bool r) ∧ Below w.heap.size w w':=by
 have hu75:=Try.underlying75
 have HB:=qd3 (Below.refl w.heap.size w)
 have H : ((spec_l01In.f a0_0 1 8).bind fun t173 => (if t173 = true then ((spec_l01In.f a0_1 0 1000000).bind fun t174 => (if t174 = true then ((spec_l01In.f a0_2 (-1) 255).bind fun t175 => (if t175 = true then ((spec_l01In.f a0_3 0 2000000000).bind fun t176 => (some t176)) else (some false))) else (some false))) else (some false))) = some r:=h
 clear h
 replace H:=Option.bind_eq_some_iff.mp H
 obtain ⟨t173,A20,H⟩:=H
 replace H : (if t173 = true then ((spec_l01In.f a0_1 0 1000000).bind fun t174 => (if t174 = true then ((spec_l01In.f a0_2 (-1) 255).bind fun t175 => (if t175 = true then ((spec_l01In.f a0_3 0 2000000000).bind fun t176 => (some t176)) else (some false))) else (some false))) else (some false)) = some r:=H
 have A2:=qd3 A20
 clear A20
 by_cases c3 : t173 = true
 ·
  subst c3
  have H1 : ((spec_l01In.f a0_1 0 1000000).bind fun t174 => (if t174 = true then ((spec_l01In.f a0_2 (-1) 255).bind fun t175 => (if t175 = true then ((spec_l01In.f a0_3 0 2000000000).bind fun t176 => (some t176)) else (some false))) else (some false))) = some r:=by rw [if_pos rfl] at H;exact H
  clear H
  have H:=H1
  clear H1
  replace H:=Option.bind_eq_some_iff.mp H
  obtain ⟨t174,A40,H⟩:=H
  replace H : (if t174 = true then ((spec_l01In.f a0_2 (-1) 255).bind fun t175 => (if t175 = true then ((spec_l01In.f a0_3 0 2000000000).bind fun t176 => (some t176)) else (some false))) else (some false)) = some r:=H
  have A4:=qd3 A40
  clear A40
  by_cases c5 : t174 = true
  ·
   subst c5
   have H1 : ((spec_l01In.f a0_2 (-1) 255).bind fun t175 => (if t175 = true then ((spec_l01In.f a0_3 0 2000000000).bind fun t176 => (some t176)) else (some false))) = some r:=by rw [if_pos rfl] at H;exact H
   clear H
   have H:=H1
   clear H1
   replace H:=Option.bind_eq_some_iff.mp H
   obtain ⟨t175,A60,H⟩:=H
   replace H : (if t175 = true then ((spec_l01In.f a0_3 0 2000000000).bind fun t176 => (some t176)) else (some false)) = some r:=H
   have A6:=qd3 A60
   clear A60
   by_cases c7 : t175 = true
   ·
    subst c7
    have H1 : ((spec_l01In.f a0_3 0 2000000000).bind fun t176 => (some t176)) = some r:=by rw [if_pos rfl] at H;exact H
    clear H
    have H:=H1
    clear H1
    replace H:=Option.bind_eq_some_iff.mp H
    obtain ⟨t176,A80,H⟩:=H
    replace H : (some t176) = some r:=H
    have A8:=qd3 A80
    clear A80
    obtain rfl:=sO H
    go_enter Try.func43,Try.ntmps43
    go_wp2_with (first|((with_reducible refine gate_dst (N:=1) rfl ?_);refine box_event ?hg (N:=1) ?hd (cs:=#[.int .i64 a0_0,.int .i64 a0_1,.int .i64 a0_2,.int .i64 a0_3]) (t:=75) ?hr ?_;(case hd => rfl);(case hg => rfl);(case hr => first|(go_simp;done)|(go_simp;rfl));intro gb172 hg w9 hbox hb;have n0_:=qd3 (sN (by repeat (first|(with_reducible first|exact HB.out|apply qa3|apply qb3|apply qc3)|exact HB.out)) hb);have n1_:=qd3 (hbox);have n2_:=qd3 ((by rw [hg];exact (below_size (by repeat (first|(with_reducible first|exact HB.out|apply qa3|apply qb3|apply qc3)|exact HB.out))) : w.heap.size ≤ gb172));have n3_:=qd3 ((by rw [hg];exact (below_size (by repeat (first|(with_reducible first|exact HB.out|apply qa3|apply qb3|apply qc3)|exact HB.out))) : w.heap.size ≤ gb172));clear HB;have HB:=n0_;have BK172:=n1_;have GW172:=n2_;have GE172:=n3_;clear n0_ n1_ n2_ n3_;clear hb hbox hg;have hcz10_0 : w9.cell? ⟨gb172,0,none⟩ = some (.int .i64 a0_0):=(blk_cell BK172.out 0).trans rfl;have hcz10_1 : w9.cell? ⟨gb172,1,none⟩ = some (.int .i64 a0_1):=(blk_cell BK172.out 1).trans rfl;have hcz10_2 : w9.cell? ⟨gb172,2,none⟩ = some (.int .i64 a0_2):=(blk_cell BK172.out 2).trans rfl;have hcz10_3 : w9.cell? ⟨gb172,3,none⟩ = some (.int .i64 a0_3):=(blk_cell BK172.out 3).trans rfl;have hfz10_0:=sJ BK172.out 0;have hfz10_1:=sJ BK172.out 1;have hfz10_2:=sJ BK172.out 2;have hfz10_3:=sJ BK172.out 3)|((with_reducible refine gate_callee (f:=41) rfl ?_);refine goesL_ (some 5) rfl rfl Try.func41 (by kernel_rfl) rfl #[.int .i64 a0_0,.int .i64 1,.int .i64 8] rfl (by (try simp only [sE,sH,sI]);first|done|rfl|(simp only [sG,sF];rfl)) ?_;(with_reducible refine (spec_l01In.calls a0_0 1 8 true _ A2.out).mono ?_);rintro e w' ⟨rfl,⟨nd,rfl⟩⟩;refine ⟨_,rfl,?_⟩)|(go_at_call 41;(with_reducible refine (spec_l01In.calls a0_1 0 1000000 true _ A4.out).mono ?_);rintro e w' ⟨rfl,⟨nd,rfl⟩⟩)|(go_at_call 41;(with_reducible refine (spec_l01In.calls a0_2 (-1) 255 true _ A6.out).mono ?_);rintro e w' ⟨rfl,⟨nd,rfl⟩⟩)|(go_at_call 41;(with_reducible refine (spec_l01In.calls a0_3 0 2000000000 t176 _ A8.out).mono ?_);rintro e w' ⟨rfl,⟨nd,rfl⟩⟩))
    go_ret
    exact ⟨by first|rfl|(simp [errW_none,errW_some] <;> rfl)|(simp [*,errW_none,errW_some] <;> rfl),by repeat (first|(with_reducible first|exact HB.out|apply qa3|apply qb3|apply qc3|refine below_set ?_ GE172.out)|exact HB.out)⟩
   ·
    replace c7:=Bool.eq_false_iff.mpr c7
    subst c7
    have H1 : (some false) = some r:=by rw [if_neg (show ¬ (false = true) by decide)] at H;exact H
    clear H
    have H:=H1
    clear H1
    obtain rfl:=sO H
    go_enter Try.func43,Try.ntmps43
    go_wp2_with (first|((with_reducible refine gate_dst (N:=1) rfl ?_);refine box_event ?hg (N:=1) ?hd (cs:=#[.int .i64 a0_0,.int .i64 a0_1,.int .i64 a0_2,.int .i64 a0_3]) (t:=75) ?hr ?_;(case hd => rfl);(case hg => rfl);(case hr => first|(go_simp;done)|(go_simp;rfl));intro gb172 hg w11 hbox hb;have n0_:=qd3 (sN (by repeat (first|(with_reducible first|exact HB.out|apply qa3|apply qb3|apply qc3)|exact HB.out)) hb);have n1_:=qd3 (hbox);have n2_:=qd3 ((by rw [hg];exact (below_size (by repeat (first|(with_reducible first|exact HB.out|apply qa3|apply qb3|apply qc3)|exact HB.out))) : w.heap.size ≤ gb172));have n3_:=qd3 ((by rw [hg];exact (below_size (by repeat (first|(with_reducible first|exact HB.out|apply qa3|apply qb3|apply qc3)|exact HB.out))) : w.heap.size ≤ gb172));clear HB;have HB:=n0_;have BK172:=n1_;have GW172:=n2_;have GE172:=n3_;clear n0_ n1_ n2_ n3_;clear hb hbox hg;have hcz12_0 : w11.cell? ⟨gb172,0,none⟩ = some (.int .i64 a0_0):=(blk_cell BK172.out 0).trans rfl;have hcz12_1 : w11.cell? ⟨gb172,1,none⟩ = some (.int .i64 a0_1):=(blk_cell BK172.out 1).trans rfl;have hcz12_2 : w11.cell? ⟨gb172,2,none⟩ = some (.int .i64 a0_2):=(blk_cell BK172.out 2).trans rfl;have hcz12_3 : w11.cell? ⟨gb172,3,none⟩ = some (.int .i64 a0_3):=(blk_cell BK172.out 3).trans rfl;have hfz12_0:=sJ BK172.out 0;have hfz12_1:=sJ BK172.out 1;have hfz12_2:=sJ BK172.out 2;have hfz12_3:=sJ BK172.out 3)|((with_reducible refine gate_callee (f:=41) rfl ?_);refine goesL_ (some 5) rfl rfl Try.func41 (by kernel_rfl) rfl #[.int .i64 a0_0,.int .i64 1,.int .i64 8] rfl (by (try simp only [sE,sH,sI]);first|done|rfl|(simp only [sG,sF];rfl)) ?_;(with_reducible refine (spec_l01In.calls a0_0 1 8 true _ A2.out).mono ?_);rintro e w' ⟨rfl,⟨nd,rfl⟩⟩;refine ⟨_,rfl,?_⟩)|(go_at_call 41;(with_reducible refine (spec_l01In.calls a0_1 0 1000000 true _ A4.out).mono ?_);rintro e w' ⟨rfl,⟨nd,rfl⟩⟩)|(go_at_call 41;(with_reducible refine (spec_l01In.calls a0_2 (-1) 255 false _ A6.out).mono ?_);rintro e w' ⟨rfl,⟨nd,rfl⟩⟩))
    go_ret
    exact ⟨by first|rfl|(simp [errW_none,errW_some] <;> rfl)|(simp [*,errW_none,errW_some] <;> rfl),by repeat (first|(with_reducible first|exact HB.out|apply qa3|apply qb3|apply qc3|refine below_set ?_ GE172.out)|exact HB.out)⟩
  ·
   replace c5:=Bool.eq_false_iff.mpr c5
   subst c5
   have H1 : (some false) = some r:=by rw [if_neg (show ¬ (false = true) by decide)] at H;exact H
   clear H
   have H:=H1
   clear H1
   obtain rfl:=sO H
   go_enter Try.func43,Try.ntmps43
   go_wp2_with (first|((with_reducible refine gate_dst (N:=1) rfl ?_);refine box_event ?hg (N:=1) ?hd (cs:=#[.int .i64 a0_0,.int .i64 a0_1,.int .i64 a0_2,.int .i64 a0_3]) (t:=75) ?hr ?_;(case hd => rfl);(case hg => rfl);(case hr => first|(go_simp;done)|(go_simp;rfl));intro gb172 hg w13 hbox hb;have n0_:=qd3 (sN (by repeat (first|(with_reducible first|exact HB.out|apply qa3|apply qb3|apply qc3)|exact HB.out)) hb);have n1_:=qd3 (hbox);have n2_:=qd3 ((by rw [hg];exact (below_size (by repeat (first|(with_reducible first|exact HB.out|apply qa3|apply qb3|apply qc3)|exact HB.out))) : w.heap.size ≤ gb172));have n3_:=qd3 ((by rw [hg];exact (below_size (by repeat (first|(with_reducible first|exact HB.out|apply qa3|apply qb3|apply qc3)|exact HB.out))) : w.heap.size ≤ gb172));clear HB;have HB:=n0_;have BK172:=n1_;have GW172:=n2_;have GE172:=n3_;clear n0_ n1_ n2_ n3_;clear hb hbox hg;have hcz14_0 : w13.cell? ⟨gb172,0,none⟩ = some (.int .i64 a0_0):=(blk_cell BK172.out 0).trans rfl;have hcz14_1 : w13.cell? ⟨gb172,1,none⟩ = some (.int .i64 a0_1):=(blk_cell BK172.out 1).trans rfl;have hcz14_2 : w13.cell? ⟨gb172,2,none⟩ = some (.int .i64 a0_2):=(blk_cell BK172.out 2).trans rfl;have hcz14_3 : w13.cell? ⟨gb172,3,none⟩ = some (.int .i64 a0_3):=(blk_cell BK172.out 3).trans rfl;have hfz14_0:=sJ BK172.out 0;have hfz14_1:=sJ BK172.out 1;have hfz14_2:=sJ BK172.out 2;have hfz14_3:=sJ BK172.out 3)|((with_reducible refine gate_callee (f:=41) rfl ?_);refine goesL_ (some 5) rfl rfl Try.func41 (by kernel_rfl) rfl #[.int .i64 a0_0,.int .i64 1,.int .i64 8] rfl (by (try simp only [sE,sH,sI]);first|done|rfl|(simp only [sG,sF];rfl)) ?_;(with_reducible refine (spec_l01In.calls a0_0 1 8 true _ A2.out).mono ?_);rintro e w' ⟨rfl,⟨nd,rfl⟩⟩;refine ⟨_,rfl,?_⟩)|(go_at_call 41;(with_reducible refine (spec_l01In.calls a0_1 0 1000000 false _ A4.out).mono ?_);rintro e w' ⟨rfl,⟨nd,rfl⟩⟩))
   go_ret
   exact ⟨by first|rfl|(simp [errW_none,errW_some] <;> rfl)|(simp [*,errW_none,errW_some] <;> rfl),by repeat (first|(with_reducible first|exact HB.out|apply qa3|apply qb3|apply qc3|refine below_set ?_ GE172.out)|exact HB.out)⟩
 ·
  replace c3:=Bool.eq_false_iff.mpr c3
  subst c3
  have H1 : (some false) = some r:=by rw [if_neg (show ¬ (false = true) by decide)] at H;exact H
  clear H
  have H:=H1
  clear H1
  obtain rfl:=sO H
  go_enter Try.func43,Try.ntmps43
  go_wp2_with (first|((with_reducible refine gate_dst (N:=1) rfl ?_);refine box_event ?hg (N:=1) ?hd (cs:=#[.int .i64 a0_0,.int .i64 a0_1,.int .i64 a0_2,.int .i64 a0_3]) (t:=75) ?hr ?_;(case hd => rfl);(case hg => rfl);(case hr => first|(go_simp;done)|(go_simp;rfl));intro gb172 hg w15 hbox hb;have n0_:=qd3 (sN (by repeat (first|(with_reducible first|exact HB.out|apply qa3|apply qb3|apply qc3)|exact HB.out)) hb);have n1_:=qd3 (hbox);have n2_:=qd3 ((by rw [hg];exact (below_size (by repeat (first|(with_reducible first|exact HB.out|apply qa3|apply qb3|apply qc3)|exact HB.out))) : w.heap.size ≤ gb172));have n3_:=qd3 ((by rw [hg];exact (below_size (by repeat (first|(with_reducible first|exact HB.out|apply qa3|apply qb3|apply qc3)|exact HB.out))) : w.heap.size ≤ gb172));clear HB;have HB:=n0_;have BK172:=n1_;have GW172:=n2_;have GE172:=n3_;clear n0_ n1_ n2_ n3_;clear hb hbox hg;have hcz16_0 : w15.cell? ⟨gb172,0,none⟩ = some (.int .i64 a0_0):=(blk_cell BK172.out 0).trans rfl;have hcz16_1 : w15.cell? ⟨gb172,1,none⟩ = some (.int .i64 a0_1):=(blk_cell BK172.out 1).trans rfl;have hcz16_2 : w15.cell? ⟨gb172,2,none⟩ = some (.int .i64 a0_2):=(blk_cell BK172.out 2).trans rfl;have hcz16_3 : w15.cell? ⟨gb172,3,none⟩ = some (.int .i64 a0_3):=(blk_cell BK172.out 3).trans rfl;have hfz16_0:=sJ BK172.out 0;have hfz16_1:=sJ BK172.out 1;have hfz16_2:=sJ BK172.out 2;have hfz16_3:=sJ BK172.out 3)|((with_reducible refine gate_callee (f:=41) rfl ?_);refine goesL_ (some 5) rfl rfl Try.func41 (by kernel_rfl) rfl #[.int .i64 a0_0,.int .i64 1,.int .i64 8] rfl (by (try simp only [sE,sH,sI]);first|done|rfl|(simp only [sG,sF];rfl)) ?_;(with_reducible refine (spec_l01In.calls a0_0 1 8 false _ A2.out).mono ?_);rintro e w' ⟨rfl,⟨nd,rfl⟩⟩;refine ⟨_,rfl,?_⟩))
  go_ret
  exact ⟨by first|rfl|(simp [errW_none,errW_some] <;> rfl)|(simp [*,errW_none,errW_some] <;> rfl),by repeat (first|(with_reducible first|exact HB.out|apply qa3|apply qb3|apply qc3|refine below_set ?_ GE172.out)|exact HB.out)⟩

/-! ### spec_TableOK: function 9, given -/
section
open Go.Proofs.Ytjkanhjapddhnaa.Quiet2 Go.Lib
def inB (a b c : Int) : Bool:=decide (b ≤ a) && decide (a ≤ c)
set_option maxHeartbeats 20000000 in
set_option maxRecDepth 100000 in
theorem in_calls (a b c : Int) (w : World) : Calls Try.prog 41 #[.int .i64 a,.int .i64 b,.int .i64 c] w fun e w' => e = .returned (.bool (inB a b c)) ∧ w' = w:=by
 unfold inB
 go_enter Try.func41,Try.ntmps41
 by_cases h : b ≤ a
 ·
  have h1:=decide_eq_true h
  go_wp2
  go_ret
  exact ⟨by simp [h],rfl⟩
 ·
  have h1:=decide_eq_false h
  go_wp2
  go_ret
  exact ⟨by simp [h],rfl⟩
set_option maxHeartbeats 20000000 in
set_option maxRecDepth 100000 in
theorem in_callsB (a b c : Int) (w : World) (v : Bool) (h : Aside0 (inB a b c = v)) : Calls Try.prog 41 #[.int .i64 a,.int .i64 b,.int .i64 c] w fun e w' => e = .returned (.bool v) ∧ w' = w:=by
 rw [← h.out]
 exact in_calls a b c w
set_option maxHeartbeats 20000000 in
set_option maxRecDepth 100000 in
theorem in_callsW (a b c : Int) (w : World) (v : Bool) (h : Aside0 (inB a b c = v)) : Calls Try.prog 41 #[.int .i64 a,.int .i64 b,.int .i64 c] w fun e w' => e = .returned (.bool v) ∧ w = w':=by
 rw [← h.out]
 exact (in_calls a b c w).mono fun _ _ ⟨h1,h2⟩ => ⟨h1,h2.symm⟩
def textB (s : ByteArray) (n : Int) : Bool:=(spec_l02Text.f 99 s n).getD false
def waitB (h : Int) (ws : List S73) (k : Nat) : Bool:=inB (rd_T73 ws k).f0 0 255 && (inB (rd_T73 ws k).f1 1 1000 && (!((rd_T73 ws k).f0 == h) && (List.range k).all (fun j => !((rd_T73 ws j).f0 == (rd_T73 ws k).f0))))
def headB (next : Int) (ls : List S70) (i : Nat) : Bool :=
 textB (rd_T70 ls i).f0 12 && ((i == 0 || Op.bytesLess (rd_T70 ls ((i : Int) - 1)).f0.toList (rd_T70 ls i).f0.toList) && (inB (rd_T70 ls i).f1 0 (next - 1) && (inB (rd_T70 ls i).f2 (-1) 255 && (inB (rd_T70 ls i).f3 0 2000000000 && decide ((rd_T70 ls i).f4.length ≤ 4)))))
def lockB (next : Int) (ls : List S70) (i : Nat) : Bool :=
 headB next ls i && (!(decide ((rd_T70 ls i).f2 < 0) && (!((rd_T70 ls i).f3 == 0) || !((rd_T70 ls i).f4.length == 0))) && (List.range (rd_T70 ls i).f4.length).all (waitB (rd_T70 ls i).f2 (rd_T70 ls i).f4))
def ansB (a : S75) : Bool:=inB a.f0 1 8 && (inB a.f1 0 1000000 && (inB a.f2 (-1) 255 && inB a.f3 0 2000000000))
set_option maxHeartbeats 20000000 in
set_option maxRecDepth 100000 in
theorem in_f (a b c : Int) : spec_l01In.f a b c = some (inB a b c):=by
 unfold spec_l01In.f inB
 by_cases h : b ≤ a
 ·
  rw [if_pos h,decide_eq_true h];rfl
 ·
  rw [if_neg h,decide_eq_false h];rfl
set_option maxHeartbeats 20000000 in
set_option maxRecDepth 100000 in
theorem ans_f (a b c d : Int) (v : Bool) (h : Aside0 (ansB ⟨a,b,c,d⟩ = v)) : spec_l05Answer.f a b c d = some v:=by
 rw [← h.out]
 unfold spec_l05Answer.f ansB
 simp only [in_f,Option.bind_some]
 cases inB a 1 8 <;> cases inB b 0 1000000 <;> cases inB c (-1) 255 <;> rfl
def seenB (ls : List S77) (i : Nat) : Bool:=inB (rd_T77 ls i).f0 0 255 && (inB (rd_T77 ls i).f1 1 65535 && (ansB (rd_T77 ls i).f2 && (i == 0 || decide ((rd_T77 ls ((i : Int) - 1)).f0 < (rd_T77 ls i).f0))))
def tableB (t0 t1 : Int) (l2 : List S70) (l3 : List S77) : Bool:=inB t0 0 1000000000 && (inB t1 1 1000000 && (decide (l2.length ≤ 4) && (decide (l3.length ≤ 6) && ((List.range l2.length).all (lockB t1 l2) && (List.range l3.length).all (seenB l3)))))
set_option maxHeartbeats 20000000 in
set_option maxRecDepth 100000 in
theorem table_calls (t0 t1 : Int) (A2 A3 : Option Addr) (c2 c3 : Nat) (l2 : List S70) (l3 : List S77) (w : World) (R : Bool) (hR : tableB t0 t1 l2 l3 = R) (hr2 : Kd.C k70 w A2 l2.length l2) (hr3 : Kd.C k77 w A3 l3.length l3)
  (htx : ∀ i : Nat,i < l2.length → ∃ b,spec_l02Text.f 99 (rd_T70 l2 i).f0 12 = some b) :
  Calls Try.prog 9 #[.agg #[.int .i64 t0,.int .i64 t1,.slice A2 l2.length c2,.slice A3 l3.length c3]] w fun e w' => e = .returned (.bool R) ∧ Below w.heap.size w w':=by
 have hn2 : l2.length ≤ 9223372036854775807:=hr2.2.1
 have hn3 : l3.length ≤ 9223372036854775807:=hr3.2.1
 have HR2:=qd3 hr2
 have HR3:=qd3 hr3
 have HTX:=qd3 htx
 have HG0:=qd3 (heap_alloc_new w (.cells #[.int .i64 t0,.int .i64 t1,.slice A2 l2.length c2,.slice A3 l3.length c3] 31 (0,0)))
 have HB0:=qd3 ((Below.refl _ w).alloc (Nat.le_refl _) (.cells #[.int .i64 t0,.int .i64 t1,.slice A2 l2.length c2,.slice A3 l3.length c3] 31 (0,0)))
 clear hr2 hr3 htx
 have HRR:=qd3 hR
 clear hR
 obtain ⟨v0,h0⟩ : ∃ b,inB t0 0 1000000000 = b:=⟨_,rfl⟩
 obtain ⟨v1,h1⟩ : ∃ b,inB t1 1 1000000 = b:=⟨_,rfl⟩
 have H0:=qd3 h0
 have H1:=qd3 h1
 clear h0 h1
 go_enter Try.func9,Try.ntmps9
 cases v0
 ·
  go_wp2_with (first|(go_at_call 41;(with_reducible first|refine (in_callsB _ _ _ _ _ H0).mono ?_|refine (in_callsB _ _ _ _ _ H1).mono ?_);rintro e w' ⟨rfl,rfl⟩))
  go_ret
  exact ⟨congrArg (fun b => Ending.returned (Value.bool b)) (by rw [← HRR.out];unfold tableB;rw [H0.out];rfl),HB0.out⟩
 cases v1
 ·
  go_wp2_with (first|(go_at_call 41;(with_reducible first|refine (in_callsB _ _ _ _ _ H0).mono ?_|refine (in_callsB _ _ _ _ _ H1).mono ?_);rintro e w' ⟨rfl,rfl⟩))
  go_ret
  exact ⟨congrArg (fun b => Ending.returned (Value.bool b)) (by rw [← HRR.out];unfold tableB;rw [H1.out];simp),HB0.out⟩
 by_cases hl2 : 4 < l2.length
 ·
  go_wp2_with (first|(go_at_call 41;(with_reducible first|refine (in_callsB _ _ _ _ _ H0).mono ?_|refine (in_callsB _ _ _ _ _ H1).mono ?_);rintro e w' ⟨rfl,rfl⟩))
  go_ret
  exact ⟨congrArg (fun b => Ending.returned (Value.bool b)) (by rw [← HRR.out];unfold tableB;rw [decide_eq_false (by omega : ¬ l2.length ≤ 4)];simp),HB0.out⟩
 by_cases hl3 : 6 < l3.length
 ·
  go_wp2_with (first|(go_at_call 41;(with_reducible first|refine (in_callsB _ _ _ _ _ H0).mono ?_|refine (in_callsB _ _ _ _ _ H1).mono ?_);rintro e w' ⟨rfl,rfl⟩))
  go_ret
  exact ⟨congrArg (fun b => Ending.returned (Value.bool b)) (by rw [← HRR.out];unfold tableB;rw [decide_eq_false (by omega : ¬ l3.length ≤ 6)];simp),HB0.out⟩
 go_wp2_with (first|(go_at_call 41;(with_reducible first|refine (in_callsB _ _ _ _ _ H0).mono ?_|refine (in_callsB _ _ _ _ _ H1).mono ?_);rintro e w' ⟨rfl,rfl⟩))
 have HT : Aside0 (∀ b,((List.range l2.length).all (lockB t1 l2) && (List.range l3.length).all (seenB l3)) = b → b = R):=⟨fun b hb => by
  rw [← HRR.out,← hb]
  unfold tableB
  rw [H0.out,H1.out,decide_eq_true (by omega : l2.length ≤ 4),decide_eq_true (by omega : l3.length ≤ 6)]
  rfl⟩
 clear HRR
 go_loopg [3] (l2.length) (fun g v3 wr => ∃ i : Nat,v3 = .int .i64 i ∧ i ≤ l2.length ∧ Aside0 (i + g = l2.length) ∧ Aside0 ((List.range i).all (lockB t1 l2) = true) ∧ Aside0 (wr.heap[w.heap.size]? = some (.cells #[.int .i64 t0,.int .i64 t1,.slice A2 l2.length c2,.slice A3 l3.length c3] 31 (0,0))) ∧ Aside0 (Below w.heap.size w wr))
 case atStart => exact ⟨0,rfl,Nat.zero_le _,⟨by omega⟩,⟨rfl⟩,HG0,HB0⟩
 case round =>
  clear HG0 HB0
  obtain ⟨wo,rfl⟩ : ∃ wo : World,wo = wr:=⟨_,rfl⟩
  obtain ⟨go,rfl⟩ : ∃ go : Nat,go = gk:=⟨_,rfl⟩
  obtain ⟨i,rfl,hi,HM,HL,HG,HB⟩:=hrel
  have b0 : wo.cell? ⟨w.heap.size,0,none⟩ = some (.int .i64 t0):=(blk_cell HG.out 0).trans rfl
  have b1 : wo.cell? ⟨w.heap.size,1,none⟩ = some (.int .i64 t1):=(blk_cell HG.out 1).trans rfl
  have b2 : wo.cell? ⟨w.heap.size,2,none⟩ = some (.slice A2 l2.length c2):=(blk_cell HG.out 2).trans rfl
  have b3 : wo.cell? ⟨w.heap.size,3,none⟩ = some (.slice A3 l3.length c3):=(blk_cell HG.out 3).trans rfl
  by_cases hlt : i < l2.length
  ·
   obtain ⟨ad,A4,c4,eA,y0,y1,y2,y3,y4,hl4,hr4⟩:=at_T70 (Kd.C_below HR2.out HB.out) (i : Int) (by omega) (by omega)
   cases eA
   simp only [Int.toNat_natCast] at y0 y1 y2 y3 y4
   have HR4:=qd3 hr4
   clear hr4 hl4
   have p0 : ((i : Int) < (l2.length : Int)) = True:=eq_true (by omega)
   have p1 : (0 ≤ (i : Int)) = True:=eq_true (by omega)
   have p2 : decide ((i : Int) < (l2.length : Int)) = true:=decide_eq_true (by omega)
   go_upto_region 7 with fail
   obtain ⟨bt,hbt⟩:=HTX.out i hlt
   have HBT:=qd3 hbt
   clear hbt
   have hT : Aside0 (textB (rd_T70 l2 i).f0 12 = bt):=⟨by unfold textB;rw [HBT.out];rfl⟩
   obtain ⟨v1,h1⟩ : ∃ b,inB (rd_T70 l2 i).f1 0 (t1 - 1) = b:=⟨_,rfl⟩
   obtain ⟨v2,h2⟩ : ∃ b,inB (rd_T70 l2 i).f2 (-1) 255 = b:=⟨_,rfl⟩
   obtain ⟨v3,h3⟩ : ∃ b,inB (rd_T70 l2 i).f3 0 2000000000 = b:=⟨_,rfl⟩
   have G1:=qd3 h1
   have G2:=qd3 h2
   have G3:=qd3 h3
   clear h1 h2 h3
   have hx : 1 ≤ t1 ∧ t1 ≤ 1000000:=by
    have:=H1.out
    unfold inB at this
    simpa using this
   have q1 : IntKind.i64.wrap (t1 - 1) = t1 - 1:=IntWalk.i64_in _ (by omega)
   have HX:=qd3 hx
   clear hx
   have HXB:=qd3 (heap_alloc_new wo (Obj.cells #[.string (rd_T70 l2 i).f0,.int .i64 (rd_T70 l2 i).f1,.int .i64 (rd_T70 l2 i).f2,.int .i64 (rd_T70 l2 i).f3,.slice A4 (rd_T70 l2 i).f4.length c4] 70 (0,0)))
   have HWB:=qd3 ((Below.refl wo.heap.size wo).alloc (Nat.le_refl _) (Obj.cells #[.string (rd_T70 l2 i).f0,.int .i64 (rd_T70 l2 i).f1,.int .i64 (rd_T70 l2 i).f2,.int .i64 (rd_T70 l2 i).f3,.slice A4 (rd_T70 l2 i).f4.length c4] 70 (0,0)))
   have x0:=(blk_cell HXB.out 0).trans rfl
   have x1:=(blk_cell HXB.out 1).trans rfl
   have x2:=(blk_cell HXB.out 2).trans rfl
   have x3:=(blk_cell HXB.out 3).trans rfl
   have x4:=(blk_cell HXB.out 4).trans rfl
   replace b0:=pw_cell_below HWB.out b0
   replace b1:=pw_cell_below HWB.out b1
   replace b2:=pw_cell_below HWB.out b2
   have hp : ∀ j : Nat,j < l2.length → (wo.alloc (Obj.cells #[.string (rd_T70 l2 i).f0,.int .i64 (rd_T70 l2 i).f1,.int .i64 (rd_T70 l2 i).f2,.int .i64 (rd_T70 l2 i).f3,.slice A4 (rd_T70 l2 i).f4.length c4] 70 (0,0))).cell? (ad.add (j * 5)) = some (.string (rd_T70 l2 j).f0):=fun j hj => by
    obtain ⟨ad',A4',c4',eA',yy0,-⟩:=at_T70 (Kd.C_below HR2.out HB.out) (j : Int) (by omega) (by omega)
    cases eA'
    exact pw_cell_below HWB.out yy0
   have HP:=qd3 hp
   clear hp b3 y0 y1 y2 y3 y4
   generalize wo.alloc (Obj.cells #[.string (rd_T70 l2 i).f0,.int .i64 (rd_T70 l2 i).f1,.int .i64 (rd_T70 l2 i).f2,.int .i64 (rd_T70 l2 i).f3,.slice A4 (rd_T70 l2 i).f4.length c4] 70 (0,0)) = W1 at HXB HWB x0 x1 x2 x3 x4 b0 b1 b2 HP ⊢
   go_cut [90] (fun s90 wx => s90 = .bool (!headB t1 l2 i) ∧ Aside0 (wx.heap[wo.heap.size]? = some (.cells #[.string (rd_T70 l2 i).f0,.int .i64 (rd_T70 l2 i).f1,.int .i64 (rd_T70 l2 i).f2,.int .i64 (rd_T70 l2 i).f3,.slice A4 (rd_T70 l2 i).f4.length c4] 70 (0,0))) ∧ Aside0 (Below wo.heap.size wo wx))
   case first =>
    cases bt
    ·
     go_big_quiet (first
     | (with_reducible first|exact Calls.quiet_of_same (in_callsB _ _ _ _ _ G1)|exact Calls.quiet_of_same (in_callsB _ _ _ _ _ G2)|exact Calls.quiet_of_same (in_callsB _ _ _ _ _ G3))
     | ((refine Calls.quiet_of (v:=.bool false) ((spec_l02Text.calls 99 _ _ false _ HBT.out).mono ?_));rintro e w' ⟨rfl,hd⟩;exact ⟨rfl,hd.out⟩))
     go_wp2_with fail
     go_meet
     case rel =>
      have hh : headB t1 l2 i = false:=by
       unfold headB
       rw [hT.out];rfl
      exact ⟨by rw [hh];rfl,HXB,⟨qb3 HWB.out _⟩⟩
    by_cases hi0 : i = 0
    ·
     have z0 : Aside0 ((i == 0 || Op.bytesLess (rd_T70 l2 ((i : Int) - 1)).f0.toList (rd_T70 l2 i).f0.toList) = true):=⟨by simp [hi0]⟩
     have z1 : ((0 : Int) < (i : Int)) = False:=eq_false (by omega)
     have z2 : decide ((0 : Int) < (i : Int)) = false:=decide_eq_false (by omega)
     have z3 : ((i : Int) = 0) = True:=eq_true (by omega)
     have z4 : (0 < i) = False:=eq_false (by omega)
     have z5 : decide (0 < i) = false:=decide_eq_false (by omega)
     clear hi0
     cases v1
     ·
      go_big_quiet (first
      | (with_reducible first|exact Calls.quiet_of_same (in_callsB _ _ _ _ _ G1)|exact Calls.quiet_of_same (in_callsB _ _ _ _ _ G2)|exact Calls.quiet_of_same (in_callsB _ _ _ _ _ G3))
      | ((refine Calls.quiet_of (v:=.bool true) ((spec_l02Text.calls 99 _ _ true _ HBT.out).mono ?_));rintro e w' ⟨rfl,hd⟩;exact ⟨rfl,hd.out⟩))
      go_wp2_with fail
      go_meet
      case rel =>
       have hh : headB t1 l2 i = false:=by
        unfold headB
        rw [hT.out,z0.out,G1.out];rfl
       exact ⟨by rw [hh];rfl,HXB,⟨qb3 HWB.out _⟩⟩
     cases v2
     ·
      go_big_quiet (first
      | (with_reducible first|exact Calls.quiet_of_same (in_callsB _ _ _ _ _ G1)|exact Calls.quiet_of_same (in_callsB _ _ _ _ _ G2)|exact Calls.quiet_of_same (in_callsB _ _ _ _ _ G3))
      | ((refine Calls.quiet_of (v:=.bool true) ((spec_l02Text.calls 99 _ _ true _ HBT.out).mono ?_));rintro e w' ⟨rfl,hd⟩;exact ⟨rfl,hd.out⟩))
      go_wp2_with fail
      go_meet
      case rel =>
       have hh : headB t1 l2 i = false:=by
        unfold headB
        rw [hT.out,z0.out,G1.out,G2.out];rfl
       exact ⟨by rw [hh];rfl,HXB,⟨qb3 HWB.out _⟩⟩
     cases v3
     ·
      go_big_quiet (first
      | (with_reducible first|exact Calls.quiet_of_same (in_callsB _ _ _ _ _ G1)|exact Calls.quiet_of_same (in_callsB _ _ _ _ _ G2)|exact Calls.quiet_of_same (in_callsB _ _ _ _ _ G3))
      | ((refine Calls.quiet_of (v:=.bool true) ((spec_l02Text.calls 99 _ _ true _ HBT.out).mono ?_));rintro e w' ⟨rfl,hd⟩;exact ⟨rfl,hd.out⟩))
      go_wp2_with fail
      go_meet
      case rel =>
       have hh : headB t1 l2 i = false:=by
        unfold headB
        rw [hT.out,z0.out,G1.out,G2.out,G3.out];rfl
       exact ⟨by rw [hh];rfl,HXB,⟨qb3 HWB.out _⟩⟩
     by_cases h4 : (rd_T70 l2 i).f4.length ≤ 4
     ·
      have h5 : decide ((4 : Int) < ((rd_T70 l2 i).f4.length : Int)) = false:=decide_eq_false (by omega)
      have h6 : Aside0 (decide ((rd_T70 l2 i).f4.length ≤ 4) = true):=⟨decide_eq_true h4⟩
      go_big_quiet (first
      | (with_reducible first|exact Calls.quiet_of_same (in_callsB _ _ _ _ _ G1)|exact Calls.quiet_of_same (in_callsB _ _ _ _ _ G2)|exact Calls.quiet_of_same (in_callsB _ _ _ _ _ G3))
      | ((refine Calls.quiet_of (v:=.bool true) ((spec_l02Text.calls 99 _ _ true _ HBT.out).mono ?_));rintro e w' ⟨rfl,hd⟩;exact ⟨rfl,hd.out⟩))
      go_wp2_with fail
      go_meet
      case rel =>
       have hh : headB t1 l2 i = true:=by
        unfold headB
        rw [hT.out,z0.out,G1.out,G2.out,G3.out,h6.out];rfl
       exact ⟨by rw [hh];rfl,HXB,⟨qb3 HWB.out _⟩⟩
     ·
      have h5 : decide ((4 : Int) < ((rd_T70 l2 i).f4.length : Int)) = true:=decide_eq_true (by omega)
      have h6 : Aside0 (decide ((rd_T70 l2 i).f4.length ≤ 4) = false):=⟨decide_eq_false h4⟩
      go_big_quiet (first
      | (with_reducible first|exact Calls.quiet_of_same (in_callsB _ _ _ _ _ G1)|exact Calls.quiet_of_same (in_callsB _ _ _ _ _ G2)|exact Calls.quiet_of_same (in_callsB _ _ _ _ _ G3))
      | ((refine Calls.quiet_of (v:=.bool true) ((spec_l02Text.calls 99 _ _ true _ HBT.out).mono ?_));rintro e w' ⟨rfl,hd⟩;exact ⟨rfl,hd.out⟩))
      go_wp2_with fail
      go_meet
      case rel =>
       have hh : headB t1 l2 i = false:=by
        unfold headB
        rw [hT.out,z0.out,G1.out,G2.out,G3.out,h6.out];rfl
       exact ⟨by rw [hh];rfl,HXB,⟨qb3 HWB.out _⟩⟩
    ·
     have z1 : ((0 : Int) < (i : Int)) = True:=eq_true (by omega)
     have z2 : decide ((0 : Int) < (i : Int)) = true:=decide_eq_true (by omega)
     have z3 : ((i : Int) = 0) = False:=eq_false (by omega)
     have z4 : (0 < i) = True:=eq_true (by omega)
     have z5 : decide (0 < i) = true:=decide_eq_true (by omega)
     have z6 : (1 ≤ (i : Int)) = True:=eq_true (by omega)
     have z7 : ((i : Int) - 1 < (l2.length : Int)) = True:=eq_true (by omega)
     have z8 : IntKind.i64.wrap ((i : Int) - 1) = (i : Int) - 1:=IntWalk.i64_in _ (by omega)
     have z9 : (0 ≤ (i : Int) - 1) = True:=eq_true (by omega)
     have e1 : ((i - 1 : Nat) : Int) = (i : Int) - 1:=by omega
     have hq0:=HP.out (i - 1) (by omega)
     rw [e1] at hq0
     have z10 : ((i : Int) - 1).toNat = i - 1:=by omega
     have N0 : Aside0 ((i == 0) = false):=⟨by simp [hi0]⟩
     clear e1 hi0 HP
     obtain ⟨vb,hvb⟩ : ∃ b,Op.bytesLess (rd_T70 l2 ((i : Int) - 1)).f0.toList (rd_T70 l2 i).f0.toList = b:=⟨_,rfl⟩
     have z0 : Aside0 ((i == 0 || Op.bytesLess (rd_T70 l2 ((i : Int) - 1)).f0.toList (rd_T70 l2 i).f0.toList) = vb):=⟨by rw [N0.out,hvb];rfl⟩
     cases vb
     ·
      go_big_quiet (first
      | (with_reducible first|exact Calls.quiet_of_same (in_callsB _ _ _ _ _ G1)|exact Calls.quiet_of_same (in_callsB _ _ _ _ _ G2)|exact Calls.quiet_of_same (in_callsB _ _ _ _ _ G3))
      | ((refine Calls.quiet_of (v:=.bool true) ((spec_l02Text.calls 99 _ _ true _ HBT.out).mono ?_));rintro e w' ⟨rfl,hd⟩;exact ⟨rfl,hd.out⟩))
      go_wp2_with fail
      go_meet
      case rel =>
       have hh : headB t1 l2 i = false:=by
        unfold headB
        rw [hT.out,z0.out];rfl
       exact ⟨by rw [hh];rfl,HXB,⟨qb3 HWB.out _⟩⟩
     cases v1
     ·
      go_big_quiet (first
      | (with_reducible first|exact Calls.quiet_of_same (in_callsB _ _ _ _ _ G1)|exact Calls.quiet_of_same (in_callsB _ _ _ _ _ G2)|exact Calls.quiet_of_same (in_callsB _ _ _ _ _ G3))
      | ((refine Calls.quiet_of (v:=.bool true) ((spec_l02Text.calls 99 _ _ true _ HBT.out).mono ?_));rintro e w' ⟨rfl,hd⟩;exact ⟨rfl,hd.out⟩))
      go_wp2_with fail
      go_meet
      case rel =>
       have hh : headB t1 l2 i = false:=by
        unfold headB
        rw [hT.out,z0.out,G1.out];rfl
       exact ⟨by rw [hh];rfl,HXB,⟨qb3 HWB.out _⟩⟩
     cases v2
     ·
      go_big_quiet (first
      | (with_reducible first|exact Calls.quiet_of_same (in_callsB _ _ _ _ _ G1)|exact Calls.quiet_of_same (in_callsB _ _ _ _ _ G2)|exact Calls.quiet_of_same (in_callsB _ _ _ _ _ G3))
      | ((refine Calls.quiet_of (v:=.bool true) ((spec_l02Text.calls 99 _ _ true _ HBT.out).mono ?_));rintro e w' ⟨rfl,hd⟩;exact ⟨rfl,hd.out⟩))
      go_wp2_with fail
      go_meet
      case rel =>
       have hh : headB t1 l2 i = false:=by
        unfold headB
        rw [hT.out,z0.out,G1.out,G2.out];rfl
       exact ⟨by rw [hh];rfl,HXB,⟨qb3 HWB.out _⟩⟩
     cases v3
     ·
      go_big_quiet (first
      | (with_reducible first|exact Calls.quiet_of_same (in_callsB _ _ _ _ _ G1)|exact Calls.quiet_of_same (in_callsB _ _ _ _ _ G2)|exact Calls.quiet_of_same (in_callsB _ _ _ _ _ G3))
      | ((refine Calls.quiet_of (v:=.bool true) ((spec_l02Text.calls 99 _ _ true _ HBT.out).mono ?_));rintro e w' ⟨rfl,hd⟩;exact ⟨rfl,hd.out⟩))
      go_wp2_with fail
      go_meet
      case rel =>
       have hh : headB t1 l2 i = false:=by
        unfold headB
        rw [hT.out,z0.out,G1.out,G2.out,G3.out];rfl
       exact ⟨by rw [hh];rfl,HXB,⟨qb3 HWB.out _⟩⟩
     by_cases h4 : (rd_T70 l2 i).f4.length ≤ 4
     ·
      have h5 : decide ((4 : Int) < ((rd_T70 l2 i).f4.length : Int)) = false:=decide_eq_false (by omega)
      have h6 : Aside0 (decide ((rd_T70 l2 i).f4.length ≤ 4) = true):=⟨decide_eq_true h4⟩
      go_big_quiet (first
      | (with_reducible first|exact Calls.quiet_of_same (in_callsB _ _ _ _ _ G1)|exact Calls.quiet_of_same (in_callsB _ _ _ _ _ G2)|exact Calls.quiet_of_same (in_callsB _ _ _ _ _ G3))
      | ((refine Calls.quiet_of (v:=.bool true) ((spec_l02Text.calls 99 _ _ true _ HBT.out).mono ?_));rintro e w' ⟨rfl,hd⟩;exact ⟨rfl,hd.out⟩))
      go_wp2_with fail
      go_meet
      case rel =>
       have hh : headB t1 l2 i = true:=by
        unfold headB
        rw [hT.out,z0.out,G1.out,G2.out,G3.out,h6.out];rfl
       exact ⟨by rw [hh];rfl,HXB,⟨qb3 HWB.out _⟩⟩
     ·
      have h5 : decide ((4 : Int) < ((rd_T70 l2 i).f4.length : Int)) = true:=decide_eq_true (by omega)
      have h6 : Aside0 (decide ((rd_T70 l2 i).f4.length ≤ 4) = false):=⟨decide_eq_false h4⟩
      go_big_quiet (first
      | (with_reducible first|exact Calls.quiet_of_same (in_callsB _ _ _ _ _ G1)|exact Calls.quiet_of_same (in_callsB _ _ _ _ _ G2)|exact Calls.quiet_of_same (in_callsB _ _ _ _ _ G3))
      | ((refine Calls.quiet_of (v:=.bool true) ((spec_l02Text.calls 99 _ _ true _ HBT.out).mono ?_));rintro e w' ⟨rfl,hd⟩;exact ⟨rfl,hd.out⟩))
      go_wp2_with fail
      go_meet
      case rel =>
       have hh : headB t1 l2 i = false:=by
        unfold headB
        rw [hT.out,z0.out,G1.out,G2.out,G3.out,h6.out];rfl
       exact ⟨by rw [hh];rfl,HXB,⟨qb3 HWB.out _⟩⟩
   case rest =>
    obtain ⟨rfl,HXC,HWC⟩:=hcut
    clear x0 x1 x2 x3 x4 b0 b1 b2 HXB HWB HP q1 hT HBT G1 G2 G3
    have hsz : w.heap.size < wo.heap.size:=(Array.getElem?_eq_some_iff.1 HG.out).1
    have HGC:=qd3 ((HWC.out.block _ hsz).trans HG.out)
    have HBC:=qd3 (below_then HB.out HB.out.size HWC.out)
    have b1 : wc.cell? ⟨w.heap.size,1,none⟩ = some (.int .i64 t1):=(blk_cell HGC.out 1).trans rfl
    have b2 : wc.cell? ⟨w.heap.size,2,none⟩ = some (.slice (some ad) l2.length c2):=(blk_cell HGC.out 2).trans rfl
    have x2:=(blk_cell HXC.out 2).trans rfl
    have x3:=(blk_cell HXC.out 3).trans rfl
    have x4:=(blk_cell HXC.out 4).trans rfl
    have LB : Aside0 (lockB t1 l2 i = false → false = R):=⟨fun hh => HT.out _ (by
     rw [Bool.and_eq_false_iff]
     left
     rw [List.all_eq_false]
     exact ⟨i,List.mem_range.2 hlt,by rw [hh];simp⟩)⟩
    obtain ⟨vh,hvh⟩ : ∃ b,headB t1 l2 i = b:=⟨_,rfl⟩
    rw [hvh]
    have HVH:=qd3 hvh
    clear hvh
    cases vh
    ·
     go_wp2_with fail
     go_ret
     exact ⟨congrArg (fun b => Ending.returned (Value.bool b)) (LB.out (by unfold lockB;rw [HVH.out];rfl)),HBC.out⟩
    go_upto_region 9 with fail
    go_cut [104] (fun s104 wx => wx = wc ∧ s104 = .bool (decide ((rd_T70 l2 i).f2 < 0) && (!((rd_T70 l2 i).f3 == 0) || !((rd_T70 l2 i).f4.length == 0))))
    case first =>
     by_cases c1 : (rd_T70 l2 i).f2 < 0
     ·
      have d1:=decide_eq_true c1
      by_cases c2 : (rd_T70 l2 i).f3 = 0
      ·
       have e1 : ((rd_T70 l2 i).f3 != 0) = false:=by simp [c2]
       have e2 : Aside0 (((rd_T70 l2 i).f3 == 0) = true):=⟨by simp [c2]⟩
       clear c2
       by_cases c3 : (rd_T70 l2 i).f4.length = 0
       ·
        have f1 : (((rd_T70 l2 i).f4.length : Int) != 0) = false:=by simp [c3]
        have f2 : Aside0 (((rd_T70 l2 i).f4.length == 0) = true):=⟨by simp [c3]⟩
        clear c3
        go_wp2_with fail
        go_meet
        case rel => exact ⟨rfl,by rw [e2.out,f2.out];simp⟩
       ·
        have f1 : (((rd_T70 l2 i).f4.length : Int) != 0) = true:=bne_iff_ne.mpr (by omega)
        have f2 : Aside0 (((rd_T70 l2 i).f4.length == 0) = false):=⟨beq_eq_false_iff_ne.mpr c3⟩
        clear c3
        go_wp2_with fail
        go_meet
        case rel => exact ⟨rfl,by rw [d1,e2.out,f2.out];rfl⟩
      ·
       have e1 : ((rd_T70 l2 i).f3 != 0) = true:=by simp [c2]
       have e2 : Aside0 (((rd_T70 l2 i).f3 == 0) = false):=⟨by simp [c2]⟩
       clear c2
       go_wp2_with fail
       go_meet
       case rel => exact ⟨rfl,by rw [d1,e2.out];rfl⟩
     ·
      have d1:=decide_eq_false c1
      go_wp2_with fail
      go_meet
      case rel => exact ⟨rfl,by rw [d1];rfl⟩
    case rest =>
     obtain ⟨rfl,rfl⟩:=hcut
     obtain ⟨vc,hvc⟩ : ∃ b,(decide ((rd_T70 l2 i).f2 < 0) && (!((rd_T70 l2 i).f3 == 0) || !((rd_T70 l2 i).f4.length == 0))) = b:=⟨_,rfl⟩
     rw [hvc]
     have HVC:=qd3 hvc
     clear hvc
     cases vc
     rotate_left
     ·
      go_wp2_with fail
      go_ret
      exact ⟨congrArg (fun b => Ending.returned (Value.bool b)) (LB.out (by unfold lockB;rw [HVH.out,HVC.out];rfl)),HBC.out⟩
     have hn4 : (rd_T70 l2 i).f4.length ≤ 9223372036854775807:=HR4.out.2.1
     have LB2 : Aside0 (∀ k,k < (rd_T70 l2 i).f4.length → waitB (rd_T70 l2 i).f2 (rd_T70 l2 i).f4 k = false → false = R):=⟨fun k hk hh => LB.out (by
      unfold lockB
      rw [HVH.out,HVC.out]
      show (List.range (rd_T70 l2 i).f4.length).all (waitB (rd_T70 l2 i).f2 (rd_T70 l2 i).f4) = false
      rw [List.all_eq_false]
      exact ⟨k,List.mem_range.2 hk,by rw [hh];simp⟩)⟩
     have LT2 : Aside0 ((List.range (rd_T70 l2 i).f4.length).all (waitB (rd_T70 l2 i).f2 (rd_T70 l2 i).f4) = true → lockB t1 l2 i = true):=⟨fun hh => by
      unfold lockB
      rw [HVH.out,HVC.out,hh]
      rfl⟩
     clear LB HVH HVC b1 b2 x2 x3 x4
     go_wp2_with fail
     go_loopg [5] ((rd_T70 l2 i).f4.length) (fun g v5 wx => ∃ k : Nat,v5 = .int .i64 k ∧ k ≤ (rd_T70 l2 i).f4.length ∧ Aside0 (k + g = (rd_T70 l2 i).f4.length) ∧ Aside0 ((List.range k).all (waitB (rd_T70 l2 i).f2 (rd_T70 l2 i).f4) = true) ∧ Aside0 (wx.heap[w.heap.size]? = some (.cells #[.int .i64 t0,.int .i64 t1,.slice (some ad) l2.length c2,.slice A3 l3.length c3] 31 (0,0))) ∧ Aside0 (wx.heap[wo.heap.size]? = some (.cells #[.string (rd_T70 l2 i).f0,.int .i64 (rd_T70 l2 i).f1,.int .i64 (rd_T70 l2 i).f2,.int .i64 (rd_T70 l2 i).f3,.slice A4 (rd_T70 l2 i).f4.length c4] 70 (0,0))) ∧ Aside0 (Below w.heap.size w wx) ∧ Aside0 (Below wo.heap.size wo wx))
     case atStart => exact ⟨0,rfl,Nat.zero_le _,⟨by omega⟩,⟨rfl⟩,HGC,HXC,HBC,HWC⟩
     case round =>
      clear HGC HXC HBC HWC
      obtain ⟨k,rfl,hk,HM2,HL2,HG2,HX2,HB2,HW2⟩:=hrel
      have x2:=(blk_cell HX2.out 2).trans rfl
      have x4:=(blk_cell HX2.out 4).trans rfl
      by_cases hkl : k < (rd_T70 l2 i).f4.length
      ·
       obtain ⟨ad4,eA4,z0,z1⟩:=at_T73 (Kd.C_below HR4.out HW2.out) (k : Int) (by omega) (by omega)
       cases eA4
       simp only [Int.toNat_natCast] at z0 z1
       have q0 : ((k : Int) < ((rd_T70 l2 i).f4.length : Int)) = True:=eq_true (by omega)
       have q1 : (0 ≤ (k : Int)) = True:=eq_true (by omega)
       have q2 : decide ((k : Int) < ((rd_T70 l2 i).f4.length : Int)) = true:=decide_eq_true (by omega)
       have LBk : Aside0 (waitB (rd_T70 l2 i).f2 (rd_T70 l2 i).f4 k = false → false = R):=⟨LB2.out k hkl⟩
       go_upto_region 15 with fail
       have HVB:=qd3 (heap_alloc_new wr (Obj.cells #[.int .i64 (rd_T73 (rd_T70 l2 i).f4 k).f0,.int .i64 (rd_T73 (rd_T70 l2 i).f4 k).f1] 73 (0,0)))
       have HWB:=qd3 ((Below.refl wr.heap.size wr).alloc (Nat.le_refl _) (Obj.cells #[.int .i64 (rd_T73 (rd_T70 l2 i).f4 k).f0,.int .i64 (rd_T73 (rd_T70 l2 i).f4 k).f1] 73 (0,0)))
       have hs2 : wo.heap.size < wr.heap.size:=(Array.getElem?_eq_some_iff.1 HX2.out).1
       have hs3 : w.heap.size < wr.heap.size:=(Array.getElem?_eq_some_iff.1 HG2.out).1
       have u0:=(blk_cell HVB.out 0).trans rfl
       have u1:=(blk_cell HVB.out 1).trans rfl
       replace x2:=pw_cell_below HWB.out x2
       replace x4:=pw_cell_below HWB.out x4
       have HG3:=qd3 ((HWB.out.block _ hs3).trans HG2.out)
       have HX3:=qd3 ((HWB.out.block _ hs2).trans HX2.out)
       have HB3:=qd3 (below_then HB2.out HB2.out.size HWB.out)
       have HW3:=qd3 (below_then HW2.out HW2.out.size HWB.out)
       clear z0 z1 HG2 HX2 HB2 HW2
       generalize wr.alloc (Obj.cells #[.int .i64 (rd_T73 (rd_T70 l2 i).f4 k).f0,.int .i64 (rd_T73 (rd_T70 l2 i).f4 k).f1] 73 (0,0)) = W2 at HVB HWB u0 u1 x2 x4 HG3 HX3 HB3 HW3 ⊢
       obtain ⟨v4,h4⟩ : ∃ b,inB (rd_T73 (rd_T70 l2 i).f4 k).f0 0 255 = b:=⟨_,rfl⟩
       obtain ⟨v5,h5⟩ : ∃ b,inB (rd_T73 (rd_T70 l2 i).f4 k).f1 1 1000 = b:=⟨_,rfl⟩
       have G4:=qd3 h4
       have G5:=qd3 h5
       clear h4 h5
       cases v4
       ·
        go_wp2_with (first|(go_at_call 41;(with_reducible first|refine (in_callsW _ _ _ _ _ G4).mono ?_|refine (in_callsW _ _ _ _ _ G5).mono ?_);rintro e w' ⟨rfl,rfl⟩))
        go_ret
        exact ⟨congrArg (fun b => Ending.returned (Value.bool b)) (LBk.out (by unfold waitB;rw [G4.out];rfl)),HB3.out⟩
       cases v5
       ·
        go_wp2_with (first|(go_at_call 41;(with_reducible first|refine (in_callsW _ _ _ _ _ G4).mono ?_|refine (in_callsW _ _ _ _ _ G5).mono ?_);rintro e w' ⟨rfl,rfl⟩))
        go_ret
        exact ⟨congrArg (fun b => Ending.returned (Value.bool b)) (LBk.out (by unfold waitB;rw [G4.out,G5.out];rfl)),HB3.out⟩
       obtain ⟨v6,h6⟩ : ∃ b,((rd_T73 (rd_T70 l2 i).f4 k).f0 == (rd_T70 l2 i).f2) = b:=⟨_,rfl⟩
       have G6:=qd3 h6
       cases v6
       rotate_left
       ·
        go_wp2_with (first|(go_at_call 41;(with_reducible first|refine (in_callsW _ _ _ _ _ G4).mono ?_|refine (in_callsW _ _ _ _ _ G5).mono ?_);rintro e w' ⟨rfl,rfl⟩))
        go_ret
        exact ⟨congrArg (fun b => Ending.returned (Value.bool b)) (LBk.out (by unfold waitB;rw [G4.out,G5.out,G6.out];rfl)),HB3.out⟩
       go_wp2_with (first|(go_at_call 41;(with_reducible first|refine (in_callsW _ _ _ _ _ G4).mono ?_|refine (in_callsW _ _ _ _ _ G5).mono ?_);rintro e w' ⟨rfl,rfl⟩))
       clear h6 u0 u1 x2
       have u0 : W2.cell? ⟨wr.heap.size,0,none⟩ = some (.int .i64 (rd_T73 (rd_T70 l2 i).f4 k).f0):=(blk_cell HVB.out 0).trans rfl
       have LBj : Aside0 (∀ j,j < k → ((rd_T73 (rd_T70 l2 i).f4 j).f0 == (rd_T73 (rd_T70 l2 i).f4 k).f0) = true → false = R):=⟨fun j hj hh => LBk.out (by
        have h0 : (List.range k).all (fun j => !((rd_T73 (rd_T70 l2 i).f4 j).f0 == (rd_T73 (rd_T70 l2 i).f4 k).f0)) = false:=by
         rw [List.all_eq_false]
         exact ⟨j,List.mem_range.2 hj,by rw [hh];decide⟩
        unfold waitB
        rw [h0]
        simp)⟩
       have LTk : Aside0 ((List.range k).all (fun j => !((rd_T73 (rd_T70 l2 i).f4 j).f0 == (rd_T73 (rd_T70 l2 i).f4 k).f0)) = true → waitB (rd_T70 l2 i).f2 (rd_T70 l2 i).f4 k = true):=⟨fun hh => by
        unfold waitB
        rw [G4.out,G5.out,G6.out,hh]
        rfl⟩
       obtain ⟨g2,rfl⟩ : ∃ g2 : Nat,g2 = gk:=⟨_,rfl⟩
       obtain ⟨wi,rfl⟩ : ∃ wi : World,wi = wr:=⟨_,rfl⟩
       go_loopg [7] k (fun g v7 wx => ∃ j : Nat,v7 = .int .i64 j ∧ j ≤ k ∧ Aside0 (j + g = k) ∧ Aside0 ((List.range j).all (fun q => !((rd_T73 (rd_T70 l2 i).f4 q).f0 == (rd_T73 (rd_T70 l2 i).f4 k).f0)) = true) ∧ ∃ n,wx = W2.drewN n)
       case atStart => exact ⟨0,rfl,Nat.zero_le _,⟨by omega⟩,⟨rfl⟩,0,rfl⟩
       case round =>
        obtain ⟨j,rfl,hj,HM3,HL3,n3,rfl⟩:=hrel
        by_cases hjl : j < k
        ·
         obtain ⟨ad5,eA5,z0,z1⟩:=at_T73 (Kd.C_below HR4.out HW3.out) (j : Int) (by omega) (by omega)
         cases eA5
         simp only [Int.toNat_natCast] at z0 z1
         have r0 : ((j : Int) < ((rd_T70 l2 i).f4.length : Int)) = True:=eq_true (by omega)
         have r1 : (0 ≤ (j : Int)) = True:=eq_true (by omega)
         have r2 : decide ((j : Int) < ((rd_T70 l2 i).f4.length : Int)) = true:=decide_eq_true (by omega)
         obtain ⟨v7,h7⟩ : ∃ b,((rd_T73 (rd_T70 l2 i).f4 j).f0 == (rd_T73 (rd_T70 l2 i).f4 k).f0) = b:=⟨_,rfl⟩
         have G7:=qd3 h7
         cases v7
         ·
          go_upto_region 20 with fail
          go_big_quiet (fail)
          go_wp2_with fail
          go_roundg (gk - 1)
          case measure => have:=HM3.out;omega
          case rel => exact ⟨j + 1,by go_num,by omega,⟨by have:=HM3.out;omega⟩,⟨by rw [List.range_succ,List.all_append,HL3.out];simp [G7.out]⟩,_,rfl⟩
         ·
          go_upto_region 20 with fail
          go_big_quiet (fail)
          go_wp2_with fail
          go_ret
          exact ⟨congrArg (fun b => Ending.returned (Value.bool b)) (LBj.out j hjl G7.out),qb3 (qb3 HB3.out _) _⟩
        ·
         obtain rfl : j = k:=by omega
         go_wp2_with fail
         go_roundg (g2 - 1)
         case measure => have:=HM2.out;omega
         case rel => exact ⟨j + 1,by go_num,by omega,⟨by have:=HM2.out;omega⟩,⟨by rw [List.range_succ,List.all_append,HL2.out];simp [LTk.out HL3.out]⟩,HG3,HX3,⟨qb3 HB3.out _⟩,⟨qb3 HW3.out _⟩⟩
      ·
       obtain rfl : k = (rd_T70 l2 i).f4.length:=by omega
       go_wp2_with fail
       go_roundg (go - 1)
       case measure => have:=HM.out;omega
       case rel => exact ⟨i + 1,by go_num,by omega,⟨by have:=HM.out;omega⟩,⟨by rw [List.range_succ,List.all_append,HL.out];simp [LT2.out HL2.out]⟩,HG2,HB2⟩
  ·
   obtain rfl : i = l2.length:=by omega
   have HS : Aside0 (∀ b,(List.range l3.length).all (seenB l3) = b → b = R):=⟨fun b hb => HT.out b (by rw [HL.out,hb];rfl)⟩
   clear HT HL HM b0 b1 HTX
   go_wp2_with fail
   clear b2 b3
   go_loopg [8] (l3.length) (fun g v8 wx => ∃ i : Nat,v8 = .int .i64 i ∧ i ≤ l3.length ∧ Aside0 (i + g = l3.length) ∧ Aside0 ((List.range i).all (seenB l3) = true) ∧ Aside0 (wx.heap[w.heap.size]? = some (.cells #[.int .i64 t0,.int .i64 t1,.slice A2 l2.length c2,.slice A3 l3.length c3] 31 (0,0))) ∧ Aside0 (Below w.heap.size w wx))
   case atStart => exact ⟨0,rfl,Nat.zero_le _,⟨by omega⟩,⟨rfl⟩,HG,HB⟩
   case round =>
    clear HG HB
    obtain ⟨go,rfl⟩ : ∃ go : Nat,go = gk:=⟨_,rfl⟩
    obtain ⟨wn,rfl⟩ : ∃ wn : World,wn = wr:=⟨_,rfl⟩
    obtain ⟨i,rfl,hi,HM,HL,HG,HB⟩:=hrel
    have b3 : wn.cell? ⟨w.heap.size,3,none⟩ = some (.slice A3 l3.length c3):=(blk_cell HG.out 3).trans rfl
    by_cases hlt : i < l3.length
    ·
     obtain ⟨ad,eA,y0,y1,y2,y3,y4,y5⟩:=at_T77 (Kd.C_below HR3.out HB.out) (i : Int) (by omega) (by omega)
     cases eA
     simp only [Int.toNat_natCast] at y0 y1 y2 y3 y4 y5
     have p0 : ((i : Int) < (l3.length : Int)) = True:=eq_true (by omega)
     have p1 : (0 ≤ (i : Int)) = True:=eq_true (by omega)
     have p2 : decide ((i : Int) < (l3.length : Int)) = true:=decide_eq_true (by omega)
     have LB : Aside0 (seenB l3 i = false → false = R):=⟨fun hh => HS.out _ (by
      rw [List.all_eq_false]
      exact ⟨i,List.mem_range.2 hlt,by rw [hh];simp⟩)⟩
     go_upto_region 26 with fail
     have HXB:=qd3 (heap_alloc_new wn (Obj.cells #[.int .i64 (rd_T77 l3 i).f0,.int .i64 (rd_T77 l3 i).f1,.int .i64 (rd_T77 l3 i).f2.f0,.int .i64 (rd_T77 l3 i).f2.f1,.int .i64 (rd_T77 l3 i).f2.f2,.int .i64 (rd_T77 l3 i).f2.f3] 77 (0,0)))
     have HWB:=qd3 ((Below.refl wn.heap.size wn).alloc (Nat.le_refl _) (Obj.cells #[.int .i64 (rd_T77 l3 i).f0,.int .i64 (rd_T77 l3 i).f1,.int .i64 (rd_T77 l3 i).f2.f0,.int .i64 (rd_T77 l3 i).f2.f1,.int .i64 (rd_T77 l3 i).f2.f2,.int .i64 (rd_T77 l3 i).f2.f3] 77 (0,0)))
     have hsz : w.heap.size < wn.heap.size:=(Array.getElem?_eq_some_iff.1 HG.out).1
     have HG1:=qd3 ((HWB.out.block _ hsz).trans HG.out)
     have HB1:=qd3 (below_then HB.out HB.out.size HWB.out)
     have hp : ∀ j : Nat,j < l3.length → (wn.alloc (Obj.cells #[.int .i64 (rd_T77 l3 i).f0,.int .i64 (rd_T77 l3 i).f1,.int .i64 (rd_T77 l3 i).f2.f0,.int .i64 (rd_T77 l3 i).f2.f1,.int .i64 (rd_T77 l3 i).f2.f2,.int .i64 (rd_T77 l3 i).f2.f3] 77 (0,0))).cell? (ad.add (j * 6)) = some (.int .i64 (rd_T77 l3 j).f0):=fun j hj => by
      obtain ⟨ad',eA',yy0,-⟩:=at_T77 (Kd.C_below HR3.out HB.out) (j : Int) (by omega) (by omega)
      cases eA'
      exact pw_cell_below HWB.out yy0
     have HP:=qd3 hp
     clear hp y0 y1 y2 y3 y4 y5 b3 HWB HG HB
     generalize wn.alloc (Obj.cells #[.int .i64 (rd_T77 l3 i).f0,.int .i64 (rd_T77 l3 i).f1,.int .i64 (rd_T77 l3 i).f2.f0,.int .i64 (rd_T77 l3 i).f2.f1,.int .i64 (rd_T77 l3 i).f2.f2,.int .i64 (rd_T77 l3 i).f2.f3] 77 (0,0)) = W1 at HXB HG1 HB1 HP ⊢
     have x0 : ∀ x : Blw W1,x.w.cell? ⟨wn.heap.size,0,none⟩ = some (.int .i64 (rd_T77 l3 i).f0):=Blw.cell ((blk_cell HXB.out 0).trans rfl)
     have x1 : ∀ x : Blw W1,x.w.cell? ⟨wn.heap.size,1,none⟩ = some (.int .i64 (rd_T77 l3 i).f1):=Blw.cell ((blk_cell HXB.out 1).trans rfl)
     have x2 : ∀ x : Blw W1,x.w.cell? ⟨wn.heap.size,2,none⟩ = some (.int .i64 (rd_T77 l3 i).f2.f0):=Blw.cell ((blk_cell HXB.out 2).trans rfl)
     have x3 : ∀ x : Blw W1,x.w.cell? ⟨wn.heap.size,3,none⟩ = some (.int .i64 (rd_T77 l3 i).f2.f1):=Blw.cell ((blk_cell HXB.out 3).trans rfl)
     have x4 : ∀ x : Blw W1,x.w.cell? ⟨wn.heap.size,4,none⟩ = some (.int .i64 (rd_T77 l3 i).f2.f2):=Blw.cell ((blk_cell HXB.out 4).trans rfl)
     have x5 : ∀ x : Blw W1,x.w.cell? ⟨wn.heap.size,5,none⟩ = some (.int .i64 (rd_T77 l3 i).f2.f3):=Blw.cell ((blk_cell HXB.out 5).trans rfl)
     have b3 : ∀ x : Blw W1,x.w.cell? ⟨w.heap.size,3,none⟩ = some (.slice (some ad) l3.length c3):=Blw.cell ((blk_cell HG1.out 3).trans rfl)
     obtain ⟨v1,h1⟩ : ∃ b,inB (rd_T77 l3 i).f0 0 255 = b:=⟨_,rfl⟩
     obtain ⟨v2,h2⟩ : ∃ b,inB (rd_T77 l3 i).f1 1 65535 = b:=⟨_,rfl⟩
     obtain ⟨v3,h3⟩ : ∃ b,ansB (rd_T77 l3 i).f2 = b:=⟨_,rfl⟩
     have G1:=qd3 h1
     have G2:=qd3 h2
     have G3:=qd3 h3
     clear h1 h2 h3
     go_cut [191] (fun s191 wx => s191 = .bool (!seenB l3 i) ∧ Aside0 (Below W1.heap.size W1 wx))
     case first =>
      cases v1
      ·
       refine wp_region_blw (by kernel_rfl) (by kernel_rfl) ?_
       repeat (go_big_quiet_step (first
        | (with_reducible first|exact Calls.blw_same (in_callsW _ _ _ _ _ G1)|exact Calls.blw_same (in_callsW _ _ _ _ _ G2))
        | exact Calls.blw (spec_l05Answer.calls _ _ _ _ _ _ (ans_f _ _ _ _ _ G3))))
       refine wpQuiet_nil ?_
       intro _ hw'
       obtain ⟨xq,rfl⟩:=hw'
       have HXQ:=qd3 xq.h
       go_wp2_with fail
       go_meet
       case rel =>
        have hh : seenB l3 i = false:=by
         unfold seenB
         rw [G1.out];rfl
        exact ⟨by rw [hh];rfl,HXQ⟩
      cases v2
      ·
       refine wp_region_blw (by kernel_rfl) (by kernel_rfl) ?_
       repeat (go_big_quiet_step (first
        | (with_reducible first|exact Calls.blw_same (in_callsW _ _ _ _ _ G1)|exact Calls.blw_same (in_callsW _ _ _ _ _ G2))
        | exact Calls.blw (spec_l05Answer.calls _ _ _ _ _ _ (ans_f _ _ _ _ _ G3))))
       refine wpQuiet_nil ?_
       intro _ hw'
       obtain ⟨xq,rfl⟩:=hw'
       have HXQ:=qd3 xq.h
       go_wp2_with fail
       go_meet
       case rel =>
        have hh : seenB l3 i = false:=by
         unfold seenB
         rw [G1.out,G2.out];rfl
        exact ⟨by rw [hh];rfl,HXQ⟩
      cases v3
      ·
       refine wp_region_blw (by kernel_rfl) (by kernel_rfl) ?_
       repeat (go_big_quiet_step (first
        | (with_reducible first|exact Calls.blw_same (in_callsW _ _ _ _ _ G1)|exact Calls.blw_same (in_callsW _ _ _ _ _ G2))
        | exact Calls.blw (spec_l05Answer.calls _ _ _ _ _ _ (ans_f _ _ _ _ _ G3))))
       refine wpQuiet_nil ?_
       intro _ hw'
       obtain ⟨xq,rfl⟩:=hw'
       have HXQ:=qd3 xq.h
       go_wp2_with fail
       go_meet
       case rel =>
        have hh : seenB l3 i = false:=by
         unfold seenB
         rw [G1.out,G2.out,G3.out];rfl
        exact ⟨by rw [hh];rfl,HXQ⟩
      by_cases hi0 : i = 0
      ·
       have z0 : Aside0 ((i == 0 || decide ((rd_T77 l3 ((i : Int) - 1)).f0 < (rd_T77 l3 i).f0)) = true):=⟨by simp [hi0]⟩
       have z1 : ((0 : Int) < (i : Int)) = False:=eq_false (by omega)
       have z2 : decide ((0 : Int) < (i : Int)) = false:=decide_eq_false (by omega)
       have z3 : ((i : Int) = 0) = True:=eq_true (by omega)
       have z4 : (0 < i) = False:=eq_false (by omega)
       have z5 : decide (0 < i) = false:=decide_eq_false (by omega)
       clear hi0
       refine wp_region_blw (by kernel_rfl) (by kernel_rfl) ?_
       repeat (go_big_quiet_step (first
        | (with_reducible first|exact Calls.blw_same (in_callsW _ _ _ _ _ G1)|exact Calls.blw_same (in_callsW _ _ _ _ _ G2))
        | exact Calls.blw (spec_l05Answer.calls _ _ _ _ _ _ (ans_f _ _ _ _ _ G3))))
       refine wpQuiet_nil ?_
       intro _ hw'
       obtain ⟨xq,rfl⟩:=hw'
       have HXQ:=qd3 xq.h
       go_wp2_with fail
       go_meet
       case rel =>
        have hh : seenB l3 i = true:=by
         unfold seenB
         rw [G1.out,G2.out,G3.out,z0.out];rfl
        exact ⟨by rw [hh];rfl,HXQ⟩
      ·
       have z1 : ((0 : Int) < (i : Int)) = True:=eq_true (by omega)
       have z2 : decide ((0 : Int) < (i : Int)) = true:=decide_eq_true (by omega)
       have z3 : ((i : Int) = 0) = False:=eq_false (by omega)
       have z4 : (0 < i) = True:=eq_true (by omega)
       have z5 : decide (0 < i) = true:=decide_eq_true (by omega)
       have z6 : (1 ≤ (i : Int)) = True:=eq_true (by omega)
       have z7 : ((i : Int) - 1 < (l3.length : Int)) = True:=eq_true (by omega)
       have z8 : IntKind.i64.wrap ((i : Int) - 1) = (i : Int) - 1:=IntWalk.i64_in _ (by omega)
       have z9 : (0 ≤ (i : Int) - 1) = True:=eq_true (by omega)
       have e1 : ((i - 1 : Nat) : Int) = (i : Int) - 1:=by omega
       have hq0:=Blw.cell (HP.out (i - 1) (by omega))
       rw [e1] at hq0
       have z10 : ((i : Int) - 1).toNat = i - 1:=by omega
       have N0 : Aside0 ((i == 0) = false):=⟨by simp [hi0]⟩
       clear e1 hi0 HP
       by_cases hvb : (rd_T77 l3 ((i : Int) - 1)).f0 < (rd_T77 l3 i).f0
       ·
        have z0 : Aside0 ((i == 0 || decide ((rd_T77 l3 ((i : Int) - 1)).f0 < (rd_T77 l3 i).f0)) = true):=⟨by rw [N0.out,decide_eq_true hvb];rfl⟩
        have hvc : decide ((rd_T77 l3 i).f0 ≤ (rd_T77 l3 ((i : Int) - 1)).f0) = false:=decide_eq_false (by omega)
        refine wp_region_blw (by kernel_rfl) (by kernel_rfl) ?_
        repeat (go_big_quiet_step (first
         | (with_reducible first|exact Calls.blw_same (in_callsW _ _ _ _ _ G1)|exact Calls.blw_same (in_callsW _ _ _ _ _ G2))
         | exact Calls.blw (spec_l05Answer.calls _ _ _ _ _ _ (ans_f _ _ _ _ _ G3))))
        refine wpQuiet_nil ?_
        intro _ hw'
        obtain ⟨xq,rfl⟩:=hw'
        have HXQ:=qd3 xq.h
        go_wp2_with fail
        go_meet
        case rel =>
         have hh : seenB l3 i = true:=by
          unfold seenB
          rw [G1.out,G2.out,G3.out,z0.out];rfl
         exact ⟨by rw [hh];rfl,HXQ⟩
       ·
        have z0 : Aside0 ((i == 0 || decide ((rd_T77 l3 ((i : Int) - 1)).f0 < (rd_T77 l3 i).f0)) = false):=⟨by rw [N0.out,decide_eq_false hvb];rfl⟩
        have hvc : decide ((rd_T77 l3 i).f0 ≤ (rd_T77 l3 ((i : Int) - 1)).f0) = true:=decide_eq_true (by omega)
        refine wp_region_blw (by kernel_rfl) (by kernel_rfl) ?_
        repeat (go_big_quiet_step (first
         | (with_reducible first|exact Calls.blw_same (in_callsW _ _ _ _ _ G1)|exact Calls.blw_same (in_callsW _ _ _ _ _ G2))
         | exact Calls.blw (spec_l05Answer.calls _ _ _ _ _ _ (ans_f _ _ _ _ _ G3))))
        refine wpQuiet_nil ?_
        intro _ hw'
        obtain ⟨xq,rfl⟩:=hw'
        have HXQ:=qd3 xq.h
        go_wp2_with fail
        go_meet
        case rel =>
         have hh : seenB l3 i = false:=by
          unfold seenB
          rw [G1.out,G2.out,G3.out,z0.out];rfl
         exact ⟨by rw [hh];rfl,HXQ⟩
     case rest =>
      obtain ⟨rfl,HWC⟩:=hcut
      clear x0 x1 x2 x3 x4 x5 b3 G1 G2 G3 HP
      have hsz1 : w.heap.size < W1.heap.size:=(Array.getElem?_eq_some_iff.1 HG1.out).1
      have HGC:=qd3 ((HWC.out.block _ hsz1).trans HG1.out)
      have HBC:=qd3 (below_then HB1.out HB1.out.size HWC.out)
      obtain ⟨vh,hvh⟩ : ∃ b,seenB l3 i = b:=⟨_,rfl⟩
      rw [hvh]
      have HVH:=qd3 hvh
      clear hvh
      cases vh
      ·
       go_wp2_with fail
       go_ret
       exact ⟨congrArg (fun b => Ending.returned (Value.bool b)) (LB.out HVH.out),HBC.out⟩
      go_wp2_with fail
      go_roundg (go - 1)
      case measure => have:=HM.out;omega
      case rel => exact ⟨i + 1,by go_num,by omega,⟨by have:=HM.out;omega⟩,⟨by rw [List.range_succ,List.all_append,HL.out];simp [HVH.out]⟩,HGC,HBC⟩
    ·
     obtain rfl : i = l3.length:=by omega
     go_wp2_with fail
     go_ret
     exact ⟨congrArg (fun b => Ending.returned (Value.bool b)) (HS.out _ HL.out),HB.out⟩
end
def spec_TableOK.f (a0_0 : Int) (a0_1 : Int) (l0_2 : List S70) (l0_3 : List S77) : Option Bool:=if (l0_2.all fun x => (spec_l02Text.f 99 x.f0 12).isSome) = true then some (tableB a0_0 a0_1 l0_2 l0_3) else none
theorem spec_TableOK.calls (a0_0 : Int) (a0_1 : Int) (A0_2 : Option Addr) (c0_2 : Nat) (l0_2 : List S70) (A0_3 : Option Addr) (c0_3 : Nat) (l0_3 : List S77) (r : Bool) (w : World) (hr0_2 : Kd.C k70 w A0_2 l0_2.length l0_2) (hc0_2 : l0_2.length ≤ c0_2) (hr0_3 : Kd.C k77 w A0_3 l0_3.length l0_3) (hc0_3 : l0_3.length ≤ c0_3) (h : spec_TableOK.f a0_0 a0_1 l0_2 l0_3 = some r) :
  Calls Try.prog 9 #[.agg #[.int .i64 a0_0,.int .i64 a0_1,.slice A0_2 l0_2.length c0_2,.slice A0_3 l0_3.length c0_3]] w fun e w' => e = .returned (.bool r) ∧ Below w.heap.size w w':=by
 by_cases hs : (l0_2.all fun x => (spec_l02Text.f 99 x.f0 12).isSome) = true
 ·
  rw [spec_TableOK.f,if_pos hs] at h
  refine table_calls a0_0 a0_1 A0_2 A0_3 c0_2 c0_3 l0_2 l0_3 w r (sO h) hr0_2 hr0_3 (fun i hi => ?_)
  have h1:=List.all_eq_true.1 hs (rd_T70 l0_2 i) (by simp [rd_T70,hi])
  exact Option.isSome_iff_exists.1 h1
 ·
  rw [spec_TableOK.f,if_neg hs] at h
  cases h


/-! ### spec_l02Number: function 79 -/
def spec_l02Number.l0 : Nat → Int → List Int → Int → Option (List Int)
 | 0,_,_,_ => none
 | k + 1,x0,x5,x6 => if x6 ≥ 0 then (if 0 ≤ (IntKind.u64.wrap (wrap64 (8 * x6))) then (if x5.length < 140737488355328 then (spec_l02Number.l0 k x0 (x5 ++ [(shr .i64 x0 (IntKind.u64.wrap (wrap64 (8 * x6)))) % 256]) (wrap64 (x6 - 1))) else (none)) else (none)) else (some x5)
def spec_l02Number.f (k : Nat) (a0 : Int) (a1 : Int) : Option (List Int):=spec_l02Number.l0 k a0 (([] : List Int)) (wrap64 (a1 - 1))
set_option maxHeartbeats 8000000 in
set_option maxRecDepth 100000 in
theorem spec_l02Number.calls (k : Nat) (a0 : Int) (a1 : Int) (r : List Int) (w : World) (h : spec_l02Number.f k a0 a1 = some r) :
  Calls Try.prog 79 #[.int .i64 a0,.int .i64 a1] w fun e w' => ∃ v0_ : Value,e = .returned (v0_) ∧ Kd.R (Kd.int .u8) 5 w' w.heap.size (fun _ => True) v0_ r ∧ Below w.heap.size w w':=by
 have HB:=qd3 (Below.refl w.heap.size w)
 have H : (spec_l02Number.l0 k a0 (([] : List Int)) (wrap64 (a1 - 1))) = some r:=h
 clear h
 obtain ⟨y177,hy177⟩ : ∃ y_ : List Int,y_ = (([] : List Int)):=⟨_,rfl⟩
 replace H : (spec_l02Number.l0 k a0 y177 (wrap64 (a1 - 1))) = some r:=by first|(rw [hy177];with_reducible exact H)|(have H2_:=(Option.bind_some _ _).symm.trans H;rw [hy177];with_reducible exact H2_)|(have H2_:=(Option.bind_some _ _).symm.trans H;with_reducible exact H2_)|with_reducible exact H|(rw [hy177];exact H)|exact H
 have Ny177:=qd3 hy177
 clear hy177
 have H':=qd3 H
 clear H
 go_enter Try.func79,Try.ntmps79
 go_wp2_with (first|((with_reducible refine gate_dst (N:=7) rfl ?_);refine Kd.R_lit (Kd.int .u8) _ 5 ?hg (N:=7) ?hd (xs:=([] : List Int)) (inner:=[]) (ok:=fun _ => True) (okp:=fun _ => True) ?hr ?hp (fun _ hk => hk) trivial (Below.refl _ _) (Nat.le_refl _) (by simp) ?_;(case hd => rfl);(case hg => rfl);(case hr => first|(go_simp;done)|(go_simp;rfl));(case hp => exact (Reps.none _ _));intro v178 w3 ho4 hb hg_ hnew_;clear hg_ hnew_;(first|rw [← Ny177.out] at ho4|(simp only [Int.reduceToNat] at ho4;rw [← Ny177.out] at ho4));have n0_:=qd3 (Kd.R_lower ho4 (below_size (by repeat (first|(with_reducible first|exact HB.out|apply qa3|apply qb3|apply qc3)|exact HB.out))));have n1_:=qd3 (sN (by repeat (first|(with_reducible first|exact HB.out|apply qa3|apply qb3|apply qc3)|exact HB.out)) hb);clear HB;have HO179:=n0_;have HB:=n1_;clear n0_ n1_;clear hb ho4))
 go_loopg [5,6] k (fun kq v5 v6 w' => ∃ (x5_1 : List Int) (x6_1 : Int),v6 = .int .i64 x6_1 ∧ Aside0 (spec_l02Number.l0 kq a0 x5_1 x6_1 = some r) ∧ Aside0 (kq ≤ k) ∧ Aside0 (Kd.R (Kd.int .u8) 5 w' w.heap.size (fun _ => True) v5 x5_1) ∧ Aside0 (Below w.heap.size w w'))
 case atStart => exact ⟨(y177),(wrap64 (a1 - 1)),(by first|rfl|(simp;done)|(simp [*];done)),H',⟨Nat.le_refl _⟩,⟨by (with_reducible repeat (first|apply Kd.R_alloc|apply Kd.R_drewN|apply Kd.R_drew));exact HO179.out⟩,⟨by repeat (first|(with_reducible first|exact HB.out|apply qa3|apply qb3|apply qc3)|exact HB.out)⟩⟩
 case round =>
  clear H'
  try clear p2
  obtain ⟨x5_1,x6_1,rfl,HA,HK1,HO_5,HB⟩:=hrel
  cases gk with
  | zero => exact absurd HA.out (by simp [spec_l02Number.l0])
  | succ k1 =>
   have H:=HA.out
   clear HA
   simp only [spec_l02Number.l0] at H
   by_cases c5 : x6_1 ≥ 0
   ·
    rw [if_pos c5] at H
    have c5b0 : decide (0 ≤ x6_1) = true:=decide_eq_true c5
    clear c5
    obtain ⟨ji6,hji6⟩ : ∃ j_ : Int,(IntKind.u64.wrap (wrap64 (8 * x6_1))) = j_:=⟨_,rfl⟩
    replace H : (if 0 ≤ (ji6) then (if x5_1.length < 140737488355328 then (spec_l02Number.l0 k1 a0 (x5_1 ++ [(shr .i64 a0 (ji6)) % 256]) (wrap64 (x6_1 - 1))) else (none)) else (none)) = some r:=by first|(rw [hji6] at H;exact H)|(simp only [hji6] at H ⊢;exact H)
    by_cases c7 : 0 ≤ (ji6)
    ·
     rw [if_pos c7] at H
     have c7b0:=eq_true c7
     have c7b1 : decide (0 ≤ (ji6)) = true:=decide_eq_true c7
     clear c7
     obtain ⟨ji8,hji8⟩ : ∃ j_ : Int,(shr .i64 a0 (ji6)) = j_:=⟨_,rfl⟩
     replace H : (if x5_1.length < 140737488355328 then (spec_l02Number.l0 k1 a0 (x5_1 ++ [(ji8) % 256]) (wrap64 (x6_1 - 1))) else (none)) = some r:=by first|(rw [hji8] at H;exact H)|(simp only [hji8] at H ⊢;exact H)
     have hji8_ : (a0 / 2 ^ min (ji6).toNat 64) = ji8:=hji8
     have hji8z : (ji6) ≤ 64 → (a0 / 2 ^ (ji6).toNat) = ji8:=shr_small hji8
     by_cases c9 : x5_1.length < 140737488355328
     ·
      rw [if_pos c9] at H
      have LMc9:=qd3 c9
      clear c9
      obtain ⟨y180,hy180⟩ : ∃ y_ : List Int,y_ = (x5_1 ++ [(ji8) % 256]):=⟨_,rfl⟩
      replace H : (spec_l02Number.l0 k1 a0 y180 (wrap64 (x6_1 - 1))) = some r:=by first|(rw [hy180];with_reducible exact H)|(have H2_:=(Option.bind_some _ _).symm.trans H;rw [hy180];with_reducible exact H2_)|(have H2_:=(Option.bind_some _ _).symm.trans H;with_reducible exact H2_)|with_reducible exact H|(rw [hy180];exact H)|exact H
      have Ny180:=qd3 hy180
      clear hy180
      have H':=qd3 H
      clear H
      go_wp2_with (first|((with_reducible refine gate_builtin (b:=.append) (xs:=#[.tmp 14,.tmp 21]) rfl ?_);at_builtin;refine Kd.R_append (Kd.int .u8) (w0:=w) w.heap.size rfl (.tmp 14) (.tmp 21) 38 5 (.int .u8 0) 1 rfl Try.underlying38 info5 rfl (by decide) (by omega) u5 x5_1 ((ji8) % 256) [.int .u8 ((ji8) % 256)] (fun _ => True) (fun _ => False) rfl rfl ?aP (fun _ hk => hk.elim) ?aF ?aO ?aB ?aS ?aL ?_;(case aP => exact rfl);(case aB => exact (by repeat (first|(with_reducible first|exact HB.out|apply qa3|apply qb3|apply qc3)|exact HB.out)));(case aF => exact (fun _ _ => trivial));(case aO => exact (by (with_reducible repeat (first|apply Kd.R_alloc|apply Kd.R_drewN|apply Kd.R_drew));exact HO_5.out));(case aS => exact (below_size (by repeat (first|(with_reducible first|exact HB.out|apply qa3|apply qb3|apply qc3)|exact HB.out))));(case aL => have:=LMc9.out;omega);intro v181 w10 ho hb hg hat;rw [← Ny180.out] at ho;have n0_:=qd3 (hb);have n1_:=qd3 (ho);clear HB;clear HO_5;have HB:=n0_;have HO182:=n1_;clear n0_ n1_;clear ho hb hg hat))
      go_roundg k1
      case measure => have:=HK1.out;omega
      case rel => exact ⟨(y180),(wrap64 (x6_1 - 1)),(by first|rfl|(simp;done)|(simp [*];done)),H',⟨by have:=HK1.out;omega⟩,⟨by (with_reducible repeat (first|apply Kd.R_alloc|apply Kd.R_drewN|apply Kd.R_drew));exact HO182.out⟩,⟨by repeat (first|(with_reducible first|exact HB.out|apply qa3|apply qb3|apply qc3)|exact HB.out)⟩⟩
     ·
      rw [if_neg c9] at H
      exact absurd H (by simp)
    ·
     rw [if_neg c7] at H
     exact absurd H (by simp)
   ·
    rw [if_neg c5] at H
    have c5b0 : decide (0 ≤ x6_1) = false:=decide_eq_false c5
    clear c5
    obtain rfl:=sO H
    go_wp2
    go_ret
    exact ⟨_,by first|rfl|(simp [errW_none,errW_some] <;> rfl)|(simp [*,errW_none,errW_some] <;> rfl),by (with_reducible repeat (first|apply Kd.R_alloc|apply Kd.R_drewN|apply Kd.R_drew));exact HO_5.out,by repeat (first|(with_reducible first|exact HB.out|apply qa3|apply qb3|apply qc3)|exact HB.out)⟩

end Go.Proofs.Ytjkanhjapddhnaa.PFnExactTableBytes
