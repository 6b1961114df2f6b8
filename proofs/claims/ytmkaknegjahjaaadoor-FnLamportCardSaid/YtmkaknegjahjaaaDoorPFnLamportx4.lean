-- laid by this session's program myprint.py over the kit's printer
-- squeezed
-- aliased
import Derived.Test.YtmkaknegjahjaaaDoorPFnLamportx0
import Derived.Test.YtmkaknegjahjaaaDoorPFnLamportx1
import Derived.Test.YtmkaknegjahjaaaDoorPFnLamportx3
namespace Go.Proofs.YtmkaknegjahjaaaDoor.PFnLamport
open Go.RowKit Go.Proofs.YtmkaknegjahjaaaDoorV.PrintWords Go.Proofs.YtmkaknegjahjaaaDoorV.PrintLast Go.Proofs.YtmkaknegjahjaaaDoorV.PrintMore
attribute [local go_sem] max2_int min2_int max_two min_two max_three min_three max_four min_four u8_wm u32_wm   -- for this text's walks alone
set_option linter.unusedVariables false
set_option linter.unusedSimpArgs false

/-! ### spec_SignAt: function 20 -/
theorem qa4 : type_of% @blk_drewN:=@blk_drewN
theorem qb4 : type_of% @blk_drew:=@blk_drew
theorem qc4 : type_of% @blk_alloc:=@blk_alloc
theorem qd4 : type_of% @below_alloc:=@below_alloc
theorem qe4 : type_of% @pw_below_drewN:=@pw_below_drewN
theorem qf4 : type_of% @below_drew1:=@below_drew1
theorem qg4 : type_of% @below_set:=@below_set
theorem qh4 : type_of% @Aside0.mk:=@Aside0.mk
theorem qi4 : type_of% @below_step:=@below_step
theorem qj4 : type_of% @below_size:=@below_size
def spec_SignAt.f (k : Nat) (a0 : ByteArray) (a1 : Int) (a2 : ByteArray) : Option (Int × List ByteArray × List ByteArray × List ByteArray × Int):=if (a0.size : Int) > 65536 then (some (0,([] : List ByteArray),([] : List ByteArray),([] : List ByteArray),2)) else (if (a2.size : Int) > 65530 then (some (0,([] : List ByteArray),([] : List ByteArray),([] : List ByteArray),2)) else (if (a0.size : Int) = 32 then ((spec_l01In.f a1 0 7).bind fun t188 => (if t188 = true then ((spec_l03Sign.f k a0 a1 a2).bind fun bt189 => (some (bt189.1,bt189.2.1,bt189.2.2.1,bt189.2.2.2,0))) else (some (0,([] : List ByteArray),([] : List ByteArray),([] : List ByteArray),4)))) else (some (0,([] : List ByteArray),([] : List ByteArray),([] : List ByteArray),1))))
theorem spec_SignAt.mono : ∀ a0 a1 a2 k,LeO (spec_SignAt.f k a0 a1 a2) (spec_SignAt.f (k + 1) a0 a1 a2):=by
 intro a0 a1 a2 k
 unfold spec_SignAt.f
 repeat' first
   | (with_reducible exact spec_l03Sign.mono _ _ _ _)
   | (with_reducible exact LeO.refl _)
   | (with_reducible exact LeO.none _)
   | (with_reducible refine LeO.ite ?_ ?_)
   | (with_reducible refine LeO.bind ?_ (fun _ => ?_))
   | exact spec_l03Sign.mono _ _ _ _
   | exact LeO.none _
   | refine LeO.ite ?_ ?_
   | refine LeO.bind ?_ (fun _ => ?_)
set_option maxHeartbeats 8000000 in
set_option maxRecDepth 100000 in
theorem spec_SignAt.calls (k : Nat) (a0 : ByteArray) (a1 : Int) (a2 : ByteArray) (r1 : Int) (r2 : List ByteArray) (r3 : List ByteArray) (r4 : List ByteArray) (r5 : Int) (w : World) (h : spec_SignAt.f k a0 a1 a2 = some (r1,r2,r3,r4,r5)) :
  Calls Tryd.prog 20 #[.string a0,.int .i64 a1,.string a2] w fun e w' => ∃ v1_ v2_ v3_ : Value,e = .returned (.tuple #[.agg #[.int .i64 r1,v1_,v2_,v3_],.int .i64 r5]) ∧ Kd.R Kd.string 9 w' w.heap.size (fun k_ => some k_ ≠ (v2_ : Value).ownBlock ∧ some k_ ≠ (v3_ : Value).ownBlock) v1_ r2 ∧ Kd.R Kd.string 9 w' w.heap.size (fun k_ => some k_ ≠ (v1_ : Value).ownBlock ∧ some k_ ≠ (v3_ : Value).ownBlock) v2_ r3 ∧ Kd.R Kd.string 9 w' w.heap.size (fun k_ => some k_ ≠ (v1_ : Value).ownBlock ∧ some k_ ≠ (v2_ : Value).ownBlock) v3_ r4 ∧ Below w.heap.size w w':=by
 have hu33:=Tryd.underlying33
 have HB:=qh4 (Below.refl w.heap.size w)
 have H : (if (a0.size : Int) > 65536 then (some (0,([] : List ByteArray),([] : List ByteArray),([] : List ByteArray),2)) else (if (a2.size : Int) > 65530 then (some (0,([] : List ByteArray),([] : List ByteArray),([] : List ByteArray),2)) else (if (a0.size : Int) = 32 then ((spec_l01In.f a1 0 7).bind fun t188 => (if t188 = true then ((spec_l03Sign.f k a0 a1 a2).bind fun bt189 => (some (bt189.1,bt189.2.1,bt189.2.2.1,bt189.2.2.2,0))) else (some (0,([] : List ByteArray),([] : List ByteArray),([] : List ByteArray),4)))) else (some (0,([] : List ByteArray),([] : List ByteArray),([] : List ByteArray),1))))) = some (r1,r2,r3,r4,r5):=h
 clear h
 by_cases c4 : (a0.size : Int) > 65536
 ·
  rw [if_pos c4] at H
  have c4b0 : decide (65536 < (a0.size : Int)) = true:=decide_eq_true c4
  have c4b1 : decide (65536 < a0.size) = true:=decide_eq_true (by omega)
  clear c4
  simp only [Option.some.injEq,Prod.mk.injEq] at H
  obtain ⟨rfl,rfl,rfl,rfl,rfl⟩:=H
  go_enter Tryd.func20,Tryd.ntmps20
  go_wp2_with (first|((with_reducible refine gate_dst (N:=6) rfl ?_);refine box_event ?hg (N:=6) ?hd (cs:=#[.int .i64 0,.slice none 0 0,.slice none 0 0,.slice none 0 0]) (t:=33) ?hr ?_;(case hd => rfl);(case hg => rfl);(case hr => first|(go_simp;done)|(go_simp;rfl));intro gb187 hg w5 hbox hb;have n0_:=qh4 (qi4 (by repeat (first|(with_reducible first|exact HB.out|apply qd4|apply qe4|apply qf4)|exact HB.out)) hb);have n1_:=qh4 (hbox);have n2_:=qh4 ((by rw [hg];exact (qj4 (by repeat (first|(with_reducible first|exact HB.out|apply qd4|apply qe4|apply qf4)|exact HB.out))) : w.heap.size ≤ gb187));have n3_:=qh4 ((by rw [hg];exact (qj4 (by repeat (first|(with_reducible first|exact HB.out|apply qd4|apply qe4|apply qf4)|exact HB.out))) : w.heap.size ≤ gb187));clear HB;have HB:=n0_;have BK187:=n1_;have GW187:=n2_;have GE187:=n3_;clear n0_ n1_ n2_ n3_;clear hb hbox hg;have hcz6_0 : w5.cell? ⟨gb187,0,none⟩ = some (.int .i64 0):=(blk_cell BK187.out 0).trans rfl;have hcz6_1 : w5.cell? ⟨gb187,1,none⟩ = some (.slice none 0 0):=(blk_cell BK187.out 1).trans rfl;have hcz6_2 : w5.cell? ⟨gb187,2,none⟩ = some (.slice none 0 0):=(blk_cell BK187.out 2).trans rfl;have hcz6_3 : w5.cell? ⟨gb187,3,none⟩ = some (.slice none 0 0):=(blk_cell BK187.out 3).trans rfl;have hfz6_0:=blk_frozen BK187.out 0;have hfz6_1:=blk_frozen BK187.out 1;have hfz6_2:=blk_frozen BK187.out 2;have hfz6_3:=blk_frozen BK187.out 3))
  refine bodyPost_ret (results_ct rfl _ _ gb187 33 #[.int .i64 0,.slice none 0 0,.slice none 0 0,.slice none 0 0] (0,0) _ rfl (by (with_reducible repeat (first|apply qa4|apply qb4|apply qc4));refine blk_put (cs:=#[.int .i64 0,.slice none 0 0,.slice none 0 0,.slice none 0 0]) ?_ 3 _ rfl;(with_reducible repeat (first|apply qa4|apply qb4|apply qc4));refine blk_put (cs:=#[.int .i64 0,.slice none 0 0,.slice none 0 0,.slice none 0 0]) ?_ 2 _ rfl;(with_reducible repeat (first|apply qa4|apply qb4|apply qc4));refine blk_put (cs:=#[.int .i64 0,.slice none 0 0,.slice none 0 0,.slice none 0 0]) ?_ 1 _ rfl;(with_reducible repeat (first|apply qa4|apply qb4|apply qc4));refine blk_put (cs:=#[.int .i64 0,.slice none 0 0,.slice none 0 0,.slice none 0 0]) ?_ 0 _ rfl;(with_reducible repeat (first|apply qa4|apply qb4|apply qc4));exact BK187.out) Tryd.underlying33 rfl (by kernel_rfl)) rfl ?_
  exact ⟨_,_,_,by first|rfl|(simp [errW_none,errW_some] <;> rfl)|(simp [*,errW_none,errW_some] <;> rfl),by first|exact Kd.R_nil _ _ _ _ _|exact Kd.N_nil _ _ _ _ _|exact Kd.V_nil _ _ _ _ _|exact Kd.Q_nil _ _ _ _ _|exact Kd.S_nil _ _ _ _ _,by first|exact Kd.R_nil _ _ _ _ _|exact Kd.N_nil _ _ _ _ _|exact Kd.V_nil _ _ _ _ _|exact Kd.Q_nil _ _ _ _ _|exact Kd.S_nil _ _ _ _ _,by first|exact Kd.R_nil _ _ _ _ _|exact Kd.N_nil _ _ _ _ _|exact Kd.V_nil _ _ _ _ _|exact Kd.Q_nil _ _ _ _ _|exact Kd.S_nil _ _ _ _ _,by repeat (first|(with_reducible first|exact HB.out|apply qd4|apply qe4|apply qf4|refine qg4 ?_ GE187.out)|exact HB.out)⟩
 ·
  rw [if_neg c4] at H
  have c4b0 : decide (65536 < (a0.size : Int)) = false:=decide_eq_false c4
  have c4b1 : decide (65536 < a0.size) = false:=decide_eq_false (by omega)
  clear c4
  by_cases c7 : (a2.size : Int) > 65530
  ·
   rw [if_pos c7] at H
   have c7b0 : decide (65530 < (a2.size : Int)) = true:=decide_eq_true c7
   have c7b1 : decide (65530 < a2.size) = true:=decide_eq_true (by omega)
   clear c7
   simp only [Option.some.injEq,Prod.mk.injEq] at H
   obtain ⟨rfl,rfl,rfl,rfl,rfl⟩:=H
   go_enter Tryd.func20,Tryd.ntmps20
   go_wp2_with (first|((with_reducible refine gate_dst (N:=6) rfl ?_);refine box_event ?hg (N:=6) ?hd (cs:=#[.int .i64 0,.slice none 0 0,.slice none 0 0,.slice none 0 0]) (t:=33) ?hr ?_;(case hd => rfl);(case hg => rfl);(case hr => first|(go_simp;done)|(go_simp;rfl));intro gb187 hg w8 hbox hb;have n0_:=qh4 (qi4 (by repeat (first|(with_reducible first|exact HB.out|apply qd4|apply qe4|apply qf4)|exact HB.out)) hb);have n1_:=qh4 (hbox);have n2_:=qh4 ((by rw [hg];exact (qj4 (by repeat (first|(with_reducible first|exact HB.out|apply qd4|apply qe4|apply qf4)|exact HB.out))) : w.heap.size ≤ gb187));have n3_:=qh4 ((by rw [hg];exact (qj4 (by repeat (first|(with_reducible first|exact HB.out|apply qd4|apply qe4|apply qf4)|exact HB.out))) : w.heap.size ≤ gb187));clear HB;have HB:=n0_;have BK187:=n1_;have GW187:=n2_;have GE187:=n3_;clear n0_ n1_ n2_ n3_;clear hb hbox hg;have hcz9_0 : w8.cell? ⟨gb187,0,none⟩ = some (.int .i64 0):=(blk_cell BK187.out 0).trans rfl;have hcz9_1 : w8.cell? ⟨gb187,1,none⟩ = some (.slice none 0 0):=(blk_cell BK187.out 1).trans rfl;have hcz9_2 : w8.cell? ⟨gb187,2,none⟩ = some (.slice none 0 0):=(blk_cell BK187.out 2).trans rfl;have hcz9_3 : w8.cell? ⟨gb187,3,none⟩ = some (.slice none 0 0):=(blk_cell BK187.out 3).trans rfl;have hfz9_0:=blk_frozen BK187.out 0;have hfz9_1:=blk_frozen BK187.out 1;have hfz9_2:=blk_frozen BK187.out 2;have hfz9_3:=blk_frozen BK187.out 3))
   refine bodyPost_ret (results_ct rfl _ _ gb187 33 #[.int .i64 0,.slice none 0 0,.slice none 0 0,.slice none 0 0] (0,0) _ rfl (by (with_reducible repeat (first|apply qa4|apply qb4|apply qc4));refine blk_put (cs:=#[.int .i64 0,.slice none 0 0,.slice none 0 0,.slice none 0 0]) ?_ 3 _ rfl;(with_reducible repeat (first|apply qa4|apply qb4|apply qc4));refine blk_put (cs:=#[.int .i64 0,.slice none 0 0,.slice none 0 0,.slice none 0 0]) ?_ 2 _ rfl;(with_reducible repeat (first|apply qa4|apply qb4|apply qc4));refine blk_put (cs:=#[.int .i64 0,.slice none 0 0,.slice none 0 0,.slice none 0 0]) ?_ 1 _ rfl;(with_reducible repeat (first|apply qa4|apply qb4|apply qc4));refine blk_put (cs:=#[.int .i64 0,.slice none 0 0,.slice none 0 0,.slice none 0 0]) ?_ 0 _ rfl;(with_reducible repeat (first|apply qa4|apply qb4|apply qc4));exact BK187.out) Tryd.underlying33 rfl (by kernel_rfl)) rfl ?_
   exact ⟨_,_,_,by first|rfl|(simp [errW_none,errW_some] <;> rfl)|(simp [*,errW_none,errW_some] <;> rfl),by first|exact Kd.R_nil _ _ _ _ _|exact Kd.N_nil _ _ _ _ _|exact Kd.V_nil _ _ _ _ _|exact Kd.Q_nil _ _ _ _ _|exact Kd.S_nil _ _ _ _ _,by first|exact Kd.R_nil _ _ _ _ _|exact Kd.N_nil _ _ _ _ _|exact Kd.V_nil _ _ _ _ _|exact Kd.Q_nil _ _ _ _ _|exact Kd.S_nil _ _ _ _ _,by first|exact Kd.R_nil _ _ _ _ _|exact Kd.N_nil _ _ _ _ _|exact Kd.V_nil _ _ _ _ _|exact Kd.Q_nil _ _ _ _ _|exact Kd.S_nil _ _ _ _ _,by repeat (first|(with_reducible first|exact HB.out|apply qd4|apply qe4|apply qf4|refine qg4 ?_ GE187.out)|exact HB.out)⟩
  ·
   rw [if_neg c7] at H
   have c7b0 : decide (65530 < (a2.size : Int)) = false:=decide_eq_false c7
   have c7b1 : decide (65530 < a2.size) = false:=decide_eq_false (by omega)
   clear c7
   by_cases c10 : (a0.size : Int) = 32
   ·
    rw [if_pos c10] at H
    have c10b0 : ((a0.size : Int) == 32) = true:=beq_iff_eq.mpr c10
    have c10b1 : ((a0.size : Int) != 32) = false:=bne_eq_false_iff_eq.mpr c10
    clear c10
    replace H:=Option.bind_eq_some_iff.mp H
    obtain ⟨t188,A110,H⟩:=H
    replace H : (if t188 = true then ((spec_l03Sign.f k a0 a1 a2).bind fun bt189 => (some (bt189.1,bt189.2.1,bt189.2.2.1,bt189.2.2.2,0))) else (some (0,([] : List ByteArray),([] : List ByteArray),([] : List ByteArray),4))) = some (r1,r2,r3,r4,r5):=H
    have A11:=qh4 A110
    clear A110
    by_cases c12 : t188 = true
    ·
     subst c12
     have H1 : ((spec_l03Sign.f k a0 a1 a2).bind fun bt189 => (some (bt189.1,bt189.2.1,bt189.2.2.1,bt189.2.2.2,0))) = some (r1,r2,r3,r4,r5):=by rw [if_pos rfl] at H;exact H
     clear H
     have H:=H1
     clear H1
     replace H:=Option.bind_eq_some_iff.mp H
     obtain ⟨⟨t189,t190,t193,t196⟩,A130,H⟩:=H
     replace H : (some (t189,t190,t193,t196,0)) = some (r1,r2,r3,r4,r5):=H
     have A13:=qh4 A130
     clear A130
     simp only [Option.some.injEq,Prod.mk.injEq] at H
     obtain ⟨rfl,rfl,rfl,rfl,rfl⟩:=H
     go_enter Tryd.func20,Tryd.ntmps20
     go_wp2_with (first|((with_reducible refine gate_dst (N:=6) rfl ?_);refine box_event ?hg (N:=6) ?hd (cs:=#[.int .i64 0,.slice none 0 0,.slice none 0 0,.slice none 0 0]) (t:=33) ?hr ?_;(case hd => rfl);(case hg => rfl);(case hr => first|(go_simp;done)|(go_simp;rfl));intro gb187 hg w14 hbox hb;have n0_:=qh4 (qi4 (by repeat (first|(with_reducible first|exact HB.out|apply qd4|apply qe4|apply qf4)|exact HB.out)) hb);have n1_:=qh4 (hbox);have n2_:=qh4 ((by rw [hg];exact (qj4 (by repeat (first|(with_reducible first|exact HB.out|apply qd4|apply qe4|apply qf4)|exact HB.out))) : w.heap.size ≤ gb187));have n3_:=qh4 ((by rw [hg];exact (qj4 (by repeat (first|(with_reducible first|exact HB.out|apply qd4|apply qe4|apply qf4)|exact HB.out))) : w.heap.size ≤ gb187));clear HB;have HB:=n0_;have BK187:=n1_;have GW187:=n2_;have GE187:=n3_;clear n0_ n1_ n2_ n3_;clear hb hbox hg)|((with_reducible refine gate_callee (f:=60) rfl ?_);refine goesL_ (some 21) rfl rfl Tryd.func60 (by kernel_rfl) rfl #[.int .i64 a1,.int .i64 0,.int .i64 7] rfl (by (try simp only [List.map_toArray,List.map_cons,List.map_nil]);first|done|rfl|(simp only [List.length_drop,List.length_take];rfl)) ?_;(with_reducible refine (spec_l01In.calls a1 0 7 true _ A11.out).mono ?_);rintro e w' ⟨rfl,⟨nd,rfl⟩⟩;refine ⟨_,rfl,?_⟩;(try (rw [drewN_self w14];generalize hq_ : World.drewN w14 _ = w14;have n0_ : Aside0 (w14.heap[gb187]? = some (.cells #[.int .i64 0,.slice none 0 0,.slice none 0 0,.slice none 0 0] 33 (0,0))):=⟨by rw [← hq_];exact (by (with_reducible repeat (first|apply qa4|apply qb4|apply qc4));exact BK187.out)⟩;have n1_ : Aside0 (Below w.heap.size w w14):=⟨by rw [← hq_];exact (by repeat (first|(with_reducible first|exact HB.out|apply qd4|apply qe4|apply qf4|refine qg4 ?_ GE187.out)|exact HB.out))⟩;clear BK187 HB hq_;have BK187:=n0_;have HB:=n1_;clear n0_ n1_)))|((with_reducible refine gate_callee (f:=61) rfl ?_);refine goesL_ (some 27) rfl rfl Tryd.func61 (by kernel_rfl) rfl #[.string a0,.int .i64 a1,.string a2] rfl (by (try simp only [List.map_toArray,List.map_cons,List.map_nil]);first|done|rfl|(simp only [List.length_drop,List.length_take];rfl)) ?_;(with_reducible refine (spec_l03Sign.calls k a0 a1 a2 t189 t190 t193 t196 _ A13.out).mono ?_);rintro e w15 ⟨v191,v194,v197,rfl,ho0,ho1,ho2,hb⟩;refine ⟨_,rfl,?_⟩;have n0_:=qh4 (Kd.R_lower ho0 (qj4 (by repeat (first|(with_reducible first|exact HB.out|apply qd4|apply qe4|apply qf4|refine qg4 ?_ GE187.out)|exact HB.out))));have n1_:=qh4 (Kd.R_lower ho1 (qj4 (by repeat (first|(with_reducible first|exact HB.out|apply qd4|apply qe4|apply qf4|refine qg4 ?_ GE187.out)|exact HB.out))));have n2_:=qh4 (Kd.R_lower ho2 (qj4 (by repeat (first|(with_reducible first|exact HB.out|apply qd4|apply qe4|apply qf4|refine qg4 ?_ GE187.out)|exact HB.out))));have n3_:=qh4 (blk_below (g:=gb187) (o:=.cells #[.int .i64 0,.slice none 0 0,.slice none 0 0,.slice none 0 0] 33 (0,0)) (by (with_reducible repeat (first|apply qa4|apply qb4|apply qc4));exact BK187.out) hb);have n4_:=qh4 (qi4 (by repeat (first|(with_reducible first|exact HB.out|apply qd4|apply qe4|apply qf4|refine qg4 ?_ GE187.out)|exact HB.out)) hb);clear BK187;clear HB;have HO192:=n0_;have HO195:=n1_;have HO198:=n2_;have BK187:=n3_;have HB:=n4_;clear n0_ n1_ n2_ n3_ n4_;(try clear hb);(try clear hb2);(try clear hk);(try clear hi);(try clear ho0);(try clear ho1);(try clear ho2);have hcz16_0 : w15.cell? ⟨gb187,0,none⟩ = some (.int .i64 0):=(blk_cell BK187.out 0).trans rfl;have hcz16_1 : w15.cell? ⟨gb187,1,none⟩ = some (.slice none 0 0):=(blk_cell BK187.out 1).trans rfl;have hcz16_2 : w15.cell? ⟨gb187,2,none⟩ = some (.slice none 0 0):=(blk_cell BK187.out 2).trans rfl;have hcz16_3 : w15.cell? ⟨gb187,3,none⟩ = some (.slice none 0 0):=(blk_cell BK187.out 3).trans rfl;have hfz16_0:=blk_frozen BK187.out 0;have hfz16_1:=blk_frozen BK187.out 1;have hfz16_2:=blk_frozen BK187.out 2;have hfz16_3:=blk_frozen BK187.out 3;obtain ⟨Ao17,co17,eo17⟩:=Kd.R_slice HO192.out;subst eo17;obtain ⟨Ao18,co18,eo18⟩:=Kd.R_slice HO195.out;subst eo18;obtain ⟨Ao19,co19,eo19⟩:=Kd.R_slice HO198.out;subst eo19))
     refine bodyPost_ret (results_ct rfl _ _ gb187 33 #[.int .i64 t189,.slice Ao17 t190.length co17,.slice Ao18 t193.length co18,.slice Ao19 t196.length co19] (0,0) _ rfl (by (with_reducible repeat (first|apply qa4|apply qb4|apply qc4));refine blk_put (cs:=#[.int .i64 t189,.slice Ao17 t190.length co17,.slice Ao18 t193.length co18,.slice none 0 0]) ?_ 3 _ rfl;(with_reducible repeat (first|apply qa4|apply qb4|apply qc4));refine blk_put (cs:=#[.int .i64 t189,.slice Ao17 t190.length co17,.slice none 0 0,.slice none 0 0]) ?_ 2 _ rfl;(with_reducible repeat (first|apply qa4|apply qb4|apply qc4));refine blk_put (cs:=#[.int .i64 t189,.slice none 0 0,.slice none 0 0,.slice none 0 0]) ?_ 1 _ rfl;(with_reducible repeat (first|apply qa4|apply qb4|apply qc4));refine blk_put (cs:=#[.int .i64 0,.slice none 0 0,.slice none 0 0,.slice none 0 0]) ?_ 0 _ rfl;(with_reducible repeat (first|apply qa4|apply qb4|apply qc4));exact BK187.out) Tryd.underlying33 rfl (by kernel_rfl)) rfl ?_
     exact ⟨_,_,_,by first|rfl|(simp [errW_none,errW_some] <;> rfl)|(simp [*,errW_none,errW_some] <;> rfl),by (with_reducible repeat (first|apply Kd.R_alloc|apply Kd.R_drewN|apply Kd.R_drew));exact Kd.R_mono (Kd.R_far (p:=⟨gb187,3,none⟩) (Kd.R_far (p:=⟨gb187,2,none⟩) (Kd.R_far (p:=⟨gb187,1,none⟩) (Kd.R_far (p:=⟨gb187,0,none⟩) (Kd.R_types HO192.out BK187.out (by decide)) (fun _ hk => hk.2) (.int .i64 t189)) (fun _ hk => hk.2) (.slice Ao17 t190.length co17)) (fun _ hk => hk.2) (.slice Ao18 t193.length co18)) (fun _ hk => hk.2) (.slice Ao19 t196.length co19)) (fun _ hk => ⟨hk.1.1,hk.1.2⟩),by (with_reducible repeat (first|apply Kd.R_alloc|apply Kd.R_drewN|apply Kd.R_drew));exact Kd.R_mono (Kd.R_far (p:=⟨gb187,3,none⟩) (Kd.R_far (p:=⟨gb187,2,none⟩) (Kd.R_far (p:=⟨gb187,1,none⟩) (Kd.R_far (p:=⟨gb187,0,none⟩) (Kd.R_types HO195.out BK187.out (by decide)) (fun _ hk => hk.2) (.int .i64 t189)) (fun _ hk => hk.2) (.slice Ao17 t190.length co17)) (fun _ hk => hk.2) (.slice Ao18 t193.length co18)) (fun _ hk => hk.2) (.slice Ao19 t196.length co19)) (fun _ hk => ⟨hk.1.1,hk.1.2⟩),by (with_reducible repeat (first|apply Kd.R_alloc|apply Kd.R_drewN|apply Kd.R_drew));exact Kd.R_mono (Kd.R_far (p:=⟨gb187,3,none⟩) (Kd.R_far (p:=⟨gb187,2,none⟩) (Kd.R_far (p:=⟨gb187,1,none⟩) (Kd.R_far (p:=⟨gb187,0,none⟩) (Kd.R_types HO198.out BK187.out (by decide)) (fun _ hk => hk.2) (.int .i64 t189)) (fun _ hk => hk.2) (.slice Ao17 t190.length co17)) (fun _ hk => hk.2) (.slice Ao18 t193.length co18)) (fun _ hk => hk.2) (.slice Ao19 t196.length co19)) (fun _ hk => ⟨hk.1.1,hk.1.2⟩),by repeat (first|(with_reducible first|exact HB.out|apply qd4|apply qe4|apply qf4|refine qg4 ?_ GE187.out)|exact HB.out)⟩
    ·
     replace c12:=Bool.eq_false_iff.mpr c12
     subst c12
     have H1 : (some (0,([] : List ByteArray),([] : List ByteArray),([] : List ByteArray),4)) = some (r1,r2,r3,r4,r5):=by rw [if_neg (show ¬ (false = true) by decide)] at H;exact H
     clear H
     have H:=H1
     clear H1
     simp only [Option.some.injEq,Prod.mk.injEq] at H
     obtain ⟨rfl,rfl,rfl,rfl,rfl⟩:=H
     go_enter Tryd.func20,Tryd.ntmps20
     go_wp2_with (first|((with_reducible refine gate_dst (N:=6) rfl ?_);refine box_event ?hg (N:=6) ?hd (cs:=#[.int .i64 0,.slice none 0 0,.slice none 0 0,.slice none 0 0]) (t:=33) ?hr ?_;(case hd => rfl);(case hg => rfl);(case hr => first|(go_simp;done)|(go_simp;rfl));intro gb187 hg w20 hbox hb;have n0_:=qh4 (qi4 (by repeat (first|(with_reducible first|exact HB.out|apply qd4|apply qe4|apply qf4)|exact HB.out)) hb);have n1_:=qh4 (hbox);have n2_:=qh4 ((by rw [hg];exact (qj4 (by repeat (first|(with_reducible first|exact HB.out|apply qd4|apply qe4|apply qf4)|exact HB.out))) : w.heap.size ≤ gb187));have n3_:=qh4 ((by rw [hg];exact (qj4 (by repeat (first|(with_reducible first|exact HB.out|apply qd4|apply qe4|apply qf4)|exact HB.out))) : w.heap.size ≤ gb187));clear HB;have HB:=n0_;have BK187:=n1_;have GW187:=n2_;have GE187:=n3_;clear n0_ n1_ n2_ n3_;clear hb hbox hg)|((with_reducible refine gate_callee (f:=60) rfl ?_);refine goesL_ (some 21) rfl rfl Tryd.func60 (by kernel_rfl) rfl #[.int .i64 a1,.int .i64 0,.int .i64 7] rfl (by (try simp only [List.map_toArray,List.map_cons,List.map_nil]);first|done|rfl|(simp only [List.length_drop,List.length_take];rfl)) ?_;(with_reducible refine (spec_l01In.calls a1 0 7 false _ A11.out).mono ?_);rintro e w' ⟨rfl,⟨nd,rfl⟩⟩;refine ⟨_,rfl,?_⟩;(try (rw [drewN_self w20];generalize hq_ : World.drewN w20 _ = w20;have n0_ : Aside0 (w20.heap[gb187]? = some (.cells #[.int .i64 0,.slice none 0 0,.slice none 0 0,.slice none 0 0] 33 (0,0))):=⟨by rw [← hq_];exact (by (with_reducible repeat (first|apply qa4|apply qb4|apply qc4));exact BK187.out)⟩;have n1_ : Aside0 (Below w.heap.size w w20):=⟨by rw [← hq_];exact (by repeat (first|(with_reducible first|exact HB.out|apply qd4|apply qe4|apply qf4|refine qg4 ?_ GE187.out)|exact HB.out))⟩;clear BK187 HB hq_;have BK187:=n0_;have HB:=n1_;clear n0_ n1_));have hcz21_0 : w20.cell? ⟨gb187,0,none⟩ = some (.int .i64 0):=(blk_cell BK187.out 0).trans rfl;have hcz21_1 : w20.cell? ⟨gb187,1,none⟩ = some (.slice none 0 0):=(blk_cell BK187.out 1).trans rfl;have hcz21_2 : w20.cell? ⟨gb187,2,none⟩ = some (.slice none 0 0):=(blk_cell BK187.out 2).trans rfl;have hcz21_3 : w20.cell? ⟨gb187,3,none⟩ = some (.slice none 0 0):=(blk_cell BK187.out 3).trans rfl;have hfz21_0:=blk_frozen BK187.out 0;have hfz21_1:=blk_frozen BK187.out 1;have hfz21_2:=blk_frozen BK187.out 2;have hfz21_3:=blk_frozen BK187.out 3))
     refine bodyPost_ret (results_ct rfl _ _ gb187 33 #[.int .i64 0,.slice none 0 0,.slice none 0 0,.slice none 0 0] (0,0) _ rfl (by (with_reducible repeat (first|apply qa4|apply qb4|apply qc4));refine blk_put (cs:=#[.int .i64 0,.slice none 0 0,.slice none 0 0,.slice none 0 0]) ?_ 3 _ rfl;(with_reducible repeat (first|apply qa4|apply qb4|apply qc4));refine blk_put (cs:=#[.int .i64 0,.slice none 0 0,.slice none 0 0,.slice none 0 0]) ?_ 2 _ rfl;(with_reducible repeat (first|apply qa4|apply qb4|apply qc4));refine blk_put (cs:=#[.int .i64 0,.slice none 0 0,.slice none 0 0,.slice none 0 0]) ?_ 1 _ rfl;(with_reducible repeat (first|apply qa4|apply qb4|apply qc4));refine blk_put (cs:=#[.int .i64 0,.slice none 0 0,.slice none 0 0,.slice none 0 0]) ?_ 0 _ rfl;(with_reducible repeat (first|apply qa4|apply qb4|apply qc4));exact BK187.out) Tryd.underlying33 rfl (by kernel_rfl)) rfl ?_
     exact ⟨_,_,_,by first|rfl|(simp [errW_none,errW_some] <;> rfl)|(simp [*,errW_none,errW_some] <;> rfl),by first|exact Kd.R_nil _ _ _ _ _|exact Kd.N_nil _ _ _ _ _|exact Kd.V_nil _ _ _ _ _|exact Kd.Q_nil _ _ _ _ _|exact Kd.S_nil _ _ _ _ _,by first|exact Kd.R_nil _ _ _ _ _|exact Kd.N_nil _ _ _ _ _|exact Kd.V_nil _ _ _ _ _|exact Kd.Q_nil _ _ _ _ _|exact Kd.S_nil _ _ _ _ _,by first|exact Kd.R_nil _ _ _ _ _|exact Kd.N_nil _ _ _ _ _|exact Kd.V_nil _ _ _ _ _|exact Kd.Q_nil _ _ _ _ _|exact Kd.S_nil _ _ _ _ _,by repeat (first|(with_reducible first|exact HB.out|apply qd4|apply qe4|apply qf4|refine qg4 ?_ GE187.out)|exact HB.out)⟩
   ·
    rw [if_neg c10] at H
    have c10b0 : ((a0.size : Int) == 32) = false:=beq_eq_false_iff_ne.mpr c10
    have c10b1 : ((a0.size : Int) != 32) = true:=bne_iff_ne.mpr c10
    simp only [Option.some.injEq,Prod.mk.injEq] at H
    obtain ⟨rfl,rfl,rfl,rfl,rfl⟩:=H
    go_enter Tryd.func20,Tryd.ntmps20
    go_wp2_with (first|((with_reducible refine gate_dst (N:=6) rfl ?_);refine box_event ?hg (N:=6) ?hd (cs:=#[.int .i64 0,.slice none 0 0,.slice none 0 0,.slice none 0 0]) (t:=33) ?hr ?_;(case hd => rfl);(case hg => rfl);(case hr => first|(go_simp;done)|(go_simp;rfl));intro gb187 hg w22 hbox hb;have n0_:=qh4 (qi4 (by repeat (first|(with_reducible first|exact HB.out|apply qd4|apply qe4|apply qf4)|exact HB.out)) hb);have n1_:=qh4 (hbox);have n2_:=qh4 ((by rw [hg];exact (qj4 (by repeat (first|(with_reducible first|exact HB.out|apply qd4|apply qe4|apply qf4)|exact HB.out))) : w.heap.size ≤ gb187));have n3_:=qh4 ((by rw [hg];exact (qj4 (by repeat (first|(with_reducible first|exact HB.out|apply qd4|apply qe4|apply qf4)|exact HB.out))) : w.heap.size ≤ gb187));clear HB;have HB:=n0_;have BK187:=n1_;have GW187:=n2_;have GE187:=n3_;clear n0_ n1_ n2_ n3_;clear hb hbox hg;have hcz23_0 : w22.cell? ⟨gb187,0,none⟩ = some (.int .i64 0):=(blk_cell BK187.out 0).trans rfl;have hcz23_1 : w22.cell? ⟨gb187,1,none⟩ = some (.slice none 0 0):=(blk_cell BK187.out 1).trans rfl;have hcz23_2 : w22.cell? ⟨gb187,2,none⟩ = some (.slice none 0 0):=(blk_cell BK187.out 2).trans rfl;have hcz23_3 : w22.cell? ⟨gb187,3,none⟩ = some (.slice none 0 0):=(blk_cell BK187.out 3).trans rfl;have hfz23_0:=blk_frozen BK187.out 0;have hfz23_1:=blk_frozen BK187.out 1;have hfz23_2:=blk_frozen BK187.out 2;have hfz23_3:=blk_frozen BK187.out 3))
    refine bodyPost_ret (results_ct rfl _ _ gb187 33 #[.int .i64 0,.slice none 0 0,.slice none 0 0,.slice none 0 0] (0,0) _ rfl (by (with_reducible repeat (first|apply qa4|apply qb4|apply qc4));refine blk_put (cs:=#[.int .i64 0,.slice none 0 0,.slice none 0 0,.slice none 0 0]) ?_ 3 _ rfl;(with_reducible repeat (first|apply qa4|apply qb4|apply qc4));refine blk_put (cs:=#[.int .i64 0,.slice none 0 0,.slice none 0 0,.slice none 0 0]) ?_ 2 _ rfl;(with_reducible repeat (first|apply qa4|apply qb4|apply qc4));refine blk_put (cs:=#[.int .i64 0,.slice none 0 0,.slice none 0 0,.slice none 0 0]) ?_ 1 _ rfl;(with_reducible repeat (first|apply qa4|apply qb4|apply qc4));refine blk_put (cs:=#[.int .i64 0,.slice none 0 0,.slice none 0 0,.slice none 0 0]) ?_ 0 _ rfl;(with_reducible repeat (first|apply qa4|apply qb4|apply qc4));exact BK187.out) Tryd.underlying33 rfl (by kernel_rfl)) rfl ?_
    exact ⟨_,_,_,by first|rfl|(simp [errW_none,errW_some] <;> rfl)|(simp [*,errW_none,errW_some] <;> rfl),by first|exact Kd.R_nil _ _ _ _ _|exact Kd.N_nil _ _ _ _ _|exact Kd.V_nil _ _ _ _ _|exact Kd.Q_nil _ _ _ _ _|exact Kd.S_nil _ _ _ _ _,by first|exact Kd.R_nil _ _ _ _ _|exact Kd.N_nil _ _ _ _ _|exact Kd.V_nil _ _ _ _ _|exact Kd.Q_nil _ _ _ _ _|exact Kd.S_nil _ _ _ _ _,by first|exact Kd.R_nil _ _ _ _ _|exact Kd.N_nil _ _ _ _ _|exact Kd.V_nil _ _ _ _ _|exact Kd.Q_nil _ _ _ _ _|exact Kd.S_nil _ _ _ _ _,by repeat (first|(with_reducible first|exact HB.out|apply qd4|apply qe4|apply qf4|refine qg4 ?_ GE187.out)|exact HB.out)⟩

/-! ### laws_sameTexts: function 62 -/
def laws_sameTexts.l0 : Nat → List ByteArray → List ByteArray → Int → Option (Bool)
 | 0,_,_,_ => none
 | k + 1,x0,x1,x5 => if x5 < (x0.length : Int) then (if 0 ≤ x5 then (if x5 < (x1.length : Int) then (if (rdOf ByteArray.empty x0 x5).toList = (rdOf ByteArray.empty x1 x5).toList then (laws_sameTexts.l0 k x0 x1 (wrap64 (x5 + 1))) else (some false)) else (none)) else (none)) else (some true)
def laws_sameTexts.f (k : Nat) (l0 : List ByteArray) (l1 : List ByteArray) : Option (Bool):=if (l0.length : Int) = (l1.length : Int) then (laws_sameTexts.l0 k l0 l1 0) else (some false)
theorem laws_sameTexts.mono_l : ∀ k,(∀ y0 y1 y2,LeO (laws_sameTexts.l0 k y0 y1 y2) (laws_sameTexts.l0 (k + 1) y0 y1 y2))
 | 0 => fun _ _ _ r h => by simp [laws_sameTexts.l0] at h
 | k + 1 => by
  have ih0:=laws_sameTexts.mono_l k
  ·
   intro y0 y1 y2
   unfold laws_sameTexts.l0
   repeat' first
   | (with_reducible exact ih0 _ _ _)
   | (with_reducible exact LeO.refl _)
   | (with_reducible exact LeO.none _)
   | (with_reducible refine LeO.ite ?_ ?_)
   | (with_reducible refine LeO.bind ?_ (fun _ => ?_))
   | exact ih0 _ _ _
   | exact LeO.none _
   | refine LeO.ite ?_ ?_
   | refine LeO.bind ?_ (fun _ => ?_)
theorem laws_sameTexts.mono : ∀ a0 a1 k,LeO (laws_sameTexts.f k a0 a1) (laws_sameTexts.f (k + 1) a0 a1):=by
 intro a0 a1 k
 have ih0:=laws_sameTexts.mono_l k
 unfold laws_sameTexts.f
 repeat' first
   | (with_reducible exact ih0 _ _ _)
   | (with_reducible exact LeO.refl _)
   | (with_reducible exact LeO.none _)
   | (with_reducible refine LeO.ite ?_ ?_)
   | (with_reducible refine LeO.bind ?_ (fun _ => ?_))
   | exact ih0 _ _ _
   | exact LeO.none _
   | refine LeO.ite ?_ ?_
   | refine LeO.bind ?_ (fun _ => ?_)
set_option maxHeartbeats 8000000 in
set_option maxRecDepth 100000 in
theorem laws_sameTexts.calls (k : Nat) (A0 : Option Addr) (c0 : Nat) (l0 : List ByteArray) (A1 : Option Addr) (c1 : Nat) (l1 : List ByteArray) (r : Bool) (w : World) (hr0 : Kd.C Kd.string w A0 l0.length l0) (hc0 : l0.length ≤ c0) (hr1 : Kd.C Kd.string w A1 l1.length l1) (hc1 : l1.length ≤ c1) (h : laws_sameTexts.f k l0 l1 = some r) :
  Calls Tryd.prog 62 #[.slice A0 l0.length c0,.slice A1 l1.length c1] w fun e w' => e = .returned (.bool r) ∧ Drawn0 w w':=by
 have HR0:=qh4 hr0
 have HC0:=qh4 hc0
 clear hr0 hc0
 have HR1:=qh4 hr1
 have HC1:=qh4 hc1
 clear hr1 hc1
 have H : (if (l0.length : Int) = (l1.length : Int) then (laws_sameTexts.l0 k l0 l1 0) else (some false)) = some r:=h
 clear h
 by_cases c3 : (l0.length : Int) = (l1.length : Int)
 ·
  rw [if_pos c3] at H
  have c3b0 : ((l0.length : Int) == (l1.length : Int)) = true:=beq_iff_eq.mpr c3
  have c3b1 : ((l0.length : Int) != (l1.length : Int)) = false:=bne_eq_false_iff_eq.mpr c3
  have c3b2 : (l0.length == l1.length) = true:=by first|simpa using c3|(simp at c3 ⊢;omega)
  clear c3
  have H':=qh4 H
  clear H
  go_enter Tryd.func62,Tryd.ntmps62
  go_wp2
  repeat (go_quiet (fail);try go_wp2)
  go_loopg [5] k (fun kq v5 w' => ∃ (x5_1 : Int),v5 = .int .i64 x5_1 ∧ Aside0 (laws_sameTexts.l0 kq l0 l1 x5_1 = some r) ∧ Aside0 (kq ≤ k) ∧ Drawn0 w w')
  case atStart => exact ⟨(0),(by first|rfl|(simp;done)|(simp [*];done)),H',⟨Nat.le_refl _⟩,by repeat (first|exact Drawn0.refl _|apply Drawn0.step)⟩
  case round =>
   clear H'
   try clear c1
   try clear p2
   try clear c3
   try clear c3b0
   try clear c3b1
   try clear c3b2
   obtain ⟨x5_1,rfl,HA,HK1,⟨m1,rfl⟩⟩:=hrel
   cases gk with
   | zero => exact absurd HA.out (by simp [laws_sameTexts.l0])
   | succ k1 =>
    have H:=HA.out
    clear HA
    simp only [laws_sameTexts.l0] at H
    by_cases c4 : x5_1 < (l0.length : Int)
    ·
     rw [if_pos c4] at H
     have c4b0 : decide (x5_1 < (l0.length : Int)) = true:=decide_eq_true c4
     clear c4
     by_cases c5 : 0 ≤ x5_1
     ·
      rw [if_pos c5] at H
      have c5b0 : decide (0 ≤ x5_1) = true:=decide_eq_true c5
      clear c5
      by_cases c6 : x5_1 < (l1.length : Int)
      ·
       rw [if_pos c6] at H
       have c6b0 : decide (x5_1 < (l1.length : Int)) = true:=decide_eq_true c6
       clear c6
       by_cases c7 : (rdOf ByteArray.empty l0 x5_1).toList = (rdOf ByteArray.empty l1 x5_1).toList
       ·
        rw [if_pos c7] at H
        have c7b0 : ((rdOf ByteArray.empty l0 x5_1).toList == (rdOf ByteArray.empty l1 x5_1).toList) = true:=beq_iff_eq.mpr c7
        have c7b1 : ((rdOf ByteArray.empty l0 x5_1).toList != (rdOf ByteArray.empty l1 x5_1).toList) = false:=bne_eq_false_iff_eq.mpr c7
        clear c7
        have H':=qh4 H
        clear H
        have p199 : 0 ≤ (x5_1 : Int):=of_decide_eq_true (by first|(with_reducible assumption)|assumption)
        have q199 : x5_1 < (l0.length : Int):=of_decide_eq_true (by first|(with_reducible assumption)|assumption)
        obtain ⟨ad199,e199,hx199_0⟩:=Kd.at_string HR0.out x5_1 p199 q199
        cases e199
        replace p199:=eq_true p199
        replace q199:=eq_true q199
        have p200 : 0 ≤ (x5_1 : Int):=of_decide_eq_true (by first|(with_reducible assumption)|assumption)
        have q200 : x5_1 < (l1.length : Int):=of_decide_eq_true (by first|(with_reducible assumption)|assumption)
        obtain ⟨ad200,e200,hx200_0⟩:=Kd.at_string HR1.out x5_1 p200 q200
        cases e200
        replace p200:=eq_true p200
        replace q200:=eq_true q200
        go_wp2
        repeat (go_quiet (fail);try go_wp2)
        go_roundg k1
        case measure => have:=HK1.out;omega
        case rel => exact ⟨(wrap64 (x5_1 + 1)),(by first|rfl|(simp;done)|(simp [*];done)),H',⟨by have:=HK1.out;omega⟩,by repeat (first|exact Drawn0.refl _|apply Drawn0.step)⟩
       ·
        rw [if_neg c7] at H
        have c7b0 : ((rdOf ByteArray.empty l0 x5_1).toList == (rdOf ByteArray.empty l1 x5_1).toList) = false:=beq_eq_false_iff_ne.mpr c7
        have c7b1 : ((rdOf ByteArray.empty l0 x5_1).toList != (rdOf ByteArray.empty l1 x5_1).toList) = true:=bne_iff_ne.mpr c7
        obtain rfl:=Option.some.inj H
        have p199 : 0 ≤ (x5_1 : Int):=of_decide_eq_true (by first|(with_reducible assumption)|assumption)
        have q199 : x5_1 < (l0.length : Int):=of_decide_eq_true (by first|(with_reducible assumption)|assumption)
        obtain ⟨ad199,e199,hx199_0⟩:=Kd.at_string HR0.out x5_1 p199 q199
        cases e199
        replace p199:=eq_true p199
        replace q199:=eq_true q199
        have p200 : 0 ≤ (x5_1 : Int):=of_decide_eq_true (by first|(with_reducible assumption)|assumption)
        have q200 : x5_1 < (l1.length : Int):=of_decide_eq_true (by first|(with_reducible assumption)|assumption)
        obtain ⟨ad200,e200,hx200_0⟩:=Kd.at_string HR1.out x5_1 p200 q200
        cases e200
        replace p200:=eq_true p200
        replace q200:=eq_true q200
        go_wp2
        repeat (go_quiet (fail);try go_wp2)
        go_ret
        exact ⟨by first|rfl|(simp;done)|(simp [*];done),by repeat (first|exact Drawn0.refl _|apply Drawn0.step)⟩
      ·
       rw [if_neg c6] at H
       exact absurd H (by simp)
     ·
      rw [if_neg c5] at H
      exact absurd H (by simp)
    ·
     rw [if_neg c4] at H
     have c4b0 : decide (x5_1 < (l0.length : Int)) = false:=decide_eq_false c4
     clear c4
     obtain rfl:=Option.some.inj H
     go_wp2
     repeat (go_quiet (fail);try go_wp2)
     go_ret
     exact ⟨by first|rfl|(simp;done)|(simp [*];done),by repeat (first|exact Drawn0.refl _|apply Drawn0.step)⟩
 ·
  rw [if_neg c3] at H
  have c3b0 : ((l0.length : Int) == (l1.length : Int)) = false:=beq_eq_false_iff_ne.mpr c3
  have c3b1 : ((l0.length : Int) != (l1.length : Int)) = true:=bne_iff_ne.mpr c3
  have c3b2 : (l0.length == l1.length) = false:=by first|simpa using c3|(simp at c3 ⊢;omega)
  obtain rfl:=Option.some.inj H
  go_enter Tryd.func62,Tryd.ntmps62
  go_wp2
  repeat (go_quiet (fail);try go_wp2)
  go_ret
  exact ⟨by first|rfl|(simp;done)|(simp [*];done),by repeat (first|exact Drawn0.refl _|apply Drawn0.step)⟩

/-! ### laws_sameSignature: function 21 -/
def laws_sameSignature.f (k : Nat) (a0_0 : Int) (l0_1 : List ByteArray) (l0_2 : List ByteArray) (l0_3 : List ByteArray) (a1_0 : Int) (l1_1 : List ByteArray) (l1_2 : List ByteArray) (l1_3 : List ByteArray) : Option (Bool):=if a0_0 = a1_0 then ((laws_sameTexts.f k l0_1 l1_1).bind fun t203 => (if t203 = true then ((laws_sameTexts.f k l0_2 l1_2).bind fun t204 => (if t204 = true then ((laws_sameTexts.f k l0_3 l1_3).bind fun t205 => (some t205)) else (some false))) else (some false))) else (some false)
theorem laws_sameSignature.mono : ∀ a0 a1 a2 a3 a4 a5 a6 a7 k,LeO (laws_sameSignature.f k a0 a1 a2 a3 a4 a5 a6 a7) (laws_sameSignature.f (k + 1) a0 a1 a2 a3 a4 a5 a6 a7):=by
 intro a0 a1 a2 a3 a4 a5 a6 a7 k
 unfold laws_sameSignature.f
 repeat' first
   | (with_reducible exact laws_sameTexts.mono _ _ _)
   | (with_reducible exact LeO.refl _)
   | (with_reducible exact LeO.none _)
   | (with_reducible refine LeO.ite ?_ ?_)
   | (with_reducible refine LeO.bind ?_ (fun _ => ?_))
   | exact laws_sameTexts.mono _ _ _
   | exact LeO.none _
   | refine LeO.ite ?_ ?_
   | refine LeO.bind ?_ (fun _ => ?_)
set_option maxHeartbeats 8000000 in
set_option maxRecDepth 100000 in
theorem laws_sameSignature.calls (k : Nat) (a0_0 : Int) (A0_1 : Option Addr) (c0_1 : Nat) (l0_1 : List ByteArray) (A0_2 : Option Addr) (c0_2 : Nat) (l0_2 : List ByteArray) (A0_3 : Option Addr) (c0_3 : Nat) (l0_3 : List ByteArray) (a1_0 : Int) (A1_1 : Option Addr) (c1_1 : Nat) (l1_1 : List ByteArray) (A1_2 : Option Addr) (c1_2 : Nat) (l1_2 : List ByteArray) (A1_3 : Option Addr) (c1_3 : Nat) (l1_3 : List ByteArray) (r : Bool) (w : World) (hr0_1 : Kd.C Kd.string w A0_1 l0_1.length l0_1) (hc0_1 : l0_1.length ≤ c0_1) (hr0_2 : Kd.C Kd.string w A0_2 l0_2.length l0_2) (hc0_2 : l0_2.length ≤ c0_2) (hr0_3 : Kd.C Kd.string w A0_3 l0_3.length l0_3) (hc0_3 : l0_3.length ≤ c0_3) (hr1_1 : Kd.C Kd.string w A1_1 l1_1.length l1_1) (hc1_1 : l1_1.length ≤ c1_1) (hr1_2 : Kd.C Kd.string w A1_2 l1_2.length l1_2) (hc1_2 : l1_2.length ≤ c1_2) (hr1_3 : Kd.C Kd.string w A1_3 l1_3.length l1_3) (hc1_3 : l1_3.length ≤ c1_3) (h : laws_sameSignature.f k a0_0 l0_1 l0_2 l0_3 a1_0 l1_1 l1_2 l1_3 = some r) :
  Calls Tryd.prog 21 #[.agg #[.int .i64 a0_0,.slice A0_1 l0_1.length c0_1,.slice A0_2 l0_2.length c0_2,.slice A0_3 l0_3.length c0_3],.agg #[.int .i64 a1_0,.slice A1_1 l1_1.length c1_1,.slice A1_2 l1_2.length c1_2,.slice A1_3 l1_3.length c1_3]] w fun e w' => e = .returned (.bool r) ∧ Below w.heap.size w w':=by
 have hu33:=Tryd.underlying33
 have HR0_1:=qh4 hr0_1
 have HC0_1:=qh4 hc0_1
 clear hr0_1 hc0_1
 have HR0_2:=qh4 hr0_2
 have HC0_2:=qh4 hc0_2
 clear hr0_2 hc0_2
 have HR0_3:=qh4 hr0_3
 have HC0_3:=qh4 hc0_3
 clear hr0_3 hc0_3
 have HR1_1:=qh4 hr1_1
 have HC1_1:=qh4 hc1_1
 clear hr1_1 hc1_1
 have HR1_2:=qh4 hr1_2
 have HC1_2:=qh4 hc1_2
 clear hr1_2 hc1_2
 have HR1_3:=qh4 hr1_3
 have HC1_3:=qh4 hc1_3
 clear hr1_3 hc1_3
 have HB:=qh4 (Below.refl w.heap.size w)
 have H : (if a0_0 = a1_0 then ((laws_sameTexts.f k l0_1 l1_1).bind fun t203 => (if t203 = true then ((laws_sameTexts.f k l0_2 l1_2).bind fun t204 => (if t204 = true then ((laws_sameTexts.f k l0_3 l1_3).bind fun t205 => (some t205)) else (some false))) else (some false))) else (some false)) = some r:=h
 clear h
 by_cases c3 : a0_0 = a1_0
 ·
  rw [if_pos c3] at H
  have c3b0 : (a0_0 == a1_0) = true:=beq_iff_eq.mpr c3
  have c3b1 : (a0_0 != a1_0) = false:=bne_eq_false_iff_eq.mpr c3
  clear c3
  replace H:=Option.bind_eq_some_iff.mp H
  obtain ⟨t203,A40,H⟩:=H
  replace H : (if t203 = true then ((laws_sameTexts.f k l0_2 l1_2).bind fun t204 => (if t204 = true then ((laws_sameTexts.f k l0_3 l1_3).bind fun t205 => (some t205)) else (some false))) else (some false)) = some r:=H
  have A4:=qh4 A40
  clear A40
  by_cases c5 : t203 = true
  ·
   subst c5
   have H1 : ((laws_sameTexts.f k l0_2 l1_2).bind fun t204 => (if t204 = true then ((laws_sameTexts.f k l0_3 l1_3).bind fun t205 => (some t205)) else (some false))) = some r:=by rw [if_pos rfl] at H;exact H
   clear H
   have H:=H1
   clear H1
   replace H:=Option.bind_eq_some_iff.mp H
   obtain ⟨t204,A60,H⟩:=H
   replace H : (if t204 = true then ((laws_sameTexts.f k l0_3 l1_3).bind fun t205 => (some t205)) else (some false)) = some r:=H
   have A6:=qh4 A60
   clear A60
   by_cases c7 : t204 = true
   ·
    subst c7
    have H1 : ((laws_sameTexts.f k l0_3 l1_3).bind fun t205 => (some t205)) = some r:=by rw [if_pos rfl] at H;exact H
    clear H
    have H:=H1
    clear H1
    replace H:=Option.bind_eq_some_iff.mp H
    obtain ⟨t205,A80,H⟩:=H
    replace H : (some t205) = some r:=H
    have A8:=qh4 A80
    clear A80
    obtain rfl:=Option.some.inj H
    go_enter Tryd.func21,Tryd.ntmps21
    go_wp2_with (first|((with_reducible refine gate_dst (N:=2) rfl ?_);refine box_event ?hg (N:=2) ?hd (cs:=#[.int .i64 a0_0,.slice A0_1 l0_1.length c0_1,.slice A0_2 l0_2.length c0_2,.slice A0_3 l0_3.length c0_3]) (t:=33) ?hr ?_;(case hd => rfl);(case hg => rfl);(case hr => first|(go_simp;done)|(go_simp;rfl));intro gb201 hg w9 hbox hb;have n0_:=qh4 (qi4 (by repeat (first|(with_reducible first|exact HB.out|apply qd4|apply qe4|apply qf4)|exact HB.out)) hb);have n1_:=qh4 (hbox);have n2_:=qh4 ((by rw [hg];exact (qj4 (by repeat (first|(with_reducible first|exact HB.out|apply qd4|apply qe4|apply qf4)|exact HB.out))) : w.heap.size ≤ gb201));have n3_:=qh4 ((by rw [hg];exact (qj4 (by repeat (first|(with_reducible first|exact HB.out|apply qd4|apply qe4|apply qf4)|exact HB.out))) : w.heap.size ≤ gb201));clear HB;have HB:=n0_;have BK201:=n1_;have GW201:=n2_;have GE201:=n3_;clear n0_ n1_ n2_ n3_;clear hb hbox hg)|((with_reducible refine gate_dst (N:=3) rfl ?_);refine box_event ?hg (N:=3) ?hd (cs:=#[.int .i64 a1_0,.slice A1_1 l1_1.length c1_1,.slice A1_2 l1_2.length c1_2,.slice A1_3 l1_3.length c1_3]) (t:=33) ?hr ?_;(case hd => rfl);(case hg => rfl);(case hr => first|(go_simp;done)|(go_simp;rfl));intro gb202 hg w10 hbox hb;have n0_:=qh4 (blk_below (g:=gb201) (o:=.cells #[.int .i64 a0_0,.slice A0_1 l0_1.length c0_1,.slice A0_2 l0_2.length c0_2,.slice A0_3 l0_3.length c0_3] 33 (0,0)) (by (with_reducible repeat (first|apply qa4|apply qb4|apply qc4));exact BK201.out) hb);have n1_:=qh4 (qi4 (by repeat (first|(with_reducible first|exact HB.out|apply qd4|apply qe4|apply qf4|refine qg4 ?_ GE201.out)|exact HB.out)) hb);have n2_:=qh4 (hbox);have n3_:=qh4 ((by rw [hg];exact (qj4 (by repeat (first|(with_reducible first|exact HB.out|apply qd4|apply qe4|apply qf4|refine qg4 ?_ GE201.out)|exact HB.out))) : w.heap.size ≤ gb202));have n4_:=qh4 ((by rw [hg];exact (qj4 (by repeat (first|(with_reducible first|exact HB.out|apply qd4|apply qe4|apply qf4|refine qg4 ?_ GE201.out)|exact HB.out))) : w.heap.size ≤ gb202));have n5_:=qh4 ((by rw [hg];exact Nat.ne_of_lt (blk_lt (g:=gb201) (o:=.cells #[.int .i64 a0_0,.slice A0_1 l0_1.length c0_1,.slice A0_2 l0_2.length c0_2,.slice A0_3 l0_3.length c0_3] 33 (0,0)) (by (with_reducible repeat (first|apply qa4|apply qb4|apply qc4));exact BK201.out)) : gb201 ≠ gb202));have n6_:=qh4 ((by rw [hg];exact Nat.ne_of_gt (blk_lt (g:=gb201) (o:=.cells #[.int .i64 a0_0,.slice A0_1 l0_1.length c0_1,.slice A0_2 l0_2.length c0_2,.slice A0_3 l0_3.length c0_3] 33 (0,0)) (by (with_reducible repeat (first|apply qa4|apply qb4|apply qc4));exact BK201.out)) : gb202 ≠ gb201));clear BK201;clear HB;have BK201:=n0_;have HB:=n1_;have BK202:=n2_;have GW202:=n3_;have GE202:=n4_;have NB201_202:=n5_;have NB202_201:=n6_;clear n0_ n1_ n2_ n3_ n4_ n5_ n6_;clear hb hbox hg;have hnb11:=NB201_202.out;have hnc11:=NB202_201.out;have hcz12_0 : w10.cell? ⟨gb201,0,none⟩ = some (.int .i64 a0_0):=(blk_cell BK201.out 0).trans rfl;have hcz12_1 : w10.cell? ⟨gb201,1,none⟩ = some (.slice A0_1 l0_1.length c0_1):=(blk_cell BK201.out 1).trans rfl;have hcz12_2 : w10.cell? ⟨gb201,2,none⟩ = some (.slice A0_2 l0_2.length c0_2):=(blk_cell BK201.out 2).trans rfl;have hcz12_3 : w10.cell? ⟨gb201,3,none⟩ = some (.slice A0_3 l0_3.length c0_3):=(blk_cell BK201.out 3).trans rfl;have hfz12_0:=blk_frozen BK201.out 0;have hfz12_1:=blk_frozen BK201.out 1;have hfz12_2:=blk_frozen BK201.out 2;have hfz12_3:=blk_frozen BK201.out 3;have hcz13_0 : w10.cell? ⟨gb202,0,none⟩ = some (.int .i64 a1_0):=(blk_cell BK202.out 0).trans rfl;have hcz13_1 : w10.cell? ⟨gb202,1,none⟩ = some (.slice A1_1 l1_1.length c1_1):=(blk_cell BK202.out 1).trans rfl;have hcz13_2 : w10.cell? ⟨gb202,2,none⟩ = some (.slice A1_2 l1_2.length c1_2):=(blk_cell BK202.out 2).trans rfl;have hcz13_3 : w10.cell? ⟨gb202,3,none⟩ = some (.slice A1_3 l1_3.length c1_3):=(blk_cell BK202.out 3).trans rfl;have hfz13_0:=blk_frozen BK202.out 0;have hfz13_1:=blk_frozen BK202.out 1;have hfz13_2:=blk_frozen BK202.out 2;have hfz13_3:=blk_frozen BK202.out 3)|(go_at_call 62;(with_reducible refine (laws_sameTexts.calls k _ _ l0_1 _ _ l1_1 true _ ?side1 ?side2 ?side3 ?side4 A4.out).mono ?_);(case side1 => repeat (first|exact (Kd.C_below HR0_1.out HB.out)|(with_reducible refine Kd.C_alloc ?_ _)|(with_reducible refine Kd.C_drewN ?_ _)|(with_reducible refine Kd.C_drew ?_)));(case side2 => exact HC0_1.out);(case side3 => repeat (first|exact (Kd.C_below HR1_1.out HB.out)|(with_reducible refine Kd.C_alloc ?_ _)|(with_reducible refine Kd.C_drewN ?_ _)|(with_reducible refine Kd.C_drew ?_)));(case side4 => exact HC1_1.out);rintro e w' ⟨rfl,⟨nd,rfl⟩⟩)|(go_at_call 62;(with_reducible refine (laws_sameTexts.calls k _ _ l0_2 _ _ l1_2 true _ ?side1 ?side2 ?side3 ?side4 A6.out).mono ?_);(case side1 => repeat (first|exact (Kd.C_below HR0_2.out (by repeat (first|(with_reducible first|exact HB.out|apply qd4|apply qe4|apply qf4|refine qg4 ?_ GE201.out|refine qg4 ?_ GE202.out)|exact HB.out)))|(with_reducible refine Kd.C_alloc ?_ _)|(with_reducible refine Kd.C_drewN ?_ _)|(with_reducible refine Kd.C_drew ?_)));(case side2 => exact HC0_2.out);(case side3 => repeat (first|exact (Kd.C_below HR1_2.out (by repeat (first|(with_reducible first|exact HB.out|apply qd4|apply qe4|apply qf4|refine qg4 ?_ GE201.out|refine qg4 ?_ GE202.out)|exact HB.out)))|(with_reducible refine Kd.C_alloc ?_ _)|(with_reducible refine Kd.C_drewN ?_ _)|(with_reducible refine Kd.C_drew ?_)));(case side4 => exact HC1_2.out);rintro e w' ⟨rfl,⟨nd,rfl⟩⟩)|(go_at_call 62;(with_reducible refine (laws_sameTexts.calls k _ _ l0_3 _ _ l1_3 t205 _ ?side1 ?side2 ?side3 ?side4 A8.out).mono ?_);(case side1 => repeat (first|exact (Kd.C_below HR0_3.out (by repeat (first|(with_reducible first|exact HB.out|apply qd4|apply qe4|apply qf4|refine qg4 ?_ GE201.out|refine qg4 ?_ GE202.out)|exact HB.out)))|(with_reducible refine Kd.C_alloc ?_ _)|(with_reducible refine Kd.C_drewN ?_ _)|(with_reducible refine Kd.C_drew ?_)));(case side2 => exact HC0_3.out);(case side3 => repeat (first|exact (Kd.C_below HR1_3.out (by repeat (first|(with_reducible first|exact HB.out|apply qd4|apply qe4|apply qf4|refine qg4 ?_ GE201.out|refine qg4 ?_ GE202.out)|exact HB.out)))|(with_reducible refine Kd.C_alloc ?_ _)|(with_reducible refine Kd.C_drewN ?_ _)|(with_reducible refine Kd.C_drew ?_)));(case side4 => exact HC1_3.out);rintro e w' ⟨rfl,⟨nd,rfl⟩⟩))
    go_ret
    exact ⟨by first|rfl|(simp [errW_none,errW_some] <;> rfl)|(simp [*,errW_none,errW_some] <;> rfl),by repeat (first|(with_reducible first|exact HB.out|apply qd4|apply qe4|apply qf4|refine qg4 ?_ GE201.out|refine qg4 ?_ GE202.out)|exact HB.out)⟩
   ·
    replace c7:=Bool.eq_false_iff.mpr c7
    subst c7
    have H1 : (some false) = some r:=by rw [if_neg (show ¬ (false = true) by decide)] at H;exact H
    clear H
    have H:=H1
    clear H1
    obtain rfl:=Option.some.inj H
    go_enter Tryd.func21,Tryd.ntmps21
    go_wp2_with (first|((with_reducible refine gate_dst (N:=2) rfl ?_);refine box_event ?hg (N:=2) ?hd (cs:=#[.int .i64 a0_0,.slice A0_1 l0_1.length c0_1,.slice A0_2 l0_2.length c0_2,.slice A0_3 l0_3.length c0_3]) (t:=33) ?hr ?_;(case hd => rfl);(case hg => rfl);(case hr => first|(go_simp;done)|(go_simp;rfl));intro gb201 hg w14 hbox hb;have n0_:=qh4 (qi4 (by repeat (first|(with_reducible first|exact HB.out|apply qd4|apply qe4|apply qf4)|exact HB.out)) hb);have n1_:=qh4 (hbox);have n2_:=qh4 ((by rw [hg];exact (qj4 (by repeat (first|(with_reducible first|exact HB.out|apply qd4|apply qe4|apply qf4)|exact HB.out))) : w.heap.size ≤ gb201));have n3_:=qh4 ((by rw [hg];exact (qj4 (by repeat (first|(with_reducible first|exact HB.out|apply qd4|apply qe4|apply qf4)|exact HB.out))) : w.heap.size ≤ gb201));clear HB;have HB:=n0_;have BK201:=n1_;have GW201:=n2_;have GE201:=n3_;clear n0_ n1_ n2_ n3_;clear hb hbox hg)|((with_reducible refine gate_dst (N:=3) rfl ?_);refine box_event ?hg (N:=3) ?hd (cs:=#[.int .i64 a1_0,.slice A1_1 l1_1.length c1_1,.slice A1_2 l1_2.length c1_2,.slice A1_3 l1_3.length c1_3]) (t:=33) ?hr ?_;(case hd => rfl);(case hg => rfl);(case hr => first|(go_simp;done)|(go_simp;rfl));intro gb202 hg w15 hbox hb;have n0_:=qh4 (blk_below (g:=gb201) (o:=.cells #[.int .i64 a0_0,.slice A0_1 l0_1.length c0_1,.slice A0_2 l0_2.length c0_2,.slice A0_3 l0_3.length c0_3] 33 (0,0)) (by (with_reducible repeat (first|apply qa4|apply qb4|apply qc4));exact BK201.out) hb);have n1_:=qh4 (qi4 (by repeat (first|(with_reducible first|exact HB.out|apply qd4|apply qe4|apply qf4|refine qg4 ?_ GE201.out)|exact HB.out)) hb);have n2_:=qh4 (hbox);have n3_:=qh4 ((by rw [hg];exact (qj4 (by repeat (first|(with_reducible first|exact HB.out|apply qd4|apply qe4|apply qf4|refine qg4 ?_ GE201.out)|exact HB.out))) : w.heap.size ≤ gb202));have n4_:=qh4 ((by rw [hg];exact (qj4 (by repeat (first|(with_reducible first|exact HB.out|apply qd4|apply qe4|apply qf4|refine qg4 ?_ GE201.out)|exact HB.out))) : w.heap.size ≤ gb202));have n5_:=qh4 ((by rw [hg];exact Nat.ne_of_lt (blk_lt (g:=gb201) (o:=.cells #[.int .i64 a0_0,.slice A0_1 l0_1.length c0_1,.slice A0_2 l0_2.length c0_2,.slice A0_3 l0_3.length c0_3] 33 (0,0)) (by (with_reducible repeat (first|apply qa4|apply qb4|apply qc4));exact BK201.out)) : gb201 ≠ gb202));have n6_:=qh4 ((by rw [hg];exact Nat.ne_of_gt (blk_lt (g:=gb201) (o:=.cells #[.int .i64 a0_0,.slice A0_1 l0_1.length c0_1,.slice A0_2 l0_2.length c0_2,.slice A0_3 l0_3.length c0_3] 33 (0,0)) (by (with_reducible repeat (first|apply qa4|apply qb4|apply qc4));exact BK201.out)) : gb202 ≠ gb201));clear BK201;clear HB;have BK201:=n0_;have HB:=n1_;have BK202:=n2_;have GW202:=n3_;have GE202:=n4_;have NB201_202:=n5_;have NB202_201:=n6_;clear n0_ n1_ n2_ n3_ n4_ n5_ n6_;clear hb hbox hg;have hnb16:=NB201_202.out;have hnc16:=NB202_201.out;have hcz17_0 : w15.cell? ⟨gb201,0,none⟩ = some (.int .i64 a0_0):=(blk_cell BK201.out 0).trans rfl;have hcz17_1 : w15.cell? ⟨gb201,1,none⟩ = some (.slice A0_1 l0_1.length c0_1):=(blk_cell BK201.out 1).trans rfl;have hcz17_2 : w15.cell? ⟨gb201,2,none⟩ = some (.slice A0_2 l0_2.length c0_2):=(blk_cell BK201.out 2).trans rfl;have hcz17_3 : w15.cell? ⟨gb201,3,none⟩ = some (.slice A0_3 l0_3.length c0_3):=(blk_cell BK201.out 3).trans rfl;have hfz17_0:=blk_frozen BK201.out 0;have hfz17_1:=blk_frozen BK201.out 1;have hfz17_2:=blk_frozen BK201.out 2;have hfz17_3:=blk_frozen BK201.out 3;have hcz18_0 : w15.cell? ⟨gb202,0,none⟩ = some (.int .i64 a1_0):=(blk_cell BK202.out 0).trans rfl;have hcz18_1 : w15.cell? ⟨gb202,1,none⟩ = some (.slice A1_1 l1_1.length c1_1):=(blk_cell BK202.out 1).trans rfl;have hcz18_2 : w15.cell? ⟨gb202,2,none⟩ = some (.slice A1_2 l1_2.length c1_2):=(blk_cell BK202.out 2).trans rfl;have hcz18_3 : w15.cell? ⟨gb202,3,none⟩ = some (.slice A1_3 l1_3.length c1_3):=(blk_cell BK202.out 3).trans rfl;have hfz18_0:=blk_frozen BK202.out 0;have hfz18_1:=blk_frozen BK202.out 1;have hfz18_2:=blk_frozen BK202.out 2;have hfz18_3:=blk_frozen BK202.out 3)|(go_at_call 62;(with_reducible refine (laws_sameTexts.calls k _ _ l0_1 _ _ l1_1 true _ ?side1 ?side2 ?side3 ?side4 A4.out).mono ?_);(case side1 => repeat (first|exact (Kd.C_below HR0_1.out HB.out)|(with_reducible refine Kd.C_alloc ?_ _)|(with_reducible refine Kd.C_drewN ?_ _)|(with_reducible refine Kd.C_drew ?_)));(case side2 => exact HC0_1.out);(case side3 => repeat (first|exact (Kd.C_below HR1_1.out HB.out)|(with_reducible refine Kd.C_alloc ?_ _)|(with_reducible refine Kd.C_drewN ?_ _)|(with_reducible refine Kd.C_drew ?_)));(case side4 => exact HC1_1.out);rintro e w' ⟨rfl,⟨nd,rfl⟩⟩)|(go_at_call 62;(with_reducible refine (laws_sameTexts.calls k _ _ l0_2 _ _ l1_2 false _ ?side1 ?side2 ?side3 ?side4 A6.out).mono ?_);(case side1 => repeat (first|exact (Kd.C_below HR0_2.out (by repeat (first|(with_reducible first|exact HB.out|apply qd4|apply qe4|apply qf4|refine qg4 ?_ GE201.out|refine qg4 ?_ GE202.out)|exact HB.out)))|(with_reducible refine Kd.C_alloc ?_ _)|(with_reducible refine Kd.C_drewN ?_ _)|(with_reducible refine Kd.C_drew ?_)));(case side2 => exact HC0_2.out);(case side3 => repeat (first|exact (Kd.C_below HR1_2.out (by repeat (first|(with_reducible first|exact HB.out|apply qd4|apply qe4|apply qf4|refine qg4 ?_ GE201.out|refine qg4 ?_ GE202.out)|exact HB.out)))|(with_reducible refine Kd.C_alloc ?_ _)|(with_reducible refine Kd.C_drewN ?_ _)|(with_reducible refine Kd.C_drew ?_)));(case side4 => exact HC1_2.out);rintro e w' ⟨rfl,⟨nd,rfl⟩⟩))
    go_ret
    exact ⟨by first|rfl|(simp [errW_none,errW_some] <;> rfl)|(simp [*,errW_none,errW_some] <;> rfl),by repeat (first|(with_reducible first|exact HB.out|apply qd4|apply qe4|apply qf4|refine qg4 ?_ GE201.out|refine qg4 ?_ GE202.out)|exact HB.out)⟩
  ·
   replace c5:=Bool.eq_false_iff.mpr c5
   subst c5
   have H1 : (some false) = some r:=by rw [if_neg (show ¬ (false = true) by decide)] at H;exact H
   clear H
   have H:=H1
   clear H1
   obtain rfl:=Option.some.inj H
   go_enter Tryd.func21,Tryd.ntmps21
   go_wp2_with (first|((with_reducible refine gate_dst (N:=2) rfl ?_);refine box_event ?hg (N:=2) ?hd (cs:=#[.int .i64 a0_0,.slice A0_1 l0_1.length c0_1,.slice A0_2 l0_2.length c0_2,.slice A0_3 l0_3.length c0_3]) (t:=33) ?hr ?_;(case hd => rfl);(case hg => rfl);(case hr => first|(go_simp;done)|(go_simp;rfl));intro gb201 hg w19 hbox hb;have n0_:=qh4 (qi4 (by repeat (first|(with_reducible first|exact HB.out|apply qd4|apply qe4|apply qf4)|exact HB.out)) hb);have n1_:=qh4 (hbox);have n2_:=qh4 ((by rw [hg];exact (qj4 (by repeat (first|(with_reducible first|exact HB.out|apply qd4|apply qe4|apply qf4)|exact HB.out))) : w.heap.size ≤ gb201));have n3_:=qh4 ((by rw [hg];exact (qj4 (by repeat (first|(with_reducible first|exact HB.out|apply qd4|apply qe4|apply qf4)|exact HB.out))) : w.heap.size ≤ gb201));clear HB;have HB:=n0_;have BK201:=n1_;have GW201:=n2_;have GE201:=n3_;clear n0_ n1_ n2_ n3_;clear hb hbox hg)|((with_reducible refine gate_dst (N:=3) rfl ?_);refine box_event ?hg (N:=3) ?hd (cs:=#[.int .i64 a1_0,.slice A1_1 l1_1.length c1_1,.slice A1_2 l1_2.length c1_2,.slice A1_3 l1_3.length c1_3]) (t:=33) ?hr ?_;(case hd => rfl);(case hg => rfl);(case hr => first|(go_simp;done)|(go_simp;rfl));intro gb202 hg w20 hbox hb;have n0_:=qh4 (blk_below (g:=gb201) (o:=.cells #[.int .i64 a0_0,.slice A0_1 l0_1.length c0_1,.slice A0_2 l0_2.length c0_2,.slice A0_3 l0_3.length c0_3] 33 (0,0)) (by (with_reducible repeat (first|apply qa4|apply qb4|apply qc4));exact BK201.out) hb);have n1_:=qh4 (qi4 (by repeat (first|(with_reducible first|exact HB.out|apply qd4|apply qe4|apply qf4|refine qg4 ?_ GE201.out)|exact HB.out)) hb);have n2_:=qh4 (hbox);have n3_:=qh4 ((by rw [hg];exact (qj4 (by repeat (first|(with_reducible first|exact HB.out|apply qd4|apply qe4|apply qf4|refine qg4 ?_ GE201.out)|exact HB.out))) : w.heap.size ≤ gb202));have n4_:=qh4 ((by rw [hg];exact (qj4 (by repeat (first|(with_reducible first|exact HB.out|apply qd4|apply qe4|apply qf4|refine qg4 ?_ GE201.out)|exact HB.out))) : w.heap.size ≤ gb202));have n5_:=qh4 ((by rw [hg];exact Nat.ne_of_lt (blk_lt (g:=gb201) (o:=.cells #[.int .i64 a0_0,.slice A0_1 l0_1.length c0_1,.slice A0_2 l0_2.length c0_2,.slice A0_3 l0_3.length c0_3] 33 (0,0)) (by (with_reducible repeat (first|apply qa4|apply qb4|apply qc4));exact BK201.out)) : gb201 ≠ gb202));have n6_:=qh4 ((by rw [hg];exact Nat.ne_of_gt (blk_lt (g:=gb201) (o:=.cells #[.int .i64 a0_0,.slice A0_1 l0_1.length c0_1,.slice A0_2 l0_2.length c0_2,.slice A0_3 l0_3.length c0_3] 33 (0,0)) (by (with_reducible repeat (first|apply qa4|apply qb4|apply qc4));exact BK201.out)) : gb202 ≠ gb201));clear BK201;clear HB;have BK201:=n0_;have HB:=n1_;have BK202:=n2_;have GW202:=n3_;have GE202:=n4_;have NB201_202:=n5_;have NB202_201:=n6_;clear n0_ n1_ n2_ n3_ n4_ n5_ n6_;clear hb hbox hg;have hnb21:=NB201_202.out;have hnc21:=NB202_201.out;have hcz22_0 : w20.cell? ⟨gb201,0,none⟩ = some (.int .i64 a0_0):=(blk_cell BK201.out 0).trans rfl;have hcz22_1 : w20.cell? ⟨gb201,1,none⟩ = some (.slice A0_1 l0_1.length c0_1):=(blk_cell BK201.out 1).trans rfl;have hcz22_2 : w20.cell? ⟨gb201,2,none⟩ = some (.slice A0_2 l0_2.length c0_2):=(blk_cell BK201.out 2).trans rfl;have hcz22_3 : w20.cell? ⟨gb201,3,none⟩ = some (.slice A0_3 l0_3.length c0_3):=(blk_cell BK201.out 3).trans rfl;have hfz22_0:=blk_frozen BK201.out 0;have hfz22_1:=blk_frozen BK201.out 1;have hfz22_2:=blk_frozen BK201.out 2;have hfz22_3:=blk_frozen BK201.out 3;have hcz23_0 : w20.cell? ⟨gb202,0,none⟩ = some (.int .i64 a1_0):=(blk_cell BK202.out 0).trans rfl;have hcz23_1 : w20.cell? ⟨gb202,1,none⟩ = some (.slice A1_1 l1_1.length c1_1):=(blk_cell BK202.out 1).trans rfl;have hcz23_2 : w20.cell? ⟨gb202,2,none⟩ = some (.slice A1_2 l1_2.length c1_2):=(blk_cell BK202.out 2).trans rfl;have hcz23_3 : w20.cell? ⟨gb202,3,none⟩ = some (.slice A1_3 l1_3.length c1_3):=(blk_cell BK202.out 3).trans rfl;have hfz23_0:=blk_frozen BK202.out 0;have hfz23_1:=blk_frozen BK202.out 1;have hfz23_2:=blk_frozen BK202.out 2;have hfz23_3:=blk_frozen BK202.out 3)|(go_at_call 62;(with_reducible refine (laws_sameTexts.calls k _ _ l0_1 _ _ l1_1 false _ ?side1 ?side2 ?side3 ?side4 A4.out).mono ?_);(case side1 => repeat (first|exact (Kd.C_below HR0_1.out HB.out)|(with_reducible refine Kd.C_alloc ?_ _)|(with_reducible refine Kd.C_drewN ?_ _)|(with_reducible refine Kd.C_drew ?_)));(case side2 => exact HC0_1.out);(case side3 => repeat (first|exact (Kd.C_below HR1_1.out HB.out)|(with_reducible refine Kd.C_alloc ?_ _)|(with_reducible refine Kd.C_drewN ?_ _)|(with_reducible refine Kd.C_drew ?_)));(case side4 => exact HC1_1.out);rintro e w' ⟨rfl,⟨nd,rfl⟩⟩))
   go_ret
   exact ⟨by first|rfl|(simp [errW_none,errW_some] <;> rfl)|(simp [*,errW_none,errW_some] <;> rfl),by repeat (first|(with_reducible first|exact HB.out|apply qd4|apply qe4|apply qf4|refine qg4 ?_ GE201.out|refine qg4 ?_ GE202.out)|exact HB.out)⟩
 ·
  rw [if_neg c3] at H
  have c3b0 : (a0_0 == a1_0) = false:=beq_eq_false_iff_ne.mpr c3
  have c3b1 : (a0_0 != a1_0) = true:=bne_iff_ne.mpr c3
  obtain rfl:=Option.some.inj H
  go_enter Tryd.func21,Tryd.ntmps21
  go_wp2_with (first|((with_reducible refine gate_dst (N:=2) rfl ?_);refine box_event ?hg (N:=2) ?hd (cs:=#[.int .i64 a0_0,.slice A0_1 l0_1.length c0_1,.slice A0_2 l0_2.length c0_2,.slice A0_3 l0_3.length c0_3]) (t:=33) ?hr ?_;(case hd => rfl);(case hg => rfl);(case hr => first|(go_simp;done)|(go_simp;rfl));intro gb201 hg w24 hbox hb;have n0_:=qh4 (qi4 (by repeat (first|(with_reducible first|exact HB.out|apply qd4|apply qe4|apply qf4)|exact HB.out)) hb);have n1_:=qh4 (hbox);have n2_:=qh4 ((by rw [hg];exact (qj4 (by repeat (first|(with_reducible first|exact HB.out|apply qd4|apply qe4|apply qf4)|exact HB.out))) : w.heap.size ≤ gb201));have n3_:=qh4 ((by rw [hg];exact (qj4 (by repeat (first|(with_reducible first|exact HB.out|apply qd4|apply qe4|apply qf4)|exact HB.out))) : w.heap.size ≤ gb201));clear HB;have HB:=n0_;have BK201:=n1_;have GW201:=n2_;have GE201:=n3_;clear n0_ n1_ n2_ n3_;clear hb hbox hg)|((with_reducible refine gate_dst (N:=3) rfl ?_);refine box_event ?hg (N:=3) ?hd (cs:=#[.int .i64 a1_0,.slice A1_1 l1_1.length c1_1,.slice A1_2 l1_2.length c1_2,.slice A1_3 l1_3.length c1_3]) (t:=33) ?hr ?_;(case hd => rfl);(case hg => rfl);(case hr => first|(go_simp;done)|(go_simp;rfl));intro gb202 hg w25 hbox hb;have n0_:=qh4 (blk_below (g:=gb201) (o:=.cells #[.int .i64 a0_0,.slice A0_1 l0_1.length c0_1,.slice A0_2 l0_2.length c0_2,.slice A0_3 l0_3.length c0_3] 33 (0,0)) (by (with_reducible repeat (first|apply qa4|apply qb4|apply qc4));exact BK201.out) hb);have n1_:=qh4 (qi4 (by repeat (first|(with_reducible first|exact HB.out|apply qd4|apply qe4|apply qf4|refine qg4 ?_ GE201.out)|exact HB.out)) hb);have n2_:=qh4 (hbox);have n3_:=qh4 ((by rw [hg];exact (qj4 (by repeat (first|(with_reducible first|exact HB.out|apply qd4|apply qe4|apply qf4|refine qg4 ?_ GE201.out)|exact HB.out))) : w.heap.size ≤ gb202));have n4_:=qh4 ((by rw [hg];exact (qj4 (by repeat (first|(with_reducible first|exact HB.out|apply qd4|apply qe4|apply qf4|refine qg4 ?_ GE201.out)|exact HB.out))) : w.heap.size ≤ gb202));have n5_:=qh4 ((by rw [hg];exact Nat.ne_of_lt (blk_lt (g:=gb201) (o:=.cells #[.int .i64 a0_0,.slice A0_1 l0_1.length c0_1,.slice A0_2 l0_2.length c0_2,.slice A0_3 l0_3.length c0_3] 33 (0,0)) (by (with_reducible repeat (first|apply qa4|apply qb4|apply qc4));exact BK201.out)) : gb201 ≠ gb202));have n6_:=qh4 ((by rw [hg];exact Nat.ne_of_gt (blk_lt (g:=gb201) (o:=.cells #[.int .i64 a0_0,.slice A0_1 l0_1.length c0_1,.slice A0_2 l0_2.length c0_2,.slice A0_3 l0_3.length c0_3] 33 (0,0)) (by (with_reducible repeat (first|apply qa4|apply qb4|apply qc4));exact BK201.out)) : gb202 ≠ gb201));clear BK201;clear HB;have BK201:=n0_;have HB:=n1_;have BK202:=n2_;have GW202:=n3_;have GE202:=n4_;have NB201_202:=n5_;have NB202_201:=n6_;clear n0_ n1_ n2_ n3_ n4_ n5_ n6_;clear hb hbox hg;have hnb26:=NB201_202.out;have hnc26:=NB202_201.out;have hcz27_0 : w25.cell? ⟨gb201,0,none⟩ = some (.int .i64 a0_0):=(blk_cell BK201.out 0).trans rfl;have hcz27_1 : w25.cell? ⟨gb201,1,none⟩ = some (.slice A0_1 l0_1.length c0_1):=(blk_cell BK201.out 1).trans rfl;have hcz27_2 : w25.cell? ⟨gb201,2,none⟩ = some (.slice A0_2 l0_2.length c0_2):=(blk_cell BK201.out 2).trans rfl;have hcz27_3 : w25.cell? ⟨gb201,3,none⟩ = some (.slice A0_3 l0_3.length c0_3):=(blk_cell BK201.out 3).trans rfl;have hfz27_0:=blk_frozen BK201.out 0;have hfz27_1:=blk_frozen BK201.out 1;have hfz27_2:=blk_frozen BK201.out 2;have hfz27_3:=blk_frozen BK201.out 3;have hcz28_0 : w25.cell? ⟨gb202,0,none⟩ = some (.int .i64 a1_0):=(blk_cell BK202.out 0).trans rfl;have hcz28_1 : w25.cell? ⟨gb202,1,none⟩ = some (.slice A1_1 l1_1.length c1_1):=(blk_cell BK202.out 1).trans rfl;have hcz28_2 : w25.cell? ⟨gb202,2,none⟩ = some (.slice A1_2 l1_2.length c1_2):=(blk_cell BK202.out 2).trans rfl;have hcz28_3 : w25.cell? ⟨gb202,3,none⟩ = some (.slice A1_3 l1_3.length c1_3):=(blk_cell BK202.out 3).trans rfl;have hfz28_0:=blk_frozen BK202.out 0;have hfz28_1:=blk_frozen BK202.out 1;have hfz28_2:=blk_frozen BK202.out 2;have hfz28_3:=blk_frozen BK202.out 3))
  go_ret
  exact ⟨by first|rfl|(simp [errW_none,errW_some] <;> rfl)|(simp [*,errW_none,errW_some] <;> rfl),by repeat (first|(with_reducible first|exact HB.out|apply qd4|apply qe4|apply qf4|refine qg4 ?_ GE201.out|refine qg4 ?_ GE202.out)|exact HB.out)⟩

/-! ### spec_MsgOf: function 25, given -/
def spec_MsgOf.f (l0 : List Int) : Option ByteArray:=if l0.length ≤ 1099511627776 ∧ (∀ x ∈ l0,0 ≤ x ∧ x ≤ 255) then some (Go.Proofs.YtmkaknegjahjaaaDoor.Src.msgF l0) else none
theorem spec_MsgOf.calls (A0 : Option Addr) (c0 : Nat) (l0 : List Int) (r : ByteArray) (w : World) (hr0 : Kd.C (Kd.int .u8) w A0 l0.length l0) (hc0 : l0.length ≤ c0) (h : spec_MsgOf.f l0 = some r) :
  Calls Tryd.prog 25 #[.slice A0 l0.length c0] w fun e w' => e = .returned (.string r) ∧ Below w.heap.size w w':=by
 have hs : l0.length ≤ 1099511627776 ∧ (∀ x ∈ l0,0 ≤ x ∧ x ≤ 255):=by
  by_cases hl : l0.length ≤ 1099511627776 ∧ (∀ x ∈ l0,0 ≤ x ∧ x ≤ 255)
  ·
   exact hl
  ·
   rw [spec_MsgOf.f,if_neg hl] at h;cases h
 rw [spec_MsgOf.f,if_pos hs] at h
 injection h with h
 subst h
 refine Go.Proofs.YtmkaknegjahjaaaDoor.Src.msgOf_calls w A0 c0 l0 hr0 (fun i => ?_) (by omega)
 unfold rd
 rw [List.getD_eq_getElem?_getD]
 by_cases hi : i.toNat < l0.length
 ·
  rw [List.getElem?_eq_getElem hi,Option.getD_some]
  exact hs.2 _ (List.getElem_mem hi)
 ·
  rw [List.getElem?_eq_none (by omega)]
  exact ⟨Int.le_refl 0,show (0 : Int) ≤ 255 by decide⟩


/-! ### impl_areLong: function 51, given -/
def firstLong : List ByteArray → Int → Int
 | [],_ => -1
 | s :: l,i => if (65536 : Int) < s.size then i else firstLong l (i + 1)
theorem firstLong_any (l : List ByteArray) : ∀ i : Int,0 ≤ i → decide (0 ≤ firstLong l i) = l.any (fun s => decide ((65536 : Int) < s.size)):=by
 induction l with
 | nil => intro i _;rfl
 | cons s l ih =>
  intro i hi
  rw [firstLong,List.any_cons]
  by_cases h : (65536 : Int) < s.size
  ·
   rw [if_pos h,decide_eq_true h,decide_eq_true hi];rfl
  ·
   rw [if_neg h,decide_eq_false h,ih (i + 1) (by omega)];rfl
theorem isLong_calls (s : ByteArray) (w : World) : Calls Tryd.prog 102 #[.string s] w fun e w' => e = .returned (.bool (decide ((65536 : Int) < s.size))) ∧ w = w':=by
 go_enter Tryd.func102,Tryd.ntmps102
 go_wp2
 go_ret
 exact ⟨rfl,rfl⟩
set_option maxHeartbeats 400000 in
theorem indexLong_calls (A0 : Option Addr) (c0 : Nat) (l0 : List ByteArray) (w : World) (hr0 : Kd.C Kd.string w A0 l0.length l0) :
  Calls Tryd.prog 133 #[.slice A0 l0.length c0,.func (.func 102) #[] #[]] w fun e w' => e = .returned (.int .i64 (firstLong l0 0)) ∧ w = w':=by
 have hn : l0.length ≤ 9223372036854775807:=hr0.2.1
 have HR:=qh4 hr0
 clear hr0
 go_enter Tryd.func133,Tryd.ntmps133
 go_wp2
 go_loop [8] (fun c => ∃ k : Nat,k ≤ l0.length ∧ c = .int .i64 k ∧ Aside0 (firstLong l0 0 = firstLong (l0.drop k) k)) (fun c => l0.length - (intOf c).toNat)
 case atStart => exact ⟨0,Nat.zero_le _,rfl,⟨rfl⟩⟩
 case round =>
  obtain ⟨k,hk,rfl,hf⟩:=hrel
  by_cases hlt : k < l0.length
  ·
   obtain ⟨ad,c,rfl,hcl,hK,hcell⟩:=Kd.C_get HR.out ByteArray.empty k (by omega) (by omega)
   have hc : w.cell? (ad.add k) = some (.string l0[k]):=by
    have h2 : c = [.string (l0.getD k ByteArray.empty)]:=hK
    subst h2
    have:=hcell 0 _ rfl
    simpa [hlt,Kd.string,Kd.scalar] using this
   have hd : Aside0 (l0.drop k = l0[k] :: l0.drop (k + 1)):=⟨List.drop_eq_getElem_cons hlt⟩
   clear hcell hK hcl
   by_cases hp : (65536 : Int) < l0[k].size
   ·
    have hb : decide ((65536 : Int) < l0[k].size) = true:=decide_eq_true hp
    have hfin : Aside0 ((k : Int) = firstLong l0 0):=⟨by rw [hf.out,hd.out,firstLong,if_pos hp]⟩
    go_wp2_with (go_at_call 102;refine (isLong_calls _ _).mono ?_;rintro e w' ⟨rfl,rfl⟩)
    go_ret
    exact ⟨congrArg (fun x => Ending.returned (.int .i64 x)) hfin.out,rfl⟩
   ·
    have hb : decide ((65536 : Int) < l0[k].size) = false:=decide_eq_false hp
    have hfin : Aside0 (firstLong l0 0 = firstLong (l0.drop (k + 1)) ((k + 1 : Nat) : Int)):=⟨by rw [hf.out,hd.out,firstLong,if_neg hp];rfl⟩
    go_wp2_with (go_at_call 102;refine (isLong_calls _ _).mono ?_;rintro e w' ⟨rfl,rfl⟩)
    go_round
    case rel => exact ⟨k + 1,by omega,by go_num,hfin⟩
    case measure => simp [intOf];omega
  ·
   have hfin : Aside0 ((-1 : Int) = firstLong l0 0):=⟨by rw [hf.out,List.drop_eq_nil_of_le (by omega)];rfl⟩
   go_wp2
   go_ret
   exact ⟨congrArg (fun x => Ending.returned (.int .i64 x)) hfin.out,rfl⟩
theorem containsLong_calls (A0 : Option Addr) (c0 : Nat) (l0 : List ByteArray) (w : World) (hr0 : Kd.C Kd.string w A0 l0.length l0) :
  Calls Tryd.prog 101 #[.slice A0 l0.length c0,.func (.func 102) #[] #[]] w fun e w' => e = .returned (.bool (decide (0 ≤ firstLong l0 0))) ∧ w = w':=by
 have HR:=qh4 hr0
 clear hr0
 go_enter Tryd.func101,Tryd.ntmps101
 go_wp2_with (go_at_call 133;refine (indexLong_calls _ _ _ _ HR.out).mono ?_;rintro e w' ⟨rfl,rfl⟩)
 go_ret
 exact ⟨rfl,rfl⟩
def impl_areLong.f (l0 : List ByteArray) : Option Bool:=some (l0.any fun s => decide ((65536 : Int) < s.size))
theorem impl_areLong.calls (A0 : Option Addr) (c0 : Nat) (l0 : List ByteArray) (r : Bool) (w : World) (hr0 : Kd.C Kd.string w A0 l0.length l0) (hc0 : l0.length ≤ c0) (h : impl_areLong.f l0 = some r) :
  Calls Tryd.prog 51 #[.slice A0 l0.length c0] w fun e w' => e = .returned (.bool r) ∧ Drawn0 w w':=by
 have HR:=qh4 hr0
 have hfin : Aside0 (decide (0 ≤ firstLong l0 0) = r):=⟨by rw [firstLong_any l0 0 (Int.le_refl _)];exact Option.some.inj h⟩
 clear hr0 h
 go_enter Tryd.func51,Tryd.ntmps51
 go_wp2_with (go_at_call 101;refine (containsLong_calls _ _ _ _ HR.out).mono ?_;rintro e w' ⟨rfl,rfl⟩)
 go_ret
 exact ⟨congrArg (fun x => Ending.returned (.bool x)) hfin.out,Drawn0.refl _⟩


/-! ### impl_isHash: function 52 -/
def impl_isHash.f (a0 : ByteArray) : Option (Bool):=some ((a0.size : Int) == 32)
set_option maxHeartbeats 8000000 in
set_option maxRecDepth 100000 in
theorem impl_isHash.calls (a0 : ByteArray) (r : Bool) (w : World) (h : impl_isHash.f a0 = some r) :
  Calls Tryd.prog 52 #[.string a0] w fun e w' => e = .returned (.bool r) ∧ Drawn0 w w':=by
 have H : (some ((a0.size : Int) == 32)) = some r:=h
 clear h
 obtain rfl:=Option.some.inj H
 go_enter Tryd.func52,Tryd.ntmps52
 go_wp2
 go_ret
 exact ⟨by first|rfl|(simp;done)|(simp [*];done),by repeat (first|exact Drawn0.refl _|apply Drawn0.step)⟩

/-! ### impl_number: function 99 -/
def impl_number.l0 : Nat → Int → List Int → Int → Option (ByteArray)
 | 0,_,_,_ => none
 | k + 1,x0,x5,x6 => if x6 ≥ 0 then (if 0 ≤ x6 then (if x6 < (x5.length : Int) then (impl_number.l0 k (x0 / 256) (x5.set (x6 : Int).toNat ((x0) % 256)) (wrap64 (x6 - 1))) else (none)) else (none)) else (some (strOfNums x5))
def impl_number.f (k : Nat) (a0 : Int) (a1 : Int) : Option (ByteArray):=if 0 ≤ a1 then (if (a1 : Int).toNat ≤ 281474976710656 then (impl_number.l0 k a0 (List.replicate (a1 : Int).toNat 0) (wrap64 (a1 - 1))) else (none)) else (none)
theorem impl_number.mono_l : ∀ k,(∀ y0 y1 y2,LeO (impl_number.l0 k y0 y1 y2) (impl_number.l0 (k + 1) y0 y1 y2))
 | 0 => fun _ _ _ r h => by simp [impl_number.l0] at h
 | k + 1 => by
  have ih0:=impl_number.mono_l k
  ·
   intro y0 y1 y2
   unfold impl_number.l0
   repeat' first
   | (with_reducible exact ih0 _ _ _)
   | (with_reducible exact LeO.refl _)
   | (with_reducible exact LeO.none _)
   | (with_reducible refine LeO.ite ?_ ?_)
   | (with_reducible refine LeO.bind ?_ (fun _ => ?_))
   | exact ih0 _ _ _
   | exact LeO.none _
   | refine LeO.ite ?_ ?_
   | refine LeO.bind ?_ (fun _ => ?_)
theorem impl_number.mono : ∀ a0 a1 k,LeO (impl_number.f k a0 a1) (impl_number.f (k + 1) a0 a1):=by
 intro a0 a1 k
 have ih0:=impl_number.mono_l k
 unfold impl_number.f
 repeat' first
   | (with_reducible exact ih0 _ _ _)
   | (with_reducible exact LeO.refl _)
   | (with_reducible exact LeO.none _)
   | (with_reducible refine LeO.ite ?_ ?_)
   | (with_reducible refine LeO.bind ?_ (fun _ => ?_))
   | exact ih0 _ _ _
   | exact LeO.none _
   | refine LeO.ite ?_ ?_
   | refine LeO.bind ?_ (fun _ => ?_)
set_option maxHeartbeats 8000000 in
set_option maxRecDepth 100000 in
theorem impl_number.calls (k : Nat) (a0 : Int) (a1 : Int) (r : ByteArray) (w : World) (h : impl_number.f k a0 a1 = some r) :
  Calls Tryd.prog 99 #[.int .i64 a0,.int .i64 a1] w fun e w' => e = .returned (.string r) ∧ Below w.heap.size w w':=by
 have HB:=qh4 (Below.refl w.heap.size w)
 have H : (if 0 ≤ a1 then (if (a1 : Int).toNat ≤ 281474976710656 then (impl_number.l0 k a0 (List.replicate (a1 : Int).toNat 0) (wrap64 (a1 - 1))) else (none)) else (none)) = some r:=h
 clear h
 by_cases c3 : 0 ≤ a1
 ·
  rw [if_pos c3] at H
  have c3b0:=eq_true c3
  have c3b1 : decide (0 ≤ a1) = true:=decide_eq_true c3
  clear c3
  by_cases c4 : (a1 : Int).toNat ≤ 281474976710656
  ·
   rw [if_pos c4] at H
   have c4b0:=eq_true c4
   have c4b1 : decide ((a1 : Int).toNat ≤ 281474976710656) = true:=decide_eq_true c4
   clear c4
   obtain ⟨y206,hy206⟩ : ∃ y_ : List Int,y_ = (List.replicate (a1 : Int).toNat 0):=⟨_,rfl⟩
   replace H : (impl_number.l0 k a0 y206 (wrap64 (a1 - 1))) = some r:=by first|(rw [hy206];with_reducible exact H)|(have H2_:=(Option.bind_some _ _).symm.trans H;rw [hy206];with_reducible exact H2_)|(have H2_:=(Option.bind_some _ _).symm.trans H;with_reducible exact H2_)|with_reducible exact H|(rw [hy206];exact H)|exact H
   have Ny206:=qh4 hy206
   clear hy206
   have H':=qh4 H
   clear H
   go_enter Tryd.func99,Tryd.ntmps99
   go_wp2_with (first|((with_reducible refine gate_dst (N:=8) rfl ?_);refine Kd.R_make (Kd.int .u8) _ 5 rfl (N:=8) rfl 22 _ _ rfl a1 rfl rfl Tryd.underlying22 (.int .u8 0) 1 info5 rfl (by decide) (by omega) 0 (ok:=fun _ => True) (okp:=fun _ => True) rfl (fun _ hk => hk) trivial (of_decide_eq_true (by first|(with_reducible assumption)|assumption)) (Nat.le_trans (Nat.mul_le_mul_right _ (of_decide_eq_true (by first|(with_reducible assumption)|assumption) : a1.toNat ≤ 281474976710656)) (by omega)) (Below.refl _ _) (Nat.le_refl _) ?_;intro v207 w5 ho6 hb hg_ hnew_;clear hg_ hnew_;(first|rw [← Ny206.out] at ho6|(simp only [Int.reduceToNat] at ho6;rw [← Ny206.out] at ho6));have n0_:=qh4 (Kd.R_lower ho6 (qj4 (by repeat (first|(with_reducible first|exact HB.out|apply qd4|apply qe4|apply qf4)|exact HB.out))));have n1_:=qh4 (qi4 (by repeat (first|(with_reducible first|exact HB.out|apply qd4|apply qe4|apply qf4)|exact HB.out)) hb);clear HB;have HO208:=n0_;have HB:=n1_;clear n0_ n1_;clear hb ho6))
   go_loopg [0,6] k (fun kq v0 v6 w' => ∃ (x0_1 : Int) (x5_1 : List Int) (x6_1 : Int),v0 = .int .i64 x0_1 ∧ v6 = .int .i64 x6_1 ∧ Aside0 (impl_number.l0 kq x0_1 x5_1 x6_1 = some r) ∧ Aside0 (kq ≤ k) ∧ Aside0 (Kd.R (Kd.int .u8) 5 w' w.heap.size (fun _ => True) v207 x5_1) ∧ Aside0 (Below w.heap.size w w'))
   case atStart => exact ⟨(a0),(y206),(wrap64 (a1 - 1)),(by first|rfl|(simp;done)|(simp [*];done)),(by first|rfl|(simp;done)|(simp [*];done)),H',⟨Nat.le_refl _⟩,⟨by (with_reducible repeat (first|apply Kd.R_alloc|apply Kd.R_drewN|apply Kd.R_drew));exact HO208.out⟩,⟨by repeat (first|(with_reducible first|exact HB.out|apply qd4|apply qe4|apply qf4)|exact HB.out)⟩⟩
   case round =>
    clear H'
    try clear p2
    try clear c3
    try clear c3b0
    try clear c3b1
    try clear c4
    try clear c4b0
    try clear c4b1
    try clear p6
    obtain ⟨x0_1,x5_1,x6_1,rfl,rfl,HA,HK1,HO_5,HB⟩:=hrel
    cases gk with
    | zero => exact absurd HA.out (by simp [impl_number.l0])
    | succ k1 =>
     have H:=HA.out
     clear HA
     simp only [impl_number.l0] at H
     by_cases c7 : x6_1 ≥ 0
     ·
      rw [if_pos c7] at H
      have c7b0 : decide (0 ≤ x6_1) = true:=decide_eq_true c7
      clear c7
      by_cases c8 : 0 ≤ x6_1
      ·
       rw [if_pos c8] at H
       have c8b0 : decide (0 ≤ x6_1) = true:=decide_eq_true c8
       clear c8
       by_cases c9 : x6_1 < (x5_1.length : Int)
       ·
        rw [if_pos c9] at H
        have c9b0 : decide (x6_1 < (x5_1.length : Int)) = true:=decide_eq_true c9
        clear c9
        obtain ⟨y209,hy209⟩ : ∃ y_ : List Int,y_ = (x5_1.set (x6_1 : Int).toNat ((x0_1) % 256)):=⟨_,rfl⟩
        replace H : (impl_number.l0 k1 (x0_1 / 256) y209 (wrap64 (x6_1 - 1))) = some r:=by first|(rw [hy209];with_reducible exact H)|(have H2_:=(Option.bind_some _ _).symm.trans H;rw [hy209];with_reducible exact H2_)|(have H2_:=(Option.bind_some _ _).symm.trans H;with_reducible exact H2_)|with_reducible exact H|(rw [hy209];exact H)|exact H
        have Ny209:=qh4 hy209
        clear hy209
        have H':=qh4 H
        clear H
        have p10 : 0 ≤ (x6_1 : Int):=of_decide_eq_true (by first|(with_reducible assumption)|assumption)
        have q10 : (x6_1 : Int) < ((x5_1.length : Int) : Int):=of_decide_eq_true (by first|(with_reducible assumption)|assumption)
        obtain ⟨go10,co10,eo10,gb10,gl10,cl10,HG10⟩:=Kd.R_form HO_5.out (by omega)
        (first|cases eo10|(injection eo10 with ea_ en_ ec_;(first|subst ea_|(injection ea_ with ea_;subst ea_));subst ec_;clear en_))
        have GB10:=qh4 gb10
        have GG10:=qh4 HG10
        clear gb10 gl10 HG10
        obtain ⟨hx10_0,hf10_0⟩:=Kd.R_celln 0 HO_5.out (x6_1 : Int) p10 q10
        replace p10:=eq_true p10
        replace q10:=eq_true q10
        have HP11:=Kd.R_putg HO_5.out (x6_1 : Int) ((x0_1) % 256)
        go_wp2_with (first|((with_reducible refine gate_store (t:=5) (p:=19) rfl ?_);refine store_event (t:=5) (p:=19) (v:=?vo_w12) (w1:=(wr.setCell ⟨go10,(x6_1 : Int).toNat,none⟩ (.int .u8 ((x0_1) % 256)))) ?hg ?ho ?hn ?hr ?_;(case ho => rfl);(case hg => rfl);(case hn => rfl);(case hr => first|(go_simp;done)|(go_simp;rfl));intro w12 hw;have hg : wr.grownBy w12 (some go10):=(by rw [hw];exact HP11.2);have hp_ : Kd.R (Kd.int .u8) 5 w12 w.heap.size (fun _ => True) (.slice (some ⟨go10,0,none⟩) x5_1.length co10) y209:=(by rw [hw,Ny209.out];exact HP11.1);clear HP11;have n0_:=qh4 (hp_);have n1_:=qh4 ((by rw [hw];exact qg4 (HB.out) GB10.out : Below w.heap.size w w12));clear HO_5;clear HB;have HO_5:=n0_;have HB:=n1_;clear n0_ n1_;clear hg hw hp_))
        go_roundg k1
        case measure => have:=HK1.out;omega
        case rel => exact ⟨(x0_1 / 256),(y209),(wrap64 (x6_1 - 1)),(by first|rfl|(simp;done)|(simp [*];done)),(by first|rfl|(simp;done)|(simp [*];done)),H',⟨by have:=HK1.out;omega⟩,⟨by (with_reducible repeat (first|apply Kd.R_alloc|apply Kd.R_drewN|apply Kd.R_drew));exact HO_5.out⟩,⟨by repeat (first|(with_reducible first|exact HB.out|apply qd4|apply qe4|apply qf4)|exact HB.out)⟩⟩
       ·
        rw [if_neg c9] at H
        exact absurd H (by simp)
      ·
       rw [if_neg c8] at H
       exact absurd H (by simp)
     ·
      rw [if_neg c7] at H
      have c7b0 : decide (0 ≤ x6_1) = false:=decide_eq_false c7
      clear c7
      obtain rfl:=Option.some.inj H
      have hcv13:=own_string (P:=Tryd.prog) Tryd.underlying22 Tryd.underlying5 Tryd.underlying9 (Kd.own_of_R HO_5.out)
      go_wp2
      go_ret
      exact ⟨by first|rfl|(simp [errW_none,errW_some] <;> rfl)|(simp [*,errW_none,errW_some] <;> rfl),by repeat (first|(with_reducible first|exact HB.out|apply qd4|apply qe4|apply qf4)|exact HB.out)⟩
  ·
   rw [if_neg c4] at H
   exact absurd H (by simp)
 ·
  rw [if_neg c3] at H
  exact absurd H (by simp)

/-! ### impl_secret: function 74 -/
def impl_secret.f (k : Nat) (a0 : ByteArray) (a1 : Int) (a2 : Int) (a3 : Int) : Option (ByteArray):=if 6 + a0.size ≤ 9223372036854775807 then ((impl_number.f k a1 1).bind fun t210 => (if ((⟨#[115,101,99,114,101,116]⟩ : ByteArray) ++ a0).size + t210.size ≤ 9223372036854775807 then ((impl_number.f k a2 1).bind fun t211 => (if (((⟨#[115,101,99,114,101,116]⟩ : ByteArray) ++ a0) ++ t210).size + t211.size ≤ 9223372036854775807 then ((impl_number.f k a3 1).bind fun t212 => (if ((((⟨#[115,101,99,114,101,116]⟩ : ByteArray) ++ a0) ++ t210) ++ t211).size + t212.size ≤ 9223372036854775807 then ((impl_hash.f (((((⟨#[115,101,99,114,101,116]⟩ : ByteArray) ++ a0) ++ t210) ++ t211) ++ t212)).bind fun t213 => (some t213)) else (none))) else (none))) else (none))) else (none)
theorem impl_secret.mono : ∀ a0 a1 a2 a3 k,LeO (impl_secret.f k a0 a1 a2 a3) (impl_secret.f (k + 1) a0 a1 a2 a3):=by
 intro a0 a1 a2 a3 k
 unfold impl_secret.f
 repeat' first
   | (with_reducible exact impl_number.mono _ _ _)
   | (with_reducible exact LeO.refl _)
   | (with_reducible exact LeO.none _)
   | (with_reducible refine LeO.ite ?_ ?_)
   | (with_reducible refine LeO.bind ?_ (fun _ => ?_))
   | exact impl_number.mono _ _ _
   | exact LeO.none _
   | refine LeO.ite ?_ ?_
   | refine LeO.bind ?_ (fun _ => ?_)
set_option maxHeartbeats 8000000 in
set_option maxRecDepth 100000 in
theorem impl_secret.calls (k : Nat) (a0 : ByteArray) (a1 : Int) (a2 : Int) (a3 : Int) (r : ByteArray) (w : World) (hG_ : Go.Proofs.YtmkaknegjahjaaaDoor.Sha.GlobA w) (h : impl_secret.f k a0 a1 a2 a3 = some r) :
  Calls Tryd.prog 74 #[.string a0,.int .i64 a1,.int .i64 a2,.int .i64 a3] w fun e w' => e = .returned (.string r) ∧ Below w.heap.size w w':=by
 have HB:=qh4 (Below.refl w.heap.size w)
 have H : (if 6 + a0.size ≤ 9223372036854775807 then ((impl_number.f k a1 1).bind fun t210 => (if ((⟨#[115,101,99,114,101,116]⟩ : ByteArray) ++ a0).size + t210.size ≤ 9223372036854775807 then ((impl_number.f k a2 1).bind fun t211 => (if (((⟨#[115,101,99,114,101,116]⟩ : ByteArray) ++ a0) ++ t210).size + t211.size ≤ 9223372036854775807 then ((impl_number.f k a3 1).bind fun t212 => (if ((((⟨#[115,101,99,114,101,116]⟩ : ByteArray) ++ a0) ++ t210) ++ t211).size + t212.size ≤ 9223372036854775807 then ((impl_hash.f (((((⟨#[115,101,99,114,101,116]⟩ : ByteArray) ++ a0) ++ t210) ++ t211) ++ t212)).bind fun t213 => (some t213)) else (none))) else (none))) else (none))) else (none)) = some r:=h
 clear h
 by_cases c5 : 6 + a0.size ≤ 9223372036854775807
 ·
  rw [if_pos c5] at H
  have c5b0:=eq_true c5
  have c5b1 : decide (6 + a0.size ≤ 9223372036854775807) = true:=decide_eq_true c5
  try have c5b2 : (9223372036854775807 < 6 + a0.size) = False:=eq_false (Nat.not_lt.2 c5)
  replace H:=Option.bind_eq_some_iff.mp H
  obtain ⟨t210,A60,H⟩:=H
  replace H : (if ((⟨#[115,101,99,114,101,116]⟩ : ByteArray) ++ a0).size + t210.size ≤ 9223372036854775807 then ((impl_number.f k a2 1).bind fun t211 => (if (((⟨#[115,101,99,114,101,116]⟩ : ByteArray) ++ a0) ++ t210).size + t211.size ≤ 9223372036854775807 then ((impl_number.f k a3 1).bind fun t212 => (if ((((⟨#[115,101,99,114,101,116]⟩ : ByteArray) ++ a0) ++ t210) ++ t211).size + t212.size ≤ 9223372036854775807 then ((impl_hash.f (((((⟨#[115,101,99,114,101,116]⟩ : ByteArray) ++ a0) ++ t210) ++ t211) ++ t212)).bind fun t213 => (some t213)) else (none))) else (none))) else (none)) = some r:=H
  have A6:=qh4 A60
  clear A60
  by_cases c7 : ((⟨#[115,101,99,114,101,116]⟩ : ByteArray) ++ a0).size + t210.size ≤ 9223372036854775807
  ·
   rw [if_pos c7] at H
   have c7b0:=eq_true c7
   have c7b1 : decide (((⟨#[115,101,99,114,101,116]⟩ : ByteArray) ++ a0).size + t210.size ≤ 9223372036854775807) = true:=decide_eq_true c7
   try have c7b2 : (9223372036854775807 < ((⟨#[115,101,99,114,101,116]⟩ : ByteArray) ++ a0).size + t210.size) = False:=eq_false (Nat.not_lt.2 c7)
   (try (have c7b3:=c7;simp only [ByteArray.size_append] at c7b3;have c7b4:=eq_false (Nat.not_lt.2 c7b3)))
   (try (have c7b5 : (9223372036854775807 < 6 + a0.size + t210.size) = False:=eq_false (by have h_:=c7;simp only [ByteArray.size_append] at h_;have hl0_ : ((⟨#[115,101,99,114,101,116]⟩ : ByteArray)).size = 6:=rfl;omega)))
   replace H:=Option.bind_eq_some_iff.mp H
   obtain ⟨t211,A80,H⟩:=H
   replace H : (if (((⟨#[115,101,99,114,101,116]⟩ : ByteArray) ++ a0) ++ t210).size + t211.size ≤ 9223372036854775807 then ((impl_number.f k a3 1).bind fun t212 => (if ((((⟨#[115,101,99,114,101,116]⟩ : ByteArray) ++ a0) ++ t210) ++ t211).size + t212.size ≤ 9223372036854775807 then ((impl_hash.f (((((⟨#[115,101,99,114,101,116]⟩ : ByteArray) ++ a0) ++ t210) ++ t211) ++ t212)).bind fun t213 => (some t213)) else (none))) else (none)) = some r:=H
   have A8:=qh4 A80
   clear A80
   by_cases c9 : (((⟨#[115,101,99,114,101,116]⟩ : ByteArray) ++ a0) ++ t210).size + t211.size ≤ 9223372036854775807
   ·
    rw [if_pos c9] at H
    have c9b0:=eq_true c9
    have c9b1 : decide ((((⟨#[115,101,99,114,101,116]⟩ : ByteArray) ++ a0) ++ t210).size + t211.size ≤ 9223372036854775807) = true:=decide_eq_true c9
    try have c9b2 : (9223372036854775807 < (((⟨#[115,101,99,114,101,116]⟩ : ByteArray) ++ a0) ++ t210).size + t211.size) = False:=eq_false (Nat.not_lt.2 c9)
    (try (have c9b3:=c9;simp only [ByteArray.size_append] at c9b3;have c9b4:=eq_false (Nat.not_lt.2 c9b3)))
    (try (have c9b5 : (9223372036854775807 < 6 + a0.size + t210.size + t211.size) = False:=eq_false (by have h_:=c9;simp only [ByteArray.size_append] at h_;have hl0_ : ((⟨#[115,101,99,114,101,116]⟩ : ByteArray)).size = 6:=rfl;omega)))
    replace H:=Option.bind_eq_some_iff.mp H
    obtain ⟨t212,A100,H⟩:=H
    replace H : (if ((((⟨#[115,101,99,114,101,116]⟩ : ByteArray) ++ a0) ++ t210) ++ t211).size + t212.size ≤ 9223372036854775807 then ((impl_hash.f (((((⟨#[115,101,99,114,101,116]⟩ : ByteArray) ++ a0) ++ t210) ++ t211) ++ t212)).bind fun t213 => (some t213)) else (none)) = some r:=H
    have A10:=qh4 A100
    clear A100
    by_cases c11 : ((((⟨#[115,101,99,114,101,116]⟩ : ByteArray) ++ a0) ++ t210) ++ t211).size + t212.size ≤ 9223372036854775807
    ·
     rw [if_pos c11] at H
     have c11b0:=eq_true c11
     have c11b1 : decide (((((⟨#[115,101,99,114,101,116]⟩ : ByteArray) ++ a0) ++ t210) ++ t211).size + t212.size ≤ 9223372036854775807) = true:=decide_eq_true c11
     try have c11b2 : (9223372036854775807 < ((((⟨#[115,101,99,114,101,116]⟩ : ByteArray) ++ a0) ++ t210) ++ t211).size + t212.size) = False:=eq_false (Nat.not_lt.2 c11)
     (try (have c11b3:=c11;simp only [ByteArray.size_append] at c11b3;have c11b4:=eq_false (Nat.not_lt.2 c11b3)))
     (try (have c11b5 : (9223372036854775807 < 6 + a0.size + t210.size + t211.size + t212.size) = False:=eq_false (by have h_:=c11;simp only [ByteArray.size_append] at h_;have hl0_ : ((⟨#[115,101,99,114,101,116]⟩ : ByteArray)).size = 6:=rfl;omega)))
     replace H:=Option.bind_eq_some_iff.mp H
     obtain ⟨t213,A120,H⟩:=H
     replace H : (some t213) = some r:=H
     have A12:=qh4 A120
     clear A120
     obtain rfl:=Option.some.inj H
     go_enter Tryd.func74,Tryd.ntmps74
     go_wp2_with (first|((with_reducible refine gate_callee (f:=99) rfl ?_);refine goesL_ (some 12) rfl rfl Tryd.func99 (by kernel_rfl) rfl #[.int .i64 a1,.int .i64 1] rfl (by (try simp only [List.map_toArray,List.map_cons,List.map_nil]);first|done|rfl|(simp only [List.length_drop,List.length_take];rfl)) ?_;(with_reducible refine (impl_number.calls k a1 1 t210 _ A6.out).mono ?_);rintro e w13 ⟨rfl,hb⟩;refine ⟨_,rfl,?_⟩;have n0_:=qh4 (qi4 (by repeat (first|(with_reducible first|exact HB.out|apply qd4|apply qe4|apply qf4)|exact HB.out)) hb);clear HB;have HB:=n0_;clear n0_;(try clear hb);(try clear hb2);(try clear hk);(try clear hi))|((with_reducible refine gate_callee (f:=99) rfl ?_);refine goesL_ (some 15) rfl rfl Tryd.func99 (by kernel_rfl) rfl #[.int .i64 a2,.int .i64 1] rfl (by (try simp only [List.map_toArray,List.map_cons,List.map_nil]);first|done|rfl|(simp only [List.length_drop,List.length_take];rfl)) ?_;(with_reducible refine (impl_number.calls k a2 1 t211 _ A8.out).mono ?_);rintro e w14 ⟨rfl,hb⟩;refine ⟨_,rfl,?_⟩;have n0_:=qh4 (qi4 (by repeat (first|(with_reducible first|exact HB.out|apply qd4|apply qe4|apply qf4)|exact HB.out)) hb);clear HB;have HB:=n0_;clear n0_;(try clear hb);(try clear hb2);(try clear hk);(try clear hi))|((with_reducible refine gate_callee (f:=99) rfl ?_);refine goesL_ (some 18) rfl rfl Tryd.func99 (by kernel_rfl) rfl #[.int .i64 a3,.int .i64 1] rfl (by (try simp only [List.map_toArray,List.map_cons,List.map_nil]);first|done|rfl|(simp only [List.length_drop,List.length_take];rfl)) ?_;(with_reducible refine (impl_number.calls k a3 1 t212 _ A10.out).mono ?_);rintro e w15 ⟨rfl,hb⟩;refine ⟨_,rfl,?_⟩;have n0_:=qh4 (qi4 (by repeat (first|(with_reducible first|exact HB.out|apply qd4|apply qe4|apply qf4)|exact HB.out)) hb);clear HB;have HB:=n0_;clear n0_;(try clear hb);(try clear hb2);(try clear hk);(try clear hi))|((with_reducible refine gate_callee (f:=50) rfl ?_);refine goesL_ (some 20) rfl rfl Tryd.func50 (by kernel_rfl) rfl #[.string (((((⟨#[115,101,99,114,101,116]⟩ : ByteArray) ++ a0) ++ t210) ++ t211) ++ t212)] rfl (by (try simp only [List.map_toArray,List.map_cons,List.map_nil]);first|done|rfl|(simp only [List.length_drop,List.length_take];rfl)) ?_;(with_reducible refine (impl_hash.calls (((((⟨#[115,101,99,114,101,116]⟩ : ByteArray) ++ a0) ++ t210) ++ t211) ++ t212) t213 _ ?side1 A12.out).mono ?_);(case side1 => exact Go.Proofs.YtmkaknegjahjaaaDoor.Sha.glob_below hG_ (by repeat (first|(with_reducible first|exact HB.out|apply qd4|apply qe4|apply qf4)|exact HB.out)));rintro e w16 ⟨rfl,hb⟩;refine ⟨_,rfl,?_⟩;have n0_:=qh4 (qi4 (by repeat (first|(with_reducible first|exact HB.out|apply qd4|apply qe4|apply qf4)|exact HB.out)) hb);clear HB;have HB:=n0_;clear n0_;(try clear hb);(try clear hb2);(try clear hk);(try clear hi)))
     go_ret
     exact ⟨by first|rfl|(simp [errW_none,errW_some] <;> rfl)|(simp [*,errW_none,errW_some] <;> rfl),by repeat (first|(with_reducible first|exact HB.out|apply qd4|apply qe4|apply qf4)|exact HB.out)⟩
    ·
     rw [if_neg c11] at H
     exact absurd H (by simp)
   ·
    rw [if_neg c9] at H
    exact absurd H (by simp)
  ·
   rw [if_neg c7] at H
   exact absurd H (by simp)
 ·
  rw [if_neg c5] at H
  exact absurd H (by simp)

/-! ### impl_oneTimeKey: function 65 -/
def impl_oneTimeKey.l0 : Nat → ByteArray → Int → ByteArray → Int → Option (ByteArray)
 | 0,_,_,_,_ => none
 | k + 1,x0,x1,x5,x7 => if x7 < 32 then ((impl_secret.f k x0 x1 x7 0).bind fun t215 => ((impl_hash.f t215).bind fun t216 => ((impl_secret.f k x0 x1 x7 1).bind fun t217 => ((impl_hash.f t217).bind fun t218 => (if t216.size + t218.size ≤ 9223372036854775807 then (if x5.size + (t216 ++ t218).size ≤ 9223372036854775807 then (impl_oneTimeKey.l0 k x0 x1 (x5 ++ (t216 ++ t218)) (wrap64 (x7 + 1))) else (none)) else (none)))))) else ((impl_hash.f x5).bind fun t214 => (some t214))
def impl_oneTimeKey.f (k : Nat) (a0 : ByteArray) (a1 : Int) : Option (ByteArray):=impl_oneTimeKey.l0 k a0 a1 (⟨#[107,101,121]⟩ : ByteArray) 0
theorem impl_oneTimeKey.mono_l : ∀ k,(∀ y0 y1 y2 y3,LeO (impl_oneTimeKey.l0 k y0 y1 y2 y3) (impl_oneTimeKey.l0 (k + 1) y0 y1 y2 y3))
 | 0 => fun _ _ _ _ r h => by simp [impl_oneTimeKey.l0] at h
 | k + 1 => by
  have ih0:=impl_oneTimeKey.mono_l k
  ·
   intro y0 y1 y2 y3
   unfold impl_oneTimeKey.l0
   repeat' first
   | (with_reducible exact ih0 _ _ _ _)
   | (with_reducible exact impl_secret.mono _ _ _ _ _)
   | (with_reducible exact LeO.refl _)
   | (with_reducible exact LeO.none _)
   | (with_reducible refine LeO.ite ?_ ?_)
   | (with_reducible refine LeO.bind ?_ (fun _ => ?_))
   | exact ih0 _ _ _ _
   | exact impl_secret.mono _ _ _ _ _
   | exact LeO.none _
   | refine LeO.ite ?_ ?_
   | refine LeO.bind ?_ (fun _ => ?_)
theorem impl_oneTimeKey.mono : ∀ a0 a1 k,LeO (impl_oneTimeKey.f k a0 a1) (impl_oneTimeKey.f (k + 1) a0 a1):=by
 intro a0 a1 k
 have ih0:=impl_oneTimeKey.mono_l k
 unfold impl_oneTimeKey.f
 repeat' first
   | (with_reducible exact ih0 _ _ _ _)
   | (with_reducible exact impl_secret.mono _ _ _ _ _)
   | (with_reducible exact LeO.refl _)
   | (with_reducible exact LeO.none _)
   | (with_reducible refine LeO.ite ?_ ?_)
   | (with_reducible refine LeO.bind ?_ (fun _ => ?_))
   | exact ih0 _ _ _ _
   | exact impl_secret.mono _ _ _ _ _
   | exact LeO.none _
   | refine LeO.ite ?_ ?_
   | refine LeO.bind ?_ (fun _ => ?_)
set_option maxHeartbeats 8000000 in
set_option maxRecDepth 100000 in
theorem impl_oneTimeKey.calls (k : Nat) (a0 : ByteArray) (a1 : Int) (r : ByteArray) (w : World) (hG_ : Go.Proofs.YtmkaknegjahjaaaDoor.Sha.GlobA w) (h : impl_oneTimeKey.f k a0 a1 = some r) :
  Calls Tryd.prog 65 #[.string a0,.int .i64 a1] w fun e w' => e = .returned (.string r) ∧ Below w.heap.size w w':=by
 have HB:=qh4 (Below.refl w.heap.size w)
 have H : (impl_oneTimeKey.l0 k a0 a1 (⟨#[107,101,121]⟩ : ByteArray) 0) = some r:=h
 clear h
 have H':=qh4 H
 clear H
 go_enter Tryd.func65,Tryd.ntmps65
 go_wp2
 go_loopg [5,7] k (fun kq v5 v7 w' => ∃ (x5_1 : ByteArray) (x7_1 : Int),v5 = .string x5_1 ∧ v7 = .int .i64 x7_1 ∧ Aside0 (impl_oneTimeKey.l0 kq a0 a1 x5_1 x7_1 = some r) ∧ Aside0 (kq ≤ k) ∧ Aside0 (Below w.heap.size w w'))
 case atStart => exact ⟨((⟨#[107,101,121]⟩ : ByteArray)),(0),(by first|rfl|(simp;done)|(simp [*];done)),(by first|rfl|(simp;done)|(simp [*];done)),H',⟨Nat.le_refl _⟩,⟨by repeat (first|(with_reducible first|exact HB.out|apply qd4|apply qe4|apply qf4)|exact HB.out)⟩⟩
 case round =>
  clear H'
  try clear p2
  obtain ⟨x5_1,x7_1,rfl,rfl,HA,HK1,HB⟩:=hrel
  cases gk with
  | zero => exact absurd HA.out (by simp [impl_oneTimeKey.l0])
  | succ k1 =>
   have H:=HA.out
   clear HA
   simp only [impl_oneTimeKey.l0] at H
   by_cases c3 : x7_1 < 32
   ·
    rw [if_pos c3] at H
    have c3b0 : decide (x7_1 < 32) = true:=decide_eq_true c3
    clear c3
    replace H:=Option.bind_eq_some_iff.mp H
    obtain ⟨t215,A40,H⟩:=H
    replace H : ((impl_hash.f t215).bind fun t216 => ((impl_secret.f k1 a0 a1 x7_1 1).bind fun t217 => ((impl_hash.f t217).bind fun t218 => (if t216.size + t218.size ≤ 9223372036854775807 then (if x5_1.size + (t216 ++ t218).size ≤ 9223372036854775807 then (impl_oneTimeKey.l0 k1 a0 a1 (x5_1 ++ (t216 ++ t218)) (wrap64 (x7_1 + 1))) else (none)) else (none))))) = some r:=H
    have A4:=qh4 A40
    clear A40
    replace H:=Option.bind_eq_some_iff.mp H
    obtain ⟨t216,A50,H⟩:=H
    replace H : ((impl_secret.f k1 a0 a1 x7_1 1).bind fun t217 => ((impl_hash.f t217).bind fun t218 => (if t216.size + t218.size ≤ 9223372036854775807 then (if x5_1.size + (t216 ++ t218).size ≤ 9223372036854775807 then (impl_oneTimeKey.l0 k1 a0 a1 (x5_1 ++ (t216 ++ t218)) (wrap64 (x7_1 + 1))) else (none)) else (none)))) = some r:=H
    have A5:=qh4 A50
    clear A50
    replace H:=Option.bind_eq_some_iff.mp H
    obtain ⟨t217,A60,H⟩:=H
    replace H : ((impl_hash.f t217).bind fun t218 => (if t216.size + t218.size ≤ 9223372036854775807 then (if x5_1.size + (t216 ++ t218).size ≤ 9223372036854775807 then (impl_oneTimeKey.l0 k1 a0 a1 (x5_1 ++ (t216 ++ t218)) (wrap64 (x7_1 + 1))) else (none)) else (none))) = some r:=H
    have A6:=qh4 A60
    clear A60
    replace H:=Option.bind_eq_some_iff.mp H
    obtain ⟨t218,A70,H⟩:=H
    replace H : (if t216.size + t218.size ≤ 9223372036854775807 then (if x5_1.size + (t216 ++ t218).size ≤ 9223372036854775807 then (impl_oneTimeKey.l0 k1 a0 a1 (x5_1 ++ (t216 ++ t218)) (wrap64 (x7_1 + 1))) else (none)) else (none)) = some r:=H
    have A7:=qh4 A70
    clear A70
    by_cases c8 : t216.size + t218.size ≤ 9223372036854775807
    ·
     rw [if_pos c8] at H
     have c8b0:=eq_true c8
     have c8b1 : decide (t216.size + t218.size ≤ 9223372036854775807) = true:=decide_eq_true c8
     try have c8b2 : (9223372036854775807 < t216.size + t218.size) = False:=eq_false (Nat.not_lt.2 c8)
     by_cases c9 : x5_1.size + (t216 ++ t218).size ≤ 9223372036854775807
     ·
      rw [if_pos c9] at H
      have c9b0:=eq_true c9
      have c9b1 : decide (x5_1.size + (t216 ++ t218).size ≤ 9223372036854775807) = true:=decide_eq_true c9
      try have c9b2 : (9223372036854775807 < x5_1.size + (t216 ++ t218).size) = False:=eq_false (Nat.not_lt.2 c9)
      (try (have c9b3:=c9;simp only [ByteArray.size_append] at c9b3;have c9b4:=eq_false (Nat.not_lt.2 c9b3)))
      have H':=qh4 H
      clear H
      go_wp2_with (first|((with_reducible refine gate_callee (f:=74) rfl ?_);refine goesL_ (some 14) rfl rfl Tryd.func74 (by kernel_rfl) rfl #[.string a0,.int .i64 a1,.int .i64 x7_1,.int .i64 0] rfl (by (try simp only [List.map_toArray,List.map_cons,List.map_nil]);first|done|rfl|(simp only [List.length_drop,List.length_take];rfl)) ?_;(with_reducible refine (impl_secret.calls k1 a0 a1 x7_1 0 t215 _ ?side1 A4.out).mono ?_);(case side1 => exact Go.Proofs.YtmkaknegjahjaaaDoor.Sha.glob_below hG_ (by repeat (first|(with_reducible first|exact HB.out|apply qd4|apply qe4|apply qf4)|exact HB.out)));rintro e w10 ⟨rfl,hb⟩;refine ⟨_,rfl,?_⟩;have n0_:=qh4 (qi4 (by repeat (first|(with_reducible first|exact HB.out|apply qd4|apply qe4|apply qf4)|exact HB.out)) hb);clear HB;have HB:=n0_;clear n0_;(try clear hb);(try clear hb2);(try clear hk);(try clear hi))|((with_reducible refine gate_callee (f:=50) rfl ?_);refine goesL_ (some 15) rfl rfl Tryd.func50 (by kernel_rfl) rfl #[.string t215] rfl (by (try simp only [List.map_toArray,List.map_cons,List.map_nil]);first|done|rfl|(simp only [List.length_drop,List.length_take];rfl)) ?_;(with_reducible refine (impl_hash.calls t215 t216 _ ?side1 A5.out).mono ?_);(case side1 => exact Go.Proofs.YtmkaknegjahjaaaDoor.Sha.glob_below hG_ (by repeat (first|(with_reducible first|exact HB.out|apply qd4|apply qe4|apply qf4)|exact HB.out)));rintro e w11 ⟨rfl,hb⟩;refine ⟨_,rfl,?_⟩;have n0_:=qh4 (qi4 (by repeat (first|(with_reducible first|exact HB.out|apply qd4|apply qe4|apply qf4)|exact HB.out)) hb);clear HB;have HB:=n0_;clear n0_;(try clear hb);(try clear hb2);(try clear hk);(try clear hi))|((with_reducible refine gate_callee (f:=74) rfl ?_);refine goesL_ (some 19) rfl rfl Tryd.func74 (by kernel_rfl) rfl #[.string a0,.int .i64 a1,.int .i64 x7_1,.int .i64 1] rfl (by (try simp only [List.map_toArray,List.map_cons,List.map_nil]);first|done|rfl|(simp only [List.length_drop,List.length_take];rfl)) ?_;(with_reducible refine (impl_secret.calls k1 a0 a1 x7_1 1 t217 _ ?side1 A6.out).mono ?_);(case side1 => exact Go.Proofs.YtmkaknegjahjaaaDoor.Sha.glob_below hG_ (by repeat (first|(with_reducible first|exact HB.out|apply qd4|apply qe4|apply qf4)|exact HB.out)));rintro e w12 ⟨rfl,hb⟩;refine ⟨_,rfl,?_⟩;have n0_:=qh4 (qi4 (by repeat (first|(with_reducible first|exact HB.out|apply qd4|apply qe4|apply qf4)|exact HB.out)) hb);clear HB;have HB:=n0_;clear n0_;(try clear hb);(try clear hb2);(try clear hk);(try clear hi))|((with_reducible refine gate_callee (f:=50) rfl ?_);refine goesL_ (some 20) rfl rfl Tryd.func50 (by kernel_rfl) rfl #[.string t217] rfl (by (try simp only [List.map_toArray,List.map_cons,List.map_nil]);first|done|rfl|(simp only [List.length_drop,List.length_take];rfl)) ?_;(with_reducible refine (impl_hash.calls t217 t218 _ ?side1 A7.out).mono ?_);(case side1 => exact Go.Proofs.YtmkaknegjahjaaaDoor.Sha.glob_below hG_ (by repeat (first|(with_reducible first|exact HB.out|apply qd4|apply qe4|apply qf4)|exact HB.out)));rintro e w13 ⟨rfl,hb⟩;refine ⟨_,rfl,?_⟩;have n0_:=qh4 (qi4 (by repeat (first|(with_reducible first|exact HB.out|apply qd4|apply qe4|apply qf4)|exact HB.out)) hb);clear HB;have HB:=n0_;clear n0_;(try clear hb);(try clear hb2);(try clear hk);(try clear hi)))
      go_roundg k1
      case measure => have:=HK1.out;omega
      case rel => exact ⟨(x5_1 ++ (t216 ++ t218)),(wrap64 (x7_1 + 1)),(by first|rfl|(simp;done)|(simp [*];done)),(by first|rfl|(simp;done)|(simp [*];done)),H',⟨by have:=HK1.out;omega⟩,⟨by repeat (first|(with_reducible first|exact HB.out|apply qd4|apply qe4|apply qf4)|exact HB.out)⟩⟩
     ·
      rw [if_neg c9] at H
      exact absurd H (by simp)
    ·
     rw [if_neg c8] at H
     exact absurd H (by simp)
   ·
    rw [if_neg c3] at H
    have c3b0 : decide (x7_1 < 32) = false:=decide_eq_false c3
    clear c3
    replace H:=Option.bind_eq_some_iff.mp H
    obtain ⟨t214,A140,H⟩:=H
    replace H : (some t214) = some r:=H
    have A14:=qh4 A140
    clear A140
    obtain rfl:=Option.some.inj H
    go_wp2_with (first|((with_reducible refine gate_callee (f:=50) rfl ?_);refine goesL_ (some 25) rfl rfl Tryd.func50 (by kernel_rfl) rfl #[.string x5_1] rfl (by (try simp only [List.map_toArray,List.map_cons,List.map_nil]);first|done|rfl|(simp only [List.length_drop,List.length_take];rfl)) ?_;(with_reducible refine (impl_hash.calls x5_1 t214 _ ?side1 A14.out).mono ?_);(case side1 => exact Go.Proofs.YtmkaknegjahjaaaDoor.Sha.glob_below hG_ (by repeat (first|(with_reducible first|exact HB.out|apply qd4|apply qe4|apply qf4)|exact HB.out)));rintro e w15 ⟨rfl,hb⟩;refine ⟨_,rfl,?_⟩;have n0_:=qh4 (qi4 (by repeat (first|(with_reducible first|exact HB.out|apply qd4|apply qe4|apply qf4)|exact HB.out)) hb);clear HB;have HB:=n0_;clear n0_;(try clear hb);(try clear hb2);(try clear hk);(try clear hi)))
    go_ret
    exact ⟨by first|rfl|(simp [errW_none,errW_some] <;> rfl)|(simp [*,errW_none,errW_some] <;> rfl),by repeat (first|(with_reducible first|exact HB.out|apply qd4|apply qe4|apply qf4)|exact HB.out)⟩

/-! ### impl_keys: function 106 -/
def impl_keys.l0 : Nat → ByteArray → List ByteArray → Int → Option (List ByteArray)
 | 0,_,_,_ => none
 | k + 1,x0,x3,x5 => if x5 < 8 then ((impl_oneTimeKey.f k x0 x5).bind fun t219 => (if x3.length < 8796093022208 then (impl_keys.l0 k x0 (x3 ++ [t219]) (wrap64 (x5 + 1))) else (none))) else (some x3)
def impl_keys.f (k : Nat) (a0 : ByteArray) : Option (List ByteArray):=impl_keys.l0 k a0 ([] : List ByteArray) 0
theorem impl_keys.mono_l : ∀ k,(∀ y0 y1 y2,LeO (impl_keys.l0 k y0 y1 y2) (impl_keys.l0 (k + 1) y0 y1 y2))
 | 0 => fun _ _ _ r h => by simp [impl_keys.l0] at h
 | k + 1 => by
  have ih0:=impl_keys.mono_l k
  ·
   intro y0 y1 y2
   unfold impl_keys.l0
   repeat' first
   | (with_reducible exact ih0 _ _ _)
   | (with_reducible exact impl_oneTimeKey.mono _ _ _)
   | (with_reducible exact LeO.refl _)
   | (with_reducible exact LeO.none _)
   | (with_reducible refine LeO.ite ?_ ?_)
   | (with_reducible refine LeO.bind ?_ (fun _ => ?_))
   | exact ih0 _ _ _
   | exact impl_oneTimeKey.mono _ _ _
   | exact LeO.none _
   | refine LeO.ite ?_ ?_
   | refine LeO.bind ?_ (fun _ => ?_)
theorem impl_keys.mono : ∀ a0 k,LeO (impl_keys.f k a0) (impl_keys.f (k + 1) a0):=by
 intro a0 k
 have ih0:=impl_keys.mono_l k
 unfold impl_keys.f
 repeat' first
   | (with_reducible exact ih0 _ _ _)
   | (with_reducible exact impl_oneTimeKey.mono _ _ _)
   | (with_reducible exact LeO.refl _)
   | (with_reducible exact LeO.none _)
   | (with_reducible refine LeO.ite ?_ ?_)
   | (with_reducible refine LeO.bind ?_ (fun _ => ?_))
   | exact ih0 _ _ _
   | exact impl_oneTimeKey.mono _ _ _
   | exact LeO.none _
   | refine LeO.ite ?_ ?_
   | refine LeO.bind ?_ (fun _ => ?_)
set_option maxHeartbeats 8000000 in
set_option maxRecDepth 100000 in
theorem impl_keys.calls (k : Nat) (a0 : ByteArray) (r : List ByteArray) (w : World) (hG_ : Go.Proofs.YtmkaknegjahjaaaDoor.Sha.GlobA w) (h : impl_keys.f k a0 = some r) :
  Calls Tryd.prog 106 #[.string a0] w fun e w' => ∃ v0_ : Value,e = .returned (v0_) ∧ Kd.R Kd.string 9 w' w.heap.size (fun _ => True) v0_ r ∧ Below w.heap.size w w':=by
 have HB:=qh4 (Below.refl w.heap.size w)
 have H : (impl_keys.l0 k a0 ([] : List ByteArray) 0) = some r:=h
 clear h
 have H':=qh4 H
 clear H
 go_enter Tryd.func106,Tryd.ntmps106
 go_wp2
 go_loopg [3,5] k (fun kq v3 v5 w' => ∃ (x3_1 : List ByteArray) (x5_1 : Int),v5 = .int .i64 x5_1 ∧ Aside0 (impl_keys.l0 kq a0 x3_1 x5_1 = some r) ∧ Aside0 (kq ≤ k) ∧ Aside0 (Kd.R Kd.string 9 w' w.heap.size (fun _ => True) v3 x3_1) ∧ Aside0 (Below w.heap.size w w'))
 case atStart => exact ⟨(([] : List ByteArray)),(0),(by first|rfl|(simp;done)|(simp [*];done)),H',⟨Nat.le_refl _⟩,⟨by first|exact Kd.R_nil _ _ _ _ _|exact Kd.N_nil _ _ _ _ _|exact Kd.V_nil _ _ _ _ _|exact Kd.Q_nil _ _ _ _ _|exact Kd.S_nil _ _ _ _ _⟩,⟨by repeat (first|(with_reducible first|exact HB.out|apply qd4|apply qe4|apply qf4)|exact HB.out)⟩⟩
 case round =>
  clear H'
  try clear c1
  obtain ⟨x3_1,x5_1,rfl,HA,HK1,HO_3,HB⟩:=hrel
  cases gk with
  | zero => exact absurd HA.out (by simp [impl_keys.l0])
  | succ k1 =>
   have H:=HA.out
   clear HA
   simp only [impl_keys.l0] at H
   by_cases c2 : x5_1 < 8
   ·
    rw [if_pos c2] at H
    have c2b0 : decide (x5_1 < 8) = true:=decide_eq_true c2
    clear c2
    replace H:=Option.bind_eq_some_iff.mp H
    obtain ⟨t219,A30,H⟩:=H
    replace H : (if x3_1.length < 8796093022208 then (impl_keys.l0 k1 a0 (x3_1 ++ [t219]) (wrap64 (x5_1 + 1))) else (none)) = some r:=H
    have A3:=qh4 A30
    clear A30
    by_cases c4 : x3_1.length < 8796093022208
    ·
     rw [if_pos c4] at H
     have LMc4:=qh4 c4
     clear c4
     obtain ⟨y220,hy220⟩ : ∃ y_ : List ByteArray,y_ = (x3_1 ++ [t219]):=⟨_,rfl⟩
     replace H : (impl_keys.l0 k1 a0 y220 (wrap64 (x5_1 + 1))) = some r:=by first|(rw [hy220];with_reducible exact H)|(have H2_:=(Option.bind_some _ _).symm.trans H;rw [hy220];with_reducible exact H2_)|(have H2_:=(Option.bind_some _ _).symm.trans H;with_reducible exact H2_)|with_reducible exact H|(rw [hy220];exact H)|exact H
     have Ny220:=qh4 hy220
     clear hy220
     have H':=qh4 H
     clear H
     go_wp2_with (first|((with_reducible refine gate_callee (f:=65) rfl ?_);refine goesL_ (some 11) rfl rfl Tryd.func65 (by kernel_rfl) rfl #[.string a0,.int .i64 x5_1] rfl (by (try simp only [List.map_toArray,List.map_cons,List.map_nil]);first|done|rfl|(simp only [List.length_drop,List.length_take];rfl)) ?_;(with_reducible refine (impl_oneTimeKey.calls k1 a0 x5_1 t219 _ ?side1 A3.out).mono ?_);(case side1 => exact Go.Proofs.YtmkaknegjahjaaaDoor.Sha.glob_below hG_ (by repeat (first|(with_reducible first|exact HB.out|apply qd4|apply qe4|apply qf4)|exact HB.out)));rintro e w5 ⟨rfl,hb⟩;refine ⟨_,rfl,?_⟩;have n0_:=qh4 (Kd.R_below (by (with_reducible repeat (first|apply Kd.R_alloc|apply Kd.R_drewN|apply Kd.R_drew));exact HO_3.out) hb);have n1_:=qh4 (qi4 (by repeat (first|(with_reducible first|exact HB.out|apply qd4|apply qe4|apply qf4)|exact HB.out)) hb);clear HO_3;clear HB;have HO_3:=n0_;have HB:=n1_;clear n0_ n1_;(try clear hb);(try clear hb2);(try clear hk);(try clear hi))|((with_reducible refine gate_builtin (b:=.append) (xs:=#[.tmp 8,.tmp 12]) rfl ?_);at_builtin;refine Kd.R_append Kd.string (w0:=w) w.heap.size rfl (.tmp 8) (.tmp 12) 31 9 (.string ⟨#[]⟩) 16 rfl Tryd.underlying31 info9 rfl (by decide) (by omega) u3 x3_1 t219 [.string t219] (fun _ => True) (fun _ => False) rfl rfl ?aP (fun _ hk => hk.elim) ?aF ?aO ?aB ?aS ?aL ?_;(case aP => exact rfl);(case aB => exact (by repeat (first|(with_reducible first|exact HB.out|apply qd4|apply qe4|apply qf4)|exact HB.out)));(case aF => exact (fun _ _ => trivial));(case aO => exact (by (with_reducible repeat (first|apply Kd.R_alloc|apply Kd.R_drewN|apply Kd.R_drew));exact HO_3.out));(case aS => exact (qj4 (by repeat (first|(with_reducible first|exact HB.out|apply qd4|apply qe4|apply qf4)|exact HB.out))));(case aL => have:=LMc4.out;omega);intro v221 w6 ho hb hg hat;rw [← Ny220.out] at ho;have n0_:=qh4 (hb);have n1_:=qh4 (ho);clear HB;clear HO_3;have HB:=n0_;have HO222:=n1_;clear n0_ n1_;clear ho hb hg hat))
     go_roundg k1
     case measure => have:=HK1.out;omega
     case rel => exact ⟨(y220),(wrap64 (x5_1 + 1)),(by first|rfl|(simp;done)|(simp [*];done)),H',⟨by have:=HK1.out;omega⟩,⟨by (with_reducible repeat (first|apply Kd.R_alloc|apply Kd.R_drewN|apply Kd.R_drew));exact HO222.out⟩,⟨by repeat (first|(with_reducible first|exact HB.out|apply qd4|apply qe4|apply qf4)|exact HB.out)⟩⟩
    ·
     rw [if_neg c4] at H
     exact absurd H (by simp)
   ·
    rw [if_neg c2] at H
    have c2b0 : decide (x5_1 < 8) = false:=decide_eq_false c2
    clear c2
    obtain rfl:=Option.some.inj H
    go_wp2
    go_ret
    exact ⟨_,by first|rfl|(simp [errW_none,errW_some] <;> rfl)|(simp [*,errW_none,errW_some] <;> rfl),by (with_reducible repeat (first|apply Kd.R_alloc|apply Kd.R_drewN|apply Kd.R_drew));exact HO_3.out,by repeat (first|(with_reducible first|exact HB.out|apply qd4|apply qe4|apply qf4)|exact HB.out)⟩

end Go.Proofs.YtmkaknegjahjaaaDoor.PFnLamport
