-- laid by this session's program myprint.py over the kit's printer
-- squeezed
-- aliased
import Derived.Test.YtjkanhjapddhnaaDoorPFnExactTableDigestx0
import Derived.Test.YtjkanhjapddhnaaDoorPFnExactTableDigestx2
import Derived.Test.YtjkanhjapddhnaaDoorPFnExactTableDigestx4
namespace Go.Proofs.YtjkanhjapddhnaaDoor.PFnExactTableDigest
open Go.RowKit Go.Proofs.YtjkanhjapddhnaaDoorV.PrintWords Go.Proofs.YtjkanhjapddhnaaDoorV.PrintLast Go.Proofs.YtjkanhjapddhnaaDoorV.PrintMore
attribute [local go_sem] max2_int min2_int max_two min_two max_three min_three max_four min_four u8_wm u32_wm   -- for this text's walks alone
set_option linter.unusedVariables false
set_option linter.unusedSimpArgs false

/-! ### spec_TableDigest: function 5 -/
theorem qa5 : type_of% @blk_drewN:=@blk_drewN
theorem qb5 : type_of% @blk_drew:=@blk_drew
theorem qc5 : type_of% @blk_alloc:=@blk_alloc
theorem qd5 : type_of% @below_alloc:=@below_alloc
theorem qe5 : type_of% @pw_below_drewN:=@pw_below_drewN
theorem qf5 : type_of% @below_drew1:=@below_drew1
theorem qg5 : type_of% @below_set:=@below_set
theorem qh5 : type_of% @Aside0.mk:=@Aside0.mk
theorem qi5 : type_of% @blk_below:=@blk_below
theorem qj5 : type_of% @below_step:=@below_step
theorem qk5 : type_of% @below_size:=@below_size
def spec_TableDigest.f (k : Nat) (a0_0 : Int) (a0_1 : Int) (l0_2 : List (S55)) (l0_3 : List (S62)) : Option (ByteArray × Int):=(spec_TableOK.f a0_0 a0_1 l0_2 l0_3).bind fun t235 => (if t235 = true then ((some (([116,97,98,108,101] : List Int) : List Int)).bind fun y236 => ((spec_l05Bytes.f k a0_0 a0_1 l0_2 l0_3).bind fun t239 => (if y236.length + t239.length < 140737488355328 then ((spec_l01Hash.f (y236 ++ t239)).bind fun t245 => (some (t245,0))) else (none)))) else (some ((⟨#[]⟩ : ByteArray),1)))
set_option maxHeartbeats 8000000 in
set_option maxRecDepth 100000 in
theorem spec_TableDigest.calls (k : Nat) (a0_0 : Int) (a0_1 : Int) (A0_2 : Option Addr) (c0_2 : Nat) (l0_2 : List (S55)) (A0_3 : Option Addr) (c0_3 : Nat) (l0_3 : List (S62)) (r1 : ByteArray) (r2 : Int) (w : World) (hr0_2 : Kd.C k55 w A0_2 l0_2.length l0_2) (hc0_2 : l0_2.length ≤ c0_2) (hr0_3 : Kd.C k62 w A0_3 l0_3.length l0_3) (hc0_3 : l0_3.length ≤ c0_3) (h : spec_TableDigest.f k a0_0 a0_1 l0_2 l0_3 = some (r1,r2)) :
  Calls Tryd.prog 5 #[.agg #[.int .i64 a0_0,.int .i64 a0_1,.slice A0_2 l0_2.length c0_2,.slice A0_3 l0_3.length c0_3]] w fun e w' => e = .returned (.tuple #[.string r1,.int .i64 r2]) ∧ Below w.heap.size w w':=by
 have hu32:=Tryd.underlying32
 have HR0_2:=qh5 hr0_2
 have HC0_2:=qh5 hc0_2
 clear hr0_2 hc0_2
 have HR0_3:=qh5 hr0_3
 have HC0_3:=qh5 hc0_3
 clear hr0_3 hc0_3
 have HB:=qh5 (Below.refl w.heap.size w)
 have H : ((spec_TableOK.f a0_0 a0_1 l0_2 l0_3).bind fun t235 => (if t235 = true then ((some (([116,97,98,108,101] : List Int) : List Int)).bind fun y236 => ((spec_l05Bytes.f k a0_0 a0_1 l0_2 l0_3).bind fun t239 => (if y236.length + t239.length < 140737488355328 then ((spec_l01Hash.f (y236 ++ t239)).bind fun t245 => (some (t245,0))) else (none)))) else (some ((⟨#[]⟩ : ByteArray),1)))) = some (r1,r2):=h
 clear h
 replace H:=Option.bind_eq_some_iff.mp H
 obtain ⟨t235,A20,H⟩:=H
 replace H : (if t235 = true then ((some (([116,97,98,108,101] : List Int) : List Int)).bind fun y236 => ((spec_l05Bytes.f k a0_0 a0_1 l0_2 l0_3).bind fun t239 => (if y236.length + t239.length < 140737488355328 then ((spec_l01Hash.f (y236 ++ t239)).bind fun t245 => (some (t245,0))) else (none)))) else (some ((⟨#[]⟩ : ByteArray),1))) = some (r1,r2):=H
 have A2:=qh5 A20
 clear A20
 by_cases c3 : t235 = true
 ·
  subst c3
  have H1 : ((some (([116,97,98,108,101] : List Int) : List Int)).bind fun y236 => ((spec_l05Bytes.f k a0_0 a0_1 l0_2 l0_3).bind fun t239 => (if y236.length + t239.length < 140737488355328 then ((spec_l01Hash.f (y236 ++ t239)).bind fun t245 => (some (t245,0))) else (none)))) = some (r1,r2):=by rw [if_pos rfl] at H;exact H
  clear H
  have H:=H1
  clear H1
  obtain ⟨y236,hy236⟩ : ∃ y_ : List Int,y_ = (([116,97,98,108,101] : List Int)):=⟨_,rfl⟩
  replace H : ((spec_l05Bytes.f k a0_0 a0_1 l0_2 l0_3).bind fun t239 => (if y236.length + t239.length < 140737488355328 then ((spec_l01Hash.f (y236 ++ t239)).bind fun t245 => (some (t245,0))) else (none))) = some (r1,r2):=by first|(rw [hy236];with_reducible exact H)|(have H2_:=(Option.bind_some _ _).symm.trans H;rw [hy236];with_reducible exact H2_)|(have H2_:=(Option.bind_some _ _).symm.trans H;with_reducible exact H2_)|with_reducible exact H|(rw [hy236];exact H)|exact H
  have Ny236:=qh5 hy236
  clear hy236
  replace H:=Option.bind_eq_some_iff.mp H
  obtain ⟨t239,A40,H⟩:=H
  replace H : (if y236.length + t239.length < 140737488355328 then ((spec_l01Hash.f (y236 ++ t239)).bind fun t245 => (some (t245,0))) else (none)) = some (r1,r2):=H
  have A4:=qh5 A40
  clear A40
  by_cases c5 : y236.length + t239.length < 140737488355328
  ·
   rw [if_pos c5] at H
   have LMc5:=qh5 c5
   clear c5
   obtain ⟨y242,hy242⟩ : ∃ y_ : List Int,y_ = (y236 ++ t239):=⟨_,rfl⟩
   replace H : ((spec_l01Hash.f y242).bind fun t245 => (some (t245,0))) = some (r1,r2):=by first|(rw [hy242];with_reducible exact H)|(have H2_:=(Option.bind_some _ _).symm.trans H;rw [hy242];with_reducible exact H2_)|(have H2_:=(Option.bind_some _ _).symm.trans H;with_reducible exact H2_)|with_reducible exact H|(rw [hy242];exact H)|exact H
   have Ny242:=qh5 hy242
   clear hy242
   replace H:=Option.bind_eq_some_iff.mp H
   obtain ⟨t245,A60,H⟩:=H
   replace H : (some (t245,0)) = some (r1,r2):=H
   have A6:=qh5 A60
   clear A60
   simp only [Option.some.injEq,Prod.mk.injEq] at H
   obtain ⟨rfl,rfl⟩:=H
   go_enter Tryd.func5,Tryd.ntmps5
   go_wp2_with (first|((with_reducible refine gate_dst (N:=1) rfl ?_);refine box_event ?hg (N:=1) ?hd (cs:=#[.int .i64 a0_0,.int .i64 a0_1,.slice A0_2 l0_2.length c0_2,.slice A0_3 l0_3.length c0_3]) (t:=32) ?hr ?_;(case hd => rfl);(case hg => rfl);(case hr => first|(go_simp;done)|(go_simp;rfl));intro gb234 hg w7 hbox hb;have n0_:=qh5 (qj5 (by repeat (first|(with_reducible first|exact HB.out|apply qd5|apply qe5|apply qf5)|exact HB.out)) hb);have n1_:=qh5 (hbox);have n2_:=qh5 ((by rw [hg];exact (qk5 (by repeat (first|(with_reducible first|exact HB.out|apply qd5|apply qe5|apply qf5)|exact HB.out))) : w.heap.size ≤ gb234));have n3_:=qh5 ((by rw [hg];exact (qk5 (by repeat (first|(with_reducible first|exact HB.out|apply qd5|apply qe5|apply qf5)|exact HB.out))) : w.heap.size ≤ gb234));clear HB;have HB:=n0_;have BK234:=n1_;have GW234:=n2_;have GE234:=n3_;clear n0_ n1_ n2_ n3_;clear hb hbox hg;have hcz8_0 : w7.cell? ⟨gb234,0,none⟩ = some (.int .i64 a0_0):=(blk_cell BK234.out 0).trans rfl;have hcz8_1 : w7.cell? ⟨gb234,1,none⟩ = some (.int .i64 a0_1):=(blk_cell BK234.out 1).trans rfl;have hcz8_2 : w7.cell? ⟨gb234,2,none⟩ = some (.slice A0_2 l0_2.length c0_2):=(blk_cell BK234.out 2).trans rfl;have hcz8_3 : w7.cell? ⟨gb234,3,none⟩ = some (.slice A0_3 l0_3.length c0_3):=(blk_cell BK234.out 3).trans rfl;have hfz8_0:=sJ BK234.out 0;have hfz8_1:=sJ BK234.out 1;have hfz8_2:=sJ BK234.out 2;have hfz8_3:=sJ BK234.out 3)|((with_reducible refine gate_callee (f:=11) rfl ?_);refine goesL_ (some 5) rfl rfl Tryd.func11 (by kernel_rfl) rfl #[.agg #[.int .i64 a0_0,.int .i64 a0_1,.slice A0_2 l0_2.length c0_2,.slice A0_3 l0_3.length c0_3]] rfl (by (try simp only [sE,sH,sI]);first|done|rfl|(simp only [sG,sF];rfl)) ?_;(with_reducible refine (spec_TableOK.calls a0_0 a0_1 _ _ l0_2 _ _ l0_3 true _ ?side1 ?side2 ?side3 ?side4 A2.out).mono ?_);(case side1 => repeat (first|exact (Kd.C_below HR0_2.out HB.out)|(with_reducible refine Kd.C_alloc ?_ _)|(with_reducible refine Kd.C_drewN ?_ _)|(with_reducible refine Kd.C_drew ?_)));(case side2 => exact HC0_2.out);(case side3 => repeat (first|exact (Kd.C_below HR0_3.out HB.out)|(with_reducible refine Kd.C_alloc ?_ _)|(with_reducible refine Kd.C_drewN ?_ _)|(with_reducible refine Kd.C_drew ?_)));(case side4 => exact HC0_3.out);rintro e w9 ⟨rfl,hb⟩;refine ⟨_,rfl,?_⟩;have n0_:=qh5 (qi5 (g:=gb234) (o:=.cells #[.int .i64 a0_0,.int .i64 a0_1,.slice A0_2 l0_2.length c0_2,.slice A0_3 l0_3.length c0_3] 32 (0,0)) (by (with_reducible repeat (first|apply qa5|apply qb5|apply qc5));exact BK234.out) hb);have n1_:=qh5 (qj5 (by repeat (first|(with_reducible first|exact HB.out|apply qd5|apply qe5|apply qf5|refine qg5 ?_ GE234.out)|exact HB.out)) hb);clear BK234;clear HB;have BK234:=n0_;have HB:=n1_;clear n0_ n1_;(try clear hb);(try clear hb2);(try clear hk);(try clear hi))|((with_reducible refine gate_dst (N:=8) rfl ?_);refine R_litbytes _ 5 rfl (N:=8) rfl 40 _ rfl #[.int .u8 116,.int .u8 97,.int .u8 98,.int .u8 108,.int .u8 101] [116,97,98,108,101] rfl rfl Tryd.underlying40 Tryd.underlying5 (ok:=fun _ => True) (by decide) trivial (Below.refl _ _) (Nat.le_refl _) ?_;intro v237 w10 ho11 hb hg_ hnew_;clear hg_ hnew_;(first|rw [← Ny236.out] at ho11|(simp only [Int.reduceToNat] at ho11;rw [← Ny236.out] at ho11));have n0_:=qh5 (Kd.R_lower ho11 (qk5 (by repeat (first|(with_reducible first|exact HB.out|apply qd5|apply qe5|apply qf5|refine qg5 ?_ GE234.out)|exact HB.out))));have n1_:=qh5 (qi5 (g:=gb234) (o:=.cells #[.int .i64 a0_0,.int .i64 a0_1,.slice A0_2 l0_2.length c0_2,.slice A0_3 l0_3.length c0_3] 32 (0,0)) (by (with_reducible repeat (first|apply qa5|apply qb5|apply qc5));exact BK234.out) hb);have n2_:=qh5 (qj5 (by repeat (first|(with_reducible first|exact HB.out|apply qd5|apply qe5|apply qf5|refine qg5 ?_ GE234.out)|exact HB.out)) hb);clear BK234;clear HB;have HO238:=n0_;have BK234:=n1_;have HB:=n2_;clear n0_ n1_ n2_;clear hb ho11;have hcz12_0 : w10.cell? ⟨gb234,0,none⟩ = some (.int .i64 a0_0):=(blk_cell BK234.out 0).trans rfl;have hcz12_1 : w10.cell? ⟨gb234,1,none⟩ = some (.int .i64 a0_1):=(blk_cell BK234.out 1).trans rfl;have hcz12_2 : w10.cell? ⟨gb234,2,none⟩ = some (.slice A0_2 l0_2.length c0_2):=(blk_cell BK234.out 2).trans rfl;have hcz12_3 : w10.cell? ⟨gb234,3,none⟩ = some (.slice A0_3 l0_3.length c0_3):=(blk_cell BK234.out 3).trans rfl;have hfz12_0:=sJ BK234.out 0;have hfz12_1:=sJ BK234.out 1;have hfz12_2:=sJ BK234.out 2;have hfz12_3:=sJ BK234.out 3)|((with_reducible refine gate_callee (f:=13) rfl ?_);refine goesL_ (some 10) rfl rfl Tryd.func13 (by kernel_rfl) rfl #[.agg #[.int .i64 a0_0,.int .i64 a0_1,.slice A0_2 l0_2.length c0_2,.slice A0_3 l0_3.length c0_3]] rfl (by (try simp only [sE,sH,sI]);first|done|rfl|(simp only [sG,sF];rfl)) ?_;(with_reducible refine (spec_l05Bytes.calls k a0_0 a0_1 _ _ l0_2 _ _ l0_3 t239 _ ?side1 ?side2 ?side3 ?side4 A4.out).mono ?_);(case side1 => repeat (first|exact (Kd.C_below HR0_2.out HB.out)|(with_reducible refine Kd.C_alloc ?_ _)|(with_reducible refine Kd.C_drewN ?_ _)|(with_reducible refine Kd.C_drew ?_)));(case side2 => exact HC0_2.out);(case side3 => repeat (first|exact (Kd.C_below HR0_3.out HB.out)|(with_reducible refine Kd.C_alloc ?_ _)|(with_reducible refine Kd.C_drewN ?_ _)|(with_reducible refine Kd.C_drew ?_)));(case side4 => exact HC0_3.out);rintro e w13 ⟨v240,rfl,ho0,hb⟩;refine ⟨_,rfl,?_⟩;have n0_:=qh5 (Kd.R_elder' (by (with_reducible repeat (first|apply Kd.R_alloc|apply Kd.R_drewN|apply Kd.R_drew));exact HO238.out) (Kd.R_base ho0) hb);have n1_:=qh5 (Kd.R_lower (Kd.R_new' ho0 (Kd.R_lt (by (with_reducible repeat (first|apply Kd.R_alloc|apply Kd.R_drewN|apply Kd.R_drew));exact HO238.out))) (qk5 (by repeat (first|(with_reducible first|exact HB.out|apply qd5|apply qe5|apply qf5|refine qg5 ?_ GE234.out)|exact HB.out))));have n2_:=qh5 (qi5 (g:=gb234) (o:=.cells #[.int .i64 a0_0,.int .i64 a0_1,.slice A0_2 l0_2.length c0_2,.slice A0_3 l0_3.length c0_3] 32 (0,0)) (by (with_reducible repeat (first|apply qa5|apply qb5|apply qc5));exact BK234.out) hb);have n3_:=qh5 (qj5 (by repeat (first|(with_reducible first|exact HB.out|apply qd5|apply qe5|apply qf5|refine qg5 ?_ GE234.out)|exact HB.out)) hb);clear HO238;clear BK234;clear HB;have HO238:=n0_;have HO241:=n1_;have BK234:=n2_;have HB:=n3_;clear n0_ n1_ n2_ n3_;(try clear hb);(try clear hb2);(try clear hk);(try clear hi);(try clear ho0);obtain ⟨Ao15,co15,eo15⟩:=Kd.R_slice HO241.out;subst eo15)|((with_reducible refine gate_builtin (b:=.append) (xs:=#[.tmp 8,.tmp 10]) rfl ?_);at_builtin;refine Kd.R_append_rows (Kd.int .u8) (w0:=w) w.heap.size rfl (.tmp 8) (.tmp 10) 40 5 (.int .u8 0) 1 rfl Tryd.underlying40 info5 rfl (by decide) (by omega) v237 y236 t239 _ _ _ (fun k_ => some k_ ≠ (.slice Ao15 t239.length co15 : Value).ownBlock) (fun _ => False) rfl rfl ?aO ?aR (fun _ _ h => h) (fun _ h => h.elim) ?aF ?aB ?aS ?aL ?_;(case aR => repeat (first|exact (Kd.R_reads' HO241.out).2.2|(with_reducible refine Kd.C_alloc ?_ _)|(with_reducible refine Kd.C_drewN ?_ _)|(with_reducible refine Kd.C_drew ?_)));(case aB => exact (by repeat (first|(with_reducible first|exact HB.out|apply qd5|apply qe5|apply qf5|refine qg5 ?_ GE234.out)|exact HB.out)));(case aF => exact (fun k_ hk => Kd.fresh' (Kd.R_lt (by (with_reducible repeat (first|apply Kd.R_alloc|apply Kd.R_drewN|apply Kd.R_drew));exact HO241.out)) k_ hk));(case aO => exact (by (with_reducible repeat (first|apply Kd.R_alloc|apply Kd.R_drewN|apply Kd.R_drew));exact Kd.R_mono HO238.out (fun _ hk => hk.2)));(case aS => exact (qk5 (by repeat (first|(with_reducible first|exact HB.out|apply qd5|apply qe5|apply qf5|refine qg5 ?_ GE234.out)|exact HB.out))));(case aL => have:=LMc5.out;omega);intro v243 w14 ho hb hg hat;rw [← Ny242.out] at ho;have n0_:=qh5 (blk_grown (g:=gb234) (o:=.cells #[.int .i64 a0_0,.int .i64 a0_1,.slice A0_2 l0_2.length c0_2,.slice A0_3 l0_3.length c0_3] 32 (0,0)) (by (with_reducible repeat (first|apply qa5|apply qb5|apply qc5));exact BK234.out) hg (Kd.R_ne HO238.out BK234.out (by decide)));have n1_:=qh5 (Kd.R_after (ok:=(fun _ => True)) (by (with_reducible repeat (first|apply Kd.R_alloc|apply Kd.R_drewN|apply Kd.R_drew));exact HO241.out) hg hat);have n2_:=qh5 (hb);have n3_:=qh5 (ho);clear BK234;clear HO241;clear HB;clear HO238;have BK234:=n0_;have HO241:=n1_;have HB:=n2_;have HO244:=n3_;clear n0_ n1_ n2_ n3_;clear ho hb hg hat;obtain ⟨Ao16,co16,eo16⟩:=Kd.R_slice HO244.out;subst eo16)|((with_reducible refine gate_callee (f:=12) rfl ?_);refine goesL_ (some 12) rfl rfl Tryd.func12 (by kernel_rfl) rfl #[.slice Ao16 y242.length co16] rfl (by (try simp only [sE,sH,sI]);first|done|rfl|(simp only [sG,sF];rfl)) ?_;(with_reducible refine (spec_l01Hash.calls _ _ y242 t245 _ ?side1 ?side2 A6.out).mono ?_);(case side1 => repeat (first|exact (Kd.R_reads' HO244.out).2.2|(with_reducible refine Kd.C_alloc ?_ _)|(with_reducible refine Kd.C_drewN ?_ _)|(with_reducible refine Kd.C_drew ?_)));(case side2 => exact (Kd.R_reads' HO244.out).2.1);rintro e w17 ⟨rfl,hb⟩;refine ⟨_,rfl,?_⟩;have n0_:=qh5 (Kd.R_below (by (with_reducible repeat (first|apply Kd.R_alloc|apply Kd.R_drewN|apply Kd.R_drew));exact HO241.out) hb);have n1_:=qh5 (Kd.R_below (by (with_reducible repeat (first|apply Kd.R_alloc|apply Kd.R_drewN|apply Kd.R_drew));exact HO244.out) hb);have n2_:=qh5 (qi5 (g:=gb234) (o:=.cells #[.int .i64 a0_0,.int .i64 a0_1,.slice A0_2 l0_2.length c0_2,.slice A0_3 l0_3.length c0_3] 32 (0,0)) (by (with_reducible repeat (first|apply qa5|apply qb5|apply qc5));exact BK234.out) hb);have n3_:=qh5 (qj5 (by repeat (first|(with_reducible first|exact HB.out|apply qd5|apply qe5|apply qf5|refine qg5 ?_ GE234.out)|exact HB.out)) hb);clear HO241;clear HO244;clear BK234;clear HB;have HO241:=n0_;have HO244:=n1_;have BK234:=n2_;have HB:=n3_;clear n0_ n1_ n2_ n3_;(try clear hb);(try clear hb2);(try clear hk);(try clear hi)))
   go_ret2
   exact ⟨by first|rfl|(simp [errW_none,errW_some] <;> rfl)|(simp [*,errW_none,errW_some] <;> rfl),by repeat (first|(with_reducible first|exact HB.out|apply qd5|apply qe5|apply qf5|refine qg5 ?_ GE234.out)|exact HB.out)⟩
  ·
   rw [if_neg c5] at H
   exact absurd H (by simp)
 ·
  replace c3:=Bool.eq_false_iff.mpr c3
  subst c3
  have H1 : (some ((⟨#[]⟩ : ByteArray),1)) = some (r1,r2):=by rw [if_neg (show ¬ (false = true) by decide)] at H;exact H
  clear H
  have H:=H1
  clear H1
  simp only [Option.some.injEq,Prod.mk.injEq] at H
  obtain ⟨rfl,rfl⟩:=H
  go_enter Tryd.func5,Tryd.ntmps5
  go_wp2_with (first|((with_reducible refine gate_dst (N:=1) rfl ?_);refine box_event ?hg (N:=1) ?hd (cs:=#[.int .i64 a0_0,.int .i64 a0_1,.slice A0_2 l0_2.length c0_2,.slice A0_3 l0_3.length c0_3]) (t:=32) ?hr ?_;(case hd => rfl);(case hg => rfl);(case hr => first|(go_simp;done)|(go_simp;rfl));intro gb234 hg w18 hbox hb;have n0_:=qh5 (qj5 (by repeat (first|(with_reducible first|exact HB.out|apply qd5|apply qe5|apply qf5)|exact HB.out)) hb);have n1_:=qh5 (hbox);have n2_:=qh5 ((by rw [hg];exact (qk5 (by repeat (first|(with_reducible first|exact HB.out|apply qd5|apply qe5|apply qf5)|exact HB.out))) : w.heap.size ≤ gb234));have n3_:=qh5 ((by rw [hg];exact (qk5 (by repeat (first|(with_reducible first|exact HB.out|apply qd5|apply qe5|apply qf5)|exact HB.out))) : w.heap.size ≤ gb234));clear HB;have HB:=n0_;have BK234:=n1_;have GW234:=n2_;have GE234:=n3_;clear n0_ n1_ n2_ n3_;clear hb hbox hg;have hcz19_0 : w18.cell? ⟨gb234,0,none⟩ = some (.int .i64 a0_0):=(blk_cell BK234.out 0).trans rfl;have hcz19_1 : w18.cell? ⟨gb234,1,none⟩ = some (.int .i64 a0_1):=(blk_cell BK234.out 1).trans rfl;have hcz19_2 : w18.cell? ⟨gb234,2,none⟩ = some (.slice A0_2 l0_2.length c0_2):=(blk_cell BK234.out 2).trans rfl;have hcz19_3 : w18.cell? ⟨gb234,3,none⟩ = some (.slice A0_3 l0_3.length c0_3):=(blk_cell BK234.out 3).trans rfl;have hfz19_0:=sJ BK234.out 0;have hfz19_1:=sJ BK234.out 1;have hfz19_2:=sJ BK234.out 2;have hfz19_3:=sJ BK234.out 3)|((with_reducible refine gate_callee (f:=11) rfl ?_);refine goesL_ (some 5) rfl rfl Tryd.func11 (by kernel_rfl) rfl #[.agg #[.int .i64 a0_0,.int .i64 a0_1,.slice A0_2 l0_2.length c0_2,.slice A0_3 l0_3.length c0_3]] rfl (by (try simp only [sE,sH,sI]);first|done|rfl|(simp only [sG,sF];rfl)) ?_;(with_reducible refine (spec_TableOK.calls a0_0 a0_1 _ _ l0_2 _ _ l0_3 false _ ?side1 ?side2 ?side3 ?side4 A2.out).mono ?_);(case side1 => repeat (first|exact (Kd.C_below HR0_2.out HB.out)|(with_reducible refine Kd.C_alloc ?_ _)|(with_reducible refine Kd.C_drewN ?_ _)|(with_reducible refine Kd.C_drew ?_)));(case side2 => exact HC0_2.out);(case side3 => repeat (first|exact (Kd.C_below HR0_3.out HB.out)|(with_reducible refine Kd.C_alloc ?_ _)|(with_reducible refine Kd.C_drewN ?_ _)|(with_reducible refine Kd.C_drew ?_)));(case side4 => exact HC0_3.out);rintro e w20 ⟨rfl,hb⟩;refine ⟨_,rfl,?_⟩;have n0_:=qh5 (qi5 (g:=gb234) (o:=.cells #[.int .i64 a0_0,.int .i64 a0_1,.slice A0_2 l0_2.length c0_2,.slice A0_3 l0_3.length c0_3] 32 (0,0)) (by (with_reducible repeat (first|apply qa5|apply qb5|apply qc5));exact BK234.out) hb);have n1_:=qh5 (qj5 (by repeat (first|(with_reducible first|exact HB.out|apply qd5|apply qe5|apply qf5|refine qg5 ?_ GE234.out)|exact HB.out)) hb);clear BK234;clear HB;have BK234:=n0_;have HB:=n1_;clear n0_ n1_;(try clear hb);(try clear hb2);(try clear hk);(try clear hi)))
  go_ret2
  exact ⟨by first|rfl|(simp [errW_none,errW_some] <;> rfl)|(simp [*,errW_none,errW_some] <;> rfl),by repeat (first|(with_reducible first|exact HB.out|apply qd5|apply qe5|apply qf5|refine qg5 ?_ GE234.out)|exact HB.out)⟩

/-! ### laws_toWaiter: function 49 -/
def laws_toWaiter.f (a0_0 : Int) (a0_1 : Int) : Option (Int × Int):=some (a0_0,a0_1)
set_option maxHeartbeats 8000000 in
set_option maxRecDepth 100000 in
theorem laws_toWaiter.calls (a0_0 : Int) (a0_1 : Int) (r1 : Int) (r2 : Int) (w : World) (h : laws_toWaiter.f a0_0 a0_1 = some (r1,r2)) :
  Calls Tryd.prog 49 #[.agg #[.int .i64 a0_0,.int .i64 a0_1]] w fun e w' => e = .returned (.agg #[.int .i64 r1,.int .i64 r2]) ∧ Below w.heap.size w w':=by
 have hu93:=Tryd.underlying93
 have hu58:=Tryd.underlying58
 have HB:=qh5 (Below.refl w.heap.size w)
 have H : (some (a0_0,a0_1)) = some (r1,r2):=h
 clear h
 simp only [Option.some.injEq,Prod.mk.injEq] at H
 obtain ⟨rfl,rfl⟩:=H
 go_enter Tryd.func49,Tryd.ntmps49
 go_wp2_with (first|((with_reducible refine gate_dst (N:=1) rfl ?_);refine box_event ?hg (N:=1) ?hd (cs:=#[.int .i64 a0_0,.int .i64 a0_1]) (t:=93) ?hr ?_;(case hd => rfl);(case hg => rfl);(case hr => first|(go_simp;done)|(go_simp;rfl));intro gb246 hg w2 hbox hb;have n0_:=qh5 (qj5 (by repeat (first|(with_reducible first|exact HB.out|apply qd5|apply qe5|apply qf5)|exact HB.out)) hb);have n1_:=qh5 (hbox);have n2_:=qh5 ((by rw [hg];exact (qk5 (by repeat (first|(with_reducible first|exact HB.out|apply qd5|apply qe5|apply qf5)|exact HB.out))) : w.heap.size ≤ gb246));have n3_:=qh5 ((by rw [hg];exact (qk5 (by repeat (first|(with_reducible first|exact HB.out|apply qd5|apply qe5|apply qf5)|exact HB.out))) : w.heap.size ≤ gb246));clear HB;have HB:=n0_;have BK246:=n1_;have GW246:=n2_;have GE246:=n3_;clear n0_ n1_ n2_ n3_;clear hb hbox hg)|((with_reducible refine gate_dst (N:=2) rfl ?_);refine box_event ?hg (N:=2) ?hd (cs:=#[.int .i64 0,.int .i64 0]) (t:=58) ?hr ?_;(case hd => rfl);(case hg => rfl);(case hr => first|(go_simp;done)|(go_simp;rfl));intro gb247 hg w3 hbox hb;have n0_:=qh5 (qi5 (g:=gb246) (o:=.cells #[.int .i64 a0_0,.int .i64 a0_1] 93 (0,0)) (by (with_reducible repeat (first|apply qa5|apply qb5|apply qc5));exact BK246.out) hb);have n1_:=qh5 (qj5 (by repeat (first|(with_reducible first|exact HB.out|apply qd5|apply qe5|apply qf5|refine qg5 ?_ GE246.out)|exact HB.out)) hb);have n2_:=qh5 (hbox);have n3_:=qh5 ((by rw [hg];exact (qk5 (by repeat (first|(with_reducible first|exact HB.out|apply qd5|apply qe5|apply qf5|refine qg5 ?_ GE246.out)|exact HB.out))) : w.heap.size ≤ gb247));have n4_:=qh5 ((by rw [hg];exact (qk5 (by repeat (first|(with_reducible first|exact HB.out|apply qd5|apply qe5|apply qf5|refine qg5 ?_ GE246.out)|exact HB.out))) : w.heap.size ≤ gb247));have n5_:=qh5 ((by rw [hg];exact Nat.ne_of_lt (blk_lt (g:=gb246) (o:=.cells #[.int .i64 a0_0,.int .i64 a0_1] 93 (0,0)) (by (with_reducible repeat (first|apply qa5|apply qb5|apply qc5));exact BK246.out)) : gb246 ≠ gb247));have n6_:=qh5 ((by rw [hg];exact Nat.ne_of_gt (blk_lt (g:=gb246) (o:=.cells #[.int .i64 a0_0,.int .i64 a0_1] 93 (0,0)) (by (with_reducible repeat (first|apply qa5|apply qb5|apply qc5));exact BK246.out)) : gb247 ≠ gb246));clear BK246;clear HB;have BK246:=n0_;have HB:=n1_;have BK247:=n2_;have GW247:=n3_;have GE247:=n4_;have NB246_247:=n5_;have NB247_246:=n6_;clear n0_ n1_ n2_ n3_ n4_ n5_ n6_;clear hb hbox hg)|((with_reducible refine gate_dst (N:=3) rfl ?_);refine box_event ?hg (N:=3) ?hd (cs:=#[.int .i64 0,.int .i64 0]) (t:=58) ?hr ?_;(case hd => rfl);(case hg => rfl);(case hr => first|(go_simp;done)|(go_simp;rfl));intro gb248 hg w4 hbox hb;have n0_:=qh5 (qi5 (g:=gb246) (o:=.cells #[.int .i64 a0_0,.int .i64 a0_1] 93 (0,0)) (by (with_reducible repeat (first|apply qa5|apply qb5|apply qc5));exact BK246.out) hb);have n1_:=qh5 (qi5 (g:=gb247) (o:=.cells #[.int .i64 0,.int .i64 0] 58 (0,0)) (by (with_reducible repeat (first|apply qa5|apply qb5|apply qc5));exact BK247.out) hb);have n2_:=qh5 (qj5 (by repeat (first|(with_reducible first|exact HB.out|apply qd5|apply qe5|apply qf5|refine qg5 ?_ GE246.out|refine qg5 ?_ GE247.out)|exact HB.out)) hb);have n3_:=qh5 (hbox);have n4_:=qh5 ((by rw [hg];exact (qk5 (by repeat (first|(with_reducible first|exact HB.out|apply qd5|apply qe5|apply qf5|refine qg5 ?_ GE246.out|refine qg5 ?_ GE247.out)|exact HB.out))) : w.heap.size ≤ gb248));have n5_:=qh5 ((by rw [hg];exact (qk5 (by repeat (first|(with_reducible first|exact HB.out|apply qd5|apply qe5|apply qf5|refine qg5 ?_ GE246.out|refine qg5 ?_ GE247.out)|exact HB.out))) : w.heap.size ≤ gb248));have n6_:=qh5 ((by rw [hg];exact Nat.ne_of_lt (blk_lt (g:=gb246) (o:=.cells #[.int .i64 a0_0,.int .i64 a0_1] 93 (0,0)) (by (with_reducible repeat (first|apply qa5|apply qb5|apply qc5));exact BK246.out)) : gb246 ≠ gb248));have n7_:=qh5 ((by rw [hg];exact Nat.ne_of_gt (blk_lt (g:=gb246) (o:=.cells #[.int .i64 a0_0,.int .i64 a0_1] 93 (0,0)) (by (with_reducible repeat (first|apply qa5|apply qb5|apply qc5));exact BK246.out)) : gb248 ≠ gb246));have n8_:=qh5 ((by rw [hg];exact Nat.ne_of_lt (blk_lt (g:=gb247) (o:=.cells #[.int .i64 0,.int .i64 0] 58 (0,0)) (by (with_reducible repeat (first|apply qa5|apply qb5|apply qc5));exact BK247.out)) : gb247 ≠ gb248));have n9_:=qh5 ((by rw [hg];exact Nat.ne_of_gt (blk_lt (g:=gb247) (o:=.cells #[.int .i64 0,.int .i64 0] 58 (0,0)) (by (with_reducible repeat (first|apply qa5|apply qb5|apply qc5));exact BK247.out)) : gb248 ≠ gb247));clear BK246;clear BK247;clear HB;have BK246:=n0_;have BK247:=n1_;have HB:=n2_;have BK248:=n3_;have GW248:=n4_;have GE248:=n5_;have NB246_248:=n6_;have NB248_246:=n7_;have NB247_248:=n8_;have NB248_247:=n9_;clear n0_ n1_ n2_ n3_ n4_ n5_ n6_ n7_ n8_ n9_;clear hb hbox hg;have hnb5:=NB246_247.out;have hnc5:=NB247_246.out;have hnb6:=NB246_248.out;have hnc6:=NB248_246.out;have hcz7_0 : w4.cell? ⟨gb246,0,none⟩ = some (.int .i64 a0_0):=(blk_cell BK246.out 0).trans rfl;have hcz7_1 : w4.cell? ⟨gb246,1,none⟩ = some (.int .i64 a0_1):=(blk_cell BK246.out 1).trans rfl;have hfz7_0:=sJ BK246.out 0;have hfz7_1:=sJ BK246.out 1;have hnb8:=NB248_247.out;have hnc8:=NB247_248.out;have hcz9_0 : w4.cell? ⟨gb248,0,none⟩ = some (.int .i64 0):=(blk_cell BK248.out 0).trans rfl;have hcz9_1 : w4.cell? ⟨gb248,1,none⟩ = some (.int .i64 0):=(blk_cell BK248.out 1).trans rfl;have hfz9_0:=sJ BK248.out 0;have hfz9_1:=sJ BK248.out 1;have hcz10_0 : w4.cell? ⟨gb247,0,none⟩ = some (.int .i64 0):=(blk_cell BK247.out 0).trans rfl;have hcz10_1 : w4.cell? ⟨gb247,1,none⟩ = some (.int .i64 0):=(blk_cell BK247.out 1).trans rfl;have hfz10_0:=sJ BK247.out 0;have hfz10_1:=sJ BK247.out 1))
 refine bodyPost_ret (results_cell_row rfl _ _ gb247 58 #[.int .i64 a0_0,.int .i64 a0_1] (0,0) _ rfl (by (with_reducible repeat (first|apply qa5|apply qb5|apply qc5));refine blk_put (cs:=#[.int .i64 a0_0,.int .i64 0]) ?_ 1 _ rfl;(with_reducible repeat (first|apply qa5|apply qb5|apply qc5));refine blk_put (cs:=#[.int .i64 0,.int .i64 0]) ?_ 0 _ rfl;(with_reducible repeat (first|apply qa5|apply qb5|apply qc5));refine blk_far ?_ NB247_248.out _;(with_reducible repeat (first|apply qa5|apply qb5|apply qc5));refine blk_far ?_ NB247_248.out _;(with_reducible repeat (first|apply qa5|apply qb5|apply qc5));exact BK247.out) Tryd.underlying58 rfl (by kernel_rfl)) rfl ?_
 exact ⟨by first|rfl|(simp [errW_none,errW_some] <;> rfl)|(simp [*,errW_none,errW_some] <;> rfl),by repeat (first|(with_reducible first|exact HB.out|apply qd5|apply qe5|apply qf5|refine qg5 ?_ GE246.out|refine qg5 ?_ GE247.out|refine qg5 ?_ GE248.out)|exact HB.out)⟩

/-! ### laws_toWaiterS: function 41 -/
def laws_toWaiterS.l0 : Nat → List (S93) → List (S58) → Int → Option ((List (S58)))
 | 0,_,_,_ => none
 | k + 1,x0,x3,x4 => if x4 < (x0.length : Int) then (if 0 ≤ x4 then ((laws_toWaiter.f ((rd_T93 x0 x4).f0) ((rd_T93 x0 x4).f1)).bind fun bt253 => (if x4 < (x3.length : Int) then (laws_toWaiterS.l0 k x0 (x3.set (x4 : Int).toNat (⟨bt253.1,bt253.2⟩ : S58)) (wrap64 (x4 + 1))) else (none))) else (none)) else (some x3)
def laws_toWaiterS.f (k : Nat) (l0 : List (S93)) : Option ((List (S58))):=if 0 ≤ (l0.length : Int) then (if ((l0.length : Int) : Int).toNat ≤ 17592186044416 then (laws_toWaiterS.l0 k l0 (List.replicate ((l0.length : Int) : Int).toNat z58) 0) else (none)) else (none)
set_option maxHeartbeats 8000000 in
set_option maxRecDepth 100000 in
theorem laws_toWaiterS.calls (k : Nat) (A0 : Option Addr) (c0 : Nat) (l0 : List (S93)) (r : List (S58)) (w : World) (hr0 : Kd.C k93 w A0 l0.length l0) (hc0 : l0.length ≤ c0) (h : laws_toWaiterS.f k l0 = some r) :
  Calls Tryd.prog 41 #[.slice A0 l0.length c0] w fun e w' => ∃ v0_ : Value,e = .returned (v0_) ∧ Kd.R k58 58 w' w.heap.size (fun _ => True) v0_ r ∧ Below w.heap.size w w':=by
 have hu93:=Tryd.underlying93
 have hu58:=Tryd.underlying58
 have HR0:=qh5 hr0
 have HC0:=qh5 hc0
 clear hr0 hc0
 have HB:=qh5 (Below.refl w.heap.size w)
 have H : (if 0 ≤ (l0.length : Int) then (if ((l0.length : Int) : Int).toNat ≤ 17592186044416 then (laws_toWaiterS.l0 k l0 (List.replicate ((l0.length : Int) : Int).toNat z58) 0) else (none)) else (none)) = some r:=h
 clear h
 by_cases c2 : 0 ≤ (l0.length : Int)
 ·
  rw [if_pos c2] at H
  have c2b0:=eq_true c2
  have c2b1 : decide (0 ≤ (l0.length : Int)) = true:=decide_eq_true c2
  clear c2
  by_cases c3 : ((l0.length : Int) : Int).toNat ≤ 17592186044416
  ·
   rw [if_pos c3] at H
   have c3b0:=eq_true c3
   have c3b1 : decide (((l0.length : Int) : Int).toNat ≤ 17592186044416) = true:=decide_eq_true c3
   clear c3
   obtain ⟨y249,hy249⟩ : ∃ y_ : List (S58),y_ = (List.replicate ((l0.length : Int) : Int).toNat z58):=⟨_,rfl⟩
   replace H : (laws_toWaiterS.l0 k l0 y249 0) = some r:=by first|(rw [hy249];with_reducible exact H)|(have H2_:=(Option.bind_some _ _).symm.trans H;rw [hy249];with_reducible exact H2_)|(have H2_:=(Option.bind_some _ _).symm.trans H;with_reducible exact H2_)|with_reducible exact H|(rw [hy249];exact H)|exact H
   have Ny249:=qh5 hy249
   clear hy249
   have H':=qh5 H
   clear H
   go_enter Tryd.func41,Tryd.ntmps41
   go_wp2_with (first|((with_reducible refine gate_dst (N:=7) rfl ?_);refine Kd.R_make k58 _ 58 rfl (N:=7) rfl 53 _ _ rfl (l0.length : Int) rfl rfl Tryd.underlying53 (.agg #[(.int .i64 0),(.int .i64 0)]) 16 info58 rfl (by decide) (by omega) z58 (ok:=fun _ => True) (okp:=fun _ => True) (k58_mkM _ _ _ z58 ) (fun _ hk => hk) trivial (sM (by first|(with_reducible assumption)|assumption)) (Nat.le_trans (Nat.mul_le_mul_right _ (sM (by first|(with_reducible assumption)|assumption) : (l0.length : Int).toNat ≤ 17592186044416)) (by omega)) (Below.refl _ _) (Nat.le_refl _) ?_;intro v250 w4 ho5 hb hg_ hnew_;clear hg_ hnew_;(first|rw [← Ny249.out] at ho5|(simp only [Int.reduceToNat] at ho5;rw [← Ny249.out] at ho5));have n0_:=qh5 (Kd.R_lower ho5 (qk5 (by repeat (first|(with_reducible first|exact HB.out|apply qd5|apply qe5|apply qf5)|exact HB.out))));have n1_:=qh5 (qj5 (by repeat (first|(with_reducible first|exact HB.out|apply qd5|apply qe5|apply qf5)|exact HB.out)) hb);clear HB;have HO251:=n0_;have HB:=n1_;clear n0_ n1_;clear hb ho5))
   go_loopg [4] k (fun kq v4 w' => ∃ (x3_1 : List (S58)) (x4_1 : Int),v4 = .int .i64 x4_1 ∧ Aside0 (laws_toWaiterS.l0 kq l0 x3_1 x4_1 = some r) ∧ Aside0 (kq ≤ k) ∧ Aside0 (Kd.R k58 58 w' w.heap.size (fun _ => True) v250 x3_1) ∧ Aside0 (Below w.heap.size w w'))
   case atStart => exact ⟨(y249),(0),(by first|rfl|(simp;done)|(simp [*];done)),H',⟨Nat.le_refl _⟩,⟨by (with_reducible repeat (first|apply Kd.R_alloc|apply Kd.R_drewN|apply Kd.R_drew));exact HO251.out⟩,⟨by repeat (first|(with_reducible first|exact HB.out|apply qd5|apply qe5|apply qf5)|exact HB.out)⟩⟩
   case round =>
    clear H'
    try clear c2
    try clear c2b0
    try clear c2b1
    try clear p2
    try clear c3
    try clear c3b0
    try clear c3b1
    try clear c4
    obtain ⟨x3_1,x4_1,rfl,HA,HK1,HO_3,HB⟩:=hrel
    cases gk with
    | zero => exact absurd HA.out (by simp [laws_toWaiterS.l0])
    | succ k1 =>
     have H:=HA.out
     clear HA
     simp only [laws_toWaiterS.l0] at H
     by_cases c6 : x4_1 < (l0.length : Int)
     ·
      rw [if_pos c6] at H
      have c6b0 : decide (x4_1 < (l0.length : Int)) = true:=decide_eq_true c6
      clear c6
      by_cases c7 : 0 ≤ x4_1
      ·
       rw [if_pos c7] at H
       have c7b0 : decide (0 ≤ x4_1) = true:=decide_eq_true c7
       clear c7
       replace H:=Option.bind_eq_some_iff.mp H
       obtain ⟨⟨t253,t254⟩,A80,H⟩:=H
       replace H : (if x4_1 < (x3_1.length : Int) then (laws_toWaiterS.l0 k1 l0 (x3_1.set (x4_1 : Int).toNat (⟨t253,t254⟩ : S58)) (wrap64 (x4_1 + 1))) else (none)) = some r:=H
       have A8:=qh5 A80
       clear A80
       by_cases c9 : x4_1 < (x3_1.length : Int)
       ·
        rw [if_pos c9] at H
        have c9b0 : decide (x4_1 < (x3_1.length : Int)) = true:=decide_eq_true c9
        clear c9
        obtain ⟨y255,hy255⟩ : ∃ y_ : List (S58),y_ = (x3_1.set (x4_1 : Int).toNat (⟨t253,t254⟩ : S58)):=⟨_,rfl⟩
        replace H : (laws_toWaiterS.l0 k1 l0 y255 (wrap64 (x4_1 + 1))) = some r:=by first|(rw [hy255];with_reducible exact H)|(have H2_:=(Option.bind_some _ _).symm.trans H;rw [hy255];with_reducible exact H2_)|(have H2_:=(Option.bind_some _ _).symm.trans H;with_reducible exact H2_)|with_reducible exact H|(rw [hy255];exact H)|exact H
        have Ny255:=qh5 hy255
        clear hy255
        have H':=qh5 H
        clear H
        have p252 : 0 ≤ (x4_1 : Int):=sM (by first|(with_reducible assumption)|assumption)
        have q252 : x4_1 < (l0.length : Int):=sM (by first|(with_reducible assumption)|assumption)
        obtain ⟨ad252,e252,hx252_0,hx252_1⟩:=at_T93 HR0.out x4_1 p252 q252
        cases e252
        replace hx252_0:=(HB.out.cell (sD w _ hx252_0)).trans hx252_0
        replace hx252_1:=(HB.out.cell (sD w _ hx252_1)).trans hx252_1
        replace p252:=eq_true p252
        replace q252:=eq_true q252
        go_wp2_with (first|((with_reducible refine gate_callee (f:=49) rfl ?_);refine goesL_ (some 20) rfl rfl Tryd.func49 (by kernel_rfl) rfl #[.agg #[.int .i64 ((rd_T93 l0 x4_1).f0),.int .i64 ((rd_T93 l0 x4_1).f1)]] rfl (by (try simp only [sE,sH,sI]);first|done|rfl|(simp only [sG,sF];rfl)) ?_;(with_reducible refine (laws_toWaiter.calls ((rd_T93 l0 x4_1).f0) ((rd_T93 l0 x4_1).f1) t253 t254 _ A8.out).mono ?_);rintro e w11 ⟨rfl,hb⟩;refine ⟨_,rfl,?_⟩;have n0_:=qh5 (Kd.R_below (by (with_reducible repeat (first|apply Kd.R_alloc|apply Kd.R_drewN|apply Kd.R_drew));exact HO_3.out) hb);have n1_:=qh5 (qj5 (by repeat (first|(with_reducible first|exact HB.out|apply qd5|apply qe5|apply qf5)|exact HB.out)) hb);clear HO_3;clear HB;have HO_3:=n0_;have HB:=n1_;clear n0_ n1_;(try clear hb);(try clear hb2);(try clear hk);(try clear hi);have p10 : 0 ≤ (x4_1 : Int):=sM (by first|(with_reducible assumption)|assumption);have q10 : (x4_1 : Int) < ((x3_1.length : Int) : Int):=sM (by first|(with_reducible assumption)|assumption);obtain ⟨go10,co10,eo10,gb10,gl10,cl10,HG10⟩:=Kd.R_form HO_3.out (by omega);(first|cases eo10|(injection eo10 with ea_ en_ ec_;(first|subst ea_|(injection ea_ with ea_;subst ea_));subst ec_;clear en_));have GB10:=qh5 gb10;have GG10:=qh5 HG10;clear gb10 gl10 HG10;obtain ⟨ce10,hcl10,hM10,hcc10,hfr10⟩:=Kd.R_elem HO_3.out z58 (x4_1 : Int) p10 q10;obtain rfl:=k58_openM hM10;have hx10_0 : w11.cell? ⟨go10,(x4_1 : Int).toNat * 2,none⟩ = some (.int .i64 ((rd_T58 x3_1 x4_1).f0)):=hcc10 0 _ rfl;have hx10_1 : w11.cell? ⟨go10,(x4_1 : Int).toNat * 2 + 1,none⟩ = some (.int .i64 ((rd_T58 x3_1 x4_1).f1)):=hcc10 1 _ rfl;have hf10_0 : w11.frozen? ⟨go10,(x4_1 : Int).toNat * 2,none⟩ = false:=hfr10 0 (by decide);have hf10_1 : w11.frozen? ⟨go10,(x4_1 : Int).toNat * 2 + 1,none⟩ = false:=hfr10 1 (by decide);clear hcl10 hcc10 hfr10 hM10;replace p10:=eq_true p10;replace q10:=eq_true q10;have HX12:=qh5 (show Kd.R k58 58 w11 w.heap.size (fun _ => True) (.slice (some ⟨go10,0,none⟩) x3_1.length co10) x3_1 from (by (with_reducible repeat (first|apply Kd.R_alloc|apply Kd.R_drewN|apply Kd.R_drew));exact HO_3.out));obtain ⟨ce12,hcl12,hM12,hcc12,hfr12⟩:=Kd.R_elem HX12.out z58 (x4_1 : Int) (sM (by first|(with_reducible assumption)|assumption)) (by have h_ : (x4_1 : Int) < ((x3_1.length : Int) : Int):=sM (by first|(with_reducible assumption)|assumption);first|exact h_|(have e_:=(Kd.R_reads' HO_3.out).1;omega)|simpa using h_);obtain rfl:=k58_openM hM12;have HP12:=Kd.R_seg HX12.out (x4_1 : Int) (sM (by first|(with_reducible assumption)|assumption)) (by have h_ : (x4_1 : Int) < ((x3_1.length : Int) : Int):=sM (by first|(with_reducible assumption)|assumption);first|exact h_|(have e_:=(Kd.R_reads' HO_3.out).1;omega)|simpa using h_) (seg:=[.int .i64 t253,.int .i64 t254]) (j:=0) hcl12 hcc12 (show 2 ≤ 2 from by decide) (x':=(⟨t253,t254⟩ : S58)) (k58_mkM _ _ _ (⟨t253,t254⟩ : S58) ) (fun _ hk => hk);have hx12_0:=hcc12 0 _ rfl;(try simp only [show (k58).sz = 2 from rfl,Nat.mul_one,Nat.add_zero] at hx12_0);have hf12_0:=hfr12 0 (by decide);(try simp only [show (k58).sz = 2 from rfl,Nat.mul_one,Nat.add_zero] at hf12_0);have hx12_1:=hcc12 1 _ rfl;(try simp only [show (k58).sz = 2 from rfl,Nat.mul_one,Nat.add_zero] at hx12_1);have hf12_1:=hfr12 1 (by decide);(try simp only [show (k58).sz = 2 from rfl,Nat.mul_one,Nat.add_zero] at hf12_1);clear hcl12 hcc12 hfr12 hM12)|((with_reducible refine gate_store (t:=58) (p:=21) rfl ?_);refine store_event (t:=58) (p:=21) (v:=?vo_w13) (w1:=((w11.setCell ⟨go10,(x4_1 : Int).toNat * 2,none⟩ (.int .i64 t253)).setCell ⟨go10,(x4_1 : Int).toNat * 2 + 1,none⟩ (.int .i64 t254))) ?hg ?ho ?hn ?hr ?_;(case ho => rfl);(case hg => rfl);(case hn => rfl);(case hr => first|(go_simp;done)|(go_simp;rfl));intro w13 hw;have hg : w11.grownBy w13 (some go10):=(by rw [hw];exact HP12.2);have hp_ : Kd.R k58 58 w13 w.heap.size (fun _ => True) (.slice (some ⟨go10,0,none⟩) x3_1.length co10) y255:=(by rw [hw,Ny255.out];exact HP12.1);clear HP12;have n0_:=qh5 (hp_);have n1_:=qh5 ((by rw [hw];exact qg5 (qg5 (HB.out) GB10.out) GB10.out : Below w.heap.size w w13));clear HO_3;clear HB;have HO_3:=n0_;have HB:=n1_;clear n0_ n1_;clear hg hw hp_))
        go_roundg k1
        case measure => have:=HK1.out;omega
        case rel => exact ⟨(y255),(wrap64 (x4_1 + 1)),(by first|rfl|(simp;done)|(simp [*];done)),H',⟨by have:=HK1.out;omega⟩,⟨by (with_reducible repeat (first|apply Kd.R_alloc|apply Kd.R_drewN|apply Kd.R_drew));exact HO_3.out⟩,⟨by repeat (first|(with_reducible first|exact HB.out|apply qd5|apply qe5|apply qf5)|exact HB.out)⟩⟩
       ·
        rw [if_neg c9] at H
        exact absurd H (by simp)
      ·
       rw [if_neg c7] at H
       exact absurd H (by simp)
     ·
      rw [if_neg c6] at H
      have c6b0 : decide (x4_1 < (l0.length : Int)) = false:=decide_eq_false c6
      clear c6
      obtain rfl:=sO H
      go_wp2
      go_ret
      exact ⟨_,by first|rfl|(simp [errW_none,errW_some] <;> rfl)|(simp [*,errW_none,errW_some] <;> rfl),by (with_reducible repeat (first|apply Kd.R_alloc|apply Kd.R_drewN|apply Kd.R_drew));exact HO_3.out,by repeat (first|(with_reducible first|exact HB.out|apply qd5|apply qe5|apply qf5)|exact HB.out)⟩
  ·
   rw [if_neg c3] at H
   exact absurd H (by simp)
 ·
  rw [if_neg c2] at H
  exact absurd H (by simp)

/-! ### laws_toLock: function 28 -/
def laws_toLock.f (k : Nat) (a0_0 : ByteArray) (a0_1 : Int) (a0_2 : Int) (a0_3 : Int) (l0_4 : List (S93)) : Option (ByteArray × Int × Int × Int × (List (S58))):=(laws_toWaiterS.f k l0_4).bind fun t259 => (some (a0_0,a0_1,a0_2,a0_3,t259))
set_option maxHeartbeats 8000000 in
set_option maxRecDepth 100000 in
theorem laws_toLock.calls (k : Nat) (a0_0 : ByteArray) (a0_1 : Int) (a0_2 : Int) (a0_3 : Int) (A0_4 : Option Addr) (c0_4 : Nat) (l0_4 : List (S93)) (r1 : ByteArray) (r2 : Int) (r3 : Int) (r4 : Int) (r5 : List (S58)) (w : World) (hr0_4 : Kd.C k93 w A0_4 l0_4.length l0_4) (hc0_4 : l0_4.length ≤ c0_4) (h : laws_toLock.f k a0_0 a0_1 a0_2 a0_3 l0_4 = some (r1,r2,r3,r4,r5)) :
  Calls Tryd.prog 28 #[.agg #[.string a0_0,.int .i64 a0_1,.int .i64 a0_2,.int .i64 a0_3,.slice A0_4 l0_4.length c0_4]] w fun e w' => ∃ v4_ : Value,e = .returned (.agg #[.string r1,.int .i64 r2,.int .i64 r3,.int .i64 r4,v4_]) ∧ Kd.R k58 58 w' w.heap.size (fun _ => True) v4_ r5 ∧ Below w.heap.size w w':=by
 have hu51:=Tryd.underlying51
 have hu55:=Tryd.underlying55
 have HR0_4:=qh5 hr0_4
 have HC0_4:=qh5 hc0_4
 clear hr0_4 hc0_4
 have HB:=qh5 (Below.refl w.heap.size w)
 have H : ((laws_toWaiterS.f k l0_4).bind fun t259 => (some (a0_0,a0_1,a0_2,a0_3,t259))) = some (r1,r2,r3,r4,r5):=h
 clear h
 replace H:=Option.bind_eq_some_iff.mp H
 obtain ⟨t259,A20,H⟩:=H
 replace H : (some (a0_0,a0_1,a0_2,a0_3,t259)) = some (r1,r2,r3,r4,r5):=H
 have A2:=qh5 A20
 clear A20
 simp only [Option.some.injEq,Prod.mk.injEq] at H
 obtain ⟨rfl,rfl,rfl,rfl,rfl⟩:=H
 go_enter Tryd.func28,Tryd.ntmps28
 go_wp2_with (first|((with_reducible refine gate_dst (N:=1) rfl ?_);refine box_event ?hg (N:=1) ?hd (cs:=#[.string a0_0,.int .i64 a0_1,.int .i64 a0_2,.int .i64 a0_3,.slice A0_4 l0_4.length c0_4]) (t:=51) ?hr ?_;(case hd => rfl);(case hg => rfl);(case hr => first|(go_simp;done)|(go_simp;rfl));intro gb256 hg w3 hbox hb;have n0_:=qh5 (qj5 (by repeat (first|(with_reducible first|exact HB.out|apply qd5|apply qe5|apply qf5)|exact HB.out)) hb);have n1_:=qh5 (hbox);have n2_:=qh5 ((by rw [hg];exact (qk5 (by repeat (first|(with_reducible first|exact HB.out|apply qd5|apply qe5|apply qf5)|exact HB.out))) : w.heap.size ≤ gb256));have n3_:=qh5 ((by rw [hg];exact (qk5 (by repeat (first|(with_reducible first|exact HB.out|apply qd5|apply qe5|apply qf5)|exact HB.out))) : w.heap.size ≤ gb256));clear HB;have HB:=n0_;have BK256:=n1_;have GW256:=n2_;have GE256:=n3_;clear n0_ n1_ n2_ n3_;clear hb hbox hg)|((with_reducible refine gate_dst (N:=2) rfl ?_);refine box_event ?hg (N:=2) ?hd (cs:=#[.string (⟨#[]⟩ : ByteArray),.int .i64 0,.int .i64 0,.int .i64 0,.slice none 0 0]) (t:=55) ?hr ?_;(case hd => rfl);(case hg => rfl);(case hr => first|(go_simp;done)|(go_simp;rfl));intro gb257 hg w4 hbox hb;have n0_:=qh5 (qi5 (g:=gb256) (o:=.cells #[.string a0_0,.int .i64 a0_1,.int .i64 a0_2,.int .i64 a0_3,.slice A0_4 l0_4.length c0_4] 51 (0,0)) (by (with_reducible repeat (first|apply qa5|apply qb5|apply qc5));exact BK256.out) hb);have n1_:=qh5 (qj5 (by repeat (first|(with_reducible first|exact HB.out|apply qd5|apply qe5|apply qf5|refine qg5 ?_ GE256.out)|exact HB.out)) hb);have n2_:=qh5 (hbox);have n3_:=qh5 ((by rw [hg];exact (qk5 (by repeat (first|(with_reducible first|exact HB.out|apply qd5|apply qe5|apply qf5|refine qg5 ?_ GE256.out)|exact HB.out))) : w.heap.size ≤ gb257));have n4_:=qh5 ((by rw [hg];exact (qk5 (by repeat (first|(with_reducible first|exact HB.out|apply qd5|apply qe5|apply qf5|refine qg5 ?_ GE256.out)|exact HB.out))) : w.heap.size ≤ gb257));have n5_:=qh5 ((by rw [hg];exact Nat.ne_of_lt (blk_lt (g:=gb256) (o:=.cells #[.string a0_0,.int .i64 a0_1,.int .i64 a0_2,.int .i64 a0_3,.slice A0_4 l0_4.length c0_4] 51 (0,0)) (by (with_reducible repeat (first|apply qa5|apply qb5|apply qc5));exact BK256.out)) : gb256 ≠ gb257));have n6_:=qh5 ((by rw [hg];exact Nat.ne_of_gt (blk_lt (g:=gb256) (o:=.cells #[.string a0_0,.int .i64 a0_1,.int .i64 a0_2,.int .i64 a0_3,.slice A0_4 l0_4.length c0_4] 51 (0,0)) (by (with_reducible repeat (first|apply qa5|apply qb5|apply qc5));exact BK256.out)) : gb257 ≠ gb256));clear BK256;clear HB;have BK256:=n0_;have HB:=n1_;have BK257:=n2_;have GW257:=n3_;have GE257:=n4_;have NB256_257:=n5_;have NB257_256:=n6_;clear n0_ n1_ n2_ n3_ n4_ n5_ n6_;clear hb hbox hg)|((with_reducible refine gate_dst (N:=3) rfl ?_);refine box_event ?hg (N:=3) ?hd (cs:=#[.string (⟨#[]⟩ : ByteArray),.int .i64 0,.int .i64 0,.int .i64 0,.slice none 0 0]) (t:=55) ?hr ?_;(case hd => rfl);(case hg => rfl);(case hr => first|(go_simp;done)|(go_simp;rfl));intro gb258 hg w5 hbox hb;have n0_:=qh5 (qi5 (g:=gb256) (o:=.cells #[.string a0_0,.int .i64 a0_1,.int .i64 a0_2,.int .i64 a0_3,.slice A0_4 l0_4.length c0_4] 51 (0,0)) (by (with_reducible repeat (first|apply qa5|apply qb5|apply qc5));exact BK256.out) hb);have n1_:=qh5 (qi5 (g:=gb257) (o:=.cells #[.string (⟨#[]⟩ : ByteArray),.int .i64 0,.int .i64 0,.int .i64 0,.slice none 0 0] 55 (0,0)) (by (with_reducible repeat (first|apply qa5|apply qb5|apply qc5));exact BK257.out) hb);have n2_:=qh5 (qj5 (by repeat (first|(with_reducible first|exact HB.out|apply qd5|apply qe5|apply qf5|refine qg5 ?_ GE256.out|refine qg5 ?_ GE257.out)|exact HB.out)) hb);have n3_:=qh5 (hbox);have n4_:=qh5 ((by rw [hg];exact (qk5 (by repeat (first|(with_reducible first|exact HB.out|apply qd5|apply qe5|apply qf5|refine qg5 ?_ GE256.out|refine qg5 ?_ GE257.out)|exact HB.out))) : w.heap.size ≤ gb258));have n5_:=qh5 ((by rw [hg];exact (qk5 (by repeat (first|(with_reducible first|exact HB.out|apply qd5|apply qe5|apply qf5|refine qg5 ?_ GE256.out|refine qg5 ?_ GE257.out)|exact HB.out))) : w.heap.size ≤ gb258));have n6_:=qh5 ((by rw [hg];exact Nat.ne_of_lt (blk_lt (g:=gb256) (o:=.cells #[.string a0_0,.int .i64 a0_1,.int .i64 a0_2,.int .i64 a0_3,.slice A0_4 l0_4.length c0_4] 51 (0,0)) (by (with_reducible repeat (first|apply qa5|apply qb5|apply qc5));exact BK256.out)) : gb256 ≠ gb258));have n7_:=qh5 ((by rw [hg];exact Nat.ne_of_gt (blk_lt (g:=gb256) (o:=.cells #[.string a0_0,.int .i64 a0_1,.int .i64 a0_2,.int .i64 a0_3,.slice A0_4 l0_4.length c0_4] 51 (0,0)) (by (with_reducible repeat (first|apply qa5|apply qb5|apply qc5));exact BK256.out)) : gb258 ≠ gb256));have n8_:=qh5 ((by rw [hg];exact Nat.ne_of_lt (blk_lt (g:=gb257) (o:=.cells #[.string (⟨#[]⟩ : ByteArray),.int .i64 0,.int .i64 0,.int .i64 0,.slice none 0 0] 55 (0,0)) (by (with_reducible repeat (first|apply qa5|apply qb5|apply qc5));exact BK257.out)) : gb257 ≠ gb258));have n9_:=qh5 ((by rw [hg];exact Nat.ne_of_gt (blk_lt (g:=gb257) (o:=.cells #[.string (⟨#[]⟩ : ByteArray),.int .i64 0,.int .i64 0,.int .i64 0,.slice none 0 0] 55 (0,0)) (by (with_reducible repeat (first|apply qa5|apply qb5|apply qc5));exact BK257.out)) : gb258 ≠ gb257));clear BK256;clear BK257;clear HB;have BK256:=n0_;have BK257:=n1_;have HB:=n2_;have BK258:=n3_;have GW258:=n4_;have GE258:=n5_;have NB256_258:=n6_;have NB258_256:=n7_;have NB257_258:=n8_;have NB258_257:=n9_;clear n0_ n1_ n2_ n3_ n4_ n5_ n6_ n7_ n8_ n9_;clear hb hbox hg;have hnb6:=NB256_257.out;have hnc6:=NB257_256.out;have hnb7:=NB256_258.out;have hnc7:=NB258_256.out;have hcz8_0 : w5.cell? ⟨gb256,0,none⟩ = some (.string a0_0):=(blk_cell BK256.out 0).trans rfl;have hcz8_1 : w5.cell? ⟨gb256,1,none⟩ = some (.int .i64 a0_1):=(blk_cell BK256.out 1).trans rfl;have hcz8_2 : w5.cell? ⟨gb256,2,none⟩ = some (.int .i64 a0_2):=(blk_cell BK256.out 2).trans rfl;have hcz8_3 : w5.cell? ⟨gb256,3,none⟩ = some (.int .i64 a0_3):=(blk_cell BK256.out 3).trans rfl;have hcz8_4 : w5.cell? ⟨gb256,4,none⟩ = some (.slice A0_4 l0_4.length c0_4):=(blk_cell BK256.out 4).trans rfl;have hfz8_0:=sJ BK256.out 0;have hfz8_1:=sJ BK256.out 1;have hfz8_2:=sJ BK256.out 2;have hfz8_3:=sJ BK256.out 3;have hfz8_4:=sJ BK256.out 4;have hnb9:=NB258_257.out;have hnc9:=NB257_258.out;have hcz10_0 : w5.cell? ⟨gb258,0,none⟩ = some (.string (⟨#[]⟩ : ByteArray)):=(blk_cell BK258.out 0).trans rfl;have hcz10_1 : w5.cell? ⟨gb258,1,none⟩ = some (.int .i64 0):=(blk_cell BK258.out 1).trans rfl;have hcz10_2 : w5.cell? ⟨gb258,2,none⟩ = some (.int .i64 0):=(blk_cell BK258.out 2).trans rfl;have hcz10_3 : w5.cell? ⟨gb258,3,none⟩ = some (.int .i64 0):=(blk_cell BK258.out 3).trans rfl;have hcz10_4 : w5.cell? ⟨gb258,4,none⟩ = some (.slice none 0 0):=(blk_cell BK258.out 4).trans rfl;have hfz10_0:=sJ BK258.out 0;have hfz10_1:=sJ BK258.out 1;have hfz10_2:=sJ BK258.out 2;have hfz10_3:=sJ BK258.out 3;have hfz10_4:=sJ BK258.out 4)|((with_reducible refine gate_callee (f:=41) rfl ?_);refine goesL_ (some 18) rfl rfl Tryd.func41 (by kernel_rfl) rfl #[.slice A0_4 l0_4.length c0_4] rfl (by (try simp only [sE,sH,sI]);first|done|rfl|(simp only [sG,sF];rfl)) ?_;(with_reducible refine (laws_toWaiterS.calls k _ _ l0_4 t259 _ ?side1 ?side2 A2.out).mono ?_);(case side1 => exact Kd.C_below HR0_4.out (by repeat (first|(with_reducible first|exact HB.out|apply qd5|apply qe5|apply qf5|refine qg5 ?_ GE256.out|refine qg5 ?_ GE257.out|refine qg5 ?_ GE258.out)|exact HB.out)));(case side2 => exact HC0_4.out);rintro e w11 ⟨v260,rfl,ho0,hb⟩;refine ⟨_,rfl,?_⟩;have n0_:=qh5 (Kd.R_lower ho0 (qk5 (by repeat (first|(with_reducible first|exact HB.out|apply qd5|apply qe5|apply qf5|refine qg5 ?_ GE256.out|refine qg5 ?_ GE257.out|refine qg5 ?_ GE258.out)|exact HB.out))));have n1_:=qh5 (qi5 (g:=gb256) (o:=.cells #[.string a0_0,.int .i64 a0_1,.int .i64 a0_2,.int .i64 a0_3,.slice A0_4 l0_4.length c0_4] 51 (0,0)) (by (with_reducible repeat (first|apply qa5|apply qb5|apply qc5));refine blk_far ?_ NB256_258.out _;(with_reducible repeat (first|apply qa5|apply qb5|apply qc5));refine blk_far ?_ NB256_258.out _;(with_reducible repeat (first|apply qa5|apply qb5|apply qc5));refine blk_far ?_ NB256_258.out _;(with_reducible repeat (first|apply qa5|apply qb5|apply qc5));refine blk_far ?_ NB256_258.out _;(with_reducible repeat (first|apply qa5|apply qb5|apply qc5));exact BK256.out) hb);have n2_:=qh5 (qi5 (g:=gb257) (o:=.cells #[.string (⟨#[]⟩ : ByteArray),.int .i64 0,.int .i64 0,.int .i64 0,.slice none 0 0] 55 (0,0)) (by (with_reducible repeat (first|apply qa5|apply qb5|apply qc5));refine blk_far ?_ NB257_258.out _;(with_reducible repeat (first|apply qa5|apply qb5|apply qc5));refine blk_far ?_ NB257_258.out _;(with_reducible repeat (first|apply qa5|apply qb5|apply qc5));refine blk_far ?_ NB257_258.out _;(with_reducible repeat (first|apply qa5|apply qb5|apply qc5));refine blk_far ?_ NB257_258.out _;(with_reducible repeat (first|apply qa5|apply qb5|apply qc5));exact BK257.out) hb);have n3_:=qh5 (qi5 (g:=gb258) (o:=.cells #[.string a0_0,.int .i64 a0_1,.int .i64 a0_2,.int .i64 a0_3,.slice none 0 0] 55 (0,0)) (by (with_reducible repeat (first|apply qa5|apply qb5|apply qc5));refine blk_put (cs:=#[.string a0_0,.int .i64 a0_1,.int .i64 a0_2,.int .i64 0,.slice none 0 0]) ?_ 3 _ rfl;(with_reducible repeat (first|apply qa5|apply qb5|apply qc5));refine blk_put (cs:=#[.string a0_0,.int .i64 a0_1,.int .i64 0,.int .i64 0,.slice none 0 0]) ?_ 2 _ rfl;(with_reducible repeat (first|apply qa5|apply qb5|apply qc5));refine blk_put (cs:=#[.string a0_0,.int .i64 0,.int .i64 0,.int .i64 0,.slice none 0 0]) ?_ 1 _ rfl;(with_reducible repeat (first|apply qa5|apply qb5|apply qc5));refine blk_put (cs:=#[.string (⟨#[]⟩ : ByteArray),.int .i64 0,.int .i64 0,.int .i64 0,.slice none 0 0]) ?_ 0 _ rfl;(with_reducible repeat (first|apply qa5|apply qb5|apply qc5));exact BK258.out) hb);have n4_:=qh5 (qj5 (by repeat (first|(with_reducible first|exact HB.out|apply qd5|apply qe5|apply qf5|refine qg5 ?_ GE256.out|refine qg5 ?_ GE257.out|refine qg5 ?_ GE258.out)|exact HB.out)) hb);clear BK256;clear BK257;clear BK258;clear HB;have HO261:=n0_;have BK256:=n1_;have BK257:=n2_;have BK258:=n3_;have HB:=n4_;clear n0_ n1_ n2_ n3_ n4_;(try clear hb);(try clear hb2);(try clear hk);(try clear hi);(try clear ho0);obtain ⟨Ao12,co12,eo12⟩:=Kd.R_slice HO261.out;subst eo12;have hcz13_0 : w11.cell? ⟨gb258,0,none⟩ = some (.string a0_0):=(blk_cell BK258.out 0).trans rfl;have hcz13_1 : w11.cell? ⟨gb258,1,none⟩ = some (.int .i64 a0_1):=(blk_cell BK258.out 1).trans rfl;have hcz13_2 : w11.cell? ⟨gb258,2,none⟩ = some (.int .i64 a0_2):=(blk_cell BK258.out 2).trans rfl;have hcz13_3 : w11.cell? ⟨gb258,3,none⟩ = some (.int .i64 a0_3):=(blk_cell BK258.out 3).trans rfl;have hcz13_4 : w11.cell? ⟨gb258,4,none⟩ = some (.slice none 0 0):=(blk_cell BK258.out 4).trans rfl;have hfz13_0:=sJ BK258.out 0;have hfz13_1:=sJ BK258.out 1;have hfz13_2:=sJ BK258.out 2;have hfz13_3:=sJ BK258.out 3;have hfz13_4:=sJ BK258.out 4;have hcz14_0 : w11.cell? ⟨gb257,0,none⟩ = some (.string (⟨#[]⟩ : ByteArray)):=(blk_cell BK257.out 0).trans rfl;have hcz14_1 : w11.cell? ⟨gb257,1,none⟩ = some (.int .i64 0):=(blk_cell BK257.out 1).trans rfl;have hcz14_2 : w11.cell? ⟨gb257,2,none⟩ = some (.int .i64 0):=(blk_cell BK257.out 2).trans rfl;have hcz14_3 : w11.cell? ⟨gb257,3,none⟩ = some (.int .i64 0):=(blk_cell BK257.out 3).trans rfl;have hcz14_4 : w11.cell? ⟨gb257,4,none⟩ = some (.slice none 0 0):=(blk_cell BK257.out 4).trans rfl;have hfz14_0:=sJ BK257.out 0;have hfz14_1:=sJ BK257.out 1;have hfz14_2:=sJ BK257.out 2;have hfz14_3:=sJ BK257.out 3;have hfz14_4:=sJ BK257.out 4))
 refine bodyPost_ret (results_cell_row rfl _ _ gb257 55 #[.string a0_0,.int .i64 a0_1,.int .i64 a0_2,.int .i64 a0_3,.slice Ao12 t259.length co12] (0,0) _ rfl (by (with_reducible repeat (first|apply qa5|apply qb5|apply qc5));refine blk_put (cs:=#[.string a0_0,.int .i64 a0_1,.int .i64 a0_2,.int .i64 a0_3,.slice none 0 0]) ?_ 4 _ rfl;(with_reducible repeat (first|apply qa5|apply qb5|apply qc5));refine blk_put (cs:=#[.string a0_0,.int .i64 a0_1,.int .i64 a0_2,.int .i64 0,.slice none 0 0]) ?_ 3 _ rfl;(with_reducible repeat (first|apply qa5|apply qb5|apply qc5));refine blk_put (cs:=#[.string a0_0,.int .i64 a0_1,.int .i64 0,.int .i64 0,.slice none 0 0]) ?_ 2 _ rfl;(with_reducible repeat (first|apply qa5|apply qb5|apply qc5));refine blk_put (cs:=#[.string a0_0,.int .i64 0,.int .i64 0,.int .i64 0,.slice none 0 0]) ?_ 1 _ rfl;(with_reducible repeat (first|apply qa5|apply qb5|apply qc5));refine blk_put (cs:=#[.string (⟨#[]⟩ : ByteArray),.int .i64 0,.int .i64 0,.int .i64 0,.slice none 0 0]) ?_ 0 _ rfl;(with_reducible repeat (first|apply qa5|apply qb5|apply qc5));refine blk_far ?_ NB257_258.out _;(with_reducible repeat (first|apply qa5|apply qb5|apply qc5));exact BK257.out) Tryd.underlying55 rfl (by kernel_rfl)) rfl ?_
 exact ⟨_,by first|rfl|(simp [errW_none,errW_some] <;> rfl)|(simp [*,errW_none,errW_some] <;> rfl),by (with_reducible repeat (first|apply Kd.R_alloc|apply Kd.R_drewN|apply Kd.R_drew));exact Kd.R_mono (Kd.R_far (p:=⟨gb257,4,none⟩) (Kd.R_far (p:=⟨gb257,3,none⟩) (Kd.R_far (p:=⟨gb257,2,none⟩) (Kd.R_far (p:=⟨gb257,1,none⟩) (Kd.R_far (p:=⟨gb257,0,none⟩) (Kd.R_far (p:=⟨gb258,4,none⟩) (Kd.R_types (Kd.R_types HO261.out BK258.out (by decide)) BK257.out (by decide)) (fun _ hk => hk.1.2) (.slice Ao12 t259.length co12)) (fun _ hk => hk.2) (.string a0_0)) (fun _ hk => hk.2) (.int .i64 a0_1)) (fun _ hk => hk.2) (.int .i64 a0_2)) (fun _ hk => hk.2) (.int .i64 a0_3)) (fun _ hk => hk.2) (.slice Ao12 t259.length co12)) (fun _ hk => trivial),by repeat (first|(with_reducible first|exact HB.out|apply qd5|apply qe5|apply qf5|refine qg5 ?_ GE256.out|refine qg5 ?_ GE257.out|refine qg5 ?_ GE258.out)|exact HB.out)⟩

/-! ### laws_toLockS: function 14 -/
def laws_toLockS.l0 : Nat → List (S51) → List (S55) → Int → Option ((List (S55)))
 | 0,_,_,_ => none
 | k + 1,x0,x3,x4 => if x4 < (x0.length : Int) then (if 0 ≤ x4 then ((laws_toLock.f k ((rd_T51 x0 x4).f0) ((rd_T51 x0 x4).f1) ((rd_T51 x0 x4).f2) ((rd_T51 x0 x4).f3) ((rd_T51 x0 x4).f4)).bind fun bt266 => (if x4 < (x3.length : Int) then (laws_toLockS.l0 k x0 (x3.set (x4 : Int).toNat (⟨bt266.1,bt266.2.1,bt266.2.2.1,bt266.2.2.2.1,bt266.2.2.2.2⟩ : S55)) (wrap64 (x4 + 1))) else (none))) else (none)) else (some x3)
def laws_toLockS.f (k : Nat) (l0 : List (S51)) : Option ((List (S55))):=if 0 ≤ (l0.length : Int) then (if ((l0.length : Int) : Int).toNat ≤ 4398046511104 then (laws_toLockS.l0 k l0 (List.replicate ((l0.length : Int) : Int).toNat z55) 0) else (none)) else (none)
set_option maxHeartbeats 8000000 in
set_option maxRecDepth 100000 in
theorem laws_toLockS.calls (k : Nat) (A0 : Option Addr) (c0 : Nat) (l0 : List (S51)) (r : List (S55)) (w : World) (hr0 : Kd.C k51 w A0 l0.length l0) (hc0 : l0.length ≤ c0) (h : laws_toLockS.f k l0 = some r) :
  Calls Tryd.prog 14 #[.slice A0 l0.length c0] w fun e w' => ∃ v0_ : Value,e = .returned (v0_) ∧ Kd.S k55 55 w' w.heap.size (fun _ => True) v0_ r ∧ Below w.heap.size w w':=by
 have hu51:=Tryd.underlying51
 have hu55:=Tryd.underlying55
 have HR0:=qh5 hr0
 have HC0:=qh5 hc0
 clear hr0 hc0
 have HB:=qh5 (Below.refl w.heap.size w)
 have H : (if 0 ≤ (l0.length : Int) then (if ((l0.length : Int) : Int).toNat ≤ 4398046511104 then (laws_toLockS.l0 k l0 (List.replicate ((l0.length : Int) : Int).toNat z55) 0) else (none)) else (none)) = some r:=h
 clear h
 by_cases c2 : 0 ≤ (l0.length : Int)
 ·
  rw [if_pos c2] at H
  have c2b0:=eq_true c2
  have c2b1 : decide (0 ≤ (l0.length : Int)) = true:=decide_eq_true c2
  clear c2
  by_cases c3 : ((l0.length : Int) : Int).toNat ≤ 4398046511104
  ·
   rw [if_pos c3] at H
   have c3b0:=eq_true c3
   have c3b1 : decide (((l0.length : Int) : Int).toNat ≤ 4398046511104) = true:=decide_eq_true c3
   clear c3
   obtain ⟨y262,hy262⟩ : ∃ y_ : List (S55),y_ = (List.replicate ((l0.length : Int) : Int).toNat z55):=⟨_,rfl⟩
   replace H : (laws_toLockS.l0 k l0 y262 0) = some r:=by first|(rw [hy262];with_reducible exact H)|(have H2_:=(Option.bind_some _ _).symm.trans H;rw [hy262];with_reducible exact H2_)|(have H2_:=(Option.bind_some _ _).symm.trans H;with_reducible exact H2_)|with_reducible exact H|(rw [hy262];exact H)|exact H
   have Ny262:=qh5 hy262
   clear hy262
   have H':=qh5 H
   clear H
   go_enter Tryd.func14,Tryd.ntmps14
   go_wp2_with (first|((with_reducible refine gate_dst (N:=7) rfl ?_);refine Kd.S_make k55 _ 55 rfl (N:=7) rfl 29 _ _ rfl (l0.length : Int) rfl rfl Tryd.underlying29 (.agg #[(.string ⟨#[]⟩),(.int .i64 0),(.int .i64 0),(.int .i64 0),(.slice none 0 0)]) 64 info55 rfl (by decide) (by omega) z55 (ok:=fun _ => True) (okp:=fun _ => True) (k55_mkM _ _ _ z55 (Kd.R_nil _ _ _ _ _)) (fun _ hk => hk) trivial (sM (by first|(with_reducible assumption)|assumption)) (Nat.le_trans (Nat.mul_le_mul_right _ (sM (by first|(with_reducible assumption)|assumption) : (l0.length : Int).toNat ≤ 4398046511104)) (by omega)) (Below.refl _ _) (Nat.le_refl _) ?_;intro v263 w4 ho5 hb hg_ hnew_;clear hg_ hnew_;(first|rw [← Ny262.out] at ho5|(simp only [Int.reduceToNat] at ho5;rw [← Ny262.out] at ho5));have n0_:=qh5 (Kd.S_lower ho5 (qk5 (by repeat (first|(with_reducible first|exact HB.out|apply qd5|apply qe5|apply qf5)|exact HB.out))));have n1_:=qh5 (qj5 (by repeat (first|(with_reducible first|exact HB.out|apply qd5|apply qe5|apply qf5)|exact HB.out)) hb);clear HB;have HO264:=n0_;have HB:=n1_;clear n0_ n1_;clear hb ho5))
   go_loopg [4] k (fun kq v4 w' => ∃ (x3_1 : List (S55)) (x4_1 : Int),v4 = .int .i64 x4_1 ∧ Aside0 (laws_toLockS.l0 kq l0 x3_1 x4_1 = some r) ∧ Aside0 (kq ≤ k) ∧ Aside0 (Kd.S k55 55 w' w.heap.size (fun _ => True) v263 x3_1) ∧ Aside0 (Below w.heap.size w w'))
   case atStart => exact ⟨(y262),(0),(by first|rfl|(simp;done)|(simp [*];done)),H',⟨Nat.le_refl _⟩,⟨by (with_reducible repeat (first|apply Kd.S_alloc|apply Kd.S_drewN|apply Kd.S_drew));exact HO264.out⟩,⟨by repeat (first|(with_reducible first|exact HB.out|apply qd5|apply qe5|apply qf5)|exact HB.out)⟩⟩
   case round =>
    clear H'
    try clear c1
    try clear c2
    try clear c2b0
    try clear c2b1
    try clear p2
    try clear c3
    try clear c3b0
    try clear c3b1
    obtain ⟨x3_1,x4_1,rfl,HA,HK1,HO_3,HB⟩:=hrel
    cases gk with
    | zero => exact absurd HA.out (by simp [laws_toLockS.l0])
    | succ k1 =>
     have H:=HA.out
     clear HA
     simp only [laws_toLockS.l0] at H
     by_cases c6 : x4_1 < (l0.length : Int)
     ·
      rw [if_pos c6] at H
      have c6b0 : decide (x4_1 < (l0.length : Int)) = true:=decide_eq_true c6
      clear c6
      by_cases c7 : 0 ≤ x4_1
      ·
       rw [if_pos c7] at H
       have c7b0 : decide (0 ≤ x4_1) = true:=decide_eq_true c7
       clear c7
       replace H:=Option.bind_eq_some_iff.mp H
       obtain ⟨⟨t266,t267,t268,t269,t270⟩,A80,H⟩:=H
       replace H : (if x4_1 < (x3_1.length : Int) then (laws_toLockS.l0 k1 l0 (x3_1.set (x4_1 : Int).toNat (⟨t266,t267,t268,t269,t270⟩ : S55)) (wrap64 (x4_1 + 1))) else (none)) = some r:=H
       have A8:=qh5 A80
       clear A80
       by_cases c9 : x4_1 < (x3_1.length : Int)
       ·
        rw [if_pos c9] at H
        have c9b0 : decide (x4_1 < (x3_1.length : Int)) = true:=decide_eq_true c9
        clear c9
        obtain ⟨y273,hy273⟩ : ∃ y_ : List (S55),y_ = (x3_1.set (x4_1 : Int).toNat (⟨t266,t267,t268,t269,t270⟩ : S55)):=⟨_,rfl⟩
        replace H : (laws_toLockS.l0 k1 l0 y273 (wrap64 (x4_1 + 1))) = some r:=by first|(rw [hy273];with_reducible exact H)|(have H2_:=(Option.bind_some _ _).symm.trans H;rw [hy273];with_reducible exact H2_)|(have H2_:=(Option.bind_some _ _).symm.trans H;with_reducible exact H2_)|with_reducible exact H|(rw [hy273];exact H)|exact H
        have Ny273:=qh5 hy273
        clear hy273
        have H':=qh5 H
        clear H
        have p265 : 0 ≤ (x4_1 : Int):=sM (by first|(with_reducible assumption)|assumption)
        have q265 : x4_1 < (l0.length : Int):=sM (by first|(with_reducible assumption)|assumption)
        obtain ⟨ad265,A265_4,c265_4,e265,hx265_0,hx265_1,hx265_2,hx265_3,hx265_4,hl265_4,hi265_4⟩:=at_T51 HR0.out x4_1 p265 q265
        cases e265
        replace hx265_0:=(HB.out.cell (sD w _ hx265_0)).trans hx265_0
        replace hx265_1:=(HB.out.cell (sD w _ hx265_1)).trans hx265_1
        replace hx265_2:=(HB.out.cell (sD w _ hx265_2)).trans hx265_2
        replace hx265_3:=(HB.out.cell (sD w _ hx265_3)).trans hx265_3
        replace hx265_4:=(HB.out.cell (sD w _ hx265_4)).trans hx265_4
        have HR265_4:=qh5 hi265_4
        have HC265_4:=qh5 hl265_4
        clear hi265_4 hl265_4
        replace p265:=eq_true p265
        replace q265:=eq_true q265
        go_wp2_with (first|((with_reducible refine gate_callee (f:=28) rfl ?_);refine goesL_ (some 20) rfl rfl Tryd.func28 (by kernel_rfl) rfl #[.agg #[.string ((rd_T51 l0 x4_1).f0),.int .i64 ((rd_T51 l0 x4_1).f1),.int .i64 ((rd_T51 l0 x4_1).f2),.int .i64 ((rd_T51 l0 x4_1).f3),.slice A265_4 ((rd_T51 l0 x4_1).f4).length c265_4]] rfl (by (try simp only [sE,sH,sI]);first|done|rfl|(simp only [sG,sF];rfl)) ?_;(with_reducible refine (laws_toLock.calls k1 ((rd_T51 l0 x4_1).f0) ((rd_T51 l0 x4_1).f1) ((rd_T51 l0 x4_1).f2) ((rd_T51 l0 x4_1).f3) _ _ ((rd_T51 l0 x4_1).f4) t266 t267 t268 t269 t270 _ ?side1 ?side2 A8.out).mono ?_);(case side1 => repeat (first|exact (Kd.C_below HR265_4.out HB.out)|(with_reducible refine Kd.C_alloc ?_ _)|(with_reducible refine Kd.C_drewN ?_ _)|(with_reducible refine Kd.C_drew ?_)));(case side2 => exact HC265_4.out);rintro e w11 ⟨v271,rfl,ho0,hb⟩;refine ⟨_,rfl,?_⟩;have hst_v271:=store_R_ (P:=Tryd.prog) ho0;have n0_:=qh5 (Kd.S_elder' (by (with_reducible repeat (first|apply Kd.S_alloc|apply Kd.S_drewN|apply Kd.S_drew));exact HO_3.out) (Kd.R_base ho0) hb);have n1_:=qh5 (Kd.R_lower ho0 (qk5 (by repeat (first|(with_reducible first|exact HB.out|apply qd5|apply qe5|apply qf5)|exact HB.out))));have n2_:=qh5 (qj5 (by repeat (first|(with_reducible first|exact HB.out|apply qd5|apply qe5|apply qf5)|exact HB.out)) hb);clear HO_3;clear HB;have HO_3:=n0_;have HO272:=n1_;have HB:=n2_;clear n0_ n1_ n2_;(try clear hb);(try clear hb2);(try clear hk);(try clear hi);(try clear ho0);have p10 : 0 ≤ (x4_1 : Int):=sM (by first|(with_reducible assumption)|assumption);have q10 : (x4_1 : Int) < ((x3_1.length : Int) : Int):=sM (by first|(with_reducible assumption)|assumption);obtain ⟨go10,co10,eo10,gb10,gl10,cl10,HG10⟩:=Kd.S_form HO_3.out (by omega);(first|cases eo10|(injection eo10 with ea_ en_ ec_;(first|subst ea_|(injection ea_ with ea_;subst ea_));subst ec_;clear en_));have GB10:=qh5 gb10;have GG10:=qh5 HG10;clear gb10 gl10 HG10;obtain ⟨_,ce10,hcl10,hM10,hcc10,hfr10,_,_⟩:=Kd.S_elem HO_3.out z55 (x4_1 : Int) p10 q10;obtain ⟨ve10_4,rfl,ge10_4⟩:=k55_openM hM10;have hx10_0 : w11.cell? ⟨go10,(x4_1 : Int).toNat * 5,none⟩ = some (.string ((rd_T55 x3_1 x4_1).f0)):=hcc10 0 _ rfl;have hx10_1 : w11.cell? ⟨go10,(x4_1 : Int).toNat * 5 + 1,none⟩ = some (.int .i64 ((rd_T55 x3_1 x4_1).f1)):=hcc10 1 _ rfl;have hx10_2 : w11.cell? ⟨go10,(x4_1 : Int).toNat * 5 + 2,none⟩ = some (.int .i64 ((rd_T55 x3_1 x4_1).f2)):=hcc10 2 _ rfl;have hx10_3 : w11.cell? ⟨go10,(x4_1 : Int).toNat * 5 + 3,none⟩ = some (.int .i64 ((rd_T55 x3_1 x4_1).f3)):=hcc10 3 _ rfl;have hx10_4 : w11.cell? ⟨go10,(x4_1 : Int).toNat * 5 + 4,none⟩ = some (ve10_4):=hcc10 4 _ rfl;have hf10_0 : w11.frozen? ⟨go10,(x4_1 : Int).toNat * 5,none⟩ = false:=hfr10 0 (by decide);have hf10_1 : w11.frozen? ⟨go10,(x4_1 : Int).toNat * 5 + 1,none⟩ = false:=hfr10 1 (by decide);have hf10_2 : w11.frozen? ⟨go10,(x4_1 : Int).toNat * 5 + 2,none⟩ = false:=hfr10 2 (by decide);have hf10_3 : w11.frozen? ⟨go10,(x4_1 : Int).toNat * 5 + 3,none⟩ = false:=hfr10 3 (by decide);have hf10_4 : w11.frozen? ⟨go10,(x4_1 : Int).toNat * 5 + 4,none⟩ = false:=hfr10 4 (by decide);clear hcl10 hcc10 hfr10 hM10;replace p10:=eq_true p10;replace q10:=eq_true q10;have n_:=qh5 (Kd.S_mono (ok':=(fun k_ => some k_ ≠ (v271 : Value).ownBlock)) HO_3.out (fun k_ hk => hk.2));clear HO_3;have HO_3:=n_;clear n_;have HX12:=qh5 (show Kd.S k55 55 w11 w.heap.size (fun k_ => ((fun _ => True)) k_ ∧ ¬ ((fun k_ => some k_ = (v271 : Value).ownBlock)) k_) (.slice (some ⟨go10,0,none⟩) x3_1.length co10) x3_1 from (by (with_reducible repeat (first|apply Kd.S_alloc|apply Kd.S_drewN|apply Kd.S_drew));exact Kd.S_mono HO_3.out (fun k_ hk => ⟨trivial,fun e_ => hk e_⟩)));obtain ⟨oki12,ce12,hcl12,hM12,hcc12,hfr12,hoki12,hH12⟩:=Kd.S_elem HX12.out z55 (x4_1 : Int) (sM (by first|(with_reducible assumption)|assumption)) (by have h_ : (x4_1 : Int) < ((x3_1.length : Int) : Int):=sM (by first|(with_reducible assumption)|assumption);first|exact h_|(have e_:=(Kd.S_reads' HO_3.out).1;omega)|simpa using h_);obtain ⟨ve12_4,rfl,ge12_4⟩:=k55_openM hM12;have HP12:=Kd.S_seg hH12 (sM (by first|(with_reducible assumption)|assumption)) (by have h_ : (x4_1 : Int) < ((x3_1.length : Int) : Int):=sM (by first|(with_reducible assumption)|assumption);first|exact h_|(have e_:=(Kd.S_reads' HO_3.out).1;omega)|simpa using h_) (seg:=[.string t266,.int .i64 t267,.int .i64 t268,.int .i64 t269,v271]) (j:=0) (show 5 ≤ 5 from by decide) (x':=(⟨t266,t267,t268,t269,t270⟩ : S55)) (k55_mkM _ _ _ (⟨t266,t267,t268,t269,t270⟩ : S55) (Kd.R_mono (Kd.R_tight rfl (Kd.R_mono (ok':=fun k_ => ((fun _ => True)) k_ ∧ k_ ≠ go10) (Kd.R_apart' (HO272.out) (Kd.S_typed HO_3.out) (by decide)) (fun k_ hk => ⟨trivial,fun e_ => (hk.2) (by rw [e_];rfl)⟩))) (fun _ h_ => Or.inr (h_)))) (fun _ hk => hk) (fun k_ hk_ => ((Kd.R_mono (ok':=fun k_ => ((fun _ => True)) k_ ∧ k_ ≠ go10) (Kd.R_apart' (HO272.out) (Kd.S_typed HO_3.out) (by decide)) (fun k_ hk => ⟨trivial,fun e_ => (hk.2) (by rw [e_];rfl)⟩))).1 k_ hk_.symm);have hx12_0:=hcc12 0 _ rfl;(try simp only [show (k55).sz = 5 from rfl,Nat.mul_one,Nat.add_zero] at hx12_0);have hf12_0:=hfr12 0 (by decide);(try simp only [show (k55).sz = 5 from rfl,Nat.mul_one,Nat.add_zero] at hf12_0);have hx12_1:=hcc12 1 _ rfl;(try simp only [show (k55).sz = 5 from rfl,Nat.mul_one,Nat.add_zero] at hx12_1);have hf12_1:=hfr12 1 (by decide);(try simp only [show (k55).sz = 5 from rfl,Nat.mul_one,Nat.add_zero] at hf12_1);have hx12_2:=hcc12 2 _ rfl;(try simp only [show (k55).sz = 5 from rfl,Nat.mul_one,Nat.add_zero] at hx12_2);have hf12_2:=hfr12 2 (by decide);(try simp only [show (k55).sz = 5 from rfl,Nat.mul_one,Nat.add_zero] at hf12_2);have hx12_3:=hcc12 3 _ rfl;(try simp only [show (k55).sz = 5 from rfl,Nat.mul_one,Nat.add_zero] at hx12_3);have hf12_3:=hfr12 3 (by decide);(try simp only [show (k55).sz = 5 from rfl,Nat.mul_one,Nat.add_zero] at hf12_3);have hx12_4:=hcc12 4 _ rfl;(try simp only [show (k55).sz = 5 from rfl,Nat.mul_one,Nat.add_zero] at hx12_4);have hf12_4:=hfr12 4 (by decide);(try simp only [show (k55).sz = 5 from rfl,Nat.mul_one,Nat.add_zero] at hf12_4);clear hcl12 hcc12 hfr12 hM12 hoki12 hH12)|((with_reducible refine gate_store (t:=55) (p:=21) rfl ?_);refine store_event (t:=55) (p:=21) (v:=?vo_w13) (w1:=(((((w11.setCell ⟨go10,(x4_1 : Int).toNat * 5,none⟩ (.string t266)).setCell ⟨go10,(x4_1 : Int).toNat * 5 + 1,none⟩ (.int .i64 t267)).setCell ⟨go10,(x4_1 : Int).toNat * 5 + 2,none⟩ (.int .i64 t268)).setCell ⟨go10,(x4_1 : Int).toNat * 5 + 3,none⟩ (.int .i64 t269)).setCell ⟨go10,(x4_1 : Int).toNat * 5 + 4,none⟩ (v271))) ?hg ?ho ?hn ?hr ?_;(case ho => rfl);(case hg => rfl);(case hn => rfl);(case hr => first|(go_simp;done)|(go_simp;rfl));intro w13 hw;have hg : w11.grownBy w13 (some go10):=(by rw [hw];exact HP12.2);have hp_ : Kd.S k55 55 w13 w.heap.size (fun _ => True) (.slice (some ⟨go10,0,none⟩) x3_1.length co10) y273:=(by rw [hw,Ny273.out];exact HP12.1);clear HP12;have n0_:=qh5 (hp_);have n1_:=qh5 ((by rw [hw];exact qg5 (qg5 (qg5 (qg5 (qg5 (HB.out) GB10.out) GB10.out) GB10.out) GB10.out) GB10.out : Below w.heap.size w w13));clear HO_3;clear HB;clear HO272;have HO_3:=n0_;have HB:=n1_;clear n0_ n1_;clear hg hw hp_))
        go_roundg k1
        case measure => have:=HK1.out;omega
        case rel => exact ⟨(y273),(wrap64 (x4_1 + 1)),(by first|rfl|(simp;done)|(simp [*];done)),H',⟨by have:=HK1.out;omega⟩,⟨by (with_reducible repeat (first|apply Kd.S_alloc|apply Kd.S_drewN|apply Kd.S_drew));exact HO_3.out⟩,⟨by repeat (first|(with_reducible first|exact HB.out|apply qd5|apply qe5|apply qf5)|exact HB.out)⟩⟩
       ·
        rw [if_neg c9] at H
        exact absurd H (by simp)
      ·
       rw [if_neg c7] at H
       exact absurd H (by simp)
     ·
      rw [if_neg c6] at H
      have c6b0 : decide (x4_1 < (l0.length : Int)) = false:=decide_eq_false c6
      clear c6
      obtain rfl:=sO H
      go_wp2
      go_ret
      exact ⟨_,by first|rfl|(simp [errW_none,errW_some] <;> rfl)|(simp [*,errW_none,errW_some] <;> rfl),by (with_reducible repeat (first|apply Kd.S_alloc|apply Kd.S_drewN|apply Kd.S_drew));exact HO_3.out,by repeat (first|(with_reducible first|exact HB.out|apply qd5|apply qe5|apply qf5)|exact HB.out)⟩
  ·
   rw [if_neg c3] at H
   exact absurd H (by simp)
 ·
  rw [if_neg c2] at H
  exact absurd H (by simp)

/-! ### laws_toAnswer: function 42 -/
def laws_toAnswer.f (a0_0 : Int) (a0_1 : Int) (a0_2 : Int) (a0_3 : Int) : Option (Int × Int × Int × Int):=some (a0_0,a0_1,a0_2,a0_3)
set_option maxHeartbeats 8000000 in
set_option maxRecDepth 100000 in
theorem laws_toAnswer.calls (a0_0 : Int) (a0_1 : Int) (a0_2 : Int) (a0_3 : Int) (r1 : Int) (r2 : Int) (r3 : Int) (r4 : Int) (w : World) (h : laws_toAnswer.f a0_0 a0_1 a0_2 a0_3 = some (r1,r2,r3,r4)) :
  Calls Tryd.prog 42 #[.agg #[.int .i64 a0_0,.int .i64 a0_1,.int .i64 a0_2,.int .i64 a0_3]] w fun e w' => e = .returned (.agg #[.int .i64 r1,.int .i64 r2,.int .i64 r3,.int .i64 r4]) ∧ Below w.heap.size w w':=by
 have hu72:=Tryd.underlying72
 have hu60:=Tryd.underlying60
 have HB:=qh5 (Below.refl w.heap.size w)
 have H : (some (a0_0,a0_1,a0_2,a0_3)) = some (r1,r2,r3,r4):=h
 clear h
 simp only [Option.some.injEq,Prod.mk.injEq] at H
 obtain ⟨rfl,rfl,rfl,rfl⟩:=H
 go_enter Tryd.func42,Tryd.ntmps42
 go_wp2_with (first|((with_reducible refine gate_dst (N:=1) rfl ?_);refine box_event ?hg (N:=1) ?hd (cs:=#[.int .i64 a0_0,.int .i64 a0_1,.int .i64 a0_2,.int .i64 a0_3]) (t:=72) ?hr ?_;(case hd => rfl);(case hg => rfl);(case hr => first|(go_simp;done)|(go_simp;rfl));intro gb274 hg w2 hbox hb;have n0_:=qh5 (qj5 (by repeat (first|(with_reducible first|exact HB.out|apply qd5|apply qe5|apply qf5)|exact HB.out)) hb);have n1_:=qh5 (hbox);have n2_:=qh5 ((by rw [hg];exact (qk5 (by repeat (first|(with_reducible first|exact HB.out|apply qd5|apply qe5|apply qf5)|exact HB.out))) : w.heap.size ≤ gb274));have n3_:=qh5 ((by rw [hg];exact (qk5 (by repeat (first|(with_reducible first|exact HB.out|apply qd5|apply qe5|apply qf5)|exact HB.out))) : w.heap.size ≤ gb274));clear HB;have HB:=n0_;have BK274:=n1_;have GW274:=n2_;have GE274:=n3_;clear n0_ n1_ n2_ n3_;clear hb hbox hg)|((with_reducible refine gate_dst (N:=2) rfl ?_);refine box_event ?hg (N:=2) ?hd (cs:=#[.int .i64 0,.int .i64 0,.int .i64 0,.int .i64 0]) (t:=60) ?hr ?_;(case hd => rfl);(case hg => rfl);(case hr => first|(go_simp;done)|(go_simp;rfl));intro gb275 hg w3 hbox hb;have n0_:=qh5 (qi5 (g:=gb274) (o:=.cells #[.int .i64 a0_0,.int .i64 a0_1,.int .i64 a0_2,.int .i64 a0_3] 72 (0,0)) (by (with_reducible repeat (first|apply qa5|apply qb5|apply qc5));exact BK274.out) hb);have n1_:=qh5 (qj5 (by repeat (first|(with_reducible first|exact HB.out|apply qd5|apply qe5|apply qf5|refine qg5 ?_ GE274.out)|exact HB.out)) hb);have n2_:=qh5 (hbox);have n3_:=qh5 ((by rw [hg];exact (qk5 (by repeat (first|(with_reducible first|exact HB.out|apply qd5|apply qe5|apply qf5|refine qg5 ?_ GE274.out)|exact HB.out))) : w.heap.size ≤ gb275));have n4_:=qh5 ((by rw [hg];exact (qk5 (by repeat (first|(with_reducible first|exact HB.out|apply qd5|apply qe5|apply qf5|refine qg5 ?_ GE274.out)|exact HB.out))) : w.heap.size ≤ gb275));have n5_:=qh5 ((by rw [hg];exact Nat.ne_of_lt (blk_lt (g:=gb274) (o:=.cells #[.int .i64 a0_0,.int .i64 a0_1,.int .i64 a0_2,.int .i64 a0_3] 72 (0,0)) (by (with_reducible repeat (first|apply qa5|apply qb5|apply qc5));exact BK274.out)) : gb274 ≠ gb275));have n6_:=qh5 ((by rw [hg];exact Nat.ne_of_gt (blk_lt (g:=gb274) (o:=.cells #[.int .i64 a0_0,.int .i64 a0_1,.int .i64 a0_2,.int .i64 a0_3] 72 (0,0)) (by (with_reducible repeat (first|apply qa5|apply qb5|apply qc5));exact BK274.out)) : gb275 ≠ gb274));clear BK274;clear HB;have BK274:=n0_;have HB:=n1_;have BK275:=n2_;have GW275:=n3_;have GE275:=n4_;have NB274_275:=n5_;have NB275_274:=n6_;clear n0_ n1_ n2_ n3_ n4_ n5_ n6_;clear hb hbox hg)|((with_reducible refine gate_dst (N:=3) rfl ?_);refine box_event ?hg (N:=3) ?hd (cs:=#[.int .i64 0,.int .i64 0,.int .i64 0,.int .i64 0]) (t:=60) ?hr ?_;(case hd => rfl);(case hg => rfl);(case hr => first|(go_simp;done)|(go_simp;rfl));intro gb276 hg w4 hbox hb;have n0_:=qh5 (qi5 (g:=gb274) (o:=.cells #[.int .i64 a0_0,.int .i64 a0_1,.int .i64 a0_2,.int .i64 a0_3] 72 (0,0)) (by (with_reducible repeat (first|apply qa5|apply qb5|apply qc5));exact BK274.out) hb);have n1_:=qh5 (qi5 (g:=gb275) (o:=.cells #[.int .i64 0,.int .i64 0,.int .i64 0,.int .i64 0] 60 (0,0)) (by (with_reducible repeat (first|apply qa5|apply qb5|apply qc5));exact BK275.out) hb);have n2_:=qh5 (qj5 (by repeat (first|(with_reducible first|exact HB.out|apply qd5|apply qe5|apply qf5|refine qg5 ?_ GE274.out|refine qg5 ?_ GE275.out)|exact HB.out)) hb);have n3_:=qh5 (hbox);have n4_:=qh5 ((by rw [hg];exact (qk5 (by repeat (first|(with_reducible first|exact HB.out|apply qd5|apply qe5|apply qf5|refine qg5 ?_ GE274.out|refine qg5 ?_ GE275.out)|exact HB.out))) : w.heap.size ≤ gb276));have n5_:=qh5 ((by rw [hg];exact (qk5 (by repeat (first|(with_reducible first|exact HB.out|apply qd5|apply qe5|apply qf5|refine qg5 ?_ GE274.out|refine qg5 ?_ GE275.out)|exact HB.out))) : w.heap.size ≤ gb276));have n6_:=qh5 ((by rw [hg];exact Nat.ne_of_lt (blk_lt (g:=gb274) (o:=.cells #[.int .i64 a0_0,.int .i64 a0_1,.int .i64 a0_2,.int .i64 a0_3] 72 (0,0)) (by (with_reducible repeat (first|apply qa5|apply qb5|apply qc5));exact BK274.out)) : gb274 ≠ gb276));have n7_:=qh5 ((by rw [hg];exact Nat.ne_of_gt (blk_lt (g:=gb274) (o:=.cells #[.int .i64 a0_0,.int .i64 a0_1,.int .i64 a0_2,.int .i64 a0_3] 72 (0,0)) (by (with_reducible repeat (first|apply qa5|apply qb5|apply qc5));exact BK274.out)) : gb276 ≠ gb274));have n8_:=qh5 ((by rw [hg];exact Nat.ne_of_lt (blk_lt (g:=gb275) (o:=.cells #[.int .i64 0,.int .i64 0,.int .i64 0,.int .i64 0] 60 (0,0)) (by (with_reducible repeat (first|apply qa5|apply qb5|apply qc5));exact BK275.out)) : gb275 ≠ gb276));have n9_:=qh5 ((by rw [hg];exact Nat.ne_of_gt (blk_lt (g:=gb275) (o:=.cells #[.int .i64 0,.int .i64 0,.int .i64 0,.int .i64 0] 60 (0,0)) (by (with_reducible repeat (first|apply qa5|apply qb5|apply qc5));exact BK275.out)) : gb276 ≠ gb275));clear BK274;clear BK275;clear HB;have BK274:=n0_;have BK275:=n1_;have HB:=n2_;have BK276:=n3_;have GW276:=n4_;have GE276:=n5_;have NB274_276:=n6_;have NB276_274:=n7_;have NB275_276:=n8_;have NB276_275:=n9_;clear n0_ n1_ n2_ n3_ n4_ n5_ n6_ n7_ n8_ n9_;clear hb hbox hg;have hnb5:=NB274_275.out;have hnc5:=NB275_274.out;have hnb6:=NB274_276.out;have hnc6:=NB276_274.out;have hcz7_0 : w4.cell? ⟨gb274,0,none⟩ = some (.int .i64 a0_0):=(blk_cell BK274.out 0).trans rfl;have hcz7_1 : w4.cell? ⟨gb274,1,none⟩ = some (.int .i64 a0_1):=(blk_cell BK274.out 1).trans rfl;have hcz7_2 : w4.cell? ⟨gb274,2,none⟩ = some (.int .i64 a0_2):=(blk_cell BK274.out 2).trans rfl;have hcz7_3 : w4.cell? ⟨gb274,3,none⟩ = some (.int .i64 a0_3):=(blk_cell BK274.out 3).trans rfl;have hfz7_0:=sJ BK274.out 0;have hfz7_1:=sJ BK274.out 1;have hfz7_2:=sJ BK274.out 2;have hfz7_3:=sJ BK274.out 3;have hnb8:=NB276_275.out;have hnc8:=NB275_276.out;have hcz9_0 : w4.cell? ⟨gb276,0,none⟩ = some (.int .i64 0):=(blk_cell BK276.out 0).trans rfl;have hcz9_1 : w4.cell? ⟨gb276,1,none⟩ = some (.int .i64 0):=(blk_cell BK276.out 1).trans rfl;have hcz9_2 : w4.cell? ⟨gb276,2,none⟩ = some (.int .i64 0):=(blk_cell BK276.out 2).trans rfl;have hcz9_3 : w4.cell? ⟨gb276,3,none⟩ = some (.int .i64 0):=(blk_cell BK276.out 3).trans rfl;have hfz9_0:=sJ BK276.out 0;have hfz9_1:=sJ BK276.out 1;have hfz9_2:=sJ BK276.out 2;have hfz9_3:=sJ BK276.out 3;have hcz10_0 : w4.cell? ⟨gb275,0,none⟩ = some (.int .i64 0):=(blk_cell BK275.out 0).trans rfl;have hcz10_1 : w4.cell? ⟨gb275,1,none⟩ = some (.int .i64 0):=(blk_cell BK275.out 1).trans rfl;have hcz10_2 : w4.cell? ⟨gb275,2,none⟩ = some (.int .i64 0):=(blk_cell BK275.out 2).trans rfl;have hcz10_3 : w4.cell? ⟨gb275,3,none⟩ = some (.int .i64 0):=(blk_cell BK275.out 3).trans rfl;have hfz10_0:=sJ BK275.out 0;have hfz10_1:=sJ BK275.out 1;have hfz10_2:=sJ BK275.out 2;have hfz10_3:=sJ BK275.out 3))
 refine bodyPost_ret (results_cell_row rfl _ _ gb275 60 #[.int .i64 a0_0,.int .i64 a0_1,.int .i64 a0_2,.int .i64 a0_3] (0,0) _ rfl (by (with_reducible repeat (first|apply qa5|apply qb5|apply qc5));refine blk_put (cs:=#[.int .i64 a0_0,.int .i64 a0_1,.int .i64 a0_2,.int .i64 0]) ?_ 3 _ rfl;(with_reducible repeat (first|apply qa5|apply qb5|apply qc5));refine blk_put (cs:=#[.int .i64 a0_0,.int .i64 a0_1,.int .i64 0,.int .i64 0]) ?_ 2 _ rfl;(with_reducible repeat (first|apply qa5|apply qb5|apply qc5));refine blk_put (cs:=#[.int .i64 a0_0,.int .i64 0,.int .i64 0,.int .i64 0]) ?_ 1 _ rfl;(with_reducible repeat (first|apply qa5|apply qb5|apply qc5));refine blk_put (cs:=#[.int .i64 0,.int .i64 0,.int .i64 0,.int .i64 0]) ?_ 0 _ rfl;(with_reducible repeat (first|apply qa5|apply qb5|apply qc5));refine blk_far ?_ NB275_276.out _;(with_reducible repeat (first|apply qa5|apply qb5|apply qc5));refine blk_far ?_ NB275_276.out _;(with_reducible repeat (first|apply qa5|apply qb5|apply qc5));refine blk_far ?_ NB275_276.out _;(with_reducible repeat (first|apply qa5|apply qb5|apply qc5));refine blk_far ?_ NB275_276.out _;(with_reducible repeat (first|apply qa5|apply qb5|apply qc5));exact BK275.out) Tryd.underlying60 rfl (by kernel_rfl)) rfl ?_
 exact ⟨by first|rfl|(simp [errW_none,errW_some] <;> rfl)|(simp [*,errW_none,errW_some] <;> rfl),by repeat (first|(with_reducible first|exact HB.out|apply qd5|apply qe5|apply qf5|refine qg5 ?_ GE274.out|refine qg5 ?_ GE275.out|refine qg5 ?_ GE276.out)|exact HB.out)⟩

/-! ### laws_toSeen: function 29 -/
def laws_toSeen.f (a0_0 : Int) (a0_1 : Int) (a0_2 : Int) (a0_3 : Int) (a0_4 : Int) (a0_5 : Int) : Option (Int × Int × Int × Int × Int × Int):=(laws_toAnswer.f a0_2 a0_3 a0_4 a0_5).bind fun bt280 => (some (a0_0,a0_1,bt280.1,bt280.2.1,bt280.2.2.1,bt280.2.2.2))
set_option maxHeartbeats 8000000 in
set_option maxRecDepth 100000 in
theorem laws_toSeen.calls (a0_0 : Int) (a0_1 : Int) (a0_2 : Int) (a0_3 : Int) (a0_4 : Int) (a0_5 : Int) (r1 : Int) (r2 : Int) (r3 : Int) (r4 : Int) (r5 : Int) (r6 : Int) (w : World) (h : laws_toSeen.f a0_0 a0_1 a0_2 a0_3 a0_4 a0_5 = some (r1,r2,r3,r4,r5,r6)) :
  Calls Tryd.prog 29 #[.agg #[.int .i64 a0_0,.int .i64 a0_1,.int .i64 a0_2,.int .i64 a0_3,.int .i64 a0_4,.int .i64 a0_5]] w fun e w' => e = .returned (.agg #[.int .i64 r1,.int .i64 r2,.int .i64 r3,.int .i64 r4,.int .i64 r5,.int .i64 r6]) ∧ Below w.heap.size w w':=by
 have hu74:=Tryd.underlying74
 have hu62:=Tryd.underlying62
 have hu72:=Tryd.underlying72
 have hu60:=Tryd.underlying60
 have HB:=qh5 (Below.refl w.heap.size w)
 have H : ((laws_toAnswer.f a0_2 a0_3 a0_4 a0_5).bind fun bt280 => (some (a0_0,a0_1,bt280.1,bt280.2.1,bt280.2.2.1,bt280.2.2.2))) = some (r1,r2,r3,r4,r5,r6):=h
 clear h
 replace H:=Option.bind_eq_some_iff.mp H
 obtain ⟨⟨t280,t281,t282,t283⟩,A20,H⟩:=H
 replace H : (some (a0_0,a0_1,t280,t281,t282,t283)) = some (r1,r2,r3,r4,r5,r6):=H
 have A2:=qh5 A20
 clear A20
 simp only [Option.some.injEq,Prod.mk.injEq] at H
 obtain ⟨rfl,rfl,rfl,rfl,rfl,rfl⟩:=H
 go_enter Tryd.func29,Tryd.ntmps29
 go_wp2_with (first|((with_reducible refine gate_dst (N:=1) rfl ?_);refine box_event ?hg (N:=1) ?hd (cs:=#[.int .i64 a0_0,.int .i64 a0_1,.int .i64 a0_2,.int .i64 a0_3,.int .i64 a0_4,.int .i64 a0_5]) (t:=74) ?hr ?_;(case hd => rfl);(case hg => rfl);(case hr => first|(go_simp;done)|(go_simp;rfl));intro gb277 hg w3 hbox hb;have n0_:=qh5 (qj5 (by repeat (first|(with_reducible first|exact HB.out|apply qd5|apply qe5|apply qf5)|exact HB.out)) hb);have n1_:=qh5 (hbox);have n2_:=qh5 ((by rw [hg];exact (qk5 (by repeat (first|(with_reducible first|exact HB.out|apply qd5|apply qe5|apply qf5)|exact HB.out))) : w.heap.size ≤ gb277));have n3_:=qh5 ((by rw [hg];exact (qk5 (by repeat (first|(with_reducible first|exact HB.out|apply qd5|apply qe5|apply qf5)|exact HB.out))) : w.heap.size ≤ gb277));clear HB;have HB:=n0_;have BK277:=n1_;have GW277:=n2_;have GE277:=n3_;clear n0_ n1_ n2_ n3_;clear hb hbox hg)|((with_reducible refine gate_dst (N:=2) rfl ?_);refine box_event ?hg (N:=2) ?hd (cs:=#[.int .i64 0,.int .i64 0,.int .i64 0,.int .i64 0,.int .i64 0,.int .i64 0]) (t:=62) ?hr ?_;(case hd => rfl);(case hg => rfl);(case hr => first|(go_simp;done)|(go_simp;rfl));intro gb278 hg w4 hbox hb;have n0_:=qh5 (qi5 (g:=gb277) (o:=.cells #[.int .i64 a0_0,.int .i64 a0_1,.int .i64 a0_2,.int .i64 a0_3,.int .i64 a0_4,.int .i64 a0_5] 74 (0,0)) (by (with_reducible repeat (first|apply qa5|apply qb5|apply qc5));exact BK277.out) hb);have n1_:=qh5 (qj5 (by repeat (first|(with_reducible first|exact HB.out|apply qd5|apply qe5|apply qf5|refine qg5 ?_ GE277.out)|exact HB.out)) hb);have n2_:=qh5 (hbox);have n3_:=qh5 ((by rw [hg];exact (qk5 (by repeat (first|(with_reducible first|exact HB.out|apply qd5|apply qe5|apply qf5|refine qg5 ?_ GE277.out)|exact HB.out))) : w.heap.size ≤ gb278));have n4_:=qh5 ((by rw [hg];exact (qk5 (by repeat (first|(with_reducible first|exact HB.out|apply qd5|apply qe5|apply qf5|refine qg5 ?_ GE277.out)|exact HB.out))) : w.heap.size ≤ gb278));have n5_:=qh5 ((by rw [hg];exact Nat.ne_of_lt (blk_lt (g:=gb277) (o:=.cells #[.int .i64 a0_0,.int .i64 a0_1,.int .i64 a0_2,.int .i64 a0_3,.int .i64 a0_4,.int .i64 a0_5] 74 (0,0)) (by (with_reducible repeat (first|apply qa5|apply qb5|apply qc5));exact BK277.out)) : gb277 ≠ gb278));have n6_:=qh5 ((by rw [hg];exact Nat.ne_of_gt (blk_lt (g:=gb277) (o:=.cells #[.int .i64 a0_0,.int .i64 a0_1,.int .i64 a0_2,.int .i64 a0_3,.int .i64 a0_4,.int .i64 a0_5] 74 (0,0)) (by (with_reducible repeat (first|apply qa5|apply qb5|apply qc5));exact BK277.out)) : gb278 ≠ gb277));clear BK277;clear HB;have BK277:=n0_;have HB:=n1_;have BK278:=n2_;have GW278:=n3_;have GE278:=n4_;have NB277_278:=n5_;have NB278_277:=n6_;clear n0_ n1_ n2_ n3_ n4_ n5_ n6_;clear hb hbox hg)|((with_reducible refine gate_dst (N:=3) rfl ?_);refine box_event ?hg (N:=3) ?hd (cs:=#[.int .i64 0,.int .i64 0,.int .i64 0,.int .i64 0,.int .i64 0,.int .i64 0]) (t:=62) ?hr ?_;(case hd => rfl);(case hg => rfl);(case hr => first|(go_simp;done)|(go_simp;rfl));intro gb279 hg w5 hbox hb;have n0_:=qh5 (qi5 (g:=gb277) (o:=.cells #[.int .i64 a0_0,.int .i64 a0_1,.int .i64 a0_2,.int .i64 a0_3,.int .i64 a0_4,.int .i64 a0_5] 74 (0,0)) (by (with_reducible repeat (first|apply qa5|apply qb5|apply qc5));exact BK277.out) hb);have n1_:=qh5 (qi5 (g:=gb278) (o:=.cells #[.int .i64 0,.int .i64 0,.int .i64 0,.int .i64 0,.int .i64 0,.int .i64 0] 62 (0,0)) (by (with_reducible repeat (first|apply qa5|apply qb5|apply qc5));exact BK278.out) hb);have n2_:=qh5 (qj5 (by repeat (first|(with_reducible first|exact HB.out|apply qd5|apply qe5|apply qf5|refine qg5 ?_ GE277.out|refine qg5 ?_ GE278.out)|exact HB.out)) hb);have n3_:=qh5 (hbox);have n4_:=qh5 ((by rw [hg];exact (qk5 (by repeat (first|(with_reducible first|exact HB.out|apply qd5|apply qe5|apply qf5|refine qg5 ?_ GE277.out|refine qg5 ?_ GE278.out)|exact HB.out))) : w.heap.size ≤ gb279));have n5_:=qh5 ((by rw [hg];exact (qk5 (by repeat (first|(with_reducible first|exact HB.out|apply qd5|apply qe5|apply qf5|refine qg5 ?_ GE277.out|refine qg5 ?_ GE278.out)|exact HB.out))) : w.heap.size ≤ gb279));have n6_:=qh5 ((by rw [hg];exact Nat.ne_of_lt (blk_lt (g:=gb277) (o:=.cells #[.int .i64 a0_0,.int .i64 a0_1,.int .i64 a0_2,.int .i64 a0_3,.int .i64 a0_4,.int .i64 a0_5] 74 (0,0)) (by (with_reducible repeat (first|apply qa5|apply qb5|apply qc5));exact BK277.out)) : gb277 ≠ gb279));have n7_:=qh5 ((by rw [hg];exact Nat.ne_of_gt (blk_lt (g:=gb277) (o:=.cells #[.int .i64 a0_0,.int .i64 a0_1,.int .i64 a0_2,.int .i64 a0_3,.int .i64 a0_4,.int .i64 a0_5] 74 (0,0)) (by (with_reducible repeat (first|apply qa5|apply qb5|apply qc5));exact BK277.out)) : gb279 ≠ gb277));have n8_:=qh5 ((by rw [hg];exact Nat.ne_of_lt (blk_lt (g:=gb278) (o:=.cells #[.int .i64 0,.int .i64 0,.int .i64 0,.int .i64 0,.int .i64 0,.int .i64 0] 62 (0,0)) (by (with_reducible repeat (first|apply qa5|apply qb5|apply qc5));exact BK278.out)) : gb278 ≠ gb279));have n9_:=qh5 ((by rw [hg];exact Nat.ne_of_gt (blk_lt (g:=gb278) (o:=.cells #[.int .i64 0,.int .i64 0,.int .i64 0,.int .i64 0,.int .i64 0,.int .i64 0] 62 (0,0)) (by (with_reducible repeat (first|apply qa5|apply qb5|apply qc5));exact BK278.out)) : gb279 ≠ gb278));clear BK277;clear BK278;clear HB;have BK277:=n0_;have BK278:=n1_;have HB:=n2_;have BK279:=n3_;have GW279:=n4_;have GE279:=n5_;have NB277_279:=n6_;have NB279_277:=n7_;have NB278_279:=n8_;have NB279_278:=n9_;clear n0_ n1_ n2_ n3_ n4_ n5_ n6_ n7_ n8_ n9_;clear hb hbox hg;have hnb6:=NB277_278.out;have hnc6:=NB278_277.out;have hnb7:=NB277_279.out;have hnc7:=NB279_277.out;have hcz8_0 : w5.cell? ⟨gb277,0,none⟩ = some (.int .i64 a0_0):=(blk_cell BK277.out 0).trans rfl;have hcz8_1 : w5.cell? ⟨gb277,1,none⟩ = some (.int .i64 a0_1):=(blk_cell BK277.out 1).trans rfl;have hcz8_2 : w5.cell? ⟨gb277,2,none⟩ = some (.int .i64 a0_2):=(blk_cell BK277.out 2).trans rfl;have hcz8_3 : w5.cell? ⟨gb277,3,none⟩ = some (.int .i64 a0_3):=(blk_cell BK277.out 3).trans rfl;have hcz8_4 : w5.cell? ⟨gb277,4,none⟩ = some (.int .i64 a0_4):=(blk_cell BK277.out 4).trans rfl;have hcz8_5 : w5.cell? ⟨gb277,5,none⟩ = some (.int .i64 a0_5):=(blk_cell BK277.out 5).trans rfl;have hfz8_0:=sJ BK277.out 0;have hfz8_1:=sJ BK277.out 1;have hfz8_2:=sJ BK277.out 2;have hfz8_3:=sJ BK277.out 3;have hfz8_4:=sJ BK277.out 4;have hfz8_5:=sJ BK277.out 5;have hnb9:=NB279_278.out;have hnc9:=NB278_279.out;have hcz10_0 : w5.cell? ⟨gb279,0,none⟩ = some (.int .i64 0):=(blk_cell BK279.out 0).trans rfl;have hcz10_1 : w5.cell? ⟨gb279,1,none⟩ = some (.int .i64 0):=(blk_cell BK279.out 1).trans rfl;have hcz10_2 : w5.cell? ⟨gb279,2,none⟩ = some (.int .i64 0):=(blk_cell BK279.out 2).trans rfl;have hcz10_3 : w5.cell? ⟨gb279,3,none⟩ = some (.int .i64 0):=(blk_cell BK279.out 3).trans rfl;have hcz10_4 : w5.cell? ⟨gb279,4,none⟩ = some (.int .i64 0):=(blk_cell BK279.out 4).trans rfl;have hcz10_5 : w5.cell? ⟨gb279,5,none⟩ = some (.int .i64 0):=(blk_cell BK279.out 5).trans rfl;have hfz10_0:=sJ BK279.out 0;have hfz10_1:=sJ BK279.out 1;have hfz10_2:=sJ BK279.out 2;have hfz10_3:=sJ BK279.out 3;have hfz10_4:=sJ BK279.out 4;have hfz10_5:=sJ BK279.out 5)|((with_reducible refine gate_callee (f:=42) rfl ?_);refine goesL_ (some 12) rfl rfl Tryd.func42 (by kernel_rfl) rfl #[.agg #[.int .i64 a0_2,.int .i64 a0_3,.int .i64 a0_4,.int .i64 a0_5]] rfl (by (try simp only [sE,sH,sI]);first|done|rfl|(simp only [sG,sF];rfl)) ?_;(with_reducible refine (laws_toAnswer.calls a0_2 a0_3 a0_4 a0_5 t280 t281 t282 t283 _ A2.out).mono ?_);rintro e w11 ⟨rfl,hb⟩;refine ⟨_,rfl,?_⟩;have n0_:=qh5 (qi5 (g:=gb277) (o:=.cells #[.int .i64 a0_0,.int .i64 a0_1,.int .i64 a0_2,.int .i64 a0_3,.int .i64 a0_4,.int .i64 a0_5] 74 (0,0)) (by (with_reducible repeat (first|apply qa5|apply qb5|apply qc5));refine blk_far ?_ NB277_279.out _;(with_reducible repeat (first|apply qa5|apply qb5|apply qc5));refine blk_far ?_ NB277_279.out _;(with_reducible repeat (first|apply qa5|apply qb5|apply qc5));exact BK277.out) hb);have n1_:=qh5 (qi5 (g:=gb278) (o:=.cells #[.int .i64 0,.int .i64 0,.int .i64 0,.int .i64 0,.int .i64 0,.int .i64 0] 62 (0,0)) (by (with_reducible repeat (first|apply qa5|apply qb5|apply qc5));refine blk_far ?_ NB278_279.out _;(with_reducible repeat (first|apply qa5|apply qb5|apply qc5));refine blk_far ?_ NB278_279.out _;(with_reducible repeat (first|apply qa5|apply qb5|apply qc5));exact BK278.out) hb);have n2_:=qh5 (qi5 (g:=gb279) (o:=.cells #[.int .i64 a0_0,.int .i64 a0_1,.int .i64 0,.int .i64 0,.int .i64 0,.int .i64 0] 62 (0,0)) (by (with_reducible repeat (first|apply qa5|apply qb5|apply qc5));refine blk_put (cs:=#[.int .i64 a0_0,.int .i64 0,.int .i64 0,.int .i64 0,.int .i64 0,.int .i64 0]) ?_ 1 _ rfl;(with_reducible repeat (first|apply qa5|apply qb5|apply qc5));refine blk_put (cs:=#[.int .i64 0,.int .i64 0,.int .i64 0,.int .i64 0,.int .i64 0,.int .i64 0]) ?_ 0 _ rfl;(with_reducible repeat (first|apply qa5|apply qb5|apply qc5));exact BK279.out) hb);have n3_:=qh5 (qj5 (by repeat (first|(with_reducible first|exact HB.out|apply qd5|apply qe5|apply qf5|refine qg5 ?_ GE277.out|refine qg5 ?_ GE278.out|refine qg5 ?_ GE279.out)|exact HB.out)) hb);clear BK277;clear BK278;clear BK279;clear HB;have BK277:=n0_;have BK278:=n1_;have BK279:=n2_;have HB:=n3_;clear n0_ n1_ n2_ n3_;(try clear hb);(try clear hb2);(try clear hk);(try clear hi);have hcz12_0 : w11.cell? ⟨gb279,0,none⟩ = some (.int .i64 a0_0):=(blk_cell BK279.out 0).trans rfl;have hcz12_1 : w11.cell? ⟨gb279,1,none⟩ = some (.int .i64 a0_1):=(blk_cell BK279.out 1).trans rfl;have hcz12_2 : w11.cell? ⟨gb279,2,none⟩ = some (.int .i64 0):=(blk_cell BK279.out 2).trans rfl;have hcz12_3 : w11.cell? ⟨gb279,3,none⟩ = some (.int .i64 0):=(blk_cell BK279.out 3).trans rfl;have hcz12_4 : w11.cell? ⟨gb279,4,none⟩ = some (.int .i64 0):=(blk_cell BK279.out 4).trans rfl;have hcz12_5 : w11.cell? ⟨gb279,5,none⟩ = some (.int .i64 0):=(blk_cell BK279.out 5).trans rfl;have hfz12_0:=sJ BK279.out 0;have hfz12_1:=sJ BK279.out 1;have hfz12_2:=sJ BK279.out 2;have hfz12_3:=sJ BK279.out 3;have hfz12_4:=sJ BK279.out 4;have hfz12_5:=sJ BK279.out 5;have hcz13_0 : w11.cell? ⟨gb278,0,none⟩ = some (.int .i64 0):=(blk_cell BK278.out 0).trans rfl;have hcz13_1 : w11.cell? ⟨gb278,1,none⟩ = some (.int .i64 0):=(blk_cell BK278.out 1).trans rfl;have hcz13_2 : w11.cell? ⟨gb278,2,none⟩ = some (.int .i64 0):=(blk_cell BK278.out 2).trans rfl;have hcz13_3 : w11.cell? ⟨gb278,3,none⟩ = some (.int .i64 0):=(blk_cell BK278.out 3).trans rfl;have hcz13_4 : w11.cell? ⟨gb278,4,none⟩ = some (.int .i64 0):=(blk_cell BK278.out 4).trans rfl;have hcz13_5 : w11.cell? ⟨gb278,5,none⟩ = some (.int .i64 0):=(blk_cell BK278.out 5).trans rfl;have hfz13_0:=sJ BK278.out 0;have hfz13_1:=sJ BK278.out 1;have hfz13_2:=sJ BK278.out 2;have hfz13_3:=sJ BK278.out 3;have hfz13_4:=sJ BK278.out 4;have hfz13_5:=sJ BK278.out 5))
 refine bodyPost_ret (results_cell_row rfl _ _ gb278 62 #[.int .i64 a0_0,.int .i64 a0_1,.int .i64 t280,.int .i64 t281,.int .i64 t282,.int .i64 t283] (0,0) _ rfl (by (with_reducible repeat (first|apply qa5|apply qb5|apply qc5));refine blk_put (cs:=#[.int .i64 a0_0,.int .i64 a0_1,.int .i64 t280,.int .i64 t281,.int .i64 t282,.int .i64 0]) ?_ 5 _ rfl;(with_reducible repeat (first|apply qa5|apply qb5|apply qc5));refine blk_put (cs:=#[.int .i64 a0_0,.int .i64 a0_1,.int .i64 t280,.int .i64 t281,.int .i64 0,.int .i64 0]) ?_ 4 _ rfl;(with_reducible repeat (first|apply qa5|apply qb5|apply qc5));refine blk_put (cs:=#[.int .i64 a0_0,.int .i64 a0_1,.int .i64 t280,.int .i64 0,.int .i64 0,.int .i64 0]) ?_ 3 _ rfl;(with_reducible repeat (first|apply qa5|apply qb5|apply qc5));refine blk_put (cs:=#[.int .i64 a0_0,.int .i64 a0_1,.int .i64 0,.int .i64 0,.int .i64 0,.int .i64 0]) ?_ 2 _ rfl;(with_reducible repeat (first|apply qa5|apply qb5|apply qc5));refine blk_put (cs:=#[.int .i64 a0_0,.int .i64 0,.int .i64 0,.int .i64 0,.int .i64 0,.int .i64 0]) ?_ 1 _ rfl;(with_reducible repeat (first|apply qa5|apply qb5|apply qc5));refine blk_put (cs:=#[.int .i64 0,.int .i64 0,.int .i64 0,.int .i64 0,.int .i64 0,.int .i64 0]) ?_ 0 _ rfl;(with_reducible repeat (first|apply qa5|apply qb5|apply qc5));refine blk_far ?_ NB278_279.out _;(with_reducible repeat (first|apply qa5|apply qb5|apply qc5));refine blk_far ?_ NB278_279.out _;(with_reducible repeat (first|apply qa5|apply qb5|apply qc5));refine blk_far ?_ NB278_279.out _;(with_reducible repeat (first|apply qa5|apply qb5|apply qc5));refine blk_far ?_ NB278_279.out _;(with_reducible repeat (first|apply qa5|apply qb5|apply qc5));exact BK278.out) Tryd.underlying62 rfl (by kernel_rfl)) rfl ?_
 exact ⟨by first|rfl|(simp [errW_none,errW_some] <;> rfl)|(simp [*,errW_none,errW_some] <;> rfl),by repeat (first|(with_reducible first|exact HB.out|apply qd5|apply qe5|apply qf5|refine qg5 ?_ GE277.out|refine qg5 ?_ GE278.out|refine qg5 ?_ GE279.out)|exact HB.out)⟩

/-! ### laws_toSeenS: function 15 -/
def laws_toSeenS.l0 : Nat → List (S74) → List (S62) → Int → Option ((List (S62)))
 | 0,_,_,_ => none
 | k + 1,x0,x3,x4 => if x4 < (x0.length : Int) then (if 0 ≤ x4 then ((laws_toSeen.f ((rd_T74 x0 x4).f0) ((rd_T74 x0 x4).f1) ((rd_T74 x0 x4).f2.f0) ((rd_T74 x0 x4).f2.f1) ((rd_T74 x0 x4).f2.f2) ((rd_T74 x0 x4).f2.f3)).bind fun bt288 => (if x4 < (x3.length : Int) then (laws_toSeenS.l0 k x0 (x3.set (x4 : Int).toNat (⟨bt288.1,bt288.2.1,(⟨bt288.2.2.1,bt288.2.2.2.1,bt288.2.2.2.2.1,bt288.2.2.2.2.2⟩ : S60)⟩ : S62)) (wrap64 (x4 + 1))) else (none))) else (none)) else (some x3)
def laws_toSeenS.f (k : Nat) (l0 : List (S74)) : Option ((List (S62))):=if 0 ≤ (l0.length : Int) then (if ((l0.length : Int) : Int).toNat ≤ 5864062014805 then (laws_toSeenS.l0 k l0 (List.replicate ((l0.length : Int) : Int).toNat z62) 0) else (none)) else (none)
set_option maxHeartbeats 8000000 in
set_option maxRecDepth 100000 in
theorem laws_toSeenS.calls (k : Nat) (A0 : Option Addr) (c0 : Nat) (l0 : List (S74)) (r : List (S62)) (w : World) (hr0 : Kd.C k74 w A0 l0.length l0) (hc0 : l0.length ≤ c0) (h : laws_toSeenS.f k l0 = some r) :
  Calls Tryd.prog 15 #[.slice A0 l0.length c0] w fun e w' => ∃ v0_ : Value,e = .returned (v0_) ∧ Kd.R k62 62 w' w.heap.size (fun _ => True) v0_ r ∧ Below w.heap.size w w':=by
 have hu74:=Tryd.underlying74
 have hu62:=Tryd.underlying62
 have HR0:=qh5 hr0
 have HC0:=qh5 hc0
 clear hr0 hc0
 have HB:=qh5 (Below.refl w.heap.size w)
 have H : (if 0 ≤ (l0.length : Int) then (if ((l0.length : Int) : Int).toNat ≤ 5864062014805 then (laws_toSeenS.l0 k l0 (List.replicate ((l0.length : Int) : Int).toNat z62) 0) else (none)) else (none)) = some r:=h
 clear h
 by_cases c2 : 0 ≤ (l0.length : Int)
 ·
  rw [if_pos c2] at H
  have c2b0:=eq_true c2
  have c2b1 : decide (0 ≤ (l0.length : Int)) = true:=decide_eq_true c2
  clear c2
  by_cases c3 : ((l0.length : Int) : Int).toNat ≤ 5864062014805
  ·
   rw [if_pos c3] at H
   have c3b0:=eq_true c3
   have c3b1 : decide (((l0.length : Int) : Int).toNat ≤ 5864062014805) = true:=decide_eq_true c3
   clear c3
   obtain ⟨y284,hy284⟩ : ∃ y_ : List (S62),y_ = (List.replicate ((l0.length : Int) : Int).toNat z62):=⟨_,rfl⟩
   replace H : (laws_toSeenS.l0 k l0 y284 0) = some r:=by first|(rw [hy284];with_reducible exact H)|(have H2_:=(Option.bind_some _ _).symm.trans H;rw [hy284];with_reducible exact H2_)|(have H2_:=(Option.bind_some _ _).symm.trans H;with_reducible exact H2_)|with_reducible exact H|(rw [hy284];exact H)|exact H
   have Ny284:=qh5 hy284
   clear hy284
   have H':=qh5 H
   clear H
   go_enter Tryd.func15,Tryd.ntmps15
   go_wp2_with (first|((with_reducible refine gate_dst (N:=7) rfl ?_);refine Kd.R_make k62 _ 62 rfl (N:=7) rfl 30 _ _ rfl (l0.length : Int) rfl rfl Tryd.underlying30 (.agg #[(.int .i64 0),(.int .i64 0),(.int .i64 0),(.int .i64 0),(.int .i64 0),(.int .i64 0)]) 48 info62 rfl (by decide) (by omega) z62 (ok:=fun _ => True) (okp:=fun _ => True) (k62_mkM _ _ _ z62 ) (fun _ hk => hk) trivial (sM (by first|(with_reducible assumption)|assumption)) (Nat.le_trans (Nat.mul_le_mul_right _ (sM (by first|(with_reducible assumption)|assumption) : (l0.length : Int).toNat ≤ 5864062014805)) (by omega)) (Below.refl _ _) (Nat.le_refl _) ?_;intro v285 w4 ho5 hb hg_ hnew_;clear hg_ hnew_;(first|rw [← Ny284.out] at ho5|(simp only [Int.reduceToNat] at ho5;rw [← Ny284.out] at ho5));have n0_:=qh5 (Kd.R_lower ho5 (qk5 (by repeat (first|(with_reducible first|exact HB.out|apply qd5|apply qe5|apply qf5)|exact HB.out))));have n1_:=qh5 (qj5 (by repeat (first|(with_reducible first|exact HB.out|apply qd5|apply qe5|apply qf5)|exact HB.out)) hb);clear HB;have HO286:=n0_;have HB:=n1_;clear n0_ n1_;clear hb ho5))
   go_loopg [4] k (fun kq v4 w' => ∃ (x3_1 : List (S62)) (x4_1 : Int),v4 = .int .i64 x4_1 ∧ Aside0 (laws_toSeenS.l0 kq l0 x3_1 x4_1 = some r) ∧ Aside0 (kq ≤ k) ∧ Aside0 (Kd.R k62 62 w' w.heap.size (fun _ => True) v285 x3_1) ∧ Aside0 (Below w.heap.size w w'))
   case atStart => exact ⟨(y284),(0),(by first|rfl|(simp;done)|(simp [*];done)),H',⟨Nat.le_refl _⟩,⟨by (with_reducible repeat (first|apply Kd.R_alloc|apply Kd.R_drewN|apply Kd.R_drew));exact HO286.out⟩,⟨by repeat (first|(with_reducible first|exact HB.out|apply qd5|apply qe5|apply qf5)|exact HB.out)⟩⟩
   case round =>
    clear H'
    try clear c1
    try clear c2
    try clear c2b0
    try clear c2b1
    try clear p2
    try clear c3
    try clear c3b0
    try clear c3b1
    obtain ⟨x3_1,x4_1,rfl,HA,HK1,HO_3,HB⟩:=hrel
    cases gk with
    | zero => exact absurd HA.out (by simp [laws_toSeenS.l0])
    | succ k1 =>
     have H:=HA.out
     clear HA
     simp only [laws_toSeenS.l0] at H
     by_cases c6 : x4_1 < (l0.length : Int)
     ·
      rw [if_pos c6] at H
      have c6b0 : decide (x4_1 < (l0.length : Int)) = true:=decide_eq_true c6
      clear c6
      by_cases c7 : 0 ≤ x4_1
      ·
       rw [if_pos c7] at H
       have c7b0 : decide (0 ≤ x4_1) = true:=decide_eq_true c7
       clear c7
       replace H:=Option.bind_eq_some_iff.mp H
       obtain ⟨⟨t288,t289,t290,t291,t292,t293⟩,A80,H⟩:=H
       replace H : (if x4_1 < (x3_1.length : Int) then (laws_toSeenS.l0 k1 l0 (x3_1.set (x4_1 : Int).toNat (⟨t288,t289,(⟨t290,t291,t292,t293⟩ : S60)⟩ : S62)) (wrap64 (x4_1 + 1))) else (none)) = some r:=H
       have A8:=qh5 A80
       clear A80
       by_cases c9 : x4_1 < (x3_1.length : Int)
       ·
        rw [if_pos c9] at H
        have c9b0 : decide (x4_1 < (x3_1.length : Int)) = true:=decide_eq_true c9
        clear c9
        obtain ⟨y294,hy294⟩ : ∃ y_ : List (S62),y_ = (x3_1.set (x4_1 : Int).toNat (⟨t288,t289,(⟨t290,t291,t292,t293⟩ : S60)⟩ : S62)):=⟨_,rfl⟩
        replace H : (laws_toSeenS.l0 k1 l0 y294 (wrap64 (x4_1 + 1))) = some r:=by first|(rw [hy294];with_reducible exact H)|(have H2_:=(Option.bind_some _ _).symm.trans H;rw [hy294];with_reducible exact H2_)|(have H2_:=(Option.bind_some _ _).symm.trans H;with_reducible exact H2_)|with_reducible exact H|(rw [hy294];exact H)|exact H
        have Ny294:=qh5 hy294
        clear hy294
        have H':=qh5 H
        clear H
        have p287 : 0 ≤ (x4_1 : Int):=sM (by first|(with_reducible assumption)|assumption)
        have q287 : x4_1 < (l0.length : Int):=sM (by first|(with_reducible assumption)|assumption)
        obtain ⟨ad287,e287,hx287_0,hx287_1,hx287_2,hx287_3,hx287_4,hx287_5⟩:=at_T74 HR0.out x4_1 p287 q287
        cases e287
        replace hx287_0:=(HB.out.cell (sD w _ hx287_0)).trans hx287_0
        replace hx287_1:=(HB.out.cell (sD w _ hx287_1)).trans hx287_1
        replace hx287_2:=(HB.out.cell (sD w _ hx287_2)).trans hx287_2
        replace hx287_3:=(HB.out.cell (sD w _ hx287_3)).trans hx287_3
        replace hx287_4:=(HB.out.cell (sD w _ hx287_4)).trans hx287_4
        replace hx287_5:=(HB.out.cell (sD w _ hx287_5)).trans hx287_5
        replace p287:=eq_true p287
        replace q287:=eq_true q287
        go_wp2_with (first|((with_reducible refine gate_callee (f:=29) rfl ?_);refine goesL_ (some 20) rfl rfl Tryd.func29 (by kernel_rfl) rfl #[.agg #[.int .i64 ((rd_T74 l0 x4_1).f0),.int .i64 ((rd_T74 l0 x4_1).f1),.int .i64 ((rd_T74 l0 x4_1).f2.f0),.int .i64 ((rd_T74 l0 x4_1).f2.f1),.int .i64 ((rd_T74 l0 x4_1).f2.f2),.int .i64 ((rd_T74 l0 x4_1).f2.f3)]] rfl (by (try simp only [sE,sH,sI]);first|done|rfl|(simp only [sG,sF];rfl)) ?_;(with_reducible refine (laws_toSeen.calls ((rd_T74 l0 x4_1).f0) ((rd_T74 l0 x4_1).f1) ((rd_T74 l0 x4_1).f2.f0) ((rd_T74 l0 x4_1).f2.f1) ((rd_T74 l0 x4_1).f2.f2) ((rd_T74 l0 x4_1).f2.f3) t288 t289 t290 t291 t292 t293 _ A8.out).mono ?_);rintro e w11 ⟨rfl,hb⟩;refine ⟨_,rfl,?_⟩;have n0_:=qh5 (Kd.R_below (by (with_reducible repeat (first|apply Kd.R_alloc|apply Kd.R_drewN|apply Kd.R_drew));exact HO_3.out) hb);have n1_:=qh5 (qj5 (by repeat (first|(with_reducible first|exact HB.out|apply qd5|apply qe5|apply qf5)|exact HB.out)) hb);clear HO_3;clear HB;have HO_3:=n0_;have HB:=n1_;clear n0_ n1_;(try clear hb);(try clear hb2);(try clear hk);(try clear hi);have p10 : 0 ≤ (x4_1 : Int):=sM (by first|(with_reducible assumption)|assumption);have q10 : (x4_1 : Int) < ((x3_1.length : Int) : Int):=sM (by first|(with_reducible assumption)|assumption);obtain ⟨go10,co10,eo10,gb10,gl10,cl10,HG10⟩:=Kd.R_form HO_3.out (by omega);(first|cases eo10|(injection eo10 with ea_ en_ ec_;(first|subst ea_|(injection ea_ with ea_;subst ea_));subst ec_;clear en_));have GB10:=qh5 gb10;have GG10:=qh5 HG10;clear gb10 gl10 HG10;obtain ⟨ce10,hcl10,hM10,hcc10,hfr10⟩:=Kd.R_elem HO_3.out z62 (x4_1 : Int) p10 q10;obtain rfl:=k62_openM hM10;have hx10_0 : w11.cell? ⟨go10,(x4_1 : Int).toNat * 6,none⟩ = some (.int .i64 ((rd_T62 x3_1 x4_1).f0)):=hcc10 0 _ rfl;have hx10_1 : w11.cell? ⟨go10,(x4_1 : Int).toNat * 6 + 1,none⟩ = some (.int .i64 ((rd_T62 x3_1 x4_1).f1)):=hcc10 1 _ rfl;have hx10_2 : w11.cell? ⟨go10,(x4_1 : Int).toNat * 6 + 2,none⟩ = some (.int .i64 ((rd_T62 x3_1 x4_1).f2.f0)):=hcc10 2 _ rfl;have hx10_3 : w11.cell? ⟨go10,(x4_1 : Int).toNat * 6 + 3,none⟩ = some (.int .i64 ((rd_T62 x3_1 x4_1).f2.f1)):=hcc10 3 _ rfl;have hx10_4 : w11.cell? ⟨go10,(x4_1 : Int).toNat * 6 + 4,none⟩ = some (.int .i64 ((rd_T62 x3_1 x4_1).f2.f2)):=hcc10 4 _ rfl;have hx10_5 : w11.cell? ⟨go10,(x4_1 : Int).toNat * 6 + 5,none⟩ = some (.int .i64 ((rd_T62 x3_1 x4_1).f2.f3)):=hcc10 5 _ rfl;have hf10_0 : w11.frozen? ⟨go10,(x4_1 : Int).toNat * 6,none⟩ = false:=hfr10 0 (by decide);have hf10_1 : w11.frozen? ⟨go10,(x4_1 : Int).toNat * 6 + 1,none⟩ = false:=hfr10 1 (by decide);have hf10_2 : w11.frozen? ⟨go10,(x4_1 : Int).toNat * 6 + 2,none⟩ = false:=hfr10 2 (by decide);have hf10_3 : w11.frozen? ⟨go10,(x4_1 : Int).toNat * 6 + 3,none⟩ = false:=hfr10 3 (by decide);have hf10_4 : w11.frozen? ⟨go10,(x4_1 : Int).toNat * 6 + 4,none⟩ = false:=hfr10 4 (by decide);have hf10_5 : w11.frozen? ⟨go10,(x4_1 : Int).toNat * 6 + 5,none⟩ = false:=hfr10 5 (by decide);clear hcl10 hcc10 hfr10 hM10;replace p10:=eq_true p10;replace q10:=eq_true q10;have HX12:=qh5 (show Kd.R k62 62 w11 w.heap.size (fun _ => True) (.slice (some ⟨go10,0,none⟩) x3_1.length co10) x3_1 from (by (with_reducible repeat (first|apply Kd.R_alloc|apply Kd.R_drewN|apply Kd.R_drew));exact HO_3.out));obtain ⟨ce12,hcl12,hM12,hcc12,hfr12⟩:=Kd.R_elem HX12.out z62 (x4_1 : Int) (sM (by first|(with_reducible assumption)|assumption)) (by have h_ : (x4_1 : Int) < ((x3_1.length : Int) : Int):=sM (by first|(with_reducible assumption)|assumption);first|exact h_|(have e_:=(Kd.R_reads' HO_3.out).1;omega)|simpa using h_);obtain rfl:=k62_openM hM12;have HP12:=Kd.R_seg HX12.out (x4_1 : Int) (sM (by first|(with_reducible assumption)|assumption)) (by have h_ : (x4_1 : Int) < ((x3_1.length : Int) : Int):=sM (by first|(with_reducible assumption)|assumption);first|exact h_|(have e_:=(Kd.R_reads' HO_3.out).1;omega)|simpa using h_) (seg:=[.int .i64 t288,.int .i64 t289,.int .i64 t290,.int .i64 t291,.int .i64 t292,.int .i64 t293]) (j:=0) hcl12 hcc12 (show 6 ≤ 6 from by decide) (x':=(⟨t288,t289,(⟨t290,t291,t292,t293⟩ : S60)⟩ : S62)) (k62_mkM _ _ _ (⟨t288,t289,(⟨t290,t291,t292,t293⟩ : S60)⟩ : S62) ) (fun _ hk => hk);have hx12_0:=hcc12 0 _ rfl;(try simp only [show (k62).sz = 6 from rfl,Nat.mul_one,Nat.add_zero] at hx12_0);have hf12_0:=hfr12 0 (by decide);(try simp only [show (k62).sz = 6 from rfl,Nat.mul_one,Nat.add_zero] at hf12_0);have hx12_1:=hcc12 1 _ rfl;(try simp only [show (k62).sz = 6 from rfl,Nat.mul_one,Nat.add_zero] at hx12_1);have hf12_1:=hfr12 1 (by decide);(try simp only [show (k62).sz = 6 from rfl,Nat.mul_one,Nat.add_zero] at hf12_1);have hx12_2:=hcc12 2 _ rfl;(try simp only [show (k62).sz = 6 from rfl,Nat.mul_one,Nat.add_zero] at hx12_2);have hf12_2:=hfr12 2 (by decide);(try simp only [show (k62).sz = 6 from rfl,Nat.mul_one,Nat.add_zero] at hf12_2);have hx12_3:=hcc12 3 _ rfl;(try simp only [show (k62).sz = 6 from rfl,Nat.mul_one,Nat.add_zero] at hx12_3);have hf12_3:=hfr12 3 (by decide);(try simp only [show (k62).sz = 6 from rfl,Nat.mul_one,Nat.add_zero] at hf12_3);have hx12_4:=hcc12 4 _ rfl;(try simp only [show (k62).sz = 6 from rfl,Nat.mul_one,Nat.add_zero] at hx12_4);have hf12_4:=hfr12 4 (by decide);(try simp only [show (k62).sz = 6 from rfl,Nat.mul_one,Nat.add_zero] at hf12_4);have hx12_5:=hcc12 5 _ rfl;(try simp only [show (k62).sz = 6 from rfl,Nat.mul_one,Nat.add_zero] at hx12_5);have hf12_5:=hfr12 5 (by decide);(try simp only [show (k62).sz = 6 from rfl,Nat.mul_one,Nat.add_zero] at hf12_5);clear hcl12 hcc12 hfr12 hM12)|((with_reducible refine gate_store (t:=62) (p:=21) rfl ?_);refine store_event (t:=62) (p:=21) (v:=?vo_w13) (w1:=((((((w11.setCell ⟨go10,(x4_1 : Int).toNat * 6,none⟩ (.int .i64 t288)).setCell ⟨go10,(x4_1 : Int).toNat * 6 + 1,none⟩ (.int .i64 t289)).setCell ⟨go10,(x4_1 : Int).toNat * 6 + 2,none⟩ (.int .i64 t290)).setCell ⟨go10,(x4_1 : Int).toNat * 6 + 3,none⟩ (.int .i64 t291)).setCell ⟨go10,(x4_1 : Int).toNat * 6 + 4,none⟩ (.int .i64 t292)).setCell ⟨go10,(x4_1 : Int).toNat * 6 + 5,none⟩ (.int .i64 t293))) ?hg ?ho ?hn ?hr ?_;(case ho => rfl);(case hg => rfl);(case hn => rfl);(case hr => first|(go_simp;done)|(go_simp;rfl));intro w13 hw;have hg : w11.grownBy w13 (some go10):=(by rw [hw];exact HP12.2);have hp_ : Kd.R k62 62 w13 w.heap.size (fun _ => True) (.slice (some ⟨go10,0,none⟩) x3_1.length co10) y294:=(by rw [hw,Ny294.out];exact HP12.1);clear HP12;have n0_:=qh5 (hp_);have n1_:=qh5 ((by rw [hw];exact qg5 (qg5 (qg5 (qg5 (qg5 (qg5 (HB.out) GB10.out) GB10.out) GB10.out) GB10.out) GB10.out) GB10.out : Below w.heap.size w w13));clear HO_3;clear HB;have HO_3:=n0_;have HB:=n1_;clear n0_ n1_;clear hg hw hp_))
        go_roundg k1
        case measure => have:=HK1.out;omega
        case rel => exact ⟨(y294),(wrap64 (x4_1 + 1)),(by first|rfl|(simp;done)|(simp [*];done)),H',⟨by have:=HK1.out;omega⟩,⟨by (with_reducible repeat (first|apply Kd.R_alloc|apply Kd.R_drewN|apply Kd.R_drew));exact HO_3.out⟩,⟨by repeat (first|(with_reducible first|exact HB.out|apply qd5|apply qe5|apply qf5)|exact HB.out)⟩⟩
       ·
        rw [if_neg c9] at H
        exact absurd H (by simp)
      ·
       rw [if_neg c7] at H
       exact absurd H (by simp)
     ·
      rw [if_neg c6] at H
      have c6b0 : decide (x4_1 < (l0.length : Int)) = false:=decide_eq_false c6
      clear c6
      obtain rfl:=sO H
      go_wp2
      go_ret
      exact ⟨_,by first|rfl|(simp [errW_none,errW_some] <;> rfl)|(simp [*,errW_none,errW_some] <;> rfl),by (with_reducible repeat (first|apply Kd.R_alloc|apply Kd.R_drewN|apply Kd.R_drew));exact HO_3.out,by repeat (first|(with_reducible first|exact HB.out|apply qd5|apply qe5|apply qf5)|exact HB.out)⟩
  ·
   rw [if_neg c3] at H
   exact absurd H (by simp)
 ·
  rw [if_neg c2] at H
  exact absurd H (by simp)

/-! ### laws_toTable: function 6 -/
def laws_toTable.f (k : Nat) (a0_0 : Int) (a0_1 : Int) (l0_2 : List (S51)) (l0_3 : List (S74)) : Option (Int × Int × (List (S55)) × (List (S62))):=(laws_toLockS.f k l0_2).bind fun t298 => ((laws_toSeenS.f k l0_3).bind fun t301 => (some (a0_0,a0_1,t298,t301)))
set_option maxHeartbeats 8000000 in
set_option maxRecDepth 100000 in
theorem laws_toTable.calls (k : Nat) (a0_0 : Int) (a0_1 : Int) (A0_2 : Option Addr) (c0_2 : Nat) (l0_2 : List (S51)) (A0_3 : Option Addr) (c0_3 : Nat) (l0_3 : List (S74)) (r1 : Int) (r2 : Int) (r3 : List (S55)) (r4 : List (S62)) (w : World) (hr0_2 : Kd.C k51 w A0_2 l0_2.length l0_2) (hc0_2 : l0_2.length ≤ c0_2) (hr0_3 : Kd.C k74 w A0_3 l0_3.length l0_3) (hc0_3 : l0_3.length ≤ c0_3) (h : laws_toTable.f k a0_0 a0_1 l0_2 l0_3 = some (r1,r2,r3,r4)) :
  Calls Tryd.prog 6 #[.agg #[.int .i64 a0_0,.int .i64 a0_1,.slice A0_2 l0_2.length c0_2,.slice A0_3 l0_3.length c0_3]] w fun e w' => ∃ v2_ v3_ : Value,e = .returned (.agg #[.int .i64 r1,.int .i64 r2,v2_,v3_]) ∧ Kd.S k55 55 w' w.heap.size (fun _ => True) v2_ r3 ∧ Kd.R k62 62 w' w.heap.size (fun _ => True) v3_ r4 ∧ Below w.heap.size w w':=by
 have hu25:=Tryd.underlying25
 have hu32:=Tryd.underlying32
 have HR0_2:=qh5 hr0_2
 have HC0_2:=qh5 hc0_2
 clear hr0_2 hc0_2
 have HR0_3:=qh5 hr0_3
 have HC0_3:=qh5 hc0_3
 clear hr0_3 hc0_3
 have HB:=qh5 (Below.refl w.heap.size w)
 have H : ((laws_toLockS.f k l0_2).bind fun t298 => ((laws_toSeenS.f k l0_3).bind fun t301 => (some (a0_0,a0_1,t298,t301)))) = some (r1,r2,r3,r4):=h
 clear h
 replace H:=Option.bind_eq_some_iff.mp H
 obtain ⟨t298,A20,H⟩:=H
 replace H : ((laws_toSeenS.f k l0_3).bind fun t301 => (some (a0_0,a0_1,t298,t301))) = some (r1,r2,r3,r4):=H
 have A2:=qh5 A20
 clear A20
 replace H:=Option.bind_eq_some_iff.mp H
 obtain ⟨t301,A30,H⟩:=H
 replace H : (some (a0_0,a0_1,t298,t301)) = some (r1,r2,r3,r4):=H
 have A3:=qh5 A30
 clear A30
 simp only [Option.some.injEq,Prod.mk.injEq] at H
 obtain ⟨rfl,rfl,rfl,rfl⟩:=H
 go_enter Tryd.func6,Tryd.ntmps6
 go_wp2_with (first|((with_reducible refine gate_dst (N:=1) rfl ?_);refine box_event ?hg (N:=1) ?hd (cs:=#[.int .i64 a0_0,.int .i64 a0_1,.slice A0_2 l0_2.length c0_2,.slice A0_3 l0_3.length c0_3]) (t:=25) ?hr ?_;(case hd => rfl);(case hg => rfl);(case hr => first|(go_simp;done)|(go_simp;rfl));intro gb295 hg w4 hbox hb;have n0_:=qh5 (qj5 (by repeat (first|(with_reducible first|exact HB.out|apply qd5|apply qe5|apply qf5)|exact HB.out)) hb);have n1_:=qh5 (hbox);have n2_:=qh5 ((by rw [hg];exact (qk5 (by repeat (first|(with_reducible first|exact HB.out|apply qd5|apply qe5|apply qf5)|exact HB.out))) : w.heap.size ≤ gb295));have n3_:=qh5 ((by rw [hg];exact (qk5 (by repeat (first|(with_reducible first|exact HB.out|apply qd5|apply qe5|apply qf5)|exact HB.out))) : w.heap.size ≤ gb295));clear HB;have HB:=n0_;have BK295:=n1_;have GW295:=n2_;have GE295:=n3_;clear n0_ n1_ n2_ n3_;clear hb hbox hg)|((with_reducible refine gate_dst (N:=2) rfl ?_);refine box_event ?hg (N:=2) ?hd (cs:=#[.int .i64 0,.int .i64 0,.slice none 0 0,.slice none 0 0]) (t:=32) ?hr ?_;(case hd => rfl);(case hg => rfl);(case hr => first|(go_simp;done)|(go_simp;rfl));intro gb296 hg w5 hbox hb;have n0_:=qh5 (qi5 (g:=gb295) (o:=.cells #[.int .i64 a0_0,.int .i64 a0_1,.slice A0_2 l0_2.length c0_2,.slice A0_3 l0_3.length c0_3] 25 (0,0)) (by (with_reducible repeat (first|apply qa5|apply qb5|apply qc5));exact BK295.out) hb);have n1_:=qh5 (qj5 (by repeat (first|(with_reducible first|exact HB.out|apply qd5|apply qe5|apply qf5|refine qg5 ?_ GE295.out)|exact HB.out)) hb);have n2_:=qh5 (hbox);have n3_:=qh5 ((by rw [hg];exact (qk5 (by repeat (first|(with_reducible first|exact HB.out|apply qd5|apply qe5|apply qf5|refine qg5 ?_ GE295.out)|exact HB.out))) : w.heap.size ≤ gb296));have n4_:=qh5 ((by rw [hg];exact (qk5 (by repeat (first|(with_reducible first|exact HB.out|apply qd5|apply qe5|apply qf5|refine qg5 ?_ GE295.out)|exact HB.out))) : w.heap.size ≤ gb296));have n5_:=qh5 ((by rw [hg];exact Nat.ne_of_lt (blk_lt (g:=gb295) (o:=.cells #[.int .i64 a0_0,.int .i64 a0_1,.slice A0_2 l0_2.length c0_2,.slice A0_3 l0_3.length c0_3] 25 (0,0)) (by (with_reducible repeat (first|apply qa5|apply qb5|apply qc5));exact BK295.out)) : gb295 ≠ gb296));have n6_:=qh5 ((by rw [hg];exact Nat.ne_of_gt (blk_lt (g:=gb295) (o:=.cells #[.int .i64 a0_0,.int .i64 a0_1,.slice A0_2 l0_2.length c0_2,.slice A0_3 l0_3.length c0_3] 25 (0,0)) (by (with_reducible repeat (first|apply qa5|apply qb5|apply qc5));exact BK295.out)) : gb296 ≠ gb295));clear BK295;clear HB;have BK295:=n0_;have HB:=n1_;have BK296:=n2_;have GW296:=n3_;have GE296:=n4_;have NB295_296:=n5_;have NB296_295:=n6_;clear n0_ n1_ n2_ n3_ n4_ n5_ n6_;clear hb hbox hg)|((with_reducible refine gate_dst (N:=3) rfl ?_);refine box_event ?hg (N:=3) ?hd (cs:=#[.int .i64 0,.int .i64 0,.slice none 0 0,.slice none 0 0]) (t:=32) ?hr ?_;(case hd => rfl);(case hg => rfl);(case hr => first|(go_simp;done)|(go_simp;rfl));intro gb297 hg w6 hbox hb;have n0_:=qh5 (qi5 (g:=gb295) (o:=.cells #[.int .i64 a0_0,.int .i64 a0_1,.slice A0_2 l0_2.length c0_2,.slice A0_3 l0_3.length c0_3] 25 (0,0)) (by (with_reducible repeat (first|apply qa5|apply qb5|apply qc5));exact BK295.out) hb);have n1_:=qh5 (qi5 (g:=gb296) (o:=.cells #[.int .i64 0,.int .i64 0,.slice none 0 0,.slice none 0 0] 32 (0,0)) (by (with_reducible repeat (first|apply qa5|apply qb5|apply qc5));exact BK296.out) hb);have n2_:=qh5 (qj5 (by repeat (first|(with_reducible first|exact HB.out|apply qd5|apply qe5|apply qf5|refine qg5 ?_ GE295.out|refine qg5 ?_ GE296.out)|exact HB.out)) hb);have n3_:=qh5 (hbox);have n4_:=qh5 ((by rw [hg];exact (qk5 (by repeat (first|(with_reducible first|exact HB.out|apply qd5|apply qe5|apply qf5|refine qg5 ?_ GE295.out|refine qg5 ?_ GE296.out)|exact HB.out))) : w.heap.size ≤ gb297));have n5_:=qh5 ((by rw [hg];exact (qk5 (by repeat (first|(with_reducible first|exact HB.out|apply qd5|apply qe5|apply qf5|refine qg5 ?_ GE295.out|refine qg5 ?_ GE296.out)|exact HB.out))) : w.heap.size ≤ gb297));have n6_:=qh5 ((by rw [hg];exact Nat.ne_of_lt (blk_lt (g:=gb295) (o:=.cells #[.int .i64 a0_0,.int .i64 a0_1,.slice A0_2 l0_2.length c0_2,.slice A0_3 l0_3.length c0_3] 25 (0,0)) (by (with_reducible repeat (first|apply qa5|apply qb5|apply qc5));exact BK295.out)) : gb295 ≠ gb297));have n7_:=qh5 ((by rw [hg];exact Nat.ne_of_gt (blk_lt (g:=gb295) (o:=.cells #[.int .i64 a0_0,.int .i64 a0_1,.slice A0_2 l0_2.length c0_2,.slice A0_3 l0_3.length c0_3] 25 (0,0)) (by (with_reducible repeat (first|apply qa5|apply qb5|apply qc5));exact BK295.out)) : gb297 ≠ gb295));have n8_:=qh5 ((by rw [hg];exact Nat.ne_of_lt (blk_lt (g:=gb296) (o:=.cells #[.int .i64 0,.int .i64 0,.slice none 0 0,.slice none 0 0] 32 (0,0)) (by (with_reducible repeat (first|apply qa5|apply qb5|apply qc5));exact BK296.out)) : gb296 ≠ gb297));have n9_:=qh5 ((by rw [hg];exact Nat.ne_of_gt (blk_lt (g:=gb296) (o:=.cells #[.int .i64 0,.int .i64 0,.slice none 0 0,.slice none 0 0] 32 (0,0)) (by (with_reducible repeat (first|apply qa5|apply qb5|apply qc5));exact BK296.out)) : gb297 ≠ gb296));clear BK295;clear BK296;clear HB;have BK295:=n0_;have BK296:=n1_;have HB:=n2_;have BK297:=n3_;have GW297:=n4_;have GE297:=n5_;have NB295_297:=n6_;have NB297_295:=n7_;have NB296_297:=n8_;have NB297_296:=n9_;clear n0_ n1_ n2_ n3_ n4_ n5_ n6_ n7_ n8_ n9_;clear hb hbox hg;have hnb7:=NB295_296.out;have hnc7:=NB296_295.out;have hnb8:=NB295_297.out;have hnc8:=NB297_295.out;have hcz9_0 : w6.cell? ⟨gb295,0,none⟩ = some (.int .i64 a0_0):=(blk_cell BK295.out 0).trans rfl;have hcz9_1 : w6.cell? ⟨gb295,1,none⟩ = some (.int .i64 a0_1):=(blk_cell BK295.out 1).trans rfl;have hcz9_2 : w6.cell? ⟨gb295,2,none⟩ = some (.slice A0_2 l0_2.length c0_2):=(blk_cell BK295.out 2).trans rfl;have hcz9_3 : w6.cell? ⟨gb295,3,none⟩ = some (.slice A0_3 l0_3.length c0_3):=(blk_cell BK295.out 3).trans rfl;have hfz9_0:=sJ BK295.out 0;have hfz9_1:=sJ BK295.out 1;have hfz9_2:=sJ BK295.out 2;have hfz9_3:=sJ BK295.out 3;have hnb10:=NB297_296.out;have hnc10:=NB296_297.out;have hcz11_0 : w6.cell? ⟨gb297,0,none⟩ = some (.int .i64 0):=(blk_cell BK297.out 0).trans rfl;have hcz11_1 : w6.cell? ⟨gb297,1,none⟩ = some (.int .i64 0):=(blk_cell BK297.out 1).trans rfl;have hcz11_2 : w6.cell? ⟨gb297,2,none⟩ = some (.slice none 0 0):=(blk_cell BK297.out 2).trans rfl;have hcz11_3 : w6.cell? ⟨gb297,3,none⟩ = some (.slice none 0 0):=(blk_cell BK297.out 3).trans rfl;have hfz11_0:=sJ BK297.out 0;have hfz11_1:=sJ BK297.out 1;have hfz11_2:=sJ BK297.out 2;have hfz11_3:=sJ BK297.out 3)|((with_reducible refine gate_callee (f:=14) rfl ?_);refine goesL_ (some 12) rfl rfl Tryd.func14 (by kernel_rfl) rfl #[.slice A0_2 l0_2.length c0_2] rfl (by (try simp only [sE,sH,sI]);first|done|rfl|(simp only [sG,sF];rfl)) ?_;(with_reducible refine (laws_toLockS.calls k _ _ l0_2 t298 _ ?side1 ?side2 A2.out).mono ?_);(case side1 => exact Kd.C_below HR0_2.out (by repeat (first|(with_reducible first|exact HB.out|apply qd5|apply qe5|apply qf5|refine qg5 ?_ GE295.out|refine qg5 ?_ GE296.out|refine qg5 ?_ GE297.out)|exact HB.out)));(case side2 => exact HC0_2.out);rintro e w12 ⟨v299,rfl,ho0,hb⟩;refine ⟨_,rfl,?_⟩;have n0_:=qh5 (Kd.S_lower ho0 (qk5 (by repeat (first|(with_reducible first|exact HB.out|apply qd5|apply qe5|apply qf5|refine qg5 ?_ GE295.out|refine qg5 ?_ GE296.out|refine qg5 ?_ GE297.out)|exact HB.out))));have n1_:=qh5 (qi5 (g:=gb295) (o:=.cells #[.int .i64 a0_0,.int .i64 a0_1,.slice A0_2 l0_2.length c0_2,.slice A0_3 l0_3.length c0_3] 25 (0,0)) (by (with_reducible repeat (first|apply qa5|apply qb5|apply qc5));refine blk_far ?_ NB295_297.out _;(with_reducible repeat (first|apply qa5|apply qb5|apply qc5));refine blk_far ?_ NB295_297.out _;(with_reducible repeat (first|apply qa5|apply qb5|apply qc5));exact BK295.out) hb);have n2_:=qh5 (qi5 (g:=gb296) (o:=.cells #[.int .i64 0,.int .i64 0,.slice none 0 0,.slice none 0 0] 32 (0,0)) (by (with_reducible repeat (first|apply qa5|apply qb5|apply qc5));refine blk_far ?_ NB296_297.out _;(with_reducible repeat (first|apply qa5|apply qb5|apply qc5));refine blk_far ?_ NB296_297.out _;(with_reducible repeat (first|apply qa5|apply qb5|apply qc5));exact BK296.out) hb);have n3_:=qh5 (qi5 (g:=gb297) (o:=.cells #[.int .i64 a0_0,.int .i64 a0_1,.slice none 0 0,.slice none 0 0] 32 (0,0)) (by (with_reducible repeat (first|apply qa5|apply qb5|apply qc5));refine blk_put (cs:=#[.int .i64 a0_0,.int .i64 0,.slice none 0 0,.slice none 0 0]) ?_ 1 _ rfl;(with_reducible repeat (first|apply qa5|apply qb5|apply qc5));refine blk_put (cs:=#[.int .i64 0,.int .i64 0,.slice none 0 0,.slice none 0 0]) ?_ 0 _ rfl;(with_reducible repeat (first|apply qa5|apply qb5|apply qc5));exact BK297.out) hb);have n4_:=qh5 (qj5 (by repeat (first|(with_reducible first|exact HB.out|apply qd5|apply qe5|apply qf5|refine qg5 ?_ GE295.out|refine qg5 ?_ GE296.out|refine qg5 ?_ GE297.out)|exact HB.out)) hb);clear BK295;clear BK296;clear BK297;clear HB;have HO300:=n0_;have BK295:=n1_;have BK296:=n2_;have BK297:=n3_;have HB:=n4_;clear n0_ n1_ n2_ n3_ n4_;(try clear hb);(try clear hb2);(try clear hk);(try clear hi);(try clear ho0);obtain ⟨Ao13,co13,eo13⟩:=Kd.S_slice HO300.out;subst eo13;have hcz14_0 : w12.cell? ⟨gb297,0,none⟩ = some (.int .i64 a0_0):=(blk_cell BK297.out 0).trans rfl;have hcz14_1 : w12.cell? ⟨gb297,1,none⟩ = some (.int .i64 a0_1):=(blk_cell BK297.out 1).trans rfl;have hcz14_2 : w12.cell? ⟨gb297,2,none⟩ = some (.slice none 0 0):=(blk_cell BK297.out 2).trans rfl;have hcz14_3 : w12.cell? ⟨gb297,3,none⟩ = some (.slice none 0 0):=(blk_cell BK297.out 3).trans rfl;have hfz14_0:=sJ BK297.out 0;have hfz14_1:=sJ BK297.out 1;have hfz14_2:=sJ BK297.out 2;have hfz14_3:=sJ BK297.out 3;have hcz15_0 : w12.cell? ⟨gb295,0,none⟩ = some (.int .i64 a0_0):=(blk_cell BK295.out 0).trans rfl;have hcz15_1 : w12.cell? ⟨gb295,1,none⟩ = some (.int .i64 a0_1):=(blk_cell BK295.out 1).trans rfl;have hcz15_2 : w12.cell? ⟨gb295,2,none⟩ = some (.slice A0_2 l0_2.length c0_2):=(blk_cell BK295.out 2).trans rfl;have hcz15_3 : w12.cell? ⟨gb295,3,none⟩ = some (.slice A0_3 l0_3.length c0_3):=(blk_cell BK295.out 3).trans rfl;have hfz15_0:=sJ BK295.out 0;have hfz15_1:=sJ BK295.out 1;have hfz15_2:=sJ BK295.out 2;have hfz15_3:=sJ BK295.out 3)|((with_reducible refine gate_callee (f:=15) rfl ?_);refine goesL_ (some 16) rfl rfl Tryd.func15 (by kernel_rfl) rfl #[.slice A0_3 l0_3.length c0_3] rfl (by (try simp only [sE,sH,sI]);first|done|rfl|(simp only [sG,sF];rfl)) ?_;(with_reducible refine (laws_toSeenS.calls k _ _ l0_3 t301 _ ?side1 ?side2 A3.out).mono ?_);(case side1 => exact Kd.C_below HR0_3.out (by repeat (first|(with_reducible first|exact HB.out|apply qd5|apply qe5|apply qf5|refine qg5 ?_ GE295.out|refine qg5 ?_ GE296.out|refine qg5 ?_ GE297.out)|exact HB.out)));(case side2 => exact HC0_3.out);rintro e w16 ⟨v302,rfl,ho0,hb⟩;refine ⟨_,rfl,?_⟩;have n0_:=qh5 (Kd.S_below (by (with_reducible repeat (first|apply Kd.S_alloc|apply Kd.S_drewN|apply Kd.S_drew));exact (Kd.S_mono (Kd.S_far (p:=⟨gb297,2,none⟩) (Kd.S_types HO300.out BK297.out (by decide)) (fun _ hk => hk.2) (.slice Ao13 t298.length co13)) (fun _ h_ => h_.1))) hb);have n1_:=qh5 (Kd.R_lower ho0 (qk5 (by repeat (first|(with_reducible first|exact HB.out|apply qd5|apply qe5|apply qf5|refine qg5 ?_ GE295.out|refine qg5 ?_ GE296.out|refine qg5 ?_ GE297.out)|exact HB.out))));have n2_:=qh5 (qi5 (g:=gb295) (o:=.cells #[.int .i64 a0_0,.int .i64 a0_1,.slice A0_2 l0_2.length c0_2,.slice A0_3 l0_3.length c0_3] 25 (0,0)) (by (with_reducible repeat (first|apply qa5|apply qb5|apply qc5));refine blk_far ?_ NB295_297.out _;(with_reducible repeat (first|apply qa5|apply qb5|apply qc5));exact BK295.out) hb);have n3_:=qh5 (qi5 (g:=gb296) (o:=.cells #[.int .i64 0,.int .i64 0,.slice none 0 0,.slice none 0 0] 32 (0,0)) (by (with_reducible repeat (first|apply qa5|apply qb5|apply qc5));refine blk_far ?_ NB296_297.out _;(with_reducible repeat (first|apply qa5|apply qb5|apply qc5));exact BK296.out) hb);have n4_:=qh5 (qi5 (g:=gb297) (o:=.cells #[.int .i64 a0_0,.int .i64 a0_1,.slice Ao13 t298.length co13,.slice none 0 0] 32 (0,0)) (by (with_reducible repeat (first|apply qa5|apply qb5|apply qc5));refine blk_put (cs:=#[.int .i64 a0_0,.int .i64 a0_1,.slice none 0 0,.slice none 0 0]) ?_ 2 _ rfl;(with_reducible repeat (first|apply qa5|apply qb5|apply qc5));exact BK297.out) hb);have n5_:=qh5 (qj5 (by repeat (first|(with_reducible first|exact HB.out|apply qd5|apply qe5|apply qf5|refine qg5 ?_ GE295.out|refine qg5 ?_ GE296.out|refine qg5 ?_ GE297.out)|exact HB.out)) hb);clear HO300;clear BK295;clear BK296;clear BK297;clear HB;have HO300:=n0_;have HO303:=n1_;have BK295:=n2_;have BK296:=n3_;have BK297:=n4_;have HB:=n5_;clear n0_ n1_ n2_ n3_ n4_ n5_;(try clear hb);(try clear hb2);(try clear hk);(try clear hi);(try clear ho0);obtain ⟨Ao17,co17,eo17⟩:=Kd.R_slice HO303.out;subst eo17;have hcz18_0 : w16.cell? ⟨gb297,0,none⟩ = some (.int .i64 a0_0):=(blk_cell BK297.out 0).trans rfl;have hcz18_1 : w16.cell? ⟨gb297,1,none⟩ = some (.int .i64 a0_1):=(blk_cell BK297.out 1).trans rfl;have hcz18_2 : w16.cell? ⟨gb297,2,none⟩ = some (.slice Ao13 t298.length co13):=(blk_cell BK297.out 2).trans rfl;have hcz18_3 : w16.cell? ⟨gb297,3,none⟩ = some (.slice none 0 0):=(blk_cell BK297.out 3).trans rfl;have hfz18_0:=sJ BK297.out 0;have hfz18_1:=sJ BK297.out 1;have hfz18_2:=sJ BK297.out 2;have hfz18_3:=sJ BK297.out 3;have hcz19_0 : w16.cell? ⟨gb296,0,none⟩ = some (.int .i64 0):=(blk_cell BK296.out 0).trans rfl;have hcz19_1 : w16.cell? ⟨gb296,1,none⟩ = some (.int .i64 0):=(blk_cell BK296.out 1).trans rfl;have hcz19_2 : w16.cell? ⟨gb296,2,none⟩ = some (.slice none 0 0):=(blk_cell BK296.out 2).trans rfl;have hcz19_3 : w16.cell? ⟨gb296,3,none⟩ = some (.slice none 0 0):=(blk_cell BK296.out 3).trans rfl;have hfz19_0:=sJ BK296.out 0;have hfz19_1:=sJ BK296.out 1;have hfz19_2:=sJ BK296.out 2;have hfz19_3:=sJ BK296.out 3))
 refine bodyPost_ret (results_cell_row rfl _ _ gb296 32 #[.int .i64 a0_0,.int .i64 a0_1,.slice Ao13 t298.length co13,.slice Ao17 t301.length co17] (0,0) _ rfl (by (with_reducible repeat (first|apply qa5|apply qb5|apply qc5));refine blk_put (cs:=#[.int .i64 a0_0,.int .i64 a0_1,.slice Ao13 t298.length co13,.slice none 0 0]) ?_ 3 _ rfl;(with_reducible repeat (first|apply qa5|apply qb5|apply qc5));refine blk_put (cs:=#[.int .i64 a0_0,.int .i64 a0_1,.slice none 0 0,.slice none 0 0]) ?_ 2 _ rfl;(with_reducible repeat (first|apply qa5|apply qb5|apply qc5));refine blk_put (cs:=#[.int .i64 a0_0,.int .i64 0,.slice none 0 0,.slice none 0 0]) ?_ 1 _ rfl;(with_reducible repeat (first|apply qa5|apply qb5|apply qc5));refine blk_put (cs:=#[.int .i64 0,.int .i64 0,.slice none 0 0,.slice none 0 0]) ?_ 0 _ rfl;(with_reducible repeat (first|apply qa5|apply qb5|apply qc5));refine blk_far ?_ NB296_297.out _;(with_reducible repeat (first|apply qa5|apply qb5|apply qc5));exact BK296.out) Tryd.underlying32 rfl (by kernel_rfl)) rfl ?_
 exact ⟨_,_,by first|rfl|(simp [errW_none,errW_some] <;> rfl)|(simp [*,errW_none,errW_some] <;> rfl),by (with_reducible repeat (first|apply Kd.S_alloc|apply Kd.S_drewN|apply Kd.S_drew));exact Kd.S_mono (Kd.S_far (p:=⟨gb296,3,none⟩) (Kd.S_far (p:=⟨gb296,2,none⟩) (Kd.S_far (p:=⟨gb296,1,none⟩) (Kd.S_far (p:=⟨gb296,0,none⟩) (Kd.S_far (p:=⟨gb297,3,none⟩) (Kd.S_types (Kd.S_types HO300.out BK297.out (by decide)) BK296.out (by decide)) (fun _ hk => hk.1.2) (.slice Ao17 t301.length co17)) (fun _ hk => hk.2) (.int .i64 a0_0)) (fun _ hk => hk.2) (.int .i64 a0_1)) (fun _ hk => hk.2) (.slice Ao13 t298.length co13)) (fun _ hk => hk.2) (.slice Ao17 t301.length co17)) (fun _ hk => trivial),by (with_reducible repeat (first|apply Kd.R_alloc|apply Kd.R_drewN|apply Kd.R_drew));exact Kd.R_mono (Kd.R_far (p:=⟨gb296,3,none⟩) (Kd.R_far (p:=⟨gb296,2,none⟩) (Kd.R_far (p:=⟨gb296,1,none⟩) (Kd.R_far (p:=⟨gb296,0,none⟩) (Kd.R_far (p:=⟨gb297,3,none⟩) (Kd.R_types (Kd.R_types HO303.out BK297.out (by decide)) BK296.out (by decide)) (fun _ hk => hk.1.2) (.slice Ao17 t301.length co17)) (fun _ hk => hk.2) (.int .i64 a0_0)) (fun _ hk => hk.2) (.int .i64 a0_1)) (fun _ hk => hk.2) (.slice Ao13 t298.length co13)) (fun _ hk => hk.2) (.slice Ao17 t301.length co17)) (fun _ hk => trivial),by repeat (first|(with_reducible first|exact HB.out|apply qd5|apply qe5|apply qf5|refine qg5 ?_ GE295.out|refine qg5 ?_ GE296.out|refine qg5 ?_ GE297.out)|exact HB.out)⟩

/-! ### impl_within: function 30 -/
def impl_within.f (a0 : Int) (a1 : Int) (a2 : Int) : Option (Bool):=if a0 ≥ a1 then (some (decide (a0 ≤ a2))) else (some false)
set_option maxHeartbeats 8000000 in
set_option maxRecDepth 100000 in
theorem impl_within.calls (a0 : Int) (a1 : Int) (a2 : Int) (r : Bool) (w : World) (h : impl_within.f a0 a1 a2 = some r) :
  Calls Tryd.prog 30 #[.int .i64 a0,.int .i64 a1,.int .i64 a2] w fun e w' => e = .returned (.bool r) ∧ Drawn0 w w':=by
 have H : (if a0 ≥ a1 then (some (decide (a0 ≤ a2))) else (some false)) = some r:=h
 clear h
 by_cases c4 : a0 ≥ a1
 ·
  rw [if_pos c4] at H
  have c4b0 : decide (a1 ≤ a0) = true:=decide_eq_true c4
  clear c4
  obtain rfl:=sO H
  go_enter Tryd.func30,Tryd.ntmps30
  go_wp2
  go_ret
  exact ⟨by first|rfl|(simp;done)|(simp [*];done),by repeat (first|exact Drawn0.refl _|apply Drawn0.step)⟩
 ·
  rw [if_neg c4] at H
  have c4b0 : decide (a1 ≤ a0) = false:=decide_eq_false c4
  clear c4
  obtain rfl:=sO H
  go_enter Tryd.func30,Tryd.ntmps30
  go_wp2
  go_ret
  exact ⟨by first|rfl|(simp;done)|(simp [*];done),by repeat (first|exact Drawn0.refl _|apply Drawn0.step)⟩

/-! ### impl_isAnswer: function 32 -/
def impl_isAnswer.f (a0_0 : Int) (a0_1 : Int) (a0_2 : Int) (a0_3 : Int) : Option (Bool):=(impl_within.f a0_0 1 8).bind fun t305 => (if t305 = true then ((impl_within.f a0_1 0 1000000).bind fun t306 => (if t306 = true then ((impl_within.f a0_2 (-1) 255).bind fun t307 => (if t307 = true then ((impl_within.f a0_3 0 2000000000).bind fun t308 => (some t308)) else (some false))) else (some false))) else (some false))
set_option maxHeartbeats 8000000 in
set_option maxRecDepth 100000 in
theorem impl_isAnswer.calls (a0_0 : Int) (a0_1 : Int) (a0_2 : Int) (a0_3 : Int) (r : Bool) (w : World) (h : impl_isAnswer.f a0_0 a0_1 a0_2 a0_3 = some r) :
  Calls Tryd.prog 32 #[.agg #[.int .i64 a0_0,.int .i64 a0_1,.int .i64 a0_2,.int .i64 a0_3]] w fun e w' => e = .returned (.bool r) ∧ Below w.heap.size w w':=by
 have hu60:=Tryd.underlying60
 have HB:=qh5 (Below.refl w.heap.size w)
 have H : ((impl_within.f a0_0 1 8).bind fun t305 => (if t305 = true then ((impl_within.f a0_1 0 1000000).bind fun t306 => (if t306 = true then ((impl_within.f a0_2 (-1) 255).bind fun t307 => (if t307 = true then ((impl_within.f a0_3 0 2000000000).bind fun t308 => (some t308)) else (some false))) else (some false))) else (some false))) = some r:=h
 clear h
 replace H:=Option.bind_eq_some_iff.mp H
 obtain ⟨t305,A20,H⟩:=H
 replace H : (if t305 = true then ((impl_within.f a0_1 0 1000000).bind fun t306 => (if t306 = true then ((impl_within.f a0_2 (-1) 255).bind fun t307 => (if t307 = true then ((impl_within.f a0_3 0 2000000000).bind fun t308 => (some t308)) else (some false))) else (some false))) else (some false)) = some r:=H
 have A2:=qh5 A20
 clear A20
 by_cases c3 : t305 = true
 ·
  subst c3
  have H1 : ((impl_within.f a0_1 0 1000000).bind fun t306 => (if t306 = true then ((impl_within.f a0_2 (-1) 255).bind fun t307 => (if t307 = true then ((impl_within.f a0_3 0 2000000000).bind fun t308 => (some t308)) else (some false))) else (some false))) = some r:=by rw [if_pos rfl] at H;exact H
  clear H
  have H:=H1
  clear H1
  replace H:=Option.bind_eq_some_iff.mp H
  obtain ⟨t306,A40,H⟩:=H
  replace H : (if t306 = true then ((impl_within.f a0_2 (-1) 255).bind fun t307 => (if t307 = true then ((impl_within.f a0_3 0 2000000000).bind fun t308 => (some t308)) else (some false))) else (some false)) = some r:=H
  have A4:=qh5 A40
  clear A40
  by_cases c5 : t306 = true
  ·
   subst c5
   have H1 : ((impl_within.f a0_2 (-1) 255).bind fun t307 => (if t307 = true then ((impl_within.f a0_3 0 2000000000).bind fun t308 => (some t308)) else (some false))) = some r:=by rw [if_pos rfl] at H;exact H
   clear H
   have H:=H1
   clear H1
   replace H:=Option.bind_eq_some_iff.mp H
   obtain ⟨t307,A60,H⟩:=H
   replace H : (if t307 = true then ((impl_within.f a0_3 0 2000000000).bind fun t308 => (some t308)) else (some false)) = some r:=H
   have A6:=qh5 A60
   clear A60
   by_cases c7 : t307 = true
   ·
    subst c7
    have H1 : ((impl_within.f a0_3 0 2000000000).bind fun t308 => (some t308)) = some r:=by rw [if_pos rfl] at H;exact H
    clear H
    have H:=H1
    clear H1
    replace H:=Option.bind_eq_some_iff.mp H
    obtain ⟨t308,A80,H⟩:=H
    replace H : (some t308) = some r:=H
    have A8:=qh5 A80
    clear A80
    obtain rfl:=sO H
    go_enter Tryd.func32,Tryd.ntmps32
    go_wp2_with (first|((with_reducible refine gate_dst (N:=1) rfl ?_);refine box_event ?hg (N:=1) ?hd (cs:=#[.int .i64 a0_0,.int .i64 a0_1,.int .i64 a0_2,.int .i64 a0_3]) (t:=60) ?hr ?_;(case hd => rfl);(case hg => rfl);(case hr => first|(go_simp;done)|(go_simp;rfl));intro gb304 hg w9 hbox hb;have n0_:=qh5 (qj5 (by repeat (first|(with_reducible first|exact HB.out|apply qd5|apply qe5|apply qf5)|exact HB.out)) hb);have n1_:=qh5 (hbox);have n2_:=qh5 ((by rw [hg];exact (qk5 (by repeat (first|(with_reducible first|exact HB.out|apply qd5|apply qe5|apply qf5)|exact HB.out))) : w.heap.size ≤ gb304));have n3_:=qh5 ((by rw [hg];exact (qk5 (by repeat (first|(with_reducible first|exact HB.out|apply qd5|apply qe5|apply qf5)|exact HB.out))) : w.heap.size ≤ gb304));clear HB;have HB:=n0_;have BK304:=n1_;have GW304:=n2_;have GE304:=n3_;clear n0_ n1_ n2_ n3_;clear hb hbox hg;have hcz10_0 : w9.cell? ⟨gb304,0,none⟩ = some (.int .i64 a0_0):=(blk_cell BK304.out 0).trans rfl;have hcz10_1 : w9.cell? ⟨gb304,1,none⟩ = some (.int .i64 a0_1):=(blk_cell BK304.out 1).trans rfl;have hcz10_2 : w9.cell? ⟨gb304,2,none⟩ = some (.int .i64 a0_2):=(blk_cell BK304.out 2).trans rfl;have hcz10_3 : w9.cell? ⟨gb304,3,none⟩ = some (.int .i64 a0_3):=(blk_cell BK304.out 3).trans rfl;have hfz10_0:=sJ BK304.out 0;have hfz10_1:=sJ BK304.out 1;have hfz10_2:=sJ BK304.out 2;have hfz10_3:=sJ BK304.out 3)|((with_reducible refine gate_callee (f:=30) rfl ?_);refine goesL_ (some 5) rfl rfl Tryd.func30 (by kernel_rfl) rfl #[.int .i64 a0_0,.int .i64 1,.int .i64 8] rfl (by (try simp only [sE,sH,sI]);first|done|rfl|(simp only [sG,sF];rfl)) ?_;(with_reducible refine (impl_within.calls a0_0 1 8 true _ A2.out).mono ?_);rintro e w' ⟨rfl,⟨nd,rfl⟩⟩;refine ⟨_,rfl,?_⟩)|(go_at_call 30;(with_reducible refine (impl_within.calls a0_1 0 1000000 true _ A4.out).mono ?_);rintro e w' ⟨rfl,⟨nd,rfl⟩⟩)|(go_at_call 30;(with_reducible refine (impl_within.calls a0_2 (-1) 255 true _ A6.out).mono ?_);rintro e w' ⟨rfl,⟨nd,rfl⟩⟩)|(go_at_call 30;(with_reducible refine (impl_within.calls a0_3 0 2000000000 t308 _ A8.out).mono ?_);rintro e w' ⟨rfl,⟨nd,rfl⟩⟩))
    go_ret
    exact ⟨by first|rfl|(simp [errW_none,errW_some] <;> rfl)|(simp [*,errW_none,errW_some] <;> rfl),by repeat (first|(with_reducible first|exact HB.out|apply qd5|apply qe5|apply qf5|refine qg5 ?_ GE304.out)|exact HB.out)⟩
   ·
    replace c7:=Bool.eq_false_iff.mpr c7
    subst c7
    have H1 : (some false) = some r:=by rw [if_neg (show ¬ (false = true) by decide)] at H;exact H
    clear H
    have H:=H1
    clear H1
    obtain rfl:=sO H
    go_enter Tryd.func32,Tryd.ntmps32
    go_wp2_with (first|((with_reducible refine gate_dst (N:=1) rfl ?_);refine box_event ?hg (N:=1) ?hd (cs:=#[.int .i64 a0_0,.int .i64 a0_1,.int .i64 a0_2,.int .i64 a0_3]) (t:=60) ?hr ?_;(case hd => rfl);(case hg => rfl);(case hr => first|(go_simp;done)|(go_simp;rfl));intro gb304 hg w11 hbox hb;have n0_:=qh5 (qj5 (by repeat (first|(with_reducible first|exact HB.out|apply qd5|apply qe5|apply qf5)|exact HB.out)) hb);have n1_:=qh5 (hbox);have n2_:=qh5 ((by rw [hg];exact (qk5 (by repeat (first|(with_reducible first|exact HB.out|apply qd5|apply qe5|apply qf5)|exact HB.out))) : w.heap.size ≤ gb304));have n3_:=qh5 ((by rw [hg];exact (qk5 (by repeat (first|(with_reducible first|exact HB.out|apply qd5|apply qe5|apply qf5)|exact HB.out))) : w.heap.size ≤ gb304));clear HB;have HB:=n0_;have BK304:=n1_;have GW304:=n2_;have GE304:=n3_;clear n0_ n1_ n2_ n3_;clear hb hbox hg;have hcz12_0 : w11.cell? ⟨gb304,0,none⟩ = some (.int .i64 a0_0):=(blk_cell BK304.out 0).trans rfl;have hcz12_1 : w11.cell? ⟨gb304,1,none⟩ = some (.int .i64 a0_1):=(blk_cell BK304.out 1).trans rfl;have hcz12_2 : w11.cell? ⟨gb304,2,none⟩ = some (.int .i64 a0_2):=(blk_cell BK304.out 2).trans rfl;have hcz12_3 : w11.cell? ⟨gb304,3,none⟩ = some (.int .i64 a0_3):=(blk_cell BK304.out 3).trans rfl;have hfz12_0:=sJ BK304.out 0;have hfz12_1:=sJ BK304.out 1;have hfz12_2:=sJ BK304.out 2;have hfz12_3:=sJ BK304.out 3)|((with_reducible refine gate_callee (f:=30) rfl ?_);refine goesL_ (some 5) rfl rfl Tryd.func30 (by kernel_rfl) rfl #[.int .i64 a0_0,.int .i64 1,.int .i64 8] rfl (by (try simp only [sE,sH,sI]);first|done|rfl|(simp only [sG,sF];rfl)) ?_;(with_reducible refine (impl_within.calls a0_0 1 8 true _ A2.out).mono ?_);rintro e w' ⟨rfl,⟨nd,rfl⟩⟩;refine ⟨_,rfl,?_⟩)|(go_at_call 30;(with_reducible refine (impl_within.calls a0_1 0 1000000 true _ A4.out).mono ?_);rintro e w' ⟨rfl,⟨nd,rfl⟩⟩)|(go_at_call 30;(with_reducible refine (impl_within.calls a0_2 (-1) 255 false _ A6.out).mono ?_);rintro e w' ⟨rfl,⟨nd,rfl⟩⟩))
    go_ret
    exact ⟨by first|rfl|(simp [errW_none,errW_some] <;> rfl)|(simp [*,errW_none,errW_some] <;> rfl),by repeat (first|(with_reducible first|exact HB.out|apply qd5|apply qe5|apply qf5|refine qg5 ?_ GE304.out)|exact HB.out)⟩
  ·
   replace c5:=Bool.eq_false_iff.mpr c5
   subst c5
   have H1 : (some false) = some r:=by rw [if_neg (show ¬ (false = true) by decide)] at H;exact H
   clear H
   have H:=H1
   clear H1
   obtain rfl:=sO H
   go_enter Tryd.func32,Tryd.ntmps32
   go_wp2_with (first|((with_reducible refine gate_dst (N:=1) rfl ?_);refine box_event ?hg (N:=1) ?hd (cs:=#[.int .i64 a0_0,.int .i64 a0_1,.int .i64 a0_2,.int .i64 a0_3]) (t:=60) ?hr ?_;(case hd => rfl);(case hg => rfl);(case hr => first|(go_simp;done)|(go_simp;rfl));intro gb304 hg w13 hbox hb;have n0_:=qh5 (qj5 (by repeat (first|(with_reducible first|exact HB.out|apply qd5|apply qe5|apply qf5)|exact HB.out)) hb);have n1_:=qh5 (hbox);have n2_:=qh5 ((by rw [hg];exact (qk5 (by repeat (first|(with_reducible first|exact HB.out|apply qd5|apply qe5|apply qf5)|exact HB.out))) : w.heap.size ≤ gb304));have n3_:=qh5 ((by rw [hg];exact (qk5 (by repeat (first|(with_reducible first|exact HB.out|apply qd5|apply qe5|apply qf5)|exact HB.out))) : w.heap.size ≤ gb304));clear HB;have HB:=n0_;have BK304:=n1_;have GW304:=n2_;have GE304:=n3_;clear n0_ n1_ n2_ n3_;clear hb hbox hg;have hcz14_0 : w13.cell? ⟨gb304,0,none⟩ = some (.int .i64 a0_0):=(blk_cell BK304.out 0).trans rfl;have hcz14_1 : w13.cell? ⟨gb304,1,none⟩ = some (.int .i64 a0_1):=(blk_cell BK304.out 1).trans rfl;have hcz14_2 : w13.cell? ⟨gb304,2,none⟩ = some (.int .i64 a0_2):=(blk_cell BK304.out 2).trans rfl;have hcz14_3 : w13.cell? ⟨gb304,3,none⟩ = some (.int .i64 a0_3):=(blk_cell BK304.out 3).trans rfl;have hfz14_0:=sJ BK304.out 0;have hfz14_1:=sJ BK304.out 1;have hfz14_2:=sJ BK304.out 2;have hfz14_3:=sJ BK304.out 3)|((with_reducible refine gate_callee (f:=30) rfl ?_);refine goesL_ (some 5) rfl rfl Tryd.func30 (by kernel_rfl) rfl #[.int .i64 a0_0,.int .i64 1,.int .i64 8] rfl (by (try simp only [sE,sH,sI]);first|done|rfl|(simp only [sG,sF];rfl)) ?_;(with_reducible refine (impl_within.calls a0_0 1 8 true _ A2.out).mono ?_);rintro e w' ⟨rfl,⟨nd,rfl⟩⟩;refine ⟨_,rfl,?_⟩)|(go_at_call 30;(with_reducible refine (impl_within.calls a0_1 0 1000000 false _ A4.out).mono ?_);rintro e w' ⟨rfl,⟨nd,rfl⟩⟩))
   go_ret
   exact ⟨by first|rfl|(simp [errW_none,errW_some] <;> rfl)|(simp [*,errW_none,errW_some] <;> rfl),by repeat (first|(with_reducible first|exact HB.out|apply qd5|apply qe5|apply qf5|refine qg5 ?_ GE304.out)|exact HB.out)⟩
 ·
  replace c3:=Bool.eq_false_iff.mpr c3
  subst c3
  have H1 : (some false) = some r:=by rw [if_neg (show ¬ (false = true) by decide)] at H;exact H
  clear H
  have H:=H1
  clear H1
  obtain rfl:=sO H
  go_enter Tryd.func32,Tryd.ntmps32
  go_wp2_with (first|((with_reducible refine gate_dst (N:=1) rfl ?_);refine box_event ?hg (N:=1) ?hd (cs:=#[.int .i64 a0_0,.int .i64 a0_1,.int .i64 a0_2,.int .i64 a0_3]) (t:=60) ?hr ?_;(case hd => rfl);(case hg => rfl);(case hr => first|(go_simp;done)|(go_simp;rfl));intro gb304 hg w15 hbox hb;have n0_:=qh5 (qj5 (by repeat (first|(with_reducible first|exact HB.out|apply qd5|apply qe5|apply qf5)|exact HB.out)) hb);have n1_:=qh5 (hbox);have n2_:=qh5 ((by rw [hg];exact (qk5 (by repeat (first|(with_reducible first|exact HB.out|apply qd5|apply qe5|apply qf5)|exact HB.out))) : w.heap.size ≤ gb304));have n3_:=qh5 ((by rw [hg];exact (qk5 (by repeat (first|(with_reducible first|exact HB.out|apply qd5|apply qe5|apply qf5)|exact HB.out))) : w.heap.size ≤ gb304));clear HB;have HB:=n0_;have BK304:=n1_;have GW304:=n2_;have GE304:=n3_;clear n0_ n1_ n2_ n3_;clear hb hbox hg;have hcz16_0 : w15.cell? ⟨gb304,0,none⟩ = some (.int .i64 a0_0):=(blk_cell BK304.out 0).trans rfl;have hcz16_1 : w15.cell? ⟨gb304,1,none⟩ = some (.int .i64 a0_1):=(blk_cell BK304.out 1).trans rfl;have hcz16_2 : w15.cell? ⟨gb304,2,none⟩ = some (.int .i64 a0_2):=(blk_cell BK304.out 2).trans rfl;have hcz16_3 : w15.cell? ⟨gb304,3,none⟩ = some (.int .i64 a0_3):=(blk_cell BK304.out 3).trans rfl;have hfz16_0:=sJ BK304.out 0;have hfz16_1:=sJ BK304.out 1;have hfz16_2:=sJ BK304.out 2;have hfz16_3:=sJ BK304.out 3)|((with_reducible refine gate_callee (f:=30) rfl ?_);refine goesL_ (some 5) rfl rfl Tryd.func30 (by kernel_rfl) rfl #[.int .i64 a0_0,.int .i64 1,.int .i64 8] rfl (by (try simp only [sE,sH,sI]);first|done|rfl|(simp only [sG,sF];rfl)) ?_;(with_reducible refine (impl_within.calls a0_0 1 8 false _ A2.out).mono ?_);rintro e w' ⟨rfl,⟨nd,rfl⟩⟩;refine ⟨_,rfl,?_⟩))
  go_ret
  exact ⟨by first|rfl|(simp [errW_none,errW_some] <;> rfl)|(simp [*,errW_none,errW_some] <;> rfl),by repeat (first|(with_reducible first|exact HB.out|apply qd5|apply qe5|apply qf5|refine qg5 ?_ GE304.out)|exact HB.out)⟩

/-! ### impl_isLetter: function 57 -/
def impl_isLetter.f (a0 : Int) : Option (Bool):=if a0 ≥ 97 then (if a0 ≤ 122 then (some true) else (if a0 ≥ 65 then (if a0 ≤ 90 then (some true) else (some (a0 == 95))) else (some (a0 == 95)))) else (if a0 ≥ 65 then (if a0 ≤ 90 then (some true) else (some (a0 == 95))) else (some (a0 == 95)))
set_option maxHeartbeats 8000000 in
set_option maxRecDepth 100000 in
theorem impl_isLetter.calls (a0 : Int) (r : Bool) (w : World) (h : impl_isLetter.f a0 = some r) :
  Calls Tryd.prog 57 #[.int .u8 a0] w fun e w' => e = .returned (.bool r) ∧ Drawn0 w w':=by
 have H : (if a0 ≥ 97 then (if a0 ≤ 122 then (some true) else (if a0 ≥ 65 then (if a0 ≤ 90 then (some true) else (some (a0 == 95))) else (some (a0 == 95)))) else (if a0 ≥ 65 then (if a0 ≤ 90 then (some true) else (some (a0 == 95))) else (some (a0 == 95)))) = some r:=h
 clear h
 by_cases c2 : a0 ≥ 97
 ·
  rw [if_pos c2] at H
  have c2b0 : decide (97 ≤ a0) = true:=decide_eq_true c2
  clear c2
  by_cases c3 : a0 ≤ 122
  ·
   rw [if_pos c3] at H
   have c3b0 : decide (a0 ≤ 122) = true:=decide_eq_true c3
   clear c3
   obtain rfl:=sO H
   go_enter Tryd.func57,Tryd.ntmps57
   go_wp2
   go_ret
   exact ⟨by first|rfl|(simp;done)|(simp [*];done),by repeat (first|exact Drawn0.refl _|apply Drawn0.step)⟩
  ·
   rw [if_neg c3] at H
   have c3b0 : decide (a0 ≤ 122) = false:=decide_eq_false c3
   clear c3
   by_cases c4 : a0 ≥ 65
   ·
    rw [if_pos c4] at H
    have c4b0 : decide (65 ≤ a0) = true:=decide_eq_true c4
    clear c4
    by_cases c5 : a0 ≤ 90
    ·
     rw [if_pos c5] at H
     have c5b0 : decide (a0 ≤ 90) = true:=decide_eq_true c5
     clear c5
     obtain rfl:=sO H
     go_enter Tryd.func57,Tryd.ntmps57
     go_wp2
     go_ret
     exact ⟨by first|rfl|(simp;done)|(simp [*];done),by repeat (first|exact Drawn0.refl _|apply Drawn0.step)⟩
    ·
     rw [if_neg c5] at H
     have c5b0 : decide (a0 ≤ 90) = false:=decide_eq_false c5
     clear c5
     obtain rfl:=sO H
     go_enter Tryd.func57,Tryd.ntmps57
     go_wp2
     go_ret
     exact ⟨by first|rfl|(simp;done)|(simp [*];done),by repeat (first|exact Drawn0.refl _|apply Drawn0.step)⟩
   ·
    rw [if_neg c4] at H
    have c4b0 : decide (65 ≤ a0) = false:=decide_eq_false c4
    clear c4
    obtain rfl:=sO H
    go_enter Tryd.func57,Tryd.ntmps57
    go_wp2
    go_ret
    exact ⟨by first|rfl|(simp;done)|(simp [*];done),by repeat (first|exact Drawn0.refl _|apply Drawn0.step)⟩
 ·
  rw [if_neg c2] at H
  have c2b0 : decide (97 ≤ a0) = false:=decide_eq_false c2
  clear c2
  by_cases c6 : a0 ≥ 65
  ·
   rw [if_pos c6] at H
   have c6b0 : decide (65 ≤ a0) = true:=decide_eq_true c6
   clear c6
   by_cases c7 : a0 ≤ 90
   ·
    rw [if_pos c7] at H
    have c7b0 : decide (a0 ≤ 90) = true:=decide_eq_true c7
    clear c7
    obtain rfl:=sO H
    go_enter Tryd.func57,Tryd.ntmps57
    go_wp2
    go_ret
    exact ⟨by first|rfl|(simp;done)|(simp [*];done),by repeat (first|exact Drawn0.refl _|apply Drawn0.step)⟩
   ·
    rw [if_neg c7] at H
    have c7b0 : decide (a0 ≤ 90) = false:=decide_eq_false c7
    clear c7
    obtain rfl:=sO H
    go_enter Tryd.func57,Tryd.ntmps57
    go_wp2
    go_ret
    exact ⟨by first|rfl|(simp;done)|(simp [*];done),by repeat (first|exact Drawn0.refl _|apply Drawn0.step)⟩
  ·
   rw [if_neg c6] at H
   have c6b0 : decide (65 ≤ a0) = false:=decide_eq_false c6
   clear c6
   obtain rfl:=sO H
   go_enter Tryd.func57,Tryd.ntmps57
   go_wp2
   go_ret
   exact ⟨by first|rfl|(simp;done)|(simp [*];done),by repeat (first|exact Drawn0.refl _|apply Drawn0.step)⟩

end Go.Proofs.YtjkanhjapddhnaaDoor.PFnExactTableDigest
