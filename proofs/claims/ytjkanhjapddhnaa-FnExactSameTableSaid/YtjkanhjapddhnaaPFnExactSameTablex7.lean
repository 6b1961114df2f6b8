-- laid by this session's program myprint.py over the kit's printer
-- aliased
-- squeezed
import Derived.Test.YtjkanhjapddhnaaPFnExactSameTablex0
import Derived.Test.YtjkanhjapddhnaaPFnExactSameTablex6
import Derived.Test.YtjkanhjapddhnaaPFnExactSameTablex7d
namespace Go.Proofs.Ytjkanhjapddhnaa.PFnExactSameTable
open Go.RowKit Go.Proofs.YtjkanhjapddhnaaV.PrintWords Go.Proofs.YtjkanhjapddhnaaV.PrintLast Go.Proofs.YtjkanhjapddhnaaV.PrintMore
attribute [local go_sem] max2_int min2_int max_two min_two max_three min_three max_four min_four u8_wm u32_wm   -- for this text's walks alone
set_option linter.unusedVariables false
set_option linter.unusedSimpArgs false


set_option maxHeartbeats 8000000 in
set_option maxRecDepth 100000 in
theorem spec_l05Bytes.calls (k : Nat) (a0_0 : Int) (a0_1 : Int) (A0_2 : Option Addr) (c0_2 : Nat) (l0_2 : List (S70)) (A0_3 : Option Addr) (c0_3 : Nat) (l0_3 : List (S77)) (r : List Int) (w : World) (hr0_2 : Kd.C k70 w A0_2 l0_2.length l0_2) (hc0_2 : l0_2.length ≤ c0_2) (hr0_3 : Kd.C k77 w A0_3 l0_3.length l0_3) (hc0_3 : l0_3.length ≤ c0_3) (h : spec_l05Bytes.f k a0_0 a0_1 l0_2 l0_3 = some r) :
  Calls Try.prog 51 #[.agg #[.int .i64 a0_0,.int .i64 a0_1,.slice A0_2 l0_2.length c0_2,.slice A0_3 l0_3.length c0_3]] w fun e w' => ∃ v0_ : Value,e = .returned (v0_) ∧ Kd.R (Kd.int .u8) 5 w' w.heap.size (fun _ => True) v0_ r ∧ Below w.heap.size w w':=by
 have hu31:=Try.underlying31
 have hu70:=Try.underlying70
 have hu77:=Try.underlying77
 have HR0_2:=qk hr0_2
 have HC0_2:=qk hc0_2
 clear hr0_2 hc0_2
 have HR0_3:=qk hr0_3
 have HC0_3:=qk hc0_3
 clear hr0_3 hc0_3
 have HB:=qk (Below.refl w.heap.size w)
 have H : ((spec_l02Number.f k a0_0 4).bind fun t207 => ((spec_l02Number.f k a0_1 3).bind fun t210 => (if t207.length + t210.length < 140737488355328 then ((some (t207 ++ t210 : List Int)).bind fun y213 => ((some (([((l0_2.length : Int)) % 256] : List Int) : List Int)).bind fun y216 => (if y213.length + y216.length < 140737488355328 then (spec_l05Bytes.l0 k (y213 ++ y216) 0 a0_0 a0_1 l0_2 l0_3) else (none)))) else (none)))) = some r:=h
 clear h
 replace H:=Option.bind_eq_some_iff.mp H
 obtain ⟨t207,A20,H⟩:=H
 replace H : ((spec_l02Number.f k a0_1 3).bind fun t210 => (if t207.length + t210.length < 140737488355328 then ((some (t207 ++ t210 : List Int)).bind fun y213 => ((some (([((l0_2.length : Int)) % 256] : List Int) : List Int)).bind fun y216 => (if y213.length + y216.length < 140737488355328 then (spec_l05Bytes.l0 k (y213 ++ y216) 0 a0_0 a0_1 l0_2 l0_3) else (none)))) else (none))) = some r:=H
 have A2:=qk A20
 clear A20
 replace H:=Option.bind_eq_some_iff.mp H
 obtain ⟨t210,A30,H⟩:=H
 replace H : (if t207.length + t210.length < 140737488355328 then ((some (t207 ++ t210 : List Int)).bind fun y213 => ((some (([((l0_2.length : Int)) % 256] : List Int) : List Int)).bind fun y216 => (if y213.length + y216.length < 140737488355328 then (spec_l05Bytes.l0 k (y213 ++ y216) 0 a0_0 a0_1 l0_2 l0_3) else (none)))) else (none)) = some r:=H
 have A3:=qk A30
 clear A30
 by_cases c4 : t207.length + t210.length < 140737488355328
 ·
  rw [if_pos c4] at H
  have LMc4:=qk c4
  clear c4
  obtain ⟨y213,hy213⟩ : ∃ y_ : List Int,y_ = (t207 ++ t210):=⟨_,rfl⟩
  replace H : ((some (([((l0_2.length : Int)) % 256] : List Int) : List Int)).bind fun y216 => (if y213.length + y216.length < 140737488355328 then (spec_l05Bytes.l0 k (y213 ++ y216) 0 a0_0 a0_1 l0_2 l0_3) else (none))) = some r:=by first|(rw [hy213];with_reducible exact H)|(have H2_:=(Option.bind_some _ _).symm.trans H;rw [hy213];with_reducible exact H2_)|(have H2_:=(Option.bind_some _ _).symm.trans H;with_reducible exact H2_)|with_reducible exact H|(rw [hy213];exact H)|exact H
  have Ny213:=qk hy213
  clear hy213
  obtain ⟨y216,hy216⟩ : ∃ y_ : List Int,y_ = (([((l0_2.length : Int)) % 256] : List Int)):=⟨_,rfl⟩
  replace H : (if y213.length + y216.length < 140737488355328 then (spec_l05Bytes.l0 k (y213 ++ y216) 0 a0_0 a0_1 l0_2 l0_3) else (none)) = some r:=by first|(rw [hy216];with_reducible exact H)|(have H2_:=(Option.bind_some _ _).symm.trans H;rw [hy216];with_reducible exact H2_)|(have H2_:=(Option.bind_some _ _).symm.trans H;with_reducible exact H2_)|with_reducible exact H|(rw [hy216];exact H)|exact H
  have Ny216:=qk hy216
  clear hy216
  by_cases c5 : y213.length + y216.length < 140737488355328
  ·
   rw [if_pos c5] at H
   have LMc5:=qk c5
   clear c5
   obtain ⟨y219,hy219⟩ : ∃ y_ : List Int,y_ = (y213 ++ y216):=⟨_,rfl⟩
   replace H : (spec_l05Bytes.l0 k y219 0 a0_0 a0_1 l0_2 l0_3) = some r:=by first|(rw [hy219];with_reducible exact H)|(have H2_:=(Option.bind_some _ _).symm.trans H;rw [hy219];with_reducible exact H2_)|(have H2_:=(Option.bind_some _ _).symm.trans H;with_reducible exact H2_)|with_reducible exact H|(rw [hy219];exact H)|exact H
   have Ny219:=qk hy219
   clear hy219
   have H':=qk H
   clear H
   go_enter Try.func51,Try.ntmps51
   try go_wp2_with (first|((with_reducible refine gate_dst (N:=1) rfl ?_);refine box_event ?hg (N:=1) ?hd (cs:=#[.int .i64 a0_0,.int .i64 a0_1,.slice A0_2 l0_2.length c0_2,.slice A0_3 l0_3.length c0_3]) (t:=31) ?hr ?_;(case hd => rfl);(case hg => rfl);(case hr => first|(go_simp;done)|(go_simp;rfl));intro gb206 hg w6 hbox hb;have n0_:=qk (sN (by repeat (first|(with_reducible first|exact HB.out|apply qg|apply qh|apply qi)|exact HB.out)) hb);have n1_:=qk (hbox);have n2_:=qk ((by rw [hg];exact (qm (by repeat (first|(with_reducible first|exact HB.out|apply qg|apply qh|apply qi)|exact HB.out))) : w.heap.size ≤ gb206));have n3_:=qk ((by rw [hg];exact (qm (by repeat (first|(with_reducible first|exact HB.out|apply qg|apply qh|apply qi)|exact HB.out))) : w.heap.size ≤ gb206));clear HB;have HB:=n0_;have BK206:=n1_;have GW206:=n2_;have GE206:=n3_;clear n0_ n1_ n2_ n3_;clear hb hbox hg))
   have n0_:=qk (qb BK206.out)
   have n1_:=qk (qi HB.out)
   clear BK206
   clear HB
   have BK206:=n0_
   have HB:=n1_
   clear n0_ n1_
   refine start_ (n:=8) (S:=fun w' => w'.cell? ⟨gb206,0,none⟩ = some (.int .i64 a0_0) ∧ w'.cell? ⟨gb206,1,none⟩ = some (.int .i64 a0_1) ∧ w'.cell? ⟨gb206,2,none⟩ = some (.slice A0_2 l0_2.length c0_2) ∧ w'.cell? ⟨gb206,3,none⟩ = some (.slice A0_3 l0_3.length c0_3)) (ds:=[]) #[false,false,false,false,false,false,false,false] (by kernel_rfl) rfl rfl ⟨(blk_cell BK206.out 0).trans rfl,(blk_cell BK206.out 1).trans rfl,(blk_cell BK206.out 2).trans rfl,(blk_cell BK206.out 3).trans rfl⟩ (fun hHeld => ?_);refine with_tabW spec_l05Bytes.tab1 spec_l05Bytes.bits1 (fun HT_ HW_ => ?_)
   generalize w6.drew = w7 at BK206 HB hHeld ⊢
   refine pure_ (i:=0) (N:=some 9) (v:=?_) (a':=?_) #[true,false,false,false,false,false,false,false] rfl rfl (any_of HT_.out (by kernel_rfl)) (fun _ _ _ h => h) (Or.inl ⟨by rfl,?_⟩) ?_ ?_
   rotate_left
   ·
    intro w'
    go_simp
    with_reducible rfl
   rotate_left
   ·
    simp only [Act.put,sA,sB,sC,i64_w,i32_w]
    rfl
   refine pure_ (i:=3) (N:=some 12) (v:=?_) (a':=?_) #[true,false,false,true,false,false,false,false] rfl rfl (any_of HT_.out (by kernel_rfl)) (fun _ _ _ h => h) (Or.inl ⟨by rfl,?_⟩) ?_ ?_
   rotate_left
   ·
    intro w'
    go_simp
    with_reducible rfl
   rotate_left
   ·
    simp only [Act.put,sA,sB,sC,i64_w,i32_w]
    rfl
   refine take_ (i:=1) (N:=some 10) (v:=?_) (a':=?_) #[true,true,false,true,false,false,false,false] rfl rfl (take_ofW HT_.out HW_.out (by kernel_rfl)) (fun _ _ _ h => h) (Or.inl ⟨by rfl,?_⟩) hHeld ?_ ?_
   rotate_left
   ·
    rintro w' ⟨s0,s1,s2,s3⟩
    go_simp
    with_reducible rfl
   rotate_left
   ·
    simp only [Act.put,sA,sB,sC,i64_w,i32_w]
    rfl
   refine take_ (i:=4) (N:=some 13) (v:=?_) (a':=?_) #[true,true,false,true,true,false,false,false] rfl rfl (take_ofW HT_.out HW_.out (by kernel_rfl)) (fun _ _ _ h => h) (Or.inl ⟨by rfl,?_⟩) hHeld ?_ ?_
   rotate_left
   ·
    rintro w' ⟨s0,s1,s2,s3⟩
    go_simp
    with_reducible rfl
   rotate_left
   ·
    simp only [Act.put,sA,sB,sC,i64_w,i32_w]
    rfl
   refine one_ (i:=2) (N:=some 11) #[true,true,true,true,true,false,false,false] rfl rfl (one_of HT_.out (by kernel_rfl)) (by decide) (fun K hK => ?_)
   refine goes_ Try.func79 (by kernel_rfl) rfl #[.int .i64 a0_0,.int .i64 4] (by rfl) rfl rfl (by (try simp only [sE,sH,sI]);first|done|rfl|(simp only [sG,sF];rfl)) ?_
   with_reducible refine (spec_l02Number.calls k a0_0 4 t207 _ A2.out).mono ?_
   rintro e w8 ⟨v208,rfl,ho0,hb⟩
   refine ⟨_,rfl,?_⟩
   have n0_:=qk (Kd.R_lower ho0 (qm (by repeat (first|(with_reducible first|exact HB.out|apply qg|apply qh|apply qi|refine qj ?_ GE206.out)|exact HB.out))))
   have n1_:=qk (ql (g:=gb206) (o:=.cells #[.int .i64 a0_0,.int .i64 a0_1,.slice A0_2 l0_2.length c0_2,.slice A0_3 l0_3.length c0_3] 31 (0,0)) (by (with_reducible repeat (first|apply qa|apply qb|apply qc));exact BK206.out) hb)
   have n2_:=qk (sN (by repeat (first|(with_reducible first|exact HB.out|apply qg|apply qh|apply qi|refine qj ?_ GE206.out)|exact HB.out)) hb)
   clear BK206
   clear HB
   have HO209:=n0_
   have BK206:=n1_
   have HB:=n2_
   clear n0_ n1_ n2_
   (try clear hb)
   (try clear hb2)
   (try clear hk)
   (try clear hi)
   (try clear ho0)
   refine hK.out _ _ ⟨(blk_cell BK206.out 0).trans rfl,(blk_cell BK206.out 1).trans rfl,(blk_cell BK206.out 2).trans rfl,(blk_cell BK206.out 3).trans rfl⟩ (fun hHeld => ?_)
   clear hK K
   refine norm_ (a':=?_) ?_ ?_
   rotate_left
   ·
    show Act.put _ (some 11) _ = _
    simp only [Act.put,sA,sB,sC,i64_w,i32_w]
    rfl
   refine one_ (i:=5) (N:=some 14) #[true,true,true,true,true,true,false,false] rfl rfl (one_of HT_.out (by kernel_rfl)) (by decide) (fun K hK => ?_)
   refine goes_ Try.func79 (by kernel_rfl) rfl #[.int .i64 a0_1,.int .i64 3] (by rfl) rfl rfl (by (try simp only [sE,sH,sI]);first|done|rfl|(simp only [sG,sF];rfl)) ?_
   with_reducible refine (spec_l02Number.calls k a0_1 3 t210 _ A3.out).mono ?_
   rintro e w9 ⟨v211,rfl,ho0,hb⟩
   refine ⟨_,rfl,?_⟩
   have n0_:=qk (Kd.R_elder' (by (with_reducible repeat (first|apply qd|apply qe|apply qf));exact HO209.out) (Kd.R_base ho0) hb)
   have n1_:=qk (Kd.R_lower (Kd.R_new' ho0 (Kd.R_lt (by (with_reducible repeat (first|apply qd|apply qe|apply qf));exact HO209.out))) (qm (by repeat (first|(with_reducible first|exact HB.out|apply qg|apply qh|apply qi|refine qj ?_ GE206.out)|exact HB.out))))
   have n2_:=qk (ql (g:=gb206) (o:=.cells #[.int .i64 a0_0,.int .i64 a0_1,.slice A0_2 l0_2.length c0_2,.slice A0_3 l0_3.length c0_3] 31 (0,0)) (by (with_reducible repeat (first|apply qa|apply qb|apply qc));exact BK206.out) hb)
   have n3_:=qk (sN (by repeat (first|(with_reducible first|exact HB.out|apply qg|apply qh|apply qi|refine qj ?_ GE206.out)|exact HB.out)) hb)
   clear HO209
   clear BK206
   clear HB
   have HO209:=n0_
   have HO212:=n1_
   have BK206:=n2_
   have HB:=n3_
   clear n0_ n1_ n2_ n3_
   (try clear hb)
   (try clear hb2)
   (try clear hk)
   (try clear hi)
   (try clear ho0)
   obtain ⟨Ao11,co11,eo11⟩:=Kd.R_slice HO212.out
   (first|subst eo11|(injection eo11 with f1_ f2_ f3_;have f4_:=f1_.symm;have f5_:=f3_.symm;clear f1_ f2_ f3_;subst f4_;subst f5_))
   refine hK.out _ _ ⟨(blk_cell BK206.out 0).trans rfl,(blk_cell BK206.out 1).trans rfl,(blk_cell BK206.out 2).trans rfl,(blk_cell BK206.out 3).trans rfl⟩ (fun hHeld => ?_)
   clear hK K
   refine norm_ (a':=?_) ?_ ?_
   rotate_left
   ·
    show Act.put _ (some 14) _ = _
    simp only [Act.put,sA,sB,sC,i64_w,i32_w]
    rfl
   refine one_ (i:=6) (N:=some 15) #[true,true,true,true,true,true,true,false] rfl rfl (one_of HT_.out (by kernel_rfl)) (by decide) (fun K hK => ?_)
   refine Kd.R_append_rows_step (Kd.int .u8) (w0:=w) w.heap.size (by rfl) (.tmp 11) (.tmp 14) 38 5 (.int .u8 0) 1 rfl Try.underlying38 info5 rfl (by decide) (by omega) v208 t207 t210 _ _ _ (fun k_ => some k_ ≠ (.slice Ao11 t210.length co11 : Value).ownBlock) (fun _ => False) rfl rfl ?aO ?aR (fun _ _ h => h) (fun _ h => h.elim) ?aF ?aB ?aS ?aL ?_
   (case aR => repeat (first|exact (Kd.R_reads' HO212.out).2.2|(with_reducible refine Kd.C_alloc ?_ _)|(with_reducible refine Kd.C_drewN ?_ _)|(with_reducible refine Kd.C_drew ?_)))
   (case aB => exact (by repeat (first|(with_reducible first|exact HB.out|apply qg|apply qh|apply qi|refine qj ?_ GE206.out)|exact HB.out)))
   (case aF => exact (fun k_ hk => Kd.fresh' (Kd.R_lt (by (with_reducible repeat (first|apply qd|apply qe|apply qf));exact HO212.out)) k_ hk))
   (case aO => exact (by (with_reducible repeat (first|apply qd|apply qe|apply qf));exact qn HO209.out (fun _ hk => hk.2)))
   (case aS => exact (qm (by repeat (first|(with_reducible first|exact HB.out|apply qg|apply qh|apply qi|refine qj ?_ GE206.out)|exact HB.out))))
   (case aL => have:=LMc4.out;omega)
   intro v214 w10 ho hb hg hat
   rw [← Ny213.out] at ho
   have n0_:=qk (blk_grown (g:=gb206) (o:=.cells #[.int .i64 a0_0,.int .i64 a0_1,.slice A0_2 l0_2.length c0_2,.slice A0_3 l0_3.length c0_3] 31 (0,0)) (by (with_reducible repeat (first|apply qa|apply qb|apply qc));exact BK206.out) hg (Kd.R_ne HO209.out BK206.out (by decide)))
   have n1_:=qk (Kd.R_after (ok:=(fun _ => True)) (by (with_reducible repeat (first|apply qd|apply qe|apply qf));exact HO212.out) hg hat)
   have n2_:=qk (hb)
   have n3_:=qk (ho)
   clear BK206
   clear HO212
   clear HB
   clear HO209
   have BK206:=n0_
   have HO212:=n1_
   have HB:=n2_
   have HO215:=n3_
   clear n0_ n1_ n2_ n3_
   clear ho hb hg hat
   refine hK.out _ _ ⟨(blk_cell BK206.out 0).trans rfl,(blk_cell BK206.out 1).trans rfl,(blk_cell BK206.out 2).trans rfl,(blk_cell BK206.out 3).trans rfl⟩ (fun hHeld => ?_)
   clear hK K
   refine norm_ (a':=?_) ?_ ?_
   rotate_left
   ·
    show Act.put _ (some 15) _ = _
    simp only [Act.put,sA,sB,sC,i64_w,i32_w]
    rfl
   refine pure_ (i:=7) (N:=some 3) (v:=?_) (a':=?_) #[true,true,true,true,true,true,true,true] rfl rfl (any_of HT_.out (by kernel_rfl)) (fun _ _ _ h => h) (Or.inl ⟨by rfl,?_⟩) ?_ ?_
   rotate_left
   ·
    intro w'
    go_simp
    with_reducible rfl
   rotate_left
   ·
    simp only [Act.put,sA,sB,sC,i64_w,i32_w]
    rfl
   refine done_ (done_of HT_.out (by kernel_rfl)) ?_
   have hcz12_0 : w10.cell? ⟨gb206,0,none⟩ = some (.int .i64 a0_0):=(blk_cell BK206.out 0).trans rfl
   have hcz12_1 : w10.cell? ⟨gb206,1,none⟩ = some (.int .i64 a0_1):=(blk_cell BK206.out 1).trans rfl
   have hcz12_2 : w10.cell? ⟨gb206,2,none⟩ = some (.slice A0_2 l0_2.length c0_2):=(blk_cell BK206.out 2).trans rfl
   have hcz12_3 : w10.cell? ⟨gb206,3,none⟩ = some (.slice A0_3 l0_3.length c0_3):=(blk_cell BK206.out 3).trans rfl
   have hfz12_0:=sJ BK206.out 0
   have hfz12_1:=sJ BK206.out 1
   have hfz12_2:=sJ BK206.out 2
   have hfz12_3:=sJ BK206.out 3
   try go_wp2_with (first|((with_reducible refine gate_dst (N:=21) rfl ?_);refine Kd.R_lit (Kd.int .u8) _ 5 ?hg (N:=21) ?hd (xs:=([((l0_2.length : Int)) % 256] : List Int)) (inner:=[.int .u8 (((l0_2.length : Int)) % 256)]) (ok:=fun _ => True) (okp:=fun _ => True) ?hr ?hp (fun _ hk => hk) trivial (Below.refl _ _) (Nat.le_refl _) (by simp) ?_;(case hd => rfl);(case hg => rfl);(case hr => first|(go_simp;done)|(go_simp;rfl));(case hp => exact (Reps.one (show Kd.M (Kd.int .u8) _ _ _ (((l0_2.length : Int)) % 256) [.int .u8 (((l0_2.length : Int)) % 256)] from rfl) (Reps.none _ _)));intro v217 w13 ho14 hb hg_ hnew_;clear hg_ hnew_;(first|rw [← Ny216.out] at ho14|(simp only [Int.reduceToNat] at ho14;rw [← Ny216.out] at ho14));have n0_:=qk (Kd.R_elder' (by (with_reducible repeat (first|apply qd|apply qe|apply qf));exact HO212.out) (Kd.R_base ho14) hb);have n1_:=qk (Kd.R_elder' (by (with_reducible repeat (first|apply qd|apply qe|apply qf));exact HO215.out) (Kd.R_base ho14) hb);have n2_:=qk (Kd.R_lower (Kd.R_new' (Kd.R_new' ho14 (Kd.R_lt (by (with_reducible repeat (first|apply qd|apply qe|apply qf));exact HO212.out))) (Kd.R_lt (by (with_reducible repeat (first|apply qd|apply qe|apply qf));exact HO215.out))) (qm (by repeat (first|(with_reducible first|exact HB.out|apply qg|apply qh|apply qi|refine qj ?_ GE206.out)|exact HB.out))));have n3_:=qk (ql (g:=gb206) (o:=.cells #[.int .i64 a0_0,.int .i64 a0_1,.slice A0_2 l0_2.length c0_2,.slice A0_3 l0_3.length c0_3] 31 (0,0)) (by (with_reducible repeat (first|apply qa|apply qb|apply qc));exact BK206.out) hb);have n4_:=qk (sN (by repeat (first|(with_reducible first|exact HB.out|apply qg|apply qh|apply qi|refine qj ?_ GE206.out)|exact HB.out)) hb);clear HO212;clear HO215;clear BK206;clear HB;have HO212:=n0_;have HO215:=n1_;have HO218:=n2_;have BK206:=n3_;have HB:=n4_;clear n0_ n1_ n2_ n3_ n4_;clear hb ho14;obtain ⟨Ao16,co16,eo16⟩:=Kd.R_slice HO218.out;subst eo16)|((with_reducible refine gate_builtin (b:=.append) (xs:=#[.tmp 16,.tmp 21]) rfl ?_);at_builtin;refine Kd.R_append_rows (Kd.int .u8) (w0:=w) w.heap.size rfl (.tmp 16) (.tmp 21) 38 5 (.int .u8 0) 1 rfl Try.underlying38 info5 rfl (by decide) (by omega) v214 y213 y216 _ _ _ (fun k_ => some k_ ≠ (.slice Ao11 t210.length co11 : Value).ownBlock ∧ some k_ ≠ (.slice Ao16 y216.length co16 : Value).ownBlock) (fun _ => False) rfl rfl ?aO ?aR (fun _ _ h => h) (fun _ h => h.elim) ?aF ?aB ?aS ?aL ?_;(case aR => repeat (first|exact (Kd.R_reads' HO218.out).2.2|(with_reducible refine Kd.C_alloc ?_ _)|(with_reducible refine Kd.C_drewN ?_ _)|(with_reducible refine Kd.C_drew ?_)));(case aB => exact (by repeat (first|(with_reducible first|exact HB.out|apply qg|apply qh|apply qi|refine qj ?_ GE206.out)|exact HB.out)));(case aF => exact (fun k_ hk => ⟨Kd.fresh' (Kd.R_lt (by (with_reducible repeat (first|apply qd|apply qe|apply qf));exact HO212.out)) k_ hk,Kd.fresh' (Kd.R_lt (by (with_reducible repeat (first|apply qd|apply qe|apply qf));exact HO218.out)) k_ hk⟩));(case aO => exact (by (with_reducible repeat (first|apply qd|apply qe|apply qf));exact HO215.out));(case aS => exact (qm (by repeat (first|(with_reducible first|exact HB.out|apply qg|apply qh|apply qi|refine qj ?_ GE206.out)|exact HB.out))));(case aL => have:=LMc5.out;omega);intro v220 w15 ho hb hg hat;rw [← Ny219.out] at ho;have n0_:=qk (blk_grown (g:=gb206) (o:=.cells #[.int .i64 a0_0,.int .i64 a0_1,.slice A0_2 l0_2.length c0_2,.slice A0_3 l0_3.length c0_3] 31 (0,0)) (by (with_reducible repeat (first|apply qa|apply qb|apply qc));exact BK206.out) hg (Kd.R_ne HO215.out BK206.out (by decide)));have n1_:=qk (Kd.R_after (ok:=(fun k_ => some k_ ≠ (.slice Ao16 y216.length co16 : Value).ownBlock)) (by (with_reducible repeat (first|apply qd|apply qe|apply qf));exact qn HO212.out (fun _ hk => ⟨hk.2,hk.1.2⟩)) hg hat);have n2_:=qk (Kd.R_after (ok:=(fun k_ => some k_ ≠ (.slice Ao11 t210.length co11 : Value).ownBlock)) (by (with_reducible repeat (first|apply qd|apply qe|apply qf));exact qn HO218.out (fun _ hk => ⟨hk.1.2,hk.2⟩)) hg hat);have n3_:=qk (hb);have n4_:=qk (ho);clear BK206;clear HO212;clear HO218;clear HB;clear HO215;have BK206:=n0_;have HO212:=n1_;have HO218:=n2_;have HB:=n3_;have HO221:=n4_;clear n0_ n1_ n2_ n3_ n4_;clear ho hb hg hat))
   go_loopg [3,4] k (fun kq v3 v4 w' => ∃ (x3_1 : List Int) (x4_1 : Int),v4 = .int .i64 x4_1 ∧ Aside0 (spec_l05Bytes.l0 kq x3_1 x4_1 a0_0 a0_1 l0_2 l0_3 = some r) ∧ Aside0 (kq ≤ k) ∧ Aside0 (Kd.R (Kd.int .u8) 5 w' w.heap.size (fun _ => True) v3 x3_1) ∧ Aside0 (w'.heap[gb206]? = some (.cells #[.int .i64 a0_0,.int .i64 a0_1,(.slice A0_2 l0_2.length c0_2),(.slice A0_3 l0_3.length c0_3)] 31 (0,0))) ∧ Aside0 (Below w.heap.size w w'))
   case atStart => exact ⟨(y219),(0),(by first|rfl|(simp;done)|(simp [*];done)),H',⟨Nat.le_refl _⟩,⟨by (with_reducible repeat (first|apply qd|apply qe|apply qf));exact qn HO221.out (fun _ hk => trivial)⟩,⟨by (with_reducible repeat (first|apply qa|apply qb|apply qc));exact BK206.out⟩,⟨by repeat (first|(with_reducible first|exact HB.out|apply qg|apply qh|apply qi|refine qj ?_ GE206.out)|exact HB.out)⟩⟩
   case round =>
    clear H'
    try clear p2
    try clear c4
    try clear c5
    try clear c7
    try clear hcz12_0
    try clear hcz12_1
    try clear hcz12_2
    try clear hcz12_3
    try clear hfz12_0
    try clear hfz12_1
    try clear hfz12_2
    try clear hfz12_3
    obtain ⟨x3_1,x4_1,rfl,HA,HK1,HO_3,BK206,HB⟩:=hrel
    cases gk with
    | zero => exact absurd HA.out (by simp [spec_l05Bytes.l0])
    | succ k1 =>
     have H:=HA.out
     clear HA
     simp only [spec_l05Bytes.l0] at H
     by_cases c17 : x4_1 < (l0_2.length : Int)
     ·
      rw [if_pos c17] at H
      have c17b0 : decide (x4_1 < (l0_2.length : Int)) = true:=decide_eq_true c17
      clear c17
      by_cases c18 : 0 ≤ x4_1
      ·
       rw [if_pos c18] at H
       have c18b0 : decide (0 ≤ x4_1) = true:=decide_eq_true c18
       clear c18
       obtain ⟨y224,hy224⟩ : ∃ y_ : List Int,y_ = (([((((rd_T70 l0_2 x4_1).f0).size : Int)) % 256] : List Int)):=⟨_,rfl⟩
       replace H : (if x3_1.length + y224.length < 140737488355328 then ((some (x3_1 ++ y224 : List Int)).bind fun y227 => (if y227.length + ((rd_T70 l0_2 x4_1).f0).size < 140737488355328 then ((some (y227 ++ bytesOf ((rd_T70 l0_2 x4_1).f0) : List Int)).bind fun y230 => ((spec_l02Number.f k1 ((rd_T70 l0_2 x4_1).f1) 3).bind fun t233 => (if y230.length + t233.length < 140737488355328 then ((some (y230 ++ t233 : List Int)).bind fun y236 => ((spec_l02Number.f k1 (wrap64 (((rd_T70 l0_2 x4_1).f2) + 1)) 2).bind fun t239 => (if y236.length + t239.length < 140737488355328 then ((some (y236 ++ t239 : List Int)).bind fun y242 => ((spec_l02Number.f k1 ((rd_T70 l0_2 x4_1).f3) 4).bind fun t245 => (if y242.length + t245.length < 140737488355328 then ((some (y242 ++ t245 : List Int)).bind fun y248 => ((some (([((((rd_T70 l0_2 x4_1).f4).length : Int)) % 256] : List Int) : List Int)).bind fun y251 => (if y248.length + y251.length < 140737488355328 then (spec_l05Bytes.l1 k1 (y248 ++ y251) x4_1 0 a0_0 a0_1 l0_2 l0_3 ((rd_T70 l0_2 x4_1).f0) ((rd_T70 l0_2 x4_1).f1) ((rd_T70 l0_2 x4_1).f2) ((rd_T70 l0_2 x4_1).f3) ((rd_T70 l0_2 x4_1).f4)) else (none)))) else (none)))) else (none)))) else (none)))) else (none))) else (none)) = some r:=by first|(rw [hy224];with_reducible exact H)|(have H2_:=(Option.bind_some _ _).symm.trans H;rw [hy224];with_reducible exact H2_)|(have H2_:=(Option.bind_some _ _).symm.trans H;with_reducible exact H2_)|with_reducible exact H|(rw [hy224];exact H)|exact H
       have Ny224:=qk hy224
       clear hy224
       by_cases c19 : x3_1.length + y224.length < 140737488355328
       ·
        rw [if_pos c19] at H
        have LMc19:=qk c19
        clear c19
        obtain ⟨y227,hy227⟩ : ∃ y_ : List Int,y_ = (x3_1 ++ y224):=⟨_,rfl⟩
        replace H : (if y227.length + ((rd_T70 l0_2 x4_1).f0).size < 140737488355328 then ((some (y227 ++ bytesOf ((rd_T70 l0_2 x4_1).f0) : List Int)).bind fun y230 => ((spec_l02Number.f k1 ((rd_T70 l0_2 x4_1).f1) 3).bind fun t233 => (if y230.length + t233.length < 140737488355328 then ((some (y230 ++ t233 : List Int)).bind fun y236 => ((spec_l02Number.f k1 (wrap64 (((rd_T70 l0_2 x4_1).f2) + 1)) 2).bind fun t239 => (if y236.length + t239.length < 140737488355328 then ((some (y236 ++ t239 : List Int)).bind fun y242 => ((spec_l02Number.f k1 ((rd_T70 l0_2 x4_1).f3) 4).bind fun t245 => (if y242.length + t245.length < 140737488355328 then ((some (y242 ++ t245 : List Int)).bind fun y248 => ((some (([((((rd_T70 l0_2 x4_1).f4).length : Int)) % 256] : List Int) : List Int)).bind fun y251 => (if y248.length + y251.length < 140737488355328 then (spec_l05Bytes.l1 k1 (y248 ++ y251) x4_1 0 a0_0 a0_1 l0_2 l0_3 ((rd_T70 l0_2 x4_1).f0) ((rd_T70 l0_2 x4_1).f1) ((rd_T70 l0_2 x4_1).f2) ((rd_T70 l0_2 x4_1).f3) ((rd_T70 l0_2 x4_1).f4)) else (none)))) else (none)))) else (none)))) else (none)))) else (none)) = some r:=by first|(rw [hy227];with_reducible exact H)|(have H2_:=(Option.bind_some _ _).symm.trans H;rw [hy227];with_reducible exact H2_)|(have H2_:=(Option.bind_some _ _).symm.trans H;with_reducible exact H2_)|with_reducible exact H|(rw [hy227];exact H)|exact H
        have Ny227:=qk hy227
        clear hy227
        by_cases c20 : y227.length + ((rd_T70 l0_2 x4_1).f0).size < 140737488355328
        ·
         rw [if_pos c20] at H
         have LMc20:=qk c20
         clear c20
         obtain ⟨y230,hy230⟩ : ∃ y_ : List Int,y_ = (y227 ++ bytesOf ((rd_T70 l0_2 x4_1).f0)):=⟨_,rfl⟩
         replace H : ((spec_l02Number.f k1 ((rd_T70 l0_2 x4_1).f1) 3).bind fun t233 => (if y230.length + t233.length < 140737488355328 then ((some (y230 ++ t233 : List Int)).bind fun y236 => ((spec_l02Number.f k1 (wrap64 (((rd_T70 l0_2 x4_1).f2) + 1)) 2).bind fun t239 => (if y236.length + t239.length < 140737488355328 then ((some (y236 ++ t239 : List Int)).bind fun y242 => ((spec_l02Number.f k1 ((rd_T70 l0_2 x4_1).f3) 4).bind fun t245 => (if y242.length + t245.length < 140737488355328 then ((some (y242 ++ t245 : List Int)).bind fun y248 => ((some (([((((rd_T70 l0_2 x4_1).f4).length : Int)) % 256] : List Int) : List Int)).bind fun y251 => (if y248.length + y251.length < 140737488355328 then (spec_l05Bytes.l1 k1 (y248 ++ y251) x4_1 0 a0_0 a0_1 l0_2 l0_3 ((rd_T70 l0_2 x4_1).f0) ((rd_T70 l0_2 x4_1).f1) ((rd_T70 l0_2 x4_1).f2) ((rd_T70 l0_2 x4_1).f3) ((rd_T70 l0_2 x4_1).f4)) else (none)))) else (none)))) else (none)))) else (none))) = some r:=by first|(rw [hy230];with_reducible exact H)|(have H2_:=(Option.bind_some _ _).symm.trans H;rw [hy230];with_reducible exact H2_)|(have H2_:=(Option.bind_some _ _).symm.trans H;with_reducible exact H2_)|with_reducible exact H|(rw [hy230];exact H)|exact H
         have Ny230:=qk hy230
         clear hy230
         replace H:=Option.bind_eq_some_iff.mp H
         obtain ⟨t233,A210,H⟩:=H
         replace H : (if y230.length + t233.length < 140737488355328 then ((some (y230 ++ t233 : List Int)).bind fun y236 => ((spec_l02Number.f k1 (wrap64 (((rd_T70 l0_2 x4_1).f2) + 1)) 2).bind fun t239 => (if y236.length + t239.length < 140737488355328 then ((some (y236 ++ t239 : List Int)).bind fun y242 => ((spec_l02Number.f k1 ((rd_T70 l0_2 x4_1).f3) 4).bind fun t245 => (if y242.length + t245.length < 140737488355328 then ((some (y242 ++ t245 : List Int)).bind fun y248 => ((some (([((((rd_T70 l0_2 x4_1).f4).length : Int)) % 256] : List Int) : List Int)).bind fun y251 => (if y248.length + y251.length < 140737488355328 then (spec_l05Bytes.l1 k1 (y248 ++ y251) x4_1 0 a0_0 a0_1 l0_2 l0_3 ((rd_T70 l0_2 x4_1).f0) ((rd_T70 l0_2 x4_1).f1) ((rd_T70 l0_2 x4_1).f2) ((rd_T70 l0_2 x4_1).f3) ((rd_T70 l0_2 x4_1).f4)) else (none)))) else (none)))) else (none)))) else (none)) = some r:=H
         have A21:=qk A210
         clear A210
         by_cases c22 : y230.length + t233.length < 140737488355328
         ·
          rw [if_pos c22] at H
          have LMc22:=qk c22
          clear c22
          obtain ⟨y236,hy236⟩ : ∃ y_ : List Int,y_ = (y230 ++ t233):=⟨_,rfl⟩
          replace H : ((spec_l02Number.f k1 (wrap64 (((rd_T70 l0_2 x4_1).f2) + 1)) 2).bind fun t239 => (if y236.length + t239.length < 140737488355328 then ((some (y236 ++ t239 : List Int)).bind fun y242 => ((spec_l02Number.f k1 ((rd_T70 l0_2 x4_1).f3) 4).bind fun t245 => (if y242.length + t245.length < 140737488355328 then ((some (y242 ++ t245 : List Int)).bind fun y248 => ((some (([((((rd_T70 l0_2 x4_1).f4).length : Int)) % 256] : List Int) : List Int)).bind fun y251 => (if y248.length + y251.length < 140737488355328 then (spec_l05Bytes.l1 k1 (y248 ++ y251) x4_1 0 a0_0 a0_1 l0_2 l0_3 ((rd_T70 l0_2 x4_1).f0) ((rd_T70 l0_2 x4_1).f1) ((rd_T70 l0_2 x4_1).f2) ((rd_T70 l0_2 x4_1).f3) ((rd_T70 l0_2 x4_1).f4)) else (none)))) else (none)))) else (none))) = some r:=by first|(rw [hy236];with_reducible exact H)|(have H2_:=(Option.bind_some _ _).symm.trans H;rw [hy236];with_reducible exact H2_)|(have H2_:=(Option.bind_some _ _).symm.trans H;with_reducible exact H2_)|with_reducible exact H|(rw [hy236];exact H)|exact H
          have Ny236:=qk hy236
          clear hy236
          replace H:=Option.bind_eq_some_iff.mp H
          obtain ⟨t239,A230,H⟩:=H
          replace H : (if y236.length + t239.length < 140737488355328 then ((some (y236 ++ t239 : List Int)).bind fun y242 => ((spec_l02Number.f k1 ((rd_T70 l0_2 x4_1).f3) 4).bind fun t245 => (if y242.length + t245.length < 140737488355328 then ((some (y242 ++ t245 : List Int)).bind fun y248 => ((some (([((((rd_T70 l0_2 x4_1).f4).length : Int)) % 256] : List Int) : List Int)).bind fun y251 => (if y248.length + y251.length < 140737488355328 then (spec_l05Bytes.l1 k1 (y248 ++ y251) x4_1 0 a0_0 a0_1 l0_2 l0_3 ((rd_T70 l0_2 x4_1).f0) ((rd_T70 l0_2 x4_1).f1) ((rd_T70 l0_2 x4_1).f2) ((rd_T70 l0_2 x4_1).f3) ((rd_T70 l0_2 x4_1).f4)) else (none)))) else (none)))) else (none)) = some r:=H
          have A23:=qk A230
          clear A230
          by_cases c24 : y236.length + t239.length < 140737488355328
          ·
           rw [if_pos c24] at H
           have LMc24:=qk c24
           clear c24
           obtain ⟨y242,hy242⟩ : ∃ y_ : List Int,y_ = (y236 ++ t239):=⟨_,rfl⟩
           replace H : ((spec_l02Number.f k1 ((rd_T70 l0_2 x4_1).f3) 4).bind fun t245 => (if y242.length + t245.length < 140737488355328 then ((some (y242 ++ t245 : List Int)).bind fun y248 => ((some (([((((rd_T70 l0_2 x4_1).f4).length : Int)) % 256] : List Int) : List Int)).bind fun y251 => (if y248.length + y251.length < 140737488355328 then (spec_l05Bytes.l1 k1 (y248 ++ y251) x4_1 0 a0_0 a0_1 l0_2 l0_3 ((rd_T70 l0_2 x4_1).f0) ((rd_T70 l0_2 x4_1).f1) ((rd_T70 l0_2 x4_1).f2) ((rd_T70 l0_2 x4_1).f3) ((rd_T70 l0_2 x4_1).f4)) else (none)))) else (none))) = some r:=by first|(rw [hy242];with_reducible exact H)|(have H2_:=(Option.bind_some _ _).symm.trans H;rw [hy242];with_reducible exact H2_)|(have H2_:=(Option.bind_some _ _).symm.trans H;with_reducible exact H2_)|with_reducible exact H|(rw [hy242];exact H)|exact H
           have Ny242:=qk hy242
           clear hy242
           replace H:=Option.bind_eq_some_iff.mp H
           obtain ⟨t245,A250,H⟩:=H
           replace H : (if y242.length + t245.length < 140737488355328 then ((some (y242 ++ t245 : List Int)).bind fun y248 => ((some (([((((rd_T70 l0_2 x4_1).f4).length : Int)) % 256] : List Int) : List Int)).bind fun y251 => (if y248.length + y251.length < 140737488355328 then (spec_l05Bytes.l1 k1 (y248 ++ y251) x4_1 0 a0_0 a0_1 l0_2 l0_3 ((rd_T70 l0_2 x4_1).f0) ((rd_T70 l0_2 x4_1).f1) ((rd_T70 l0_2 x4_1).f2) ((rd_T70 l0_2 x4_1).f3) ((rd_T70 l0_2 x4_1).f4)) else (none)))) else (none)) = some r:=H
           have A25:=qk A250
           clear A250
           by_cases c26 : y242.length + t245.length < 140737488355328
           ·
            rw [if_pos c26] at H
            have LMc26:=qk c26
            clear c26
            obtain ⟨y248,hy248⟩ : ∃ y_ : List Int,y_ = (y242 ++ t245):=⟨_,rfl⟩
            replace H : ((some (([((((rd_T70 l0_2 x4_1).f4).length : Int)) % 256] : List Int) : List Int)).bind fun y251 => (if y248.length + y251.length < 140737488355328 then (spec_l05Bytes.l1 k1 (y248 ++ y251) x4_1 0 a0_0 a0_1 l0_2 l0_3 ((rd_T70 l0_2 x4_1).f0) ((rd_T70 l0_2 x4_1).f1) ((rd_T70 l0_2 x4_1).f2) ((rd_T70 l0_2 x4_1).f3) ((rd_T70 l0_2 x4_1).f4)) else (none))) = some r:=by first|(rw [hy248];with_reducible exact H)|(have H2_:=(Option.bind_some _ _).symm.trans H;rw [hy248];with_reducible exact H2_)|(have H2_:=(Option.bind_some _ _).symm.trans H;with_reducible exact H2_)|with_reducible exact H|(rw [hy248];exact H)|exact H
            have Ny248:=qk hy248
            clear hy248
            obtain ⟨y251,hy251⟩ : ∃ y_ : List Int,y_ = (([((((rd_T70 l0_2 x4_1).f4).length : Int)) % 256] : List Int)):=⟨_,rfl⟩
            replace H : (if y248.length + y251.length < 140737488355328 then (spec_l05Bytes.l1 k1 (y248 ++ y251) x4_1 0 a0_0 a0_1 l0_2 l0_3 ((rd_T70 l0_2 x4_1).f0) ((rd_T70 l0_2 x4_1).f1) ((rd_T70 l0_2 x4_1).f2) ((rd_T70 l0_2 x4_1).f3) ((rd_T70 l0_2 x4_1).f4)) else (none)) = some r:=by first|(rw [hy251];with_reducible exact H)|(have H2_:=(Option.bind_some _ _).symm.trans H;rw [hy251];with_reducible exact H2_)|(have H2_:=(Option.bind_some _ _).symm.trans H;with_reducible exact H2_)|with_reducible exact H|(rw [hy251];exact H)|exact H
            have Ny251:=qk hy251
            clear hy251
            by_cases c27 : y248.length + y251.length < 140737488355328
            ·
             rw [if_pos c27] at H
             have LMc27:=qk c27
             clear c27
             obtain ⟨y254,hy254⟩ : ∃ y_ : List Int,y_ = (y248 ++ y251):=⟨_,rfl⟩
             replace H : (spec_l05Bytes.l1 k1 y254 x4_1 0 a0_0 a0_1 l0_2 l0_3 ((rd_T70 l0_2 x4_1).f0) ((rd_T70 l0_2 x4_1).f1) ((rd_T70 l0_2 x4_1).f2) ((rd_T70 l0_2 x4_1).f3) ((rd_T70 l0_2 x4_1).f4)) = some r:=by first|(rw [hy254];with_reducible exact H)|(have H2_:=(Option.bind_some _ _).symm.trans H;rw [hy254];with_reducible exact H2_)|(have H2_:=(Option.bind_some _ _).symm.trans H;with_reducible exact H2_)|with_reducible exact H|(rw [hy254];exact H)|exact H
             have Ny254:=qk hy254
             clear hy254
             have H':=qk H
             clear H
             have hcz28_0 : wr.cell? ⟨gb206,0,none⟩ = some (.int .i64 a0_0):=(blk_cell BK206.out 0).trans rfl
             have hcz28_1 : wr.cell? ⟨gb206,1,none⟩ = some (.int .i64 a0_1):=(blk_cell BK206.out 1).trans rfl
             have hcz28_2 : wr.cell? ⟨gb206,2,none⟩ = some (.slice A0_2 l0_2.length c0_2):=(blk_cell BK206.out 2).trans rfl
             have hcz28_3 : wr.cell? ⟨gb206,3,none⟩ = some (.slice A0_3 l0_3.length c0_3):=(blk_cell BK206.out 3).trans rfl
             have hfz28_0:=sJ BK206.out 0
             have hfz28_1:=sJ BK206.out 1
             have hfz28_2:=sJ BK206.out 2
             have hfz28_3:=sJ BK206.out 3
             have p222 : 0 ≤ (x4_1 : Int):=sM (by first|(with_reducible assumption)|assumption)
             have q222 : x4_1 < (l0_2.length : Int):=sM (by first|(with_reducible assumption)|assumption)
             obtain ⟨ad222,A222_4,c222_4,e222,hx222_0,hx222_1,hx222_2,hx222_3,hx222_4,hl222_4,hi222_4⟩:=at_T70 HR0_2.out x4_1 p222 q222
             cases e222
             replace hx222_0:=(HB.out.cell (sD w _ hx222_0)).trans hx222_0
             replace hx222_1:=(HB.out.cell (sD w _ hx222_1)).trans hx222_1
             replace hx222_2:=(HB.out.cell (sD w _ hx222_2)).trans hx222_2
             replace hx222_3:=(HB.out.cell (sD w _ hx222_3)).trans hx222_3
             replace hx222_4:=(HB.out.cell (sD w _ hx222_4)).trans hx222_4
             have HR222_4:=qk hi222_4
             have HC222_4:=qk hl222_4
             clear hi222_4 hl222_4
             replace p222:=eq_true p222
             replace q222:=eq_true q222
             try go_wp2_with (first|((with_reducible refine gate_dst (N:=5) rfl ?_);refine box_event ?hg (N:=5) ?hd (cs:=#[.string (⟨#[]⟩ : ByteArray),.int .i64 0,.int .i64 0,.int .i64 0,.slice none 0 0]) (t:=70) ?hr ?_;(case hd => rfl);(case hg => rfl);(case hr => first|(go_simp;done)|(go_simp;rfl));intro gb223 hg w29 hbox hb;have n0_:=qk (Kd.R_below (by (with_reducible repeat (first|apply qd|apply qe|apply qf));exact HO_3.out) hb);have n1_:=qk (ql (g:=gb206) (o:=.cells #[.int .i64 a0_0,.int .i64 a0_1,.slice (some ad222) l0_2.length c0_2,.slice A0_3 l0_3.length c0_3] 31 (0,0)) (by (with_reducible repeat (first|apply qa|apply qb|apply qc));exact BK206.out) hb);have n2_:=qk (sN (by repeat (first|(with_reducible first|exact HB.out|apply qg|apply qh|apply qi|refine qj ?_ GE206.out)|exact HB.out)) hb);have n3_:=qk (hbox);have n4_:=qk ((by rw [hg];exact (qm (by repeat (first|(with_reducible first|exact HB.out|apply qg|apply qh|apply qi|refine qj ?_ GE206.out)|exact HB.out))) : w.heap.size ≤ gb223));have n5_:=qk ((by rw [hg];exact (qm (by repeat (first|(with_reducible first|exact HB.out|apply qg|apply qh|apply qi|refine qj ?_ GE206.out)|exact HB.out))) : w.heap.size ≤ gb223));have n6_:=qk ((by rw [hg];exact Nat.ne_of_lt (blk_lt (g:=gb206) (o:=.cells #[.int .i64 a0_0,.int .i64 a0_1,.slice (some ad222) l0_2.length c0_2,.slice A0_3 l0_3.length c0_3] 31 (0,0)) (by (with_reducible repeat (first|apply qa|apply qb|apply qc));exact BK206.out)) : gb206 ≠ gb223));have n7_:=qk ((by rw [hg];exact Nat.ne_of_gt (blk_lt (g:=gb206) (o:=.cells #[.int .i64 a0_0,.int .i64 a0_1,.slice (some ad222) l0_2.length c0_2,.slice A0_3 l0_3.length c0_3] 31 (0,0)) (by (with_reducible repeat (first|apply qa|apply qb|apply qc));exact BK206.out)) : gb223 ≠ gb206));clear HO_3;clear BK206;clear HB;have HO_3:=n0_;have BK206:=n1_;have HB:=n2_;have BK223:=n3_;have GW223:=n4_;have GE223:=n5_;have NB206_223:=n6_;have NB223_206:=n7_;clear n0_ n1_ n2_ n3_ n4_ n5_ n6_ n7_;clear hb hbox hg;have hnb30:=NB223_206.out;have hnc30:=NB206_223.out;have hcz31_0 : w29.cell? ⟨gb223,0,none⟩ = some (.string (⟨#[]⟩ : ByteArray)):=(blk_cell BK223.out 0).trans rfl;have hcz31_1 : w29.cell? ⟨gb223,1,none⟩ = some (.int .i64 0):=(blk_cell BK223.out 1).trans rfl;have hcz31_2 : w29.cell? ⟨gb223,2,none⟩ = some (.int .i64 0):=(blk_cell BK223.out 2).trans rfl;have hcz31_3 : w29.cell? ⟨gb223,3,none⟩ = some (.int .i64 0):=(blk_cell BK223.out 3).trans rfl;have hcz31_4 : w29.cell? ⟨gb223,4,none⟩ = some (.slice none 0 0):=(blk_cell BK223.out 4).trans rfl;have hfz31_0:=sJ BK223.out 0;have hfz31_1:=sJ BK223.out 1;have hfz31_2:=sJ BK223.out 2;have hfz31_3:=sJ BK223.out 3;have hfz31_4:=sJ BK223.out 4))
             have n0_ : Aside0 (Kd.R (Kd.int .u8) 5 (((((w29.setCell ⟨gb223,0,none⟩ (.string ((rd_T70 l0_2 x4_1).f0))).setCell ⟨gb223,1,none⟩ (.int .i64 ((rd_T70 l0_2 x4_1).f1))).setCell ⟨gb223,2,none⟩ (.int .i64 ((rd_T70 l0_2 x4_1).f2))).setCell ⟨gb223,3,none⟩ (.int .i64 ((rd_T70 l0_2 x4_1).f3))).setCell ⟨gb223,4,none⟩ (.slice A222_4 ((rd_T70 l0_2 x4_1).f4).length c222_4)) w.heap.size (fun _ => True) u3 x3_1):=⟨by (with_reducible repeat (first|apply qd|apply qe|apply qf));exact qn (Kd.R_far (p:=⟨gb223,4,none⟩) (Kd.R_far (p:=⟨gb223,3,none⟩) (Kd.R_far (p:=⟨gb223,2,none⟩) (Kd.R_far (p:=⟨gb223,1,none⟩) (Kd.R_far (p:=⟨gb223,0,none⟩) (Kd.R_types HO_3.out BK223.out (by decide)) (fun _ hk => hk.2) (.string ((rd_T70 l0_2 x4_1).f0))) (fun _ hk => hk.2) (.int .i64 ((rd_T70 l0_2 x4_1).f1))) (fun _ hk => hk.2) (.int .i64 ((rd_T70 l0_2 x4_1).f2))) (fun _ hk => hk.2) (.int .i64 ((rd_T70 l0_2 x4_1).f3))) (fun _ hk => hk.2) (.slice A222_4 ((rd_T70 l0_2 x4_1).f4).length c222_4)) (fun _ hk => trivial)⟩
             have n1_ : Aside0 ((((((w29.setCell ⟨gb223,0,none⟩ (.string ((rd_T70 l0_2 x4_1).f0))).setCell ⟨gb223,1,none⟩ (.int .i64 ((rd_T70 l0_2 x4_1).f1))).setCell ⟨gb223,2,none⟩ (.int .i64 ((rd_T70 l0_2 x4_1).f2))).setCell ⟨gb223,3,none⟩ (.int .i64 ((rd_T70 l0_2 x4_1).f3))).setCell ⟨gb223,4,none⟩ (.slice A222_4 ((rd_T70 l0_2 x4_1).f4).length c222_4)).heap[gb206]? = some (.cells #[.int .i64 a0_0,.int .i64 a0_1,.slice (some ad222) l0_2.length c0_2,.slice A0_3 l0_3.length c0_3] 31 (0,0))):=⟨by (with_reducible repeat (first|apply qa|apply qb|apply qc));refine blk_far ?_ NB206_223.out _;(with_reducible repeat (first|apply qa|apply qb|apply qc));refine blk_far ?_ NB206_223.out _;(with_reducible repeat (first|apply qa|apply qb|apply qc));refine blk_far ?_ NB206_223.out _;(with_reducible repeat (first|apply qa|apply qb|apply qc));refine blk_far ?_ NB206_223.out _;(with_reducible repeat (first|apply qa|apply qb|apply qc));refine blk_far ?_ NB206_223.out _;(with_reducible repeat (first|apply qa|apply qb|apply qc));exact BK206.out⟩
             have n2_ : Aside0 ((((((w29.setCell ⟨gb223,0,none⟩ (.string ((rd_T70 l0_2 x4_1).f0))).setCell ⟨gb223,1,none⟩ (.int .i64 ((rd_T70 l0_2 x4_1).f1))).setCell ⟨gb223,2,none⟩ (.int .i64 ((rd_T70 l0_2 x4_1).f2))).setCell ⟨gb223,3,none⟩ (.int .i64 ((rd_T70 l0_2 x4_1).f3))).setCell ⟨gb223,4,none⟩ (.slice A222_4 ((rd_T70 l0_2 x4_1).f4).length c222_4)).heap[gb223]? = some (.cells #[.string ((rd_T70 l0_2 x4_1).f0),.int .i64 ((rd_T70 l0_2 x4_1).f1),.int .i64 ((rd_T70 l0_2 x4_1).f2),.int .i64 ((rd_T70 l0_2 x4_1).f3),.slice A222_4 ((rd_T70 l0_2 x4_1).f4).length c222_4] 70 (0,0))):=⟨by (with_reducible repeat (first|apply qa|apply qb|apply qc));refine blk_put (cs:=#[.string ((rd_T70 l0_2 x4_1).f0),.int .i64 ((rd_T70 l0_2 x4_1).f1),.int .i64 ((rd_T70 l0_2 x4_1).f2),.int .i64 ((rd_T70 l0_2 x4_1).f3),.slice none 0 0]) ?_ 4 _ rfl;(with_reducible repeat (first|apply qa|apply qb|apply qc));refine blk_put (cs:=#[.string ((rd_T70 l0_2 x4_1).f0),.int .i64 ((rd_T70 l0_2 x4_1).f1),.int .i64 ((rd_T70 l0_2 x4_1).f2),.int .i64 0,.slice none 0 0]) ?_ 3 _ rfl;(with_reducible repeat (first|apply qa|apply qb|apply qc));refine blk_put (cs:=#[.string ((rd_T70 l0_2 x4_1).f0),.int .i64 ((rd_T70 l0_2 x4_1).f1),.int .i64 0,.int .i64 0,.slice none 0 0]) ?_ 2 _ rfl;(with_reducible repeat (first|apply qa|apply qb|apply qc));refine blk_put (cs:=#[.string ((rd_T70 l0_2 x4_1).f0),.int .i64 0,.int .i64 0,.int .i64 0,.slice none 0 0]) ?_ 1 _ rfl;(with_reducible repeat (first|apply qa|apply qb|apply qc));refine blk_put (cs:=#[.string (⟨#[]⟩ : ByteArray),.int .i64 0,.int .i64 0,.int .i64 0,.slice none 0 0]) ?_ 0 _ rfl;(with_reducible repeat (first|apply qa|apply qb|apply qc));exact BK223.out⟩
             have n3_ : Aside0 (Below w.heap.size w (((((w29.setCell ⟨gb223,0,none⟩ (.string ((rd_T70 l0_2 x4_1).f0))).setCell ⟨gb223,1,none⟩ (.int .i64 ((rd_T70 l0_2 x4_1).f1))).setCell ⟨gb223,2,none⟩ (.int .i64 ((rd_T70 l0_2 x4_1).f2))).setCell ⟨gb223,3,none⟩ (.int .i64 ((rd_T70 l0_2 x4_1).f3))).setCell ⟨gb223,4,none⟩ (.slice A222_4 ((rd_T70 l0_2 x4_1).f4).length c222_4))):=⟨by repeat (first|(with_reducible first|exact HB.out|apply qg|apply qh|apply qi|refine qj ?_ GE206.out|refine qj ?_ GE223.out)|exact HB.out)⟩
             (try clear HO_3)
             (try clear BK206)
             (try clear BK223)
             (try clear HB)
             generalize (((((w29.setCell ⟨gb223,0,none⟩ (.string ((rd_T70 l0_2 x4_1).f0))).setCell ⟨gb223,1,none⟩ (.int .i64 ((rd_T70 l0_2 x4_1).f1))).setCell ⟨gb223,2,none⟩ (.int .i64 ((rd_T70 l0_2 x4_1).f2))).setCell ⟨gb223,3,none⟩ (.int .i64 ((rd_T70 l0_2 x4_1).f3))).setCell ⟨gb223,4,none⟩ (.slice A222_4 ((rd_T70 l0_2 x4_1).f4).length c222_4)) = w32 at n0_ n1_ n2_ n3_ ⊢
             have HO_3:=n0_
             have BK206:=n1_
             have BK223:=n2_
             have HB:=n3_
             clear n0_ n1_ n2_ n3_
             have n0_:=qk (qf HO_3.out)
             have n1_:=qk (qb BK206.out)
             have n2_:=qk (qb BK223.out)
             have n3_:=qk (qi HB.out)
             clear HO_3
             clear BK206
             clear BK223
             clear HB
             have HO_3:=n0_
             have BK206:=n1_
             have BK223:=n2_
             have HB:=n3_
             clear n0_ n1_ n2_ n3_
             refine start_ (n:=11) (S:=fun w' => w'.cell? ⟨gb223,0,none⟩ = some (.string ((rd_T70 l0_2 x4_1).f0)) ∧ w'.cell? ⟨gb223,1,none⟩ = some (.int .i64 ((rd_T70 l0_2 x4_1).f1)) ∧ w'.cell? ⟨gb223,2,none⟩ = some (.int .i64 ((rd_T70 l0_2 x4_1).f2)) ∧ w'.cell? ⟨gb223,3,none⟩ = some (.int .i64 ((rd_T70 l0_2 x4_1).f3)) ∧ w'.cell? ⟨gb223,4,none⟩ = some (.slice A222_4 ((rd_T70 l0_2 x4_1).f4).length c222_4)) (ds:=[]) #[false,false,false,false,false,false,false,false,false,false,false] (by kernel_rfl) rfl rfl ⟨(blk_cell BK223.out 0).trans rfl,(blk_cell BK223.out 1).trans rfl,(blk_cell BK223.out 2).trans rfl,(blk_cell BK223.out 3).trans rfl,(blk_cell BK223.out 4).trans rfl⟩ (fun hHeld => ?_);refine with_tabW spec_l05Bytes.tab7 spec_l05Bytes.bits7 (fun HT_ HW_ => ?_)
             generalize w32.drew = w33 at HO_3 BK206 BK223 HB hHeld ⊢
             refine pure_ (i:=0) (N:=some 35) (v:=?_) (a':=?_) #[true,false,false,false,false,false,false,false,false,false,false] rfl rfl (any_of HT_.out (by kernel_rfl)) (fun _ _ _ h => h) (Or.inl ⟨by rfl,?_⟩) ?_ ?_
             rotate_left
             ·
              intro w'
              go_simp
              with_reducible rfl
             rotate_left
             ·
              simp only [Act.put,sA,sB,sC,i64_w,i32_w]
              rfl
             refine pure_ (i:=1) (N:=some 36) (v:=?_) (a':=?_) #[true,true,false,false,false,false,false,false,false,false,false] rfl rfl (any_of HT_.out (by kernel_rfl)) (fun _ _ _ h => h) (Or.inl ⟨by rfl,?_⟩) ?_ ?_
             rotate_left
             ·
              intro w'
              go_simp
              with_reducible rfl
             rotate_left
             ·
              simp only [Act.put,sA,sB,sC,i64_w,i32_w]
              rfl
             refine pure_ (i:=7) (N:=some 42) (v:=?_) (a':=?_) #[true,true,false,false,false,false,false,true,false,false,false] rfl rfl (any_of HT_.out (by kernel_rfl)) (fun _ _ _ h => h) (Or.inl ⟨by rfl,?_⟩) ?_ ?_
             rotate_left
             ·
              intro w'
              go_simp
              with_reducible rfl
             rotate_left
             ·
              simp only [Act.put,sA,sB,sC,i64_w,i32_w]
              rfl
             refine take_ (i:=2) (N:=some 37) (v:=?_) (a':=?_) #[true,true,true,false,false,false,false,true,false,false,false] rfl rfl (take_ofW HT_.out HW_.out (by kernel_rfl)) (fun _ _ _ h => h) (Or.inl ⟨by rfl,?_⟩) hHeld ?_ ?_
             rotate_left
             ·
              rintro w' ⟨s0,s1,s2,s3,s4⟩
              go_simp
              with_reducible rfl
             rotate_left
             ·
              simp only [Act.put,sA,sB,sC,i64_w,i32_w]
              rfl
             refine pure_ (i:=3) (N:=some 38) (v:=?_) (a':=?_) #[true,true,true,true,false,false,false,true,false,false,false] rfl rfl (any_of HT_.out (by kernel_rfl)) (fun _ _ _ h => h) (Or.inl ⟨by rfl,?_⟩) ?_ ?_
             rotate_left
             ·
              intro w'
              go_simp
              with_reducible rfl
             rotate_left
             ·
              simp only [Act.put,sA,sB,sC,i64_w,i32_w]
              rfl
             refine pure_ (i:=4) (N:=some 39) (v:=?_) (a':=?_) #[true,true,true,true,true,false,false,true,false,false,false] rfl rfl (any_of HT_.out (by kernel_rfl)) (fun _ _ _ h => h) (Or.inl ⟨by rfl,?_⟩) ?_ ?_
             rotate_left
             ·
              intro w'
              go_simp
              with_reducible rfl
             rotate_left
             ·
              simp only [Act.put,sA,sB,sC,i64_w,i32_w]
              rfl
             refine take_ (i:=8) (N:=some 43) (v:=?_) (a':=?_) #[true,true,true,true,true,false,false,true,true,false,false] rfl rfl (take_ofW HT_.out HW_.out (by kernel_rfl)) (fun _ _ _ h => h) (Or.inl ⟨by rfl,?_⟩) hHeld ?_ ?_
             rotate_left
             ·
              rintro w' ⟨s0,s1,s2,s3,s4⟩
              go_simp
              with_reducible rfl
             rotate_left
             ·
              simp only [Act.put,sA,sB,sC,i64_w,i32_w]
              rfl
             refine one_ (i:=5) (N:=some 40) #[true,true,true,true,true,true,false,true,true,false,false] rfl rfl (one_of HT_.out (by kernel_rfl)) (by decide) (fun K hK => ?_)
             refine Kd.R_lit_step (Kd.int .u8) _ 5 ?hg (N:=40) ?hd (xs:=([((((rd_T70 l0_2 x4_1).f0).size : Int)) % 256] : List Int)) (inner:=[.int .u8 (((((rd_T70 l0_2 x4_1).f0).size : Int)) % 256)]) (ok:=fun _ => True) (okp:=fun _ => True) ?hr ?hp (fun _ hk => hk) trivial (Below.refl _ _) (Nat.le_refl _) (by simp) ?_;(case hd => rfl);(case hg => rfl);(case hr => first|(go_simp;done)|(go_simp;rfl));(case hp => exact (Reps.one (show Kd.M (Kd.int .u8) _ _ _ (((((rd_T70 l0_2 x4_1).f0).size : Int)) % 256) [.int .u8 (((((rd_T70 l0_2 x4_1).f0).size : Int)) % 256)] from rfl) (Reps.none _ _)))
             intro v225 w34 ho35 hb hg_ hnew_
             clear hg_ hnew_
             (first|rw [← Ny224.out] at ho35|(simp only [Int.reduceToNat] at ho35;rw [← Ny224.out] at ho35))
             have n0_:=qk (Kd.R_elder' (by (with_reducible repeat (first|apply qd|apply qe|apply qf));exact HO_3.out) (Kd.R_base ho35) hb)
             have n1_:=qk (Kd.R_lower (Kd.R_new' ho35 (Kd.R_lt (by (with_reducible repeat (first|apply qd|apply qe|apply qf));exact HO_3.out))) (qm (by repeat (first|(with_reducible first|exact HB.out|apply qg|apply qh|apply qi|refine qj ?_ GE206.out|refine qj ?_ GE223.out)|exact HB.out))))
             have n2_:=qk (ql (g:=gb206) (o:=.cells #[.int .i64 a0_0,.int .i64 a0_1,.slice (some ad222) l0_2.length c0_2,.slice A0_3 l0_3.length c0_3] 31 (0,0)) (by (with_reducible repeat (first|apply qa|apply qb|apply qc));exact BK206.out) hb)
             have n3_:=qk (ql (g:=gb223) (o:=.cells #[.string ((rd_T70 l0_2 x4_1).f0),.int .i64 ((rd_T70 l0_2 x4_1).f1),.int .i64 ((rd_T70 l0_2 x4_1).f2),.int .i64 ((rd_T70 l0_2 x4_1).f3),.slice A222_4 ((rd_T70 l0_2 x4_1).f4).length c222_4] 70 (0,0)) (by (with_reducible repeat (first|apply qa|apply qb|apply qc));exact BK223.out) hb)
             have n4_:=qk (sN (by repeat (first|(with_reducible first|exact HB.out|apply qg|apply qh|apply qi|refine qj ?_ GE206.out|refine qj ?_ GE223.out)|exact HB.out)) hb)
             clear HO_3
             clear BK206
             clear BK223
             clear HB
             have HO_3:=n0_
             have HO226:=n1_
             have BK206:=n2_
             have BK223:=n3_
             have HB:=n4_
             clear n0_ n1_ n2_ n3_ n4_
             clear hb ho35
             obtain ⟨Ao37,co37,eo37⟩:=Kd.R_slice HO226.out
             (first|subst eo37|(injection eo37 with f1_ f2_ f3_;have f4_:=f1_.symm;have f5_:=f3_.symm;clear f1_ f2_ f3_;subst f4_;subst f5_))
             refine hK.out _ _ ⟨(blk_cell BK223.out 0).trans rfl,(blk_cell BK223.out 1).trans rfl,(blk_cell BK223.out 2).trans rfl,(blk_cell BK223.out 3).trans rfl,(blk_cell BK223.out 4).trans rfl⟩ (fun hHeld => ?_)
             clear hK K
             refine norm_ (a':=?_) ?_ ?_
             rotate_left
             ·
              show Act.put _ (some 40) _ = _
              simp only [Act.put,sA,sB,sC,i64_w,i32_w]
              rfl
             refine one_ (i:=6) (N:=some 41) #[true,true,true,true,true,true,true,true,true,false,false] rfl rfl (one_of HT_.out (by kernel_rfl)) (by decide) (fun K hK => ?_)
             refine Kd.R_append_rows_step (Kd.int .u8) (w0:=w) w.heap.size (by rfl) (.tmp 35) (.tmp 40) 38 5 (.int .u8 0) 1 rfl Try.underlying38 info5 rfl (by decide) (by omega) u3 x3_1 y224 _ _ _ (fun k_ => some k_ ≠ (.slice Ao37 y224.length co37 : Value).ownBlock) (fun _ => False) rfl rfl ?aO ?aR (fun _ _ h => h) (fun _ h => h.elim) ?aF ?aB ?aS ?aL ?_
             (case aR => repeat (first|exact (Kd.R_reads' HO226.out).2.2|(with_reducible refine Kd.C_alloc ?_ _)|(with_reducible refine Kd.C_drewN ?_ _)|(with_reducible refine Kd.C_drew ?_)))
             (case aB => exact (by repeat (first|(with_reducible first|exact HB.out|apply qg|apply qh|apply qi|refine qj ?_ GE206.out|refine qj ?_ GE223.out)|exact HB.out)))
             (case aF => exact (fun k_ hk => Kd.fresh' (Kd.R_lt (by (with_reducible repeat (first|apply qd|apply qe|apply qf));exact HO226.out)) k_ hk))
             (case aO => exact (by (with_reducible repeat (first|apply qd|apply qe|apply qf));exact qn HO_3.out (fun _ hk => hk.2)))
             (case aS => exact (qm (by repeat (first|(with_reducible first|exact HB.out|apply qg|apply qh|apply qi|refine qj ?_ GE206.out|refine qj ?_ GE223.out)|exact HB.out))))
             (case aL => have:=LMc19.out;omega)
             intro v228 w36 ho hb hg hat
             rw [← Ny227.out] at ho
             have n0_:=qk (blk_grown (g:=gb206) (o:=.cells #[.int .i64 a0_0,.int .i64 a0_1,.slice (some ad222) l0_2.length c0_2,.slice A0_3 l0_3.length c0_3] 31 (0,0)) (by (with_reducible repeat (first|apply qa|apply qb|apply qc));exact BK206.out) hg (Kd.R_ne HO_3.out BK206.out (by decide)))
             have n1_:=qk (blk_grown (g:=gb223) (o:=.cells #[.string ((rd_T70 l0_2 x4_1).f0),.int .i64 ((rd_T70 l0_2 x4_1).f1),.int .i64 ((rd_T70 l0_2 x4_1).f2),.int .i64 ((rd_T70 l0_2 x4_1).f3),.slice A222_4 ((rd_T70 l0_2 x4_1).f4).length c222_4] 70 (0,0)) (by (with_reducible repeat (first|apply qa|apply qb|apply qc));exact BK223.out) hg (Kd.R_ne HO_3.out BK223.out (by decide)))
             have n2_:=qk (Kd.R_after (ok:=(fun _ => True)) (by (with_reducible repeat (first|apply qd|apply qe|apply qf));exact HO226.out) hg hat)
             have n3_:=qk (hb)
             have n4_:=qk (ho)
             clear BK206
             clear BK223
             clear HO226
             clear HB
             clear HO_3
             have BK206:=n0_
             have BK223:=n1_
             have HO226:=n2_
             have HB:=n3_
             have HO229:=n4_
             clear n0_ n1_ n2_ n3_ n4_
             clear ho hb hg hat
             refine hK.out _ _ ⟨(blk_cell BK223.out 0).trans rfl,(blk_cell BK223.out 1).trans rfl,(blk_cell BK223.out 2).trans rfl,(blk_cell BK223.out 3).trans rfl,(blk_cell BK223.out 4).trans rfl⟩ (fun hHeld => ?_)
             clear hK K
             refine norm_ (a':=?_) ?_ ?_
             rotate_left
             ·
              show Act.put _ (some 41) _ = _
              simp only [Act.put,sA,sB,sC,i64_w,i32_w]
              rfl
             refine one_ (i:=9) (N:=some 44) #[true,true,true,true,true,true,true,true,true,true,false] rfl rfl (one_of HT_.out (by kernel_rfl)) (by decide) (fun K hK => ?_)
             refine R_append_str_step (w0:=w) w.heap.size (by rfl) (.tmp 41) _ 38 9 5 rfl Try.underlying38 Try.underlying9 info5 v228 y227 ((rd_T70 l0_2 x4_1).f0) (fun k_ => some k_ ≠ (.slice Ao37 y224.length co37 : Value).ownBlock) rfl rfl ?aO ?aF ?aB ?aS ?aL ?_
             (case aB => exact (by repeat (first|(with_reducible first|exact HB.out|apply qg|apply qh|apply qi|refine qj ?_ GE206.out|refine qj ?_ GE223.out)|exact HB.out)))
             (case aF => exact (fun k_ hk => Kd.fresh' (Kd.R_lt (by (with_reducible repeat (first|apply qd|apply qe|apply qf));exact HO226.out)) k_ hk))
             (case aO => exact (by (with_reducible repeat (first|apply qd|apply qe|apply qf));exact HO229.out))
             (case aS => exact (qm (by repeat (first|(with_reducible first|exact HB.out|apply qg|apply qh|apply qi|refine qj ?_ GE206.out|refine qj ?_ GE223.out)|exact HB.out))))
             (case aL => have:=LMc20.out;omega)
             intro v231 w38 ho hb hg hat
             rw [← Ny230.out] at ho
             have n0_:=qk (blk_grown (g:=gb206) (o:=.cells #[.int .i64 a0_0,.int .i64 a0_1,.slice (some ad222) l0_2.length c0_2,.slice A0_3 l0_3.length c0_3] 31 (0,0)) (by (with_reducible repeat (first|apply qa|apply qb|apply qc));exact BK206.out) hg (Kd.R_ne HO229.out BK206.out (by decide)))
             have n1_:=qk (blk_grown (g:=gb223) (o:=.cells #[.string ((rd_T70 l0_2 x4_1).f0),.int .i64 ((rd_T70 l0_2 x4_1).f1),.int .i64 ((rd_T70 l0_2 x4_1).f2),.int .i64 ((rd_T70 l0_2 x4_1).f3),.slice A222_4 ((rd_T70 l0_2 x4_1).f4).length c222_4] 70 (0,0)) (by (with_reducible repeat (first|apply qa|apply qb|apply qc));exact BK223.out) hg (Kd.R_ne HO229.out BK223.out (by decide)))
             have n2_:=qk (Kd.R_after (ok:=(fun _ => True)) (by (with_reducible repeat (first|apply qd|apply qe|apply qf));exact HO226.out) hg hat)
             have n3_:=qk (hb)
             have n4_:=qk (ho)
             clear BK206
             clear BK223
             clear HO226
             clear HB
             clear HO229
             have BK206:=n0_
             have BK223:=n1_
             have HO226:=n2_
             have HB:=n3_
             have HO232:=n4_
             clear n0_ n1_ n2_ n3_ n4_
             clear ho hb hg hat
             refine hK.out _ _ ⟨(blk_cell BK223.out 0).trans rfl,(blk_cell BK223.out 1).trans rfl,(blk_cell BK223.out 2).trans rfl,(blk_cell BK223.out 3).trans rfl,(blk_cell BK223.out 4).trans rfl⟩ (fun hHeld => ?_)
             clear hK K
             refine norm_ (a':=?_) ?_ ?_
             rotate_left
             ·
              show Act.put _ (some 44) _ = _
              simp only [Act.put,sA,sB,sC,i64_w,i32_w]
              rfl
             refine pure_ (i:=10) (N:=some 3) (v:=?_) (a':=?_) #[true,true,true,true,true,true,true,true,true,true,true] rfl rfl (any_of HT_.out (by kernel_rfl)) (fun _ _ _ h => h) (Or.inl ⟨by rfl,?_⟩) ?_ ?_
             rotate_left
             ·
              intro w'
              go_simp
              with_reducible rfl
             rotate_left
             ·
              simp only [Act.put,sA,sB,sC,i64_w,i32_w]
              rfl
             refine done_ (done_of HT_.out (by kernel_rfl)) ?_
             try go_wp2
             have n0_:=qk (qf HO226.out)
             have n1_:=qk (qf HO232.out)
             have n2_:=qk (qb BK206.out)
             have n3_:=qk (qb BK223.out)
             have n4_:=qk (qi HB.out)
             clear HO226
             clear HO232
             clear BK206
             clear BK223
             clear HB
             have HO226:=n0_
             have HO232:=n1_
             have BK206:=n2_
             have BK223:=n3_
             have HB:=n4_
             clear n0_ n1_ n2_ n3_ n4_
             refine start_ (n:=11) (S:=fun w' => w'.cell? ⟨gb223,0,none⟩ = some (.string ((rd_T70 l0_2 x4_1).f0)) ∧ w'.cell? ⟨gb223,1,none⟩ = some (.int .i64 ((rd_T70 l0_2 x4_1).f1)) ∧ w'.cell? ⟨gb223,2,none⟩ = some (.int .i64 ((rd_T70 l0_2 x4_1).f2)) ∧ w'.cell? ⟨gb223,3,none⟩ = some (.int .i64 ((rd_T70 l0_2 x4_1).f3)) ∧ w'.cell? ⟨gb223,4,none⟩ = some (.slice A222_4 ((rd_T70 l0_2 x4_1).f4).length c222_4)) (ds:=[]) #[false,false,false,false,false,false,false,false,false,false,false] (by kernel_rfl) rfl rfl ⟨(blk_cell BK223.out 0).trans rfl,(blk_cell BK223.out 1).trans rfl,(blk_cell BK223.out 2).trans rfl,(blk_cell BK223.out 3).trans rfl,(blk_cell BK223.out 4).trans rfl⟩ (fun hHeld => ?_);refine with_tabW spec_l05Bytes.tab8 spec_l05Bytes.bits8 (fun HT_ HW_ => ?_)
             generalize w38.drew = w39 at HO226 HO232 BK206 BK223 HB hHeld ⊢
             refine pure_ (i:=0) (N:=some 45) (v:=?_) (a':=?_) #[true,false,false,false,false,false,false,false,false,false,false] rfl rfl (any_of HT_.out (by kernel_rfl)) (fun _ _ _ h => h) (Or.inl ⟨by rfl,?_⟩) ?_ ?_
             rotate_left
             ·
              intro w'
              go_simp
              with_reducible rfl
             rotate_left
             ·
              simp only [Act.put,sA,sB,sC,i64_w,i32_w]
              rfl
             refine pure_ (i:=1) (N:=some 46) (v:=?_) (a':=?_) #[true,true,false,false,false,false,false,false,false,false,false] rfl rfl (any_of HT_.out (by kernel_rfl)) (fun _ _ _ h => h) (Or.inl ⟨by rfl,?_⟩) ?_ ?_
             rotate_left
             ·
              intro w'
              go_simp
              with_reducible rfl
             rotate_left
             ·
              simp only [Act.put,sA,sB,sC,i64_w,i32_w]
              rfl
             refine pure_ (i:=5) (N:=some 50) (v:=?_) (a':=?_) #[true,true,false,false,false,true,false,false,false,false,false] rfl rfl (any_of HT_.out (by kernel_rfl)) (fun _ _ _ h => h) (Or.inl ⟨by rfl,?_⟩) ?_ ?_
             rotate_left
             ·
              intro w'
              go_simp
              with_reducible rfl
             rotate_left
             ·
              simp only [Act.put,sA,sB,sC,i64_w,i32_w]
              rfl
             refine take_ (i:=2) (N:=some 47) (v:=?_) (a':=?_) #[true,true,true,false,false,true,false,false,false,false,false] rfl rfl (take_ofW HT_.out HW_.out (by kernel_rfl)) (fun _ _ _ h => h) (Or.inl ⟨by rfl,?_⟩) hHeld ?_ ?_
             rotate_left
             ·
              rintro w' ⟨s0,s1,s2,s3,s4⟩
              go_simp
              with_reducible rfl
             rotate_left
             ·
              simp only [Act.put,sA,sB,sC,i64_w,i32_w]
              rfl
             refine take_ (i:=6) (N:=some 51) (v:=?_) (a':=?_) #[true,true,true,false,false,true,true,false,false,false,false] rfl rfl (take_ofW HT_.out HW_.out (by kernel_rfl)) (fun _ _ _ h => h) (Or.inl ⟨by rfl,?_⟩) hHeld ?_ ?_
             rotate_left
             ·
              rintro w' ⟨s0,s1,s2,s3,s4⟩
              go_simp
              with_reducible rfl
             rotate_left
             ·
              simp only [Act.put,sA,sB,sC,i64_w,i32_w]
              rfl
             refine pure_ (i:=7) (N:=some 52) (v:=?_) (a':=?_) #[true,true,true,false,false,true,true,true,false,false,false] rfl rfl (any_of HT_.out (by kernel_rfl)) (fun _ _ _ h => h) (Or.inl ⟨by rfl,?_⟩) ?_ ?_
             rotate_left
             ·
              intro w'
              go_simp
              with_reducible rfl
             rotate_left
             ·
              simp only [Act.put,sA,sB,sC,i64_w,i32_w]
              rfl
             refine one_ (i:=3) (N:=some 48) #[true,true,true,true,false,true,true,true,false,false,false] rfl rfl (one_of HT_.out (by kernel_rfl)) (by decide) (fun K hK => ?_)
             refine goes_ Try.func79 (by kernel_rfl) rfl #[.int .i64 ((rd_T70 l0_2 x4_1).f1),.int .i64 3] (by rfl) rfl rfl (by (try simp only [sE,sH,sI]);first|done|rfl|(simp only [sG,sF];rfl)) ?_
             with_reducible refine (spec_l02Number.calls k1 ((rd_T70 l0_2 x4_1).f1) 3 t233 _ A21.out).mono ?_
             rintro e w40 ⟨v234,rfl,ho0,hb⟩
             refine ⟨_,rfl,?_⟩
             have n0_:=qk (Kd.R_elder' (by (with_reducible repeat (first|apply qd|apply qe|apply qf));exact HO226.out) (Kd.R_base ho0) hb)
             have n1_:=qk (Kd.R_elder' (by (with_reducible repeat (first|apply qd|apply qe|apply qf));exact HO232.out) (Kd.R_base ho0) hb)
             have n2_:=qk (Kd.R_lower (Kd.R_new' (Kd.R_new' ho0 (Kd.R_lt (by (with_reducible repeat (first|apply qd|apply qe|apply qf));exact HO226.out))) (Kd.R_lt (by (with_reducible repeat (first|apply qd|apply qe|apply qf));exact HO232.out))) (qm (by repeat (first|(with_reducible first|exact HB.out|apply qg|apply qh|apply qi|refine qj ?_ GE206.out|refine qj ?_ GE223.out)|exact HB.out))))
             have n3_:=qk (ql (g:=gb206) (o:=.cells #[.int .i64 a0_0,.int .i64 a0_1,.slice (some ad222) l0_2.length c0_2,.slice A0_3 l0_3.length c0_3] 31 (0,0)) (by (with_reducible repeat (first|apply qa|apply qb|apply qc));exact BK206.out) hb)
             have n4_:=qk (ql (g:=gb223) (o:=.cells #[.string ((rd_T70 l0_2 x4_1).f0),.int .i64 ((rd_T70 l0_2 x4_1).f1),.int .i64 ((rd_T70 l0_2 x4_1).f2),.int .i64 ((rd_T70 l0_2 x4_1).f3),.slice A222_4 ((rd_T70 l0_2 x4_1).f4).length c222_4] 70 (0,0)) (by (with_reducible repeat (first|apply qa|apply qb|apply qc));exact BK223.out) hb)
             have n5_:=qk (sN (by repeat (first|(with_reducible first|exact HB.out|apply qg|apply qh|apply qi|refine qj ?_ GE206.out|refine qj ?_ GE223.out)|exact HB.out)) hb)
             clear HO226
             clear HO232
             clear BK206
             clear BK223
             clear HB
             have HO226:=n0_
             have HO232:=n1_
             have HO235:=n2_
             have BK206:=n3_
             have BK223:=n4_
             have HB:=n5_
             clear n0_ n1_ n2_ n3_ n4_ n5_
             (try clear hb)
             (try clear hb2)
             (try clear hk)
             (try clear hi)
             (try clear ho0)
             obtain ⟨Ao42,co42,eo42⟩:=Kd.R_slice HO235.out
             (first|subst eo42|(injection eo42 with f1_ f2_ f3_;have f4_:=f1_.symm;have f5_:=f3_.symm;clear f1_ f2_ f3_;subst f4_;subst f5_))
             refine hK.out _ _ ⟨(blk_cell BK223.out 0).trans rfl,(blk_cell BK223.out 1).trans rfl,(blk_cell BK223.out 2).trans rfl,(blk_cell BK223.out 3).trans rfl,(blk_cell BK223.out 4).trans rfl⟩ (fun hHeld => ?_)
             clear hK K
             refine norm_ (a':=?_) ?_ ?_
             rotate_left
             ·
              show Act.put _ (some 48) _ = _
              simp only [Act.put,sA,sB,sC,i64_w,i32_w]
              rfl
             refine one_ (i:=4) (N:=some 49) #[true,true,true,true,true,true,true,true,false,false,false] rfl rfl (one_of HT_.out (by kernel_rfl)) (by decide) (fun K hK => ?_)
             refine Kd.R_append_rows_step (Kd.int .u8) (w0:=w) w.heap.size (by rfl) (.tmp 45) (.tmp 48) 38 5 (.int .u8 0) 1 rfl Try.underlying38 info5 rfl (by decide) (by omega) v231 y230 t233 _ _ _ (fun k_ => some k_ ≠ (.slice Ao37 y224.length co37 : Value).ownBlock ∧ some k_ ≠ (.slice Ao42 t233.length co42 : Value).ownBlock) (fun _ => False) rfl rfl ?aO ?aR (fun _ _ h => h) (fun _ h => h.elim) ?aF ?aB ?aS ?aL ?_
             (case aR => repeat (first|exact (Kd.R_reads' HO235.out).2.2|(with_reducible refine Kd.C_alloc ?_ _)|(with_reducible refine Kd.C_drewN ?_ _)|(with_reducible refine Kd.C_drew ?_)))
             (case aB => exact (by repeat (first|(with_reducible first|exact HB.out|apply qg|apply qh|apply qi|refine qj ?_ GE206.out|refine qj ?_ GE223.out)|exact HB.out)))
             (case aF => exact (fun k_ hk => ⟨Kd.fresh' (Kd.R_lt (by (with_reducible repeat (first|apply qd|apply qe|apply qf));exact HO226.out)) k_ hk,Kd.fresh' (Kd.R_lt (by (with_reducible repeat (first|apply qd|apply qe|apply qf));exact HO235.out)) k_ hk⟩))
             (case aO => exact (by (with_reducible repeat (first|apply qd|apply qe|apply qf));exact HO232.out))
             (case aS => exact (qm (by repeat (first|(with_reducible first|exact HB.out|apply qg|apply qh|apply qi|refine qj ?_ GE206.out|refine qj ?_ GE223.out)|exact HB.out))))
             (case aL => have:=LMc22.out;omega)
             intro v237 w41 ho hb hg hat
             rw [← Ny236.out] at ho
             have n0_:=qk (blk_grown (g:=gb206) (o:=.cells #[.int .i64 a0_0,.int .i64 a0_1,.slice (some ad222) l0_2.length c0_2,.slice A0_3 l0_3.length c0_3] 31 (0,0)) (by (with_reducible repeat (first|apply qa|apply qb|apply qc));exact BK206.out) hg (Kd.R_ne HO232.out BK206.out (by decide)))
             have n1_:=qk (blk_grown (g:=gb223) (o:=.cells #[.string ((rd_T70 l0_2 x4_1).f0),.int .i64 ((rd_T70 l0_2 x4_1).f1),.int .i64 ((rd_T70 l0_2 x4_1).f2),.int .i64 ((rd_T70 l0_2 x4_1).f3),.slice A222_4 ((rd_T70 l0_2 x4_1).f4).length c222_4] 70 (0,0)) (by (with_reducible repeat (first|apply qa|apply qb|apply qc));exact BK223.out) hg (Kd.R_ne HO232.out BK223.out (by decide)))
             have n2_:=qk (Kd.R_after (ok:=(fun k_ => some k_ ≠ (.slice Ao42 t233.length co42 : Value).ownBlock)) (by (with_reducible repeat (first|apply qd|apply qe|apply qf));exact qn HO226.out (fun _ hk => ⟨hk.2,hk.1.2⟩)) hg hat)
             have n3_:=qk (Kd.R_after (ok:=(fun k_ => some k_ ≠ (.slice Ao37 y224.length co37 : Value).ownBlock)) (by (with_reducible repeat (first|apply qd|apply qe|apply qf));exact qn HO235.out (fun _ hk => ⟨hk.1.2,hk.2⟩)) hg hat)
             have n4_:=qk (hb)
             have n5_:=qk (ho)
             clear BK206
             clear BK223
             clear HO226
             clear HO235
             clear HB
             clear HO232
             have BK206:=n0_
             have BK223:=n1_
             have HO226:=n2_
             have HO235:=n3_
             have HB:=n4_
             have HO238:=n5_
             clear n0_ n1_ n2_ n3_ n4_ n5_
             clear ho hb hg hat
             refine hK.out _ _ ⟨(blk_cell BK223.out 0).trans rfl,(blk_cell BK223.out 1).trans rfl,(blk_cell BK223.out 2).trans rfl,(blk_cell BK223.out 3).trans rfl,(blk_cell BK223.out 4).trans rfl⟩ (fun hHeld => ?_)
             clear hK K
             refine norm_ (a':=?_) ?_ ?_
             rotate_left
             ·
              show Act.put _ (some 49) _ = _
              simp only [Act.put,sA,sB,sC,i64_w,i32_w]
              rfl
             refine one_ (i:=8) (N:=some 53) #[true,true,true,true,true,true,true,true,true,false,false] rfl rfl (one_of HT_.out (by kernel_rfl)) (by decide) (fun K hK => ?_)
             refine goes_ Try.func79 (by kernel_rfl) rfl #[.int .i64 (wrap64 (((rd_T70 l0_2 x4_1).f2) + 1)),.int .i64 2] (by rfl) rfl rfl (by (try simp only [sE,sH,sI]);first|done|rfl|(simp only [sG,sF];rfl)) ?_
             with_reducible refine (spec_l02Number.calls k1 (wrap64 (((rd_T70 l0_2 x4_1).f2) + 1)) 2 t239 _ A23.out).mono ?_
             rintro e w43 ⟨v240,rfl,ho0,hb⟩
             refine ⟨_,rfl,?_⟩
             have n0_:=qk (Kd.R_elder' (by (with_reducible repeat (first|apply qd|apply qe|apply qf));exact HO226.out) (Kd.R_base ho0) hb)
             have n1_:=qk (Kd.R_elder' (by (with_reducible repeat (first|apply qd|apply qe|apply qf));exact HO235.out) (Kd.R_base ho0) hb)
             have n2_:=qk (Kd.R_elder' (by (with_reducible repeat (first|apply qd|apply qe|apply qf));exact HO238.out) (Kd.R_base ho0) hb)
             have n3_:=qk (Kd.R_lower (Kd.R_new' (Kd.R_new' (Kd.R_new' ho0 (Kd.R_lt (by (with_reducible repeat (first|apply qd|apply qe|apply qf));exact HO226.out))) (Kd.R_lt (by (with_reducible repeat (first|apply qd|apply qe|apply qf));exact HO235.out))) (Kd.R_lt (by (with_reducible repeat (first|apply qd|apply qe|apply qf));exact HO238.out))) (qm (by repeat (first|(with_reducible first|exact HB.out|apply qg|apply qh|apply qi|refine qj ?_ GE206.out|refine qj ?_ GE223.out)|exact HB.out))))
             have n4_:=qk (ql (g:=gb206) (o:=.cells #[.int .i64 a0_0,.int .i64 a0_1,.slice (some ad222) l0_2.length c0_2,.slice A0_3 l0_3.length c0_3] 31 (0,0)) (by (with_reducible repeat (first|apply qa|apply qb|apply qc));exact BK206.out) hb)
             have n5_:=qk (ql (g:=gb223) (o:=.cells #[.string ((rd_T70 l0_2 x4_1).f0),.int .i64 ((rd_T70 l0_2 x4_1).f1),.int .i64 ((rd_T70 l0_2 x4_1).f2),.int .i64 ((rd_T70 l0_2 x4_1).f3),.slice A222_4 ((rd_T70 l0_2 x4_1).f4).length c222_4] 70 (0,0)) (by (with_reducible repeat (first|apply qa|apply qb|apply qc));exact BK223.out) hb)
             have n6_:=qk (sN (by repeat (first|(with_reducible first|exact HB.out|apply qg|apply qh|apply qi|refine qj ?_ GE206.out|refine qj ?_ GE223.out)|exact HB.out)) hb)
             clear HO226
             clear HO235
             clear HO238
             clear BK206
             clear BK223
             clear HB
             have HO226:=n0_
             have HO235:=n1_
             have HO238:=n2_
             have HO241:=n3_
             have BK206:=n4_
             have BK223:=n5_
             have HB:=n6_
             clear n0_ n1_ n2_ n3_ n4_ n5_ n6_
             (try clear hb)
             (try clear hb2)
             (try clear hk)
             (try clear hi)
             (try clear ho0)
             obtain ⟨Ao45,co45,eo45⟩:=Kd.R_slice HO241.out
             (first|subst eo45|(injection eo45 with f1_ f2_ f3_;have f4_:=f1_.symm;have f5_:=f3_.symm;clear f1_ f2_ f3_;subst f4_;subst f5_))
             refine hK.out _ _ ⟨(blk_cell BK223.out 0).trans rfl,(blk_cell BK223.out 1).trans rfl,(blk_cell BK223.out 2).trans rfl,(blk_cell BK223.out 3).trans rfl,(blk_cell BK223.out 4).trans rfl⟩ (fun hHeld => ?_)
             clear hK K
             refine norm_ (a':=?_) ?_ ?_
             rotate_left
             ·
              show Act.put _ (some 53) _ = _
              simp only [Act.put,sA,sB,sC,i64_w,i32_w]
              rfl
             refine one_ (i:=9) (N:=some 54) #[true,true,true,true,true,true,true,true,true,true,false] rfl rfl (one_of HT_.out (by kernel_rfl)) (by decide) (fun K hK => ?_)
             refine Kd.R_append_rows_step (Kd.int .u8) (w0:=w) w.heap.size (by rfl) (.tmp 49) (.tmp 53) 38 5 (.int .u8 0) 1 rfl Try.underlying38 info5 rfl (by decide) (by omega) v237 y236 t239 _ _ _ (fun k_ => some k_ ≠ (.slice Ao37 y224.length co37 : Value).ownBlock ∧ some k_ ≠ (.slice Ao42 t233.length co42 : Value).ownBlock ∧ some k_ ≠ (.slice Ao45 t239.length co45 : Value).ownBlock) (fun _ => False) rfl rfl ?aO ?aR (fun _ _ h => h) (fun _ h => h.elim) ?aF ?aB ?aS ?aL ?_
             (case aR => repeat (first|exact (Kd.R_reads' HO241.out).2.2|(with_reducible refine Kd.C_alloc ?_ _)|(with_reducible refine Kd.C_drewN ?_ _)|(with_reducible refine Kd.C_drew ?_)))
             (case aB => exact (by repeat (first|(with_reducible first|exact HB.out|apply qg|apply qh|apply qi|refine qj ?_ GE206.out|refine qj ?_ GE223.out)|exact HB.out)))
             (case aF => exact (fun k_ hk => ⟨Kd.fresh' (Kd.R_lt (by (with_reducible repeat (first|apply qd|apply qe|apply qf));exact HO226.out)) k_ hk,Kd.fresh' (Kd.R_lt (by (with_reducible repeat (first|apply qd|apply qe|apply qf));exact HO235.out)) k_ hk,Kd.fresh' (Kd.R_lt (by (with_reducible repeat (first|apply qd|apply qe|apply qf));exact HO241.out)) k_ hk⟩))
             (case aO => exact (by (with_reducible repeat (first|apply qd|apply qe|apply qf));exact qn HO238.out (fun _ hk => ⟨hk.1.1,⟨hk.1.2,hk.2⟩⟩)))
             (case aS => exact (qm (by repeat (first|(with_reducible first|exact HB.out|apply qg|apply qh|apply qi|refine qj ?_ GE206.out|refine qj ?_ GE223.out)|exact HB.out))))
             (case aL => have:=LMc24.out;omega)
             intro v243 w44 ho hb hg hat
             rw [← Ny242.out] at ho
             have n0_:=qk (blk_grown (g:=gb206) (o:=.cells #[.int .i64 a0_0,.int .i64 a0_1,.slice (some ad222) l0_2.length c0_2,.slice A0_3 l0_3.length c0_3] 31 (0,0)) (by (with_reducible repeat (first|apply qa|apply qb|apply qc));exact BK206.out) hg (Kd.R_ne HO238.out BK206.out (by decide)))
             have n1_:=qk (blk_grown (g:=gb223) (o:=.cells #[.string ((rd_T70 l0_2 x4_1).f0),.int .i64 ((rd_T70 l0_2 x4_1).f1),.int .i64 ((rd_T70 l0_2 x4_1).f2),.int .i64 ((rd_T70 l0_2 x4_1).f3),.slice A222_4 ((rd_T70 l0_2 x4_1).f4).length c222_4] 70 (0,0)) (by (with_reducible repeat (first|apply qa|apply qb|apply qc));exact BK223.out) hg (Kd.R_ne HO238.out BK223.out (by decide)))
             have n2_:=qk (Kd.R_after (ok:=(fun k_ => some k_ ≠ (.slice Ao42 t233.length co42 : Value).ownBlock ∧ some k_ ≠ (.slice Ao45 t239.length co45 : Value).ownBlock)) (by (with_reducible repeat (first|apply qd|apply qe|apply qf));exact qn HO226.out (fun _ hk => ⟨⟨hk.1.1,hk.2⟩,hk.1.2⟩)) hg hat)
             have n3_:=qk (Kd.R_after (ok:=(fun k_ => some k_ ≠ (.slice Ao37 y224.length co37 : Value).ownBlock ∧ some k_ ≠ (.slice Ao45 t239.length co45 : Value).ownBlock)) (by (with_reducible repeat (first|apply qd|apply qe|apply qf));exact qn HO235.out (fun _ hk => ⟨⟨hk.1.1,hk.2⟩,hk.1.2⟩)) hg hat)
             have n4_:=qk (Kd.R_after (ok:=(fun k_ => some k_ ≠ (.slice Ao37 y224.length co37 : Value).ownBlock ∧ some k_ ≠ (.slice Ao42 t233.length co42 : Value).ownBlock)) (by (with_reducible repeat (first|apply qd|apply qe|apply qf));exact qn HO241.out (fun _ hk => ⟨⟨hk.1.1.2,hk.1.2⟩,hk.2⟩)) hg hat)
             have n5_:=qk (hb)
             have n6_:=qk (ho)
             clear BK206
             clear BK223
             clear HO226
             clear HO235
             clear HO241
             clear HB
             clear HO238
             have BK206:=n0_
             have BK223:=n1_
             have HO226:=n2_
             have HO235:=n3_
             have HO241:=n4_
             have HB:=n5_
             have HO244:=n6_
             clear n0_ n1_ n2_ n3_ n4_ n5_ n6_
             clear ho hb hg hat
             refine hK.out _ _ ⟨(blk_cell BK223.out 0).trans rfl,(blk_cell BK223.out 1).trans rfl,(blk_cell BK223.out 2).trans rfl,(blk_cell BK223.out 3).trans rfl,(blk_cell BK223.out 4).trans rfl⟩ (fun hHeld => ?_)
             clear hK K
             refine norm_ (a':=?_) ?_ ?_
             rotate_left
             ·
              show Act.put _ (some 54) _ = _
              simp only [Act.put,sA,sB,sC,i64_w,i32_w]
              rfl
             refine pure_ (i:=10) (N:=some 3) (v:=?_) (a':=?_) #[true,true,true,true,true,true,true,true,true,true,true] rfl rfl (any_of HT_.out (by kernel_rfl)) (fun _ _ _ h => h) (Or.inl ⟨by rfl,?_⟩) ?_ ?_
             rotate_left
             ·
              intro w'
              go_simp
              with_reducible rfl
             rotate_left
             ·
              simp only [Act.put,sA,sB,sC,i64_w,i32_w]
              rfl
             refine done_ (done_of HT_.out (by kernel_rfl)) ?_
             obtain ⟨Ao46,co46,eo46⟩:=Kd.R_slice HO244.out
             subst eo46
             try go_wp2
             have n0_:=qk (qf HO226.out)
             have n1_:=qk (qf HO235.out)
             have n2_:=qk (qf HO241.out)
             have n3_:=qk (qf HO244.out)
             have n4_:=qk (qb BK206.out)
             have n5_:=qk (qb BK223.out)
             have n6_:=qk (qi HB.out)
             clear HO226
             clear HO235
             clear HO241
             clear HO244
             clear BK206
             clear BK223
             clear HB
             have HO226:=n0_
             have HO235:=n1_
             have HO241:=n2_
             have HO244:=n3_
             have BK206:=n4_
             have BK223:=n5_
             have HB:=n6_
             clear n0_ n1_ n2_ n3_ n4_ n5_ n6_
             refine start_ (n:=12) (S:=fun w' => w'.cell? ⟨gb223,0,none⟩ = some (.string ((rd_T70 l0_2 x4_1).f0)) ∧ w'.cell? ⟨gb223,1,none⟩ = some (.int .i64 ((rd_T70 l0_2 x4_1).f1)) ∧ w'.cell? ⟨gb223,2,none⟩ = some (.int .i64 ((rd_T70 l0_2 x4_1).f2)) ∧ w'.cell? ⟨gb223,3,none⟩ = some (.int .i64 ((rd_T70 l0_2 x4_1).f3)) ∧ w'.cell? ⟨gb223,4,none⟩ = some (.slice A222_4 ((rd_T70 l0_2 x4_1).f4).length c222_4)) (ds:=[]) #[false,false,false,false,false,false,false,false,false,false,false,false] (by kernel_rfl) rfl rfl ⟨(blk_cell BK223.out 0).trans rfl,(blk_cell BK223.out 1).trans rfl,(blk_cell BK223.out 2).trans rfl,(blk_cell BK223.out 3).trans rfl,(blk_cell BK223.out 4).trans rfl⟩ (fun hHeld => ?_);refine with_tabW spec_l05Bytes.tab9 spec_l05Bytes.bits9 (fun HT_ HW_ => ?_)
             generalize w44.drew = w47 at HO226 HO235 HO241 HO244 BK206 BK223 HB hHeld ⊢
             refine pure_ (i:=0) (N:=some 55) (v:=?_) (a':=?_) #[true,false,false,false,false,false,false,false,false,false,false,false] rfl rfl (any_of HT_.out (by kernel_rfl)) (fun _ _ _ h => h) (Or.inl ⟨by rfl,?_⟩) ?_ ?_
             rotate_left
             ·
              intro w'
              go_simp
              with_reducible rfl
             rotate_left
             ·
              simp only [Act.put,sA,sB,sC,i64_w,i32_w]
              rfl
             refine pure_ (i:=1) (N:=some 56) (v:=?_) (a':=?_) #[true,true,false,false,false,false,false,false,false,false,false,false] rfl rfl (any_of HT_.out (by kernel_rfl)) (fun _ _ _ h => h) (Or.inl ⟨by rfl,?_⟩) ?_ ?_
             rotate_left
             ·
              intro w'
              go_simp
              with_reducible rfl
             rotate_left
             ·
              simp only [Act.put,sA,sB,sC,i64_w,i32_w]
              rfl
             refine pure_ (i:=5) (N:=some 60) (v:=?_) (a':=?_) #[true,true,false,false,false,true,false,false,false,false,false,false] rfl rfl (any_of HT_.out (by kernel_rfl)) (fun _ _ _ h => h) (Or.inl ⟨by rfl,?_⟩) ?_ ?_
             rotate_left
             ·
              intro w'
              go_simp
              with_reducible rfl
             rotate_left
             ·
              simp only [Act.put,sA,sB,sC,i64_w,i32_w]
              rfl
             refine take_ (i:=2) (N:=some 57) (v:=?_) (a':=?_) #[true,true,true,false,false,true,false,false,false,false,false,false] rfl rfl (take_ofW HT_.out HW_.out (by kernel_rfl)) (fun _ _ _ h => h) (Or.inl ⟨by rfl,?_⟩) hHeld ?_ ?_
             rotate_left
             ·
              rintro w' ⟨s0,s1,s2,s3,s4⟩
              go_simp
              with_reducible rfl
             rotate_left
             ·
              simp only [Act.put,sA,sB,sC,i64_w,i32_w]
              rfl
             refine take_ (i:=6) (N:=some 61) (v:=?_) (a':=?_) #[true,true,true,false,false,true,true,false,false,false,false,false] rfl rfl (take_ofW HT_.out HW_.out (by kernel_rfl)) (fun _ _ _ h => h) (Or.inl ⟨by rfl,?_⟩) hHeld ?_ ?_
             rotate_left
             ·
              rintro w' ⟨s0,s1,s2,s3,s4⟩
              go_simp
              with_reducible rfl
             rotate_left
             ·
              simp only [Act.put,sA,sB,sC,i64_w,i32_w]
              rfl
             refine pure_ (i:=7) (N:=some 62) (v:=?_) (a':=?_) #[true,true,true,false,false,true,true,true,false,false,false,false] rfl rfl (any_of HT_.out (by kernel_rfl)) (fun _ _ _ h => h) (Or.inl ⟨by rfl,?_⟩) ?_ ?_
             rotate_left
             ·
              intro w'
              go_simp
              with_reducible rfl
             rotate_left
             ·
              simp only [Act.put,sA,sB,sC,i64_w,i32_w]
              rfl
             refine pure_ (i:=8) (N:=some 63) (v:=?_) (a':=?_) #[true,true,true,false,false,true,true,true,true,false,false,false] rfl rfl (any_of HT_.out (by kernel_rfl)) (fun _ _ _ h => h) (Or.inl ⟨by rfl,?_⟩) ?_ ?_
             rotate_left
             ·
              intro w'
              go_simp
              with_reducible rfl
             rotate_left
             ·
              simp only [Act.put,sA,sB,sC,i64_w,i32_w]
              rfl
             refine join_ (σ:=Value × Value × Value) 2 #[true,true,true,true,true,true,true,true,true,true,false,false] (fun s_ => [(58,s_.1),(59,s_.2.1),(64,s_.2.2)]) (fun s_ w' => (w'.cell? ⟨gb223,0,none⟩ = some (.string ((rd_T70 l0_2 x4_1).f0)) ∧ w'.cell? ⟨gb223,1,none⟩ = some (.int .i64 ((rd_T70 l0_2 x4_1).f1)) ∧ w'.cell? ⟨gb223,2,none⟩ = some (.int .i64 ((rd_T70 l0_2 x4_1).f2)) ∧ w'.cell? ⟨gb223,3,none⟩ = some (.int .i64 ((rd_T70 l0_2 x4_1).f3)) ∧ w'.cell? ⟨gb223,4,none⟩ = some (.slice A222_4 ((rd_T70 l0_2 x4_1).f4).length c222_4)) ∧ (Kd.R (Kd.int .u8) 5 w' w.heap.size (fun k_ => some k_ ≠ (.slice Ao42 t233.length co42 : Value).ownBlock ∧ some k_ ≠ (.slice Ao45 t239.length co45 : Value).ownBlock ∧ some k_ ≠ (s_.1 : Value).ownBlock ∧ some k_ ≠ (s_.2.1 : Value).ownBlock ∧ some k_ ≠ (s_.2.2 : Value).ownBlock) (.slice Ao37 y224.length co37) y224) ∧ (Kd.R (Kd.int .u8) 5 w' w.heap.size (fun k_ => some k_ ≠ (.slice Ao37 y224.length co37 : Value).ownBlock ∧ some k_ ≠ (.slice Ao45 t239.length co45 : Value).ownBlock ∧ some k_ ≠ (s_.1 : Value).ownBlock ∧ some k_ ≠ (s_.2.1 : Value).ownBlock ∧ some k_ ≠ (s_.2.2 : Value).ownBlock) (.slice Ao42 t233.length co42) t233) ∧ (Kd.R (Kd.int .u8) 5 w' w.heap.size (fun k_ => some k_ ≠ (.slice Ao37 y224.length co37 : Value).ownBlock ∧ some k_ ≠ (.slice Ao42 t233.length co42 : Value).ownBlock ∧ some k_ ≠ (s_.1 : Value).ownBlock ∧ some k_ ≠ (s_.2.1 : Value).ownBlock ∧ some k_ ≠ (s_.2.2 : Value).ownBlock) (.slice Ao45 t239.length co45) t239) ∧ (Kd.R (Kd.int .u8) 5 w' w.heap.size (fun k_ => some k_ ≠ (.slice Ao37 y224.length co37 : Value).ownBlock ∧ some k_ ≠ (.slice Ao42 t233.length co42 : Value).ownBlock ∧ some k_ ≠ (.slice Ao45 t239.length co45 : Value).ownBlock ∧ some k_ ≠ (s_.2.1 : Value).ownBlock ∧ some k_ ≠ (s_.2.2 : Value).ownBlock) s_.1 t245) ∧ (Kd.R (Kd.int .u8) 5 w' w.heap.size (fun k_ => some k_ ≠ (.slice Ao37 y224.length co37 : Value).ownBlock ∧ some k_ ≠ (.slice Ao42 t233.length co42 : Value).ownBlock ∧ some k_ ≠ (.slice Ao45 t239.length co45 : Value).ownBlock ∧ some k_ ≠ (s_.1 : Value).ownBlock ∧ some k_ ≠ (s_.2.2 : Value).ownBlock) s_.2.1 y248) ∧ (Kd.R (Kd.int .u8) 5 w' w.heap.size (fun k_ => some k_ ≠ (.slice Ao37 y224.length co37 : Value).ownBlock ∧ some k_ ≠ (.slice Ao42 t233.length co42 : Value).ownBlock ∧ some k_ ≠ (.slice Ao45 t239.length co45 : Value).ownBlock ∧ some k_ ≠ (s_.1 : Value).ownBlock ∧ some k_ ≠ (s_.2.1 : Value).ownBlock) s_.2.2 y251) ∧ (w'.heap[gb206]? = some (.cells #[.int .i64 a0_0,.int .i64 a0_1,.slice (some ad222) l0_2.length c0_2,.slice A0_3 l0_3.length c0_3] 31 (0,0))) ∧ (w'.heap[gb223]? = some (.cells #[.string ((rd_T70 l0_2 x4_1).f0),.int .i64 ((rd_T70 l0_2 x4_1).f1),.int .i64 ((rd_T70 l0_2 x4_1).f2),.int .i64 ((rd_T70 l0_2 x4_1).f3),.slice A222_4 ((rd_T70 l0_2 x4_1).f4).length c222_4] 70 (0,0))) ∧ (Below w.heap.size w w')) ?_ ?_
             rotate_left
             ·
              intro hCont
              refine two_ (i:=3) (j:=9) (Ni:=some 58) (Nj:=some 64) #[true,true,true,true,false,true,true,true,true,false,false,false] #[true,true,true,false,false,true,true,true,true,true,false,false] rfl rfl rfl rfl (two_of HT_.out (by kernel_rfl)) (by decide) (by decide) (fun K hK => ?_) (fun K hK => ?_)
              ·
               skip
               refine goes_ Try.func79 (by kernel_rfl) rfl #[.int .i64 ((rd_T70 l0_2 x4_1).f3),.int .i64 4] (by rfl) rfl rfl (by (try simp only [sE,sH,sI]);first|done|rfl|(simp only [sG,sF];rfl)) ?_
               with_reducible refine (spec_l02Number.calls k1 ((rd_T70 l0_2 x4_1).f3) 4 t245 _ A25.out).mono ?_
               rintro e w48 ⟨v246,rfl,ho0,hb⟩
               refine ⟨_,rfl,?_⟩
               have n0_:=qk (Kd.R_elder' (by (with_reducible repeat (first|apply qd|apply qe|apply qf));exact HO226.out) (Kd.R_base ho0) hb)
               have n1_:=qk (Kd.R_elder' (by (with_reducible repeat (first|apply qd|apply qe|apply qf));exact HO235.out) (Kd.R_base ho0) hb)
               have n2_:=qk (Kd.R_elder' (by (with_reducible repeat (first|apply qd|apply qe|apply qf));exact HO241.out) (Kd.R_base ho0) hb)
               have n3_:=qk (Kd.R_elder' (by (with_reducible repeat (first|apply qd|apply qe|apply qf));exact HO244.out) (Kd.R_base ho0) hb)
               have n4_:=qk (Kd.R_lower (Kd.R_new' (Kd.R_new' (Kd.R_new' (Kd.R_new' ho0 (Kd.R_lt (by (with_reducible repeat (first|apply qd|apply qe|apply qf));exact HO226.out))) (Kd.R_lt (by (with_reducible repeat (first|apply qd|apply qe|apply qf));exact HO235.out))) (Kd.R_lt (by (with_reducible repeat (first|apply qd|apply qe|apply qf));exact HO241.out))) (Kd.R_lt (by (with_reducible repeat (first|apply qd|apply qe|apply qf));exact HO244.out))) (qm (by repeat (first|(with_reducible first|exact HB.out|apply qg|apply qh|apply qi|refine qj ?_ GE206.out|refine qj ?_ GE223.out)|exact HB.out))))
               have n5_:=qk (ql (g:=gb206) (o:=.cells #[.int .i64 a0_0,.int .i64 a0_1,.slice (some ad222) l0_2.length c0_2,.slice A0_3 l0_3.length c0_3] 31 (0,0)) (by (with_reducible repeat (first|apply qa|apply qb|apply qc));exact BK206.out) hb)
               have n6_:=qk (ql (g:=gb223) (o:=.cells #[.string ((rd_T70 l0_2 x4_1).f0),.int .i64 ((rd_T70 l0_2 x4_1).f1),.int .i64 ((rd_T70 l0_2 x4_1).f2),.int .i64 ((rd_T70 l0_2 x4_1).f3),.slice A222_4 ((rd_T70 l0_2 x4_1).f4).length c222_4] 70 (0,0)) (by (with_reducible repeat (first|apply qa|apply qb|apply qc));exact BK223.out) hb)
               have n7_:=qk (sN (by repeat (first|(with_reducible first|exact HB.out|apply qg|apply qh|apply qi|refine qj ?_ GE206.out|refine qj ?_ GE223.out)|exact HB.out)) hb)
               clear HO226
               clear HO235
               clear HO241
               clear HO244
               clear BK206
               clear BK223
               clear HB
               have HO226:=n0_
               have HO235:=n1_
               have HO241:=n2_
               have HO244:=n3_
               have HO247:=n4_
               have BK206:=n5_
               have BK223:=n6_
               have HB:=n7_
               clear n0_ n1_ n2_ n3_ n4_ n5_ n6_ n7_
               (try clear hb)
               (try clear hb2)
               (try clear hk)
               (try clear hi)
               (try clear ho0)
               obtain ⟨Ao50,co50,eo50⟩:=Kd.R_slice HO247.out
               (first|subst eo50|(injection eo50 with f1_ f2_ f3_;have f4_:=f1_.symm;have f5_:=f3_.symm;clear f1_ f2_ f3_;subst f4_;subst f5_))
               refine hK.out _ _ ⟨(blk_cell BK223.out 0).trans rfl,(blk_cell BK223.out 1).trans rfl,(blk_cell BK223.out 2).trans rfl,(blk_cell BK223.out 3).trans rfl,(blk_cell BK223.out 4).trans rfl⟩ (fun hHeld => ?_)
               clear hK K
               refine norm_ (a':=?_) ?_ ?_
               rotate_left
               ·
                show Act.put _ (some 58) _ = _
                simp only [Act.put,sA,sB,sC,i64_w,i32_w]
                rfl
               refine two_ (i:=4) (j:=9) (Ni:=some 59) (Nj:=some 64) #[true,true,true,true,true,true,true,true,true,false,false,false] #[true,true,true,true,false,true,true,true,true,true,false,false] rfl rfl rfl rfl (two_of HT_.out (by kernel_rfl)) (by decide) (by decide) (fun K hK => ?_) (fun K hK => ?_)
               ·
                skip
                refine Kd.R_append_rows_step (Kd.int .u8) (w0:=w) w.heap.size (by rfl) (.tmp 55) (.tmp 58) 38 5 (.int .u8 0) 1 rfl Try.underlying38 info5 rfl (by decide) (by omega) (.slice Ao46 y242.length co46) y242 t245 _ _ _ (fun k_ => some k_ ≠ (.slice Ao37 y224.length co37 : Value).ownBlock ∧ some k_ ≠ (.slice Ao42 t233.length co42 : Value).ownBlock ∧ some k_ ≠ (.slice Ao45 t239.length co45 : Value).ownBlock ∧ some k_ ≠ (.slice Ao50 t245.length co50 : Value).ownBlock) (fun _ => False) rfl rfl ?aO ?aR (fun _ _ h => h) (fun _ h => h.elim) ?aF ?aB ?aS ?aL ?_
                (case aR => repeat (first|exact (Kd.R_reads' HO247.out).2.2|(with_reducible refine Kd.C_alloc ?_ _)|(with_reducible refine Kd.C_drewN ?_ _)|(with_reducible refine Kd.C_drew ?_)))
                (case aB => exact (by repeat (first|(with_reducible first|exact HB.out|apply qg|apply qh|apply qi|refine qj ?_ GE206.out|refine qj ?_ GE223.out)|exact HB.out)))
                (case aF => exact (fun k_ hk => ⟨Kd.fresh' (Kd.R_lt (by (with_reducible repeat (first|apply qd|apply qe|apply qf));exact HO226.out)) k_ hk,Kd.fresh' (Kd.R_lt (by (with_reducible repeat (first|apply qd|apply qe|apply qf));exact HO235.out)) k_ hk,Kd.fresh' (Kd.R_lt (by (with_reducible repeat (first|apply qd|apply qe|apply qf));exact HO241.out)) k_ hk,Kd.fresh' (Kd.R_lt (by (with_reducible repeat (first|apply qd|apply qe|apply qf));exact HO247.out)) k_ hk⟩))
                (case aO => exact (by (with_reducible repeat (first|apply qd|apply qe|apply qf));exact qn HO244.out (fun _ hk => ⟨hk.1.1,⟨hk.1.2.1,⟨hk.1.2.2,hk.2⟩⟩⟩)))
                (case aS => exact (qm (by repeat (first|(with_reducible first|exact HB.out|apply qg|apply qh|apply qi|refine qj ?_ GE206.out|refine qj ?_ GE223.out)|exact HB.out))))
                (case aL => have:=LMc26.out;omega)
                intro v249 w49 ho hb hg hat
                rw [← Ny248.out] at ho
                have n0_:=qk (blk_grown (g:=gb206) (o:=.cells #[.int .i64 a0_0,.int .i64 a0_1,.slice (some ad222) l0_2.length c0_2,.slice A0_3 l0_3.length c0_3] 31 (0,0)) (by (with_reducible repeat (first|apply qa|apply qb|apply qc));exact BK206.out) hg (Kd.R_ne HO244.out BK206.out (by decide)))
                have n1_:=qk (blk_grown (g:=gb223) (o:=.cells #[.string ((rd_T70 l0_2 x4_1).f0),.int .i64 ((rd_T70 l0_2 x4_1).f1),.int .i64 ((rd_T70 l0_2 x4_1).f2),.int .i64 ((rd_T70 l0_2 x4_1).f3),.slice A222_4 ((rd_T70 l0_2 x4_1).f4).length c222_4] 70 (0,0)) (by (with_reducible repeat (first|apply qa|apply qb|apply qc));exact BK223.out) hg (Kd.R_ne HO244.out BK223.out (by decide)))
                have n2_:=qk (Kd.R_after (ok:=(fun k_ => some k_ ≠ (.slice Ao42 t233.length co42 : Value).ownBlock ∧ some k_ ≠ (.slice Ao45 t239.length co45 : Value).ownBlock ∧ some k_ ≠ (.slice Ao50 t245.length co50 : Value).ownBlock)) (by (with_reducible repeat (first|apply qd|apply qe|apply qf));exact qn HO226.out (fun _ hk => ⟨⟨hk.1.1.1,⟨hk.1.1.2,hk.2⟩⟩,hk.1.2⟩)) hg hat)
                have n3_:=qk (Kd.R_after (ok:=(fun k_ => some k_ ≠ (.slice Ao37 y224.length co37 : Value).ownBlock ∧ some k_ ≠ (.slice Ao45 t239.length co45 : Value).ownBlock ∧ some k_ ≠ (.slice Ao50 t245.length co50 : Value).ownBlock)) (by (with_reducible repeat (first|apply qd|apply qe|apply qf));exact qn HO235.out (fun _ hk => ⟨⟨hk.1.1.1,⟨hk.1.1.2,hk.2⟩⟩,hk.1.2⟩)) hg hat)
                have n4_:=qk (Kd.R_after (ok:=(fun k_ => some k_ ≠ (.slice Ao37 y224.length co37 : Value).ownBlock ∧ some k_ ≠ (.slice Ao42 t233.length co42 : Value).ownBlock ∧ some k_ ≠ (.slice Ao50 t245.length co50 : Value).ownBlock)) (by (with_reducible repeat (first|apply qd|apply qe|apply qf));exact qn HO241.out (fun _ hk => ⟨⟨hk.1.1.1,⟨hk.1.1.2,hk.2⟩⟩,hk.1.2⟩)) hg hat)
                have n5_:=qk (Kd.R_after (ok:=(fun k_ => some k_ ≠ (.slice Ao37 y224.length co37 : Value).ownBlock ∧ some k_ ≠ (.slice Ao42 t233.length co42 : Value).ownBlock ∧ some k_ ≠ (.slice Ao45 t239.length co45 : Value).ownBlock)) (by (with_reducible repeat (first|apply qd|apply qe|apply qf));exact qn HO247.out (fun _ hk => ⟨⟨hk.1.1.1.2,⟨hk.1.1.2,hk.1.2⟩⟩,hk.2⟩)) hg hat)
                have n6_:=qk (hb)
                have n7_:=qk (ho)
                clear BK206
                clear BK223
                clear HO226
                clear HO235
                clear HO241
                clear HO247
                clear HB
                clear HO244
                have BK206:=n0_
                have BK223:=n1_
                have HO226:=n2_
                have HO235:=n3_
                have HO241:=n4_
                have HO247:=n5_
                have HB:=n6_
                have HO250:=n7_
                clear n0_ n1_ n2_ n3_ n4_ n5_ n6_ n7_
                clear ho hb hg hat
                refine hK.out _ _ ⟨(blk_cell BK223.out 0).trans rfl,(blk_cell BK223.out 1).trans rfl,(blk_cell BK223.out 2).trans rfl,(blk_cell BK223.out 3).trans rfl,(blk_cell BK223.out 4).trans rfl⟩ (fun hHeld => ?_)
                clear hK K
                refine norm_ (a':=?_) ?_ ?_
                rotate_left
                ·
                 show Act.put _ (some 59) _ = _
                 simp only [Act.put,sA,sB,sC,i64_w,i32_w]
                 rfl
                refine one_ (i:=9) (N:=some 64) #[true,true,true,true,true,true,true,true,true,true,false,false] rfl rfl (one_of HT_.out (by kernel_rfl)) (by decide) (fun K hK => ?_)
                refine Kd.R_lit_step (Kd.int .u8) _ 5 ?hg (N:=64) ?hd (xs:=([((((rd_T70 l0_2 x4_1).f4).length : Int)) % 256] : List Int)) (inner:=[.int .u8 (((((rd_T70 l0_2 x4_1).f4).length : Int)) % 256)]) (ok:=fun _ => True) (okp:=fun _ => True) ?hr ?hp (fun _ hk => hk) trivial (Below.refl _ _) (Nat.le_refl _) (by simp) ?_;(case hd => rfl);(case hg => rfl);(case hr => first|(go_simp;done)|(go_simp;rfl));(case hp => exact (Reps.one (show Kd.M (Kd.int .u8) _ _ _ (((((rd_T70 l0_2 x4_1).f4).length : Int)) % 256) [.int .u8 (((((rd_T70 l0_2 x4_1).f4).length : Int)) % 256)] from rfl) (Reps.none _ _)))
                intro v252 w51 ho52 hb hg_ hnew_
                clear hg_ hnew_
                (first|rw [← Ny251.out] at ho52|(simp only [Int.reduceToNat] at ho52;rw [← Ny251.out] at ho52))
                have n0_:=qk (Kd.R_elder' (by (with_reducible repeat (first|apply qd|apply qe|apply qf));exact HO226.out) (Kd.R_base ho52) hb)
                have n1_:=qk (Kd.R_elder' (by (with_reducible repeat (first|apply qd|apply qe|apply qf));exact HO235.out) (Kd.R_base ho52) hb)
                have n2_:=qk (Kd.R_elder' (by (with_reducible repeat (first|apply qd|apply qe|apply qf));exact HO241.out) (Kd.R_base ho52) hb)
                have n3_:=qk (Kd.R_elder' (by (with_reducible repeat (first|apply qd|apply qe|apply qf));exact HO247.out) (Kd.R_base ho52) hb)
                have n4_:=qk (Kd.R_elder' (by (with_reducible repeat (first|apply qd|apply qe|apply qf));exact HO250.out) (Kd.R_base ho52) hb)
                have n5_:=qk (Kd.R_lower (Kd.R_new' (Kd.R_new' (Kd.R_new' (Kd.R_new' (Kd.R_new' ho52 (Kd.R_lt (by (with_reducible repeat (first|apply qd|apply qe|apply qf));exact HO226.out))) (Kd.R_lt (by (with_reducible repeat (first|apply qd|apply qe|apply qf));exact HO235.out))) (Kd.R_lt (by (with_reducible repeat (first|apply qd|apply qe|apply qf));exact HO241.out))) (Kd.R_lt (by (with_reducible repeat (first|apply qd|apply qe|apply qf));exact HO247.out))) (Kd.R_lt (by (with_reducible repeat (first|apply qd|apply qe|apply qf));exact HO250.out))) (qm (by repeat (first|(with_reducible first|exact HB.out|apply qg|apply qh|apply qi|refine qj ?_ GE206.out|refine qj ?_ GE223.out)|exact HB.out))))
                have n6_:=qk (ql (g:=gb206) (o:=.cells #[.int .i64 a0_0,.int .i64 a0_1,.slice (some ad222) l0_2.length c0_2,.slice A0_3 l0_3.length c0_3] 31 (0,0)) (by (with_reducible repeat (first|apply qa|apply qb|apply qc));exact BK206.out) hb)
                have n7_:=qk (ql (g:=gb223) (o:=.cells #[.string ((rd_T70 l0_2 x4_1).f0),.int .i64 ((rd_T70 l0_2 x4_1).f1),.int .i64 ((rd_T70 l0_2 x4_1).f2),.int .i64 ((rd_T70 l0_2 x4_1).f3),.slice A222_4 ((rd_T70 l0_2 x4_1).f4).length c222_4] 70 (0,0)) (by (with_reducible repeat (first|apply qa|apply qb|apply qc));exact BK223.out) hb)
                have n8_:=qk (sN (by repeat (first|(with_reducible first|exact HB.out|apply qg|apply qh|apply qi|refine qj ?_ GE206.out|refine qj ?_ GE223.out)|exact HB.out)) hb)
                clear HO226
                clear HO235
                clear HO241
                clear HO247
                clear HO250
                clear BK206
                clear BK223
                clear HB
                have HO226:=n0_
                have HO235:=n1_
                have HO241:=n2_
                have HO247:=n3_
                have HO250:=n4_
                have HO253:=n5_
                have BK206:=n6_
                have BK223:=n7_
                have HB:=n8_
                clear n0_ n1_ n2_ n3_ n4_ n5_ n6_ n7_ n8_
                clear hb ho52
                refine hK.out _ _ ⟨(blk_cell BK223.out 0).trans rfl,(blk_cell BK223.out 1).trans rfl,(blk_cell BK223.out 2).trans rfl,(blk_cell BK223.out 3).trans rfl,(blk_cell BK223.out 4).trans rfl⟩ (fun hHeld => ?_)
                clear hK K
                refine norm_ (a':=?_) ?_ ?_
                rotate_left
                ·
                 show Act.put _ (some 64) _ = _
                 simp only [Act.put,sA,sB,sC,i64_w,i32_w]
                 rfl
                exact norm_ (by simp only [putAll,Act.put,sA,sB,sC]) (hCont (.slice Ao50 t245.length co50,v249,v252) _ ⟨hHeld,(by (with_reducible repeat (first|apply qd|apply qe|apply qf));exact qn HO226.out (fun _ hk => ⟨hk.1.1.1,⟨hk.1.1.2.1,⟨hk.1.1.2.2,⟨hk.1.2,hk.2⟩⟩⟩⟩)),(by (with_reducible repeat (first|apply qd|apply qe|apply qf));exact qn HO235.out (fun _ hk => ⟨hk.1.1.1,⟨hk.1.1.2.1,⟨hk.1.1.2.2,⟨hk.1.2,hk.2⟩⟩⟩⟩)),(by (with_reducible repeat (first|apply qd|apply qe|apply qf));exact qn HO241.out (fun _ hk => ⟨hk.1.1.1,⟨hk.1.1.2.1,⟨hk.1.1.2.2,⟨hk.1.2,hk.2⟩⟩⟩⟩)),(by (with_reducible repeat (first|apply qd|apply qe|apply qf));exact qn HO247.out (fun _ hk => ⟨hk.1.1.1,⟨hk.1.1.2.1,⟨hk.1.1.2.2,⟨hk.1.2,hk.2⟩⟩⟩⟩)),(by (with_reducible repeat (first|apply qd|apply qe|apply qf));exact qn HO250.out (fun _ hk => ⟨hk.1.1,⟨hk.1.2.1,⟨hk.1.2.2.1,⟨hk.1.2.2.2,hk.2⟩⟩⟩⟩)),(by (with_reducible repeat (first|apply qd|apply qe|apply qf));exact qn HO253.out (fun _ hk => ⟨hk.1.1.1.1.2,⟨hk.1.1.1.2,⟨hk.1.1.2,⟨hk.1.2,hk.2⟩⟩⟩⟩)),(by (with_reducible repeat (first|apply qa|apply qb|apply qc));exact BK206.out),(by (with_reducible repeat (first|apply qa|apply qb|apply qc));exact BK223.out),(by repeat (first|(with_reducible first|exact HB.out|apply qg|apply qh|apply qi|refine qj ?_ GE206.out|refine qj ?_ GE223.out)|exact HB.out))⟩)
               ·
                skip
                refine Kd.R_lit_step (Kd.int .u8) _ 5 ?hg (N:=64) ?hd (xs:=([((((rd_T70 l0_2 x4_1).f4).length : Int)) % 256] : List Int)) (inner:=[.int .u8 (((((rd_T70 l0_2 x4_1).f4).length : Int)) % 256)]) (ok:=fun _ => True) (okp:=fun _ => True) ?hr ?hp (fun _ hk => hk) trivial (Below.refl _ _) (Nat.le_refl _) (by simp) ?_;(case hd => rfl);(case hg => rfl);(case hr => first|(go_simp;done)|(go_simp;rfl));(case hp => exact (Reps.one (show Kd.M (Kd.int .u8) _ _ _ (((((rd_T70 l0_2 x4_1).f4).length : Int)) % 256) [.int .u8 (((((rd_T70 l0_2 x4_1).f4).length : Int)) % 256)] from rfl) (Reps.none _ _)))
                intro v252 w49 ho50 hb hg_ hnew_
                clear hg_ hnew_
                (first|rw [← Ny251.out] at ho50|(simp only [Int.reduceToNat] at ho50;rw [← Ny251.out] at ho50))
                have n0_:=qk (Kd.R_elder' (by (with_reducible repeat (first|apply qd|apply qe|apply qf));exact HO226.out) (Kd.R_base ho50) hb)
                have n1_:=qk (Kd.R_elder' (by (with_reducible repeat (first|apply qd|apply qe|apply qf));exact HO235.out) (Kd.R_base ho50) hb)
                have n2_:=qk (Kd.R_elder' (by (with_reducible repeat (first|apply qd|apply qe|apply qf));exact HO241.out) (Kd.R_base ho50) hb)
                have n3_:=qk (Kd.R_elder' (by (with_reducible repeat (first|apply qd|apply qe|apply qf));exact HO244.out) (Kd.R_base ho50) hb)
                have n4_:=qk (Kd.R_elder' (by (with_reducible repeat (first|apply qd|apply qe|apply qf));exact HO247.out) (Kd.R_base ho50) hb)
                have n5_:=qk (Kd.R_lower (Kd.R_new' (Kd.R_new' (Kd.R_new' (Kd.R_new' (Kd.R_new' ho50 (Kd.R_lt (by (with_reducible repeat (first|apply qd|apply qe|apply qf));exact HO226.out))) (Kd.R_lt (by (with_reducible repeat (first|apply qd|apply qe|apply qf));exact HO235.out))) (Kd.R_lt (by (with_reducible repeat (first|apply qd|apply qe|apply qf));exact HO241.out))) (Kd.R_lt (by (with_reducible repeat (first|apply qd|apply qe|apply qf));exact HO244.out))) (Kd.R_lt (by (with_reducible repeat (first|apply qd|apply qe|apply qf));exact HO247.out))) (qm (by repeat (first|(with_reducible first|exact HB.out|apply qg|apply qh|apply qi|refine qj ?_ GE206.out|refine qj ?_ GE223.out)|exact HB.out))))
                have n6_:=qk (ql (g:=gb206) (o:=.cells #[.int .i64 a0_0,.int .i64 a0_1,.slice (some ad222) l0_2.length c0_2,.slice A0_3 l0_3.length c0_3] 31 (0,0)) (by (with_reducible repeat (first|apply qa|apply qb|apply qc));exact BK206.out) hb)
                have n7_:=qk (ql (g:=gb223) (o:=.cells #[.string ((rd_T70 l0_2 x4_1).f0),.int .i64 ((rd_T70 l0_2 x4_1).f1),.int .i64 ((rd_T70 l0_2 x4_1).f2),.int .i64 ((rd_T70 l0_2 x4_1).f3),.slice A222_4 ((rd_T70 l0_2 x4_1).f4).length c222_4] 70 (0,0)) (by (with_reducible repeat (first|apply qa|apply qb|apply qc));exact BK223.out) hb)
                have n8_:=qk (sN (by repeat (first|(with_reducible first|exact HB.out|apply qg|apply qh|apply qi|refine qj ?_ GE206.out|refine qj ?_ GE223.out)|exact HB.out)) hb)
                clear HO226
                clear HO235
                clear HO241
                clear HO244
                clear HO247
                clear BK206
                clear BK223
                clear HB
                have HO226:=n0_
                have HO235:=n1_
                have HO241:=n2_
                have HO244:=n3_
                have HO247:=n4_
                have HO253:=n5_
                have BK206:=n6_
                have BK223:=n7_
                have HB:=n8_
                clear n0_ n1_ n2_ n3_ n4_ n5_ n6_ n7_ n8_
                clear hb ho50
                obtain ⟨Ao52,co52,eo52⟩:=Kd.R_slice HO247.out
                (first|subst eo52|(injection eo52 with f1_ f2_ f3_;have f4_:=f1_.symm;have f5_:=f3_.symm;clear f1_ f2_ f3_;subst f4_;subst f5_))
                refine hK.out _ _ ⟨(blk_cell BK223.out 0).trans rfl,(blk_cell BK223.out 1).trans rfl,(blk_cell BK223.out 2).trans rfl,(blk_cell BK223.out 3).trans rfl,(blk_cell BK223.out 4).trans rfl⟩ (fun hHeld => ?_)
                clear hK K
                refine norm_ (a':=?_) ?_ ?_
                rotate_left
                ·
                 show Act.put _ (some 64) _ = _
                 simp only [Act.put,sA,sB,sC,i64_w,i32_w]
                 rfl
                refine one_ (i:=4) (N:=some 59) #[true,true,true,true,true,true,true,true,true,true,false,false] rfl rfl (one_of HT_.out (by kernel_rfl)) (by decide) (fun K hK => ?_)
                refine Kd.R_append_rows_step (Kd.int .u8) (w0:=w) w.heap.size (by rfl) (.tmp 55) (.tmp 58) 38 5 (.int .u8 0) 1 rfl Try.underlying38 info5 rfl (by decide) (by omega) (.slice Ao46 y242.length co46) y242 t245 _ _ _ (fun k_ => some k_ ≠ (.slice Ao37 y224.length co37 : Value).ownBlock ∧ some k_ ≠ (.slice Ao42 t233.length co42 : Value).ownBlock ∧ some k_ ≠ (.slice Ao45 t239.length co45 : Value).ownBlock ∧ some k_ ≠ (.slice Ao52 t245.length co52 : Value).ownBlock ∧ some k_ ≠ (v252 : Value).ownBlock) (fun _ => False) rfl rfl ?aO ?aR (fun _ _ h => h) (fun _ h => h.elim) ?aF ?aB ?aS ?aL ?_
                (case aR => repeat (first|exact (Kd.R_reads' HO247.out).2.2|(with_reducible refine Kd.C_alloc ?_ _)|(with_reducible refine Kd.C_drewN ?_ _)|(with_reducible refine Kd.C_drew ?_)))
                (case aB => exact (by repeat (first|(with_reducible first|exact HB.out|apply qg|apply qh|apply qi|refine qj ?_ GE206.out|refine qj ?_ GE223.out)|exact HB.out)))
                (case aF => exact (fun k_ hk => ⟨Kd.fresh' (Kd.R_lt (by (with_reducible repeat (first|apply qd|apply qe|apply qf));exact HO226.out)) k_ hk,Kd.fresh' (Kd.R_lt (by (with_reducible repeat (first|apply qd|apply qe|apply qf));exact HO235.out)) k_ hk,Kd.fresh' (Kd.R_lt (by (with_reducible repeat (first|apply qd|apply qe|apply qf));exact HO241.out)) k_ hk,Kd.fresh' (Kd.R_lt (by (with_reducible repeat (first|apply qd|apply qe|apply qf));exact HO247.out)) k_ hk,Kd.fresh' (Kd.R_lt (by (with_reducible repeat (first|apply qd|apply qe|apply qf));exact HO253.out)) k_ hk⟩))
                (case aO => exact (by (with_reducible repeat (first|apply qd|apply qe|apply qf));exact qn HO244.out (fun _ hk => ⟨hk.1.1.1,⟨hk.1.1.2.1,⟨hk.1.1.2.2,⟨hk.1.2,hk.2⟩⟩⟩⟩)))
                (case aS => exact (qm (by repeat (first|(with_reducible first|exact HB.out|apply qg|apply qh|apply qi|refine qj ?_ GE206.out|refine qj ?_ GE223.out)|exact HB.out))))
                (case aL => have:=LMc26.out;omega)
                intro v249 w51 ho hb hg hat
                rw [← Ny248.out] at ho
                have n0_:=qk (blk_grown (g:=gb206) (o:=.cells #[.int .i64 a0_0,.int .i64 a0_1,.slice (some ad222) l0_2.length c0_2,.slice A0_3 l0_3.length c0_3] 31 (0,0)) (by (with_reducible repeat (first|apply qa|apply qb|apply qc));exact BK206.out) hg (Kd.R_ne HO244.out BK206.out (by decide)))
                have n1_:=qk (blk_grown (g:=gb223) (o:=.cells #[.string ((rd_T70 l0_2 x4_1).f0),.int .i64 ((rd_T70 l0_2 x4_1).f1),.int .i64 ((rd_T70 l0_2 x4_1).f2),.int .i64 ((rd_T70 l0_2 x4_1).f3),.slice A222_4 ((rd_T70 l0_2 x4_1).f4).length c222_4] 70 (0,0)) (by (with_reducible repeat (first|apply qa|apply qb|apply qc));exact BK223.out) hg (Kd.R_ne HO244.out BK223.out (by decide)))
                have n2_:=qk (Kd.R_after (ok:=(fun k_ => some k_ ≠ (.slice Ao42 t233.length co42 : Value).ownBlock ∧ some k_ ≠ (.slice Ao45 t239.length co45 : Value).ownBlock ∧ some k_ ≠ (.slice Ao52 t245.length co52 : Value).ownBlock ∧ some k_ ≠ (v252 : Value).ownBlock)) (by (with_reducible repeat (first|apply qd|apply qe|apply qf));exact qn HO226.out (fun _ hk => ⟨⟨hk.1.1.1.1,⟨hk.1.1.1.2,⟨hk.1.2,hk.2⟩⟩⟩,hk.1.1.2⟩)) hg hat)
                have n3_:=qk (Kd.R_after (ok:=(fun k_ => some k_ ≠ (.slice Ao37 y224.length co37 : Value).ownBlock ∧ some k_ ≠ (.slice Ao45 t239.length co45 : Value).ownBlock ∧ some k_ ≠ (.slice Ao52 t245.length co52 : Value).ownBlock ∧ some k_ ≠ (v252 : Value).ownBlock)) (by (with_reducible repeat (first|apply qd|apply qe|apply qf));exact qn HO235.out (fun _ hk => ⟨⟨hk.1.1.1.1,⟨hk.1.1.1.2,⟨hk.1.2,hk.2⟩⟩⟩,hk.1.1.2⟩)) hg hat)
                have n4_:=qk (Kd.R_after (ok:=(fun k_ => some k_ ≠ (.slice Ao37 y224.length co37 : Value).ownBlock ∧ some k_ ≠ (.slice Ao42 t233.length co42 : Value).ownBlock ∧ some k_ ≠ (.slice Ao52 t245.length co52 : Value).ownBlock ∧ some k_ ≠ (v252 : Value).ownBlock)) (by (with_reducible repeat (first|apply qd|apply qe|apply qf));exact qn HO241.out (fun _ hk => ⟨⟨hk.1.1.1.1,⟨hk.1.1.1.2,⟨hk.1.2,hk.2⟩⟩⟩,hk.1.1.2⟩)) hg hat)
                have n5_:=qk (Kd.R_after (ok:=(fun k_ => some k_ ≠ (.slice Ao37 y224.length co37 : Value).ownBlock ∧ some k_ ≠ (.slice Ao42 t233.length co42 : Value).ownBlock ∧ some k_ ≠ (.slice Ao45 t239.length co45 : Value).ownBlock ∧ some k_ ≠ (v252 : Value).ownBlock)) (by (with_reducible repeat (first|apply qd|apply qe|apply qf));exact qn HO247.out (fun _ hk => ⟨⟨hk.1.1.1.1.2,⟨hk.1.1.1.2,⟨hk.1.1.2,hk.2⟩⟩⟩,hk.1.2⟩)) hg hat)
                have n6_:=qk (Kd.R_after (ok:=(fun k_ => some k_ ≠ (.slice Ao37 y224.length co37 : Value).ownBlock ∧ some k_ ≠ (.slice Ao42 t233.length co42 : Value).ownBlock ∧ some k_ ≠ (.slice Ao45 t239.length co45 : Value).ownBlock ∧ some k_ ≠ (.slice Ao52 t245.length co52 : Value).ownBlock)) (by (with_reducible repeat (first|apply qd|apply qe|apply qf));exact qn HO253.out (fun _ hk => ⟨⟨hk.1.1.1.1.2,⟨hk.1.1.1.2,⟨hk.1.1.2,hk.2⟩⟩⟩,hk.1.2⟩)) hg hat)
                have n7_:=qk (hb)
                have n8_:=qk (ho)
                clear BK206
                clear BK223
                clear HO226
                clear HO235
                clear HO241
                clear HO247
                clear HO253
                clear HB
                clear HO244
                have BK206:=n0_
                have BK223:=n1_
                have HO226:=n2_
                have HO235:=n3_
                have HO241:=n4_
                have HO247:=n5_
                have HO253:=n6_
                have HB:=n7_
                have HO250:=n8_
                clear n0_ n1_ n2_ n3_ n4_ n5_ n6_ n7_ n8_
                clear ho hb hg hat
                refine hK.out _ _ ⟨(blk_cell BK223.out 0).trans rfl,(blk_cell BK223.out 1).trans rfl,(blk_cell BK223.out 2).trans rfl,(blk_cell BK223.out 3).trans rfl,(blk_cell BK223.out 4).trans rfl⟩ (fun hHeld => ?_)
                clear hK K
                refine norm_ (a':=?_) ?_ ?_
                rotate_left
                ·
                 show Act.put _ (some 59) _ = _
                 simp only [Act.put,sA,sB,sC,i64_w,i32_w]
                 rfl
                exact norm_ (by simp only [putAll,Act.put,sA,sB,sC]) (hCont (.slice Ao52 t245.length co52,v249,v252) _ ⟨hHeld,(by (with_reducible repeat (first|apply qd|apply qe|apply qf));exact qn HO226.out (fun _ hk => ⟨hk.1.1,⟨hk.1.2.1,⟨hk.1.2.2.1,⟨hk.2,hk.1.2.2.2⟩⟩⟩⟩)),(by (with_reducible repeat (first|apply qd|apply qe|apply qf));exact qn HO235.out (fun _ hk => ⟨hk.1.1,⟨hk.1.2.1,⟨hk.1.2.2.1,⟨hk.2,hk.1.2.2.2⟩⟩⟩⟩)),(by (with_reducible repeat (first|apply qd|apply qe|apply qf));exact qn HO241.out (fun _ hk => ⟨hk.1.1,⟨hk.1.2.1,⟨hk.1.2.2.1,⟨hk.2,hk.1.2.2.2⟩⟩⟩⟩)),(by (with_reducible repeat (first|apply qd|apply qe|apply qf));exact qn HO247.out (fun _ hk => ⟨hk.1.1,⟨hk.1.2.1,⟨hk.1.2.2.1,⟨hk.2,hk.1.2.2.2⟩⟩⟩⟩)),(by (with_reducible repeat (first|apply qd|apply qe|apply qf));exact HO250.out),(by (with_reducible repeat (first|apply qd|apply qe|apply qf));exact qn HO253.out (fun _ hk => ⟨hk.1.1,⟨hk.1.2.1,⟨hk.1.2.2.1,⟨hk.1.2.2.2,hk.2⟩⟩⟩⟩)),(by (with_reducible repeat (first|apply qa|apply qb|apply qc));exact BK206.out),(by (with_reducible repeat (first|apply qa|apply qb|apply qc));exact BK223.out),(by repeat (first|(with_reducible first|exact HB.out|apply qg|apply qh|apply qi|refine qj ?_ GE206.out|refine qj ?_ GE223.out)|exact HB.out))⟩)
              ·
               skip
               refine Kd.R_lit_step (Kd.int .u8) _ 5 ?hg (N:=64) ?hd (xs:=([((((rd_T70 l0_2 x4_1).f4).length : Int)) % 256] : List Int)) (inner:=[.int .u8 (((((rd_T70 l0_2 x4_1).f4).length : Int)) % 256)]) (ok:=fun _ => True) (okp:=fun _ => True) ?hr ?hp (fun _ hk => hk) trivial (Below.refl _ _) (Nat.le_refl _) (by simp) ?_;(case hd => rfl);(case hg => rfl);(case hr => first|(go_simp;done)|(go_simp;rfl));(case hp => exact (Reps.one (show Kd.M (Kd.int .u8) _ _ _ (((((rd_T70 l0_2 x4_1).f4).length : Int)) % 256) [.int .u8 (((((rd_T70 l0_2 x4_1).f4).length : Int)) % 256)] from rfl) (Reps.none _ _)))
               intro v252 w48 ho49 hb hg_ hnew_
               clear hg_ hnew_
               (first|rw [← Ny251.out] at ho49|(simp only [Int.reduceToNat] at ho49;rw [← Ny251.out] at ho49))
               have n0_:=qk (Kd.R_elder' (by (with_reducible repeat (first|apply qd|apply qe|apply qf));exact HO226.out) (Kd.R_base ho49) hb)
               have n1_:=qk (Kd.R_elder' (by (with_reducible repeat (first|apply qd|apply qe|apply qf));exact HO235.out) (Kd.R_base ho49) hb)
               have n2_:=qk (Kd.R_elder' (by (with_reducible repeat (first|apply qd|apply qe|apply qf));exact HO241.out) (Kd.R_base ho49) hb)
               have n3_:=qk (Kd.R_elder' (by (with_reducible repeat (first|apply qd|apply qe|apply qf));exact HO244.out) (Kd.R_base ho49) hb)
               have n4_:=qk (Kd.R_lower (Kd.R_new' (Kd.R_new' (Kd.R_new' (Kd.R_new' ho49 (Kd.R_lt (by (with_reducible repeat (first|apply qd|apply qe|apply qf));exact HO226.out))) (Kd.R_lt (by (with_reducible repeat (first|apply qd|apply qe|apply qf));exact HO235.out))) (Kd.R_lt (by (with_reducible repeat (first|apply qd|apply qe|apply qf));exact HO241.out))) (Kd.R_lt (by (with_reducible repeat (first|apply qd|apply qe|apply qf));exact HO244.out))) (qm (by repeat (first|(with_reducible first|exact HB.out|apply qg|apply qh|apply qi|refine qj ?_ GE206.out|refine qj ?_ GE223.out)|exact HB.out))))
               have n5_:=qk (ql (g:=gb206) (o:=.cells #[.int .i64 a0_0,.int .i64 a0_1,.slice (some ad222) l0_2.length c0_2,.slice A0_3 l0_3.length c0_3] 31 (0,0)) (by (with_reducible repeat (first|apply qa|apply qb|apply qc));exact BK206.out) hb)
               have n6_:=qk (ql (g:=gb223) (o:=.cells #[.string ((rd_T70 l0_2 x4_1).f0),.int .i64 ((rd_T70 l0_2 x4_1).f1),.int .i64 ((rd_T70 l0_2 x4_1).f2),.int .i64 ((rd_T70 l0_2 x4_1).f3),.slice A222_4 ((rd_T70 l0_2 x4_1).f4).length c222_4] 70 (0,0)) (by (with_reducible repeat (first|apply qa|apply qb|apply qc));exact BK223.out) hb)
               have n7_:=qk (sN (by repeat (first|(with_reducible first|exact HB.out|apply qg|apply qh|apply qi|refine qj ?_ GE206.out|refine qj ?_ GE223.out)|exact HB.out)) hb)
               clear HO226
               clear HO235
               clear HO241
               clear HO244
               clear BK206
               clear BK223
               clear HB
               have HO226:=n0_
               have HO235:=n1_
               have HO241:=n2_
               have HO244:=n3_
               have HO253:=n4_
               have BK206:=n5_
               have BK223:=n6_
               have HB:=n7_
               clear n0_ n1_ n2_ n3_ n4_ n5_ n6_ n7_
               clear hb ho49
               refine hK.out _ _ ⟨(blk_cell BK223.out 0).trans rfl,(blk_cell BK223.out 1).trans rfl,(blk_cell BK223.out 2).trans rfl,(blk_cell BK223.out 3).trans rfl,(blk_cell BK223.out 4).trans rfl⟩ (fun hHeld => ?_)
               clear hK K
               refine norm_ (a':=?_) ?_ ?_
               rotate_left
               ·
                show Act.put _ (some 64) _ = _
                simp only [Act.put,sA,sB,sC,i64_w,i32_w]
                rfl
               refine one_ (i:=3) (N:=some 58) #[true,true,true,true,false,true,true,true,true,true,false,false] rfl rfl (one_of HT_.out (by kernel_rfl)) (by decide) (fun K hK => ?_)
               refine goes_ Try.func79 (by kernel_rfl) rfl #[.int .i64 ((rd_T70 l0_2 x4_1).f3),.int .i64 4] (by rfl) rfl rfl (by (try simp only [sE,sH,sI]);first|done|rfl|(simp only [sG,sF];rfl)) ?_
               with_reducible refine (spec_l02Number.calls k1 ((rd_T70 l0_2 x4_1).f3) 4 t245 _ A25.out).mono ?_
               rintro e w50 ⟨v246,rfl,ho0,hb⟩
               refine ⟨_,rfl,?_⟩
               have n0_:=qk (Kd.R_elder' (by (with_reducible repeat (first|apply qd|apply qe|apply qf));exact HO226.out) (Kd.R_base ho0) hb)
               have n1_:=qk (Kd.R_elder' (by (with_reducible repeat (first|apply qd|apply qe|apply qf));exact HO235.out) (Kd.R_base ho0) hb)
               have n2_:=qk (Kd.R_elder' (by (with_reducible repeat (first|apply qd|apply qe|apply qf));exact HO241.out) (Kd.R_base ho0) hb)
               have n3_:=qk (Kd.R_elder' (by (with_reducible repeat (first|apply qd|apply qe|apply qf));exact HO244.out) (Kd.R_base ho0) hb)
               have n4_:=qk (Kd.R_elder' (by (with_reducible repeat (first|apply qd|apply qe|apply qf));exact HO253.out) (Kd.R_base ho0) hb)
               have n5_:=qk (Kd.R_lower (Kd.R_new' (Kd.R_new' (Kd.R_new' (Kd.R_new' (Kd.R_new' ho0 (Kd.R_lt (by (with_reducible repeat (first|apply qd|apply qe|apply qf));exact HO226.out))) (Kd.R_lt (by (with_reducible repeat (first|apply qd|apply qe|apply qf));exact HO235.out))) (Kd.R_lt (by (with_reducible repeat (first|apply qd|apply qe|apply qf));exact HO241.out))) (Kd.R_lt (by (with_reducible repeat (first|apply qd|apply qe|apply qf));exact HO244.out))) (Kd.R_lt (by (with_reducible repeat (first|apply qd|apply qe|apply qf));exact HO253.out))) (qm (by repeat (first|(with_reducible first|exact HB.out|apply qg|apply qh|apply qi|refine qj ?_ GE206.out|refine qj ?_ GE223.out)|exact HB.out))))
               have n6_:=qk (ql (g:=gb206) (o:=.cells #[.int .i64 a0_0,.int .i64 a0_1,.slice (some ad222) l0_2.length c0_2,.slice A0_3 l0_3.length c0_3] 31 (0,0)) (by (with_reducible repeat (first|apply qa|apply qb|apply qc));exact BK206.out) hb)
               have n7_:=qk (ql (g:=gb223) (o:=.cells #[.string ((rd_T70 l0_2 x4_1).f0),.int .i64 ((rd_T70 l0_2 x4_1).f1),.int .i64 ((rd_T70 l0_2 x4_1).f2),.int .i64 ((rd_T70 l0_2 x4_1).f3),.slice A222_4 ((rd_T70 l0_2 x4_1).f4).length c222_4] 70 (0,0)) (by (with_reducible repeat (first|apply qa|apply qb|apply qc));exact BK223.out) hb)
               have n8_:=qk (sN (by repeat (first|(with_reducible first|exact HB.out|apply qg|apply qh|apply qi|refine qj ?_ GE206.out|refine qj ?_ GE223.out)|exact HB.out)) hb)
               clear HO226
               clear HO235
               clear HO241
               clear HO244
               clear HO253
               clear BK206
               clear BK223
               clear HB
               have HO226:=n0_
               have HO235:=n1_
               have HO241:=n2_
               have HO244:=n3_
               have HO253:=n4_
               have HO247:=n5_
               have BK206:=n6_
               have BK223:=n7_
               have HB:=n8_
               clear n0_ n1_ n2_ n3_ n4_ n5_ n6_ n7_ n8_
               (try clear hb)
               (try clear hb2)
               (try clear hk)
               (try clear hi)
               (try clear ho0)
               obtain ⟨Ao52,co52,eo52⟩:=Kd.R_slice HO247.out
               (first|subst eo52|(injection eo52 with f1_ f2_ f3_;have f4_:=f1_.symm;have f5_:=f3_.symm;clear f1_ f2_ f3_;subst f4_;subst f5_))
               refine hK.out _ _ ⟨(blk_cell BK223.out 0).trans rfl,(blk_cell BK223.out 1).trans rfl,(blk_cell BK223.out 2).trans rfl,(blk_cell BK223.out 3).trans rfl,(blk_cell BK223.out 4).trans rfl⟩ (fun hHeld => ?_)
               clear hK K
               refine norm_ (a':=?_) ?_ ?_
               rotate_left
               ·
                show Act.put _ (some 58) _ = _
                simp only [Act.put,sA,sB,sC,i64_w,i32_w]
                rfl
               refine one_ (i:=4) (N:=some 59) #[true,true,true,true,true,true,true,true,true,true,false,false] rfl rfl (one_of HT_.out (by kernel_rfl)) (by decide) (fun K hK => ?_)
               refine Kd.R_append_rows_step (Kd.int .u8) (w0:=w) w.heap.size (by rfl) (.tmp 55) (.tmp 58) 38 5 (.int .u8 0) 1 rfl Try.underlying38 info5 rfl (by decide) (by omega) (.slice Ao46 y242.length co46) y242 t245 _ _ _ (fun k_ => some k_ ≠ (.slice Ao37 y224.length co37 : Value).ownBlock ∧ some k_ ≠ (.slice Ao42 t233.length co42 : Value).ownBlock ∧ some k_ ≠ (.slice Ao45 t239.length co45 : Value).ownBlock ∧ some k_ ≠ (v252 : Value).ownBlock ∧ some k_ ≠ (.slice Ao52 t245.length co52 : Value).ownBlock) (fun _ => False) rfl rfl ?aO ?aR (fun _ _ h => h) (fun _ h => h.elim) ?aF ?aB ?aS ?aL ?_
               (case aR => repeat (first|exact (Kd.R_reads' HO247.out).2.2|(with_reducible refine Kd.C_alloc ?_ _)|(with_reducible refine Kd.C_drewN ?_ _)|(with_reducible refine Kd.C_drew ?_)))
               (case aB => exact (by repeat (first|(with_reducible first|exact HB.out|apply qg|apply qh|apply qi|refine qj ?_ GE206.out|refine qj ?_ GE223.out)|exact HB.out)))
               (case aF => exact (fun k_ hk => ⟨Kd.fresh' (Kd.R_lt (by (with_reducible repeat (first|apply qd|apply qe|apply qf));exact HO226.out)) k_ hk,Kd.fresh' (Kd.R_lt (by (with_reducible repeat (first|apply qd|apply qe|apply qf));exact HO235.out)) k_ hk,Kd.fresh' (Kd.R_lt (by (with_reducible repeat (first|apply qd|apply qe|apply qf));exact HO241.out)) k_ hk,Kd.fresh' (Kd.R_lt (by (with_reducible repeat (first|apply qd|apply qe|apply qf));exact HO253.out)) k_ hk,Kd.fresh' (Kd.R_lt (by (with_reducible repeat (first|apply qd|apply qe|apply qf));exact HO247.out)) k_ hk⟩))
               (case aO => exact (by (with_reducible repeat (first|apply qd|apply qe|apply qf));exact qn HO244.out (fun _ hk => ⟨hk.1.1.1,⟨hk.1.1.2.1,⟨hk.1.1.2.2,⟨hk.1.2,hk.2⟩⟩⟩⟩)))
               (case aS => exact (qm (by repeat (first|(with_reducible first|exact HB.out|apply qg|apply qh|apply qi|refine qj ?_ GE206.out|refine qj ?_ GE223.out)|exact HB.out))))
               (case aL => have:=LMc26.out;omega)
               intro v249 w51 ho hb hg hat
               rw [← Ny248.out] at ho
               have n0_:=qk (blk_grown (g:=gb206) (o:=.cells #[.int .i64 a0_0,.int .i64 a0_1,.slice (some ad222) l0_2.length c0_2,.slice A0_3 l0_3.length c0_3] 31 (0,0)) (by (with_reducible repeat (first|apply qa|apply qb|apply qc));exact BK206.out) hg (Kd.R_ne HO244.out BK206.out (by decide)))
               have n1_:=qk (blk_grown (g:=gb223) (o:=.cells #[.string ((rd_T70 l0_2 x4_1).f0),.int .i64 ((rd_T70 l0_2 x4_1).f1),.int .i64 ((rd_T70 l0_2 x4_1).f2),.int .i64 ((rd_T70 l0_2 x4_1).f3),.slice A222_4 ((rd_T70 l0_2 x4_1).f4).length c222_4] 70 (0,0)) (by (with_reducible repeat (first|apply qa|apply qb|apply qc));exact BK223.out) hg (Kd.R_ne HO244.out BK223.out (by decide)))
               have n2_:=qk (Kd.R_after (ok:=(fun k_ => some k_ ≠ (.slice Ao42 t233.length co42 : Value).ownBlock ∧ some k_ ≠ (.slice Ao45 t239.length co45 : Value).ownBlock ∧ some k_ ≠ (v252 : Value).ownBlock ∧ some k_ ≠ (.slice Ao52 t245.length co52 : Value).ownBlock)) (by (with_reducible repeat (first|apply qd|apply qe|apply qf));exact qn HO226.out (fun _ hk => ⟨⟨hk.1.1.1.1,⟨hk.1.1.1.2,⟨hk.1.2,hk.2⟩⟩⟩,hk.1.1.2⟩)) hg hat)
               have n3_:=qk (Kd.R_after (ok:=(fun k_ => some k_ ≠ (.slice Ao37 y224.length co37 : Value).ownBlock ∧ some k_ ≠ (.slice Ao45 t239.length co45 : Value).ownBlock ∧ some k_ ≠ (v252 : Value).ownBlock ∧ some k_ ≠ (.slice Ao52 t245.length co52 : Value).ownBlock)) (by (with_reducible repeat (first|apply qd|apply qe|apply qf));exact qn HO235.out (fun _ hk => ⟨⟨hk.1.1.1.1,⟨hk.1.1.1.2,⟨hk.1.2,hk.2⟩⟩⟩,hk.1.1.2⟩)) hg hat)
               have n4_:=qk (Kd.R_after (ok:=(fun k_ => some k_ ≠ (.slice Ao37 y224.length co37 : Value).ownBlock ∧ some k_ ≠ (.slice Ao42 t233.length co42 : Value).ownBlock ∧ some k_ ≠ (v252 : Value).ownBlock ∧ some k_ ≠ (.slice Ao52 t245.length co52 : Value).ownBlock)) (by (with_reducible repeat (first|apply qd|apply qe|apply qf));exact qn HO241.out (fun _ hk => ⟨⟨hk.1.1.1.1,⟨hk.1.1.1.2,⟨hk.1.2,hk.2⟩⟩⟩,hk.1.1.2⟩)) hg hat)
               have n5_:=qk (Kd.R_after (ok:=(fun k_ => some k_ ≠ (.slice Ao37 y224.length co37 : Value).ownBlock ∧ some k_ ≠ (.slice Ao42 t233.length co42 : Value).ownBlock ∧ some k_ ≠ (.slice Ao45 t239.length co45 : Value).ownBlock ∧ some k_ ≠ (.slice Ao52 t245.length co52 : Value).ownBlock)) (by (with_reducible repeat (first|apply qd|apply qe|apply qf));exact qn HO253.out (fun _ hk => ⟨⟨hk.1.1.1.1.2,⟨hk.1.1.1.2,⟨hk.1.1.2,hk.2⟩⟩⟩,hk.1.2⟩)) hg hat)
               have n6_:=qk (Kd.R_after (ok:=(fun k_ => some k_ ≠ (.slice Ao37 y224.length co37 : Value).ownBlock ∧ some k_ ≠ (.slice Ao42 t233.length co42 : Value).ownBlock ∧ some k_ ≠ (.slice Ao45 t239.length co45 : Value).ownBlock ∧ some k_ ≠ (v252 : Value).ownBlock)) (by (with_reducible repeat (first|apply qd|apply qe|apply qf));exact qn HO247.out (fun _ hk => ⟨⟨hk.1.1.1.1.2,⟨hk.1.1.1.2,⟨hk.1.1.2,hk.2⟩⟩⟩,hk.1.2⟩)) hg hat)
               have n7_:=qk (hb)
               have n8_:=qk (ho)
               clear BK206
               clear BK223
               clear HO226
               clear HO235
               clear HO241
               clear HO253
               clear HO247
               clear HB
               clear HO244
               have BK206:=n0_
               have BK223:=n1_
               have HO226:=n2_
               have HO235:=n3_
               have HO241:=n4_
               have HO253:=n5_
               have HO247:=n6_
               have HB:=n7_
               have HO250:=n8_
               clear n0_ n1_ n2_ n3_ n4_ n5_ n6_ n7_ n8_
               clear ho hb hg hat
               refine hK.out _ _ ⟨(blk_cell BK223.out 0).trans rfl,(blk_cell BK223.out 1).trans rfl,(blk_cell BK223.out 2).trans rfl,(blk_cell BK223.out 3).trans rfl,(blk_cell BK223.out 4).trans rfl⟩ (fun hHeld => ?_)
               clear hK K
               refine norm_ (a':=?_) ?_ ?_
               rotate_left
               ·
                show Act.put _ (some 59) _ = _
                simp only [Act.put,sA,sB,sC,i64_w,i32_w]
                rfl
               exact norm_ (by simp only [putAll,Act.put,sA,sB,sC]) (hCont (.slice Ao52 t245.length co52,v249,v252) _ ⟨hHeld,(by (with_reducible repeat (first|apply qd|apply qe|apply qf));exact qn HO226.out (fun _ hk => ⟨hk.1.1,⟨hk.1.2.1,⟨hk.1.2.2.2,⟨hk.2,hk.1.2.2.1⟩⟩⟩⟩)),(by (with_reducible repeat (first|apply qd|apply qe|apply qf));exact qn HO235.out (fun _ hk => ⟨hk.1.1,⟨hk.1.2.1,⟨hk.1.2.2.2,⟨hk.2,hk.1.2.2.1⟩⟩⟩⟩)),(by (with_reducible repeat (first|apply qd|apply qe|apply qf));exact qn HO241.out (fun _ hk => ⟨hk.1.1,⟨hk.1.2.1,⟨hk.1.2.2.2,⟨hk.2,hk.1.2.2.1⟩⟩⟩⟩)),(by (with_reducible repeat (first|apply qd|apply qe|apply qf));exact qn HO247.out (fun _ hk => ⟨hk.1.1,⟨hk.1.2.1,⟨hk.1.2.2.1,⟨hk.2,hk.1.2.2.2⟩⟩⟩⟩)),(by (with_reducible repeat (first|apply qd|apply qe|apply qf));exact qn HO250.out (fun _ hk => ⟨hk.1,⟨hk.2.1,⟨hk.2.2.1,⟨hk.2.2.2.2,hk.2.2.2.1⟩⟩⟩⟩)),(by (with_reducible repeat (first|apply qd|apply qe|apply qf));exact qn HO253.out (fun _ hk => ⟨hk.1.1,⟨hk.1.2.1,⟨hk.1.2.2.1,⟨hk.1.2.2.2,hk.2⟩⟩⟩⟩)),(by (with_reducible repeat (first|apply qa|apply qb|apply qc));exact BK206.out),(by (with_reducible repeat (first|apply qa|apply qb|apply qc));exact BK223.out),(by repeat (first|(with_reducible first|exact HB.out|apply qg|apply qh|apply qi|refine qj ?_ GE206.out|refine qj ?_ GE223.out)|exact HB.out))⟩)
             rintro ⟨v246,v249,v252⟩ w53 ⟨hS_,h0_,h1_,h2_,h3_,h4_,h5_,h6_,h7_,h8_⟩
             have n0_ : Aside0 (Kd.R (Kd.int .u8) 5 w53 w.heap.size (fun k_ => some k_ ≠ (.slice Ao42 t233.length co42 : Value).ownBlock ∧ some k_ ≠ (.slice Ao45 t239.length co45 : Value).ownBlock ∧ some k_ ≠ (v246 : Value).ownBlock ∧ some k_ ≠ (v249 : Value).ownBlock ∧ some k_ ≠ (v252 : Value).ownBlock) (.slice Ao37 y224.length co37) y224):=⟨h0_⟩
             have n1_ : Aside0 (Kd.R (Kd.int .u8) 5 w53 w.heap.size (fun k_ => some k_ ≠ (.slice Ao37 y224.length co37 : Value).ownBlock ∧ some k_ ≠ (.slice Ao45 t239.length co45 : Value).ownBlock ∧ some k_ ≠ (v246 : Value).ownBlock ∧ some k_ ≠ (v249 : Value).ownBlock ∧ some k_ ≠ (v252 : Value).ownBlock) (.slice Ao42 t233.length co42) t233):=⟨h1_⟩
             have n2_ : Aside0 (Kd.R (Kd.int .u8) 5 w53 w.heap.size (fun k_ => some k_ ≠ (.slice Ao37 y224.length co37 : Value).ownBlock ∧ some k_ ≠ (.slice Ao42 t233.length co42 : Value).ownBlock ∧ some k_ ≠ (v246 : Value).ownBlock ∧ some k_ ≠ (v249 : Value).ownBlock ∧ some k_ ≠ (v252 : Value).ownBlock) (.slice Ao45 t239.length co45) t239):=⟨h2_⟩
             have n3_ : Aside0 (Kd.R (Kd.int .u8) 5 w53 w.heap.size (fun k_ => some k_ ≠ (.slice Ao37 y224.length co37 : Value).ownBlock ∧ some k_ ≠ (.slice Ao42 t233.length co42 : Value).ownBlock ∧ some k_ ≠ (.slice Ao45 t239.length co45 : Value).ownBlock ∧ some k_ ≠ (v249 : Value).ownBlock ∧ some k_ ≠ (v252 : Value).ownBlock) v246 t245):=⟨h3_⟩
             have n4_ : Aside0 (Kd.R (Kd.int .u8) 5 w53 w.heap.size (fun k_ => some k_ ≠ (.slice Ao37 y224.length co37 : Value).ownBlock ∧ some k_ ≠ (.slice Ao42 t233.length co42 : Value).ownBlock ∧ some k_ ≠ (.slice Ao45 t239.length co45 : Value).ownBlock ∧ some k_ ≠ (v246 : Value).ownBlock ∧ some k_ ≠ (v252 : Value).ownBlock) v249 y248):=⟨h4_⟩
             have n5_ : Aside0 (Kd.R (Kd.int .u8) 5 w53 w.heap.size (fun k_ => some k_ ≠ (.slice Ao37 y224.length co37 : Value).ownBlock ∧ some k_ ≠ (.slice Ao42 t233.length co42 : Value).ownBlock ∧ some k_ ≠ (.slice Ao45 t239.length co45 : Value).ownBlock ∧ some k_ ≠ (v246 : Value).ownBlock ∧ some k_ ≠ (v249 : Value).ownBlock) v252 y251):=⟨h5_⟩
             have n6_ : Aside0 (w53.heap[gb206]? = some (.cells #[.int .i64 a0_0,.int .i64 a0_1,.slice (some ad222) l0_2.length c0_2,.slice A0_3 l0_3.length c0_3] 31 (0,0))):=⟨h6_⟩
             have n7_ : Aside0 (w53.heap[gb223]? = some (.cells #[.string ((rd_T70 l0_2 x4_1).f0),.int .i64 ((rd_T70 l0_2 x4_1).f1),.int .i64 ((rd_T70 l0_2 x4_1).f2),.int .i64 ((rd_T70 l0_2 x4_1).f3),.slice A222_4 ((rd_T70 l0_2 x4_1).f4).length c222_4] 70 (0,0))):=⟨h7_⟩
             have n8_ : Aside0 (Below w.heap.size w w53):=⟨h8_⟩
             clear HO226
             clear HO235
             clear HO241
             clear HO244
             clear BK206
             clear BK223
             clear HB
             clear h0_ h1_ h2_ h3_ h4_ h5_ h6_ h7_ h8_
             have HO226:=n0_
             have HO235:=n1_
             have HO241:=n2_
             have HO247:=n3_
             have HO250:=n4_
             have HO253:=n5_
             have BK206:=n6_
             have BK223:=n7_
             have HB:=n8_
             clear n0_ n1_ n2_ n3_ n4_ n5_ n6_ n7_ n8_
             have hHeld : w53.cell? ⟨gb223,0,none⟩ = some (.string ((rd_T70 l0_2 x4_1).f0)) ∧ w53.cell? ⟨gb223,1,none⟩ = some (.int .i64 ((rd_T70 l0_2 x4_1).f1)) ∧ w53.cell? ⟨gb223,2,none⟩ = some (.int .i64 ((rd_T70 l0_2 x4_1).f2)) ∧ w53.cell? ⟨gb223,3,none⟩ = some (.int .i64 ((rd_T70 l0_2 x4_1).f3)) ∧ w53.cell? ⟨gb223,4,none⟩ = some (.slice A222_4 ((rd_T70 l0_2 x4_1).f4).length c222_4):=hS_
             obtain ⟨Ao55,co55,eo55⟩:=Kd.R_slice HO253.out
             (first|subst eo55|(injection eo55 with f1_ f2_ f3_;have f4_:=f1_.symm;have f5_:=f3_.symm;clear f1_ f2_ f3_;subst f4_;subst f5_))
             refine norm_ (a':=?_) ?_ ?_
             rotate_left
             ·
              simp only [putAll,Act.put,sA,sB,sC]
              rfl
             refine one_ (i:=10) (N:=some 65) #[true,true,true,true,true,true,true,true,true,true,true,false] rfl rfl (one_of HT_.out (by kernel_rfl)) (by decide) (fun K hK => ?_)
             refine Kd.R_append_rows_step (Kd.int .u8) (w0:=w) w.heap.size (by rfl) (.tmp 59) (.tmp 64) 38 5 (.int .u8 0) 1 rfl Try.underlying38 info5 rfl (by decide) (by omega) v249 y248 y251 _ _ _ (fun k_ => some k_ ≠ (.slice Ao37 y224.length co37 : Value).ownBlock ∧ some k_ ≠ (.slice Ao42 t233.length co42 : Value).ownBlock ∧ some k_ ≠ (.slice Ao45 t239.length co45 : Value).ownBlock ∧ some k_ ≠ (v246 : Value).ownBlock ∧ some k_ ≠ (.slice Ao55 y251.length co55 : Value).ownBlock) (fun _ => False) rfl rfl ?aO ?aR (fun _ _ h => h) (fun _ h => h.elim) ?aF ?aB ?aS ?aL ?_
             (case aR => repeat (first|exact (Kd.R_reads' HO253.out).2.2|(with_reducible refine Kd.C_alloc ?_ _)|(with_reducible refine Kd.C_drewN ?_ _)|(with_reducible refine Kd.C_drew ?_)))
             (case aB => exact (by repeat (first|(with_reducible first|exact HB.out|apply qg|apply qh|apply qi|refine qj ?_ GE206.out|refine qj ?_ GE223.out)|exact HB.out)))
             (case aF => exact (fun k_ hk => ⟨Kd.fresh' (Kd.R_lt (by (with_reducible repeat (first|apply qd|apply qe|apply qf));exact HO226.out)) k_ hk,Kd.fresh' (Kd.R_lt (by (with_reducible repeat (first|apply qd|apply qe|apply qf));exact HO235.out)) k_ hk,Kd.fresh' (Kd.R_lt (by (with_reducible repeat (first|apply qd|apply qe|apply qf));exact HO241.out)) k_ hk,Kd.fresh' (Kd.R_lt (by (with_reducible repeat (first|apply qd|apply qe|apply qf));exact HO247.out)) k_ hk,Kd.fresh' (Kd.R_lt (by (with_reducible repeat (first|apply qd|apply qe|apply qf));exact HO253.out)) k_ hk⟩))
             (case aO => exact (by (with_reducible repeat (first|apply qd|apply qe|apply qf));exact HO250.out))
             (case aS => exact (qm (by repeat (first|(with_reducible first|exact HB.out|apply qg|apply qh|apply qi|refine qj ?_ GE206.out|refine qj ?_ GE223.out)|exact HB.out))))
             (case aL => have:=LMc27.out;omega)
             intro v255 w54 ho hb hg hat
             rw [← Ny254.out] at ho
             have n0_:=qk (blk_grown (g:=gb206) (o:=.cells #[.int .i64 a0_0,.int .i64 a0_1,.slice (some ad222) l0_2.length c0_2,.slice A0_3 l0_3.length c0_3] 31 (0,0)) (by (with_reducible repeat (first|apply qa|apply qb|apply qc));exact BK206.out) hg (Kd.R_ne HO250.out BK206.out (by decide)))
             have n1_:=qk (blk_grown (g:=gb223) (o:=.cells #[.string ((rd_T70 l0_2 x4_1).f0),.int .i64 ((rd_T70 l0_2 x4_1).f1),.int .i64 ((rd_T70 l0_2 x4_1).f2),.int .i64 ((rd_T70 l0_2 x4_1).f3),.slice A222_4 ((rd_T70 l0_2 x4_1).f4).length c222_4] 70 (0,0)) (by (with_reducible repeat (first|apply qa|apply qb|apply qc));exact BK223.out) hg (Kd.R_ne HO250.out BK223.out (by decide)))
             have n2_:=qk (Kd.R_after (ok:=(fun k_ => some k_ ≠ (.slice Ao42 t233.length co42 : Value).ownBlock ∧ some k_ ≠ (.slice Ao45 t239.length co45 : Value).ownBlock ∧ some k_ ≠ (v246 : Value).ownBlock ∧ some k_ ≠ (.slice Ao55 y251.length co55 : Value).ownBlock)) (by (with_reducible repeat (first|apply qd|apply qe|apply qf));exact qn HO226.out (fun _ hk => ⟨⟨hk.1,⟨hk.2.1,⟨hk.2.2.1,hk.2.2.2.2⟩⟩⟩,hk.2.2.2.1⟩)) hg hat)
             have n3_:=qk (Kd.R_after (ok:=(fun k_ => some k_ ≠ (.slice Ao37 y224.length co37 : Value).ownBlock ∧ some k_ ≠ (.slice Ao45 t239.length co45 : Value).ownBlock ∧ some k_ ≠ (v246 : Value).ownBlock ∧ some k_ ≠ (.slice Ao55 y251.length co55 : Value).ownBlock)) (by (with_reducible repeat (first|apply qd|apply qe|apply qf));exact qn HO235.out (fun _ hk => ⟨⟨hk.1,⟨hk.2.1,⟨hk.2.2.1,hk.2.2.2.2⟩⟩⟩,hk.2.2.2.1⟩)) hg hat)
             have n4_:=qk (Kd.R_after (ok:=(fun k_ => some k_ ≠ (.slice Ao37 y224.length co37 : Value).ownBlock ∧ some k_ ≠ (.slice Ao42 t233.length co42 : Value).ownBlock ∧ some k_ ≠ (v246 : Value).ownBlock ∧ some k_ ≠ (.slice Ao55 y251.length co55 : Value).ownBlock)) (by (with_reducible repeat (first|apply qd|apply qe|apply qf));exact qn HO241.out (fun _ hk => ⟨⟨hk.1,⟨hk.2.1,⟨hk.2.2.1,hk.2.2.2.2⟩⟩⟩,hk.2.2.2.1⟩)) hg hat)
             have n5_:=qk (Kd.R_after (ok:=(fun k_ => some k_ ≠ (.slice Ao37 y224.length co37 : Value).ownBlock ∧ some k_ ≠ (.slice Ao42 t233.length co42 : Value).ownBlock ∧ some k_ ≠ (.slice Ao45 t239.length co45 : Value).ownBlock ∧ some k_ ≠ (.slice Ao55 y251.length co55 : Value).ownBlock)) (by (with_reducible repeat (first|apply qd|apply qe|apply qf));exact qn HO247.out (fun _ hk => ⟨⟨hk.1,⟨hk.2.1,⟨hk.2.2.1,hk.2.2.2.2⟩⟩⟩,hk.2.2.2.1⟩)) hg hat)
             have n6_:=qk (Kd.R_after (ok:=(fun k_ => some k_ ≠ (.slice Ao37 y224.length co37 : Value).ownBlock ∧ some k_ ≠ (.slice Ao42 t233.length co42 : Value).ownBlock ∧ some k_ ≠ (.slice Ao45 t239.length co45 : Value).ownBlock ∧ some k_ ≠ (v246 : Value).ownBlock)) (by (with_reducible repeat (first|apply qd|apply qe|apply qf));exact qn HO253.out (fun _ hk => ⟨⟨hk.1,⟨hk.2.1,⟨hk.2.2.1,hk.2.2.2.1⟩⟩⟩,hk.2.2.2.2⟩)) hg hat)
             have n7_:=qk (hb)
             have n8_:=qk (ho)
             clear BK206
             clear BK223
             clear HO226
             clear HO235
             clear HO241
             clear HO247
             clear HO253
             clear HB
             clear HO250
             have BK206:=n0_
             have BK223:=n1_
             have HO226:=n2_
             have HO235:=n3_
             have HO241:=n4_
             have HO247:=n5_
             have HO253:=n6_
             have HB:=n7_
             have HO256:=n8_
             clear n0_ n1_ n2_ n3_ n4_ n5_ n6_ n7_ n8_
             clear ho hb hg hat
             refine hK.out _ _ ⟨(blk_cell BK223.out 0).trans rfl,(blk_cell BK223.out 1).trans rfl,(blk_cell BK223.out 2).trans rfl,(blk_cell BK223.out 3).trans rfl,(blk_cell BK223.out 4).trans rfl⟩ (fun hHeld => ?_)
             clear hK K
             refine norm_ (a':=?_) ?_ ?_
             rotate_left
             ·
              show Act.put _ (some 65) _ = _
              simp only [Act.put,sA,sB,sC,i64_w,i32_w]
              rfl
             refine pure_ (i:=11) (N:=some 3) (v:=?_) (a':=?_) #[true,true,true,true,true,true,true,true,true,true,true,true] rfl rfl (any_of HT_.out (by kernel_rfl)) (fun _ _ _ h => h) (Or.inl ⟨by rfl,?_⟩) ?_ ?_
             rotate_left
             ·
              intro w'
              go_simp
              with_reducible rfl
             rotate_left
             ·
              simp only [Act.put,sA,sB,sC,i64_w,i32_w]
              rfl
             refine done_ (done_of HT_.out (by kernel_rfl)) ?_
             try go_wp2
             go_loopg [3,6] k1 (fun kq v3 v6 w' => ∃ (x3_2 : List Int) (x6_2 : Int),v6 = .int .i64 x6_2 ∧ Aside0 (spec_l05Bytes.l1 kq x3_2 x4_1 x6_2 a0_0 a0_1 l0_2 l0_3 ((rd_T70 l0_2 x4_1).f0) ((rd_T70 l0_2 x4_1).f1) ((rd_T70 l0_2 x4_1).f2) ((rd_T70 l0_2 x4_1).f3) ((rd_T70 l0_2 x4_1).f4) = some r) ∧ Aside0 (kq ≤ k1) ∧ Aside0 (Kd.R (Kd.int .u8) 5 w' w.heap.size (fun _ => True) v3 x3_2) ∧ Aside0 (w'.heap[gb206]? = some (.cells #[.int .i64 a0_0,.int .i64 a0_1,(.slice (some ad222) l0_2.length c0_2),(.slice A0_3 l0_3.length c0_3)] 31 (0,0))) ∧ Aside0 (w'.heap[gb223]? = some (.cells #[.string ((rd_T70 l0_2 x4_1).f0),.int .i64 ((rd_T70 l0_2 x4_1).f1),.int .i64 ((rd_T70 l0_2 x4_1).f2),.int .i64 ((rd_T70 l0_2 x4_1).f3),(.slice A222_4 ((rd_T70 l0_2 x4_1).f4).length c222_4)] 70 (0,0))) ∧ Aside0 (Below w.heap.size w w'))
             case atStart => exact ⟨(y254),(0),(by first|rfl|(simp;done)|(simp [*];done)),H',⟨Nat.le_refl _⟩,⟨by (with_reducible repeat (first|apply qd|apply qe|apply qf));exact qn HO256.out (fun _ hk => trivial)⟩,⟨by (with_reducible repeat (first|apply qa|apply qb|apply qc));exact BK206.out⟩,⟨by (with_reducible repeat (first|apply qa|apply qb|apply qc));exact BK223.out⟩,⟨by repeat (first|(with_reducible first|exact HB.out|apply qg|apply qh|apply qi|refine qj ?_ GE206.out|refine qj ?_ GE223.out)|exact HB.out)⟩⟩
             case round =>
              clear H'
              try clear c2
              try clear p2
              try clear c7
              try clear c22
              try clear c24
              try clear c26
              try clear c27
              obtain ⟨x3_2,x6_2,rfl,HA,HK2,HO_3,BK206,BK223,HB⟩:=hrel
              cases gk with
              | zero => exact absurd HA.out (by simp [spec_l05Bytes.l1])
              | succ k2 =>
               have H:=HA.out
               clear HA
               simp only [spec_l05Bytes.l1] at H
               by_cases c56 : x6_2 < (((rd_T70 l0_2 x4_1).f4).length : Int)
               ·
                rw [if_pos c56] at H
                have c56b0 : decide (x6_2 < (((rd_T70 l0_2 x4_1).f4).length : Int)) = true:=decide_eq_true c56
                clear c56
                by_cases c57 : 0 ≤ x6_2
                ·
                 rw [if_pos c57] at H
                 have c57b0 : decide (0 ≤ x6_2) = true:=decide_eq_true c57
                 clear c57
                 obtain ⟨y258,hy258⟩ : ∃ y_ : List Int,y_ = (([((rd_T73 ((rd_T70 l0_2 x4_1).f4) x6_2).f0) % 256] : List Int)):=⟨_,rfl⟩
                 replace H : (if x3_2.length + y258.length < 140737488355328 then ((some (x3_2 ++ y258 : List Int)).bind fun y261 => ((spec_l02Number.f k2 ((rd_T73 ((rd_T70 l0_2 x4_1).f4) x6_2).f1) 2).bind fun t265 => (if y261.length + t265.length < 140737488355328 then (spec_l05Bytes.l1 k2 (y261 ++ t265) x4_1 (wrap64 (x6_2 + 1)) a0_0 a0_1 l0_2 l0_3 ((rd_T70 l0_2 x4_1).f0) ((rd_T70 l0_2 x4_1).f1) ((rd_T70 l0_2 x4_1).f2) ((rd_T70 l0_2 x4_1).f3) ((rd_T70 l0_2 x4_1).f4)) else (none)))) else (none)) = some r:=by first|(rw [hy258];with_reducible exact H)|(have H2_:=(Option.bind_some _ _).symm.trans H;rw [hy258];with_reducible exact H2_)|(have H2_:=(Option.bind_some _ _).symm.trans H;with_reducible exact H2_)|with_reducible exact H|(rw [hy258];exact H)|exact H
                 have Ny258:=qk hy258
                 clear hy258
                 by_cases c58 : x3_2.length + y258.length < 140737488355328
                 ·
                  rw [if_pos c58] at H
                  have LMc58:=qk c58
                  clear c58
                  obtain ⟨y261,hy261⟩ : ∃ y_ : List Int,y_ = (x3_2 ++ y258):=⟨_,rfl⟩
                  replace H : ((spec_l02Number.f k2 ((rd_T73 ((rd_T70 l0_2 x4_1).f4) x6_2).f1) 2).bind fun t265 => (if y261.length + t265.length < 140737488355328 then (spec_l05Bytes.l1 k2 (y261 ++ t265) x4_1 (wrap64 (x6_2 + 1)) a0_0 a0_1 l0_2 l0_3 ((rd_T70 l0_2 x4_1).f0) ((rd_T70 l0_2 x4_1).f1) ((rd_T70 l0_2 x4_1).f2) ((rd_T70 l0_2 x4_1).f3) ((rd_T70 l0_2 x4_1).f4)) else (none))) = some r:=by first|(rw [hy261];with_reducible exact H)|(have H2_:=(Option.bind_some _ _).symm.trans H;rw [hy261];with_reducible exact H2_)|(have H2_:=(Option.bind_some _ _).symm.trans H;with_reducible exact H2_)|with_reducible exact H|(rw [hy261];exact H)|exact H
                  have Ny261:=qk hy261
                  clear hy261
                  replace H:=Option.bind_eq_some_iff.mp H
                  obtain ⟨t265,A590,H⟩:=H
                  replace H : (if y261.length + t265.length < 140737488355328 then (spec_l05Bytes.l1 k2 (y261 ++ t265) x4_1 (wrap64 (x6_2 + 1)) a0_0 a0_1 l0_2 l0_3 ((rd_T70 l0_2 x4_1).f0) ((rd_T70 l0_2 x4_1).f1) ((rd_T70 l0_2 x4_1).f2) ((rd_T70 l0_2 x4_1).f3) ((rd_T70 l0_2 x4_1).f4)) else (none)) = some r:=H
                  have A59:=qk A590
                  clear A590
                  by_cases c60 : y261.length + t265.length < 140737488355328
                  ·
                   rw [if_pos c60] at H
                   have LMc60:=qk c60
                   clear c60
                   obtain ⟨y268,hy268⟩ : ∃ y_ : List Int,y_ = (y261 ++ t265):=⟨_,rfl⟩
                   replace H : (spec_l05Bytes.l1 k2 y268 x4_1 (wrap64 (x6_2 + 1)) a0_0 a0_1 l0_2 l0_3 ((rd_T70 l0_2 x4_1).f0) ((rd_T70 l0_2 x4_1).f1) ((rd_T70 l0_2 x4_1).f2) ((rd_T70 l0_2 x4_1).f3) ((rd_T70 l0_2 x4_1).f4)) = some r:=by first|(rw [hy268];with_reducible exact H)|(have H2_:=(Option.bind_some _ _).symm.trans H;rw [hy268];with_reducible exact H2_)|(have H2_:=(Option.bind_some _ _).symm.trans H;with_reducible exact H2_)|with_reducible exact H|(rw [hy268];exact H)|exact H
                   have Ny268:=qk hy268
                   clear hy268
                   have H':=qk H
                   clear H
                   have hnb61:=NB223_206.out
                   have hnc61:=NB206_223.out
                   have hcz62_0 : wr.cell? ⟨gb223,0,none⟩ = some (.string ((rd_T70 l0_2 x4_1).f0)):=(blk_cell BK223.out 0).trans rfl
                   have hcz62_1 : wr.cell? ⟨gb223,1,none⟩ = some (.int .i64 ((rd_T70 l0_2 x4_1).f1)):=(blk_cell BK223.out 1).trans rfl
                   have hcz62_2 : wr.cell? ⟨gb223,2,none⟩ = some (.int .i64 ((rd_T70 l0_2 x4_1).f2)):=(blk_cell BK223.out 2).trans rfl
                   have hcz62_3 : wr.cell? ⟨gb223,3,none⟩ = some (.int .i64 ((rd_T70 l0_2 x4_1).f3)):=(blk_cell BK223.out 3).trans rfl
                   have hcz62_4 : wr.cell? ⟨gb223,4,none⟩ = some (.slice A222_4 ((rd_T70 l0_2 x4_1).f4).length c222_4):=(blk_cell BK223.out 4).trans rfl
                   have hfz62_0:=sJ BK223.out 0
                   have hfz62_1:=sJ BK223.out 1
                   have hfz62_2:=sJ BK223.out 2
                   have hfz62_3:=sJ BK223.out 3
                   have hfz62_4:=sJ BK223.out 4
                   try go_wp2
                   have n0_:=qk (qf HO_3.out)
                   have n1_:=qk (qb BK206.out)
                   have n2_:=qk (qb BK223.out)
                   have n3_:=qk (qi HB.out)
                   clear HO_3
                   clear BK206
                   clear BK223
                   clear HB
                   have HO_3:=n0_
                   have BK206:=n1_
                   have BK223:=n2_
                   have HB:=n3_
                   clear n0_ n1_ n2_ n3_
                   have p257 : 0 ≤ (x6_2 : Int):=sM (by first|(with_reducible assumption)|assumption)
                   have q257 : x6_2 < (((rd_T70 l0_2 x4_1).f4).length : Int):=sM (by first|(with_reducible assumption)|assumption)
                   obtain ⟨ad257,e257,hx257_0,hx257_1⟩:=at_T73 HR222_4.out x6_2 p257 q257
                   have hw257_1:=hx257_1
                   have hw257_0:=hx257_0
                   cases e257
                   replace hx257_0:=(HB.out.cell (sD w _ hx257_0)).trans hx257_0
                   replace hx257_1:=(HB.out.cell (sD w _ hx257_1)).trans hx257_1
                   replace p257:=eq_true p257
                   replace q257:=eq_true q257
                   have p264 : 0 ≤ (x6_2 : Int):=sM (by first|(with_reducible assumption)|assumption)
                   have q264 : x6_2 < (((rd_T70 l0_2 x4_1).f4).length : Int):=sM (by first|(with_reducible assumption)|assumption)
                   obtain ⟨ad264,e264,hx264_0,hx264_1⟩:=at_T73 HR222_4.out x6_2 p264 q264
                   have hw264_1:=hx264_1
                   have hw264_0:=hx264_0
                   obtain rfl : ad257 = ad264:=(by injection e264)
                   replace hx264_0:=(HB.out.cell (sD w _ hx264_0)).trans hx264_0
                   replace hx264_1:=(HB.out.cell (sD w _ hx264_1)).trans hx264_1
                   replace p264:=eq_true p264
                   replace q264:=eq_true q264
                   refine start_ (n:=19) (S:=fun w' => w'.cell? ⟨gb223,0,none⟩ = some (.string ((rd_T70 l0_2 x4_1).f0)) ∧ w'.cell? ⟨gb223,1,none⟩ = some (.int .i64 ((rd_T70 l0_2 x4_1).f1)) ∧ w'.cell? ⟨gb223,2,none⟩ = some (.int .i64 ((rd_T70 l0_2 x4_1).f2)) ∧ w'.cell? ⟨gb223,3,none⟩ = some (.int .i64 ((rd_T70 l0_2 x4_1).f3)) ∧ w'.cell? ⟨gb223,4,none⟩ = some (.slice (some ad257) ((rd_T70 l0_2 x4_1).f4).length c222_4) ∧ w'.cell? (ad257.add ((x6_2).toNat * 2)) = some (.int .i64 ((rd_T73 ((rd_T70 l0_2 x4_1).f4) x6_2).f0)) ∧ w'.cell? ⟨(ad257.add ((x6_2).toNat * 2)).block,(ad257.add ((x6_2).toNat * 2)).off + 1,none⟩ = some (.int .i64 ((rd_T73 ((rd_T70 l0_2 x4_1).f4) x6_2).f1)) ∧ w'.cell? (ad257.add ((x6_2).toNat * 2)) = some (.int .i64 ((rd_T73 ((rd_T70 l0_2 x4_1).f4) x6_2).f0)) ∧ w'.cell? ⟨(ad257.add ((x6_2).toNat * 2)).block,(ad257.add ((x6_2).toNat * 2)).off + 1,none⟩ = some (.int .i64 ((rd_T73 ((rd_T70 l0_2 x4_1).f4) x6_2).f1))) (ds:=[]) #[false,false,false,false,false,false,false,false,false,false,false,false,false,false,false,false,false,false,false] (by kernel_rfl) rfl rfl ⟨(blk_cell BK223.out 0).trans rfl,(blk_cell BK223.out 1).trans rfl,(blk_cell BK223.out 2).trans rfl,(blk_cell BK223.out 3).trans rfl,(blk_cell BK223.out 4).trans rfl,((HB.out.cell (sD w _ hw257_0)).trans hw257_0),((HB.out.cell (sD w _ hw257_1)).trans hw257_1),((HB.out.cell (sD w _ hw264_0)).trans hw264_0),((HB.out.cell (sD w _ hw264_1)).trans hw264_1)⟩ (fun hHeld => ?_);refine with_tabW spec_l05Bytes.tab13 spec_l05Bytes.bits13 (fun HT_ HW_ => ?_)
                   generalize wr.drew = w63 at HO_3 BK206 BK223 HB hx257_0 hx257_1 hx264_0 hx264_1 hHeld ⊢
                   refine pure_ (i:=0) (N:=some 73) (v:=?_) (a':=?_) #[true,false,false,false,false,false,false,false,false,false,false,false,false,false,false,false,false,false,false] rfl rfl (any_of HT_.out (by kernel_rfl)) (fun _ _ _ h => h) (Or.inl ⟨by rfl,?_⟩) ?_ ?_
                   rotate_left
                   ·
                    intro w'
                    go_simp
                    with_reducible rfl
                   rotate_left
                   ·
                    simp only [Act.put,sA,sB,sC,i64_w,i32_w]
                    rfl
                   refine pure_ (i:=1) (N:=some 74) (v:=?_) (a':=?_) #[true,true,false,false,false,false,false,false,false,false,false,false,false,false,false,false,false,false,false] rfl rfl (any_of HT_.out (by kernel_rfl)) (fun _ _ _ h => h) (Or.inl ⟨by rfl,?_⟩) ?_ ?_
                   rotate_left
                   ·
                    intro w'
                    go_simp
                    with_reducible rfl
                   rotate_left
                   ·
                    simp only [Act.put,sA,sB,sC,i64_w,i32_w]
                    rfl
                   refine pure_ (i:=3) (N:=some 76) (v:=?_) (a':=?_) #[true,true,false,true,false,false,false,false,false,false,false,false,false,false,false,false,false,false,false] rfl rfl (any_of HT_.out (by kernel_rfl)) (fun _ _ _ h => h) (Or.inl ⟨by rfl,?_⟩) ?_ ?_
                   rotate_left
                   ·
                    intro w'
                    go_simp
                    with_reducible rfl
                   rotate_left
                   ·
                    simp only [Act.put,sA,sB,sC,i64_w,i32_w]
                    rfl
                   refine pure_ (i:=10) (N:=some 83) (v:=?_) (a':=?_) #[true,true,false,true,false,false,false,false,false,false,true,false,false,false,false,false,false,false,false] rfl rfl (any_of HT_.out (by kernel_rfl)) (fun _ _ _ h => h) (Or.inl ⟨by rfl,?_⟩) ?_ ?_
                   rotate_left
                   ·
                    intro w'
                    go_simp
                    with_reducible rfl
                   rotate_left
                   ·
                    simp only [Act.put,sA,sB,sC,i64_w,i32_w]
                    rfl
                   refine pure_ (i:=12) (N:=some 85) (v:=?_) (a':=?_) #[true,true,false,true,false,false,false,false,false,false,true,false,true,false,false,false,false,false,false] rfl rfl (any_of HT_.out (by kernel_rfl)) (fun _ _ _ h => h) (Or.inl ⟨by rfl,?_⟩) ?_ ?_
                   rotate_left
                   ·
                    intro w'
                    go_simp
                    with_reducible rfl
                   rotate_left
                   ·
                    simp only [Act.put,sA,sB,sC,i64_w,i32_w]
                    rfl
                   refine take_ (i:=2) (N:=some 75) (v:=?_) (a':=?_) #[true,true,true,true,false,false,false,false,false,false,true,false,true,false,false,false,false,false,false] rfl rfl (take_ofW HT_.out HW_.out (by kernel_rfl)) (fun _ _ _ h => h) (Or.inl ⟨by rfl,?_⟩) hHeld ?_ ?_
                   rotate_left
                   ·
                    rintro w' ⟨s0,s1,s2,s3,s4,s5,s6,s7,s8⟩
                    go_simp
                    with_reducible rfl
                   rotate_left
                   ·
                    simp only [Act.put,sA,sB,sC,i64_w,i32_w]
                    rfl
                   refine pure_ (i:=4) (N:=some 77) (v:=?_) (a':=?_) #[true,true,true,true,true,false,false,false,false,false,true,false,true,false,false,false,false,false,false] rfl rfl (any_of HT_.out (by kernel_rfl)) (fun _ _ _ h => h) (Or.inl ⟨by rfl,?_⟩) ?_ ?_
                   rotate_left
                   ·
                    intro w'
                    go_simp
                    with_reducible rfl
                   rotate_left
                   ·
                    simp only [Act.put,sA,sB,sC,i64_w,i32_w]
                    rfl
                   refine pure_ (i:=5) (N:=some 78) (v:=?_) (a':=?_) #[true,true,true,true,true,true,false,false,false,false,true,false,true,false,false,false,false,false,false] rfl rfl (any_of HT_.out (by kernel_rfl)) (fun _ _ _ h => h) (Or.inl ⟨by rfl,?_⟩) ?_ ?_
                   rotate_left
                   ·
                    intro w'
                    go_simp
                    with_reducible rfl
                   rotate_left
                   ·
                    simp only [Act.put,sA,sB,sC,i64_w,i32_w]
                    rfl
                   refine take_ (i:=6) (N:=some 79) (v:=?_) (a':=?_) #[true,true,true,true,true,true,true,false,false,false,true,false,true,false,false,false,false,false,false] rfl rfl (take_ofW HT_.out HW_.out (by kernel_rfl)) (fun _ _ _ h => h) (Or.inl ⟨by rfl,?_⟩) hHeld ?_ ?_
                   rotate_left
                   ·
                    rintro w' ⟨s0,s1,s2,s3,s4,s5,s6,s7,s8⟩
                    go_simp
                    with_reducible rfl
                   rotate_left
                   ·
                    simp only [Act.put,sA,sB,sC,i64_w,i32_w]
                    rfl
                   refine pure_ (i:=7) (N:=some 80) (v:=?_) (a':=?_) #[true,true,true,true,true,true,true,true,false,false,true,false,true,false,false,false,false,false,false] rfl rfl (any_of HT_.out (by kernel_rfl)) (fun _ _ _ h => h) (Or.inl ⟨by rfl,?_⟩) ?_ ?_
                   rotate_left
                   ·
                    intro w'
                    go_simp
                    with_reducible rfl
                   rotate_left
                   ·
                    simp only [Act.put,sA,sB,sC,i64_w,i32_w]
                    rfl
                   refine take_ (i:=11) (N:=some 84) (v:=?_) (a':=?_) #[true,true,true,true,true,true,true,true,false,false,true,true,true,false,false,false,false,false,false] rfl rfl (take_ofW HT_.out HW_.out (by kernel_rfl)) (fun _ _ _ h => h) (Or.inl ⟨by rfl,?_⟩) hHeld ?_ ?_
                   rotate_left
                   ·
                    rintro w' ⟨s0,s1,s2,s3,s4,s5,s6,s7,s8⟩
                    go_simp
                    with_reducible rfl
                   rotate_left
                   ·
                    simp only [Act.put,sA,sB,sC,i64_w,i32_w]
                    rfl
                   refine pure_ (i:=13) (N:=some 86) (v:=?_) (a':=?_) #[true,true,true,true,true,true,true,true,false,false,true,true,true,true,false,false,false,false,false] rfl rfl (any_of HT_.out (by kernel_rfl)) (fun _ _ _ h => h) (Or.inl ⟨by rfl,?_⟩) ?_ ?_
                   rotate_left
                   ·
                    intro w'
                    go_simp
                    with_reducible rfl
                   rotate_left
                   ·
                    simp only [Act.put,sA,sB,sC,i64_w,i32_w]
                    rfl
                   refine pure_ (i:=14) (N:=some 87) (v:=?_) (a':=?_) #[true,true,true,true,true,true,true,true,false,false,true,true,true,true,true,false,false,false,false] rfl rfl (any_of HT_.out (by kernel_rfl)) (fun _ _ _ h => h) (Or.inl ⟨by rfl,?_⟩) ?_ ?_
                   rotate_left
                   ·
                    intro w'
                    go_simp
                    with_reducible rfl
                   rotate_left
                   ·
                    simp only [Act.put,sA,sB,sC,i64_w,i32_w]
                    rfl
                   refine take_ (i:=15) (N:=some 88) (v:=?_) (a':=?_) #[true,true,true,true,true,true,true,true,false,false,true,true,true,true,true,true,false,false,false] rfl rfl (take_ofW HT_.out HW_.out (by kernel_rfl)) (fun _ _ _ h => h) (Or.inl ⟨by rfl,?_⟩) hHeld ?_ ?_
                   rotate_left
                   ·
                    rintro w' ⟨s0,s1,s2,s3,s4,s5,s6,s7,s8⟩
                    go_simp
                    with_reducible rfl
                   rotate_left
                   ·
                    simp only [Act.put,sA,sB,sC,i64_w,i32_w]
                    rfl
                   refine one_ (i:=8) (N:=some 81) #[true,true,true,true,true,true,true,true,true,false,true,true,true,true,true,true,false,false,false] rfl rfl (one_of HT_.out (by kernel_rfl)) (by decide) (fun K hK => ?_)
                   refine Kd.R_lit_step (Kd.int .u8) _ 5 ?hg (N:=81) ?hd (xs:=([((rd_T73 ((rd_T70 l0_2 x4_1).f4) x6_2).f0) % 256] : List Int)) (inner:=[.int .u8 (((rd_T73 ((rd_T70 l0_2 x4_1).f4) x6_2).f0) % 256)]) (ok:=fun _ => True) (okp:=fun _ => True) ?hr ?hp (fun _ hk => hk) trivial (Below.refl _ _) (Nat.le_refl _) (by simp) ?_;(case hd => rfl);(case hg => rfl);(case hr => first|(go_simp;done)|(go_simp;rfl));(case hp => exact (Reps.one (show Kd.M (Kd.int .u8) _ _ _ (((rd_T73 ((rd_T70 l0_2 x4_1).f4) x6_2).f0) % 256) [.int .u8 (((rd_T73 ((rd_T70 l0_2 x4_1).f4) x6_2).f0) % 256)] from rfl) (Reps.none _ _)))
                   intro v259 w64 ho65 hb hg_ hnew_
                   clear hg_ hnew_
                   (first|rw [← Ny258.out] at ho65|(simp only [Int.reduceToNat] at ho65;rw [← Ny258.out] at ho65))
                   have n0_:=qk (Kd.R_elder' (by (with_reducible repeat (first|apply qd|apply qe|apply qf));exact HO_3.out) (Kd.R_base ho65) hb)
                   have n1_:=qk (Kd.R_lower (Kd.R_new' ho65 (Kd.R_lt (by (with_reducible repeat (first|apply qd|apply qe|apply qf));exact HO_3.out))) (qm (by repeat (first|(with_reducible first|exact HB.out|apply qg|apply qh|apply qi|refine qj ?_ GE206.out|refine qj ?_ GE223.out)|exact HB.out))))
                   have n2_:=qk (ql (g:=gb206) (o:=.cells #[.int .i64 a0_0,.int .i64 a0_1,.slice (some ad222) l0_2.length c0_2,.slice A0_3 l0_3.length c0_3] 31 (0,0)) (by (with_reducible repeat (first|apply qa|apply qb|apply qc));exact BK206.out) hb)
                   have n3_:=qk (ql (g:=gb223) (o:=.cells #[.string ((rd_T70 l0_2 x4_1).f0),.int .i64 ((rd_T70 l0_2 x4_1).f1),.int .i64 ((rd_T70 l0_2 x4_1).f2),.int .i64 ((rd_T70 l0_2 x4_1).f3),.slice (some ad257) ((rd_T70 l0_2 x4_1).f4).length c222_4] 70 (0,0)) (by (with_reducible repeat (first|apply qa|apply qb|apply qc));exact BK223.out) hb)
                   have n4_:=qk (sN (by repeat (first|(with_reducible first|exact HB.out|apply qg|apply qh|apply qi|refine qj ?_ GE206.out|refine qj ?_ GE223.out)|exact HB.out)) hb)
                   clear HO_3
                   clear BK206
                   clear BK223
                   clear HB
                   have HO_3:=n0_
                   have HO260:=n1_
                   have BK206:=n2_
                   have BK223:=n3_
                   have HB:=n4_
                   clear n0_ n1_ n2_ n3_ n4_
                   clear hb ho65
                   obtain ⟨Ao67,co67,eo67⟩:=Kd.R_slice HO260.out
                   (first|subst eo67|(injection eo67 with f1_ f2_ f3_;have f4_:=f1_.symm;have f5_:=f3_.symm;clear f1_ f2_ f3_;subst f4_;subst f5_))
                   refine hK.out _ _ ⟨(blk_cell BK223.out 0).trans rfl,(blk_cell BK223.out 1).trans rfl,(blk_cell BK223.out 2).trans rfl,(blk_cell BK223.out 3).trans rfl,(blk_cell BK223.out 4).trans rfl,((HB.out.cell (sD w _ hw257_0)).trans hw257_0),((HB.out.cell (sD w _ hw257_1)).trans hw257_1),((HB.out.cell (sD w _ hw264_0)).trans hw264_0),((HB.out.cell (sD w _ hw264_1)).trans hw264_1)⟩ (fun hHeld => ?_)
                   clear hK K
                   refine norm_ (a':=?_) ?_ ?_
                   rotate_left
                   ·
                    show Act.put _ (some 81) _ = _
                    simp only [Act.put,sA,sB,sC,i64_w,i32_w]
                    rfl
                   refine one_ (i:=9) (N:=some 82) #[true,true,true,true,true,true,true,true,true,true,true,true,true,true,true,true,false,false,false] rfl rfl (one_of HT_.out (by kernel_rfl)) (by decide) (fun K hK => ?_)
                   refine Kd.R_append_rows_step (Kd.int .u8) (w0:=w) w.heap.size (by rfl) (.tmp 73) (.tmp 81) 38 5 (.int .u8 0) 1 rfl Try.underlying38 info5 rfl (by decide) (by omega) u3 x3_2 y258 _ _ _ (fun k_ => some k_ ≠ (.slice Ao67 y258.length co67 : Value).ownBlock) (fun _ => False) rfl rfl ?aO ?aR (fun _ _ h => h) (fun _ h => h.elim) ?aF ?aB ?aS ?aL ?_
                   (case aR => repeat (first|exact (Kd.R_reads' HO260.out).2.2|(with_reducible refine Kd.C_alloc ?_ _)|(with_reducible refine Kd.C_drewN ?_ _)|(with_reducible refine Kd.C_drew ?_)))
                   (case aB => exact (by repeat (first|(with_reducible first|exact HB.out|apply qg|apply qh|apply qi|refine qj ?_ GE206.out|refine qj ?_ GE223.out)|exact HB.out)))
                   (case aF => exact (fun k_ hk => Kd.fresh' (Kd.R_lt (by (with_reducible repeat (first|apply qd|apply qe|apply qf));exact HO260.out)) k_ hk))
                   (case aO => exact (by (with_reducible repeat (first|apply qd|apply qe|apply qf));exact qn HO_3.out (fun _ hk => hk.2)))
                   (case aS => exact (qm (by repeat (first|(with_reducible first|exact HB.out|apply qg|apply qh|apply qi|refine qj ?_ GE206.out|refine qj ?_ GE223.out)|exact HB.out))))
                   (case aL => have:=LMc58.out;omega)
                   intro v262 w66 ho hb hg hat
                   rw [← Ny261.out] at ho
                   have n0_:=qk (blk_grown (g:=gb206) (o:=.cells #[.int .i64 a0_0,.int .i64 a0_1,.slice (some ad222) l0_2.length c0_2,.slice A0_3 l0_3.length c0_3] 31 (0,0)) (by (with_reducible repeat (first|apply qa|apply qb|apply qc));exact BK206.out) hg (Kd.R_ne HO_3.out BK206.out (by decide)))
                   have n1_:=qk (blk_grown (g:=gb223) (o:=.cells #[.string ((rd_T70 l0_2 x4_1).f0),.int .i64 ((rd_T70 l0_2 x4_1).f1),.int .i64 ((rd_T70 l0_2 x4_1).f2),.int .i64 ((rd_T70 l0_2 x4_1).f3),.slice (some ad257) ((rd_T70 l0_2 x4_1).f4).length c222_4] 70 (0,0)) (by (with_reducible repeat (first|apply qa|apply qb|apply qc));exact BK223.out) hg (Kd.R_ne HO_3.out BK223.out (by decide)))
                   have n2_:=qk (Kd.R_after (ok:=(fun _ => True)) (by (with_reducible repeat (first|apply qd|apply qe|apply qf));exact HO260.out) hg hat)
                   have n3_:=qk (hb)
                   have n4_:=qk (ho)
                   clear BK206
                   clear BK223
                   clear HO260
                   clear HB
                   clear HO_3
                   have BK206:=n0_
                   have BK223:=n1_
                   have HO260:=n2_
                   have HB:=n3_
                   have HO263:=n4_
                   clear n0_ n1_ n2_ n3_ n4_
                   clear ho hb hg hat
                   refine hK.out _ _ ⟨(blk_cell BK223.out 0).trans rfl,(blk_cell BK223.out 1).trans rfl,(blk_cell BK223.out 2).trans rfl,(blk_cell BK223.out 3).trans rfl,(blk_cell BK223.out 4).trans rfl,((HB.out.cell (sD w _ hw257_0)).trans hw257_0),((HB.out.cell (sD w _ hw257_1)).trans hw257_1),((HB.out.cell (sD w _ hw264_0)).trans hw264_0),((HB.out.cell (sD w _ hw264_1)).trans hw264_1)⟩ (fun hHeld => ?_)
                   clear hK K
                   refine norm_ (a':=?_) ?_ ?_
                   rotate_left
                   ·
                    show Act.put _ (some 82) _ = _
                    simp only [Act.put,sA,sB,sC,i64_w,i32_w]
                    rfl
                   refine one_ (i:=16) (N:=some 89) #[true,true,true,true,true,true,true,true,true,true,true,true,true,true,true,true,true,false,false] rfl rfl (one_of HT_.out (by kernel_rfl)) (by decide) (fun K hK => ?_)
                   refine goes_ Try.func79 (by kernel_rfl) rfl #[.int .i64 ((rd_T73 ((rd_T70 l0_2 x4_1).f4) x6_2).f1),.int .i64 2] (by rfl) rfl rfl (by (try simp only [sE,sH,sI]);first|done|rfl|(simp only [sG,sF];rfl)) ?_
                   with_reducible refine (spec_l02Number.calls k2 ((rd_T73 ((rd_T70 l0_2 x4_1).f4) x6_2).f1) 2 t265 _ A59.out).mono ?_
                   rintro e w68 ⟨v266,rfl,ho0,hb⟩
                   refine ⟨_,rfl,?_⟩
                   have n0_:=qk (Kd.R_elder' (by (with_reducible repeat (first|apply qd|apply qe|apply qf));exact HO260.out) (Kd.R_base ho0) hb)
                   have n1_:=qk (Kd.R_elder' (by (with_reducible repeat (first|apply qd|apply qe|apply qf));exact HO263.out) (Kd.R_base ho0) hb)
                   have n2_:=qk (Kd.R_lower (Kd.R_new' (Kd.R_new' ho0 (Kd.R_lt (by (with_reducible repeat (first|apply qd|apply qe|apply qf));exact HO260.out))) (Kd.R_lt (by (with_reducible repeat (first|apply qd|apply qe|apply qf));exact HO263.out))) (qm (by repeat (first|(with_reducible first|exact HB.out|apply qg|apply qh|apply qi|refine qj ?_ GE206.out|refine qj ?_ GE223.out)|exact HB.out))))
                   have n3_:=qk (ql (g:=gb206) (o:=.cells #[.int .i64 a0_0,.int .i64 a0_1,.slice (some ad222) l0_2.length c0_2,.slice A0_3 l0_3.length c0_3] 31 (0,0)) (by (with_reducible repeat (first|apply qa|apply qb|apply qc));exact BK206.out) hb)
                   have n4_:=qk (ql (g:=gb223) (o:=.cells #[.string ((rd_T70 l0_2 x4_1).f0),.int .i64 ((rd_T70 l0_2 x4_1).f1),.int .i64 ((rd_T70 l0_2 x4_1).f2),.int .i64 ((rd_T70 l0_2 x4_1).f3),.slice (some ad257) ((rd_T70 l0_2 x4_1).f4).length c222_4] 70 (0,0)) (by (with_reducible repeat (first|apply qa|apply qb|apply qc));exact BK223.out) hb)
                   have n5_:=qk (sN (by repeat (first|(with_reducible first|exact HB.out|apply qg|apply qh|apply qi|refine qj ?_ GE206.out|refine qj ?_ GE223.out)|exact HB.out)) hb)
                   clear HO260
                   clear HO263
                   clear BK206
                   clear BK223
                   clear HB
                   have HO260:=n0_
                   have HO263:=n1_
                   have HO267:=n2_
                   have BK206:=n3_
                   have BK223:=n4_
                   have HB:=n5_
                   clear n0_ n1_ n2_ n3_ n4_ n5_
                   (try clear hb)
                   (try clear hb2)
                   (try clear hk)
                   (try clear hi)
                   (try clear ho0)
                   obtain ⟨Ao70,co70,eo70⟩:=Kd.R_slice HO267.out
                   (first|subst eo70|(injection eo70 with f1_ f2_ f3_;have f4_:=f1_.symm;have f5_:=f3_.symm;clear f1_ f2_ f3_;subst f4_;subst f5_))
                   refine hK.out _ _ ⟨(blk_cell BK223.out 0).trans rfl,(blk_cell BK223.out 1).trans rfl,(blk_cell BK223.out 2).trans rfl,(blk_cell BK223.out 3).trans rfl,(blk_cell BK223.out 4).trans rfl,((HB.out.cell (sD w _ hw257_0)).trans hw257_0),((HB.out.cell (sD w _ hw257_1)).trans hw257_1),((HB.out.cell (sD w _ hw264_0)).trans hw264_0),((HB.out.cell (sD w _ hw264_1)).trans hw264_1)⟩ (fun hHeld => ?_)
                   clear hK K
                   refine norm_ (a':=?_) ?_ ?_
                   rotate_left
                   ·
                    show Act.put _ (some 89) _ = _
                    simp only [Act.put,sA,sB,sC,i64_w,i32_w]
                    rfl
                   refine one_ (i:=17) (N:=some 90) #[true,true,true,true,true,true,true,true,true,true,true,true,true,true,true,true,true,true,false] rfl rfl (one_of HT_.out (by kernel_rfl)) (by decide) (fun K hK => ?_)
                   refine Kd.R_append_rows_step (Kd.int .u8) (w0:=w) w.heap.size (by rfl) (.tmp 82) (.tmp 89) 38 5 (.int .u8 0) 1 rfl Try.underlying38 info5 rfl (by decide) (by omega) v262 y261 t265 _ _ _ (fun k_ => some k_ ≠ (.slice Ao67 y258.length co67 : Value).ownBlock ∧ some k_ ≠ (.slice Ao70 t265.length co70 : Value).ownBlock) (fun _ => False) rfl rfl ?aO ?aR (fun _ _ h => h) (fun _ h => h.elim) ?aF ?aB ?aS ?aL ?_
                   (case aR => repeat (first|exact (Kd.R_reads' HO267.out).2.2|(with_reducible refine Kd.C_alloc ?_ _)|(with_reducible refine Kd.C_drewN ?_ _)|(with_reducible refine Kd.C_drew ?_)))
                   (case aB => exact (by repeat (first|(with_reducible first|exact HB.out|apply qg|apply qh|apply qi|refine qj ?_ GE206.out|refine qj ?_ GE223.out)|exact HB.out)))
                   (case aF => exact (fun k_ hk => ⟨Kd.fresh' (Kd.R_lt (by (with_reducible repeat (first|apply qd|apply qe|apply qf));exact HO260.out)) k_ hk,Kd.fresh' (Kd.R_lt (by (with_reducible repeat (first|apply qd|apply qe|apply qf));exact HO267.out)) k_ hk⟩))
                   (case aO => exact (by (with_reducible repeat (first|apply qd|apply qe|apply qf));exact HO263.out))
                   (case aS => exact (qm (by repeat (first|(with_reducible first|exact HB.out|apply qg|apply qh|apply qi|refine qj ?_ GE206.out|refine qj ?_ GE223.out)|exact HB.out))))
                   (case aL => have:=LMc60.out;omega)
                   intro v269 w69 ho hb hg hat
                   rw [← Ny268.out] at ho
                   have n0_:=qk (blk_grown (g:=gb206) (o:=.cells #[.int .i64 a0_0,.int .i64 a0_1,.slice (some ad222) l0_2.length c0_2,.slice A0_3 l0_3.length c0_3] 31 (0,0)) (by (with_reducible repeat (first|apply qa|apply qb|apply qc));exact BK206.out) hg (Kd.R_ne HO263.out BK206.out (by decide)))
                   have n1_:=qk (blk_grown (g:=gb223) (o:=.cells #[.string ((rd_T70 l0_2 x4_1).f0),.int .i64 ((rd_T70 l0_2 x4_1).f1),.int .i64 ((rd_T70 l0_2 x4_1).f2),.int .i64 ((rd_T70 l0_2 x4_1).f3),.slice (some ad257) ((rd_T70 l0_2 x4_1).f4).length c222_4] 70 (0,0)) (by (with_reducible repeat (first|apply qa|apply qb|apply qc));exact BK223.out) hg (Kd.R_ne HO263.out BK223.out (by decide)))
                   have n2_:=qk (Kd.R_after (ok:=(fun k_ => some k_ ≠ (.slice Ao70 t265.length co70 : Value).ownBlock)) (by (with_reducible repeat (first|apply qd|apply qe|apply qf));exact qn HO260.out (fun _ hk => ⟨hk.2,hk.1.2⟩)) hg hat)
                   have n3_:=qk (Kd.R_after (ok:=(fun k_ => some k_ ≠ (.slice Ao67 y258.length co67 : Value).ownBlock)) (by (with_reducible repeat (first|apply qd|apply qe|apply qf));exact qn HO267.out (fun _ hk => ⟨hk.1.2,hk.2⟩)) hg hat)
                   have n4_:=qk (hb)
                   have n5_:=qk (ho)
                   clear BK206
                   clear BK223
                   clear HO260
                   clear HO267
                   clear HB
                   clear HO263
                   have BK206:=n0_
                   have BK223:=n1_
                   have HO260:=n2_
                   have HO267:=n3_
                   have HB:=n4_
                   have HO270:=n5_
                   clear n0_ n1_ n2_ n3_ n4_ n5_
                   clear ho hb hg hat
                   refine hK.out _ _ ⟨(blk_cell BK223.out 0).trans rfl,(blk_cell BK223.out 1).trans rfl,(blk_cell BK223.out 2).trans rfl,(blk_cell BK223.out 3).trans rfl,(blk_cell BK223.out 4).trans rfl,((HB.out.cell (sD w _ hw257_0)).trans hw257_0),((HB.out.cell (sD w _ hw257_1)).trans hw257_1),((HB.out.cell (sD w _ hw264_0)).trans hw264_0),((HB.out.cell (sD w _ hw264_1)).trans hw264_1)⟩ (fun hHeld => ?_)
                   clear hK K
                   refine norm_ (a':=?_) ?_ ?_
                   rotate_left
                   ·
                    show Act.put _ (some 90) _ = _
                    simp only [Act.put,sA,sB,sC,i64_w,i32_w]
                    rfl
                   refine pure_ (i:=18) (N:=some 3) (v:=?_) (a':=?_) #[true,true,true,true,true,true,true,true,true,true,true,true,true,true,true,true,true,true,true] rfl rfl (any_of HT_.out (by kernel_rfl)) (fun _ _ _ h => h) (Or.inl ⟨by rfl,?_⟩) ?_ ?_
                   rotate_left
                   ·
                    intro w'
                    go_simp
                    with_reducible rfl
                   rotate_left
                   ·
                    simp only [Act.put,sA,sB,sC,i64_w,i32_w]
                    rfl
                   refine done_ (done_of HT_.out (by kernel_rfl)) ?_
                   try go_wp2
                   go_roundg k2
                   case measure => have:=HK1.out;have:=HK2.out;omega
                   case rel => exact ⟨(y268),(wrap64 (x6_2 + 1)),(by first|rfl|(simp;done)|(simp [*];done)),H',⟨by have:=HK1.out;have:=HK2.out;omega⟩,⟨by (with_reducible repeat (first|apply qd|apply qe|apply qf));exact qn HO270.out (fun _ hk => trivial)⟩,⟨by (with_reducible repeat (first|apply qa|apply qb|apply qc));exact BK206.out⟩,⟨by (with_reducible repeat (first|apply qa|apply qb|apply qc));exact BK223.out⟩,⟨by repeat (first|(with_reducible first|exact HB.out|apply qg|apply qh|apply qi|refine qj ?_ GE206.out|refine qj ?_ GE223.out)|exact HB.out)⟩⟩
                  ·
                   rw [if_neg c60] at H
                   exact absurd H (by simp)
                 ·
                  rw [if_neg c58] at H
                  exact absurd H (by simp)
                ·
                 rw [if_neg c57] at H
                 exact absurd H (by simp)
               ·
                rw [if_neg c56] at H
                have c56b0 : decide (x6_2 < (((rd_T70 l0_2 x4_1).f4).length : Int)) = false:=decide_eq_false c56
                clear c56
                have H':=qk H
                clear H
                have hnb71:=NB223_206.out
                have hnc71:=NB206_223.out
                have hcz72_0 : wr.cell? ⟨gb223,0,none⟩ = some (.string ((rd_T70 l0_2 x4_1).f0)):=(blk_cell BK223.out 0).trans rfl
                have hcz72_1 : wr.cell? ⟨gb223,1,none⟩ = some (.int .i64 ((rd_T70 l0_2 x4_1).f1)):=(blk_cell BK223.out 1).trans rfl
                have hcz72_2 : wr.cell? ⟨gb223,2,none⟩ = some (.int .i64 ((rd_T70 l0_2 x4_1).f2)):=(blk_cell BK223.out 2).trans rfl
                have hcz72_3 : wr.cell? ⟨gb223,3,none⟩ = some (.int .i64 ((rd_T70 l0_2 x4_1).f3)):=(blk_cell BK223.out 3).trans rfl
                have hcz72_4 : wr.cell? ⟨gb223,4,none⟩ = some (.slice A222_4 ((rd_T70 l0_2 x4_1).f4).length c222_4):=(blk_cell BK223.out 4).trans rfl
                have hfz72_0:=sJ BK223.out 0
                have hfz72_1:=sJ BK223.out 1
                have hfz72_2:=sJ BK223.out 2
                have hfz72_3:=sJ BK223.out 3
                have hfz72_4:=sJ BK223.out 4
                go_wp2
                go_roundg k2
                case measure => have:=HK1.out;have:=HK2.out;omega
                case rel => exact ⟨(x3_2),(wrap64 (x4_1 + 1)),(by first|rfl|(simp;done)|(simp [*];done)),H',⟨by have:=HK1.out;have:=HK2.out;omega⟩,⟨by (with_reducible repeat (first|apply qd|apply qe|apply qf));exact HO_3.out⟩,⟨by (with_reducible repeat (first|apply qa|apply qb|apply qc));exact BK206.out⟩,⟨by repeat (first|(with_reducible first|exact HB.out|apply qg|apply qh|apply qi|refine qj ?_ GE206.out|refine qj ?_ GE223.out)|exact HB.out)⟩⟩
            ·
             rw [if_neg c27] at H
             exact absurd H (by simp)
           ·
            rw [if_neg c26] at H
            exact absurd H (by simp)
          ·
           rw [if_neg c24] at H
           exact absurd H (by simp)
         ·
          rw [if_neg c22] at H
          exact absurd H (by simp)
        ·
         rw [if_neg c20] at H
         exact absurd H (by simp)
       ·
        rw [if_neg c19] at H
        exact absurd H (by simp)
      ·
       rw [if_neg c18] at H
       exact absurd H (by simp)
     ·
      rw [if_neg c17] at H
      have c17b0 : decide (x4_1 < (l0_2.length : Int)) = false:=decide_eq_false c17
      clear c17
      obtain ⟨y271,hy271⟩ : ∃ y_ : List Int,y_ = (([((l0_3.length : Int)) % 256] : List Int)):=⟨_,rfl⟩
      replace H : (if x3_1.length + y271.length < 140737488355328 then (spec_l05Bytes.l2 k1 (x3_1 ++ y271) 0 a0_0 a0_1 l0_2 l0_3) else (none)) = some r:=by first|(rw [hy271];with_reducible exact H)|(have H2_:=(Option.bind_some _ _).symm.trans H;rw [hy271];with_reducible exact H2_)|(have H2_:=(Option.bind_some _ _).symm.trans H;with_reducible exact H2_)|with_reducible exact H|(rw [hy271];exact H)|exact H
      have Ny271:=qk hy271
      clear hy271
      by_cases c73 : x3_1.length + y271.length < 140737488355328
      ·
       rw [if_pos c73] at H
       have LMc73:=qk c73
       clear c73
       obtain ⟨y274,hy274⟩ : ∃ y_ : List Int,y_ = (x3_1 ++ y271):=⟨_,rfl⟩
       replace H : (spec_l05Bytes.l2 k1 y274 0 a0_0 a0_1 l0_2 l0_3) = some r:=by first|(rw [hy274];with_reducible exact H)|(have H2_:=(Option.bind_some _ _).symm.trans H;rw [hy274];with_reducible exact H2_)|(have H2_:=(Option.bind_some _ _).symm.trans H;with_reducible exact H2_)|with_reducible exact H|(rw [hy274];exact H)|exact H
       have Ny274:=qk hy274
       clear hy274
       have H':=qk H
       clear H
       have hcz74_0 : wr.cell? ⟨gb206,0,none⟩ = some (.int .i64 a0_0):=(blk_cell BK206.out 0).trans rfl
       have hcz74_1 : wr.cell? ⟨gb206,1,none⟩ = some (.int .i64 a0_1):=(blk_cell BK206.out 1).trans rfl
       have hcz74_2 : wr.cell? ⟨gb206,2,none⟩ = some (.slice A0_2 l0_2.length c0_2):=(blk_cell BK206.out 2).trans rfl
       have hcz74_3 : wr.cell? ⟨gb206,3,none⟩ = some (.slice A0_3 l0_3.length c0_3):=(blk_cell BK206.out 3).trans rfl
       have hfz74_0:=sJ BK206.out 0
       have hfz74_1:=sJ BK206.out 1
       have hfz74_2:=sJ BK206.out 2
       have hfz74_3:=sJ BK206.out 3
       go_wp2_with (first|((with_reducible refine gate_dst (N:=96) rfl ?_);refine Kd.R_lit (Kd.int .u8) _ 5 ?hg (N:=96) ?hd (xs:=([((l0_3.length : Int)) % 256] : List Int)) (inner:=[.int .u8 (((l0_3.length : Int)) % 256)]) (ok:=fun _ => True) (okp:=fun _ => True) ?hr ?hp (fun _ hk => hk) trivial (Below.refl _ _) (Nat.le_refl _) (by simp) ?_;(case hd => rfl);(case hg => rfl);(case hr => first|(go_simp;done)|(go_simp;rfl));(case hp => exact (Reps.one (show Kd.M (Kd.int .u8) _ _ _ (((l0_3.length : Int)) % 256) [.int .u8 (((l0_3.length : Int)) % 256)] from rfl) (Reps.none _ _)));intro v272 w75 ho76 hb hg_ hnew_;clear hg_ hnew_;(first|rw [← Ny271.out] at ho76|(simp only [Int.reduceToNat] at ho76;rw [← Ny271.out] at ho76));have n0_:=qk (Kd.R_elder' (by (with_reducible repeat (first|apply qd|apply qe|apply qf));exact HO_3.out) (Kd.R_base ho76) hb);have n1_:=qk (Kd.R_lower (Kd.R_new' ho76 (Kd.R_lt (by (with_reducible repeat (first|apply qd|apply qe|apply qf));exact HO_3.out))) (qm (by repeat (first|(with_reducible first|exact HB.out|apply qg|apply qh|apply qi|refine qj ?_ GE206.out)|exact HB.out))));have n2_:=qk (ql (g:=gb206) (o:=.cells #[.int .i64 a0_0,.int .i64 a0_1,.slice A0_2 l0_2.length c0_2,.slice A0_3 l0_3.length c0_3] 31 (0,0)) (by (with_reducible repeat (first|apply qa|apply qb|apply qc));exact BK206.out) hb);have n3_:=qk (sN (by repeat (first|(with_reducible first|exact HB.out|apply qg|apply qh|apply qi|refine qj ?_ GE206.out)|exact HB.out)) hb);clear HO_3;clear BK206;clear HB;have HO_3:=n0_;have HO273:=n1_;have BK206:=n2_;have HB:=n3_;clear n0_ n1_ n2_ n3_;clear hb ho76;obtain ⟨Ao78,co78,eo78⟩:=Kd.R_slice HO273.out;subst eo78)|((with_reducible refine gate_builtin (b:=.append) (xs:=#[.tmp 91,.tmp 96]) rfl ?_);at_builtin;refine Kd.R_append_rows (Kd.int .u8) (w0:=w) w.heap.size rfl (.tmp 91) (.tmp 96) 38 5 (.int .u8 0) 1 rfl Try.underlying38 info5 rfl (by decide) (by omega) u3 x3_1 y271 _ _ _ (fun k_ => some k_ ≠ (.slice Ao78 y271.length co78 : Value).ownBlock) (fun _ => False) rfl rfl ?aO ?aR (fun _ _ h => h) (fun _ h => h.elim) ?aF ?aB ?aS ?aL ?_;(case aR => repeat (first|exact (Kd.R_reads' HO273.out).2.2|(with_reducible refine Kd.C_alloc ?_ _)|(with_reducible refine Kd.C_drewN ?_ _)|(with_reducible refine Kd.C_drew ?_)));(case aB => exact (by repeat (first|(with_reducible first|exact HB.out|apply qg|apply qh|apply qi|refine qj ?_ GE206.out)|exact HB.out)));(case aF => exact (fun k_ hk => Kd.fresh' (Kd.R_lt (by (with_reducible repeat (first|apply qd|apply qe|apply qf));exact HO273.out)) k_ hk));(case aO => exact (by (with_reducible repeat (first|apply qd|apply qe|apply qf));exact qn HO_3.out (fun _ hk => hk.2)));(case aS => exact (qm (by repeat (first|(with_reducible first|exact HB.out|apply qg|apply qh|apply qi|refine qj ?_ GE206.out)|exact HB.out))));(case aL => have:=LMc73.out;omega);intro v275 w77 ho hb hg hat;rw [← Ny274.out] at ho;have n0_:=qk (blk_grown (g:=gb206) (o:=.cells #[.int .i64 a0_0,.int .i64 a0_1,.slice A0_2 l0_2.length c0_2,.slice A0_3 l0_3.length c0_3] 31 (0,0)) (by (with_reducible repeat (first|apply qa|apply qb|apply qc));exact BK206.out) hg (Kd.R_ne HO_3.out BK206.out (by decide)));have n1_:=qk (Kd.R_after (ok:=(fun _ => True)) (by (with_reducible repeat (first|apply qd|apply qe|apply qf));exact HO273.out) hg hat);have n2_:=qk (hb);have n3_:=qk (ho);clear BK206;clear HO273;clear HB;clear HO_3;have BK206:=n0_;have HO273:=n1_;have HB:=n2_;have HO276:=n3_;clear n0_ n1_ n2_ n3_;clear ho hb hg hat))
       go_loopg [3,7] k1 (fun kq v3 v7 w' => ∃ (x3_2 : List Int) (x7_2 : Int),v7 = .int .i64 x7_2 ∧ Aside0 (spec_l05Bytes.l2 kq x3_2 x7_2 a0_0 a0_1 l0_2 l0_3 = some r) ∧ Aside0 (kq ≤ k1) ∧ Aside0 (Kd.R (Kd.int .u8) 5 w' w.heap.size (fun _ => True) v3 x3_2) ∧ Aside0 (w'.heap[gb206]? = some (.cells #[.int .i64 a0_0,.int .i64 a0_1,(.slice A0_2 l0_2.length c0_2),(.slice A0_3 l0_3.length c0_3)] 31 (0,0))) ∧ Aside0 (Below w.heap.size w w'))
       case atStart => exact ⟨(y274),(0),(by first|rfl|(simp;done)|(simp [*];done)),H',⟨Nat.le_refl _⟩,⟨by (with_reducible repeat (first|apply qd|apply qe|apply qf));exact qn HO276.out (fun _ hk => trivial)⟩,⟨by (with_reducible repeat (first|apply qa|apply qb|apply qc));exact BK206.out⟩,⟨by repeat (first|(with_reducible first|exact HB.out|apply qg|apply qh|apply qi|refine qj ?_ GE206.out)|exact HB.out)⟩⟩
       case round =>
        clear H'
        try clear c1
        try clear c2
        try clear p2
        try clear q2
        try clear hx2
        try clear c5
        try clear c6
        try clear p6
        try clear c7
        try clear c17
        try clear c17b0
        try clear c18
        try clear c19
        try clear c20
        try clear c22
        try clear c24
        try clear p25
        try clear q25
        try clear hx25
        try clear c26
        try clear p26
        try clear q26
        try clear hx26
        try clear c27
        try clear c56
        try clear c56b0
        try clear c57
        try clear c57b0
        try clear c58
        try clear c60
        try clear c61
        try clear p64
        try clear c71
        try clear c73
        try clear hcz62_0
        try clear hcz62_1
        try clear hcz62_2
        try clear hcz62_3
        try clear hcz62_4
        try clear hcz72_0
        try clear hcz72_1
        try clear hcz72_2
        try clear hcz72_3
        try clear hcz72_4
        try clear hcz74_0
        try clear hcz74_1
        try clear hcz74_2
        try clear hcz74_3
        try clear hfz62_0
        try clear hfz62_1
        try clear hfz62_2
        try clear hfz62_3
        try clear hfz62_4
        try clear hfz72_0
        try clear hfz72_1
        try clear hfz72_2
        try clear hfz72_3
        try clear hfz72_4
        try clear hfz74_0
        try clear hfz74_1
        try clear hfz74_2
        try clear hfz74_3
        try clear hx257_0
        try clear hx257_1
        try clear hx264_0
        try clear hx264_1
        try clear p2
        try clear p257
        try clear p264
        try clear q257
        try clear q264
        obtain ⟨x3_2,x7_2,rfl,HA,HK2,HO_3,BK206,HB⟩:=hrel
        cases gk with
        | zero => exact absurd HA.out (by simp [spec_l05Bytes.l2])
        | succ k2 =>
         have H:=HA.out
         clear HA
         simp only [spec_l05Bytes.l2] at H
         by_cases c79 : x7_2 < (l0_3.length : Int)
         ·
          rw [if_pos c79] at H
          have c79b0 : decide (x7_2 < (l0_3.length : Int)) = true:=decide_eq_true c79
          clear c79
          by_cases c80 : 0 ≤ x7_2
          ·
           rw [if_pos c80] at H
           have c80b0 : decide (0 ≤ x7_2) = true:=decide_eq_true c80
           clear c80
           obtain ⟨y279,hy279⟩ : ∃ y_ : List Int,y_ = (([((rd_T77 l0_3 x7_2).f0) % 256] : List Int)):=⟨_,rfl⟩
           replace H : (if x3_2.length + y279.length < 140737488355328 then ((some (x3_2 ++ y279 : List Int)).bind fun y282 => ((spec_l02Number.f k2 ((rd_T77 l0_3 x7_2).f1) 2).bind fun t285 => (if y282.length + t285.length < 140737488355328 then ((some (y282 ++ t285 : List Int)).bind fun y288 => ((some (([((rd_T77 l0_3 x7_2).f2.f0) % 256] : List Int) : List Int)).bind fun y291 => (if y288.length + y291.length < 140737488355328 then ((some (y288 ++ y291 : List Int)).bind fun y294 => ((spec_l02Number.f k2 ((rd_T77 l0_3 x7_2).f2.f1) 3).bind fun t297 => (if y294.length + t297.length < 140737488355328 then ((some (y294 ++ t297 : List Int)).bind fun y300 => ((spec_l02Number.f k2 (wrap64 (((rd_T77 l0_3 x7_2).f2.f2) + 1)) 2).bind fun t303 => (if y300.length + t303.length < 140737488355328 then ((some (y300 ++ t303 : List Int)).bind fun y306 => ((spec_l02Number.f k2 ((rd_T77 l0_3 x7_2).f2.f3) 4).bind fun t309 => (if y306.length + t309.length < 140737488355328 then (spec_l05Bytes.l2 k2 (y306 ++ t309) (wrap64 (x7_2 + 1)) a0_0 a0_1 l0_2 l0_3) else (none)))) else (none)))) else (none)))) else (none)))) else (none)))) else (none)) = some r:=by first|(rw [hy279];with_reducible exact H)|(have H2_:=(Option.bind_some _ _).symm.trans H;rw [hy279];with_reducible exact H2_)|(have H2_:=(Option.bind_some _ _).symm.trans H;with_reducible exact H2_)|with_reducible exact H|(rw [hy279];exact H)|exact H
           have Ny279:=qk hy279
           clear hy279
           by_cases c81 : x3_2.length + y279.length < 140737488355328
           ·
            rw [if_pos c81] at H
            have LMc81:=qk c81
            clear c81
            obtain ⟨y282,hy282⟩ : ∃ y_ : List Int,y_ = (x3_2 ++ y279):=⟨_,rfl⟩
            replace H : ((spec_l02Number.f k2 ((rd_T77 l0_3 x7_2).f1) 2).bind fun t285 => (if y282.length + t285.length < 140737488355328 then ((some (y282 ++ t285 : List Int)).bind fun y288 => ((some (([((rd_T77 l0_3 x7_2).f2.f0) % 256] : List Int) : List Int)).bind fun y291 => (if y288.length + y291.length < 140737488355328 then ((some (y288 ++ y291 : List Int)).bind fun y294 => ((spec_l02Number.f k2 ((rd_T77 l0_3 x7_2).f2.f1) 3).bind fun t297 => (if y294.length + t297.length < 140737488355328 then ((some (y294 ++ t297 : List Int)).bind fun y300 => ((spec_l02Number.f k2 (wrap64 (((rd_T77 l0_3 x7_2).f2.f2) + 1)) 2).bind fun t303 => (if y300.length + t303.length < 140737488355328 then ((some (y300 ++ t303 : List Int)).bind fun y306 => ((spec_l02Number.f k2 ((rd_T77 l0_3 x7_2).f2.f3) 4).bind fun t309 => (if y306.length + t309.length < 140737488355328 then (spec_l05Bytes.l2 k2 (y306 ++ t309) (wrap64 (x7_2 + 1)) a0_0 a0_1 l0_2 l0_3) else (none)))) else (none)))) else (none)))) else (none)))) else (none))) = some r:=by first|(rw [hy282];with_reducible exact H)|(have H2_:=(Option.bind_some _ _).symm.trans H;rw [hy282];with_reducible exact H2_)|(have H2_:=(Option.bind_some _ _).symm.trans H;with_reducible exact H2_)|with_reducible exact H|(rw [hy282];exact H)|exact H
            have Ny282:=qk hy282
            clear hy282
            replace H:=Option.bind_eq_some_iff.mp H
            obtain ⟨t285,A820,H⟩:=H
            replace H : (if y282.length + t285.length < 140737488355328 then ((some (y282 ++ t285 : List Int)).bind fun y288 => ((some (([((rd_T77 l0_3 x7_2).f2.f0) % 256] : List Int) : List Int)).bind fun y291 => (if y288.length + y291.length < 140737488355328 then ((some (y288 ++ y291 : List Int)).bind fun y294 => ((spec_l02Number.f k2 ((rd_T77 l0_3 x7_2).f2.f1) 3).bind fun t297 => (if y294.length + t297.length < 140737488355328 then ((some (y294 ++ t297 : List Int)).bind fun y300 => ((spec_l02Number.f k2 (wrap64 (((rd_T77 l0_3 x7_2).f2.f2) + 1)) 2).bind fun t303 => (if y300.length + t303.length < 140737488355328 then ((some (y300 ++ t303 : List Int)).bind fun y306 => ((spec_l02Number.f k2 ((rd_T77 l0_3 x7_2).f2.f3) 4).bind fun t309 => (if y306.length + t309.length < 140737488355328 then (spec_l05Bytes.l2 k2 (y306 ++ t309) (wrap64 (x7_2 + 1)) a0_0 a0_1 l0_2 l0_3) else (none)))) else (none)))) else (none)))) else (none)))) else (none)) = some r:=H
            have A82:=qk A820
            clear A820
            by_cases c83 : y282.length + t285.length < 140737488355328
            ·
             rw [if_pos c83] at H
             have LMc83:=qk c83
             clear c83
             obtain ⟨y288,hy288⟩ : ∃ y_ : List Int,y_ = (y282 ++ t285):=⟨_,rfl⟩
             replace H : ((some (([((rd_T77 l0_3 x7_2).f2.f0) % 256] : List Int) : List Int)).bind fun y291 => (if y288.length + y291.length < 140737488355328 then ((some (y288 ++ y291 : List Int)).bind fun y294 => ((spec_l02Number.f k2 ((rd_T77 l0_3 x7_2).f2.f1) 3).bind fun t297 => (if y294.length + t297.length < 140737488355328 then ((some (y294 ++ t297 : List Int)).bind fun y300 => ((spec_l02Number.f k2 (wrap64 (((rd_T77 l0_3 x7_2).f2.f2) + 1)) 2).bind fun t303 => (if y300.length + t303.length < 140737488355328 then ((some (y300 ++ t303 : List Int)).bind fun y306 => ((spec_l02Number.f k2 ((rd_T77 l0_3 x7_2).f2.f3) 4).bind fun t309 => (if y306.length + t309.length < 140737488355328 then (spec_l05Bytes.l2 k2 (y306 ++ t309) (wrap64 (x7_2 + 1)) a0_0 a0_1 l0_2 l0_3) else (none)))) else (none)))) else (none)))) else (none))) = some r:=by first|(rw [hy288];with_reducible exact H)|(have H2_:=(Option.bind_some _ _).symm.trans H;rw [hy288];with_reducible exact H2_)|(have H2_:=(Option.bind_some _ _).symm.trans H;with_reducible exact H2_)|with_reducible exact H|(rw [hy288];exact H)|exact H
             have Ny288:=qk hy288
             clear hy288
             obtain ⟨y291,hy291⟩ : ∃ y_ : List Int,y_ = (([((rd_T77 l0_3 x7_2).f2.f0) % 256] : List Int)):=⟨_,rfl⟩
             replace H : (if y288.length + y291.length < 140737488355328 then ((some (y288 ++ y291 : List Int)).bind fun y294 => ((spec_l02Number.f k2 ((rd_T77 l0_3 x7_2).f2.f1) 3).bind fun t297 => (if y294.length + t297.length < 140737488355328 then ((some (y294 ++ t297 : List Int)).bind fun y300 => ((spec_l02Number.f k2 (wrap64 (((rd_T77 l0_3 x7_2).f2.f2) + 1)) 2).bind fun t303 => (if y300.length + t303.length < 140737488355328 then ((some (y300 ++ t303 : List Int)).bind fun y306 => ((spec_l02Number.f k2 ((rd_T77 l0_3 x7_2).f2.f3) 4).bind fun t309 => (if y306.length + t309.length < 140737488355328 then (spec_l05Bytes.l2 k2 (y306 ++ t309) (wrap64 (x7_2 + 1)) a0_0 a0_1 l0_2 l0_3) else (none)))) else (none)))) else (none)))) else (none)) = some r:=by first|(rw [hy291];with_reducible exact H)|(have H2_:=(Option.bind_some _ _).symm.trans H;rw [hy291];with_reducible exact H2_)|(have H2_:=(Option.bind_some _ _).symm.trans H;with_reducible exact H2_)|with_reducible exact H|(rw [hy291];exact H)|exact H
             have Ny291:=qk hy291
             clear hy291
             by_cases c84 : y288.length + y291.length < 140737488355328
             ·
              rw [if_pos c84] at H
              have LMc84:=qk c84
              clear c84
              obtain ⟨y294,hy294⟩ : ∃ y_ : List Int,y_ = (y288 ++ y291):=⟨_,rfl⟩
              replace H : ((spec_l02Number.f k2 ((rd_T77 l0_3 x7_2).f2.f1) 3).bind fun t297 => (if y294.length + t297.length < 140737488355328 then ((some (y294 ++ t297 : List Int)).bind fun y300 => ((spec_l02Number.f k2 (wrap64 (((rd_T77 l0_3 x7_2).f2.f2) + 1)) 2).bind fun t303 => (if y300.length + t303.length < 140737488355328 then ((some (y300 ++ t303 : List Int)).bind fun y306 => ((spec_l02Number.f k2 ((rd_T77 l0_3 x7_2).f2.f3) 4).bind fun t309 => (if y306.length + t309.length < 140737488355328 then (spec_l05Bytes.l2 k2 (y306 ++ t309) (wrap64 (x7_2 + 1)) a0_0 a0_1 l0_2 l0_3) else (none)))) else (none)))) else (none))) = some r:=by first|(rw [hy294];with_reducible exact H)|(have H2_:=(Option.bind_some _ _).symm.trans H;rw [hy294];with_reducible exact H2_)|(have H2_:=(Option.bind_some _ _).symm.trans H;with_reducible exact H2_)|with_reducible exact H|(rw [hy294];exact H)|exact H
              have Ny294:=qk hy294
              clear hy294
              replace H:=Option.bind_eq_some_iff.mp H
              obtain ⟨t297,A850,H⟩:=H
              replace H : (if y294.length + t297.length < 140737488355328 then ((some (y294 ++ t297 : List Int)).bind fun y300 => ((spec_l02Number.f k2 (wrap64 (((rd_T77 l0_3 x7_2).f2.f2) + 1)) 2).bind fun t303 => (if y300.length + t303.length < 140737488355328 then ((some (y300 ++ t303 : List Int)).bind fun y306 => ((spec_l02Number.f k2 ((rd_T77 l0_3 x7_2).f2.f3) 4).bind fun t309 => (if y306.length + t309.length < 140737488355328 then (spec_l05Bytes.l2 k2 (y306 ++ t309) (wrap64 (x7_2 + 1)) a0_0 a0_1 l0_2 l0_3) else (none)))) else (none)))) else (none)) = some r:=H
              have A85:=qk A850
              clear A850
              by_cases c86 : y294.length + t297.length < 140737488355328
              ·
               rw [if_pos c86] at H
               have LMc86:=qk c86
               clear c86
               obtain ⟨y300,hy300⟩ : ∃ y_ : List Int,y_ = (y294 ++ t297):=⟨_,rfl⟩
               replace H : ((spec_l02Number.f k2 (wrap64 (((rd_T77 l0_3 x7_2).f2.f2) + 1)) 2).bind fun t303 => (if y300.length + t303.length < 140737488355328 then ((some (y300 ++ t303 : List Int)).bind fun y306 => ((spec_l02Number.f k2 ((rd_T77 l0_3 x7_2).f2.f3) 4).bind fun t309 => (if y306.length + t309.length < 140737488355328 then (spec_l05Bytes.l2 k2 (y306 ++ t309) (wrap64 (x7_2 + 1)) a0_0 a0_1 l0_2 l0_3) else (none)))) else (none))) = some r:=by first|(rw [hy300];with_reducible exact H)|(have H2_:=(Option.bind_some _ _).symm.trans H;rw [hy300];with_reducible exact H2_)|(have H2_:=(Option.bind_some _ _).symm.trans H;with_reducible exact H2_)|with_reducible exact H|(rw [hy300];exact H)|exact H
               have Ny300:=qk hy300
               clear hy300
               replace H:=Option.bind_eq_some_iff.mp H
               obtain ⟨t303,A870,H⟩:=H
               replace H : (if y300.length + t303.length < 140737488355328 then ((some (y300 ++ t303 : List Int)).bind fun y306 => ((spec_l02Number.f k2 ((rd_T77 l0_3 x7_2).f2.f3) 4).bind fun t309 => (if y306.length + t309.length < 140737488355328 then (spec_l05Bytes.l2 k2 (y306 ++ t309) (wrap64 (x7_2 + 1)) a0_0 a0_1 l0_2 l0_3) else (none)))) else (none)) = some r:=H
               have A87:=qk A870
               clear A870
               by_cases c88 : y300.length + t303.length < 140737488355328
               ·
                rw [if_pos c88] at H
                have LMc88:=qk c88
                clear c88
                obtain ⟨y306,hy306⟩ : ∃ y_ : List Int,y_ = (y300 ++ t303):=⟨_,rfl⟩
                replace H : ((spec_l02Number.f k2 ((rd_T77 l0_3 x7_2).f2.f3) 4).bind fun t309 => (if y306.length + t309.length < 140737488355328 then (spec_l05Bytes.l2 k2 (y306 ++ t309) (wrap64 (x7_2 + 1)) a0_0 a0_1 l0_2 l0_3) else (none))) = some r:=by first|(rw [hy306];with_reducible exact H)|(have H2_:=(Option.bind_some _ _).symm.trans H;rw [hy306];with_reducible exact H2_)|(have H2_:=(Option.bind_some _ _).symm.trans H;with_reducible exact H2_)|with_reducible exact H|(rw [hy306];exact H)|exact H
                have Ny306:=qk hy306
                clear hy306
                replace H:=Option.bind_eq_some_iff.mp H
                obtain ⟨t309,A890,H⟩:=H
                replace H : (if y306.length + t309.length < 140737488355328 then (spec_l05Bytes.l2 k2 (y306 ++ t309) (wrap64 (x7_2 + 1)) a0_0 a0_1 l0_2 l0_3) else (none)) = some r:=H
                have A89:=qk A890
                clear A890
                by_cases c90 : y306.length + t309.length < 140737488355328
                ·
                 rw [if_pos c90] at H
                 have LMc90:=qk c90
                 clear c90
                 obtain ⟨y312,hy312⟩ : ∃ y_ : List Int,y_ = (y306 ++ t309):=⟨_,rfl⟩
                 replace H : (spec_l05Bytes.l2 k2 y312 (wrap64 (x7_2 + 1)) a0_0 a0_1 l0_2 l0_3) = some r:=by first|(rw [hy312];with_reducible exact H)|(have H2_:=(Option.bind_some _ _).symm.trans H;rw [hy312];with_reducible exact H2_)|(have H2_:=(Option.bind_some _ _).symm.trans H;with_reducible exact H2_)|with_reducible exact H|(rw [hy312];exact H)|exact H
                 have Ny312:=qk hy312
                 clear hy312
                 have H':=qk H
                 clear H
                 have hcz91_0 : wr.cell? ⟨gb206,0,none⟩ = some (.int .i64 a0_0):=(blk_cell BK206.out 0).trans rfl
                 have hcz91_1 : wr.cell? ⟨gb206,1,none⟩ = some (.int .i64 a0_1):=(blk_cell BK206.out 1).trans rfl
                 have hcz91_2 : wr.cell? ⟨gb206,2,none⟩ = some (.slice A0_2 l0_2.length c0_2):=(blk_cell BK206.out 2).trans rfl
                 have hcz91_3 : wr.cell? ⟨gb206,3,none⟩ = some (.slice A0_3 l0_3.length c0_3):=(blk_cell BK206.out 3).trans rfl
                 have hfz91_0:=sJ BK206.out 0
                 have hfz91_1:=sJ BK206.out 1
                 have hfz91_2:=sJ BK206.out 2
                 have hfz91_3:=sJ BK206.out 3
                 have p277 : 0 ≤ (x7_2 : Int):=sM (by first|(with_reducible assumption)|assumption)
                 have q277 : x7_2 < (l0_3.length : Int):=sM (by first|(with_reducible assumption)|assumption)
                 obtain ⟨ad277,e277,hx277_0,hx277_1,hx277_2,hx277_3,hx277_4,hx277_5⟩:=at_T77 HR0_3.out x7_2 p277 q277
                 cases e277
                 replace hx277_0:=(HB.out.cell (sD w _ hx277_0)).trans hx277_0
                 replace hx277_1:=(HB.out.cell (sD w _ hx277_1)).trans hx277_1
                 replace hx277_2:=(HB.out.cell (sD w _ hx277_2)).trans hx277_2
                 replace hx277_3:=(HB.out.cell (sD w _ hx277_3)).trans hx277_3
                 replace hx277_4:=(HB.out.cell (sD w _ hx277_4)).trans hx277_4
                 replace hx277_5:=(HB.out.cell (sD w _ hx277_5)).trans hx277_5
                 replace p277:=eq_true p277
                 replace q277:=eq_true q277
                 try go_wp2_with (first|((with_reducible refine gate_dst (N:=8) rfl ?_);refine box_event ?hg (N:=8) ?hd (cs:=#[.int .i64 0,.int .i64 0,.int .i64 0,.int .i64 0,.int .i64 0,.int .i64 0]) (t:=77) ?hr ?_;(case hd => rfl);(case hg => rfl);(case hr => first|(go_simp;done)|(go_simp;rfl));intro gb278 hg w92 hbox hb;have n0_:=qk (Kd.R_below (by (with_reducible repeat (first|apply qd|apply qe|apply qf));exact HO_3.out) hb);have n1_:=qk (ql (g:=gb206) (o:=.cells #[.int .i64 a0_0,.int .i64 a0_1,.slice A0_2 l0_2.length c0_2,.slice (some ad277) l0_3.length c0_3] 31 (0,0)) (by (with_reducible repeat (first|apply qa|apply qb|apply qc));exact BK206.out) hb);have n2_:=qk (sN (by repeat (first|(with_reducible first|exact HB.out|apply qg|apply qh|apply qi|refine qj ?_ GE206.out)|exact HB.out)) hb);have n3_:=qk (hbox);have n4_:=qk ((by rw [hg];exact (qm (by repeat (first|(with_reducible first|exact HB.out|apply qg|apply qh|apply qi|refine qj ?_ GE206.out)|exact HB.out))) : w.heap.size ≤ gb278));have n5_:=qk ((by rw [hg];exact (qm (by repeat (first|(with_reducible first|exact HB.out|apply qg|apply qh|apply qi|refine qj ?_ GE206.out)|exact HB.out))) : w.heap.size ≤ gb278));have n6_:=qk ((by rw [hg];exact Nat.ne_of_lt (blk_lt (g:=gb206) (o:=.cells #[.int .i64 a0_0,.int .i64 a0_1,.slice A0_2 l0_2.length c0_2,.slice (some ad277) l0_3.length c0_3] 31 (0,0)) (by (with_reducible repeat (first|apply qa|apply qb|apply qc));exact BK206.out)) : gb206 ≠ gb278));have n7_:=qk ((by rw [hg];exact Nat.ne_of_gt (blk_lt (g:=gb206) (o:=.cells #[.int .i64 a0_0,.int .i64 a0_1,.slice A0_2 l0_2.length c0_2,.slice (some ad277) l0_3.length c0_3] 31 (0,0)) (by (with_reducible repeat (first|apply qa|apply qb|apply qc));exact BK206.out)) : gb278 ≠ gb206));clear HO_3;clear BK206;clear HB;have HO_3:=n0_;have BK206:=n1_;have HB:=n2_;have BK278:=n3_;have GW278:=n4_;have GE278:=n5_;have NB206_278:=n6_;have NB278_206:=n7_;clear n0_ n1_ n2_ n3_ n4_ n5_ n6_ n7_;clear hb hbox hg;have hnb93:=NB278_206.out;have hnc93:=NB206_278.out;have hcz94_0 : w92.cell? ⟨gb278,0,none⟩ = some (.int .i64 0):=(blk_cell BK278.out 0).trans rfl;have hcz94_1 : w92.cell? ⟨gb278,1,none⟩ = some (.int .i64 0):=(blk_cell BK278.out 1).trans rfl;have hcz94_2 : w92.cell? ⟨gb278,2,none⟩ = some (.int .i64 0):=(blk_cell BK278.out 2).trans rfl;have hcz94_3 : w92.cell? ⟨gb278,3,none⟩ = some (.int .i64 0):=(blk_cell BK278.out 3).trans rfl;have hcz94_4 : w92.cell? ⟨gb278,4,none⟩ = some (.int .i64 0):=(blk_cell BK278.out 4).trans rfl;have hcz94_5 : w92.cell? ⟨gb278,5,none⟩ = some (.int .i64 0):=(blk_cell BK278.out 5).trans rfl;have hfz94_0:=sJ BK278.out 0;have hfz94_1:=sJ BK278.out 1;have hfz94_2:=sJ BK278.out 2;have hfz94_3:=sJ BK278.out 3;have hfz94_4:=sJ BK278.out 4;have hfz94_5:=sJ BK278.out 5))
                 have n0_ : Aside0 (Kd.R (Kd.int .u8) 5 ((((((w92.setCell ⟨gb278,0,none⟩ (.int .i64 ((rd_T77 l0_3 x7_2).f0))).setCell ⟨gb278,1,none⟩ (.int .i64 ((rd_T77 l0_3 x7_2).f1))).setCell ⟨gb278,2,none⟩ (.int .i64 ((rd_T77 l0_3 x7_2).f2.f0))).setCell ⟨gb278,3,none⟩ (.int .i64 ((rd_T77 l0_3 x7_2).f2.f1))).setCell ⟨gb278,4,none⟩ (.int .i64 ((rd_T77 l0_3 x7_2).f2.f2))).setCell ⟨gb278,5,none⟩ (.int .i64 ((rd_T77 l0_3 x7_2).f2.f3))) w.heap.size (fun _ => True) u3 x3_2):=⟨by (with_reducible repeat (first|apply qd|apply qe|apply qf));exact qn (Kd.R_far (p:=⟨gb278,5,none⟩) (Kd.R_far (p:=⟨gb278,4,none⟩) (Kd.R_far (p:=⟨gb278,3,none⟩) (Kd.R_far (p:=⟨gb278,2,none⟩) (Kd.R_far (p:=⟨gb278,1,none⟩) (Kd.R_far (p:=⟨gb278,0,none⟩) (Kd.R_types HO_3.out BK278.out (by decide)) (fun _ hk => hk.2) (.int .i64 ((rd_T77 l0_3 x7_2).f0))) (fun _ hk => hk.2) (.int .i64 ((rd_T77 l0_3 x7_2).f1))) (fun _ hk => hk.2) (.int .i64 ((rd_T77 l0_3 x7_2).f2.f0))) (fun _ hk => hk.2) (.int .i64 ((rd_T77 l0_3 x7_2).f2.f1))) (fun _ hk => hk.2) (.int .i64 ((rd_T77 l0_3 x7_2).f2.f2))) (fun _ hk => hk.2) (.int .i64 ((rd_T77 l0_3 x7_2).f2.f3))) (fun _ hk => trivial)⟩
                 have n1_ : Aside0 (((((((w92.setCell ⟨gb278,0,none⟩ (.int .i64 ((rd_T77 l0_3 x7_2).f0))).setCell ⟨gb278,1,none⟩ (.int .i64 ((rd_T77 l0_3 x7_2).f1))).setCell ⟨gb278,2,none⟩ (.int .i64 ((rd_T77 l0_3 x7_2).f2.f0))).setCell ⟨gb278,3,none⟩ (.int .i64 ((rd_T77 l0_3 x7_2).f2.f1))).setCell ⟨gb278,4,none⟩ (.int .i64 ((rd_T77 l0_3 x7_2).f2.f2))).setCell ⟨gb278,5,none⟩ (.int .i64 ((rd_T77 l0_3 x7_2).f2.f3))).heap[gb206]? = some (.cells #[.int .i64 a0_0,.int .i64 a0_1,.slice A0_2 l0_2.length c0_2,.slice (some ad277) l0_3.length c0_3] 31 (0,0))):=⟨by (with_reducible repeat (first|apply qa|apply qb|apply qc));refine blk_far ?_ NB206_278.out _;(with_reducible repeat (first|apply qa|apply qb|apply qc));refine blk_far ?_ NB206_278.out _;(with_reducible repeat (first|apply qa|apply qb|apply qc));refine blk_far ?_ NB206_278.out _;(with_reducible repeat (first|apply qa|apply qb|apply qc));refine blk_far ?_ NB206_278.out _;(with_reducible repeat (first|apply qa|apply qb|apply qc));refine blk_far ?_ NB206_278.out _;(with_reducible repeat (first|apply qa|apply qb|apply qc));refine blk_far ?_ NB206_278.out _;(with_reducible repeat (first|apply qa|apply qb|apply qc));exact BK206.out⟩
                 have n2_ : Aside0 (((((((w92.setCell ⟨gb278,0,none⟩ (.int .i64 ((rd_T77 l0_3 x7_2).f0))).setCell ⟨gb278,1,none⟩ (.int .i64 ((rd_T77 l0_3 x7_2).f1))).setCell ⟨gb278,2,none⟩ (.int .i64 ((rd_T77 l0_3 x7_2).f2.f0))).setCell ⟨gb278,3,none⟩ (.int .i64 ((rd_T77 l0_3 x7_2).f2.f1))).setCell ⟨gb278,4,none⟩ (.int .i64 ((rd_T77 l0_3 x7_2).f2.f2))).setCell ⟨gb278,5,none⟩ (.int .i64 ((rd_T77 l0_3 x7_2).f2.f3))).heap[gb278]? = some (.cells #[.int .i64 ((rd_T77 l0_3 x7_2).f0),.int .i64 ((rd_T77 l0_3 x7_2).f1),.int .i64 ((rd_T77 l0_3 x7_2).f2.f0),.int .i64 ((rd_T77 l0_3 x7_2).f2.f1),.int .i64 ((rd_T77 l0_3 x7_2).f2.f2),.int .i64 ((rd_T77 l0_3 x7_2).f2.f3)] 77 (0,0))):=⟨by (with_reducible repeat (first|apply qa|apply qb|apply qc));refine blk_put (cs:=#[.int .i64 ((rd_T77 l0_3 x7_2).f0),.int .i64 ((rd_T77 l0_3 x7_2).f1),.int .i64 ((rd_T77 l0_3 x7_2).f2.f0),.int .i64 ((rd_T77 l0_3 x7_2).f2.f1),.int .i64 ((rd_T77 l0_3 x7_2).f2.f2),.int .i64 0]) ?_ 5 _ rfl;(with_reducible repeat (first|apply qa|apply qb|apply qc));refine blk_put (cs:=#[.int .i64 ((rd_T77 l0_3 x7_2).f0),.int .i64 ((rd_T77 l0_3 x7_2).f1),.int .i64 ((rd_T77 l0_3 x7_2).f2.f0),.int .i64 ((rd_T77 l0_3 x7_2).f2.f1),.int .i64 0,.int .i64 0]) ?_ 4 _ rfl;(with_reducible repeat (first|apply qa|apply qb|apply qc));refine blk_put (cs:=#[.int .i64 ((rd_T77 l0_3 x7_2).f0),.int .i64 ((rd_T77 l0_3 x7_2).f1),.int .i64 ((rd_T77 l0_3 x7_2).f2.f0),.int .i64 0,.int .i64 0,.int .i64 0]) ?_ 3 _ rfl;(with_reducible repeat (first|apply qa|apply qb|apply qc));refine blk_put (cs:=#[.int .i64 ((rd_T77 l0_3 x7_2).f0),.int .i64 ((rd_T77 l0_3 x7_2).f1),.int .i64 0,.int .i64 0,.int .i64 0,.int .i64 0]) ?_ 2 _ rfl;(with_reducible repeat (first|apply qa|apply qb|apply qc));refine blk_put (cs:=#[.int .i64 ((rd_T77 l0_3 x7_2).f0),.int .i64 0,.int .i64 0,.int .i64 0,.int .i64 0,.int .i64 0]) ?_ 1 _ rfl;(with_reducible repeat (first|apply qa|apply qb|apply qc));refine blk_put (cs:=#[.int .i64 0,.int .i64 0,.int .i64 0,.int .i64 0,.int .i64 0,.int .i64 0]) ?_ 0 _ rfl;(with_reducible repeat (first|apply qa|apply qb|apply qc));exact BK278.out⟩
                 have n3_ : Aside0 (Below w.heap.size w ((((((w92.setCell ⟨gb278,0,none⟩ (.int .i64 ((rd_T77 l0_3 x7_2).f0))).setCell ⟨gb278,1,none⟩ (.int .i64 ((rd_T77 l0_3 x7_2).f1))).setCell ⟨gb278,2,none⟩ (.int .i64 ((rd_T77 l0_3 x7_2).f2.f0))).setCell ⟨gb278,3,none⟩ (.int .i64 ((rd_T77 l0_3 x7_2).f2.f1))).setCell ⟨gb278,4,none⟩ (.int .i64 ((rd_T77 l0_3 x7_2).f2.f2))).setCell ⟨gb278,5,none⟩ (.int .i64 ((rd_T77 l0_3 x7_2).f2.f3)))):=⟨by repeat (first|(with_reducible first|exact HB.out|apply qg|apply qh|apply qi|refine qj ?_ GE206.out|refine qj ?_ GE278.out)|exact HB.out)⟩
                 (try clear HO_3)
                 (try clear BK206)
                 (try clear BK278)
                 (try clear HB)
                 generalize ((((((w92.setCell ⟨gb278,0,none⟩ (.int .i64 ((rd_T77 l0_3 x7_2).f0))).setCell ⟨gb278,1,none⟩ (.int .i64 ((rd_T77 l0_3 x7_2).f1))).setCell ⟨gb278,2,none⟩ (.int .i64 ((rd_T77 l0_3 x7_2).f2.f0))).setCell ⟨gb278,3,none⟩ (.int .i64 ((rd_T77 l0_3 x7_2).f2.f1))).setCell ⟨gb278,4,none⟩ (.int .i64 ((rd_T77 l0_3 x7_2).f2.f2))).setCell ⟨gb278,5,none⟩ (.int .i64 ((rd_T77 l0_3 x7_2).f2.f3))) = w95 at n0_ n1_ n2_ n3_ ⊢
                 have HO_3:=n0_
                 have BK206:=n1_
                 have BK278:=n2_
                 have HB:=n3_
                 clear n0_ n1_ n2_ n3_
                 have n0_:=qk (qf HO_3.out)
                 have n1_:=qk (qb BK206.out)
                 have n2_:=qk (qb BK278.out)
                 have n3_:=qk (qi HB.out)
                 clear HO_3
                 clear BK206
                 clear BK278
                 clear HB
                 have HO_3:=n0_
                 have BK206:=n1_
                 have BK278:=n2_
                 have HB:=n3_
                 clear n0_ n1_ n2_ n3_
                 refine start_ (n:=11) (S:=fun w' => w'.cell? ⟨gb278,0,none⟩ = some (.int .i64 ((rd_T77 l0_3 x7_2).f0)) ∧ w'.cell? ⟨gb278,1,none⟩ = some (.int .i64 ((rd_T77 l0_3 x7_2).f1)) ∧ w'.cell? ⟨gb278,2,none⟩ = some (.int .i64 ((rd_T77 l0_3 x7_2).f2.f0)) ∧ w'.cell? ⟨gb278,3,none⟩ = some (.int .i64 ((rd_T77 l0_3 x7_2).f2.f1)) ∧ w'.cell? ⟨gb278,4,none⟩ = some (.int .i64 ((rd_T77 l0_3 x7_2).f2.f2)) ∧ w'.cell? ⟨gb278,5,none⟩ = some (.int .i64 ((rd_T77 l0_3 x7_2).f2.f3))) (ds:=[]) #[false,false,false,false,false,false,false,false,false,false,false] (by kernel_rfl) rfl rfl ⟨(blk_cell BK278.out 0).trans rfl,(blk_cell BK278.out 1).trans rfl,(blk_cell BK278.out 2).trans rfl,(blk_cell BK278.out 3).trans rfl,(blk_cell BK278.out 4).trans rfl,(blk_cell BK278.out 5).trans rfl⟩ (fun hHeld => ?_);refine with_tabW spec_l05Bytes.tab19 spec_l05Bytes.bits19 (fun HT_ HW_ => ?_)
                 generalize w95.drew = w96 at HO_3 BK206 BK278 HB hHeld ⊢
                 refine pure_ (i:=0) (N:=some 110) (v:=?_) (a':=?_) #[true,false,false,false,false,false,false,false,false,false,false] rfl rfl (any_of HT_.out (by kernel_rfl)) (fun _ _ _ h => h) (Or.inl ⟨by rfl,?_⟩) ?_ ?_
                 rotate_left
                 ·
                  intro w'
                  go_simp
                  with_reducible rfl
                 rotate_left
                 ·
                  simp only [Act.put,sA,sB,sC,i64_w,i32_w]
                  rfl
                 refine pure_ (i:=1) (N:=some 111) (v:=?_) (a':=?_) #[true,true,false,false,false,false,false,false,false,false,false] rfl rfl (any_of HT_.out (by kernel_rfl)) (fun _ _ _ h => h) (Or.inl ⟨by rfl,?_⟩) ?_ ?_
                 rotate_left
                 ·
                  intro w'
                  go_simp
                  with_reducible rfl
                 rotate_left
                 ·
                  simp only [Act.put,sA,sB,sC,i64_w,i32_w]
                  rfl
                 refine pure_ (i:=6) (N:=some 116) (v:=?_) (a':=?_) #[true,true,false,false,false,false,true,false,false,false,false] rfl rfl (any_of HT_.out (by kernel_rfl)) (fun _ _ _ h => h) (Or.inl ⟨by rfl,?_⟩) ?_ ?_
                 rotate_left
                 ·
                  intro w'
                  go_simp
                  with_reducible rfl
                 rotate_left
                 ·
                  simp only [Act.put,sA,sB,sC,i64_w,i32_w]
                  rfl
                 refine take_ (i:=2) (N:=some 112) (v:=?_) (a':=?_) #[true,true,true,false,false,false,true,false,false,false,false] rfl rfl (take_ofW HT_.out HW_.out (by kernel_rfl)) (fun _ _ _ h => h) (Or.inl ⟨by rfl,?_⟩) hHeld ?_ ?_
                 rotate_left
                 ·
                  rintro w' ⟨s0,s1,s2,s3,s4,s5⟩
                  go_simp
                  with_reducible rfl
                 rotate_left
                 ·
                  simp only [Act.put,sA,sB,sC,i64_w,i32_w]
                  rfl
                 refine pure_ (i:=3) (N:=some 113) (v:=?_) (a':=?_) #[true,true,true,true,false,false,true,false,false,false,false] rfl rfl (any_of HT_.out (by kernel_rfl)) (fun _ _ _ h => h) (Or.inl ⟨by rfl,?_⟩) ?_ ?_
                 rotate_left
                 ·
                  intro w'
                  go_simp
                  with_reducible rfl
                 rotate_left
                 ·
                  simp only [Act.put,sA,sB,sC,i64_w,i32_w]
                  rfl
                 refine take_ (i:=7) (N:=some 117) (v:=?_) (a':=?_) #[true,true,true,true,false,false,true,true,false,false,false] rfl rfl (take_ofW HT_.out HW_.out (by kernel_rfl)) (fun _ _ _ h => h) (Or.inl ⟨by rfl,?_⟩) hHeld ?_ ?_
                 rotate_left
                 ·
                  rintro w' ⟨s0,s1,s2,s3,s4,s5⟩
                  go_simp
                  with_reducible rfl
                 rotate_left
                 ·
                  simp only [Act.put,sA,sB,sC,i64_w,i32_w]
                  rfl
                 refine one_ (i:=4) (N:=some 114) #[true,true,true,true,true,false,true,true,false,false,false] rfl rfl (one_of HT_.out (by kernel_rfl)) (by decide) (fun K hK => ?_)
                 refine Kd.R_lit_step (Kd.int .u8) _ 5 ?hg (N:=114) ?hd (xs:=([((rd_T77 l0_3 x7_2).f0) % 256] : List Int)) (inner:=[.int .u8 (((rd_T77 l0_3 x7_2).f0) % 256)]) (ok:=fun _ => True) (okp:=fun _ => True) ?hr ?hp (fun _ hk => hk) trivial (Below.refl _ _) (Nat.le_refl _) (by simp) ?_;(case hd => rfl);(case hg => rfl);(case hr => first|(go_simp;done)|(go_simp;rfl));(case hp => exact (Reps.one (show Kd.M (Kd.int .u8) _ _ _ (((rd_T77 l0_3 x7_2).f0) % 256) [.int .u8 (((rd_T77 l0_3 x7_2).f0) % 256)] from rfl) (Reps.none _ _)))
                 intro v280 w97 ho98 hb hg_ hnew_
                 clear hg_ hnew_
                 (first|rw [← Ny279.out] at ho98|(simp only [Int.reduceToNat] at ho98;rw [← Ny279.out] at ho98))
                 have n0_:=qk (Kd.R_elder' (by (with_reducible repeat (first|apply qd|apply qe|apply qf));exact HO_3.out) (Kd.R_base ho98) hb)
                 have n1_:=qk (Kd.R_lower (Kd.R_new' ho98 (Kd.R_lt (by (with_reducible repeat (first|apply qd|apply qe|apply qf));exact HO_3.out))) (qm (by repeat (first|(with_reducible first|exact HB.out|apply qg|apply qh|apply qi|refine qj ?_ GE206.out|refine qj ?_ GE278.out)|exact HB.out))))
                 have n2_:=qk (ql (g:=gb206) (o:=.cells #[.int .i64 a0_0,.int .i64 a0_1,.slice A0_2 l0_2.length c0_2,.slice (some ad277) l0_3.length c0_3] 31 (0,0)) (by (with_reducible repeat (first|apply qa|apply qb|apply qc));exact BK206.out) hb)
                 have n3_:=qk (ql (g:=gb278) (o:=.cells #[.int .i64 ((rd_T77 l0_3 x7_2).f0),.int .i64 ((rd_T77 l0_3 x7_2).f1),.int .i64 ((rd_T77 l0_3 x7_2).f2.f0),.int .i64 ((rd_T77 l0_3 x7_2).f2.f1),.int .i64 ((rd_T77 l0_3 x7_2).f2.f2),.int .i64 ((rd_T77 l0_3 x7_2).f2.f3)] 77 (0,0)) (by (with_reducible repeat (first|apply qa|apply qb|apply qc));exact BK278.out) hb)
                 have n4_:=qk (sN (by repeat (first|(with_reducible first|exact HB.out|apply qg|apply qh|apply qi|refine qj ?_ GE206.out|refine qj ?_ GE278.out)|exact HB.out)) hb)
                 clear HO_3
                 clear BK206
                 clear BK278
                 clear HB
                 have HO_3:=n0_
                 have HO281:=n1_
                 have BK206:=n2_
                 have BK278:=n3_
                 have HB:=n4_
                 clear n0_ n1_ n2_ n3_ n4_
                 clear hb ho98
                 obtain ⟨Ao100,co100,eo100⟩:=Kd.R_slice HO281.out
                 (first|subst eo100|(injection eo100 with f1_ f2_ f3_;have f4_:=f1_.symm;have f5_:=f3_.symm;clear f1_ f2_ f3_;subst f4_;subst f5_))
                 refine hK.out _ _ ⟨(blk_cell BK278.out 0).trans rfl,(blk_cell BK278.out 1).trans rfl,(blk_cell BK278.out 2).trans rfl,(blk_cell BK278.out 3).trans rfl,(blk_cell BK278.out 4).trans rfl,(blk_cell BK278.out 5).trans rfl⟩ (fun hHeld => ?_)
                 clear hK K
                 refine norm_ (a':=?_) ?_ ?_
                 rotate_left
                 ·
                  show Act.put _ (some 114) _ = _
                  simp only [Act.put,sA,sB,sC,i64_w,i32_w]
                  rfl
                 refine one_ (i:=5) (N:=some 115) #[true,true,true,true,true,true,true,true,false,false,false] rfl rfl (one_of HT_.out (by kernel_rfl)) (by decide) (fun K hK => ?_)
                 refine Kd.R_append_rows_step (Kd.int .u8) (w0:=w) w.heap.size (by rfl) (.tmp 110) (.tmp 114) 38 5 (.int .u8 0) 1 rfl Try.underlying38 info5 rfl (by decide) (by omega) u3 x3_2 y279 _ _ _ (fun k_ => some k_ ≠ (.slice Ao100 y279.length co100 : Value).ownBlock) (fun _ => False) rfl rfl ?aO ?aR (fun _ _ h => h) (fun _ h => h.elim) ?aF ?aB ?aS ?aL ?_
                 (case aR => repeat (first|exact (Kd.R_reads' HO281.out).2.2|(with_reducible refine Kd.C_alloc ?_ _)|(with_reducible refine Kd.C_drewN ?_ _)|(with_reducible refine Kd.C_drew ?_)))
                 (case aB => exact (by repeat (first|(with_reducible first|exact HB.out|apply qg|apply qh|apply qi|refine qj ?_ GE206.out|refine qj ?_ GE278.out)|exact HB.out)))
                 (case aF => exact (fun k_ hk => Kd.fresh' (Kd.R_lt (by (with_reducible repeat (first|apply qd|apply qe|apply qf));exact HO281.out)) k_ hk))
                 (case aO => exact (by (with_reducible repeat (first|apply qd|apply qe|apply qf));exact qn HO_3.out (fun _ hk => hk.2)))
                 (case aS => exact (qm (by repeat (first|(with_reducible first|exact HB.out|apply qg|apply qh|apply qi|refine qj ?_ GE206.out|refine qj ?_ GE278.out)|exact HB.out))))
                 (case aL => have:=LMc81.out;omega)
                 intro v283 w99 ho hb hg hat
                 rw [← Ny282.out] at ho
                 have n0_:=qk (blk_grown (g:=gb206) (o:=.cells #[.int .i64 a0_0,.int .i64 a0_1,.slice A0_2 l0_2.length c0_2,.slice (some ad277) l0_3.length c0_3] 31 (0,0)) (by (with_reducible repeat (first|apply qa|apply qb|apply qc));exact BK206.out) hg (Kd.R_ne HO_3.out BK206.out (by decide)))
                 have n1_:=qk (blk_grown (g:=gb278) (o:=.cells #[.int .i64 ((rd_T77 l0_3 x7_2).f0),.int .i64 ((rd_T77 l0_3 x7_2).f1),.int .i64 ((rd_T77 l0_3 x7_2).f2.f0),.int .i64 ((rd_T77 l0_3 x7_2).f2.f1),.int .i64 ((rd_T77 l0_3 x7_2).f2.f2),.int .i64 ((rd_T77 l0_3 x7_2).f2.f3)] 77 (0,0)) (by (with_reducible repeat (first|apply qa|apply qb|apply qc));exact BK278.out) hg (Kd.R_ne HO_3.out BK278.out (by decide)))
                 have n2_:=qk (Kd.R_after (ok:=(fun _ => True)) (by (with_reducible repeat (first|apply qd|apply qe|apply qf));exact HO281.out) hg hat)
                 have n3_:=qk (hb)
                 have n4_:=qk (ho)
                 clear BK206
                 clear BK278
                 clear HO281
                 clear HB
                 clear HO_3
                 have BK206:=n0_
                 have BK278:=n1_
                 have HO281:=n2_
                 have HB:=n3_
                 have HO284:=n4_
                 clear n0_ n1_ n2_ n3_ n4_
                 clear ho hb hg hat
                 refine hK.out _ _ ⟨(blk_cell BK278.out 0).trans rfl,(blk_cell BK278.out 1).trans rfl,(blk_cell BK278.out 2).trans rfl,(blk_cell BK278.out 3).trans rfl,(blk_cell BK278.out 4).trans rfl,(blk_cell BK278.out 5).trans rfl⟩ (fun hHeld => ?_)
                 clear hK K
                 refine norm_ (a':=?_) ?_ ?_
                 rotate_left
                 ·
                  show Act.put _ (some 115) _ = _
                  simp only [Act.put,sA,sB,sC,i64_w,i32_w]
                  rfl
                 refine one_ (i:=8) (N:=some 118) #[true,true,true,true,true,true,true,true,true,false,false] rfl rfl (one_of HT_.out (by kernel_rfl)) (by decide) (fun K hK => ?_)
                 refine goes_ Try.func79 (by kernel_rfl) rfl #[.int .i64 ((rd_T77 l0_3 x7_2).f1),.int .i64 2] (by rfl) rfl rfl (by (try simp only [sE,sH,sI]);first|done|rfl|(simp only [sG,sF];rfl)) ?_
                 with_reducible refine (spec_l02Number.calls k2 ((rd_T77 l0_3 x7_2).f1) 2 t285 _ A82.out).mono ?_
                 rintro e w101 ⟨v286,rfl,ho0,hb⟩
                 refine ⟨_,rfl,?_⟩
                 have n0_:=qk (Kd.R_elder' (by (with_reducible repeat (first|apply qd|apply qe|apply qf));exact HO281.out) (Kd.R_base ho0) hb)
                 have n1_:=qk (Kd.R_elder' (by (with_reducible repeat (first|apply qd|apply qe|apply qf));exact HO284.out) (Kd.R_base ho0) hb)
                 have n2_:=qk (Kd.R_lower (Kd.R_new' (Kd.R_new' ho0 (Kd.R_lt (by (with_reducible repeat (first|apply qd|apply qe|apply qf));exact HO281.out))) (Kd.R_lt (by (with_reducible repeat (first|apply qd|apply qe|apply qf));exact HO284.out))) (qm (by repeat (first|(with_reducible first|exact HB.out|apply qg|apply qh|apply qi|refine qj ?_ GE206.out|refine qj ?_ GE278.out)|exact HB.out))))
                 have n3_:=qk (ql (g:=gb206) (o:=.cells #[.int .i64 a0_0,.int .i64 a0_1,.slice A0_2 l0_2.length c0_2,.slice (some ad277) l0_3.length c0_3] 31 (0,0)) (by (with_reducible repeat (first|apply qa|apply qb|apply qc));exact BK206.out) hb)
                 have n4_:=qk (ql (g:=gb278) (o:=.cells #[.int .i64 ((rd_T77 l0_3 x7_2).f0),.int .i64 ((rd_T77 l0_3 x7_2).f1),.int .i64 ((rd_T77 l0_3 x7_2).f2.f0),.int .i64 ((rd_T77 l0_3 x7_2).f2.f1),.int .i64 ((rd_T77 l0_3 x7_2).f2.f2),.int .i64 ((rd_T77 l0_3 x7_2).f2.f3)] 77 (0,0)) (by (with_reducible repeat (first|apply qa|apply qb|apply qc));exact BK278.out) hb)
                 have n5_:=qk (sN (by repeat (first|(with_reducible first|exact HB.out|apply qg|apply qh|apply qi|refine qj ?_ GE206.out|refine qj ?_ GE278.out)|exact HB.out)) hb)
                 clear HO281
                 clear HO284
                 clear BK206
                 clear BK278
                 clear HB
                 have HO281:=n0_
                 have HO284:=n1_
                 have HO287:=n2_
                 have BK206:=n3_
                 have BK278:=n4_
                 have HB:=n5_
                 clear n0_ n1_ n2_ n3_ n4_ n5_
                 (try clear hb)
                 (try clear hb2)
                 (try clear hk)
                 (try clear hi)
                 (try clear ho0)
                 obtain ⟨Ao103,co103,eo103⟩:=Kd.R_slice HO287.out
                 (first|subst eo103|(injection eo103 with f1_ f2_ f3_;have f4_:=f1_.symm;have f5_:=f3_.symm;clear f1_ f2_ f3_;subst f4_;subst f5_))
                 refine hK.out _ _ ⟨(blk_cell BK278.out 0).trans rfl,(blk_cell BK278.out 1).trans rfl,(blk_cell BK278.out 2).trans rfl,(blk_cell BK278.out 3).trans rfl,(blk_cell BK278.out 4).trans rfl,(blk_cell BK278.out 5).trans rfl⟩ (fun hHeld => ?_)
                 clear hK K
                 refine norm_ (a':=?_) ?_ ?_
                 rotate_left
                 ·
                  show Act.put _ (some 118) _ = _
                  simp only [Act.put,sA,sB,sC,i64_w,i32_w]
                  rfl
                 refine one_ (i:=9) (N:=some 119) #[true,true,true,true,true,true,true,true,true,true,false] rfl rfl (one_of HT_.out (by kernel_rfl)) (by decide) (fun K hK => ?_)
                 refine Kd.R_append_rows_step (Kd.int .u8) (w0:=w) w.heap.size (by rfl) (.tmp 115) (.tmp 118) 38 5 (.int .u8 0) 1 rfl Try.underlying38 info5 rfl (by decide) (by omega) v283 y282 t285 _ _ _ (fun k_ => some k_ ≠ (.slice Ao100 y279.length co100 : Value).ownBlock ∧ some k_ ≠ (.slice Ao103 t285.length co103 : Value).ownBlock) (fun _ => False) rfl rfl ?aO ?aR (fun _ _ h => h) (fun _ h => h.elim) ?aF ?aB ?aS ?aL ?_
                 (case aR => repeat (first|exact (Kd.R_reads' HO287.out).2.2|(with_reducible refine Kd.C_alloc ?_ _)|(with_reducible refine Kd.C_drewN ?_ _)|(with_reducible refine Kd.C_drew ?_)))
                 (case aB => exact (by repeat (first|(with_reducible first|exact HB.out|apply qg|apply qh|apply qi|refine qj ?_ GE206.out|refine qj ?_ GE278.out)|exact HB.out)))
                 (case aF => exact (fun k_ hk => ⟨Kd.fresh' (Kd.R_lt (by (with_reducible repeat (first|apply qd|apply qe|apply qf));exact HO281.out)) k_ hk,Kd.fresh' (Kd.R_lt (by (with_reducible repeat (first|apply qd|apply qe|apply qf));exact HO287.out)) k_ hk⟩))
                 (case aO => exact (by (with_reducible repeat (first|apply qd|apply qe|apply qf));exact HO284.out))
                 (case aS => exact (qm (by repeat (first|(with_reducible first|exact HB.out|apply qg|apply qh|apply qi|refine qj ?_ GE206.out|refine qj ?_ GE278.out)|exact HB.out))))
                 (case aL => have:=LMc83.out;omega)
                 intro v289 w102 ho hb hg hat
                 rw [← Ny288.out] at ho
                 have n0_:=qk (blk_grown (g:=gb206) (o:=.cells #[.int .i64 a0_0,.int .i64 a0_1,.slice A0_2 l0_2.length c0_2,.slice (some ad277) l0_3.length c0_3] 31 (0,0)) (by (with_reducible repeat (first|apply qa|apply qb|apply qc));exact BK206.out) hg (Kd.R_ne HO284.out BK206.out (by decide)))
                 have n1_:=qk (blk_grown (g:=gb278) (o:=.cells #[.int .i64 ((rd_T77 l0_3 x7_2).f0),.int .i64 ((rd_T77 l0_3 x7_2).f1),.int .i64 ((rd_T77 l0_3 x7_2).f2.f0),.int .i64 ((rd_T77 l0_3 x7_2).f2.f1),.int .i64 ((rd_T77 l0_3 x7_2).f2.f2),.int .i64 ((rd_T77 l0_3 x7_2).f2.f3)] 77 (0,0)) (by (with_reducible repeat (first|apply qa|apply qb|apply qc));exact BK278.out) hg (Kd.R_ne HO284.out BK278.out (by decide)))
                 have n2_:=qk (Kd.R_after (ok:=(fun k_ => some k_ ≠ (.slice Ao103 t285.length co103 : Value).ownBlock)) (by (with_reducible repeat (first|apply qd|apply qe|apply qf));exact qn HO281.out (fun _ hk => ⟨hk.2,hk.1.2⟩)) hg hat)
                 have n3_:=qk (Kd.R_after (ok:=(fun k_ => some k_ ≠ (.slice Ao100 y279.length co100 : Value).ownBlock)) (by (with_reducible repeat (first|apply qd|apply qe|apply qf));exact qn HO287.out (fun _ hk => ⟨hk.1.2,hk.2⟩)) hg hat)
                 have n4_:=qk (hb)
                 have n5_:=qk (ho)
                 clear BK206
                 clear BK278
                 clear HO281
                 clear HO287
                 clear HB
                 clear HO284
                 have BK206:=n0_
                 have BK278:=n1_
                 have HO281:=n2_
                 have HO287:=n3_
                 have HB:=n4_
                 have HO290:=n5_
                 clear n0_ n1_ n2_ n3_ n4_ n5_
                 clear ho hb hg hat
                 refine hK.out _ _ ⟨(blk_cell BK278.out 0).trans rfl,(blk_cell BK278.out 1).trans rfl,(blk_cell BK278.out 2).trans rfl,(blk_cell BK278.out 3).trans rfl,(blk_cell BK278.out 4).trans rfl,(blk_cell BK278.out 5).trans rfl⟩ (fun hHeld => ?_)
                 clear hK K
                 refine norm_ (a':=?_) ?_ ?_
                 rotate_left
                 ·
                  show Act.put _ (some 119) _ = _
                  simp only [Act.put,sA,sB,sC,i64_w,i32_w]
                  rfl
                 refine pure_ (i:=10) (N:=some 3) (v:=?_) (a':=?_) #[true,true,true,true,true,true,true,true,true,true,true] rfl rfl (any_of HT_.out (by kernel_rfl)) (fun _ _ _ h => h) (Or.inl ⟨by rfl,?_⟩) ?_ ?_
                 rotate_left
                 ·
                  intro w'
                  go_simp
                  with_reducible rfl
                 rotate_left
                 ·
                  simp only [Act.put,sA,sB,sC,i64_w,i32_w]
                  rfl
                 refine done_ (done_of HT_.out (by kernel_rfl)) ?_
                 try go_wp2
                 have n0_:=qk (qf HO281.out)
                 have n1_:=qk (qf HO287.out)
                 have n2_:=qk (qf HO290.out)
                 have n3_:=qk (qb BK206.out)
                 have n4_:=qk (qb BK278.out)
                 have n5_:=qk (qi HB.out)
                 clear HO281
                 clear HO287
                 clear HO290
                 clear BK206
                 clear BK278
                 clear HB
                 have HO281:=n0_
                 have HO287:=n1_
                 have HO290:=n2_
                 have BK206:=n3_
                 have BK278:=n4_
                 have HB:=n5_
                 clear n0_ n1_ n2_ n3_ n4_ n5_
                 refine start_ (n:=13) (S:=fun w' => w'.cell? ⟨gb278,0,none⟩ = some (.int .i64 ((rd_T77 l0_3 x7_2).f0)) ∧ w'.cell? ⟨gb278,1,none⟩ = some (.int .i64 ((rd_T77 l0_3 x7_2).f1)) ∧ w'.cell? ⟨gb278,2,none⟩ = some (.int .i64 ((rd_T77 l0_3 x7_2).f2.f0)) ∧ w'.cell? ⟨gb278,3,none⟩ = some (.int .i64 ((rd_T77 l0_3 x7_2).f2.f1)) ∧ w'.cell? ⟨gb278,4,none⟩ = some (.int .i64 ((rd_T77 l0_3 x7_2).f2.f2)) ∧ w'.cell? ⟨gb278,5,none⟩ = some (.int .i64 ((rd_T77 l0_3 x7_2).f2.f3))) (ds:=[]) #[false,false,false,false,false,false,false,false,false,false,false,false,false] (by kernel_rfl) rfl rfl ⟨(blk_cell BK278.out 0).trans rfl,(blk_cell BK278.out 1).trans rfl,(blk_cell BK278.out 2).trans rfl,(blk_cell BK278.out 3).trans rfl,(blk_cell BK278.out 4).trans rfl,(blk_cell BK278.out 5).trans rfl⟩ (fun hHeld => ?_);refine with_tabW spec_l05Bytes.tab20 spec_l05Bytes.bits20 (fun HT_ HW_ => ?_)
                 generalize w102.drew = w104 at HO281 HO287 HO290 BK206 BK278 HB hHeld ⊢
                 refine pure_ (i:=0) (N:=some 120) (v:=?_) (a':=?_) #[true,false,false,false,false,false,false,false,false,false,false,false,false] rfl rfl (any_of HT_.out (by kernel_rfl)) (fun _ _ _ h => h) (Or.inl ⟨by rfl,?_⟩) ?_ ?_
                 rotate_left
                 ·
                  intro w'
                  go_simp
                  with_reducible rfl
                 rotate_left
                 ·
                  simp only [Act.put,sA,sB,sC,i64_w,i32_w]
                  rfl
                 refine pure_ (i:=1) (N:=some 121) (v:=?_) (a':=?_) #[true,true,false,false,false,false,false,false,false,false,false,false,false] rfl rfl (any_of HT_.out (by kernel_rfl)) (fun _ _ _ h => h) (Or.inl ⟨by rfl,?_⟩) ?_ ?_
                 rotate_left
                 ·
                  intro w'
                  go_simp
                  with_reducible rfl
                 rotate_left
                 ·
                  simp only [Act.put,sA,sB,sC,i64_w,i32_w]
                  rfl
                 refine pure_ (i:=2) (N:=some 122) (v:=?_) (a':=?_) #[true,true,true,false,false,false,false,false,false,false,false,false,false] rfl rfl (any_of HT_.out (by kernel_rfl)) (fun _ _ _ h => h) (Or.inl ⟨by rfl,?_⟩) ?_ ?_
                 rotate_left
                 ·
                  intro w'
                  go_simp
                  with_reducible rfl
                 rotate_left
                 ·
                  simp only [Act.put,sA,sB,sC,i64_w,i32_w]
                  rfl
                 refine pure_ (i:=7) (N:=some 127) (v:=?_) (a':=?_) #[true,true,true,false,false,false,false,true,false,false,false,false,false] rfl rfl (any_of HT_.out (by kernel_rfl)) (fun _ _ _ h => h) (Or.inl ⟨by rfl,?_⟩) ?_ ?_
                 rotate_left
                 ·
                  intro w'
                  go_simp
                  with_reducible rfl
                 rotate_left
                 ·
                  simp only [Act.put,sA,sB,sC,i64_w,i32_w]
                  rfl
                 refine pure_ (i:=8) (N:=some 128) (v:=?_) (a':=?_) #[true,true,true,false,false,false,false,true,true,false,false,false,false] rfl rfl (any_of HT_.out (by kernel_rfl)) (fun _ _ _ h => h) (Or.inl ⟨by rfl,?_⟩) ?_ ?_
                 rotate_left
                 ·
                  intro w'
                  go_simp
                  with_reducible rfl
                 rotate_left
                 ·
                  simp only [Act.put,sA,sB,sC,i64_w,i32_w]
                  rfl
                 refine take_ (i:=3) (N:=some 123) (v:=?_) (a':=?_) #[true,true,true,true,false,false,false,true,true,false,false,false,false] rfl rfl (take_ofW HT_.out HW_.out (by kernel_rfl)) (fun _ _ _ h => h) (Or.inl ⟨by rfl,?_⟩) hHeld ?_ ?_
                 rotate_left
                 ·
                  rintro w' ⟨s0,s1,s2,s3,s4,s5⟩
                  go_simp
                  with_reducible rfl
                 rotate_left
                 ·
                  simp only [Act.put,sA,sB,sC,i64_w,i32_w]
                  rfl
                 refine pure_ (i:=4) (N:=some 124) (v:=?_) (a':=?_) #[true,true,true,true,true,false,false,true,true,false,false,false,false] rfl rfl (any_of HT_.out (by kernel_rfl)) (fun _ _ _ h => h) (Or.inl ⟨by rfl,?_⟩) ?_ ?_
                 rotate_left
                 ·
                  intro w'
                  go_simp
                  with_reducible rfl
                 rotate_left
                 ·
                  simp only [Act.put,sA,sB,sC,i64_w,i32_w]
                  rfl
                 refine take_ (i:=9) (N:=some 129) (v:=?_) (a':=?_) #[true,true,true,true,true,false,false,true,true,true,false,false,false] rfl rfl (take_ofW HT_.out HW_.out (by kernel_rfl)) (fun _ _ _ h => h) (Or.inl ⟨by rfl,?_⟩) hHeld ?_ ?_
                 rotate_left
                 ·
                  rintro w' ⟨s0,s1,s2,s3,s4,s5⟩
                  go_simp
                  with_reducible rfl
                 rotate_left
                 ·
                  simp only [Act.put,sA,sB,sC,i64_w,i32_w]
                  rfl
                 refine one_ (i:=5) (N:=some 125) #[true,true,true,true,true,true,false,true,true,true,false,false,false] rfl rfl (one_of HT_.out (by kernel_rfl)) (by decide) (fun K hK => ?_)
                 refine Kd.R_lit_step (Kd.int .u8) _ 5 ?hg (N:=125) ?hd (xs:=([((rd_T77 l0_3 x7_2).f2.f0) % 256] : List Int)) (inner:=[.int .u8 (((rd_T77 l0_3 x7_2).f2.f0) % 256)]) (ok:=fun _ => True) (okp:=fun _ => True) ?hr ?hp (fun _ hk => hk) trivial (Below.refl _ _) (Nat.le_refl _) (by simp) ?_;(case hd => rfl);(case hg => rfl);(case hr => first|(go_simp;done)|(go_simp;rfl));(case hp => exact (Reps.one (show Kd.M (Kd.int .u8) _ _ _ (((rd_T77 l0_3 x7_2).f2.f0) % 256) [.int .u8 (((rd_T77 l0_3 x7_2).f2.f0) % 256)] from rfl) (Reps.none _ _)))
                 intro v292 w105 ho106 hb hg_ hnew_
                 clear hg_ hnew_
                 (first|rw [← Ny291.out] at ho106|(simp only [Int.reduceToNat] at ho106;rw [← Ny291.out] at ho106))
                 have n0_:=qk (Kd.R_elder' (by (with_reducible repeat (first|apply qd|apply qe|apply qf));exact HO281.out) (Kd.R_base ho106) hb)
                 have n1_:=qk (Kd.R_elder' (by (with_reducible repeat (first|apply qd|apply qe|apply qf));exact HO287.out) (Kd.R_base ho106) hb)
                 have n2_:=qk (Kd.R_elder' (by (with_reducible repeat (first|apply qd|apply qe|apply qf));exact HO290.out) (Kd.R_base ho106) hb)
                 have n3_:=qk (Kd.R_lower (Kd.R_new' (Kd.R_new' (Kd.R_new' ho106 (Kd.R_lt (by (with_reducible repeat (first|apply qd|apply qe|apply qf));exact HO281.out))) (Kd.R_lt (by (with_reducible repeat (first|apply qd|apply qe|apply qf));exact HO287.out))) (Kd.R_lt (by (with_reducible repeat (first|apply qd|apply qe|apply qf));exact HO290.out))) (qm (by repeat (first|(with_reducible first|exact HB.out|apply qg|apply qh|apply qi|refine qj ?_ GE206.out|refine qj ?_ GE278.out)|exact HB.out))))
                 have n4_:=qk (ql (g:=gb206) (o:=.cells #[.int .i64 a0_0,.int .i64 a0_1,.slice A0_2 l0_2.length c0_2,.slice (some ad277) l0_3.length c0_3] 31 (0,0)) (by (with_reducible repeat (first|apply qa|apply qb|apply qc));exact BK206.out) hb)
                 have n5_:=qk (ql (g:=gb278) (o:=.cells #[.int .i64 ((rd_T77 l0_3 x7_2).f0),.int .i64 ((rd_T77 l0_3 x7_2).f1),.int .i64 ((rd_T77 l0_3 x7_2).f2.f0),.int .i64 ((rd_T77 l0_3 x7_2).f2.f1),.int .i64 ((rd_T77 l0_3 x7_2).f2.f2),.int .i64 ((rd_T77 l0_3 x7_2).f2.f3)] 77 (0,0)) (by (with_reducible repeat (first|apply qa|apply qb|apply qc));exact BK278.out) hb)
                 have n6_:=qk (sN (by repeat (first|(with_reducible first|exact HB.out|apply qg|apply qh|apply qi|refine qj ?_ GE206.out|refine qj ?_ GE278.out)|exact HB.out)) hb)
                 clear HO281
                 clear HO287
                 clear HO290
                 clear BK206
                 clear BK278
                 clear HB
                 have HO281:=n0_
                 have HO287:=n1_
                 have HO290:=n2_
                 have HO293:=n3_
                 have BK206:=n4_
                 have BK278:=n5_
                 have HB:=n6_
                 clear n0_ n1_ n2_ n3_ n4_ n5_ n6_
                 clear hb ho106
                 obtain ⟨Ao108,co108,eo108⟩:=Kd.R_slice HO293.out
                 (first|subst eo108|(injection eo108 with f1_ f2_ f3_;have f4_:=f1_.symm;have f5_:=f3_.symm;clear f1_ f2_ f3_;subst f4_;subst f5_))
                 refine hK.out _ _ ⟨(blk_cell BK278.out 0).trans rfl,(blk_cell BK278.out 1).trans rfl,(blk_cell BK278.out 2).trans rfl,(blk_cell BK278.out 3).trans rfl,(blk_cell BK278.out 4).trans rfl,(blk_cell BK278.out 5).trans rfl⟩ (fun hHeld => ?_)
                 clear hK K
                 refine norm_ (a':=?_) ?_ ?_
                 rotate_left
                 ·
                  show Act.put _ (some 125) _ = _
                  simp only [Act.put,sA,sB,sC,i64_w,i32_w]
                  rfl
                 refine one_ (i:=6) (N:=some 126) #[true,true,true,true,true,true,true,true,true,true,false,false,false] rfl rfl (one_of HT_.out (by kernel_rfl)) (by decide) (fun K hK => ?_)
                 refine Kd.R_append_rows_step (Kd.int .u8) (w0:=w) w.heap.size (by rfl) (.tmp 120) (.tmp 125) 38 5 (.int .u8 0) 1 rfl Try.underlying38 info5 rfl (by decide) (by omega) v289 y288 y291 _ _ _ (fun k_ => some k_ ≠ (.slice Ao100 y279.length co100 : Value).ownBlock ∧ some k_ ≠ (.slice Ao103 t285.length co103 : Value).ownBlock ∧ some k_ ≠ (.slice Ao108 y291.length co108 : Value).ownBlock) (fun _ => False) rfl rfl ?aO ?aR (fun _ _ h => h) (fun _ h => h.elim) ?aF ?aB ?aS ?aL ?_
                 (case aR => repeat (first|exact (Kd.R_reads' HO293.out).2.2|(with_reducible refine Kd.C_alloc ?_ _)|(with_reducible refine Kd.C_drewN ?_ _)|(with_reducible refine Kd.C_drew ?_)))
                 (case aB => exact (by repeat (first|(with_reducible first|exact HB.out|apply qg|apply qh|apply qi|refine qj ?_ GE206.out|refine qj ?_ GE278.out)|exact HB.out)))
                 (case aF => exact (fun k_ hk => ⟨Kd.fresh' (Kd.R_lt (by (with_reducible repeat (first|apply qd|apply qe|apply qf));exact HO281.out)) k_ hk,Kd.fresh' (Kd.R_lt (by (with_reducible repeat (first|apply qd|apply qe|apply qf));exact HO287.out)) k_ hk,Kd.fresh' (Kd.R_lt (by (with_reducible repeat (first|apply qd|apply qe|apply qf));exact HO293.out)) k_ hk⟩))
                 (case aO => exact (by (with_reducible repeat (first|apply qd|apply qe|apply qf));exact qn HO290.out (fun _ hk => ⟨hk.1.1,⟨hk.1.2,hk.2⟩⟩)))
                 (case aS => exact (qm (by repeat (first|(with_reducible first|exact HB.out|apply qg|apply qh|apply qi|refine qj ?_ GE206.out|refine qj ?_ GE278.out)|exact HB.out))))
                 (case aL => have:=LMc84.out;omega)
                 intro v295 w107 ho hb hg hat
                 rw [← Ny294.out] at ho
                 have n0_:=qk (blk_grown (g:=gb206) (o:=.cells #[.int .i64 a0_0,.int .i64 a0_1,.slice A0_2 l0_2.length c0_2,.slice (some ad277) l0_3.length c0_3] 31 (0,0)) (by (with_reducible repeat (first|apply qa|apply qb|apply qc));exact BK206.out) hg (Kd.R_ne HO290.out BK206.out (by decide)))
                 have n1_:=qk (blk_grown (g:=gb278) (o:=.cells #[.int .i64 ((rd_T77 l0_3 x7_2).f0),.int .i64 ((rd_T77 l0_3 x7_2).f1),.int .i64 ((rd_T77 l0_3 x7_2).f2.f0),.int .i64 ((rd_T77 l0_3 x7_2).f2.f1),.int .i64 ((rd_T77 l0_3 x7_2).f2.f2),.int .i64 ((rd_T77 l0_3 x7_2).f2.f3)] 77 (0,0)) (by (with_reducible repeat (first|apply qa|apply qb|apply qc));exact BK278.out) hg (Kd.R_ne HO290.out BK278.out (by decide)))
                 have n2_:=qk (Kd.R_after (ok:=(fun k_ => some k_ ≠ (.slice Ao103 t285.length co103 : Value).ownBlock ∧ some k_ ≠ (.slice Ao108 y291.length co108 : Value).ownBlock)) (by (with_reducible repeat (first|apply qd|apply qe|apply qf));exact qn HO281.out (fun _ hk => ⟨⟨hk.1.1,hk.2⟩,hk.1.2⟩)) hg hat)
                 have n3_:=qk (Kd.R_after (ok:=(fun k_ => some k_ ≠ (.slice Ao100 y279.length co100 : Value).ownBlock ∧ some k_ ≠ (.slice Ao108 y291.length co108 : Value).ownBlock)) (by (with_reducible repeat (first|apply qd|apply qe|apply qf));exact qn HO287.out (fun _ hk => ⟨⟨hk.1.1,hk.2⟩,hk.1.2⟩)) hg hat)
                 have n4_:=qk (Kd.R_after (ok:=(fun k_ => some k_ ≠ (.slice Ao100 y279.length co100 : Value).ownBlock ∧ some k_ ≠ (.slice Ao103 t285.length co103 : Value).ownBlock)) (by (with_reducible repeat (first|apply qd|apply qe|apply qf));exact qn HO293.out (fun _ hk => ⟨⟨hk.1.1.2,hk.1.2⟩,hk.2⟩)) hg hat)
                 have n5_:=qk (hb)
                 have n6_:=qk (ho)
                 clear BK206
                 clear BK278
                 clear HO281
                 clear HO287
                 clear HO293
                 clear HB
                 clear HO290
                 have BK206:=n0_
                 have BK278:=n1_
                 have HO281:=n2_
                 have HO287:=n3_
                 have HO293:=n4_
                 have HB:=n5_
                 have HO296:=n6_
                 clear n0_ n1_ n2_ n3_ n4_ n5_ n6_
                 clear ho hb hg hat
                 refine hK.out _ _ ⟨(blk_cell BK278.out 0).trans rfl,(blk_cell BK278.out 1).trans rfl,(blk_cell BK278.out 2).trans rfl,(blk_cell BK278.out 3).trans rfl,(blk_cell BK278.out 4).trans rfl,(blk_cell BK278.out 5).trans rfl⟩ (fun hHeld => ?_)
                 clear hK K
                 refine norm_ (a':=?_) ?_ ?_
                 rotate_left
                 ·
                  show Act.put _ (some 126) _ = _
                  simp only [Act.put,sA,sB,sC,i64_w,i32_w]
                  rfl
                 refine one_ (i:=10) (N:=some 130) #[true,true,true,true,true,true,true,true,true,true,true,false,false] rfl rfl (one_of HT_.out (by kernel_rfl)) (by decide) (fun K hK => ?_)
                 refine goes_ Try.func79 (by kernel_rfl) rfl #[.int .i64 ((rd_T77 l0_3 x7_2).f2.f1),.int .i64 3] (by rfl) rfl rfl (by (try simp only [sE,sH,sI]);first|done|rfl|(simp only [sG,sF];rfl)) ?_
                 with_reducible refine (spec_l02Number.calls k2 ((rd_T77 l0_3 x7_2).f2.f1) 3 t297 _ A85.out).mono ?_
                 rintro e w109 ⟨v298,rfl,ho0,hb⟩
                 refine ⟨_,rfl,?_⟩
                 have n0_:=qk (Kd.R_elder' (by (with_reducible repeat (first|apply qd|apply qe|apply qf));exact HO281.out) (Kd.R_base ho0) hb)
                 have n1_:=qk (Kd.R_elder' (by (with_reducible repeat (first|apply qd|apply qe|apply qf));exact HO287.out) (Kd.R_base ho0) hb)
                 have n2_:=qk (Kd.R_elder' (by (with_reducible repeat (first|apply qd|apply qe|apply qf));exact HO293.out) (Kd.R_base ho0) hb)
                 have n3_:=qk (Kd.R_elder' (by (with_reducible repeat (first|apply qd|apply qe|apply qf));exact HO296.out) (Kd.R_base ho0) hb)
                 have n4_:=qk (Kd.R_lower (Kd.R_new' (Kd.R_new' (Kd.R_new' (Kd.R_new' ho0 (Kd.R_lt (by (with_reducible repeat (first|apply qd|apply qe|apply qf));exact HO281.out))) (Kd.R_lt (by (with_reducible repeat (first|apply qd|apply qe|apply qf));exact HO287.out))) (Kd.R_lt (by (with_reducible repeat (first|apply qd|apply qe|apply qf));exact HO293.out))) (Kd.R_lt (by (with_reducible repeat (first|apply qd|apply qe|apply qf));exact HO296.out))) (qm (by repeat (first|(with_reducible first|exact HB.out|apply qg|apply qh|apply qi|refine qj ?_ GE206.out|refine qj ?_ GE278.out)|exact HB.out))))
                 have n5_:=qk (ql (g:=gb206) (o:=.cells #[.int .i64 a0_0,.int .i64 a0_1,.slice A0_2 l0_2.length c0_2,.slice (some ad277) l0_3.length c0_3] 31 (0,0)) (by (with_reducible repeat (first|apply qa|apply qb|apply qc));exact BK206.out) hb)
                 have n6_:=qk (ql (g:=gb278) (o:=.cells #[.int .i64 ((rd_T77 l0_3 x7_2).f0),.int .i64 ((rd_T77 l0_3 x7_2).f1),.int .i64 ((rd_T77 l0_3 x7_2).f2.f0),.int .i64 ((rd_T77 l0_3 x7_2).f2.f1),.int .i64 ((rd_T77 l0_3 x7_2).f2.f2),.int .i64 ((rd_T77 l0_3 x7_2).f2.f3)] 77 (0,0)) (by (with_reducible repeat (first|apply qa|apply qb|apply qc));exact BK278.out) hb)
                 have n7_:=qk (sN (by repeat (first|(with_reducible first|exact HB.out|apply qg|apply qh|apply qi|refine qj ?_ GE206.out|refine qj ?_ GE278.out)|exact HB.out)) hb)
                 clear HO281
                 clear HO287
                 clear HO293
                 clear HO296
                 clear BK206
                 clear BK278
                 clear HB
                 have HO281:=n0_
                 have HO287:=n1_
                 have HO293:=n2_
                 have HO296:=n3_
                 have HO299:=n4_
                 have BK206:=n5_
                 have BK278:=n6_
                 have HB:=n7_
                 clear n0_ n1_ n2_ n3_ n4_ n5_ n6_ n7_
                 (try clear hb)
                 (try clear hb2)
                 (try clear hk)
                 (try clear hi)
                 (try clear ho0)
                 obtain ⟨Ao111,co111,eo111⟩:=Kd.R_slice HO299.out
                 (first|subst eo111|(injection eo111 with f1_ f2_ f3_;have f4_:=f1_.symm;have f5_:=f3_.symm;clear f1_ f2_ f3_;subst f4_;subst f5_))
                 refine hK.out _ _ ⟨(blk_cell BK278.out 0).trans rfl,(blk_cell BK278.out 1).trans rfl,(blk_cell BK278.out 2).trans rfl,(blk_cell BK278.out 3).trans rfl,(blk_cell BK278.out 4).trans rfl,(blk_cell BK278.out 5).trans rfl⟩ (fun hHeld => ?_)
                 clear hK K
                 refine norm_ (a':=?_) ?_ ?_
                 rotate_left
                 ·
                  show Act.put _ (some 130) _ = _
                  simp only [Act.put,sA,sB,sC,i64_w,i32_w]
                  rfl
                 refine one_ (i:=11) (N:=some 131) #[true,true,true,true,true,true,true,true,true,true,true,true,false] rfl rfl (one_of HT_.out (by kernel_rfl)) (by decide) (fun K hK => ?_)
                 refine Kd.R_append_rows_step (Kd.int .u8) (w0:=w) w.heap.size (by rfl) (.tmp 126) (.tmp 130) 38 5 (.int .u8 0) 1 rfl Try.underlying38 info5 rfl (by decide) (by omega) v295 y294 t297 _ _ _ (fun k_ => some k_ ≠ (.slice Ao100 y279.length co100 : Value).ownBlock ∧ some k_ ≠ (.slice Ao103 t285.length co103 : Value).ownBlock ∧ some k_ ≠ (.slice Ao108 y291.length co108 : Value).ownBlock ∧ some k_ ≠ (.slice Ao111 t297.length co111 : Value).ownBlock) (fun _ => False) rfl rfl ?aO ?aR (fun _ _ h => h) (fun _ h => h.elim) ?aF ?aB ?aS ?aL ?_
                 (case aR => repeat (first|exact (Kd.R_reads' HO299.out).2.2|(with_reducible refine Kd.C_alloc ?_ _)|(with_reducible refine Kd.C_drewN ?_ _)|(with_reducible refine Kd.C_drew ?_)))
                 (case aB => exact (by repeat (first|(with_reducible first|exact HB.out|apply qg|apply qh|apply qi|refine qj ?_ GE206.out|refine qj ?_ GE278.out)|exact HB.out)))
                 (case aF => exact (fun k_ hk => ⟨Kd.fresh' (Kd.R_lt (by (with_reducible repeat (first|apply qd|apply qe|apply qf));exact HO281.out)) k_ hk,Kd.fresh' (Kd.R_lt (by (with_reducible repeat (first|apply qd|apply qe|apply qf));exact HO287.out)) k_ hk,Kd.fresh' (Kd.R_lt (by (with_reducible repeat (first|apply qd|apply qe|apply qf));exact HO293.out)) k_ hk,Kd.fresh' (Kd.R_lt (by (with_reducible repeat (first|apply qd|apply qe|apply qf));exact HO299.out)) k_ hk⟩))
                 (case aO => exact (by (with_reducible repeat (first|apply qd|apply qe|apply qf));exact qn HO296.out (fun _ hk => ⟨hk.1.1,⟨hk.1.2.1,⟨hk.1.2.2,hk.2⟩⟩⟩)))
                 (case aS => exact (qm (by repeat (first|(with_reducible first|exact HB.out|apply qg|apply qh|apply qi|refine qj ?_ GE206.out|refine qj ?_ GE278.out)|exact HB.out))))
                 (case aL => have:=LMc86.out;omega)
                 intro v301 w110 ho hb hg hat
                 rw [← Ny300.out] at ho
                 have n0_:=qk (blk_grown (g:=gb206) (o:=.cells #[.int .i64 a0_0,.int .i64 a0_1,.slice A0_2 l0_2.length c0_2,.slice (some ad277) l0_3.length c0_3] 31 (0,0)) (by (with_reducible repeat (first|apply qa|apply qb|apply qc));exact BK206.out) hg (Kd.R_ne HO296.out BK206.out (by decide)))
                 have n1_:=qk (blk_grown (g:=gb278) (o:=.cells #[.int .i64 ((rd_T77 l0_3 x7_2).f0),.int .i64 ((rd_T77 l0_3 x7_2).f1),.int .i64 ((rd_T77 l0_3 x7_2).f2.f0),.int .i64 ((rd_T77 l0_3 x7_2).f2.f1),.int .i64 ((rd_T77 l0_3 x7_2).f2.f2),.int .i64 ((rd_T77 l0_3 x7_2).f2.f3)] 77 (0,0)) (by (with_reducible repeat (first|apply qa|apply qb|apply qc));exact BK278.out) hg (Kd.R_ne HO296.out BK278.out (by decide)))
                 have n2_:=qk (Kd.R_after (ok:=(fun k_ => some k_ ≠ (.slice Ao103 t285.length co103 : Value).ownBlock ∧ some k_ ≠ (.slice Ao108 y291.length co108 : Value).ownBlock ∧ some k_ ≠ (.slice Ao111 t297.length co111 : Value).ownBlock)) (by (with_reducible repeat (first|apply qd|apply qe|apply qf));exact qn HO281.out (fun _ hk => ⟨⟨hk.1.1.1,⟨hk.1.1.2,hk.2⟩⟩,hk.1.2⟩)) hg hat)
                 have n3_:=qk (Kd.R_after (ok:=(fun k_ => some k_ ≠ (.slice Ao100 y279.length co100 : Value).ownBlock ∧ some k_ ≠ (.slice Ao108 y291.length co108 : Value).ownBlock ∧ some k_ ≠ (.slice Ao111 t297.length co111 : Value).ownBlock)) (by (with_reducible repeat (first|apply qd|apply qe|apply qf));exact qn HO287.out (fun _ hk => ⟨⟨hk.1.1.1,⟨hk.1.1.2,hk.2⟩⟩,hk.1.2⟩)) hg hat)
                 have n4_:=qk (Kd.R_after (ok:=(fun k_ => some k_ ≠ (.slice Ao100 y279.length co100 : Value).ownBlock ∧ some k_ ≠ (.slice Ao103 t285.length co103 : Value).ownBlock ∧ some k_ ≠ (.slice Ao111 t297.length co111 : Value).ownBlock)) (by (with_reducible repeat (first|apply qd|apply qe|apply qf));exact qn HO293.out (fun _ hk => ⟨⟨hk.1.1.1,⟨hk.1.1.2,hk.2⟩⟩,hk.1.2⟩)) hg hat)
                 have n5_:=qk (Kd.R_after (ok:=(fun k_ => some k_ ≠ (.slice Ao100 y279.length co100 : Value).ownBlock ∧ some k_ ≠ (.slice Ao103 t285.length co103 : Value).ownBlock ∧ some k_ ≠ (.slice Ao108 y291.length co108 : Value).ownBlock)) (by (with_reducible repeat (first|apply qd|apply qe|apply qf));exact qn HO299.out (fun _ hk => ⟨⟨hk.1.1.1.2,⟨hk.1.1.2,hk.1.2⟩⟩,hk.2⟩)) hg hat)
                 have n6_:=qk (hb)
                 have n7_:=qk (ho)
                 clear BK206
                 clear BK278
                 clear HO281
                 clear HO287
                 clear HO293
                 clear HO299
                 clear HB
                 clear HO296
                 have BK206:=n0_
                 have BK278:=n1_
                 have HO281:=n2_
                 have HO287:=n3_
                 have HO293:=n4_
                 have HO299:=n5_
                 have HB:=n6_
                 have HO302:=n7_
                 clear n0_ n1_ n2_ n3_ n4_ n5_ n6_ n7_
                 clear ho hb hg hat
                 refine hK.out _ _ ⟨(blk_cell BK278.out 0).trans rfl,(blk_cell BK278.out 1).trans rfl,(blk_cell BK278.out 2).trans rfl,(blk_cell BK278.out 3).trans rfl,(blk_cell BK278.out 4).trans rfl,(blk_cell BK278.out 5).trans rfl⟩ (fun hHeld => ?_)
                 clear hK K
                 refine norm_ (a':=?_) ?_ ?_
                 rotate_left
                 ·
                  show Act.put _ (some 131) _ = _
                  simp only [Act.put,sA,sB,sC,i64_w,i32_w]
                  rfl
                 refine pure_ (i:=12) (N:=some 3) (v:=?_) (a':=?_) #[true,true,true,true,true,true,true,true,true,true,true,true,true] rfl rfl (any_of HT_.out (by kernel_rfl)) (fun _ _ _ h => h) (Or.inl ⟨by rfl,?_⟩) ?_ ?_
                 rotate_left
                 ·
                  intro w'
                  go_simp
                  with_reducible rfl
                 rotate_left
                 ·
                  simp only [Act.put,sA,sB,sC,i64_w,i32_w]
                  rfl
                 refine done_ (done_of HT_.out (by kernel_rfl)) ?_
                 try go_wp2
                 have n0_:=qk (qf HO281.out)
                 have n1_:=qk (qf HO287.out)
                 have n2_:=qk (qf HO293.out)
                 have n3_:=qk (qf HO299.out)
                 have n4_:=qk (qf HO302.out)
                 have n5_:=qk (qb BK206.out)
                 have n6_:=qk (qb BK278.out)
                 have n7_:=qk (qi HB.out)
                 clear HO281
                 clear HO287
                 clear HO293
                 clear HO299
                 clear HO302
                 clear BK206
                 clear BK278
                 clear HB
                 have HO281:=n0_
                 have HO287:=n1_
                 have HO293:=n2_
                 have HO299:=n3_
                 have HO302:=n4_
                 have BK206:=n5_
                 have BK278:=n6_
                 have HB:=n7_
                 clear n0_ n1_ n2_ n3_ n4_ n5_ n6_ n7_
                 refine start_ (n:=13) (S:=fun w' => w'.cell? ⟨gb278,0,none⟩ = some (.int .i64 ((rd_T77 l0_3 x7_2).f0)) ∧ w'.cell? ⟨gb278,1,none⟩ = some (.int .i64 ((rd_T77 l0_3 x7_2).f1)) ∧ w'.cell? ⟨gb278,2,none⟩ = some (.int .i64 ((rd_T77 l0_3 x7_2).f2.f0)) ∧ w'.cell? ⟨gb278,3,none⟩ = some (.int .i64 ((rd_T77 l0_3 x7_2).f2.f1)) ∧ w'.cell? ⟨gb278,4,none⟩ = some (.int .i64 ((rd_T77 l0_3 x7_2).f2.f2)) ∧ w'.cell? ⟨gb278,5,none⟩ = some (.int .i64 ((rd_T77 l0_3 x7_2).f2.f3))) (ds:=[]) #[false,false,false,false,false,false,false,false,false,false,false,false,false] (by kernel_rfl) rfl rfl ⟨(blk_cell BK278.out 0).trans rfl,(blk_cell BK278.out 1).trans rfl,(blk_cell BK278.out 2).trans rfl,(blk_cell BK278.out 3).trans rfl,(blk_cell BK278.out 4).trans rfl,(blk_cell BK278.out 5).trans rfl⟩ (fun hHeld => ?_);refine with_tabW spec_l05Bytes.tab21 spec_l05Bytes.bits21 (fun HT_ HW_ => ?_)
                 generalize w110.drew = w112 at HO281 HO287 HO293 HO299 HO302 BK206 BK278 HB hHeld ⊢
                 refine pure_ (i:=0) (N:=some 132) (v:=?_) (a':=?_) #[true,false,false,false,false,false,false,false,false,false,false,false,false] rfl rfl (any_of HT_.out (by kernel_rfl)) (fun _ _ _ h => h) (Or.inl ⟨by rfl,?_⟩) ?_ ?_
                 rotate_left
                 ·
                  intro w'
                  go_simp
                  with_reducible rfl
                 rotate_left
                 ·
                  simp only [Act.put,sA,sB,sC,i64_w,i32_w]
                  rfl
                 refine pure_ (i:=1) (N:=some 133) (v:=?_) (a':=?_) #[true,true,false,false,false,false,false,false,false,false,false,false,false] rfl rfl (any_of HT_.out (by kernel_rfl)) (fun _ _ _ h => h) (Or.inl ⟨by rfl,?_⟩) ?_ ?_
                 rotate_left
                 ·
                  intro w'
                  go_simp
                  with_reducible rfl
                 rotate_left
                 ·
                  simp only [Act.put,sA,sB,sC,i64_w,i32_w]
                  rfl
                 refine pure_ (i:=2) (N:=some 134) (v:=?_) (a':=?_) #[true,true,true,false,false,false,false,false,false,false,false,false,false] rfl rfl (any_of HT_.out (by kernel_rfl)) (fun _ _ _ h => h) (Or.inl ⟨by rfl,?_⟩) ?_ ?_
                 rotate_left
                 ·
                  intro w'
                  go_simp
                  with_reducible rfl
                 rotate_left
                 ·
                  simp only [Act.put,sA,sB,sC,i64_w,i32_w]
                  rfl
                 refine pure_ (i:=7) (N:=some 139) (v:=?_) (a':=?_) #[true,true,true,false,false,false,false,true,false,false,false,false,false] rfl rfl (any_of HT_.out (by kernel_rfl)) (fun _ _ _ h => h) (Or.inl ⟨by rfl,?_⟩) ?_ ?_
                 rotate_left
                 ·
                  intro w'
                  go_simp
                  with_reducible rfl
                 rotate_left
                 ·
                  simp only [Act.put,sA,sB,sC,i64_w,i32_w]
                  rfl
                 refine pure_ (i:=8) (N:=some 140) (v:=?_) (a':=?_) #[true,true,true,false,false,false,false,true,true,false,false,false,false] rfl rfl (any_of HT_.out (by kernel_rfl)) (fun _ _ _ h => h) (Or.inl ⟨by rfl,?_⟩) ?_ ?_
                 rotate_left
                 ·
                  intro w'
                  go_simp
                  with_reducible rfl
                 rotate_left
                 ·
                  simp only [Act.put,sA,sB,sC,i64_w,i32_w]
                  rfl
                 refine take_ (i:=3) (N:=some 135) (v:=?_) (a':=?_) #[true,true,true,true,false,false,false,true,true,false,false,false,false] rfl rfl (take_ofW HT_.out HW_.out (by kernel_rfl)) (fun _ _ _ h => h) (Or.inl ⟨by rfl,?_⟩) hHeld ?_ ?_
                 rotate_left
                 ·
                  rintro w' ⟨s0,s1,s2,s3,s4,s5⟩
                  go_simp
                  with_reducible rfl
                 rotate_left
                 ·
                  simp only [Act.put,sA,sB,sC,i64_w,i32_w]
                  rfl
                 refine pure_ (i:=4) (N:=some 136) (v:=?_) (a':=?_) #[true,true,true,true,true,false,false,true,true,false,false,false,false] rfl rfl (any_of HT_.out (by kernel_rfl)) (fun _ _ _ h => h) (Or.inl ⟨by rfl,?_⟩) ?_ ?_
                 rotate_left
                 ·
                  intro w'
                  go_simp
                  with_reducible rfl
                 rotate_left
                 ·
                  simp only [Act.put,sA,sB,sC,i64_w,i32_w]
                  rfl
                 refine take_ (i:=9) (N:=some 141) (v:=?_) (a':=?_) #[true,true,true,true,true,false,false,true,true,true,false,false,false] rfl rfl (take_ofW HT_.out HW_.out (by kernel_rfl)) (fun _ _ _ h => h) (Or.inl ⟨by rfl,?_⟩) hHeld ?_ ?_
                 rotate_left
                 ·
                  rintro w' ⟨s0,s1,s2,s3,s4,s5⟩
                  go_simp
                  with_reducible rfl
                 rotate_left
                 ·
                  simp only [Act.put,sA,sB,sC,i64_w,i32_w]
                  rfl
                 refine one_ (i:=5) (N:=some 137) #[true,true,true,true,true,true,false,true,true,true,false,false,false] rfl rfl (one_of HT_.out (by kernel_rfl)) (by decide) (fun K hK => ?_)
                 refine goes_ Try.func79 (by kernel_rfl) rfl #[.int .i64 (wrap64 (((rd_T77 l0_3 x7_2).f2.f2) + 1)),.int .i64 2] (by rfl) rfl rfl (by (try simp only [sE,sH,sI]);first|done|rfl|(simp only [sG,sF];rfl)) ?_
                 with_reducible refine (spec_l02Number.calls k2 (wrap64 (((rd_T77 l0_3 x7_2).f2.f2) + 1)) 2 t303 _ A87.out).mono ?_
                 rintro e w113 ⟨v304,rfl,ho0,hb⟩
                 refine ⟨_,rfl,?_⟩
                 have n0_:=qk (Kd.R_elder' (by (with_reducible repeat (first|apply qd|apply qe|apply qf));exact HO281.out) (Kd.R_base ho0) hb)
                 have n1_:=qk (Kd.R_elder' (by (with_reducible repeat (first|apply qd|apply qe|apply qf));exact HO287.out) (Kd.R_base ho0) hb)
                 have n2_:=qk (Kd.R_elder' (by (with_reducible repeat (first|apply qd|apply qe|apply qf));exact HO293.out) (Kd.R_base ho0) hb)
                 have n3_:=qk (Kd.R_elder' (by (with_reducible repeat (first|apply qd|apply qe|apply qf));exact HO299.out) (Kd.R_base ho0) hb)
                 have n4_:=qk (Kd.R_elder' (by (with_reducible repeat (first|apply qd|apply qe|apply qf));exact HO302.out) (Kd.R_base ho0) hb)
                 have n5_:=qk (Kd.R_lower (Kd.R_new' (Kd.R_new' (Kd.R_new' (Kd.R_new' (Kd.R_new' ho0 (Kd.R_lt (by (with_reducible repeat (first|apply qd|apply qe|apply qf));exact HO281.out))) (Kd.R_lt (by (with_reducible repeat (first|apply qd|apply qe|apply qf));exact HO287.out))) (Kd.R_lt (by (with_reducible repeat (first|apply qd|apply qe|apply qf));exact HO293.out))) (Kd.R_lt (by (with_reducible repeat (first|apply qd|apply qe|apply qf));exact HO299.out))) (Kd.R_lt (by (with_reducible repeat (first|apply qd|apply qe|apply qf));exact HO302.out))) (qm (by repeat (first|(with_reducible first|exact HB.out|apply qg|apply qh|apply qi|refine qj ?_ GE206.out|refine qj ?_ GE278.out)|exact HB.out))))
                 have n6_:=qk (ql (g:=gb206) (o:=.cells #[.int .i64 a0_0,.int .i64 a0_1,.slice A0_2 l0_2.length c0_2,.slice (some ad277) l0_3.length c0_3] 31 (0,0)) (by (with_reducible repeat (first|apply qa|apply qb|apply qc));exact BK206.out) hb)
                 have n7_:=qk (ql (g:=gb278) (o:=.cells #[.int .i64 ((rd_T77 l0_3 x7_2).f0),.int .i64 ((rd_T77 l0_3 x7_2).f1),.int .i64 ((rd_T77 l0_3 x7_2).f2.f0),.int .i64 ((rd_T77 l0_3 x7_2).f2.f1),.int .i64 ((rd_T77 l0_3 x7_2).f2.f2),.int .i64 ((rd_T77 l0_3 x7_2).f2.f3)] 77 (0,0)) (by (with_reducible repeat (first|apply qa|apply qb|apply qc));exact BK278.out) hb)
                 have n8_:=qk (sN (by repeat (first|(with_reducible first|exact HB.out|apply qg|apply qh|apply qi|refine qj ?_ GE206.out|refine qj ?_ GE278.out)|exact HB.out)) hb)
                 clear HO281
                 clear HO287
                 clear HO293
                 clear HO299
                 clear HO302
                 clear BK206
                 clear BK278
                 clear HB
                 have HO281:=n0_
                 have HO287:=n1_
                 have HO293:=n2_
                 have HO299:=n3_
                 have HO302:=n4_
                 have HO305:=n5_
                 have BK206:=n6_
                 have BK278:=n7_
                 have HB:=n8_
                 clear n0_ n1_ n2_ n3_ n4_ n5_ n6_ n7_ n8_
                 (try clear hb)
                 (try clear hb2)
                 (try clear hk)
                 (try clear hi)
                 (try clear ho0)
                 obtain ⟨Ao115,co115,eo115⟩:=Kd.R_slice HO305.out
                 (first|subst eo115|(injection eo115 with f1_ f2_ f3_;have f4_:=f1_.symm;have f5_:=f3_.symm;clear f1_ f2_ f3_;subst f4_;subst f5_))
                 refine hK.out _ _ ⟨(blk_cell BK278.out 0).trans rfl,(blk_cell BK278.out 1).trans rfl,(blk_cell BK278.out 2).trans rfl,(blk_cell BK278.out 3).trans rfl,(blk_cell BK278.out 4).trans rfl,(blk_cell BK278.out 5).trans rfl⟩ (fun hHeld => ?_)
                 clear hK K
                 refine norm_ (a':=?_) ?_ ?_
                 rotate_left
                 ·
                  show Act.put _ (some 137) _ = _
                  simp only [Act.put,sA,sB,sC,i64_w,i32_w]
                  rfl
                 refine one_ (i:=6) (N:=some 138) #[true,true,true,true,true,true,true,true,true,true,false,false,false] rfl rfl (one_of HT_.out (by kernel_rfl)) (by decide) (fun K hK => ?_)
                 refine Kd.R_append_rows_step (Kd.int .u8) (w0:=w) w.heap.size (by rfl) (.tmp 132) (.tmp 137) 38 5 (.int .u8 0) 1 rfl Try.underlying38 info5 rfl (by decide) (by omega) v301 y300 t303 _ _ _ (fun k_ => some k_ ≠ (.slice Ao100 y279.length co100 : Value).ownBlock ∧ some k_ ≠ (.slice Ao103 t285.length co103 : Value).ownBlock ∧ some k_ ≠ (.slice Ao108 y291.length co108 : Value).ownBlock ∧ some k_ ≠ (.slice Ao111 t297.length co111 : Value).ownBlock ∧ some k_ ≠ (.slice Ao115 t303.length co115 : Value).ownBlock) (fun _ => False) rfl rfl ?aO ?aR (fun _ _ h => h) (fun _ h => h.elim) ?aF ?aB ?aS ?aL ?_
                 (case aR => repeat (first|exact (Kd.R_reads' HO305.out).2.2|(with_reducible refine Kd.C_alloc ?_ _)|(with_reducible refine Kd.C_drewN ?_ _)|(with_reducible refine Kd.C_drew ?_)))
                 (case aB => exact (by repeat (first|(with_reducible first|exact HB.out|apply qg|apply qh|apply qi|refine qj ?_ GE206.out|refine qj ?_ GE278.out)|exact HB.out)))
                 (case aF => exact (fun k_ hk => ⟨Kd.fresh' (Kd.R_lt (by (with_reducible repeat (first|apply qd|apply qe|apply qf));exact HO281.out)) k_ hk,Kd.fresh' (Kd.R_lt (by (with_reducible repeat (first|apply qd|apply qe|apply qf));exact HO287.out)) k_ hk,Kd.fresh' (Kd.R_lt (by (with_reducible repeat (first|apply qd|apply qe|apply qf));exact HO293.out)) k_ hk,Kd.fresh' (Kd.R_lt (by (with_reducible repeat (first|apply qd|apply qe|apply qf));exact HO299.out)) k_ hk,Kd.fresh' (Kd.R_lt (by (with_reducible repeat (first|apply qd|apply qe|apply qf));exact HO305.out)) k_ hk⟩))
                 (case aO => exact (by (with_reducible repeat (first|apply qd|apply qe|apply qf));exact qn HO302.out (fun _ hk => ⟨hk.1.1,⟨hk.1.2.1,⟨hk.1.2.2.1,⟨hk.1.2.2.2,hk.2⟩⟩⟩⟩)))
                 (case aS => exact (qm (by repeat (first|(with_reducible first|exact HB.out|apply qg|apply qh|apply qi|refine qj ?_ GE206.out|refine qj ?_ GE278.out)|exact HB.out))))
                 (case aL => have:=LMc88.out;omega)
                 intro v307 w114 ho hb hg hat
                 rw [← Ny306.out] at ho
                 have n0_:=qk (blk_grown (g:=gb206) (o:=.cells #[.int .i64 a0_0,.int .i64 a0_1,.slice A0_2 l0_2.length c0_2,.slice (some ad277) l0_3.length c0_3] 31 (0,0)) (by (with_reducible repeat (first|apply qa|apply qb|apply qc));exact BK206.out) hg (Kd.R_ne HO302.out BK206.out (by decide)))
                 have n1_:=qk (blk_grown (g:=gb278) (o:=.cells #[.int .i64 ((rd_T77 l0_3 x7_2).f0),.int .i64 ((rd_T77 l0_3 x7_2).f1),.int .i64 ((rd_T77 l0_3 x7_2).f2.f0),.int .i64 ((rd_T77 l0_3 x7_2).f2.f1),.int .i64 ((rd_T77 l0_3 x7_2).f2.f2),.int .i64 ((rd_T77 l0_3 x7_2).f2.f3)] 77 (0,0)) (by (with_reducible repeat (first|apply qa|apply qb|apply qc));exact BK278.out) hg (Kd.R_ne HO302.out BK278.out (by decide)))
                 have n2_:=qk (Kd.R_after (ok:=(fun k_ => some k_ ≠ (.slice Ao103 t285.length co103 : Value).ownBlock ∧ some k_ ≠ (.slice Ao108 y291.length co108 : Value).ownBlock ∧ some k_ ≠ (.slice Ao111 t297.length co111 : Value).ownBlock ∧ some k_ ≠ (.slice Ao115 t303.length co115 : Value).ownBlock)) (by (with_reducible repeat (first|apply qd|apply qe|apply qf));exact qn HO281.out (fun _ hk => ⟨⟨hk.1.1.1,⟨hk.1.1.2.1,⟨hk.1.1.2.2,hk.2⟩⟩⟩,hk.1.2⟩)) hg hat)
                 have n3_:=qk (Kd.R_after (ok:=(fun k_ => some k_ ≠ (.slice Ao100 y279.length co100 : Value).ownBlock ∧ some k_ ≠ (.slice Ao108 y291.length co108 : Value).ownBlock ∧ some k_ ≠ (.slice Ao111 t297.length co111 : Value).ownBlock ∧ some k_ ≠ (.slice Ao115 t303.length co115 : Value).ownBlock)) (by (with_reducible repeat (first|apply qd|apply qe|apply qf));exact qn HO287.out (fun _ hk => ⟨⟨hk.1.1.1,⟨hk.1.1.2.1,⟨hk.1.1.2.2,hk.2⟩⟩⟩,hk.1.2⟩)) hg hat)
                 have n4_:=qk (Kd.R_after (ok:=(fun k_ => some k_ ≠ (.slice Ao100 y279.length co100 : Value).ownBlock ∧ some k_ ≠ (.slice Ao103 t285.length co103 : Value).ownBlock ∧ some k_ ≠ (.slice Ao111 t297.length co111 : Value).ownBlock ∧ some k_ ≠ (.slice Ao115 t303.length co115 : Value).ownBlock)) (by (with_reducible repeat (first|apply qd|apply qe|apply qf));exact qn HO293.out (fun _ hk => ⟨⟨hk.1.1.1,⟨hk.1.1.2.1,⟨hk.1.1.2.2,hk.2⟩⟩⟩,hk.1.2⟩)) hg hat)
                 have n5_:=qk (Kd.R_after (ok:=(fun k_ => some k_ ≠ (.slice Ao100 y279.length co100 : Value).ownBlock ∧ some k_ ≠ (.slice Ao103 t285.length co103 : Value).ownBlock ∧ some k_ ≠ (.slice Ao108 y291.length co108 : Value).ownBlock ∧ some k_ ≠ (.slice Ao115 t303.length co115 : Value).ownBlock)) (by (with_reducible repeat (first|apply qd|apply qe|apply qf));exact qn HO299.out (fun _ hk => ⟨⟨hk.1.1.1,⟨hk.1.1.2.1,⟨hk.1.1.2.2,hk.2⟩⟩⟩,hk.1.2⟩)) hg hat)
                 have n6_:=qk (Kd.R_after (ok:=(fun k_ => some k_ ≠ (.slice Ao100 y279.length co100 : Value).ownBlock ∧ some k_ ≠ (.slice Ao103 t285.length co103 : Value).ownBlock ∧ some k_ ≠ (.slice Ao108 y291.length co108 : Value).ownBlock ∧ some k_ ≠ (.slice Ao111 t297.length co111 : Value).ownBlock)) (by (with_reducible repeat (first|apply qd|apply qe|apply qf));exact qn HO305.out (fun _ hk => ⟨⟨hk.1.1.1.1.2,⟨hk.1.1.1.2,⟨hk.1.1.2,hk.1.2⟩⟩⟩,hk.2⟩)) hg hat)
                 have n7_:=qk (hb)
                 have n8_:=qk (ho)
                 clear BK206
                 clear BK278
                 clear HO281
                 clear HO287
                 clear HO293
                 clear HO299
                 clear HO305
                 clear HB
                 clear HO302
                 have BK206:=n0_
                 have BK278:=n1_
                 have HO281:=n2_
                 have HO287:=n3_
                 have HO293:=n4_
                 have HO299:=n5_
                 have HO305:=n6_
                 have HB:=n7_
                 have HO308:=n8_
                 clear n0_ n1_ n2_ n3_ n4_ n5_ n6_ n7_ n8_
                 clear ho hb hg hat
                 refine hK.out _ _ ⟨(blk_cell BK278.out 0).trans rfl,(blk_cell BK278.out 1).trans rfl,(blk_cell BK278.out 2).trans rfl,(blk_cell BK278.out 3).trans rfl,(blk_cell BK278.out 4).trans rfl,(blk_cell BK278.out 5).trans rfl⟩ (fun hHeld => ?_)
                 clear hK K
                 refine norm_ (a':=?_) ?_ ?_
                 rotate_left
                 ·
                  show Act.put _ (some 138) _ = _
                  simp only [Act.put,sA,sB,sC,i64_w,i32_w]
                  rfl
                 refine one_ (i:=10) (N:=some 142) #[true,true,true,true,true,true,true,true,true,true,true,false,false] rfl rfl (one_of HT_.out (by kernel_rfl)) (by decide) (fun K hK => ?_)
                 refine goes_ Try.func79 (by kernel_rfl) rfl #[.int .i64 ((rd_T77 l0_3 x7_2).f2.f3),.int .i64 4] (by rfl) rfl rfl (by (try simp only [sE,sH,sI]);first|done|rfl|(simp only [sG,sF];rfl)) ?_
                 with_reducible refine (spec_l02Number.calls k2 ((rd_T77 l0_3 x7_2).f2.f3) 4 t309 _ A89.out).mono ?_
                 rintro e w116 ⟨v310,rfl,ho0,hb⟩
                 refine ⟨_,rfl,?_⟩
                 have n0_:=qk (Kd.R_elder' (by (with_reducible repeat (first|apply qd|apply qe|apply qf));exact HO281.out) (Kd.R_base ho0) hb)
                 have n1_:=qk (Kd.R_elder' (by (with_reducible repeat (first|apply qd|apply qe|apply qf));exact HO287.out) (Kd.R_base ho0) hb)
                 have n2_:=qk (Kd.R_elder' (by (with_reducible repeat (first|apply qd|apply qe|apply qf));exact HO293.out) (Kd.R_base ho0) hb)
                 have n3_:=qk (Kd.R_elder' (by (with_reducible repeat (first|apply qd|apply qe|apply qf));exact HO299.out) (Kd.R_base ho0) hb)
                 have n4_:=qk (Kd.R_elder' (by (with_reducible repeat (first|apply qd|apply qe|apply qf));exact HO305.out) (Kd.R_base ho0) hb)
                 have n5_:=qk (Kd.R_elder' (by (with_reducible repeat (first|apply qd|apply qe|apply qf));exact HO308.out) (Kd.R_base ho0) hb)
                 have n6_:=qk (Kd.R_lower (Kd.R_new' (Kd.R_new' (Kd.R_new' (Kd.R_new' (Kd.R_new' (Kd.R_new' ho0 (Kd.R_lt (by (with_reducible repeat (first|apply qd|apply qe|apply qf));exact HO281.out))) (Kd.R_lt (by (with_reducible repeat (first|apply qd|apply qe|apply qf));exact HO287.out))) (Kd.R_lt (by (with_reducible repeat (first|apply qd|apply qe|apply qf));exact HO293.out))) (Kd.R_lt (by (with_reducible repeat (first|apply qd|apply qe|apply qf));exact HO299.out))) (Kd.R_lt (by (with_reducible repeat (first|apply qd|apply qe|apply qf));exact HO305.out))) (Kd.R_lt (by (with_reducible repeat (first|apply qd|apply qe|apply qf));exact HO308.out))) (qm (by repeat (first|(with_reducible first|exact HB.out|apply qg|apply qh|apply qi|refine qj ?_ GE206.out|refine qj ?_ GE278.out)|exact HB.out))))
                 have n7_:=qk (ql (g:=gb206) (o:=.cells #[.int .i64 a0_0,.int .i64 a0_1,.slice A0_2 l0_2.length c0_2,.slice (some ad277) l0_3.length c0_3] 31 (0,0)) (by (with_reducible repeat (first|apply qa|apply qb|apply qc));exact BK206.out) hb)
                 have n8_:=qk (ql (g:=gb278) (o:=.cells #[.int .i64 ((rd_T77 l0_3 x7_2).f0),.int .i64 ((rd_T77 l0_3 x7_2).f1),.int .i64 ((rd_T77 l0_3 x7_2).f2.f0),.int .i64 ((rd_T77 l0_3 x7_2).f2.f1),.int .i64 ((rd_T77 l0_3 x7_2).f2.f2),.int .i64 ((rd_T77 l0_3 x7_2).f2.f3)] 77 (0,0)) (by (with_reducible repeat (first|apply qa|apply qb|apply qc));exact BK278.out) hb)
                 have n9_:=qk (sN (by repeat (first|(with_reducible first|exact HB.out|apply qg|apply qh|apply qi|refine qj ?_ GE206.out|refine qj ?_ GE278.out)|exact HB.out)) hb)
                 clear HO281
                 clear HO287
                 clear HO293
                 clear HO299
                 clear HO305
                 clear HO308
                 clear BK206
                 clear BK278
                 clear HB
                 have HO281:=n0_
                 have HO287:=n1_
                 have HO293:=n2_
                 have HO299:=n3_
                 have HO305:=n4_
                 have HO308:=n5_
                 have HO311:=n6_
                 have BK206:=n7_
                 have BK278:=n8_
                 have HB:=n9_
                 clear n0_ n1_ n2_ n3_ n4_ n5_ n6_ n7_ n8_ n9_
                 (try clear hb)
                 (try clear hb2)
                 (try clear hk)
                 (try clear hi)
                 (try clear ho0)
                 obtain ⟨Ao118,co118,eo118⟩:=Kd.R_slice HO311.out
                 (first|subst eo118|(injection eo118 with f1_ f2_ f3_;have f4_:=f1_.symm;have f5_:=f3_.symm;clear f1_ f2_ f3_;subst f4_;subst f5_))
                 refine hK.out _ _ ⟨(blk_cell BK278.out 0).trans rfl,(blk_cell BK278.out 1).trans rfl,(blk_cell BK278.out 2).trans rfl,(blk_cell BK278.out 3).trans rfl,(blk_cell BK278.out 4).trans rfl,(blk_cell BK278.out 5).trans rfl⟩ (fun hHeld => ?_)
                 clear hK K
                 refine norm_ (a':=?_) ?_ ?_
                 rotate_left
                 ·
                  show Act.put _ (some 142) _ = _
                  simp only [Act.put,sA,sB,sC,i64_w,i32_w]
                  rfl
                 refine one_ (i:=11) (N:=some 143) #[true,true,true,true,true,true,true,true,true,true,true,true,false] rfl rfl (one_of HT_.out (by kernel_rfl)) (by decide) (fun K hK => ?_)
                 refine Kd.R_append_rows_step (Kd.int .u8) (w0:=w) w.heap.size (by rfl) (.tmp 138) (.tmp 142) 38 5 (.int .u8 0) 1 rfl Try.underlying38 info5 rfl (by decide) (by omega) v307 y306 t309 _ _ _ (fun k_ => some k_ ≠ (.slice Ao100 y279.length co100 : Value).ownBlock ∧ some k_ ≠ (.slice Ao103 t285.length co103 : Value).ownBlock ∧ some k_ ≠ (.slice Ao108 y291.length co108 : Value).ownBlock ∧ some k_ ≠ (.slice Ao111 t297.length co111 : Value).ownBlock ∧ some k_ ≠ (.slice Ao115 t303.length co115 : Value).ownBlock ∧ some k_ ≠ (.slice Ao118 t309.length co118 : Value).ownBlock) (fun _ => False) rfl rfl ?aO ?aR (fun _ _ h => h) (fun _ h => h.elim) ?aF ?aB ?aS ?aL ?_
                 (case aR => repeat (first|exact (Kd.R_reads' HO311.out).2.2|(with_reducible refine Kd.C_alloc ?_ _)|(with_reducible refine Kd.C_drewN ?_ _)|(with_reducible refine Kd.C_drew ?_)))
                 (case aB => exact (by repeat (first|(with_reducible first|exact HB.out|apply qg|apply qh|apply qi|refine qj ?_ GE206.out|refine qj ?_ GE278.out)|exact HB.out)))
                 (case aF => exact (fun k_ hk => ⟨Kd.fresh' (Kd.R_lt (by (with_reducible repeat (first|apply qd|apply qe|apply qf));exact HO281.out)) k_ hk,Kd.fresh' (Kd.R_lt (by (with_reducible repeat (first|apply qd|apply qe|apply qf));exact HO287.out)) k_ hk,Kd.fresh' (Kd.R_lt (by (with_reducible repeat (first|apply qd|apply qe|apply qf));exact HO293.out)) k_ hk,Kd.fresh' (Kd.R_lt (by (with_reducible repeat (first|apply qd|apply qe|apply qf));exact HO299.out)) k_ hk,Kd.fresh' (Kd.R_lt (by (with_reducible repeat (first|apply qd|apply qe|apply qf));exact HO305.out)) k_ hk,Kd.fresh' (Kd.R_lt (by (with_reducible repeat (first|apply qd|apply qe|apply qf));exact HO311.out)) k_ hk⟩))
                 (case aO => exact (by (with_reducible repeat (first|apply qd|apply qe|apply qf));exact qn HO308.out (fun _ hk => ⟨hk.1.1,⟨hk.1.2.1,⟨hk.1.2.2.1,⟨hk.1.2.2.2.1,⟨hk.1.2.2.2.2,hk.2⟩⟩⟩⟩⟩)))
                 (case aS => exact (qm (by repeat (first|(with_reducible first|exact HB.out|apply qg|apply qh|apply qi|refine qj ?_ GE206.out|refine qj ?_ GE278.out)|exact HB.out))))
                 (case aL => have:=LMc90.out;omega)
                 intro v313 w117 ho hb hg hat
                 rw [← Ny312.out] at ho
                 have n0_:=qk (blk_grown (g:=gb206) (o:=.cells #[.int .i64 a0_0,.int .i64 a0_1,.slice A0_2 l0_2.length c0_2,.slice (some ad277) l0_3.length c0_3] 31 (0,0)) (by (with_reducible repeat (first|apply qa|apply qb|apply qc));exact BK206.out) hg (Kd.R_ne HO308.out BK206.out (by decide)))
                 have n1_:=qk (blk_grown (g:=gb278) (o:=.cells #[.int .i64 ((rd_T77 l0_3 x7_2).f0),.int .i64 ((rd_T77 l0_3 x7_2).f1),.int .i64 ((rd_T77 l0_3 x7_2).f2.f0),.int .i64 ((rd_T77 l0_3 x7_2).f2.f1),.int .i64 ((rd_T77 l0_3 x7_2).f2.f2),.int .i64 ((rd_T77 l0_3 x7_2).f2.f3)] 77 (0,0)) (by (with_reducible repeat (first|apply qa|apply qb|apply qc));exact BK278.out) hg (Kd.R_ne HO308.out BK278.out (by decide)))
                 have n2_:=qk (Kd.R_after (ok:=(fun k_ => some k_ ≠ (.slice Ao103 t285.length co103 : Value).ownBlock ∧ some k_ ≠ (.slice Ao108 y291.length co108 : Value).ownBlock ∧ some k_ ≠ (.slice Ao111 t297.length co111 : Value).ownBlock ∧ some k_ ≠ (.slice Ao115 t303.length co115 : Value).ownBlock ∧ some k_ ≠ (.slice Ao118 t309.length co118 : Value).ownBlock)) (by (with_reducible repeat (first|apply qd|apply qe|apply qf));exact qn HO281.out (fun _ hk => ⟨⟨hk.1.1.1,⟨hk.1.1.2.1,⟨hk.1.1.2.2.1,⟨hk.1.1.2.2.2,hk.2⟩⟩⟩⟩,hk.1.2⟩)) hg hat)
                 have n3_:=qk (Kd.R_after (ok:=(fun k_ => some k_ ≠ (.slice Ao100 y279.length co100 : Value).ownBlock ∧ some k_ ≠ (.slice Ao108 y291.length co108 : Value).ownBlock ∧ some k_ ≠ (.slice Ao111 t297.length co111 : Value).ownBlock ∧ some k_ ≠ (.slice Ao115 t303.length co115 : Value).ownBlock ∧ some k_ ≠ (.slice Ao118 t309.length co118 : Value).ownBlock)) (by (with_reducible repeat (first|apply qd|apply qe|apply qf));exact qn HO287.out (fun _ hk => ⟨⟨hk.1.1.1,⟨hk.1.1.2.1,⟨hk.1.1.2.2.1,⟨hk.1.1.2.2.2,hk.2⟩⟩⟩⟩,hk.1.2⟩)) hg hat)
                 have n4_:=qk (Kd.R_after (ok:=(fun k_ => some k_ ≠ (.slice Ao100 y279.length co100 : Value).ownBlock ∧ some k_ ≠ (.slice Ao103 t285.length co103 : Value).ownBlock ∧ some k_ ≠ (.slice Ao111 t297.length co111 : Value).ownBlock ∧ some k_ ≠ (.slice Ao115 t303.length co115 : Value).ownBlock ∧ some k_ ≠ (.slice Ao118 t309.length co118 : Value).ownBlock)) (by (with_reducible repeat (first|apply qd|apply qe|apply qf));exact qn HO293.out (fun _ hk => ⟨⟨hk.1.1.1,⟨hk.1.1.2.1,⟨hk.1.1.2.2.1,⟨hk.1.1.2.2.2,hk.2⟩⟩⟩⟩,hk.1.2⟩)) hg hat)
                 have n5_:=qk (Kd.R_after (ok:=(fun k_ => some k_ ≠ (.slice Ao100 y279.length co100 : Value).ownBlock ∧ some k_ ≠ (.slice Ao103 t285.length co103 : Value).ownBlock ∧ some k_ ≠ (.slice Ao108 y291.length co108 : Value).ownBlock ∧ some k_ ≠ (.slice Ao115 t303.length co115 : Value).ownBlock ∧ some k_ ≠ (.slice Ao118 t309.length co118 : Value).ownBlock)) (by (with_reducible repeat (first|apply qd|apply qe|apply qf));exact qn HO299.out (fun _ hk => ⟨⟨hk.1.1.1,⟨hk.1.1.2.1,⟨hk.1.1.2.2.1,⟨hk.1.1.2.2.2,hk.2⟩⟩⟩⟩,hk.1.2⟩)) hg hat)
                 have n6_:=qk (Kd.R_after (ok:=(fun k_ => some k_ ≠ (.slice Ao100 y279.length co100 : Value).ownBlock ∧ some k_ ≠ (.slice Ao103 t285.length co103 : Value).ownBlock ∧ some k_ ≠ (.slice Ao108 y291.length co108 : Value).ownBlock ∧ some k_ ≠ (.slice Ao111 t297.length co111 : Value).ownBlock ∧ some k_ ≠ (.slice Ao118 t309.length co118 : Value).ownBlock)) (by (with_reducible repeat (first|apply qd|apply qe|apply qf));exact qn HO305.out (fun _ hk => ⟨⟨hk.1.1.1,⟨hk.1.1.2.1,⟨hk.1.1.2.2.1,⟨hk.1.1.2.2.2,hk.2⟩⟩⟩⟩,hk.1.2⟩)) hg hat)
                 have n7_:=qk (Kd.R_after (ok:=(fun k_ => some k_ ≠ (.slice Ao100 y279.length co100 : Value).ownBlock ∧ some k_ ≠ (.slice Ao103 t285.length co103 : Value).ownBlock ∧ some k_ ≠ (.slice Ao108 y291.length co108 : Value).ownBlock ∧ some k_ ≠ (.slice Ao111 t297.length co111 : Value).ownBlock ∧ some k_ ≠ (.slice Ao115 t303.length co115 : Value).ownBlock)) (by (with_reducible repeat (first|apply qd|apply qe|apply qf));exact qn HO311.out (fun _ hk => ⟨⟨hk.1.1.1.1.1.2,⟨hk.1.1.1.1.2,⟨hk.1.1.1.2,⟨hk.1.1.2,hk.1.2⟩⟩⟩⟩,hk.2⟩)) hg hat)
                 have n8_:=qk (hb)
                 have n9_:=qk (ho)
                 clear BK206
                 clear BK278
                 clear HO281
                 clear HO287
                 clear HO293
                 clear HO299
                 clear HO305
                 clear HO311
                 clear HB
                 clear HO308
                 have BK206:=n0_
                 have BK278:=n1_
                 have HO281:=n2_
                 have HO287:=n3_
                 have HO293:=n4_
                 have HO299:=n5_
                 have HO305:=n6_
                 have HO311:=n7_
                 have HB:=n8_
                 have HO314:=n9_
                 clear n0_ n1_ n2_ n3_ n4_ n5_ n6_ n7_ n8_ n9_
                 clear ho hb hg hat
                 refine hK.out _ _ ⟨(blk_cell BK278.out 0).trans rfl,(blk_cell BK278.out 1).trans rfl,(blk_cell BK278.out 2).trans rfl,(blk_cell BK278.out 3).trans rfl,(blk_cell BK278.out 4).trans rfl,(blk_cell BK278.out 5).trans rfl⟩ (fun hHeld => ?_)
                 clear hK K
                 refine norm_ (a':=?_) ?_ ?_
                 rotate_left
                 ·
                  show Act.put _ (some 143) _ = _
                  simp only [Act.put,sA,sB,sC,i64_w,i32_w]
                  rfl
                 refine pure_ (i:=12) (N:=some 3) (v:=?_) (a':=?_) #[true,true,true,true,true,true,true,true,true,true,true,true,true] rfl rfl (any_of HT_.out (by kernel_rfl)) (fun _ _ _ h => h) (Or.inl ⟨by rfl,?_⟩) ?_ ?_
                 rotate_left
                 ·
                  intro w'
                  go_simp
                  with_reducible rfl
                 rotate_left
                 ·
                  simp only [Act.put,sA,sB,sC,i64_w,i32_w]
                  rfl
                 refine done_ (done_of HT_.out (by kernel_rfl)) ?_
                 try go_wp2
                 go_roundg k2
                 case measure => have:=HK1.out;have:=HK2.out;omega
                 case rel => exact ⟨(y312),(wrap64 (x7_2 + 1)),(by first|rfl|(simp;done)|(simp [*];done)),H',⟨by have:=HK1.out;have:=HK2.out;omega⟩,⟨by (with_reducible repeat (first|apply qd|apply qe|apply qf));exact qn HO314.out (fun _ hk => trivial)⟩,⟨by (with_reducible repeat (first|apply qa|apply qb|apply qc));exact BK206.out⟩,⟨by repeat (first|(with_reducible first|exact HB.out|apply qg|apply qh|apply qi|refine qj ?_ GE206.out|refine qj ?_ GE278.out)|exact HB.out)⟩⟩
                ·
                 rw [if_neg c90] at H
                 exact absurd H (by simp)
               ·
                rw [if_neg c88] at H
                exact absurd H (by simp)
              ·
               rw [if_neg c86] at H
               exact absurd H (by simp)
             ·
              rw [if_neg c84] at H
              exact absurd H (by simp)
            ·
             rw [if_neg c83] at H
             exact absurd H (by simp)
           ·
            rw [if_neg c81] at H
            exact absurd H (by simp)
          ·
           rw [if_neg c80] at H
           exact absurd H (by simp)
         ·
          rw [if_neg c79] at H
          have c79b0 : decide (x7_2 < (l0_3.length : Int)) = false:=decide_eq_false c79
          clear c79
          obtain rfl:=sO H
          have hcz119_0 : wr.cell? ⟨gb206,0,none⟩ = some (.int .i64 a0_0):=(blk_cell BK206.out 0).trans rfl
          have hcz119_1 : wr.cell? ⟨gb206,1,none⟩ = some (.int .i64 a0_1):=(blk_cell BK206.out 1).trans rfl
          have hcz119_2 : wr.cell? ⟨gb206,2,none⟩ = some (.slice A0_2 l0_2.length c0_2):=(blk_cell BK206.out 2).trans rfl
          have hcz119_3 : wr.cell? ⟨gb206,3,none⟩ = some (.slice A0_3 l0_3.length c0_3):=(blk_cell BK206.out 3).trans rfl
          have hfz119_0:=sJ BK206.out 0
          have hfz119_1:=sJ BK206.out 1
          have hfz119_2:=sJ BK206.out 2
          have hfz119_3:=sJ BK206.out 3
          go_wp2
          go_ret
          exact ⟨_,by first|rfl|(simp [errW_none,errW_some] <;> rfl)|(simp [*,errW_none,errW_some] <;> rfl),by (with_reducible repeat (first|apply qd|apply qe|apply qf));exact HO_3.out,by repeat (first|(with_reducible first|exact HB.out|apply qg|apply qh|apply qi|refine qj ?_ GE206.out)|exact HB.out)⟩
      ·
       rw [if_neg c73] at H
       exact absurd H (by simp)
  ·
   rw [if_neg c5] at H
   exact absurd H (by simp)
 ·
  rw [if_neg c4] at H
  exact absurd H (by simp)

end Go.Proofs.Ytjkanhjapddhnaa.PFnExactSameTable
