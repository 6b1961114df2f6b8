-- laid by this session's program myprint.py over the kit's printer
-- aliased
-- squeezed
import Derived.Test.YtjkanhjapddhnaaDoorPFnExactTableDigestx0
import Derived.Test.YtjkanhjapddhnaaDoorPFnExactTableDigestx3
import Derived.Test.YtjkanhjapddhnaaDoorPFnExactTableDigestx4d
namespace Go.Proofs.YtjkanhjapddhnaaDoor.PFnExactTableDigest
open Go.RowKit Go.Proofs.YtjkanhjapddhnaaDoorV.PrintWords Go.Proofs.YtjkanhjapddhnaaDoorV.PrintLast Go.Proofs.YtjkanhjapddhnaaDoorV.PrintMore
attribute [local go_sem] max2_int min2_int max_two min_two max_three min_three max_four min_four u8_wm u32_wm   -- for this text's walks alone
set_option linter.unusedVariables false
set_option linter.unusedSimpArgs false


set_option maxHeartbeats 8000000 in
set_option maxRecDepth 100000 in
theorem spec_l05Bytes.calls (k : Nat) (a0_0 : Int) (a0_1 : Int) (A0_2 : Option Addr) (c0_2 : Nat) (l0_2 : List (S55)) (A0_3 : Option Addr) (c0_3 : Nat) (l0_3 : List (S62)) (r : List Int) (w : World) (hr0_2 : Kd.C k55 w A0_2 l0_2.length l0_2) (hc0_2 : l0_2.length ≤ c0_2) (hr0_3 : Kd.C k62 w A0_3 l0_3.length l0_3) (hc0_3 : l0_3.length ≤ c0_3) (h : spec_l05Bytes.f k a0_0 a0_1 l0_2 l0_3 = some r) :
  Calls Tryd.prog 13 #[.agg #[.int .i64 a0_0,.int .i64 a0_1,.slice A0_2 l0_2.length c0_2,.slice A0_3 l0_3.length c0_3]] w fun e w' => ∃ v0_ : Value,e = .returned (v0_) ∧ Kd.R (Kd.int .u8) 5 w' w.heap.size (fun _ => True) v0_ r ∧ Below w.heap.size w w':=by
 have hu32:=Tryd.underlying32
 have hu55:=Tryd.underlying55
 have hu62:=Tryd.underlying62
 have HR0_2:=qk hr0_2
 have HC0_2:=qk hc0_2
 clear hr0_2 hc0_2
 have HR0_3:=qk hr0_3
 have HC0_3:=qk hc0_3
 clear hr0_3 hc0_3
 have HB:=qk (Below.refl w.heap.size w)
 have H : ((spec_l02Number.f k a0_0 4).bind fun t126 => ((spec_l02Number.f k a0_1 3).bind fun t129 => (if t126.length + t129.length < 140737488355328 then ((some (t126 ++ t129 : List Int)).bind fun y132 => ((some (([((l0_2.length : Int)) % 256] : List Int) : List Int)).bind fun y135 => (if y132.length + y135.length < 140737488355328 then (spec_l05Bytes.l0 k (y132 ++ y135) 0 a0_0 a0_1 l0_2 l0_3) else (none)))) else (none)))) = some r:=h
 clear h
 replace H:=Option.bind_eq_some_iff.mp H
 obtain ⟨t126,A20,H⟩:=H
 replace H : ((spec_l02Number.f k a0_1 3).bind fun t129 => (if t126.length + t129.length < 140737488355328 then ((some (t126 ++ t129 : List Int)).bind fun y132 => ((some (([((l0_2.length : Int)) % 256] : List Int) : List Int)).bind fun y135 => (if y132.length + y135.length < 140737488355328 then (spec_l05Bytes.l0 k (y132 ++ y135) 0 a0_0 a0_1 l0_2 l0_3) else (none)))) else (none))) = some r:=H
 have A2:=qk A20
 clear A20
 replace H:=Option.bind_eq_some_iff.mp H
 obtain ⟨t129,A30,H⟩:=H
 replace H : (if t126.length + t129.length < 140737488355328 then ((some (t126 ++ t129 : List Int)).bind fun y132 => ((some (([((l0_2.length : Int)) % 256] : List Int) : List Int)).bind fun y135 => (if y132.length + y135.length < 140737488355328 then (spec_l05Bytes.l0 k (y132 ++ y135) 0 a0_0 a0_1 l0_2 l0_3) else (none)))) else (none)) = some r:=H
 have A3:=qk A30
 clear A30
 by_cases c4 : t126.length + t129.length < 140737488355328
 ·
  rw [if_pos c4] at H
  have LMc4:=qk c4
  clear c4
  obtain ⟨y132,hy132⟩ : ∃ y_ : List Int,y_ = (t126 ++ t129):=⟨_,rfl⟩
  replace H : ((some (([((l0_2.length : Int)) % 256] : List Int) : List Int)).bind fun y135 => (if y132.length + y135.length < 140737488355328 then (spec_l05Bytes.l0 k (y132 ++ y135) 0 a0_0 a0_1 l0_2 l0_3) else (none))) = some r:=by first|(rw [hy132];with_reducible exact H)|(have H2_:=(Option.bind_some _ _).symm.trans H;rw [hy132];with_reducible exact H2_)|(have H2_:=(Option.bind_some _ _).symm.trans H;with_reducible exact H2_)|with_reducible exact H|(rw [hy132];exact H)|exact H
  have Ny132:=qk hy132
  clear hy132
  obtain ⟨y135,hy135⟩ : ∃ y_ : List Int,y_ = (([((l0_2.length : Int)) % 256] : List Int)):=⟨_,rfl⟩
  replace H : (if y132.length + y135.length < 140737488355328 then (spec_l05Bytes.l0 k (y132 ++ y135) 0 a0_0 a0_1 l0_2 l0_3) else (none)) = some r:=by first|(rw [hy135];with_reducible exact H)|(have H2_:=(Option.bind_some _ _).symm.trans H;rw [hy135];with_reducible exact H2_)|(have H2_:=(Option.bind_some _ _).symm.trans H;with_reducible exact H2_)|with_reducible exact H|(rw [hy135];exact H)|exact H
  have Ny135:=qk hy135
  clear hy135
  by_cases c5 : y132.length + y135.length < 140737488355328
  ·
   rw [if_pos c5] at H
   have LMc5:=qk c5
   clear c5
   obtain ⟨y138,hy138⟩ : ∃ y_ : List Int,y_ = (y132 ++ y135):=⟨_,rfl⟩
   replace H : (spec_l05Bytes.l0 k y138 0 a0_0 a0_1 l0_2 l0_3) = some r:=by first|(rw [hy138];with_reducible exact H)|(have H2_:=(Option.bind_some _ _).symm.trans H;rw [hy138];with_reducible exact H2_)|(have H2_:=(Option.bind_some _ _).symm.trans H;with_reducible exact H2_)|with_reducible exact H|(rw [hy138];exact H)|exact H
   have Ny138:=qk hy138
   clear hy138
   have H':=qk H
   clear H
   go_enter Tryd.func13,Tryd.ntmps13
   try go_wp2_with (first|((with_reducible refine gate_dst (N:=1) rfl ?_);refine box_event ?hg (N:=1) ?hd (cs:=#[.int .i64 a0_0,.int .i64 a0_1,.slice A0_2 l0_2.length c0_2,.slice A0_3 l0_3.length c0_3]) (t:=32) ?hr ?_;(case hd => rfl);(case hg => rfl);(case hr => first|(go_simp;done)|(go_simp;rfl));intro gb125 hg w6 hbox hb;have n0_:=qk (sN (by repeat (first|(with_reducible first|exact HB.out|apply qg|apply qh|apply qi)|exact HB.out)) hb);have n1_:=qk (hbox);have n2_:=qk ((by rw [hg];exact (qm (by repeat (first|(with_reducible first|exact HB.out|apply qg|apply qh|apply qi)|exact HB.out))) : w.heap.size ≤ gb125));have n3_:=qk ((by rw [hg];exact (qm (by repeat (first|(with_reducible first|exact HB.out|apply qg|apply qh|apply qi)|exact HB.out))) : w.heap.size ≤ gb125));clear HB;have HB:=n0_;have BK125:=n1_;have GW125:=n2_;have GE125:=n3_;clear n0_ n1_ n2_ n3_;clear hb hbox hg))
   have n0_:=qk (qb BK125.out)
   have n1_:=qk (qi HB.out)
   clear BK125
   clear HB
   have BK125:=n0_
   have HB:=n1_
   clear n0_ n1_
   refine start_ (n:=8) (S:=fun w' => w'.cell? ⟨gb125,0,none⟩ = some (.int .i64 a0_0) ∧ w'.cell? ⟨gb125,1,none⟩ = some (.int .i64 a0_1) ∧ w'.cell? ⟨gb125,2,none⟩ = some (.slice A0_2 l0_2.length c0_2) ∧ w'.cell? ⟨gb125,3,none⟩ = some (.slice A0_3 l0_3.length c0_3)) (ds:=[]) #[false,false,false,false,false,false,false,false] (by kernel_rfl) rfl rfl ⟨(blk_cell BK125.out 0).trans rfl,(blk_cell BK125.out 1).trans rfl,(blk_cell BK125.out 2).trans rfl,(blk_cell BK125.out 3).trans rfl⟩ (fun hHeld => ?_);refine with_tabW spec_l05Bytes.tab1 spec_l05Bytes.bits1 (fun HT_ HW_ => ?_)
   generalize w6.drew = w7 at BK125 HB hHeld ⊢
   refine pure_ (i:=0) (N:=some 9) (v:=?_) (a':=?_) #[true,false,false,false,false,false,false,false] rfl rfl (any_of HT_.out (by kernel_rfl)) (fun _ _ _ h => h) (Or.inl ⟨by rfl,?_⟩) ?_ ?_
   rotate_left
   ·
    intro w'
    go_simp
    with_reducible rfl
   rotate_left
   ·
    simp only [Act.put,sA,sB,sC,i64_w,i32_w]
    rfl
   refine pure_ (i:=3) (N:=some 12) (v:=?_) (a':=?_) #[true,false,false,true,false,false,false,false] rfl rfl (any_of HT_.out (by kernel_rfl)) (fun _ _ _ h => h) (Or.inl ⟨by rfl,?_⟩) ?_ ?_
   rotate_left
   ·
    intro w'
    go_simp
    with_reducible rfl
   rotate_left
   ·
    simp only [Act.put,sA,sB,sC,i64_w,i32_w]
    rfl
   refine take_ (i:=1) (N:=some 10) (v:=?_) (a':=?_) #[true,true,false,true,false,false,false,false] rfl rfl (take_ofW HT_.out HW_.out (by kernel_rfl)) (fun _ _ _ h => h) (Or.inl ⟨by rfl,?_⟩) hHeld ?_ ?_
   rotate_left
   ·
    rintro w' ⟨s0,s1,s2,s3⟩
    go_simp
    with_reducible rfl
   rotate_left
   ·
    simp only [Act.put,sA,sB,sC,i64_w,i32_w]
    rfl
   refine take_ (i:=4) (N:=some 13) (v:=?_) (a':=?_) #[true,true,false,true,true,false,false,false] rfl rfl (take_ofW HT_.out HW_.out (by kernel_rfl)) (fun _ _ _ h => h) (Or.inl ⟨by rfl,?_⟩) hHeld ?_ ?_
   rotate_left
   ·
    rintro w' ⟨s0,s1,s2,s3⟩
    go_simp
    with_reducible rfl
   rotate_left
   ·
    simp only [Act.put,sA,sB,sC,i64_w,i32_w]
    rfl
   refine one_ (i:=2) (N:=some 11) #[true,true,true,true,true,false,false,false] rfl rfl (one_of HT_.out (by kernel_rfl)) (by decide) (fun K hK => ?_)
   refine goes_ Tryd.func27 (by kernel_rfl) rfl #[.int .i64 a0_0,.int .i64 4] (by rfl) rfl rfl (by (try simp only [sE,sH,sI]);first|done|rfl|(simp only [sG,sF];rfl)) ?_
   with_reducible refine (spec_l02Number.calls k a0_0 4 t126 _ A2.out).mono ?_
   rintro e w8 ⟨v127,rfl,ho0,hb⟩
   refine ⟨_,rfl,?_⟩
   have n0_:=qk (Kd.R_lower ho0 (qm (by repeat (first|(with_reducible first|exact HB.out|apply qg|apply qh|apply qi|refine qj ?_ GE125.out)|exact HB.out))))
   have n1_:=qk (ql (g:=gb125) (o:=.cells #[.int .i64 a0_0,.int .i64 a0_1,.slice A0_2 l0_2.length c0_2,.slice A0_3 l0_3.length c0_3] 32 (0,0)) (by (with_reducible repeat (first|apply qa|apply qb|apply qc));exact BK125.out) hb)
   have n2_:=qk (sN (by repeat (first|(with_reducible first|exact HB.out|apply qg|apply qh|apply qi|refine qj ?_ GE125.out)|exact HB.out)) hb)
   clear BK125
   clear HB
   have HO128:=n0_
   have BK125:=n1_
   have HB:=n2_
   clear n0_ n1_ n2_
   (try clear hb)
   (try clear hb2)
   (try clear hk)
   (try clear hi)
   (try clear ho0)
   refine hK.out _ _ ⟨(blk_cell BK125.out 0).trans rfl,(blk_cell BK125.out 1).trans rfl,(blk_cell BK125.out 2).trans rfl,(blk_cell BK125.out 3).trans rfl⟩ (fun hHeld => ?_)
   clear hK K
   refine norm_ (a':=?_) ?_ ?_
   rotate_left
   ·
    show Act.put _ (some 11) _ = _
    simp only [Act.put,sA,sB,sC,i64_w,i32_w]
    rfl
   refine one_ (i:=5) (N:=some 14) #[true,true,true,true,true,true,false,false] rfl rfl (one_of HT_.out (by kernel_rfl)) (by decide) (fun K hK => ?_)
   refine goes_ Tryd.func27 (by kernel_rfl) rfl #[.int .i64 a0_1,.int .i64 3] (by rfl) rfl rfl (by (try simp only [sE,sH,sI]);first|done|rfl|(simp only [sG,sF];rfl)) ?_
   with_reducible refine (spec_l02Number.calls k a0_1 3 t129 _ A3.out).mono ?_
   rintro e w9 ⟨v130,rfl,ho0,hb⟩
   refine ⟨_,rfl,?_⟩
   have n0_:=qk (Kd.R_elder' (by (with_reducible repeat (first|apply qd|apply qe|apply qf));exact HO128.out) (Kd.R_base ho0) hb)
   have n1_:=qk (Kd.R_lower (Kd.R_new' ho0 (Kd.R_lt (by (with_reducible repeat (first|apply qd|apply qe|apply qf));exact HO128.out))) (qm (by repeat (first|(with_reducible first|exact HB.out|apply qg|apply qh|apply qi|refine qj ?_ GE125.out)|exact HB.out))))
   have n2_:=qk (ql (g:=gb125) (o:=.cells #[.int .i64 a0_0,.int .i64 a0_1,.slice A0_2 l0_2.length c0_2,.slice A0_3 l0_3.length c0_3] 32 (0,0)) (by (with_reducible repeat (first|apply qa|apply qb|apply qc));exact BK125.out) hb)
   have n3_:=qk (sN (by repeat (first|(with_reducible first|exact HB.out|apply qg|apply qh|apply qi|refine qj ?_ GE125.out)|exact HB.out)) hb)
   clear HO128
   clear BK125
   clear HB
   have HO128:=n0_
   have HO131:=n1_
   have BK125:=n2_
   have HB:=n3_
   clear n0_ n1_ n2_ n3_
   (try clear hb)
   (try clear hb2)
   (try clear hk)
   (try clear hi)
   (try clear ho0)
   obtain ⟨Ao11,co11,eo11⟩:=Kd.R_slice HO131.out
   (first|subst eo11|(injection eo11 with f1_ f2_ f3_;have f4_:=f1_.symm;have f5_:=f3_.symm;clear f1_ f2_ f3_;subst f4_;subst f5_))
   refine hK.out _ _ ⟨(blk_cell BK125.out 0).trans rfl,(blk_cell BK125.out 1).trans rfl,(blk_cell BK125.out 2).trans rfl,(blk_cell BK125.out 3).trans rfl⟩ (fun hHeld => ?_)
   clear hK K
   refine norm_ (a':=?_) ?_ ?_
   rotate_left
   ·
    show Act.put _ (some 14) _ = _
    simp only [Act.put,sA,sB,sC,i64_w,i32_w]
    rfl
   refine one_ (i:=6) (N:=some 15) #[true,true,true,true,true,true,true,false] rfl rfl (one_of HT_.out (by kernel_rfl)) (by decide) (fun K hK => ?_)
   refine Kd.R_append_rows_step (Kd.int .u8) (w0:=w) w.heap.size (by rfl) (.tmp 11) (.tmp 14) 40 5 (.int .u8 0) 1 rfl Tryd.underlying40 info5 rfl (by decide) (by omega) v127 t126 t129 _ _ _ (fun k_ => some k_ ≠ (.slice Ao11 t129.length co11 : Value).ownBlock) (fun _ => False) rfl rfl ?aO ?aR (fun _ _ h => h) (fun _ h => h.elim) ?aF ?aB ?aS ?aL ?_
   (case aR => repeat (first|exact (Kd.R_reads' HO131.out).2.2|(with_reducible refine Kd.C_alloc ?_ _)|(with_reducible refine Kd.C_drewN ?_ _)|(with_reducible refine Kd.C_drew ?_)))
   (case aB => exact (by repeat (first|(with_reducible first|exact HB.out|apply qg|apply qh|apply qi|refine qj ?_ GE125.out)|exact HB.out)))
   (case aF => exact (fun k_ hk => Kd.fresh' (Kd.R_lt (by (with_reducible repeat (first|apply qd|apply qe|apply qf));exact HO131.out)) k_ hk))
   (case aO => exact (by (with_reducible repeat (first|apply qd|apply qe|apply qf));exact qn HO128.out (fun _ hk => hk.2)))
   (case aS => exact (qm (by repeat (first|(with_reducible first|exact HB.out|apply qg|apply qh|apply qi|refine qj ?_ GE125.out)|exact HB.out))))
   (case aL => have:=LMc4.out;omega)
   intro v133 w10 ho hb hg hat
   rw [← Ny132.out] at ho
   have n0_:=qk (blk_grown (g:=gb125) (o:=.cells #[.int .i64 a0_0,.int .i64 a0_1,.slice A0_2 l0_2.length c0_2,.slice A0_3 l0_3.length c0_3] 32 (0,0)) (by (with_reducible repeat (first|apply qa|apply qb|apply qc));exact BK125.out) hg (Kd.R_ne HO128.out BK125.out (by decide)))
   have n1_:=qk (Kd.R_after (ok:=(fun _ => True)) (by (with_reducible repeat (first|apply qd|apply qe|apply qf));exact HO131.out) hg hat)
   have n2_:=qk (hb)
   have n3_:=qk (ho)
   clear BK125
   clear HO131
   clear HB
   clear HO128
   have BK125:=n0_
   have HO131:=n1_
   have HB:=n2_
   have HO134:=n3_
   clear n0_ n1_ n2_ n3_
   clear ho hb hg hat
   refine hK.out _ _ ⟨(blk_cell BK125.out 0).trans rfl,(blk_cell BK125.out 1).trans rfl,(blk_cell BK125.out 2).trans rfl,(blk_cell BK125.out 3).trans rfl⟩ (fun hHeld => ?_)
   clear hK K
   refine norm_ (a':=?_) ?_ ?_
   rotate_left
   ·
    show Act.put _ (some 15) _ = _
    simp only [Act.put,sA,sB,sC,i64_w,i32_w]
    rfl
   refine pure_ (i:=7) (N:=some 3) (v:=?_) (a':=?_) #[true,true,true,true,true,true,true,true] rfl rfl (any_of HT_.out (by kernel_rfl)) (fun _ _ _ h => h) (Or.inl ⟨by rfl,?_⟩) ?_ ?_
   rotate_left
   ·
    intro w'
    go_simp
    with_reducible rfl
   rotate_left
   ·
    simp only [Act.put,sA,sB,sC,i64_w,i32_w]
    rfl
   refine done_ (done_of HT_.out (by kernel_rfl)) ?_
   have hcz12_0 : w10.cell? ⟨gb125,0,none⟩ = some (.int .i64 a0_0):=(blk_cell BK125.out 0).trans rfl
   have hcz12_1 : w10.cell? ⟨gb125,1,none⟩ = some (.int .i64 a0_1):=(blk_cell BK125.out 1).trans rfl
   have hcz12_2 : w10.cell? ⟨gb125,2,none⟩ = some (.slice A0_2 l0_2.length c0_2):=(blk_cell BK125.out 2).trans rfl
   have hcz12_3 : w10.cell? ⟨gb125,3,none⟩ = some (.slice A0_3 l0_3.length c0_3):=(blk_cell BK125.out 3).trans rfl
   have hfz12_0:=sJ BK125.out 0
   have hfz12_1:=sJ BK125.out 1
   have hfz12_2:=sJ BK125.out 2
   have hfz12_3:=sJ BK125.out 3
   try go_wp2_with (first|((with_reducible refine gate_dst (N:=21) rfl ?_);refine Kd.R_lit (Kd.int .u8) _ 5 ?hg (N:=21) ?hd (xs:=([((l0_2.length : Int)) % 256] : List Int)) (inner:=[.int .u8 (((l0_2.length : Int)) % 256)]) (ok:=fun _ => True) (okp:=fun _ => True) ?hr ?hp (fun _ hk => hk) trivial (Below.refl _ _) (Nat.le_refl _) (by simp) ?_;(case hd => rfl);(case hg => rfl);(case hr => first|(go_simp;done)|(go_simp;rfl));(case hp => exact (Reps.one (show Kd.M (Kd.int .u8) _ _ _ (((l0_2.length : Int)) % 256) [.int .u8 (((l0_2.length : Int)) % 256)] from rfl) (Reps.none _ _)));intro v136 w13 ho14 hb hg_ hnew_;clear hg_ hnew_;(first|rw [← Ny135.out] at ho14|(simp only [Int.reduceToNat] at ho14;rw [← Ny135.out] at ho14));have n0_:=qk (Kd.R_elder' (by (with_reducible repeat (first|apply qd|apply qe|apply qf));exact HO131.out) (Kd.R_base ho14) hb);have n1_:=qk (Kd.R_elder' (by (with_reducible repeat (first|apply qd|apply qe|apply qf));exact HO134.out) (Kd.R_base ho14) hb);have n2_:=qk (Kd.R_lower (Kd.R_new' (Kd.R_new' ho14 (Kd.R_lt (by (with_reducible repeat (first|apply qd|apply qe|apply qf));exact HO131.out))) (Kd.R_lt (by (with_reducible repeat (first|apply qd|apply qe|apply qf));exact HO134.out))) (qm (by repeat (first|(with_reducible first|exact HB.out|apply qg|apply qh|apply qi|refine qj ?_ GE125.out)|exact HB.out))));have n3_:=qk (ql (g:=gb125) (o:=.cells #[.int .i64 a0_0,.int .i64 a0_1,.slice A0_2 l0_2.length c0_2,.slice A0_3 l0_3.length c0_3] 32 (0,0)) (by (with_reducible repeat (first|apply qa|apply qb|apply qc));exact BK125.out) hb);have n4_:=qk (sN (by repeat (first|(with_reducible first|exact HB.out|apply qg|apply qh|apply qi|refine qj ?_ GE125.out)|exact HB.out)) hb);clear HO131;clear HO134;clear BK125;clear HB;have HO131:=n0_;have HO134:=n1_;have HO137:=n2_;have BK125:=n3_;have HB:=n4_;clear n0_ n1_ n2_ n3_ n4_;clear hb ho14;obtain ⟨Ao16,co16,eo16⟩:=Kd.R_slice HO137.out;subst eo16)|((with_reducible refine gate_builtin (b:=.append) (xs:=#[.tmp 16,.tmp 21]) rfl ?_);at_builtin;refine Kd.R_append_rows (Kd.int .u8) (w0:=w) w.heap.size rfl (.tmp 16) (.tmp 21) 40 5 (.int .u8 0) 1 rfl Tryd.underlying40 info5 rfl (by decide) (by omega) v133 y132 y135 _ _ _ (fun k_ => some k_ ≠ (.slice Ao11 t129.length co11 : Value).ownBlock ∧ some k_ ≠ (.slice Ao16 y135.length co16 : Value).ownBlock) (fun _ => False) rfl rfl ?aO ?aR (fun _ _ h => h) (fun _ h => h.elim) ?aF ?aB ?aS ?aL ?_;(case aR => repeat (first|exact (Kd.R_reads' HO137.out).2.2|(with_reducible refine Kd.C_alloc ?_ _)|(with_reducible refine Kd.C_drewN ?_ _)|(with_reducible refine Kd.C_drew ?_)));(case aB => exact (by repeat (first|(with_reducible first|exact HB.out|apply qg|apply qh|apply qi|refine qj ?_ GE125.out)|exact HB.out)));(case aF => exact (fun k_ hk => ⟨Kd.fresh' (Kd.R_lt (by (with_reducible repeat (first|apply qd|apply qe|apply qf));exact HO131.out)) k_ hk,Kd.fresh' (Kd.R_lt (by (with_reducible repeat (first|apply qd|apply qe|apply qf));exact HO137.out)) k_ hk⟩));(case aO => exact (by (with_reducible repeat (first|apply qd|apply qe|apply qf));exact HO134.out));(case aS => exact (qm (by repeat (first|(with_reducible first|exact HB.out|apply qg|apply qh|apply qi|refine qj ?_ GE125.out)|exact HB.out))));(case aL => have:=LMc5.out;omega);intro v139 w15 ho hb hg hat;rw [← Ny138.out] at ho;have n0_:=qk (blk_grown (g:=gb125) (o:=.cells #[.int .i64 a0_0,.int .i64 a0_1,.slice A0_2 l0_2.length c0_2,.slice A0_3 l0_3.length c0_3] 32 (0,0)) (by (with_reducible repeat (first|apply qa|apply qb|apply qc));exact BK125.out) hg (Kd.R_ne HO134.out BK125.out (by decide)));have n1_:=qk (Kd.R_after (ok:=(fun k_ => some k_ ≠ (.slice Ao16 y135.length co16 : Value).ownBlock)) (by (with_reducible repeat (first|apply qd|apply qe|apply qf));exact qn HO131.out (fun _ hk => ⟨hk.2,hk.1.2⟩)) hg hat);have n2_:=qk (Kd.R_after (ok:=(fun k_ => some k_ ≠ (.slice Ao11 t129.length co11 : Value).ownBlock)) (by (with_reducible repeat (first|apply qd|apply qe|apply qf));exact qn HO137.out (fun _ hk => ⟨hk.1.2,hk.2⟩)) hg hat);have n3_:=qk (hb);have n4_:=qk (ho);clear BK125;clear HO131;clear HO137;clear HB;clear HO134;have BK125:=n0_;have HO131:=n1_;have HO137:=n2_;have HB:=n3_;have HO140:=n4_;clear n0_ n1_ n2_ n3_ n4_;clear ho hb hg hat))
   go_loopg [3,4] k (fun kq v3 v4 w' => ∃ (x3_1 : List Int) (x4_1 : Int),v4 = .int .i64 x4_1 ∧ Aside0 (spec_l05Bytes.l0 kq x3_1 x4_1 a0_0 a0_1 l0_2 l0_3 = some r) ∧ Aside0 (kq ≤ k) ∧ Aside0 (Kd.R (Kd.int .u8) 5 w' w.heap.size (fun _ => True) v3 x3_1) ∧ Aside0 (w'.heap[gb125]? = some (.cells #[.int .i64 a0_0,.int .i64 a0_1,(.slice A0_2 l0_2.length c0_2),(.slice A0_3 l0_3.length c0_3)] 32 (0,0))) ∧ Aside0 (Below w.heap.size w w'))
   case atStart => exact ⟨(y138),(0),(by first|rfl|(simp;done)|(simp [*];done)),H',⟨Nat.le_refl _⟩,⟨by (with_reducible repeat (first|apply qd|apply qe|apply qf));exact qn HO140.out (fun _ hk => trivial)⟩,⟨by (with_reducible repeat (first|apply qa|apply qb|apply qc));exact BK125.out⟩,⟨by repeat (first|(with_reducible first|exact HB.out|apply qg|apply qh|apply qi|refine qj ?_ GE125.out)|exact HB.out)⟩⟩
   case round =>
    clear H'
    try clear c1
    try clear c2
    try clear p2
    try clear c4
    try clear c5
    try clear c13
    try clear hcz12_0
    try clear hcz12_1
    try clear hcz12_2
    try clear hcz12_3
    try clear hfz12_0
    try clear hfz12_1
    try clear hfz12_2
    try clear hfz12_3
    obtain ⟨x3_1,x4_1,rfl,HA,HK1,HO_3,BK125,HB⟩:=hrel
    cases gk with
    | zero => exact absurd HA.out (by simp [spec_l05Bytes.l0])
    | succ k1 =>
     have H:=HA.out
     clear HA
     simp only [spec_l05Bytes.l0] at H
     by_cases c17 : x4_1 < (l0_2.length : Int)
     ·
      rw [if_pos c17] at H
      have c17b0 : decide (x4_1 < (l0_2.length : Int)) = true:=decide_eq_true c17
      clear c17
      by_cases c18 : 0 ≤ x4_1
      ·
       rw [if_pos c18] at H
       have c18b0 : decide (0 ≤ x4_1) = true:=decide_eq_true c18
       clear c18
       obtain ⟨y143,hy143⟩ : ∃ y_ : List Int,y_ = (([((((rd_T55 l0_2 x4_1).f0).size : Int)) % 256] : List Int)):=⟨_,rfl⟩
       replace H : (if x3_1.length + y143.length < 140737488355328 then ((some (x3_1 ++ y143 : List Int)).bind fun y146 => (if y146.length + ((rd_T55 l0_2 x4_1).f0).size < 140737488355328 then ((some (y146 ++ bytesOf ((rd_T55 l0_2 x4_1).f0) : List Int)).bind fun y149 => ((spec_l02Number.f k1 ((rd_T55 l0_2 x4_1).f1) 3).bind fun t152 => (if y149.length + t152.length < 140737488355328 then ((some (y149 ++ t152 : List Int)).bind fun y155 => ((spec_l02Number.f k1 (wrap64 (((rd_T55 l0_2 x4_1).f2) + 1)) 2).bind fun t158 => (if y155.length + t158.length < 140737488355328 then ((some (y155 ++ t158 : List Int)).bind fun y161 => ((spec_l02Number.f k1 ((rd_T55 l0_2 x4_1).f3) 4).bind fun t164 => (if y161.length + t164.length < 140737488355328 then ((some (y161 ++ t164 : List Int)).bind fun y167 => ((some (([((((rd_T55 l0_2 x4_1).f4).length : Int)) % 256] : List Int) : List Int)).bind fun y170 => (if y167.length + y170.length < 140737488355328 then (spec_l05Bytes.l1 k1 (y167 ++ y170) x4_1 0 a0_0 a0_1 l0_2 l0_3 ((rd_T55 l0_2 x4_1).f0) ((rd_T55 l0_2 x4_1).f1) ((rd_T55 l0_2 x4_1).f2) ((rd_T55 l0_2 x4_1).f3) ((rd_T55 l0_2 x4_1).f4)) else (none)))) else (none)))) else (none)))) else (none)))) else (none))) else (none)) = some r:=by first|(rw [hy143];with_reducible exact H)|(have H2_:=(Option.bind_some _ _).symm.trans H;rw [hy143];with_reducible exact H2_)|(have H2_:=(Option.bind_some _ _).symm.trans H;with_reducible exact H2_)|with_reducible exact H|(rw [hy143];exact H)|exact H
       have Ny143:=qk hy143
       clear hy143
       by_cases c19 : x3_1.length + y143.length < 140737488355328
       ·
        rw [if_pos c19] at H
        have LMc19:=qk c19
        clear c19
        obtain ⟨y146,hy146⟩ : ∃ y_ : List Int,y_ = (x3_1 ++ y143):=⟨_,rfl⟩
        replace H : (if y146.length + ((rd_T55 l0_2 x4_1).f0).size < 140737488355328 then ((some (y146 ++ bytesOf ((rd_T55 l0_2 x4_1).f0) : List Int)).bind fun y149 => ((spec_l02Number.f k1 ((rd_T55 l0_2 x4_1).f1) 3).bind fun t152 => (if y149.length + t152.length < 140737488355328 then ((some (y149 ++ t152 : List Int)).bind fun y155 => ((spec_l02Number.f k1 (wrap64 (((rd_T55 l0_2 x4_1).f2) + 1)) 2).bind fun t158 => (if y155.length + t158.length < 140737488355328 then ((some (y155 ++ t158 : List Int)).bind fun y161 => ((spec_l02Number.f k1 ((rd_T55 l0_2 x4_1).f3) 4).bind fun t164 => (if y161.length + t164.length < 140737488355328 then ((some (y161 ++ t164 : List Int)).bind fun y167 => ((some (([((((rd_T55 l0_2 x4_1).f4).length : Int)) % 256] : List Int) : List Int)).bind fun y170 => (if y167.length + y170.length < 140737488355328 then (spec_l05Bytes.l1 k1 (y167 ++ y170) x4_1 0 a0_0 a0_1 l0_2 l0_3 ((rd_T55 l0_2 x4_1).f0) ((rd_T55 l0_2 x4_1).f1) ((rd_T55 l0_2 x4_1).f2) ((rd_T55 l0_2 x4_1).f3) ((rd_T55 l0_2 x4_1).f4)) else (none)))) else (none)))) else (none)))) else (none)))) else (none)) = some r:=by first|(rw [hy146];with_reducible exact H)|(have H2_:=(Option.bind_some _ _).symm.trans H;rw [hy146];with_reducible exact H2_)|(have H2_:=(Option.bind_some _ _).symm.trans H;with_reducible exact H2_)|with_reducible exact H|(rw [hy146];exact H)|exact H
        have Ny146:=qk hy146
        clear hy146
        by_cases c20 : y146.length + ((rd_T55 l0_2 x4_1).f0).size < 140737488355328
        ·
         rw [if_pos c20] at H
         have LMc20:=qk c20
         clear c20
         obtain ⟨y149,hy149⟩ : ∃ y_ : List Int,y_ = (y146 ++ bytesOf ((rd_T55 l0_2 x4_1).f0)):=⟨_,rfl⟩
         replace H : ((spec_l02Number.f k1 ((rd_T55 l0_2 x4_1).f1) 3).bind fun t152 => (if y149.length + t152.length < 140737488355328 then ((some (y149 ++ t152 : List Int)).bind fun y155 => ((spec_l02Number.f k1 (wrap64 (((rd_T55 l0_2 x4_1).f2) + 1)) 2).bind fun t158 => (if y155.length + t158.length < 140737488355328 then ((some (y155 ++ t158 : List Int)).bind fun y161 => ((spec_l02Number.f k1 ((rd_T55 l0_2 x4_1).f3) 4).bind fun t164 => (if y161.length + t164.length < 140737488355328 then ((some (y161 ++ t164 : List Int)).bind fun y167 => ((some (([((((rd_T55 l0_2 x4_1).f4).length : Int)) % 256] : List Int) : List Int)).bind fun y170 => (if y167.length + y170.length < 140737488355328 then (spec_l05Bytes.l1 k1 (y167 ++ y170) x4_1 0 a0_0 a0_1 l0_2 l0_3 ((rd_T55 l0_2 x4_1).f0) ((rd_T55 l0_2 x4_1).f1) ((rd_T55 l0_2 x4_1).f2) ((rd_T55 l0_2 x4_1).f3) ((rd_T55 l0_2 x4_1).f4)) else (none)))) else (none)))) else (none)))) else (none))) = some r:=by first|(rw [hy149];with_reducible exact H)|(have H2_:=(Option.bind_some _ _).symm.trans H;rw [hy149];with_reducible exact H2_)|(have H2_:=(Option.bind_some _ _).symm.trans H;with_reducible exact H2_)|with_reducible exact H|(rw [hy149];exact H)|exact H
         have Ny149:=qk hy149
         clear hy149
         replace H:=Option.bind_eq_some_iff.mp H
         obtain ⟨t152,A210,H⟩:=H
         replace H : (if y149.length + t152.length < 140737488355328 then ((some (y149 ++ t152 : List Int)).bind fun y155 => ((spec_l02Number.f k1 (wrap64 (((rd_T55 l0_2 x4_1).f2) + 1)) 2).bind fun t158 => (if y155.length + t158.length < 140737488355328 then ((some (y155 ++ t158 : List Int)).bind fun y161 => ((spec_l02Number.f k1 ((rd_T55 l0_2 x4_1).f3) 4).bind fun t164 => (if y161.length + t164.length < 140737488355328 then ((some (y161 ++ t164 : List Int)).bind fun y167 => ((some (([((((rd_T55 l0_2 x4_1).f4).length : Int)) % 256] : List Int) : List Int)).bind fun y170 => (if y167.length + y170.length < 140737488355328 then (spec_l05Bytes.l1 k1 (y167 ++ y170) x4_1 0 a0_0 a0_1 l0_2 l0_3 ((rd_T55 l0_2 x4_1).f0) ((rd_T55 l0_2 x4_1).f1) ((rd_T55 l0_2 x4_1).f2) ((rd_T55 l0_2 x4_1).f3) ((rd_T55 l0_2 x4_1).f4)) else (none)))) else (none)))) else (none)))) else (none)) = some r:=H
         have A21:=qk A210
         clear A210
         by_cases c22 : y149.length + t152.length < 140737488355328
         ·
          rw [if_pos c22] at H
          have LMc22:=qk c22
          clear c22
          obtain ⟨y155,hy155⟩ : ∃ y_ : List Int,y_ = (y149 ++ t152):=⟨_,rfl⟩
          replace H : ((spec_l02Number.f k1 (wrap64 (((rd_T55 l0_2 x4_1).f2) + 1)) 2).bind fun t158 => (if y155.length + t158.length < 140737488355328 then ((some (y155 ++ t158 : List Int)).bind fun y161 => ((spec_l02Number.f k1 ((rd_T55 l0_2 x4_1).f3) 4).bind fun t164 => (if y161.length + t164.length < 140737488355328 then ((some (y161 ++ t164 : List Int)).bind fun y167 => ((some (([((((rd_T55 l0_2 x4_1).f4).length : Int)) % 256] : List Int) : List Int)).bind fun y170 => (if y167.length + y170.length < 140737488355328 then (spec_l05Bytes.l1 k1 (y167 ++ y170) x4_1 0 a0_0 a0_1 l0_2 l0_3 ((rd_T55 l0_2 x4_1).f0) ((rd_T55 l0_2 x4_1).f1) ((rd_T55 l0_2 x4_1).f2) ((rd_T55 l0_2 x4_1).f3) ((rd_T55 l0_2 x4_1).f4)) else (none)))) else (none)))) else (none))) = some r:=by first|(rw [hy155];with_reducible exact H)|(have H2_:=(Option.bind_some _ _).symm.trans H;rw [hy155];with_reducible exact H2_)|(have H2_:=(Option.bind_some _ _).symm.trans H;with_reducible exact H2_)|with_reducible exact H|(rw [hy155];exact H)|exact H
          have Ny155:=qk hy155
          clear hy155
          replace H:=Option.bind_eq_some_iff.mp H
          obtain ⟨t158,A230,H⟩:=H
          replace H : (if y155.length + t158.length < 140737488355328 then ((some (y155 ++ t158 : List Int)).bind fun y161 => ((spec_l02Number.f k1 ((rd_T55 l0_2 x4_1).f3) 4).bind fun t164 => (if y161.length + t164.length < 140737488355328 then ((some (y161 ++ t164 : List Int)).bind fun y167 => ((some (([((((rd_T55 l0_2 x4_1).f4).length : Int)) % 256] : List Int) : List Int)).bind fun y170 => (if y167.length + y170.length < 140737488355328 then (spec_l05Bytes.l1 k1 (y167 ++ y170) x4_1 0 a0_0 a0_1 l0_2 l0_3 ((rd_T55 l0_2 x4_1).f0) ((rd_T55 l0_2 x4_1).f1) ((rd_T55 l0_2 x4_1).f2) ((rd_T55 l0_2 x4_1).f3) ((rd_T55 l0_2 x4_1).f4)) else (none)))) else (none)))) else (none)) = some r:=H
          have A23:=qk A230
          clear A230
          by_cases c24 : y155.length + t158.length < 140737488355328
          ·
           rw [if_pos c24] at H
           have LMc24:=qk c24
           clear c24
           obtain ⟨y161,hy161⟩ : ∃ y_ : List Int,y_ = (y155 ++ t158):=⟨_,rfl⟩
           replace H : ((spec_l02Number.f k1 ((rd_T55 l0_2 x4_1).f3) 4).bind fun t164 => (if y161.length + t164.length < 140737488355328 then ((some (y161 ++ t164 : List Int)).bind fun y167 => ((some (([((((rd_T55 l0_2 x4_1).f4).length : Int)) % 256] : List Int) : List Int)).bind fun y170 => (if y167.length + y170.length < 140737488355328 then (spec_l05Bytes.l1 k1 (y167 ++ y170) x4_1 0 a0_0 a0_1 l0_2 l0_3 ((rd_T55 l0_2 x4_1).f0) ((rd_T55 l0_2 x4_1).f1) ((rd_T55 l0_2 x4_1).f2) ((rd_T55 l0_2 x4_1).f3) ((rd_T55 l0_2 x4_1).f4)) else (none)))) else (none))) = some r:=by first|(rw [hy161];with_reducible exact H)|(have H2_:=(Option.bind_some _ _).symm.trans H;rw [hy161];with_reducible exact H2_)|(have H2_:=(Option.bind_some _ _).symm.trans H;with_reducible exact H2_)|with_reducible exact H|(rw [hy161];exact H)|exact H
           have Ny161:=qk hy161
           clear hy161
           replace H:=Option.bind_eq_some_iff.mp H
           obtain ⟨t164,A250,H⟩:=H
           replace H : (if y161.length + t164.length < 140737488355328 then ((some (y161 ++ t164 : List Int)).bind fun y167 => ((some (([((((rd_T55 l0_2 x4_1).f4).length : Int)) % 256] : List Int) : List Int)).bind fun y170 => (if y167.length + y170.length < 140737488355328 then (spec_l05Bytes.l1 k1 (y167 ++ y170) x4_1 0 a0_0 a0_1 l0_2 l0_3 ((rd_T55 l0_2 x4_1).f0) ((rd_T55 l0_2 x4_1).f1) ((rd_T55 l0_2 x4_1).f2) ((rd_T55 l0_2 x4_1).f3) ((rd_T55 l0_2 x4_1).f4)) else (none)))) else (none)) = some r:=H
           have A25:=qk A250
           clear A250
           by_cases c26 : y161.length + t164.length < 140737488355328
           ·
            rw [if_pos c26] at H
            have LMc26:=qk c26
            clear c26
            obtain ⟨y167,hy167⟩ : ∃ y_ : List Int,y_ = (y161 ++ t164):=⟨_,rfl⟩
            replace H : ((some (([((((rd_T55 l0_2 x4_1).f4).length : Int)) % 256] : List Int) : List Int)).bind fun y170 => (if y167.length + y170.length < 140737488355328 then (spec_l05Bytes.l1 k1 (y167 ++ y170) x4_1 0 a0_0 a0_1 l0_2 l0_3 ((rd_T55 l0_2 x4_1).f0) ((rd_T55 l0_2 x4_1).f1) ((rd_T55 l0_2 x4_1).f2) ((rd_T55 l0_2 x4_1).f3) ((rd_T55 l0_2 x4_1).f4)) else (none))) = some r:=by first|(rw [hy167];with_reducible exact H)|(have H2_:=(Option.bind_some _ _).symm.trans H;rw [hy167];with_reducible exact H2_)|(have H2_:=(Option.bind_some _ _).symm.trans H;with_reducible exact H2_)|with_reducible exact H|(rw [hy167];exact H)|exact H
            have Ny167:=qk hy167
            clear hy167
            obtain ⟨y170,hy170⟩ : ∃ y_ : List Int,y_ = (([((((rd_T55 l0_2 x4_1).f4).length : Int)) % 256] : List Int)):=⟨_,rfl⟩
            replace H : (if y167.length + y170.length < 140737488355328 then (spec_l05Bytes.l1 k1 (y167 ++ y170) x4_1 0 a0_0 a0_1 l0_2 l0_3 ((rd_T55 l0_2 x4_1).f0) ((rd_T55 l0_2 x4_1).f1) ((rd_T55 l0_2 x4_1).f2) ((rd_T55 l0_2 x4_1).f3) ((rd_T55 l0_2 x4_1).f4)) else (none)) = some r:=by first|(rw [hy170];with_reducible exact H)|(have H2_:=(Option.bind_some _ _).symm.trans H;rw [hy170];with_reducible exact H2_)|(have H2_:=(Option.bind_some _ _).symm.trans H;with_reducible exact H2_)|with_reducible exact H|(rw [hy170];exact H)|exact H
            have Ny170:=qk hy170
            clear hy170
            by_cases c27 : y167.length + y170.length < 140737488355328
            ·
             rw [if_pos c27] at H
             have LMc27:=qk c27
             clear c27
             obtain ⟨y173,hy173⟩ : ∃ y_ : List Int,y_ = (y167 ++ y170):=⟨_,rfl⟩
             replace H : (spec_l05Bytes.l1 k1 y173 x4_1 0 a0_0 a0_1 l0_2 l0_3 ((rd_T55 l0_2 x4_1).f0) ((rd_T55 l0_2 x4_1).f1) ((rd_T55 l0_2 x4_1).f2) ((rd_T55 l0_2 x4_1).f3) ((rd_T55 l0_2 x4_1).f4)) = some r:=by first|(rw [hy173];with_reducible exact H)|(have H2_:=(Option.bind_some _ _).symm.trans H;rw [hy173];with_reducible exact H2_)|(have H2_:=(Option.bind_some _ _).symm.trans H;with_reducible exact H2_)|with_reducible exact H|(rw [hy173];exact H)|exact H
             have Ny173:=qk hy173
             clear hy173
             have H':=qk H
             clear H
             have hcz28_0 : wr.cell? ⟨gb125,0,none⟩ = some (.int .i64 a0_0):=(blk_cell BK125.out 0).trans rfl
             have hcz28_1 : wr.cell? ⟨gb125,1,none⟩ = some (.int .i64 a0_1):=(blk_cell BK125.out 1).trans rfl
             have hcz28_2 : wr.cell? ⟨gb125,2,none⟩ = some (.slice A0_2 l0_2.length c0_2):=(blk_cell BK125.out 2).trans rfl
             have hcz28_3 : wr.cell? ⟨gb125,3,none⟩ = some (.slice A0_3 l0_3.length c0_3):=(blk_cell BK125.out 3).trans rfl
             have hfz28_0:=sJ BK125.out 0
             have hfz28_1:=sJ BK125.out 1
             have hfz28_2:=sJ BK125.out 2
             have hfz28_3:=sJ BK125.out 3
             have p141 : 0 ≤ (x4_1 : Int):=sM (by first|(with_reducible assumption)|assumption)
             have q141 : x4_1 < (l0_2.length : Int):=sM (by first|(with_reducible assumption)|assumption)
             obtain ⟨ad141,A141_4,c141_4,e141,hx141_0,hx141_1,hx141_2,hx141_3,hx141_4,hl141_4,hi141_4⟩:=at_T55 HR0_2.out x4_1 p141 q141
             cases e141
             replace hx141_0:=(HB.out.cell (sD w _ hx141_0)).trans hx141_0
             replace hx141_1:=(HB.out.cell (sD w _ hx141_1)).trans hx141_1
             replace hx141_2:=(HB.out.cell (sD w _ hx141_2)).trans hx141_2
             replace hx141_3:=(HB.out.cell (sD w _ hx141_3)).trans hx141_3
             replace hx141_4:=(HB.out.cell (sD w _ hx141_4)).trans hx141_4
             have HR141_4:=qk hi141_4
             have HC141_4:=qk hl141_4
             clear hi141_4 hl141_4
             replace p141:=eq_true p141
             replace q141:=eq_true q141
             try go_wp2_with (first|((with_reducible refine gate_dst (N:=5) rfl ?_);refine box_event ?hg (N:=5) ?hd (cs:=#[.string (⟨#[]⟩ : ByteArray),.int .i64 0,.int .i64 0,.int .i64 0,.slice none 0 0]) (t:=55) ?hr ?_;(case hd => rfl);(case hg => rfl);(case hr => first|(go_simp;done)|(go_simp;rfl));intro gb142 hg w29 hbox hb;have n0_:=qk (Kd.R_below (by (with_reducible repeat (first|apply qd|apply qe|apply qf));exact HO_3.out) hb);have n1_:=qk (ql (g:=gb125) (o:=.cells #[.int .i64 a0_0,.int .i64 a0_1,.slice (some ad141) l0_2.length c0_2,.slice A0_3 l0_3.length c0_3] 32 (0,0)) (by (with_reducible repeat (first|apply qa|apply qb|apply qc));exact BK125.out) hb);have n2_:=qk (sN (by repeat (first|(with_reducible first|exact HB.out|apply qg|apply qh|apply qi|refine qj ?_ GE125.out)|exact HB.out)) hb);have n3_:=qk (hbox);have n4_:=qk ((by rw [hg];exact (qm (by repeat (first|(with_reducible first|exact HB.out|apply qg|apply qh|apply qi|refine qj ?_ GE125.out)|exact HB.out))) : w.heap.size ≤ gb142));have n5_:=qk ((by rw [hg];exact (qm (by repeat (first|(with_reducible first|exact HB.out|apply qg|apply qh|apply qi|refine qj ?_ GE125.out)|exact HB.out))) : w.heap.size ≤ gb142));have n6_:=qk ((by rw [hg];exact Nat.ne_of_lt (blk_lt (g:=gb125) (o:=.cells #[.int .i64 a0_0,.int .i64 a0_1,.slice (some ad141) l0_2.length c0_2,.slice A0_3 l0_3.length c0_3] 32 (0,0)) (by (with_reducible repeat (first|apply qa|apply qb|apply qc));exact BK125.out)) : gb125 ≠ gb142));have n7_:=qk ((by rw [hg];exact Nat.ne_of_gt (blk_lt (g:=gb125) (o:=.cells #[.int .i64 a0_0,.int .i64 a0_1,.slice (some ad141) l0_2.length c0_2,.slice A0_3 l0_3.length c0_3] 32 (0,0)) (by (with_reducible repeat (first|apply qa|apply qb|apply qc));exact BK125.out)) : gb142 ≠ gb125));clear HO_3;clear BK125;clear HB;have HO_3:=n0_;have BK125:=n1_;have HB:=n2_;have BK142:=n3_;have GW142:=n4_;have GE142:=n5_;have NB125_142:=n6_;have NB142_125:=n7_;clear n0_ n1_ n2_ n3_ n4_ n5_ n6_ n7_;clear hb hbox hg;have hnb30:=NB142_125.out;have hnc30:=NB125_142.out;have hcz31_0 : w29.cell? ⟨gb142,0,none⟩ = some (.string (⟨#[]⟩ : ByteArray)):=(blk_cell BK142.out 0).trans rfl;have hcz31_1 : w29.cell? ⟨gb142,1,none⟩ = some (.int .i64 0):=(blk_cell BK142.out 1).trans rfl;have hcz31_2 : w29.cell? ⟨gb142,2,none⟩ = some (.int .i64 0):=(blk_cell BK142.out 2).trans rfl;have hcz31_3 : w29.cell? ⟨gb142,3,none⟩ = some (.int .i64 0):=(blk_cell BK142.out 3).trans rfl;have hcz31_4 : w29.cell? ⟨gb142,4,none⟩ = some (.slice none 0 0):=(blk_cell BK142.out 4).trans rfl;have hfz31_0:=sJ BK142.out 0;have hfz31_1:=sJ BK142.out 1;have hfz31_2:=sJ BK142.out 2;have hfz31_3:=sJ BK142.out 3;have hfz31_4:=sJ BK142.out 4))
             have n0_ : Aside0 (Kd.R (Kd.int .u8) 5 (((((w29.setCell ⟨gb142,0,none⟩ (.string ((rd_T55 l0_2 x4_1).f0))).setCell ⟨gb142,1,none⟩ (.int .i64 ((rd_T55 l0_2 x4_1).f1))).setCell ⟨gb142,2,none⟩ (.int .i64 ((rd_T55 l0_2 x4_1).f2))).setCell ⟨gb142,3,none⟩ (.int .i64 ((rd_T55 l0_2 x4_1).f3))).setCell ⟨gb142,4,none⟩ (.slice A141_4 ((rd_T55 l0_2 x4_1).f4).length c141_4)) w.heap.size (fun _ => True) u3 x3_1):=⟨by (with_reducible repeat (first|apply qd|apply qe|apply qf));exact qn (Kd.R_far (p:=⟨gb142,4,none⟩) (Kd.R_far (p:=⟨gb142,3,none⟩) (Kd.R_far (p:=⟨gb142,2,none⟩) (Kd.R_far (p:=⟨gb142,1,none⟩) (Kd.R_far (p:=⟨gb142,0,none⟩) (Kd.R_types HO_3.out BK142.out (by decide)) (fun _ hk => hk.2) (.string ((rd_T55 l0_2 x4_1).f0))) (fun _ hk => hk.2) (.int .i64 ((rd_T55 l0_2 x4_1).f1))) (fun _ hk => hk.2) (.int .i64 ((rd_T55 l0_2 x4_1).f2))) (fun _ hk => hk.2) (.int .i64 ((rd_T55 l0_2 x4_1).f3))) (fun _ hk => hk.2) (.slice A141_4 ((rd_T55 l0_2 x4_1).f4).length c141_4)) (fun _ hk => trivial)⟩
             have n1_ : Aside0 ((((((w29.setCell ⟨gb142,0,none⟩ (.string ((rd_T55 l0_2 x4_1).f0))).setCell ⟨gb142,1,none⟩ (.int .i64 ((rd_T55 l0_2 x4_1).f1))).setCell ⟨gb142,2,none⟩ (.int .i64 ((rd_T55 l0_2 x4_1).f2))).setCell ⟨gb142,3,none⟩ (.int .i64 ((rd_T55 l0_2 x4_1).f3))).setCell ⟨gb142,4,none⟩ (.slice A141_4 ((rd_T55 l0_2 x4_1).f4).length c141_4)).heap[gb125]? = some (.cells #[.int .i64 a0_0,.int .i64 a0_1,.slice (some ad141) l0_2.length c0_2,.slice A0_3 l0_3.length c0_3] 32 (0,0))):=⟨by (with_reducible repeat (first|apply qa|apply qb|apply qc));refine blk_far ?_ NB125_142.out _;(with_reducible repeat (first|apply qa|apply qb|apply qc));refine blk_far ?_ NB125_142.out _;(with_reducible repeat (first|apply qa|apply qb|apply qc));refine blk_far ?_ NB125_142.out _;(with_reducible repeat (first|apply qa|apply qb|apply qc));refine blk_far ?_ NB125_142.out _;(with_reducible repeat (first|apply qa|apply qb|apply qc));refine blk_far ?_ NB125_142.out _;(with_reducible repeat (first|apply qa|apply qb|apply qc));exact BK125.out⟩
             have n2_ : Aside0 ((((((w29.setCell ⟨gb142,0,none⟩ (.string ((rd_T55 l0_2 x4_1).f0))).setCell ⟨gb142,1,none⟩ (.int .i64 ((rd_T55 l0_2 x4_1).f1))).setCell ⟨gb142,2,none⟩ (.int .i64 ((rd_T55 l0_2 x4_1).f2))).setCell ⟨gb142,3,none⟩ (.int .i64 ((rd_T55 l0_2 x4_1).f3))).setCell ⟨gb142,4,none⟩ (.slice A141_4 ((rd_T55 l0_2 x4_1).f4).length c141_4)).heap[gb142]? = some (.cells #[.string ((rd_T55 l0_2 x4_1).f0),.int .i64 ((rd_T55 l0_2 x4_1).f1),.int .i64 ((rd_T55 l0_2 x4_1).f2),.int .i64 ((rd_T55 l0_2 x4_1).f3),.slice A141_4 ((rd_T55 l0_2 x4_1).f4).length c141_4] 55 (0,0))):=⟨by (with_reducible repeat (first|apply qa|apply qb|apply qc));refine blk_put (cs:=#[.string ((rd_T55 l0_2 x4_1).f0),.int .i64 ((rd_T55 l0_2 x4_1).f1),.int .i64 ((rd_T55 l0_2 x4_1).f2),.int .i64 ((rd_T55 l0_2 x4_1).f3),.slice none 0 0]) ?_ 4 _ rfl;(with_reducible repeat (first|apply qa|apply qb|apply qc));refine blk_put (cs:=#[.string ((rd_T55 l0_2 x4_1).f0),.int .i64 ((rd_T55 l0_2 x4_1).f1),.int .i64 ((rd_T55 l0_2 x4_1).f2),.int .i64 0,.slice none 0 0]) ?_ 3 _ rfl;(with_reducible repeat (first|apply qa|apply qb|apply qc));refine blk_put (cs:=#[.string ((rd_T55 l0_2 x4_1).f0),.int .i64 ((rd_T55 l0_2 x4_1).f1),.int .i64 0,.int .i64 0,.slice none 0 0]) ?_ 2 _ rfl;(with_reducible repeat (first|apply qa|apply qb|apply qc));refine blk_put (cs:=#[.string ((rd_T55 l0_2 x4_1).f0),.int .i64 0,.int .i64 0,.int .i64 0,.slice none 0 0]) ?_ 1 _ rfl;(with_reducible repeat (first|apply qa|apply qb|apply qc));refine blk_put (cs:=#[.string (⟨#[]⟩ : ByteArray),.int .i64 0,.int .i64 0,.int .i64 0,.slice none 0 0]) ?_ 0 _ rfl;(with_reducible repeat (first|apply qa|apply qb|apply qc));exact BK142.out⟩
             have n3_ : Aside0 (Below w.heap.size w (((((w29.setCell ⟨gb142,0,none⟩ (.string ((rd_T55 l0_2 x4_1).f0))).setCell ⟨gb142,1,none⟩ (.int .i64 ((rd_T55 l0_2 x4_1).f1))).setCell ⟨gb142,2,none⟩ (.int .i64 ((rd_T55 l0_2 x4_1).f2))).setCell ⟨gb142,3,none⟩ (.int .i64 ((rd_T55 l0_2 x4_1).f3))).setCell ⟨gb142,4,none⟩ (.slice A141_4 ((rd_T55 l0_2 x4_1).f4).length c141_4))):=⟨by repeat (first|(with_reducible first|exact HB.out|apply qg|apply qh|apply qi|refine qj ?_ GE125.out|refine qj ?_ GE142.out)|exact HB.out)⟩
             (try clear HO_3)
             (try clear BK125)
             (try clear BK142)
             (try clear HB)
             generalize (((((w29.setCell ⟨gb142,0,none⟩ (.string ((rd_T55 l0_2 x4_1).f0))).setCell ⟨gb142,1,none⟩ (.int .i64 ((rd_T55 l0_2 x4_1).f1))).setCell ⟨gb142,2,none⟩ (.int .i64 ((rd_T55 l0_2 x4_1).f2))).setCell ⟨gb142,3,none⟩ (.int .i64 ((rd_T55 l0_2 x4_1).f3))).setCell ⟨gb142,4,none⟩ (.slice A141_4 ((rd_T55 l0_2 x4_1).f4).length c141_4)) = w32 at n0_ n1_ n2_ n3_ ⊢
             have HO_3:=n0_
             have BK125:=n1_
             have BK142:=n2_
             have HB:=n3_
             clear n0_ n1_ n2_ n3_
             have n0_:=qk (qf HO_3.out)
             have n1_:=qk (qb BK125.out)
             have n2_:=qk (qb BK142.out)
             have n3_:=qk (qi HB.out)
             clear HO_3
             clear BK125
             clear BK142
             clear HB
             have HO_3:=n0_
             have BK125:=n1_
             have BK142:=n2_
             have HB:=n3_
             clear n0_ n1_ n2_ n3_
             refine start_ (n:=11) (S:=fun w' => w'.cell? ⟨gb142,0,none⟩ = some (.string ((rd_T55 l0_2 x4_1).f0)) ∧ w'.cell? ⟨gb142,1,none⟩ = some (.int .i64 ((rd_T55 l0_2 x4_1).f1)) ∧ w'.cell? ⟨gb142,2,none⟩ = some (.int .i64 ((rd_T55 l0_2 x4_1).f2)) ∧ w'.cell? ⟨gb142,3,none⟩ = some (.int .i64 ((rd_T55 l0_2 x4_1).f3)) ∧ w'.cell? ⟨gb142,4,none⟩ = some (.slice A141_4 ((rd_T55 l0_2 x4_1).f4).length c141_4)) (ds:=[]) #[false,false,false,false,false,false,false,false,false,false,false] (by kernel_rfl) rfl rfl ⟨(blk_cell BK142.out 0).trans rfl,(blk_cell BK142.out 1).trans rfl,(blk_cell BK142.out 2).trans rfl,(blk_cell BK142.out 3).trans rfl,(blk_cell BK142.out 4).trans rfl⟩ (fun hHeld => ?_);refine with_tabW spec_l05Bytes.tab7 spec_l05Bytes.bits7 (fun HT_ HW_ => ?_)
             generalize w32.drew = w33 at HO_3 BK125 BK142 HB hHeld ⊢
             refine pure_ (i:=0) (N:=some 35) (v:=?_) (a':=?_) #[true,false,false,false,false,false,false,false,false,false,false] rfl rfl (any_of HT_.out (by kernel_rfl)) (fun _ _ _ h => h) (Or.inl ⟨by rfl,?_⟩) ?_ ?_
             rotate_left
             ·
              intro w'
              go_simp
              with_reducible rfl
             rotate_left
             ·
              simp only [Act.put,sA,sB,sC,i64_w,i32_w]
              rfl
             refine pure_ (i:=1) (N:=some 36) (v:=?_) (a':=?_) #[true,true,false,false,false,false,false,false,false,false,false] rfl rfl (any_of HT_.out (by kernel_rfl)) (fun _ _ _ h => h) (Or.inl ⟨by rfl,?_⟩) ?_ ?_
             rotate_left
             ·
              intro w'
              go_simp
              with_reducible rfl
             rotate_left
             ·
              simp only [Act.put,sA,sB,sC,i64_w,i32_w]
              rfl
             refine pure_ (i:=7) (N:=some 42) (v:=?_) (a':=?_) #[true,true,false,false,false,false,false,true,false,false,false] rfl rfl (any_of HT_.out (by kernel_rfl)) (fun _ _ _ h => h) (Or.inl ⟨by rfl,?_⟩) ?_ ?_
             rotate_left
             ·
              intro w'
              go_simp
              with_reducible rfl
             rotate_left
             ·
              simp only [Act.put,sA,sB,sC,i64_w,i32_w]
              rfl
             refine take_ (i:=2) (N:=some 37) (v:=?_) (a':=?_) #[true,true,true,false,false,false,false,true,false,false,false] rfl rfl (take_ofW HT_.out HW_.out (by kernel_rfl)) (fun _ _ _ h => h) (Or.inl ⟨by rfl,?_⟩) hHeld ?_ ?_
             rotate_left
             ·
              rintro w' ⟨s0,s1,s2,s3,s4⟩
              go_simp
              with_reducible rfl
             rotate_left
             ·
              simp only [Act.put,sA,sB,sC,i64_w,i32_w]
              rfl
             refine pure_ (i:=3) (N:=some 38) (v:=?_) (a':=?_) #[true,true,true,true,false,false,false,true,false,false,false] rfl rfl (any_of HT_.out (by kernel_rfl)) (fun _ _ _ h => h) (Or.inl ⟨by rfl,?_⟩) ?_ ?_
             rotate_left
             ·
              intro w'
              go_simp
              with_reducible rfl
             rotate_left
             ·
              simp only [Act.put,sA,sB,sC,i64_w,i32_w]
              rfl
             refine pure_ (i:=4) (N:=some 39) (v:=?_) (a':=?_) #[true,true,true,true,true,false,false,true,false,false,false] rfl rfl (any_of HT_.out (by kernel_rfl)) (fun _ _ _ h => h) (Or.inl ⟨by rfl,?_⟩) ?_ ?_
             rotate_left
             ·
              intro w'
              go_simp
              with_reducible rfl
             rotate_left
             ·
              simp only [Act.put,sA,sB,sC,i64_w,i32_w]
              rfl
             refine take_ (i:=8) (N:=some 43) (v:=?_) (a':=?_) #[true,true,true,true,true,false,false,true,true,false,false] rfl rfl (take_ofW HT_.out HW_.out (by kernel_rfl)) (fun _ _ _ h => h) (Or.inl ⟨by rfl,?_⟩) hHeld ?_ ?_
             rotate_left
             ·
              rintro w' ⟨s0,s1,s2,s3,s4⟩
              go_simp
              with_reducible rfl
             rotate_left
             ·
              simp only [Act.put,sA,sB,sC,i64_w,i32_w]
              rfl
             refine one_ (i:=5) (N:=some 40) #[true,true,true,true,true,true,false,true,true,false,false] rfl rfl (one_of HT_.out (by kernel_rfl)) (by decide) (fun K hK => ?_)
             refine Kd.R_lit_step (Kd.int .u8) _ 5 ?hg (N:=40) ?hd (xs:=([((((rd_T55 l0_2 x4_1).f0).size : Int)) % 256] : List Int)) (inner:=[.int .u8 (((((rd_T55 l0_2 x4_1).f0).size : Int)) % 256)]) (ok:=fun _ => True) (okp:=fun _ => True) ?hr ?hp (fun _ hk => hk) trivial (Below.refl _ _) (Nat.le_refl _) (by simp) ?_;(case hd => rfl);(case hg => rfl);(case hr => first|(go_simp;done)|(go_simp;rfl));(case hp => exact (Reps.one (show Kd.M (Kd.int .u8) _ _ _ (((((rd_T55 l0_2 x4_1).f0).size : Int)) % 256) [.int .u8 (((((rd_T55 l0_2 x4_1).f0).size : Int)) % 256)] from rfl) (Reps.none _ _)))
             intro v144 w34 ho35 hb hg_ hnew_
             clear hg_ hnew_
             (first|rw [← Ny143.out] at ho35|(simp only [Int.reduceToNat] at ho35;rw [← Ny143.out] at ho35))
             have n0_:=qk (Kd.R_elder' (by (with_reducible repeat (first|apply qd|apply qe|apply qf));exact HO_3.out) (Kd.R_base ho35) hb)
             have n1_:=qk (Kd.R_lower (Kd.R_new' ho35 (Kd.R_lt (by (with_reducible repeat (first|apply qd|apply qe|apply qf));exact HO_3.out))) (qm (by repeat (first|(with_reducible first|exact HB.out|apply qg|apply qh|apply qi|refine qj ?_ GE125.out|refine qj ?_ GE142.out)|exact HB.out))))
             have n2_:=qk (ql (g:=gb125) (o:=.cells #[.int .i64 a0_0,.int .i64 a0_1,.slice (some ad141) l0_2.length c0_2,.slice A0_3 l0_3.length c0_3] 32 (0,0)) (by (with_reducible repeat (first|apply qa|apply qb|apply qc));exact BK125.out) hb)
             have n3_:=qk (ql (g:=gb142) (o:=.cells #[.string ((rd_T55 l0_2 x4_1).f0),.int .i64 ((rd_T55 l0_2 x4_1).f1),.int .i64 ((rd_T55 l0_2 x4_1).f2),.int .i64 ((rd_T55 l0_2 x4_1).f3),.slice A141_4 ((rd_T55 l0_2 x4_1).f4).length c141_4] 55 (0,0)) (by (with_reducible repeat (first|apply qa|apply qb|apply qc));exact BK142.out) hb)
             have n4_:=qk (sN (by repeat (first|(with_reducible first|exact HB.out|apply qg|apply qh|apply qi|refine qj ?_ GE125.out|refine qj ?_ GE142.out)|exact HB.out)) hb)
             clear HO_3
             clear BK125
             clear BK142
             clear HB
             have HO_3:=n0_
             have HO145:=n1_
             have BK125:=n2_
             have BK142:=n3_
             have HB:=n4_
             clear n0_ n1_ n2_ n3_ n4_
             clear hb ho35
             obtain ⟨Ao37,co37,eo37⟩:=Kd.R_slice HO145.out
             (first|subst eo37|(injection eo37 with f1_ f2_ f3_;have f4_:=f1_.symm;have f5_:=f3_.symm;clear f1_ f2_ f3_;subst f4_;subst f5_))
             refine hK.out _ _ ⟨(blk_cell BK142.out 0).trans rfl,(blk_cell BK142.out 1).trans rfl,(blk_cell BK142.out 2).trans rfl,(blk_cell BK142.out 3).trans rfl,(blk_cell BK142.out 4).trans rfl⟩ (fun hHeld => ?_)
             clear hK K
             refine norm_ (a':=?_) ?_ ?_
             rotate_left
             ·
              show Act.put _ (some 40) _ = _
              simp only [Act.put,sA,sB,sC,i64_w,i32_w]
              rfl
             refine one_ (i:=6) (N:=some 41) #[true,true,true,true,true,true,true,true,true,false,false] rfl rfl (one_of HT_.out (by kernel_rfl)) (by decide) (fun K hK => ?_)
             refine Kd.R_append_rows_step (Kd.int .u8) (w0:=w) w.heap.size (by rfl) (.tmp 35) (.tmp 40) 40 5 (.int .u8 0) 1 rfl Tryd.underlying40 info5 rfl (by decide) (by omega) u3 x3_1 y143 _ _ _ (fun k_ => some k_ ≠ (.slice Ao37 y143.length co37 : Value).ownBlock) (fun _ => False) rfl rfl ?aO ?aR (fun _ _ h => h) (fun _ h => h.elim) ?aF ?aB ?aS ?aL ?_
             (case aR => repeat (first|exact (Kd.R_reads' HO145.out).2.2|(with_reducible refine Kd.C_alloc ?_ _)|(with_reducible refine Kd.C_drewN ?_ _)|(with_reducible refine Kd.C_drew ?_)))
             (case aB => exact (by repeat (first|(with_reducible first|exact HB.out|apply qg|apply qh|apply qi|refine qj ?_ GE125.out|refine qj ?_ GE142.out)|exact HB.out)))
             (case aF => exact (fun k_ hk => Kd.fresh' (Kd.R_lt (by (with_reducible repeat (first|apply qd|apply qe|apply qf));exact HO145.out)) k_ hk))
             (case aO => exact (by (with_reducible repeat (first|apply qd|apply qe|apply qf));exact qn HO_3.out (fun _ hk => hk.2)))
             (case aS => exact (qm (by repeat (first|(with_reducible first|exact HB.out|apply qg|apply qh|apply qi|refine qj ?_ GE125.out|refine qj ?_ GE142.out)|exact HB.out))))
             (case aL => have:=LMc19.out;omega)
             intro v147 w36 ho hb hg hat
             rw [← Ny146.out] at ho
             have n0_:=qk (blk_grown (g:=gb125) (o:=.cells #[.int .i64 a0_0,.int .i64 a0_1,.slice (some ad141) l0_2.length c0_2,.slice A0_3 l0_3.length c0_3] 32 (0,0)) (by (with_reducible repeat (first|apply qa|apply qb|apply qc));exact BK125.out) hg (Kd.R_ne HO_3.out BK125.out (by decide)))
             have n1_:=qk (blk_grown (g:=gb142) (o:=.cells #[.string ((rd_T55 l0_2 x4_1).f0),.int .i64 ((rd_T55 l0_2 x4_1).f1),.int .i64 ((rd_T55 l0_2 x4_1).f2),.int .i64 ((rd_T55 l0_2 x4_1).f3),.slice A141_4 ((rd_T55 l0_2 x4_1).f4).length c141_4] 55 (0,0)) (by (with_reducible repeat (first|apply qa|apply qb|apply qc));exact BK142.out) hg (Kd.R_ne HO_3.out BK142.out (by decide)))
             have n2_:=qk (Kd.R_after (ok:=(fun _ => True)) (by (with_reducible repeat (first|apply qd|apply qe|apply qf));exact HO145.out) hg hat)
             have n3_:=qk (hb)
             have n4_:=qk (ho)
             clear BK125
             clear BK142
             clear HO145
             clear HB
             clear HO_3
             have BK125:=n0_
             have BK142:=n1_
             have HO145:=n2_
             have HB:=n3_
             have HO148:=n4_
             clear n0_ n1_ n2_ n3_ n4_
             clear ho hb hg hat
             refine hK.out _ _ ⟨(blk_cell BK142.out 0).trans rfl,(blk_cell BK142.out 1).trans rfl,(blk_cell BK142.out 2).trans rfl,(blk_cell BK142.out 3).trans rfl,(blk_cell BK142.out 4).trans rfl⟩ (fun hHeld => ?_)
             clear hK K
             refine norm_ (a':=?_) ?_ ?_
             rotate_left
             ·
              show Act.put _ (some 41) _ = _
              simp only [Act.put,sA,sB,sC,i64_w,i32_w]
              rfl
             refine one_ (i:=9) (N:=some 44) #[true,true,true,true,true,true,true,true,true,true,false] rfl rfl (one_of HT_.out (by kernel_rfl)) (by decide) (fun K hK => ?_)
             refine R_append_str_step (w0:=w) w.heap.size (by rfl) (.tmp 41) _ 40 9 5 rfl Tryd.underlying40 Tryd.underlying9 info5 v147 y146 ((rd_T55 l0_2 x4_1).f0) (fun k_ => some k_ ≠ (.slice Ao37 y143.length co37 : Value).ownBlock) rfl rfl ?aO ?aF ?aB ?aS ?aL ?_
             (case aB => exact (by repeat (first|(with_reducible first|exact HB.out|apply qg|apply qh|apply qi|refine qj ?_ GE125.out|refine qj ?_ GE142.out)|exact HB.out)))
             (case aF => exact (fun k_ hk => Kd.fresh' (Kd.R_lt (by (with_reducible repeat (first|apply qd|apply qe|apply qf));exact HO145.out)) k_ hk))
             (case aO => exact (by (with_reducible repeat (first|apply qd|apply qe|apply qf));exact HO148.out))
             (case aS => exact (qm (by repeat (first|(with_reducible first|exact HB.out|apply qg|apply qh|apply qi|refine qj ?_ GE125.out|refine qj ?_ GE142.out)|exact HB.out))))
             (case aL => have:=LMc20.out;omega)
             intro v150 w38 ho hb hg hat
             rw [← Ny149.out] at ho
             have n0_:=qk (blk_grown (g:=gb125) (o:=.cells #[.int .i64 a0_0,.int .i64 a0_1,.slice (some ad141) l0_2.length c0_2,.slice A0_3 l0_3.length c0_3] 32 (0,0)) (by (with_reducible repeat (first|apply qa|apply qb|apply qc));exact BK125.out) hg (Kd.R_ne HO148.out BK125.out (by decide)))
             have n1_:=qk (blk_grown (g:=gb142) (o:=.cells #[.string ((rd_T55 l0_2 x4_1).f0),.int .i64 ((rd_T55 l0_2 x4_1).f1),.int .i64 ((rd_T55 l0_2 x4_1).f2),.int .i64 ((rd_T55 l0_2 x4_1).f3),.slice A141_4 ((rd_T55 l0_2 x4_1).f4).length c141_4] 55 (0,0)) (by (with_reducible repeat (first|apply qa|apply qb|apply qc));exact BK142.out) hg (Kd.R_ne HO148.out BK142.out (by decide)))
             have n2_:=qk (Kd.R_after (ok:=(fun _ => True)) (by (with_reducible repeat (first|apply qd|apply qe|apply qf));exact HO145.out) hg hat)
             have n3_:=qk (hb)
             have n4_:=qk (ho)
             clear BK125
             clear BK142
             clear HO145
             clear HB
             clear HO148
             have BK125:=n0_
             have BK142:=n1_
             have HO145:=n2_
             have HB:=n3_
             have HO151:=n4_
             clear n0_ n1_ n2_ n3_ n4_
             clear ho hb hg hat
             refine hK.out _ _ ⟨(blk_cell BK142.out 0).trans rfl,(blk_cell BK142.out 1).trans rfl,(blk_cell BK142.out 2).trans rfl,(blk_cell BK142.out 3).trans rfl,(blk_cell BK142.out 4).trans rfl⟩ (fun hHeld => ?_)
             clear hK K
             refine norm_ (a':=?_) ?_ ?_
             rotate_left
             ·
              show Act.put _ (some 44) _ = _
              simp only [Act.put,sA,sB,sC,i64_w,i32_w]
              rfl
             refine pure_ (i:=10) (N:=some 3) (v:=?_) (a':=?_) #[true,true,true,true,true,true,true,true,true,true,true] rfl rfl (any_of HT_.out (by kernel_rfl)) (fun _ _ _ h => h) (Or.inl ⟨by rfl,?_⟩) ?_ ?_
             rotate_left
             ·
              intro w'
              go_simp
              with_reducible rfl
             rotate_left
             ·
              simp only [Act.put,sA,sB,sC,i64_w,i32_w]
              rfl
             refine done_ (done_of HT_.out (by kernel_rfl)) ?_
             try go_wp2
             have n0_:=qk (qf HO145.out)
             have n1_:=qk (qf HO151.out)
             have n2_:=qk (qb BK125.out)
             have n3_:=qk (qb BK142.out)
             have n4_:=qk (qi HB.out)
             clear HO145
             clear HO151
             clear BK125
             clear BK142
             clear HB
             have HO145:=n0_
             have HO151:=n1_
             have BK125:=n2_
             have BK142:=n3_
             have HB:=n4_
             clear n0_ n1_ n2_ n3_ n4_
             refine start_ (n:=11) (S:=fun w' => w'.cell? ⟨gb142,0,none⟩ = some (.string ((rd_T55 l0_2 x4_1).f0)) ∧ w'.cell? ⟨gb142,1,none⟩ = some (.int .i64 ((rd_T55 l0_2 x4_1).f1)) ∧ w'.cell? ⟨gb142,2,none⟩ = some (.int .i64 ((rd_T55 l0_2 x4_1).f2)) ∧ w'.cell? ⟨gb142,3,none⟩ = some (.int .i64 ((rd_T55 l0_2 x4_1).f3)) ∧ w'.cell? ⟨gb142,4,none⟩ = some (.slice A141_4 ((rd_T55 l0_2 x4_1).f4).length c141_4)) (ds:=[]) #[false,false,false,false,false,false,false,false,false,false,false] (by kernel_rfl) rfl rfl ⟨(blk_cell BK142.out 0).trans rfl,(blk_cell BK142.out 1).trans rfl,(blk_cell BK142.out 2).trans rfl,(blk_cell BK142.out 3).trans rfl,(blk_cell BK142.out 4).trans rfl⟩ (fun hHeld => ?_);refine with_tabW spec_l05Bytes.tab8 spec_l05Bytes.bits8 (fun HT_ HW_ => ?_)
             generalize w38.drew = w39 at HO145 HO151 BK125 BK142 HB hHeld ⊢
             refine pure_ (i:=0) (N:=some 45) (v:=?_) (a':=?_) #[true,false,false,false,false,false,false,false,false,false,false] rfl rfl (any_of HT_.out (by kernel_rfl)) (fun _ _ _ h => h) (Or.inl ⟨by rfl,?_⟩) ?_ ?_
             rotate_left
             ·
              intro w'
              go_simp
              with_reducible rfl
             rotate_left
             ·
              simp only [Act.put,sA,sB,sC,i64_w,i32_w]
              rfl
             refine pure_ (i:=1) (N:=some 46) (v:=?_) (a':=?_) #[true,true,false,false,false,false,false,false,false,false,false] rfl rfl (any_of HT_.out (by kernel_rfl)) (fun _ _ _ h => h) (Or.inl ⟨by rfl,?_⟩) ?_ ?_
             rotate_left
             ·
              intro w'
              go_simp
              with_reducible rfl
             rotate_left
             ·
              simp only [Act.put,sA,sB,sC,i64_w,i32_w]
              rfl
             refine pure_ (i:=5) (N:=some 50) (v:=?_) (a':=?_) #[true,true,false,false,false,true,false,false,false,false,false] rfl rfl (any_of HT_.out (by kernel_rfl)) (fun _ _ _ h => h) (Or.inl ⟨by rfl,?_⟩) ?_ ?_
             rotate_left
             ·
              intro w'
              go_simp
              with_reducible rfl
             rotate_left
             ·
              simp only [Act.put,sA,sB,sC,i64_w,i32_w]
              rfl
             refine take_ (i:=2) (N:=some 47) (v:=?_) (a':=?_) #[true,true,true,false,false,true,false,false,false,false,false] rfl rfl (take_ofW HT_.out HW_.out (by kernel_rfl)) (fun _ _ _ h => h) (Or.inl ⟨by rfl,?_⟩) hHeld ?_ ?_
             rotate_left
             ·
              rintro w' ⟨s0,s1,s2,s3,s4⟩
              go_simp
              with_reducible rfl
             rotate_left
             ·
              simp only [Act.put,sA,sB,sC,i64_w,i32_w]
              rfl
             refine take_ (i:=6) (N:=some 51) (v:=?_) (a':=?_) #[true,true,true,false,false,true,true,false,false,false,false] rfl rfl (take_ofW HT_.out HW_.out (by kernel_rfl)) (fun _ _ _ h => h) (Or.inl ⟨by rfl,?_⟩) hHeld ?_ ?_
             rotate_left
             ·
              rintro w' ⟨s0,s1,s2,s3,s4⟩
              go_simp
              with_reducible rfl
             rotate_left
             ·
              simp only [Act.put,sA,sB,sC,i64_w,i32_w]
              rfl
             refine pure_ (i:=7) (N:=some 52) (v:=?_) (a':=?_) #[true,true,true,false,false,true,true,true,false,false,false] rfl rfl (any_of HT_.out (by kernel_rfl)) (fun _ _ _ h => h) (Or.inl ⟨by rfl,?_⟩) ?_ ?_
             rotate_left
             ·
              intro w'
              go_simp
              with_reducible rfl
             rotate_left
             ·
              simp only [Act.put,sA,sB,sC,i64_w,i32_w]
              rfl
             refine one_ (i:=3) (N:=some 48) #[true,true,true,true,false,true,true,true,false,false,false] rfl rfl (one_of HT_.out (by kernel_rfl)) (by decide) (fun K hK => ?_)
             refine goes_ Tryd.func27 (by kernel_rfl) rfl #[.int .i64 ((rd_T55 l0_2 x4_1).f1),.int .i64 3] (by rfl) rfl rfl (by (try simp only [sE,sH,sI]);first|done|rfl|(simp only [sG,sF];rfl)) ?_
             with_reducible refine (spec_l02Number.calls k1 ((rd_T55 l0_2 x4_1).f1) 3 t152 _ A21.out).mono ?_
             rintro e w40 ⟨v153,rfl,ho0,hb⟩
             refine ⟨_,rfl,?_⟩
             have n0_:=qk (Kd.R_elder' (by (with_reducible repeat (first|apply qd|apply qe|apply qf));exact HO145.out) (Kd.R_base ho0) hb)
             have n1_:=qk (Kd.R_elder' (by (with_reducible repeat (first|apply qd|apply qe|apply qf));exact HO151.out) (Kd.R_base ho0) hb)
             have n2_:=qk (Kd.R_lower (Kd.R_new' (Kd.R_new' ho0 (Kd.R_lt (by (with_reducible repeat (first|apply qd|apply qe|apply qf));exact HO145.out))) (Kd.R_lt (by (with_reducible repeat (first|apply qd|apply qe|apply qf));exact HO151.out))) (qm (by repeat (first|(with_reducible first|exact HB.out|apply qg|apply qh|apply qi|refine qj ?_ GE125.out|refine qj ?_ GE142.out)|exact HB.out))))
             have n3_:=qk (ql (g:=gb125) (o:=.cells #[.int .i64 a0_0,.int .i64 a0_1,.slice (some ad141) l0_2.length c0_2,.slice A0_3 l0_3.length c0_3] 32 (0,0)) (by (with_reducible repeat (first|apply qa|apply qb|apply qc));exact BK125.out) hb)
             have n4_:=qk (ql (g:=gb142) (o:=.cells #[.string ((rd_T55 l0_2 x4_1).f0),.int .i64 ((rd_T55 l0_2 x4_1).f1),.int .i64 ((rd_T55 l0_2 x4_1).f2),.int .i64 ((rd_T55 l0_2 x4_1).f3),.slice A141_4 ((rd_T55 l0_2 x4_1).f4).length c141_4] 55 (0,0)) (by (with_reducible repeat (first|apply qa|apply qb|apply qc));exact BK142.out) hb)
             have n5_:=qk (sN (by repeat (first|(with_reducible first|exact HB.out|apply qg|apply qh|apply qi|refine qj ?_ GE125.out|refine qj ?_ GE142.out)|exact HB.out)) hb)
             clear HO145
             clear HO151
             clear BK125
             clear BK142
             clear HB
             have HO145:=n0_
             have HO151:=n1_
             have HO154:=n2_
             have BK125:=n3_
             have BK142:=n4_
             have HB:=n5_
             clear n0_ n1_ n2_ n3_ n4_ n5_
             (try clear hb)
             (try clear hb2)
             (try clear hk)
             (try clear hi)
             (try clear ho0)
             obtain ⟨Ao42,co42,eo42⟩:=Kd.R_slice HO154.out
             (first|subst eo42|(injection eo42 with f1_ f2_ f3_;have f4_:=f1_.symm;have f5_:=f3_.symm;clear f1_ f2_ f3_;subst f4_;subst f5_))
             refine hK.out _ _ ⟨(blk_cell BK142.out 0).trans rfl,(blk_cell BK142.out 1).trans rfl,(blk_cell BK142.out 2).trans rfl,(blk_cell BK142.out 3).trans rfl,(blk_cell BK142.out 4).trans rfl⟩ (fun hHeld => ?_)
             clear hK K
             refine norm_ (a':=?_) ?_ ?_
             rotate_left
             ·
              show Act.put _ (some 48) _ = _
              simp only [Act.put,sA,sB,sC,i64_w,i32_w]
              rfl
             refine one_ (i:=4) (N:=some 49) #[true,true,true,true,true,true,true,true,false,false,false] rfl rfl (one_of HT_.out (by kernel_rfl)) (by decide) (fun K hK => ?_)
             refine Kd.R_append_rows_step (Kd.int .u8) (w0:=w) w.heap.size (by rfl) (.tmp 45) (.tmp 48) 40 5 (.int .u8 0) 1 rfl Tryd.underlying40 info5 rfl (by decide) (by omega) v150 y149 t152 _ _ _ (fun k_ => some k_ ≠ (.slice Ao37 y143.length co37 : Value).ownBlock ∧ some k_ ≠ (.slice Ao42 t152.length co42 : Value).ownBlock) (fun _ => False) rfl rfl ?aO ?aR (fun _ _ h => h) (fun _ h => h.elim) ?aF ?aB ?aS ?aL ?_
             (case aR => repeat (first|exact (Kd.R_reads' HO154.out).2.2|(with_reducible refine Kd.C_alloc ?_ _)|(with_reducible refine Kd.C_drewN ?_ _)|(with_reducible refine Kd.C_drew ?_)))
             (case aB => exact (by repeat (first|(with_reducible first|exact HB.out|apply qg|apply qh|apply qi|refine qj ?_ GE125.out|refine qj ?_ GE142.out)|exact HB.out)))
             (case aF => exact (fun k_ hk => ⟨Kd.fresh' (Kd.R_lt (by (with_reducible repeat (first|apply qd|apply qe|apply qf));exact HO145.out)) k_ hk,Kd.fresh' (Kd.R_lt (by (with_reducible repeat (first|apply qd|apply qe|apply qf));exact HO154.out)) k_ hk⟩))
             (case aO => exact (by (with_reducible repeat (first|apply qd|apply qe|apply qf));exact HO151.out))
             (case aS => exact (qm (by repeat (first|(with_reducible first|exact HB.out|apply qg|apply qh|apply qi|refine qj ?_ GE125.out|refine qj ?_ GE142.out)|exact HB.out))))
             (case aL => have:=LMc22.out;omega)
             intro v156 w41 ho hb hg hat
             rw [← Ny155.out] at ho
             have n0_:=qk (blk_grown (g:=gb125) (o:=.cells #[.int .i64 a0_0,.int .i64 a0_1,.slice (some ad141) l0_2.length c0_2,.slice A0_3 l0_3.length c0_3] 32 (0,0)) (by (with_reducible repeat (first|apply qa|apply qb|apply qc));exact BK125.out) hg (Kd.R_ne HO151.out BK125.out (by decide)))
             have n1_:=qk (blk_grown (g:=gb142) (o:=.cells #[.string ((rd_T55 l0_2 x4_1).f0),.int .i64 ((rd_T55 l0_2 x4_1).f1),.int .i64 ((rd_T55 l0_2 x4_1).f2),.int .i64 ((rd_T55 l0_2 x4_1).f3),.slice A141_4 ((rd_T55 l0_2 x4_1).f4).length c141_4] 55 (0,0)) (by (with_reducible repeat (first|apply qa|apply qb|apply qc));exact BK142.out) hg (Kd.R_ne HO151.out BK142.out (by decide)))
             have n2_:=qk (Kd.R_after (ok:=(fun k_ => some k_ ≠ (.slice Ao42 t152.length co42 : Value).ownBlock)) (by (with_reducible repeat (first|apply qd|apply qe|apply qf));exact qn HO145.out (fun _ hk => ⟨hk.2,hk.1.2⟩)) hg hat)
             have n3_:=qk (Kd.R_after (ok:=(fun k_ => some k_ ≠ (.slice Ao37 y143.length co37 : Value).ownBlock)) (by (with_reducible repeat (first|apply qd|apply qe|apply qf));exact qn HO154.out (fun _ hk => ⟨hk.1.2,hk.2⟩)) hg hat)
             have n4_:=qk (hb)
             have n5_:=qk (ho)
             clear BK125
             clear BK142
             clear HO145
             clear HO154
             clear HB
             clear HO151
             have BK125:=n0_
             have BK142:=n1_
             have HO145:=n2_
             have HO154:=n3_
             have HB:=n4_
             have HO157:=n5_
             clear n0_ n1_ n2_ n3_ n4_ n5_
             clear ho hb hg hat
             refine hK.out _ _ ⟨(blk_cell BK142.out 0).trans rfl,(blk_cell BK142.out 1).trans rfl,(blk_cell BK142.out 2).trans rfl,(blk_cell BK142.out 3).trans rfl,(blk_cell BK142.out 4).trans rfl⟩ (fun hHeld => ?_)
             clear hK K
             refine norm_ (a':=?_) ?_ ?_
             rotate_left
             ·
              show Act.put _ (some 49) _ = _
              simp only [Act.put,sA,sB,sC,i64_w,i32_w]
              rfl
             refine one_ (i:=8) (N:=some 53) #[true,true,true,true,true,true,true,true,true,false,false] rfl rfl (one_of HT_.out (by kernel_rfl)) (by decide) (fun K hK => ?_)
             refine goes_ Tryd.func27 (by kernel_rfl) rfl #[.int .i64 (wrap64 (((rd_T55 l0_2 x4_1).f2) + 1)),.int .i64 2] (by rfl) rfl rfl (by (try simp only [sE,sH,sI]);first|done|rfl|(simp only [sG,sF];rfl)) ?_
             with_reducible refine (spec_l02Number.calls k1 (wrap64 (((rd_T55 l0_2 x4_1).f2) + 1)) 2 t158 _ A23.out).mono ?_
             rintro e w43 ⟨v159,rfl,ho0,hb⟩
             refine ⟨_,rfl,?_⟩
             have n0_:=qk (Kd.R_elder' (by (with_reducible repeat (first|apply qd|apply qe|apply qf));exact HO145.out) (Kd.R_base ho0) hb)
             have n1_:=qk (Kd.R_elder' (by (with_reducible repeat (first|apply qd|apply qe|apply qf));exact HO154.out) (Kd.R_base ho0) hb)
             have n2_:=qk (Kd.R_elder' (by (with_reducible repeat (first|apply qd|apply qe|apply qf));exact HO157.out) (Kd.R_base ho0) hb)
             have n3_:=qk (Kd.R_lower (Kd.R_new' (Kd.R_new' (Kd.R_new' ho0 (Kd.R_lt (by (with_reducible repeat (first|apply qd|apply qe|apply qf));exact HO145.out))) (Kd.R_lt (by (with_reducible repeat (first|apply qd|apply qe|apply qf));exact HO154.out))) (Kd.R_lt (by (with_reducible repeat (first|apply qd|apply qe|apply qf));exact HO157.out))) (qm (by repeat (first|(with_reducible first|exact HB.out|apply qg|apply qh|apply qi|refine qj ?_ GE125.out|refine qj ?_ GE142.out)|exact HB.out))))
             have n4_:=qk (ql (g:=gb125) (o:=.cells #[.int .i64 a0_0,.int .i64 a0_1,.slice (some ad141) l0_2.length c0_2,.slice A0_3 l0_3.length c0_3] 32 (0,0)) (by (with_reducible repeat (first|apply qa|apply qb|apply qc));exact BK125.out) hb)
             have n5_:=qk (ql (g:=gb142) (o:=.cells #[.string ((rd_T55 l0_2 x4_1).f0),.int .i64 ((rd_T55 l0_2 x4_1).f1),.int .i64 ((rd_T55 l0_2 x4_1).f2),.int .i64 ((rd_T55 l0_2 x4_1).f3),.slice A141_4 ((rd_T55 l0_2 x4_1).f4).length c141_4] 55 (0,0)) (by (with_reducible repeat (first|apply qa|apply qb|apply qc));exact BK142.out) hb)
             have n6_:=qk (sN (by repeat (first|(with_reducible first|exact HB.out|apply qg|apply qh|apply qi|refine qj ?_ GE125.out|refine qj ?_ GE142.out)|exact HB.out)) hb)
             clear HO145
             clear HO154
             clear HO157
             clear BK125
             clear BK142
             clear HB
             have HO145:=n0_
             have HO154:=n1_
             have HO157:=n2_
             have HO160:=n3_
             have BK125:=n4_
             have BK142:=n5_
             have HB:=n6_
             clear n0_ n1_ n2_ n3_ n4_ n5_ n6_
             (try clear hb)
             (try clear hb2)
             (try clear hk)
             (try clear hi)
             (try clear ho0)
             obtain ⟨Ao45,co45,eo45⟩:=Kd.R_slice HO160.out
             (first|subst eo45|(injection eo45 with f1_ f2_ f3_;have f4_:=f1_.symm;have f5_:=f3_.symm;clear f1_ f2_ f3_;subst f4_;subst f5_))
             refine hK.out _ _ ⟨(blk_cell BK142.out 0).trans rfl,(blk_cell BK142.out 1).trans rfl,(blk_cell BK142.out 2).trans rfl,(blk_cell BK142.out 3).trans rfl,(blk_cell BK142.out 4).trans rfl⟩ (fun hHeld => ?_)
             clear hK K
             refine norm_ (a':=?_) ?_ ?_
             rotate_left
             ·
              show Act.put _ (some 53) _ = _
              simp only [Act.put,sA,sB,sC,i64_w,i32_w]
              rfl
             refine one_ (i:=9) (N:=some 54) #[true,true,true,true,true,true,true,true,true,true,false] rfl rfl (one_of HT_.out (by kernel_rfl)) (by decide) (fun K hK => ?_)
             refine Kd.R_append_rows_step (Kd.int .u8) (w0:=w) w.heap.size (by rfl) (.tmp 49) (.tmp 53) 40 5 (.int .u8 0) 1 rfl Tryd.underlying40 info5 rfl (by decide) (by omega) v156 y155 t158 _ _ _ (fun k_ => some k_ ≠ (.slice Ao37 y143.length co37 : Value).ownBlock ∧ some k_ ≠ (.slice Ao42 t152.length co42 : Value).ownBlock ∧ some k_ ≠ (.slice Ao45 t158.length co45 : Value).ownBlock) (fun _ => False) rfl rfl ?aO ?aR (fun _ _ h => h) (fun _ h => h.elim) ?aF ?aB ?aS ?aL ?_
             (case aR => repeat (first|exact (Kd.R_reads' HO160.out).2.2|(with_reducible refine Kd.C_alloc ?_ _)|(with_reducible refine Kd.C_drewN ?_ _)|(with_reducible refine Kd.C_drew ?_)))
             (case aB => exact (by repeat (first|(with_reducible first|exact HB.out|apply qg|apply qh|apply qi|refine qj ?_ GE125.out|refine qj ?_ GE142.out)|exact HB.out)))
             (case aF => exact (fun k_ hk => ⟨Kd.fresh' (Kd.R_lt (by (with_reducible repeat (first|apply qd|apply qe|apply qf));exact HO145.out)) k_ hk,Kd.fresh' (Kd.R_lt (by (with_reducible repeat (first|apply qd|apply qe|apply qf));exact HO154.out)) k_ hk,Kd.fresh' (Kd.R_lt (by (with_reducible repeat (first|apply qd|apply qe|apply qf));exact HO160.out)) k_ hk⟩))
             (case aO => exact (by (with_reducible repeat (first|apply qd|apply qe|apply qf));exact qn HO157.out (fun _ hk => ⟨hk.1.1,⟨hk.1.2,hk.2⟩⟩)))
             (case aS => exact (qm (by repeat (first|(with_reducible first|exact HB.out|apply qg|apply qh|apply qi|refine qj ?_ GE125.out|refine qj ?_ GE142.out)|exact HB.out))))
             (case aL => have:=LMc24.out;omega)
             intro v162 w44 ho hb hg hat
             rw [← Ny161.out] at ho
             have n0_:=qk (blk_grown (g:=gb125) (o:=.cells #[.int .i64 a0_0,.int .i64 a0_1,.slice (some ad141) l0_2.length c0_2,.slice A0_3 l0_3.length c0_3] 32 (0,0)) (by (with_reducible repeat (first|apply qa|apply qb|apply qc));exact BK125.out) hg (Kd.R_ne HO157.out BK125.out (by decide)))
             have n1_:=qk (blk_grown (g:=gb142) (o:=.cells #[.string ((rd_T55 l0_2 x4_1).f0),.int .i64 ((rd_T55 l0_2 x4_1).f1),.int .i64 ((rd_T55 l0_2 x4_1).f2),.int .i64 ((rd_T55 l0_2 x4_1).f3),.slice A141_4 ((rd_T55 l0_2 x4_1).f4).length c141_4] 55 (0,0)) (by (with_reducible repeat (first|apply qa|apply qb|apply qc));exact BK142.out) hg (Kd.R_ne HO157.out BK142.out (by decide)))
             have n2_:=qk (Kd.R_after (ok:=(fun k_ => some k_ ≠ (.slice Ao42 t152.length co42 : Value).ownBlock ∧ some k_ ≠ (.slice Ao45 t158.length co45 : Value).ownBlock)) (by (with_reducible repeat (first|apply qd|apply qe|apply qf));exact qn HO145.out (fun _ hk => ⟨⟨hk.1.1,hk.2⟩,hk.1.2⟩)) hg hat)
             have n3_:=qk (Kd.R_after (ok:=(fun k_ => some k_ ≠ (.slice Ao37 y143.length co37 : Value).ownBlock ∧ some k_ ≠ (.slice Ao45 t158.length co45 : Value).ownBlock)) (by (with_reducible repeat (first|apply qd|apply qe|apply qf));exact qn HO154.out (fun _ hk => ⟨⟨hk.1.1,hk.2⟩,hk.1.2⟩)) hg hat)
             have n4_:=qk (Kd.R_after (ok:=(fun k_ => some k_ ≠ (.slice Ao37 y143.length co37 : Value).ownBlock ∧ some k_ ≠ (.slice Ao42 t152.length co42 : Value).ownBlock)) (by (with_reducible repeat (first|apply qd|apply qe|apply qf));exact qn HO160.out (fun _ hk => ⟨⟨hk.1.1.2,hk.1.2⟩,hk.2⟩)) hg hat)
             have n5_:=qk (hb)
             have n6_:=qk (ho)
             clear BK125
             clear BK142
             clear HO145
             clear HO154
             clear HO160
             clear HB
             clear HO157
             have BK125:=n0_
             have BK142:=n1_
             have HO145:=n2_
             have HO154:=n3_
             have HO160:=n4_
             have HB:=n5_
             have HO163:=n6_
             clear n0_ n1_ n2_ n3_ n4_ n5_ n6_
             clear ho hb hg hat
             refine hK.out _ _ ⟨(blk_cell BK142.out 0).trans rfl,(blk_cell BK142.out 1).trans rfl,(blk_cell BK142.out 2).trans rfl,(blk_cell BK142.out 3).trans rfl,(blk_cell BK142.out 4).trans rfl⟩ (fun hHeld => ?_)
             clear hK K
             refine norm_ (a':=?_) ?_ ?_
             rotate_left
             ·
              show Act.put _ (some 54) _ = _
              simp only [Act.put,sA,sB,sC,i64_w,i32_w]
              rfl
             refine pure_ (i:=10) (N:=some 3) (v:=?_) (a':=?_) #[true,true,true,true,true,true,true,true,true,true,true] rfl rfl (any_of HT_.out (by kernel_rfl)) (fun _ _ _ h => h) (Or.inl ⟨by rfl,?_⟩) ?_ ?_
             rotate_left
             ·
              intro w'
              go_simp
              with_reducible rfl
             rotate_left
             ·
              simp only [Act.put,sA,sB,sC,i64_w,i32_w]
              rfl
             refine done_ (done_of HT_.out (by kernel_rfl)) ?_
             obtain ⟨Ao46,co46,eo46⟩:=Kd.R_slice HO163.out
             subst eo46
             try go_wp2
             have n0_:=qk (qf HO145.out)
             have n1_:=qk (qf HO154.out)
             have n2_:=qk (qf HO160.out)
             have n3_:=qk (qf HO163.out)
             have n4_:=qk (qb BK125.out)
             have n5_:=qk (qb BK142.out)
             have n6_:=qk (qi HB.out)
             clear HO145
             clear HO154
             clear HO160
             clear HO163
             clear BK125
             clear BK142
             clear HB
             have HO145:=n0_
             have HO154:=n1_
             have HO160:=n2_
             have HO163:=n3_
             have BK125:=n4_
             have BK142:=n5_
             have HB:=n6_
             clear n0_ n1_ n2_ n3_ n4_ n5_ n6_
             refine start_ (n:=12) (S:=fun w' => w'.cell? ⟨gb142,0,none⟩ = some (.string ((rd_T55 l0_2 x4_1).f0)) ∧ w'.cell? ⟨gb142,1,none⟩ = some (.int .i64 ((rd_T55 l0_2 x4_1).f1)) ∧ w'.cell? ⟨gb142,2,none⟩ = some (.int .i64 ((rd_T55 l0_2 x4_1).f2)) ∧ w'.cell? ⟨gb142,3,none⟩ = some (.int .i64 ((rd_T55 l0_2 x4_1).f3)) ∧ w'.cell? ⟨gb142,4,none⟩ = some (.slice A141_4 ((rd_T55 l0_2 x4_1).f4).length c141_4)) (ds:=[]) #[false,false,false,false,false,false,false,false,false,false,false,false] (by kernel_rfl) rfl rfl ⟨(blk_cell BK142.out 0).trans rfl,(blk_cell BK142.out 1).trans rfl,(blk_cell BK142.out 2).trans rfl,(blk_cell BK142.out 3).trans rfl,(blk_cell BK142.out 4).trans rfl⟩ (fun hHeld => ?_);refine with_tabW spec_l05Bytes.tab9 spec_l05Bytes.bits9 (fun HT_ HW_ => ?_)
             generalize w44.drew = w47 at HO145 HO154 HO160 HO163 BK125 BK142 HB hHeld ⊢
             refine pure_ (i:=0) (N:=some 55) (v:=?_) (a':=?_) #[true,false,false,false,false,false,false,false,false,false,false,false] rfl rfl (any_of HT_.out (by kernel_rfl)) (fun _ _ _ h => h) (Or.inl ⟨by rfl,?_⟩) ?_ ?_
             rotate_left
             ·
              intro w'
              go_simp
              with_reducible rfl
             rotate_left
             ·
              simp only [Act.put,sA,sB,sC,i64_w,i32_w]
              rfl
             refine pure_ (i:=1) (N:=some 56) (v:=?_) (a':=?_) #[true,true,false,false,false,false,false,false,false,false,false,false] rfl rfl (any_of HT_.out (by kernel_rfl)) (fun _ _ _ h => h) (Or.inl ⟨by rfl,?_⟩) ?_ ?_
             rotate_left
             ·
              intro w'
              go_simp
              with_reducible rfl
             rotate_left
             ·
              simp only [Act.put,sA,sB,sC,i64_w,i32_w]
              rfl
             refine pure_ (i:=5) (N:=some 60) (v:=?_) (a':=?_) #[true,true,false,false,false,true,false,false,false,false,false,false] rfl rfl (any_of HT_.out (by kernel_rfl)) (fun _ _ _ h => h) (Or.inl ⟨by rfl,?_⟩) ?_ ?_
             rotate_left
             ·
              intro w'
              go_simp
              with_reducible rfl
             rotate_left
             ·
              simp only [Act.put,sA,sB,sC,i64_w,i32_w]
              rfl
             refine take_ (i:=2) (N:=some 57) (v:=?_) (a':=?_) #[true,true,true,false,false,true,false,false,false,false,false,false] rfl rfl (take_ofW HT_.out HW_.out (by kernel_rfl)) (fun _ _ _ h => h) (Or.inl ⟨by rfl,?_⟩) hHeld ?_ ?_
             rotate_left
             ·
              rintro w' ⟨s0,s1,s2,s3,s4⟩
              go_simp
              with_reducible rfl
             rotate_left
             ·
              simp only [Act.put,sA,sB,sC,i64_w,i32_w]
              rfl
             refine take_ (i:=6) (N:=some 61) (v:=?_) (a':=?_) #[true,true,true,false,false,true,true,false,false,false,false,false] rfl rfl (take_ofW HT_.out HW_.out (by kernel_rfl)) (fun _ _ _ h => h) (Or.inl ⟨by rfl,?_⟩) hHeld ?_ ?_
             rotate_left
             ·
              rintro w' ⟨s0,s1,s2,s3,s4⟩
              go_simp
              with_reducible rfl
             rotate_left
             ·
              simp only [Act.put,sA,sB,sC,i64_w,i32_w]
              rfl
             refine pure_ (i:=7) (N:=some 62) (v:=?_) (a':=?_) #[true,true,true,false,false,true,true,true,false,false,false,false] rfl rfl (any_of HT_.out (by kernel_rfl)) (fun _ _ _ h => h) (Or.inl ⟨by rfl,?_⟩) ?_ ?_
             rotate_left
             ·
              intro w'
              go_simp
              with_reducible rfl
             rotate_left
             ·
              simp only [Act.put,sA,sB,sC,i64_w,i32_w]
              rfl
             refine pure_ (i:=8) (N:=some 63) (v:=?_) (a':=?_) #[true,true,true,false,false,true,true,true,true,false,false,false] rfl rfl (any_of HT_.out (by kernel_rfl)) (fun _ _ _ h => h) (Or.inl ⟨by rfl,?_⟩) ?_ ?_
             rotate_left
             ·
              intro w'
              go_simp
              with_reducible rfl
             rotate_left
             ·
              simp only [Act.put,sA,sB,sC,i64_w,i32_w]
              rfl
             refine join_ (σ:=Value × Value × Value) 2 #[true,true,true,true,true,true,true,true,true,true,false,false] (fun s_ => [(58,s_.1),(59,s_.2.1),(64,s_.2.2)]) (fun s_ w' => (w'.cell? ⟨gb142,0,none⟩ = some (.string ((rd_T55 l0_2 x4_1).f0)) ∧ w'.cell? ⟨gb142,1,none⟩ = some (.int .i64 ((rd_T55 l0_2 x4_1).f1)) ∧ w'.cell? ⟨gb142,2,none⟩ = some (.int .i64 ((rd_T55 l0_2 x4_1).f2)) ∧ w'.cell? ⟨gb142,3,none⟩ = some (.int .i64 ((rd_T55 l0_2 x4_1).f3)) ∧ w'.cell? ⟨gb142,4,none⟩ = some (.slice A141_4 ((rd_T55 l0_2 x4_1).f4).length c141_4)) ∧ (Kd.R (Kd.int .u8) 5 w' w.heap.size (fun k_ => some k_ ≠ (.slice Ao42 t152.length co42 : Value).ownBlock ∧ some k_ ≠ (.slice Ao45 t158.length co45 : Value).ownBlock ∧ some k_ ≠ (s_.1 : Value).ownBlock ∧ some k_ ≠ (s_.2.1 : Value).ownBlock ∧ some k_ ≠ (s_.2.2 : Value).ownBlock) (.slice Ao37 y143.length co37) y143) ∧ (Kd.R (Kd.int .u8) 5 w' w.heap.size (fun k_ => some k_ ≠ (.slice Ao37 y143.length co37 : Value).ownBlock ∧ some k_ ≠ (.slice Ao45 t158.length co45 : Value).ownBlock ∧ some k_ ≠ (s_.1 : Value).ownBlock ∧ some k_ ≠ (s_.2.1 : Value).ownBlock ∧ some k_ ≠ (s_.2.2 : Value).ownBlock) (.slice Ao42 t152.length co42) t152) ∧ (Kd.R (Kd.int .u8) 5 w' w.heap.size (fun k_ => some k_ ≠ (.slice Ao37 y143.length co37 : Value).ownBlock ∧ some k_ ≠ (.slice Ao42 t152.length co42 : Value).ownBlock ∧ some k_ ≠ (s_.1 : Value).ownBlock ∧ some k_ ≠ (s_.2.1 : Value).ownBlock ∧ some k_ ≠ (s_.2.2 : Value).ownBlock) (.slice Ao45 t158.length co45) t158) ∧ (Kd.R (Kd.int .u8) 5 w' w.heap.size (fun k_ => some k_ ≠ (.slice Ao37 y143.length co37 : Value).ownBlock ∧ some k_ ≠ (.slice Ao42 t152.length co42 : Value).ownBlock ∧ some k_ ≠ (.slice Ao45 t158.length co45 : Value).ownBlock ∧ some k_ ≠ (s_.2.1 : Value).ownBlock ∧ some k_ ≠ (s_.2.2 : Value).ownBlock) s_.1 t164) ∧ (Kd.R (Kd.int .u8) 5 w' w.heap.size (fun k_ => some k_ ≠ (.slice Ao37 y143.length co37 : Value).ownBlock ∧ some k_ ≠ (.slice Ao42 t152.length co42 : Value).ownBlock ∧ some k_ ≠ (.slice Ao45 t158.length co45 : Value).ownBlock ∧ some k_ ≠ (s_.1 : Value).ownBlock ∧ some k_ ≠ (s_.2.2 : Value).ownBlock) s_.2.1 y167) ∧ (Kd.R (Kd.int .u8) 5 w' w.heap.size (fun k_ => some k_ ≠ (.slice Ao37 y143.length co37 : Value).ownBlock ∧ some k_ ≠ (.slice Ao42 t152.length co42 : Value).ownBlock ∧ some k_ ≠ (.slice Ao45 t158.length co45 : Value).ownBlock ∧ some k_ ≠ (s_.1 : Value).ownBlock ∧ some k_ ≠ (s_.2.1 : Value).ownBlock) s_.2.2 y170) ∧ (w'.heap[gb125]? = some (.cells #[.int .i64 a0_0,.int .i64 a0_1,.slice (some ad141) l0_2.length c0_2,.slice A0_3 l0_3.length c0_3] 32 (0,0))) ∧ (w'.heap[gb142]? = some (.cells #[.string ((rd_T55 l0_2 x4_1).f0),.int .i64 ((rd_T55 l0_2 x4_1).f1),.int .i64 ((rd_T55 l0_2 x4_1).f2),.int .i64 ((rd_T55 l0_2 x4_1).f3),.slice A141_4 ((rd_T55 l0_2 x4_1).f4).length c141_4] 55 (0,0))) ∧ (Below w.heap.size w w')) ?_ ?_
             rotate_left
             ·
              intro hCont
              refine two_ (i:=3) (j:=9) (Ni:=some 58) (Nj:=some 64) #[true,true,true,true,false,true,true,true,true,false,false,false] #[true,true,true,false,false,true,true,true,true,true,false,false] rfl rfl rfl rfl (two_of HT_.out (by kernel_rfl)) (by decide) (by decide) (fun K hK => ?_) (fun K hK => ?_)
              ·
               skip
               refine goes_ Tryd.func27 (by kernel_rfl) rfl #[.int .i64 ((rd_T55 l0_2 x4_1).f3),.int .i64 4] (by rfl) rfl rfl (by (try simp only [sE,sH,sI]);first|done|rfl|(simp only [sG,sF];rfl)) ?_
               with_reducible refine (spec_l02Number.calls k1 ((rd_T55 l0_2 x4_1).f3) 4 t164 _ A25.out).mono ?_
               rintro e w48 ⟨v165,rfl,ho0,hb⟩
               refine ⟨_,rfl,?_⟩
               have n0_:=qk (Kd.R_elder' (by (with_reducible repeat (first|apply qd|apply qe|apply qf));exact HO145.out) (Kd.R_base ho0) hb)
               have n1_:=qk (Kd.R_elder' (by (with_reducible repeat (first|apply qd|apply qe|apply qf));exact HO154.out) (Kd.R_base ho0) hb)
               have n2_:=qk (Kd.R_elder' (by (with_reducible repeat (first|apply qd|apply qe|apply qf));exact HO160.out) (Kd.R_base ho0) hb)
               have n3_:=qk (Kd.R_elder' (by (with_reducible repeat (first|apply qd|apply qe|apply qf));exact HO163.out) (Kd.R_base ho0) hb)
               have n4_:=qk (Kd.R_lower (Kd.R_new' (Kd.R_new' (Kd.R_new' (Kd.R_new' ho0 (Kd.R_lt (by (with_reducible repeat (first|apply qd|apply qe|apply qf));exact HO145.out))) (Kd.R_lt (by (with_reducible repeat (first|apply qd|apply qe|apply qf));exact HO154.out))) (Kd.R_lt (by (with_reducible repeat (first|apply qd|apply qe|apply qf));exact HO160.out))) (Kd.R_lt (by (with_reducible repeat (first|apply qd|apply qe|apply qf));exact HO163.out))) (qm (by repeat (first|(with_reducible first|exact HB.out|apply qg|apply qh|apply qi|refine qj ?_ GE125.out|refine qj ?_ GE142.out)|exact HB.out))))
               have n5_:=qk (ql (g:=gb125) (o:=.cells #[.int .i64 a0_0,.int .i64 a0_1,.slice (some ad141) l0_2.length c0_2,.slice A0_3 l0_3.length c0_3] 32 (0,0)) (by (with_reducible repeat (first|apply qa|apply qb|apply qc));exact BK125.out) hb)
               have n6_:=qk (ql (g:=gb142) (o:=.cells #[.string ((rd_T55 l0_2 x4_1).f0),.int .i64 ((rd_T55 l0_2 x4_1).f1),.int .i64 ((rd_T55 l0_2 x4_1).f2),.int .i64 ((rd_T55 l0_2 x4_1).f3),.slice A141_4 ((rd_T55 l0_2 x4_1).f4).length c141_4] 55 (0,0)) (by (with_reducible repeat (first|apply qa|apply qb|apply qc));exact BK142.out) hb)
               have n7_:=qk (sN (by repeat (first|(with_reducible first|exact HB.out|apply qg|apply qh|apply qi|refine qj ?_ GE125.out|refine qj ?_ GE142.out)|exact HB.out)) hb)
               clear HO145
               clear HO154
               clear HO160
               clear HO163
               clear BK125
               clear BK142
               clear HB
               have HO145:=n0_
               have HO154:=n1_
               have HO160:=n2_
               have HO163:=n3_
               have HO166:=n4_
               have BK125:=n5_
               have BK142:=n6_
               have HB:=n7_
               clear n0_ n1_ n2_ n3_ n4_ n5_ n6_ n7_
               (try clear hb)
               (try clear hb2)
               (try clear hk)
               (try clear hi)
               (try clear ho0)
               obtain ⟨Ao50,co50,eo50⟩:=Kd.R_slice HO166.out
               (first|subst eo50|(injection eo50 with f1_ f2_ f3_;have f4_:=f1_.symm;have f5_:=f3_.symm;clear f1_ f2_ f3_;subst f4_;subst f5_))
               refine hK.out _ _ ⟨(blk_cell BK142.out 0).trans rfl,(blk_cell BK142.out 1).trans rfl,(blk_cell BK142.out 2).trans rfl,(blk_cell BK142.out 3).trans rfl,(blk_cell BK142.out 4).trans rfl⟩ (fun hHeld => ?_)
               clear hK K
               refine norm_ (a':=?_) ?_ ?_
               rotate_left
               ·
                show Act.put _ (some 58) _ = _
                simp only [Act.put,sA,sB,sC,i64_w,i32_w]
                rfl
               refine two_ (i:=4) (j:=9) (Ni:=some 59) (Nj:=some 64) #[true,true,true,true,true,true,true,true,true,false,false,false] #[true,true,true,true,false,true,true,true,true,true,false,false] rfl rfl rfl rfl (two_of HT_.out (by kernel_rfl)) (by decide) (by decide) (fun K hK => ?_) (fun K hK => ?_)
               ·
                skip
                refine Kd.R_append_rows_step (Kd.int .u8) (w0:=w) w.heap.size (by rfl) (.tmp 55) (.tmp 58) 40 5 (.int .u8 0) 1 rfl Tryd.underlying40 info5 rfl (by decide) (by omega) (.slice Ao46 y161.length co46) y161 t164 _ _ _ (fun k_ => some k_ ≠ (.slice Ao37 y143.length co37 : Value).ownBlock ∧ some k_ ≠ (.slice Ao42 t152.length co42 : Value).ownBlock ∧ some k_ ≠ (.slice Ao45 t158.length co45 : Value).ownBlock ∧ some k_ ≠ (.slice Ao50 t164.length co50 : Value).ownBlock) (fun _ => False) rfl rfl ?aO ?aR (fun _ _ h => h) (fun _ h => h.elim) ?aF ?aB ?aS ?aL ?_
                (case aR => repeat (first|exact (Kd.R_reads' HO166.out).2.2|(with_reducible refine Kd.C_alloc ?_ _)|(with_reducible refine Kd.C_drewN ?_ _)|(with_reducible refine Kd.C_drew ?_)))
                (case aB => exact (by repeat (first|(with_reducible first|exact HB.out|apply qg|apply qh|apply qi|refine qj ?_ GE125.out|refine qj ?_ GE142.out)|exact HB.out)))
                (case aF => exact (fun k_ hk => ⟨Kd.fresh' (Kd.R_lt (by (with_reducible repeat (first|apply qd|apply qe|apply qf));exact HO145.out)) k_ hk,Kd.fresh' (Kd.R_lt (by (with_reducible repeat (first|apply qd|apply qe|apply qf));exact HO154.out)) k_ hk,Kd.fresh' (Kd.R_lt (by (with_reducible repeat (first|apply qd|apply qe|apply qf));exact HO160.out)) k_ hk,Kd.fresh' (Kd.R_lt (by (with_reducible repeat (first|apply qd|apply qe|apply qf));exact HO166.out)) k_ hk⟩))
                (case aO => exact (by (with_reducible repeat (first|apply qd|apply qe|apply qf));exact qn HO163.out (fun _ hk => ⟨hk.1.1,⟨hk.1.2.1,⟨hk.1.2.2,hk.2⟩⟩⟩)))
                (case aS => exact (qm (by repeat (first|(with_reducible first|exact HB.out|apply qg|apply qh|apply qi|refine qj ?_ GE125.out|refine qj ?_ GE142.out)|exact HB.out))))
                (case aL => have:=LMc26.out;omega)
                intro v168 w49 ho hb hg hat
                rw [← Ny167.out] at ho
                have n0_:=qk (blk_grown (g:=gb125) (o:=.cells #[.int .i64 a0_0,.int .i64 a0_1,.slice (some ad141) l0_2.length c0_2,.slice A0_3 l0_3.length c0_3] 32 (0,0)) (by (with_reducible repeat (first|apply qa|apply qb|apply qc));exact BK125.out) hg (Kd.R_ne HO163.out BK125.out (by decide)))
                have n1_:=qk (blk_grown (g:=gb142) (o:=.cells #[.string ((rd_T55 l0_2 x4_1).f0),.int .i64 ((rd_T55 l0_2 x4_1).f1),.int .i64 ((rd_T55 l0_2 x4_1).f2),.int .i64 ((rd_T55 l0_2 x4_1).f3),.slice A141_4 ((rd_T55 l0_2 x4_1).f4).length c141_4] 55 (0,0)) (by (with_reducible repeat (first|apply qa|apply qb|apply qc));exact BK142.out) hg (Kd.R_ne HO163.out BK142.out (by decide)))
                have n2_:=qk (Kd.R_after (ok:=(fun k_ => some k_ ≠ (.slice Ao42 t152.length co42 : Value).ownBlock ∧ some k_ ≠ (.slice Ao45 t158.length co45 : Value).ownBlock ∧ some k_ ≠ (.slice Ao50 t164.length co50 : Value).ownBlock)) (by (with_reducible repeat (first|apply qd|apply qe|apply qf));exact qn HO145.out (fun _ hk => ⟨⟨hk.1.1.1,⟨hk.1.1.2,hk.2⟩⟩,hk.1.2⟩)) hg hat)
                have n3_:=qk (Kd.R_after (ok:=(fun k_ => some k_ ≠ (.slice Ao37 y143.length co37 : Value).ownBlock ∧ some k_ ≠ (.slice Ao45 t158.length co45 : Value).ownBlock ∧ some k_ ≠ (.slice Ao50 t164.length co50 : Value).ownBlock)) (by (with_reducible repeat (first|apply qd|apply qe|apply qf));exact qn HO154.out (fun _ hk => ⟨⟨hk.1.1.1,⟨hk.1.1.2,hk.2⟩⟩,hk.1.2⟩)) hg hat)
                have n4_:=qk (Kd.R_after (ok:=(fun k_ => some k_ ≠ (.slice Ao37 y143.length co37 : Value).ownBlock ∧ some k_ ≠ (.slice Ao42 t152.length co42 : Value).ownBlock ∧ some k_ ≠ (.slice Ao50 t164.length co50 : Value).ownBlock)) (by (with_reducible repeat (first|apply qd|apply qe|apply qf));exact qn HO160.out (fun _ hk => ⟨⟨hk.1.1.1,⟨hk.1.1.2,hk.2⟩⟩,hk.1.2⟩)) hg hat)
                have n5_:=qk (Kd.R_after (ok:=(fun k_ => some k_ ≠ (.slice Ao37 y143.length co37 : Value).ownBlock ∧ some k_ ≠ (.slice Ao42 t152.length co42 : Value).ownBlock ∧ some k_ ≠ (.slice Ao45 t158.length co45 : Value).ownBlock)) (by (with_reducible repeat (first|apply qd|apply qe|apply qf));exact qn HO166.out (fun _ hk => ⟨⟨hk.1.1.1.2,⟨hk.1.1.2,hk.1.2⟩⟩,hk.2⟩)) hg hat)
                have n6_:=qk (hb)
                have n7_:=qk (ho)
                clear BK125
                clear BK142
                clear HO145
                clear HO154
                clear HO160
                clear HO166
                clear HB
                clear HO163
                have BK125:=n0_
                have BK142:=n1_
                have HO145:=n2_
                have HO154:=n3_
                have HO160:=n4_
                have HO166:=n5_
                have HB:=n6_
                have HO169:=n7_
                clear n0_ n1_ n2_ n3_ n4_ n5_ n6_ n7_
                clear ho hb hg hat
                refine hK.out _ _ ⟨(blk_cell BK142.out 0).trans rfl,(blk_cell BK142.out 1).trans rfl,(blk_cell BK142.out 2).trans rfl,(blk_cell BK142.out 3).trans rfl,(blk_cell BK142.out 4).trans rfl⟩ (fun hHeld => ?_)
                clear hK K
                refine norm_ (a':=?_) ?_ ?_
                rotate_left
                ·
                 show Act.put _ (some 59) _ = _
                 simp only [Act.put,sA,sB,sC,i64_w,i32_w]
                 rfl
                refine one_ (i:=9) (N:=some 64) #[true,true,true,true,true,true,true,true,true,true,false,false] rfl rfl (one_of HT_.out (by kernel_rfl)) (by decide) (fun K hK => ?_)
                refine Kd.R_lit_step (Kd.int .u8) _ 5 ?hg (N:=64) ?hd (xs:=([((((rd_T55 l0_2 x4_1).f4).length : Int)) % 256] : List Int)) (inner:=[.int .u8 (((((rd_T55 l0_2 x4_1).f4).length : Int)) % 256)]) (ok:=fun _ => True) (okp:=fun _ => True) ?hr ?hp (fun _ hk => hk) trivial (Below.refl _ _) (Nat.le_refl _) (by simp) ?_;(case hd => rfl);(case hg => rfl);(case hr => first|(go_simp;done)|(go_simp;rfl));(case hp => exact (Reps.one (show Kd.M (Kd.int .u8) _ _ _ (((((rd_T55 l0_2 x4_1).f4).length : Int)) % 256) [.int .u8 (((((rd_T55 l0_2 x4_1).f4).length : Int)) % 256)] from rfl) (Reps.none _ _)))
                intro v171 w51 ho52 hb hg_ hnew_
                clear hg_ hnew_
                (first|rw [← Ny170.out] at ho52|(simp only [Int.reduceToNat] at ho52;rw [← Ny170.out] at ho52))
                have n0_:=qk (Kd.R_elder' (by (with_reducible repeat (first|apply qd|apply qe|apply qf));exact HO145.out) (Kd.R_base ho52) hb)
                have n1_:=qk (Kd.R_elder' (by (with_reducible repeat (first|apply qd|apply qe|apply qf));exact HO154.out) (Kd.R_base ho52) hb)
                have n2_:=qk (Kd.R_elder' (by (with_reducible repeat (first|apply qd|apply qe|apply qf));exact HO160.out) (Kd.R_base ho52) hb)
                have n3_:=qk (Kd.R_elder' (by (with_reducible repeat (first|apply qd|apply qe|apply qf));exact HO166.out) (Kd.R_base ho52) hb)
                have n4_:=qk (Kd.R_elder' (by (with_reducible repeat (first|apply qd|apply qe|apply qf));exact HO169.out) (Kd.R_base ho52) hb)
                have n5_:=qk (Kd.R_lower (Kd.R_new' (Kd.R_new' (Kd.R_new' (Kd.R_new' (Kd.R_new' ho52 (Kd.R_lt (by (with_reducible repeat (first|apply qd|apply qe|apply qf));exact HO145.out))) (Kd.R_lt (by (with_reducible repeat (first|apply qd|apply qe|apply qf));exact HO154.out))) (Kd.R_lt (by (with_reducible repeat (first|apply qd|apply qe|apply qf));exact HO160.out))) (Kd.R_lt (by (with_reducible repeat (first|apply qd|apply qe|apply qf));exact HO166.out))) (Kd.R_lt (by (with_reducible repeat (first|apply qd|apply qe|apply qf));exact HO169.out))) (qm (by repeat (first|(with_reducible first|exact HB.out|apply qg|apply qh|apply qi|refine qj ?_ GE125.out|refine qj ?_ GE142.out)|exact HB.out))))
                have n6_:=qk (ql (g:=gb125) (o:=.cells #[.int .i64 a0_0,.int .i64 a0_1,.slice (some ad141) l0_2.length c0_2,.slice A0_3 l0_3.length c0_3] 32 (0,0)) (by (with_reducible repeat (first|apply qa|apply qb|apply qc));exact BK125.out) hb)
                have n7_:=qk (ql (g:=gb142) (o:=.cells #[.string ((rd_T55 l0_2 x4_1).f0),.int .i64 ((rd_T55 l0_2 x4_1).f1),.int .i64 ((rd_T55 l0_2 x4_1).f2),.int .i64 ((rd_T55 l0_2 x4_1).f3),.slice A141_4 ((rd_T55 l0_2 x4_1).f4).length c141_4] 55 (0,0)) (by (with_reducible repeat (first|apply qa|apply qb|apply qc));exact BK142.out) hb)
                have n8_:=qk (sN (by repeat (first|(with_reducible first|exact HB.out|apply qg|apply qh|apply qi|refine qj ?_ GE125.out|refine qj ?_ GE142.out)|exact HB.out)) hb)
                clear HO145
                clear HO154
                clear HO160
                clear HO166
                clear HO169
                clear BK125
                clear BK142
                clear HB
                have HO145:=n0_
                have HO154:=n1_
                have HO160:=n2_
                have HO166:=n3_
                have HO169:=n4_
                have HO172:=n5_
                have BK125:=n6_
                have BK142:=n7_
                have HB:=n8_
                clear n0_ n1_ n2_ n3_ n4_ n5_ n6_ n7_ n8_
                clear hb ho52
                refine hK.out _ _ ⟨(blk_cell BK142.out 0).trans rfl,(blk_cell BK142.out 1).trans rfl,(blk_cell BK142.out 2).trans rfl,(blk_cell BK142.out 3).trans rfl,(blk_cell BK142.out 4).trans rfl⟩ (fun hHeld => ?_)
                clear hK K
                refine norm_ (a':=?_) ?_ ?_
                rotate_left
                ·
                 show Act.put _ (some 64) _ = _
                 simp only [Act.put,sA,sB,sC,i64_w,i32_w]
                 rfl
                exact norm_ (by simp only [putAll,Act.put,sA,sB,sC]) (hCont (.slice Ao50 t164.length co50,v168,v171) _ ⟨hHeld,(by (with_reducible repeat (first|apply qd|apply qe|apply qf));exact qn HO145.out (fun _ hk => ⟨hk.1.1.1,⟨hk.1.1.2.1,⟨hk.1.1.2.2,⟨hk.1.2,hk.2⟩⟩⟩⟩)),(by (with_reducible repeat (first|apply qd|apply qe|apply qf));exact qn HO154.out (fun _ hk => ⟨hk.1.1.1,⟨hk.1.1.2.1,⟨hk.1.1.2.2,⟨hk.1.2,hk.2⟩⟩⟩⟩)),(by (with_reducible repeat (first|apply qd|apply qe|apply qf));exact qn HO160.out (fun _ hk => ⟨hk.1.1.1,⟨hk.1.1.2.1,⟨hk.1.1.2.2,⟨hk.1.2,hk.2⟩⟩⟩⟩)),(by (with_reducible repeat (first|apply qd|apply qe|apply qf));exact qn HO166.out (fun _ hk => ⟨hk.1.1.1,⟨hk.1.1.2.1,⟨hk.1.1.2.2,⟨hk.1.2,hk.2⟩⟩⟩⟩)),(by (with_reducible repeat (first|apply qd|apply qe|apply qf));exact qn HO169.out (fun _ hk => ⟨hk.1.1,⟨hk.1.2.1,⟨hk.1.2.2.1,⟨hk.1.2.2.2,hk.2⟩⟩⟩⟩)),(by (with_reducible repeat (first|apply qd|apply qe|apply qf));exact qn HO172.out (fun _ hk => ⟨hk.1.1.1.1.2,⟨hk.1.1.1.2,⟨hk.1.1.2,⟨hk.1.2,hk.2⟩⟩⟩⟩)),(by (with_reducible repeat (first|apply qa|apply qb|apply qc));exact BK125.out),(by (with_reducible repeat (first|apply qa|apply qb|apply qc));exact BK142.out),(by repeat (first|(with_reducible first|exact HB.out|apply qg|apply qh|apply qi|refine qj ?_ GE125.out|refine qj ?_ GE142.out)|exact HB.out))⟩)
               ·
                skip
                refine Kd.R_lit_step (Kd.int .u8) _ 5 ?hg (N:=64) ?hd (xs:=([((((rd_T55 l0_2 x4_1).f4).length : Int)) % 256] : List Int)) (inner:=[.int .u8 (((((rd_T55 l0_2 x4_1).f4).length : Int)) % 256)]) (ok:=fun _ => True) (okp:=fun _ => True) ?hr ?hp (fun _ hk => hk) trivial (Below.refl _ _) (Nat.le_refl _) (by simp) ?_;(case hd => rfl);(case hg => rfl);(case hr => first|(go_simp;done)|(go_simp;rfl));(case hp => exact (Reps.one (show Kd.M (Kd.int .u8) _ _ _ (((((rd_T55 l0_2 x4_1).f4).length : Int)) % 256) [.int .u8 (((((rd_T55 l0_2 x4_1).f4).length : Int)) % 256)] from rfl) (Reps.none _ _)))
                intro v171 w49 ho50 hb hg_ hnew_
                clear hg_ hnew_
                (first|rw [← Ny170.out] at ho50|(simp only [Int.reduceToNat] at ho50;rw [← Ny170.out] at ho50))
                have n0_:=qk (Kd.R_elder' (by (with_reducible repeat (first|apply qd|apply qe|apply qf));exact HO145.out) (Kd.R_base ho50) hb)
                have n1_:=qk (Kd.R_elder' (by (with_reducible repeat (first|apply qd|apply qe|apply qf));exact HO154.out) (Kd.R_base ho50) hb)
                have n2_:=qk (Kd.R_elder' (by (with_reducible repeat (first|apply qd|apply qe|apply qf));exact HO160.out) (Kd.R_base ho50) hb)
                have n3_:=qk (Kd.R_elder' (by (with_reducible repeat (first|apply qd|apply qe|apply qf));exact HO163.out) (Kd.R_base ho50) hb)
                have n4_:=qk (Kd.R_elder' (by (with_reducible repeat (first|apply qd|apply qe|apply qf));exact HO166.out) (Kd.R_base ho50) hb)
                have n5_:=qk (Kd.R_lower (Kd.R_new' (Kd.R_new' (Kd.R_new' (Kd.R_new' (Kd.R_new' ho50 (Kd.R_lt (by (with_reducible repeat (first|apply qd|apply qe|apply qf));exact HO145.out))) (Kd.R_lt (by (with_reducible repeat (first|apply qd|apply qe|apply qf));exact HO154.out))) (Kd.R_lt (by (with_reducible repeat (first|apply qd|apply qe|apply qf));exact HO160.out))) (Kd.R_lt (by (with_reducible repeat (first|apply qd|apply qe|apply qf));exact HO163.out))) (Kd.R_lt (by (with_reducible repeat (first|apply qd|apply qe|apply qf));exact HO166.out))) (qm (by repeat (first|(with_reducible first|exact HB.out|apply qg|apply qh|apply qi|refine qj ?_ GE125.out|refine qj ?_ GE142.out)|exact HB.out))))
                have n6_:=qk (ql (g:=gb125) (o:=.cells #[.int .i64 a0_0,.int .i64 a0_1,.slice (some ad141) l0_2.length c0_2,.slice A0_3 l0_3.length c0_3] 32 (0,0)) (by (with_reducible repeat (first|apply qa|apply qb|apply qc));exact BK125.out) hb)
                have n7_:=qk (ql (g:=gb142) (o:=.cells #[.string ((rd_T55 l0_2 x4_1).f0),.int .i64 ((rd_T55 l0_2 x4_1).f1),.int .i64 ((rd_T55 l0_2 x4_1).f2),.int .i64 ((rd_T55 l0_2 x4_1).f3),.slice A141_4 ((rd_T55 l0_2 x4_1).f4).length c141_4] 55 (0,0)) (by (with_reducible repeat (first|apply qa|apply qb|apply qc));exact BK142.out) hb)
                have n8_:=qk (sN (by repeat (first|(with_reducible first|exact HB.out|apply qg|apply qh|apply qi|refine qj ?_ GE125.out|refine qj ?_ GE142.out)|exact HB.out)) hb)
                clear HO145
                clear HO154
                clear HO160
                clear HO163
                clear HO166
                clear BK125
                clear BK142
                clear HB
                have HO145:=n0_
                have HO154:=n1_
                have HO160:=n2_
                have HO163:=n3_
                have HO166:=n4_
                have HO172:=n5_
                have BK125:=n6_
                have BK142:=n7_
                have HB:=n8_
                clear n0_ n1_ n2_ n3_ n4_ n5_ n6_ n7_ n8_
                clear hb ho50
                obtain ⟨Ao52,co52,eo52⟩:=Kd.R_slice HO166.out
                (first|subst eo52|(injection eo52 with f1_ f2_ f3_;have f4_:=f1_.symm;have f5_:=f3_.symm;clear f1_ f2_ f3_;subst f4_;subst f5_))
                refine hK.out _ _ ⟨(blk_cell BK142.out 0).trans rfl,(blk_cell BK142.out 1).trans rfl,(blk_cell BK142.out 2).trans rfl,(blk_cell BK142.out 3).trans rfl,(blk_cell BK142.out 4).trans rfl⟩ (fun hHeld => ?_)
                clear hK K
                refine norm_ (a':=?_) ?_ ?_
                rotate_left
                ·
                 show Act.put _ (some 64) _ = _
                 simp only [Act.put,sA,sB,sC,i64_w,i32_w]
                 rfl
                refine one_ (i:=4) (N:=some 59) #[true,true,true,true,true,true,true,true,true,true,false,false] rfl rfl (one_of HT_.out (by kernel_rfl)) (by decide) (fun K hK => ?_)
                refine Kd.R_append_rows_step (Kd.int .u8) (w0:=w) w.heap.size (by rfl) (.tmp 55) (.tmp 58) 40 5 (.int .u8 0) 1 rfl Tryd.underlying40 info5 rfl (by decide) (by omega) (.slice Ao46 y161.length co46) y161 t164 _ _ _ (fun k_ => some k_ ≠ (.slice Ao37 y143.length co37 : Value).ownBlock ∧ some k_ ≠ (.slice Ao42 t152.length co42 : Value).ownBlock ∧ some k_ ≠ (.slice Ao45 t158.length co45 : Value).ownBlock ∧ some k_ ≠ (.slice Ao52 t164.length co52 : Value).ownBlock ∧ some k_ ≠ (v171 : Value).ownBlock) (fun _ => False) rfl rfl ?aO ?aR (fun _ _ h => h) (fun _ h => h.elim) ?aF ?aB ?aS ?aL ?_
                (case aR => repeat (first|exact (Kd.R_reads' HO166.out).2.2|(with_reducible refine Kd.C_alloc ?_ _)|(with_reducible refine Kd.C_drewN ?_ _)|(with_reducible refine Kd.C_drew ?_)))
                (case aB => exact (by repeat (first|(with_reducible first|exact HB.out|apply qg|apply qh|apply qi|refine qj ?_ GE125.out|refine qj ?_ GE142.out)|exact HB.out)))
                (case aF => exact (fun k_ hk => ⟨Kd.fresh' (Kd.R_lt (by (with_reducible repeat (first|apply qd|apply qe|apply qf));exact HO145.out)) k_ hk,Kd.fresh' (Kd.R_lt (by (with_reducible repeat (first|apply qd|apply qe|apply qf));exact HO154.out)) k_ hk,Kd.fresh' (Kd.R_lt (by (with_reducible repeat (first|apply qd|apply qe|apply qf));exact HO160.out)) k_ hk,Kd.fresh' (Kd.R_lt (by (with_reducible repeat (first|apply qd|apply qe|apply qf));exact HO166.out)) k_ hk,Kd.fresh' (Kd.R_lt (by (with_reducible repeat (first|apply qd|apply qe|apply qf));exact HO172.out)) k_ hk⟩))
                (case aO => exact (by (with_reducible repeat (first|apply qd|apply qe|apply qf));exact qn HO163.out (fun _ hk => ⟨hk.1.1.1,⟨hk.1.1.2.1,⟨hk.1.1.2.2,⟨hk.1.2,hk.2⟩⟩⟩⟩)))
                (case aS => exact (qm (by repeat (first|(with_reducible first|exact HB.out|apply qg|apply qh|apply qi|refine qj ?_ GE125.out|refine qj ?_ GE142.out)|exact HB.out))))
                (case aL => have:=LMc26.out;omega)
                intro v168 w51 ho hb hg hat
                rw [← Ny167.out] at ho
                have n0_:=qk (blk_grown (g:=gb125) (o:=.cells #[.int .i64 a0_0,.int .i64 a0_1,.slice (some ad141) l0_2.length c0_2,.slice A0_3 l0_3.length c0_3] 32 (0,0)) (by (with_reducible repeat (first|apply qa|apply qb|apply qc));exact BK125.out) hg (Kd.R_ne HO163.out BK125.out (by decide)))
                have n1_:=qk (blk_grown (g:=gb142) (o:=.cells #[.string ((rd_T55 l0_2 x4_1).f0),.int .i64 ((rd_T55 l0_2 x4_1).f1),.int .i64 ((rd_T55 l0_2 x4_1).f2),.int .i64 ((rd_T55 l0_2 x4_1).f3),.slice A141_4 ((rd_T55 l0_2 x4_1).f4).length c141_4] 55 (0,0)) (by (with_reducible repeat (first|apply qa|apply qb|apply qc));exact BK142.out) hg (Kd.R_ne HO163.out BK142.out (by decide)))
                have n2_:=qk (Kd.R_after (ok:=(fun k_ => some k_ ≠ (.slice Ao42 t152.length co42 : Value).ownBlock ∧ some k_ ≠ (.slice Ao45 t158.length co45 : Value).ownBlock ∧ some k_ ≠ (.slice Ao52 t164.length co52 : Value).ownBlock ∧ some k_ ≠ (v171 : Value).ownBlock)) (by (with_reducible repeat (first|apply qd|apply qe|apply qf));exact qn HO145.out (fun _ hk => ⟨⟨hk.1.1.1.1,⟨hk.1.1.1.2,⟨hk.1.2,hk.2⟩⟩⟩,hk.1.1.2⟩)) hg hat)
                have n3_:=qk (Kd.R_after (ok:=(fun k_ => some k_ ≠ (.slice Ao37 y143.length co37 : Value).ownBlock ∧ some k_ ≠ (.slice Ao45 t158.length co45 : Value).ownBlock ∧ some k_ ≠ (.slice Ao52 t164.length co52 : Value).ownBlock ∧ some k_ ≠ (v171 : Value).ownBlock)) (by (with_reducible repeat (first|apply qd|apply qe|apply qf));exact qn HO154.out (fun _ hk => ⟨⟨hk.1.1.1.1,⟨hk.1.1.1.2,⟨hk.1.2,hk.2⟩⟩⟩,hk.1.1.2⟩)) hg hat)
                have n4_:=qk (Kd.R_after (ok:=(fun k_ => some k_ ≠ (.slice Ao37 y143.length co37 : Value).ownBlock ∧ some k_ ≠ (.slice Ao42 t152.length co42 : Value).ownBlock ∧ some k_ ≠ (.slice Ao52 t164.length co52 : Value).ownBlock ∧ some k_ ≠ (v171 : Value).ownBlock)) (by (with_reducible repeat (first|apply qd|apply qe|apply qf));exact qn HO160.out (fun _ hk => ⟨⟨hk.1.1.1.1,⟨hk.1.1.1.2,⟨hk.1.2,hk.2⟩⟩⟩,hk.1.1.2⟩)) hg hat)
                have n5_:=qk (Kd.R_after (ok:=(fun k_ => some k_ ≠ (.slice Ao37 y143.length co37 : Value).ownBlock ∧ some k_ ≠ (.slice Ao42 t152.length co42 : Value).ownBlock ∧ some k_ ≠ (.slice Ao45 t158.length co45 : Value).ownBlock ∧ some k_ ≠ (v171 : Value).ownBlock)) (by (with_reducible repeat (first|apply qd|apply qe|apply qf));exact qn HO166.out (fun _ hk => ⟨⟨hk.1.1.1.1.2,⟨hk.1.1.1.2,⟨hk.1.1.2,hk.2⟩⟩⟩,hk.1.2⟩)) hg hat)
                have n6_:=qk (Kd.R_after (ok:=(fun k_ => some k_ ≠ (.slice Ao37 y143.length co37 : Value).ownBlock ∧ some k_ ≠ (.slice Ao42 t152.length co42 : Value).ownBlock ∧ some k_ ≠ (.slice Ao45 t158.length co45 : Value).ownBlock ∧ some k_ ≠ (.slice Ao52 t164.length co52 : Value).ownBlock)) (by (with_reducible repeat (first|apply qd|apply qe|apply qf));exact qn HO172.out (fun _ hk => ⟨⟨hk.1.1.1.1.2,⟨hk.1.1.1.2,⟨hk.1.1.2,hk.2⟩⟩⟩,hk.1.2⟩)) hg hat)
                have n7_:=qk (hb)
                have n8_:=qk (ho)
                clear BK125
                clear BK142
                clear HO145
                clear HO154
                clear HO160
                clear HO166
                clear HO172
                clear HB
                clear HO163
                have BK125:=n0_
                have BK142:=n1_
                have HO145:=n2_
                have HO154:=n3_
                have HO160:=n4_
                have HO166:=n5_
                have HO172:=n6_
                have HB:=n7_
                have HO169:=n8_
                clear n0_ n1_ n2_ n3_ n4_ n5_ n6_ n7_ n8_
                clear ho hb hg hat
                refine hK.out _ _ ⟨(blk_cell BK142.out 0).trans rfl,(blk_cell BK142.out 1).trans rfl,(blk_cell BK142.out 2).trans rfl,(blk_cell BK142.out 3).trans rfl,(blk_cell BK142.out 4).trans rfl⟩ (fun hHeld => ?_)
                clear hK K
                refine norm_ (a':=?_) ?_ ?_
                rotate_left
                ·
                 show Act.put _ (some 59) _ = _
                 simp only [Act.put,sA,sB,sC,i64_w,i32_w]
                 rfl
                exact norm_ (by simp only [putAll,Act.put,sA,sB,sC]) (hCont (.slice Ao52 t164.length co52,v168,v171) _ ⟨hHeld,(by (with_reducible repeat (first|apply qd|apply qe|apply qf));exact qn HO145.out (fun _ hk => ⟨hk.1.1,⟨hk.1.2.1,⟨hk.1.2.2.1,⟨hk.2,hk.1.2.2.2⟩⟩⟩⟩)),(by (with_reducible repeat (first|apply qd|apply qe|apply qf));exact qn HO154.out (fun _ hk => ⟨hk.1.1,⟨hk.1.2.1,⟨hk.1.2.2.1,⟨hk.2,hk.1.2.2.2⟩⟩⟩⟩)),(by (with_reducible repeat (first|apply qd|apply qe|apply qf));exact qn HO160.out (fun _ hk => ⟨hk.1.1,⟨hk.1.2.1,⟨hk.1.2.2.1,⟨hk.2,hk.1.2.2.2⟩⟩⟩⟩)),(by (with_reducible repeat (first|apply qd|apply qe|apply qf));exact qn HO166.out (fun _ hk => ⟨hk.1.1,⟨hk.1.2.1,⟨hk.1.2.2.1,⟨hk.2,hk.1.2.2.2⟩⟩⟩⟩)),(by (with_reducible repeat (first|apply qd|apply qe|apply qf));exact HO169.out),(by (with_reducible repeat (first|apply qd|apply qe|apply qf));exact qn HO172.out (fun _ hk => ⟨hk.1.1,⟨hk.1.2.1,⟨hk.1.2.2.1,⟨hk.1.2.2.2,hk.2⟩⟩⟩⟩)),(by (with_reducible repeat (first|apply qa|apply qb|apply qc));exact BK125.out),(by (with_reducible repeat (first|apply qa|apply qb|apply qc));exact BK142.out),(by repeat (first|(with_reducible first|exact HB.out|apply qg|apply qh|apply qi|refine qj ?_ GE125.out|refine qj ?_ GE142.out)|exact HB.out))⟩)
              ·
               skip
               refine Kd.R_lit_step (Kd.int .u8) _ 5 ?hg (N:=64) ?hd (xs:=([((((rd_T55 l0_2 x4_1).f4).length : Int)) % 256] : List Int)) (inner:=[.int .u8 (((((rd_T55 l0_2 x4_1).f4).length : Int)) % 256)]) (ok:=fun _ => True) (okp:=fun _ => True) ?hr ?hp (fun _ hk => hk) trivial (Below.refl _ _) (Nat.le_refl _) (by simp) ?_;(case hd => rfl);(case hg => rfl);(case hr => first|(go_simp;done)|(go_simp;rfl));(case hp => exact (Reps.one (show Kd.M (Kd.int .u8) _ _ _ (((((rd_T55 l0_2 x4_1).f4).length : Int)) % 256) [.int .u8 (((((rd_T55 l0_2 x4_1).f4).length : Int)) % 256)] from rfl) (Reps.none _ _)))
               intro v171 w48 ho49 hb hg_ hnew_
               clear hg_ hnew_
               (first|rw [← Ny170.out] at ho49|(simp only [Int.reduceToNat] at ho49;rw [← Ny170.out] at ho49))
               have n0_:=qk (Kd.R_elder' (by (with_reducible repeat (first|apply qd|apply qe|apply qf));exact HO145.out) (Kd.R_base ho49) hb)
               have n1_:=qk (Kd.R_elder' (by (with_reducible repeat (first|apply qd|apply qe|apply qf));exact HO154.out) (Kd.R_base ho49) hb)
               have n2_:=qk (Kd.R_elder' (by (with_reducible repeat (first|apply qd|apply qe|apply qf));exact HO160.out) (Kd.R_base ho49) hb)
               have n3_:=qk (Kd.R_elder' (by (with_reducible repeat (first|apply qd|apply qe|apply qf));exact HO163.out) (Kd.R_base ho49) hb)
               have n4_:=qk (Kd.R_lower (Kd.R_new' (Kd.R_new' (Kd.R_new' (Kd.R_new' ho49 (Kd.R_lt (by (with_reducible repeat (first|apply qd|apply qe|apply qf));exact HO145.out))) (Kd.R_lt (by (with_reducible repeat (first|apply qd|apply qe|apply qf));exact HO154.out))) (Kd.R_lt (by (with_reducible repeat (first|apply qd|apply qe|apply qf));exact HO160.out))) (Kd.R_lt (by (with_reducible repeat (first|apply qd|apply qe|apply qf));exact HO163.out))) (qm (by repeat (first|(with_reducible first|exact HB.out|apply qg|apply qh|apply qi|refine qj ?_ GE125.out|refine qj ?_ GE142.out)|exact HB.out))))
               have n5_:=qk (ql (g:=gb125) (o:=.cells #[.int .i64 a0_0,.int .i64 a0_1,.slice (some ad141) l0_2.length c0_2,.slice A0_3 l0_3.length c0_3] 32 (0,0)) (by (with_reducible repeat (first|apply qa|apply qb|apply qc));exact BK125.out) hb)
               have n6_:=qk (ql (g:=gb142) (o:=.cells #[.string ((rd_T55 l0_2 x4_1).f0),.int .i64 ((rd_T55 l0_2 x4_1).f1),.int .i64 ((rd_T55 l0_2 x4_1).f2),.int .i64 ((rd_T55 l0_2 x4_1).f3),.slice A141_4 ((rd_T55 l0_2 x4_1).f4).length c141_4] 55 (0,0)) (by (with_reducible repeat (first|apply qa|apply qb|apply qc));exact BK142.out) hb)
               have n7_:=qk (sN (by repeat (first|(with_reducible first|exact HB.out|apply qg|apply qh|apply qi|refine qj ?_ GE125.out|refine qj ?_ GE142.out)|exact HB.out)) hb)
               clear HO145
               clear HO154
               clear HO160
               clear HO163
               clear BK125
               clear BK142
               clear HB
               have HO145:=n0_
               have HO154:=n1_
               have HO160:=n2_
               have HO163:=n3_
               have HO172:=n4_
               have BK125:=n5_
               have BK142:=n6_
               have HB:=n7_
               clear n0_ n1_ n2_ n3_ n4_ n5_ n6_ n7_
               clear hb ho49
               refine hK.out _ _ ⟨(blk_cell BK142.out 0).trans rfl,(blk_cell BK142.out 1).trans rfl,(blk_cell BK142.out 2).trans rfl,(blk_cell BK142.out 3).trans rfl,(blk_cell BK142.out 4).trans rfl⟩ (fun hHeld => ?_)
               clear hK K
               refine norm_ (a':=?_) ?_ ?_
               rotate_left
               ·
                show Act.put _ (some 64) _ = _
                simp only [Act.put,sA,sB,sC,i64_w,i32_w]
                rfl
               refine one_ (i:=3) (N:=some 58) #[true,true,true,true,false,true,true,true,true,true,false,false] rfl rfl (one_of HT_.out (by kernel_rfl)) (by decide) (fun K hK => ?_)
               refine goes_ Tryd.func27 (by kernel_rfl) rfl #[.int .i64 ((rd_T55 l0_2 x4_1).f3),.int .i64 4] (by rfl) rfl rfl (by (try simp only [sE,sH,sI]);first|done|rfl|(simp only [sG,sF];rfl)) ?_
               with_reducible refine (spec_l02Number.calls k1 ((rd_T55 l0_2 x4_1).f3) 4 t164 _ A25.out).mono ?_
               rintro e w50 ⟨v165,rfl,ho0,hb⟩
               refine ⟨_,rfl,?_⟩
               have n0_:=qk (Kd.R_elder' (by (with_reducible repeat (first|apply qd|apply qe|apply qf));exact HO145.out) (Kd.R_base ho0) hb)
               have n1_:=qk (Kd.R_elder' (by (with_reducible repeat (first|apply qd|apply qe|apply qf));exact HO154.out) (Kd.R_base ho0) hb)
               have n2_:=qk (Kd.R_elder' (by (with_reducible repeat (first|apply qd|apply qe|apply qf));exact HO160.out) (Kd.R_base ho0) hb)
               have n3_:=qk (Kd.R_elder' (by (with_reducible repeat (first|apply qd|apply qe|apply qf));exact HO163.out) (Kd.R_base ho0) hb)
               have n4_:=qk (Kd.R_elder' (by (with_reducible repeat (first|apply qd|apply qe|apply qf));exact HO172.out) (Kd.R_base ho0) hb)
               have n5_:=qk (Kd.R_lower (Kd.R_new' (Kd.R_new' (Kd.R_new' (Kd.R_new' (Kd.R_new' ho0 (Kd.R_lt (by (with_reducible repeat (first|apply qd|apply qe|apply qf));exact HO145.out))) (Kd.R_lt (by (with_reducible repeat (first|apply qd|apply qe|apply qf));exact HO154.out))) (Kd.R_lt (by (with_reducible repeat (first|apply qd|apply qe|apply qf));exact HO160.out))) (Kd.R_lt (by (with_reducible repeat (first|apply qd|apply qe|apply qf));exact HO163.out))) (Kd.R_lt (by (with_reducible repeat (first|apply qd|apply qe|apply qf));exact HO172.out))) (qm (by repeat (first|(with_reducible first|exact HB.out|apply qg|apply qh|apply qi|refine qj ?_ GE125.out|refine qj ?_ GE142.out)|exact HB.out))))
               have n6_:=qk (ql (g:=gb125) (o:=.cells #[.int .i64 a0_0,.int .i64 a0_1,.slice (some ad141) l0_2.length c0_2,.slice A0_3 l0_3.length c0_3] 32 (0,0)) (by (with_reducible repeat (first|apply qa|apply qb|apply qc));exact BK125.out) hb)
               have n7_:=qk (ql (g:=gb142) (o:=.cells #[.string ((rd_T55 l0_2 x4_1).f0),.int .i64 ((rd_T55 l0_2 x4_1).f1),.int .i64 ((rd_T55 l0_2 x4_1).f2),.int .i64 ((rd_T55 l0_2 x4_1).f3),.slice A141_4 ((rd_T55 l0_2 x4_1).f4).length c141_4] 55 (0,0)) (by (with_reducible repeat (first|apply qa|apply qb|apply qc));exact BK142.out) hb)
               have n8_:=qk (sN (by repeat (first|(with_reducible first|exact HB.out|apply qg|apply qh|apply qi|refine qj ?_ GE125.out|refine qj ?_ GE142.out)|exact HB.out)) hb)
               clear HO145
               clear HO154
               clear HO160
               clear HO163
               clear HO172
               clear BK125
               clear BK142
               clear HB
               have HO145:=n0_
               have HO154:=n1_
               have HO160:=n2_
               have HO163:=n3_
               have HO172:=n4_
               have HO166:=n5_
               have BK125:=n6_
               have BK142:=n7_
               have HB:=n8_
               clear n0_ n1_ n2_ n3_ n4_ n5_ n6_ n7_ n8_
               (try clear hb)
               (try clear hb2)
               (try clear hk)
               (try clear hi)
               (try clear ho0)
               obtain ⟨Ao52,co52,eo52⟩:=Kd.R_slice HO166.out
               (first|subst eo52|(injection eo52 with f1_ f2_ f3_;have f4_:=f1_.symm;have f5_:=f3_.symm;clear f1_ f2_ f3_;subst f4_;subst f5_))
               refine hK.out _ _ ⟨(blk_cell BK142.out 0).trans rfl,(blk_cell BK142.out 1).trans rfl,(blk_cell BK142.out 2).trans rfl,(blk_cell BK142.out 3).trans rfl,(blk_cell BK142.out 4).trans rfl⟩ (fun hHeld => ?_)
               clear hK K
               refine norm_ (a':=?_) ?_ ?_
               rotate_left
               ·
                show Act.put _ (some 58) _ = _
                simp only [Act.put,sA,sB,sC,i64_w,i32_w]
                rfl
               refine one_ (i:=4) (N:=some 59) #[true,true,true,true,true,true,true,true,true,true,false,false] rfl rfl (one_of HT_.out (by kernel_rfl)) (by decide) (fun K hK => ?_)
               refine Kd.R_append_rows_step (Kd.int .u8) (w0:=w) w.heap.size (by rfl) (.tmp 55) (.tmp 58) 40 5 (.int .u8 0) 1 rfl Tryd.underlying40 info5 rfl (by decide) (by omega) (.slice Ao46 y161.length co46) y161 t164 _ _ _ (fun k_ => some k_ ≠ (.slice Ao37 y143.length co37 : Value).ownBlock ∧ some k_ ≠ (.slice Ao42 t152.length co42 : Value).ownBlock ∧ some k_ ≠ (.slice Ao45 t158.length co45 : Value).ownBlock ∧ some k_ ≠ (v171 : Value).ownBlock ∧ some k_ ≠ (.slice Ao52 t164.length co52 : Value).ownBlock) (fun _ => False) rfl rfl ?aO ?aR (fun _ _ h => h) (fun _ h => h.elim) ?aF ?aB ?aS ?aL ?_
               (case aR => repeat (first|exact (Kd.R_reads' HO166.out).2.2|(with_reducible refine Kd.C_alloc ?_ _)|(with_reducible refine Kd.C_drewN ?_ _)|(with_reducible refine Kd.C_drew ?_)))
               (case aB => exact (by repeat (first|(with_reducible first|exact HB.out|apply qg|apply qh|apply qi|refine qj ?_ GE125.out|refine qj ?_ GE142.out)|exact HB.out)))
               (case aF => exact (fun k_ hk => ⟨Kd.fresh' (Kd.R_lt (by (with_reducible repeat (first|apply qd|apply qe|apply qf));exact HO145.out)) k_ hk,Kd.fresh' (Kd.R_lt (by (with_reducible repeat (first|apply qd|apply qe|apply qf));exact HO154.out)) k_ hk,Kd.fresh' (Kd.R_lt (by (with_reducible repeat (first|apply qd|apply qe|apply qf));exact HO160.out)) k_ hk,Kd.fresh' (Kd.R_lt (by (with_reducible repeat (first|apply qd|apply qe|apply qf));exact HO172.out)) k_ hk,Kd.fresh' (Kd.R_lt (by (with_reducible repeat (first|apply qd|apply qe|apply qf));exact HO166.out)) k_ hk⟩))
               (case aO => exact (by (with_reducible repeat (first|apply qd|apply qe|apply qf));exact qn HO163.out (fun _ hk => ⟨hk.1.1.1,⟨hk.1.1.2.1,⟨hk.1.1.2.2,⟨hk.1.2,hk.2⟩⟩⟩⟩)))
               (case aS => exact (qm (by repeat (first|(with_reducible first|exact HB.out|apply qg|apply qh|apply qi|refine qj ?_ GE125.out|refine qj ?_ GE142.out)|exact HB.out))))
               (case aL => have:=LMc26.out;omega)
               intro v168 w51 ho hb hg hat
               rw [← Ny167.out] at ho
               have n0_:=qk (blk_grown (g:=gb125) (o:=.cells #[.int .i64 a0_0,.int .i64 a0_1,.slice (some ad141) l0_2.length c0_2,.slice A0_3 l0_3.length c0_3] 32 (0,0)) (by (with_reducible repeat (first|apply qa|apply qb|apply qc));exact BK125.out) hg (Kd.R_ne HO163.out BK125.out (by decide)))
               have n1_:=qk (blk_grown (g:=gb142) (o:=.cells #[.string ((rd_T55 l0_2 x4_1).f0),.int .i64 ((rd_T55 l0_2 x4_1).f1),.int .i64 ((rd_T55 l0_2 x4_1).f2),.int .i64 ((rd_T55 l0_2 x4_1).f3),.slice A141_4 ((rd_T55 l0_2 x4_1).f4).length c141_4] 55 (0,0)) (by (with_reducible repeat (first|apply qa|apply qb|apply qc));exact BK142.out) hg (Kd.R_ne HO163.out BK142.out (by decide)))
               have n2_:=qk (Kd.R_after (ok:=(fun k_ => some k_ ≠ (.slice Ao42 t152.length co42 : Value).ownBlock ∧ some k_ ≠ (.slice Ao45 t158.length co45 : Value).ownBlock ∧ some k_ ≠ (v171 : Value).ownBlock ∧ some k_ ≠ (.slice Ao52 t164.length co52 : Value).ownBlock)) (by (with_reducible repeat (first|apply qd|apply qe|apply qf));exact qn HO145.out (fun _ hk => ⟨⟨hk.1.1.1.1,⟨hk.1.1.1.2,⟨hk.1.2,hk.2⟩⟩⟩,hk.1.1.2⟩)) hg hat)
               have n3_:=qk (Kd.R_after (ok:=(fun k_ => some k_ ≠ (.slice Ao37 y143.length co37 : Value).ownBlock ∧ some k_ ≠ (.slice Ao45 t158.length co45 : Value).ownBlock ∧ some k_ ≠ (v171 : Value).ownBlock ∧ some k_ ≠ (.slice Ao52 t164.length co52 : Value).ownBlock)) (by (with_reducible repeat (first|apply qd|apply qe|apply qf));exact qn HO154.out (fun _ hk => ⟨⟨hk.1.1.1.1,⟨hk.1.1.1.2,⟨hk.1.2,hk.2⟩⟩⟩,hk.1.1.2⟩)) hg hat)
               have n4_:=qk (Kd.R_after (ok:=(fun k_ => some k_ ≠ (.slice Ao37 y143.length co37 : Value).ownBlock ∧ some k_ ≠ (.slice Ao42 t152.length co42 : Value).ownBlock ∧ some k_ ≠ (v171 : Value).ownBlock ∧ some k_ ≠ (.slice Ao52 t164.length co52 : Value).ownBlock)) (by (with_reducible repeat (first|apply qd|apply qe|apply qf));exact qn HO160.out (fun _ hk => ⟨⟨hk.1.1.1.1,⟨hk.1.1.1.2,⟨hk.1.2,hk.2⟩⟩⟩,hk.1.1.2⟩)) hg hat)
               have n5_:=qk (Kd.R_after (ok:=(fun k_ => some k_ ≠ (.slice Ao37 y143.length co37 : Value).ownBlock ∧ some k_ ≠ (.slice Ao42 t152.length co42 : Value).ownBlock ∧ some k_ ≠ (.slice Ao45 t158.length co45 : Value).ownBlock ∧ some k_ ≠ (.slice Ao52 t164.length co52 : Value).ownBlock)) (by (with_reducible repeat (first|apply qd|apply qe|apply qf));exact qn HO172.out (fun _ hk => ⟨⟨hk.1.1.1.1.2,⟨hk.1.1.1.2,⟨hk.1.1.2,hk.2⟩⟩⟩,hk.1.2⟩)) hg hat)
               have n6_:=qk (Kd.R_after (ok:=(fun k_ => some k_ ≠ (.slice Ao37 y143.length co37 : Value).ownBlock ∧ some k_ ≠ (.slice Ao42 t152.length co42 : Value).ownBlock ∧ some k_ ≠ (.slice Ao45 t158.length co45 : Value).ownBlock ∧ some k_ ≠ (v171 : Value).ownBlock)) (by (with_reducible repeat (first|apply qd|apply qe|apply qf));exact qn HO166.out (fun _ hk => ⟨⟨hk.1.1.1.1.2,⟨hk.1.1.1.2,⟨hk.1.1.2,hk.2⟩⟩⟩,hk.1.2⟩)) hg hat)
               have n7_:=qk (hb)
               have n8_:=qk (ho)
               clear BK125
               clear BK142
               clear HO145
               clear HO154
               clear HO160
               clear HO172
               clear HO166
               clear HB
               clear HO163
               have BK125:=n0_
               have BK142:=n1_
               have HO145:=n2_
               have HO154:=n3_
               have HO160:=n4_
               have HO172:=n5_
               have HO166:=n6_
               have HB:=n7_
               have HO169:=n8_
               clear n0_ n1_ n2_ n3_ n4_ n5_ n6_ n7_ n8_
               clear ho hb hg hat
               refine hK.out _ _ ⟨(blk_cell BK142.out 0).trans rfl,(blk_cell BK142.out 1).trans rfl,(blk_cell BK142.out 2).trans rfl,(blk_cell BK142.out 3).trans rfl,(blk_cell BK142.out 4).trans rfl⟩ (fun hHeld => ?_)
               clear hK K
               refine norm_ (a':=?_) ?_ ?_
               rotate_left
               ·
                show Act.put _ (some 59) _ = _
                simp only [Act.put,sA,sB,sC,i64_w,i32_w]
                rfl
               exact norm_ (by simp only [putAll,Act.put,sA,sB,sC]) (hCont (.slice Ao52 t164.length co52,v168,v171) _ ⟨hHeld,(by (with_reducible repeat (first|apply qd|apply qe|apply qf));exact qn HO145.out (fun _ hk => ⟨hk.1.1,⟨hk.1.2.1,⟨hk.1.2.2.2,⟨hk.2,hk.1.2.2.1⟩⟩⟩⟩)),(by (with_reducible repeat (first|apply qd|apply qe|apply qf));exact qn HO154.out (fun _ hk => ⟨hk.1.1,⟨hk.1.2.1,⟨hk.1.2.2.2,⟨hk.2,hk.1.2.2.1⟩⟩⟩⟩)),(by (with_reducible repeat (first|apply qd|apply qe|apply qf));exact qn HO160.out (fun _ hk => ⟨hk.1.1,⟨hk.1.2.1,⟨hk.1.2.2.2,⟨hk.2,hk.1.2.2.1⟩⟩⟩⟩)),(by (with_reducible repeat (first|apply qd|apply qe|apply qf));exact qn HO166.out (fun _ hk => ⟨hk.1.1,⟨hk.1.2.1,⟨hk.1.2.2.1,⟨hk.2,hk.1.2.2.2⟩⟩⟩⟩)),(by (with_reducible repeat (first|apply qd|apply qe|apply qf));exact qn HO169.out (fun _ hk => ⟨hk.1,⟨hk.2.1,⟨hk.2.2.1,⟨hk.2.2.2.2,hk.2.2.2.1⟩⟩⟩⟩)),(by (with_reducible repeat (first|apply qd|apply qe|apply qf));exact qn HO172.out (fun _ hk => ⟨hk.1.1,⟨hk.1.2.1,⟨hk.1.2.2.1,⟨hk.1.2.2.2,hk.2⟩⟩⟩⟩)),(by (with_reducible repeat (first|apply qa|apply qb|apply qc));exact BK125.out),(by (with_reducible repeat (first|apply qa|apply qb|apply qc));exact BK142.out),(by repeat (first|(with_reducible first|exact HB.out|apply qg|apply qh|apply qi|refine qj ?_ GE125.out|refine qj ?_ GE142.out)|exact HB.out))⟩)
             rintro ⟨v165,v168,v171⟩ w53 ⟨hS_,h0_,h1_,h2_,h3_,h4_,h5_,h6_,h7_,h8_⟩
             have n0_ : Aside0 (Kd.R (Kd.int .u8) 5 w53 w.heap.size (fun k_ => some k_ ≠ (.slice Ao42 t152.length co42 : Value).ownBlock ∧ some k_ ≠ (.slice Ao45 t158.length co45 : Value).ownBlock ∧ some k_ ≠ (v165 : Value).ownBlock ∧ some k_ ≠ (v168 : Value).ownBlock ∧ some k_ ≠ (v171 : Value).ownBlock) (.slice Ao37 y143.length co37) y143):=⟨h0_⟩
             have n1_ : Aside0 (Kd.R (Kd.int .u8) 5 w53 w.heap.size (fun k_ => some k_ ≠ (.slice Ao37 y143.length co37 : Value).ownBlock ∧ some k_ ≠ (.slice Ao45 t158.length co45 : Value).ownBlock ∧ some k_ ≠ (v165 : Value).ownBlock ∧ some k_ ≠ (v168 : Value).ownBlock ∧ some k_ ≠ (v171 : Value).ownBlock) (.slice Ao42 t152.length co42) t152):=⟨h1_⟩
             have n2_ : Aside0 (Kd.R (Kd.int .u8) 5 w53 w.heap.size (fun k_ => some k_ ≠ (.slice Ao37 y143.length co37 : Value).ownBlock ∧ some k_ ≠ (.slice Ao42 t152.length co42 : Value).ownBlock ∧ some k_ ≠ (v165 : Value).ownBlock ∧ some k_ ≠ (v168 : Value).ownBlock ∧ some k_ ≠ (v171 : Value).ownBlock) (.slice Ao45 t158.length co45) t158):=⟨h2_⟩
             have n3_ : Aside0 (Kd.R (Kd.int .u8) 5 w53 w.heap.size (fun k_ => some k_ ≠ (.slice Ao37 y143.length co37 : Value).ownBlock ∧ some k_ ≠ (.slice Ao42 t152.length co42 : Value).ownBlock ∧ some k_ ≠ (.slice Ao45 t158.length co45 : Value).ownBlock ∧ some k_ ≠ (v168 : Value).ownBlock ∧ some k_ ≠ (v171 : Value).ownBlock) v165 t164):=⟨h3_⟩
             have n4_ : Aside0 (Kd.R (Kd.int .u8) 5 w53 w.heap.size (fun k_ => some k_ ≠ (.slice Ao37 y143.length co37 : Value).ownBlock ∧ some k_ ≠ (.slice Ao42 t152.length co42 : Value).ownBlock ∧ some k_ ≠ (.slice Ao45 t158.length co45 : Value).ownBlock ∧ some k_ ≠ (v165 : Value).ownBlock ∧ some k_ ≠ (v171 : Value).ownBlock) v168 y167):=⟨h4_⟩
             have n5_ : Aside0 (Kd.R (Kd.int .u8) 5 w53 w.heap.size (fun k_ => some k_ ≠ (.slice Ao37 y143.length co37 : Value).ownBlock ∧ some k_ ≠ (.slice Ao42 t152.length co42 : Value).ownBlock ∧ some k_ ≠ (.slice Ao45 t158.length co45 : Value).ownBlock ∧ some k_ ≠ (v165 : Value).ownBlock ∧ some k_ ≠ (v168 : Value).ownBlock) v171 y170):=⟨h5_⟩
             have n6_ : Aside0 (w53.heap[gb125]? = some (.cells #[.int .i64 a0_0,.int .i64 a0_1,.slice (some ad141) l0_2.length c0_2,.slice A0_3 l0_3.length c0_3] 32 (0,0))):=⟨h6_⟩
             have n7_ : Aside0 (w53.heap[gb142]? = some (.cells #[.string ((rd_T55 l0_2 x4_1).f0),.int .i64 ((rd_T55 l0_2 x4_1).f1),.int .i64 ((rd_T55 l0_2 x4_1).f2),.int .i64 ((rd_T55 l0_2 x4_1).f3),.slice A141_4 ((rd_T55 l0_2 x4_1).f4).length c141_4] 55 (0,0))):=⟨h7_⟩
             have n8_ : Aside0 (Below w.heap.size w w53):=⟨h8_⟩
             clear HO145
             clear HO154
             clear HO160
             clear HO163
             clear BK125
             clear BK142
             clear HB
             clear h0_ h1_ h2_ h3_ h4_ h5_ h6_ h7_ h8_
             have HO145:=n0_
             have HO154:=n1_
             have HO160:=n2_
             have HO166:=n3_
             have HO169:=n4_
             have HO172:=n5_
             have BK125:=n6_
             have BK142:=n7_
             have HB:=n8_
             clear n0_ n1_ n2_ n3_ n4_ n5_ n6_ n7_ n8_
             have hHeld : w53.cell? ⟨gb142,0,none⟩ = some (.string ((rd_T55 l0_2 x4_1).f0)) ∧ w53.cell? ⟨gb142,1,none⟩ = some (.int .i64 ((rd_T55 l0_2 x4_1).f1)) ∧ w53.cell? ⟨gb142,2,none⟩ = some (.int .i64 ((rd_T55 l0_2 x4_1).f2)) ∧ w53.cell? ⟨gb142,3,none⟩ = some (.int .i64 ((rd_T55 l0_2 x4_1).f3)) ∧ w53.cell? ⟨gb142,4,none⟩ = some (.slice A141_4 ((rd_T55 l0_2 x4_1).f4).length c141_4):=hS_
             obtain ⟨Ao55,co55,eo55⟩:=Kd.R_slice HO172.out
             (first|subst eo55|(injection eo55 with f1_ f2_ f3_;have f4_:=f1_.symm;have f5_:=f3_.symm;clear f1_ f2_ f3_;subst f4_;subst f5_))
             refine norm_ (a':=?_) ?_ ?_
             rotate_left
             ·
              simp only [putAll,Act.put,sA,sB,sC]
              rfl
             refine one_ (i:=10) (N:=some 65) #[true,true,true,true,true,true,true,true,true,true,true,false] rfl rfl (one_of HT_.out (by kernel_rfl)) (by decide) (fun K hK => ?_)
             refine Kd.R_append_rows_step (Kd.int .u8) (w0:=w) w.heap.size (by rfl) (.tmp 59) (.tmp 64) 40 5 (.int .u8 0) 1 rfl Tryd.underlying40 info5 rfl (by decide) (by omega) v168 y167 y170 _ _ _ (fun k_ => some k_ ≠ (.slice Ao37 y143.length co37 : Value).ownBlock ∧ some k_ ≠ (.slice Ao42 t152.length co42 : Value).ownBlock ∧ some k_ ≠ (.slice Ao45 t158.length co45 : Value).ownBlock ∧ some k_ ≠ (v165 : Value).ownBlock ∧ some k_ ≠ (.slice Ao55 y170.length co55 : Value).ownBlock) (fun _ => False) rfl rfl ?aO ?aR (fun _ _ h => h) (fun _ h => h.elim) ?aF ?aB ?aS ?aL ?_
             (case aR => repeat (first|exact (Kd.R_reads' HO172.out).2.2|(with_reducible refine Kd.C_alloc ?_ _)|(with_reducible refine Kd.C_drewN ?_ _)|(with_reducible refine Kd.C_drew ?_)))
             (case aB => exact (by repeat (first|(with_reducible first|exact HB.out|apply qg|apply qh|apply qi|refine qj ?_ GE125.out|refine qj ?_ GE142.out)|exact HB.out)))
             (case aF => exact (fun k_ hk => ⟨Kd.fresh' (Kd.R_lt (by (with_reducible repeat (first|apply qd|apply qe|apply qf));exact HO145.out)) k_ hk,Kd.fresh' (Kd.R_lt (by (with_reducible repeat (first|apply qd|apply qe|apply qf));exact HO154.out)) k_ hk,Kd.fresh' (Kd.R_lt (by (with_reducible repeat (first|apply qd|apply qe|apply qf));exact HO160.out)) k_ hk,Kd.fresh' (Kd.R_lt (by (with_reducible repeat (first|apply qd|apply qe|apply qf));exact HO166.out)) k_ hk,Kd.fresh' (Kd.R_lt (by (with_reducible repeat (first|apply qd|apply qe|apply qf));exact HO172.out)) k_ hk⟩))
             (case aO => exact (by (with_reducible repeat (first|apply qd|apply qe|apply qf));exact HO169.out))
             (case aS => exact (qm (by repeat (first|(with_reducible first|exact HB.out|apply qg|apply qh|apply qi|refine qj ?_ GE125.out|refine qj ?_ GE142.out)|exact HB.out))))
             (case aL => have:=LMc27.out;omega)
             intro v174 w54 ho hb hg hat
             rw [← Ny173.out] at ho
             have n0_:=qk (blk_grown (g:=gb125) (o:=.cells #[.int .i64 a0_0,.int .i64 a0_1,.slice (some ad141) l0_2.length c0_2,.slice A0_3 l0_3.length c0_3] 32 (0,0)) (by (with_reducible repeat (first|apply qa|apply qb|apply qc));exact BK125.out) hg (Kd.R_ne HO169.out BK125.out (by decide)))
             have n1_:=qk (blk_grown (g:=gb142) (o:=.cells #[.string ((rd_T55 l0_2 x4_1).f0),.int .i64 ((rd_T55 l0_2 x4_1).f1),.int .i64 ((rd_T55 l0_2 x4_1).f2),.int .i64 ((rd_T55 l0_2 x4_1).f3),.slice A141_4 ((rd_T55 l0_2 x4_1).f4).length c141_4] 55 (0,0)) (by (with_reducible repeat (first|apply qa|apply qb|apply qc));exact BK142.out) hg (Kd.R_ne HO169.out BK142.out (by decide)))
             have n2_:=qk (Kd.R_after (ok:=(fun k_ => some k_ ≠ (.slice Ao42 t152.length co42 : Value).ownBlock ∧ some k_ ≠ (.slice Ao45 t158.length co45 : Value).ownBlock ∧ some k_ ≠ (v165 : Value).ownBlock ∧ some k_ ≠ (.slice Ao55 y170.length co55 : Value).ownBlock)) (by (with_reducible repeat (first|apply qd|apply qe|apply qf));exact qn HO145.out (fun _ hk => ⟨⟨hk.1,⟨hk.2.1,⟨hk.2.2.1,hk.2.2.2.2⟩⟩⟩,hk.2.2.2.1⟩)) hg hat)
             have n3_:=qk (Kd.R_after (ok:=(fun k_ => some k_ ≠ (.slice Ao37 y143.length co37 : Value).ownBlock ∧ some k_ ≠ (.slice Ao45 t158.length co45 : Value).ownBlock ∧ some k_ ≠ (v165 : Value).ownBlock ∧ some k_ ≠ (.slice Ao55 y170.length co55 : Value).ownBlock)) (by (with_reducible repeat (first|apply qd|apply qe|apply qf));exact qn HO154.out (fun _ hk => ⟨⟨hk.1,⟨hk.2.1,⟨hk.2.2.1,hk.2.2.2.2⟩⟩⟩,hk.2.2.2.1⟩)) hg hat)
             have n4_:=qk (Kd.R_after (ok:=(fun k_ => some k_ ≠ (.slice Ao37 y143.length co37 : Value).ownBlock ∧ some k_ ≠ (.slice Ao42 t152.length co42 : Value).ownBlock ∧ some k_ ≠ (v165 : Value).ownBlock ∧ some k_ ≠ (.slice Ao55 y170.length co55 : Value).ownBlock)) (by (with_reducible repeat (first|apply qd|apply qe|apply qf));exact qn HO160.out (fun _ hk => ⟨⟨hk.1,⟨hk.2.1,⟨hk.2.2.1,hk.2.2.2.2⟩⟩⟩,hk.2.2.2.1⟩)) hg hat)
             have n5_:=qk (Kd.R_after (ok:=(fun k_ => some k_ ≠ (.slice Ao37 y143.length co37 : Value).ownBlock ∧ some k_ ≠ (.slice Ao42 t152.length co42 : Value).ownBlock ∧ some k_ ≠ (.slice Ao45 t158.length co45 : Value).ownBlock ∧ some k_ ≠ (.slice Ao55 y170.length co55 : Value).ownBlock)) (by (with_reducible repeat (first|apply qd|apply qe|apply qf));exact qn HO166.out (fun _ hk => ⟨⟨hk.1,⟨hk.2.1,⟨hk.2.2.1,hk.2.2.2.2⟩⟩⟩,hk.2.2.2.1⟩)) hg hat)
             have n6_:=qk (Kd.R_after (ok:=(fun k_ => some k_ ≠ (.slice Ao37 y143.length co37 : Value).ownBlock ∧ some k_ ≠ (.slice Ao42 t152.length co42 : Value).ownBlock ∧ some k_ ≠ (.slice Ao45 t158.length co45 : Value).ownBlock ∧ some k_ ≠ (v165 : Value).ownBlock)) (by (with_reducible repeat (first|apply qd|apply qe|apply qf));exact qn HO172.out (fun _ hk => ⟨⟨hk.1,⟨hk.2.1,⟨hk.2.2.1,hk.2.2.2.1⟩⟩⟩,hk.2.2.2.2⟩)) hg hat)
             have n7_:=qk (hb)
             have n8_:=qk (ho)
             clear BK125
             clear BK142
             clear HO145
             clear HO154
             clear HO160
             clear HO166
             clear HO172
             clear HB
             clear HO169
             have BK125:=n0_
             have BK142:=n1_
             have HO145:=n2_
             have HO154:=n3_
             have HO160:=n4_
             have HO166:=n5_
             have HO172:=n6_
             have HB:=n7_
             have HO175:=n8_
             clear n0_ n1_ n2_ n3_ n4_ n5_ n6_ n7_ n8_
             clear ho hb hg hat
             refine hK.out _ _ ⟨(blk_cell BK142.out 0).trans rfl,(blk_cell BK142.out 1).trans rfl,(blk_cell BK142.out 2).trans rfl,(blk_cell BK142.out 3).trans rfl,(blk_cell BK142.out 4).trans rfl⟩ (fun hHeld => ?_)
             clear hK K
             refine norm_ (a':=?_) ?_ ?_
             rotate_left
             ·
              show Act.put _ (some 65) _ = _
              simp only [Act.put,sA,sB,sC,i64_w,i32_w]
              rfl
             refine pure_ (i:=11) (N:=some 3) (v:=?_) (a':=?_) #[true,true,true,true,true,true,true,true,true,true,true,true] rfl rfl (any_of HT_.out (by kernel_rfl)) (fun _ _ _ h => h) (Or.inl ⟨by rfl,?_⟩) ?_ ?_
             rotate_left
             ·
              intro w'
              go_simp
              with_reducible rfl
             rotate_left
             ·
              simp only [Act.put,sA,sB,sC,i64_w,i32_w]
              rfl
             refine done_ (done_of HT_.out (by kernel_rfl)) ?_
             try go_wp2
             go_loopg [3,6] k1 (fun kq v3 v6 w' => ∃ (x3_2 : List Int) (x6_2 : Int),v6 = .int .i64 x6_2 ∧ Aside0 (spec_l05Bytes.l1 kq x3_2 x4_1 x6_2 a0_0 a0_1 l0_2 l0_3 ((rd_T55 l0_2 x4_1).f0) ((rd_T55 l0_2 x4_1).f1) ((rd_T55 l0_2 x4_1).f2) ((rd_T55 l0_2 x4_1).f3) ((rd_T55 l0_2 x4_1).f4) = some r) ∧ Aside0 (kq ≤ k1) ∧ Aside0 (Kd.R (Kd.int .u8) 5 w' w.heap.size (fun _ => True) v3 x3_2) ∧ Aside0 (w'.heap[gb125]? = some (.cells #[.int .i64 a0_0,.int .i64 a0_1,(.slice (some ad141) l0_2.length c0_2),(.slice A0_3 l0_3.length c0_3)] 32 (0,0))) ∧ Aside0 (w'.heap[gb142]? = some (.cells #[.string ((rd_T55 l0_2 x4_1).f0),.int .i64 ((rd_T55 l0_2 x4_1).f1),.int .i64 ((rd_T55 l0_2 x4_1).f2),.int .i64 ((rd_T55 l0_2 x4_1).f3),(.slice A141_4 ((rd_T55 l0_2 x4_1).f4).length c141_4)] 55 (0,0))) ∧ Aside0 (Below w.heap.size w w'))
             case atStart => exact ⟨(y173),(0),(by first|rfl|(simp;done)|(simp [*];done)),H',⟨Nat.le_refl _⟩,⟨by (with_reducible repeat (first|apply qd|apply qe|apply qf));exact qn HO175.out (fun _ hk => trivial)⟩,⟨by (with_reducible repeat (first|apply qa|apply qb|apply qc));exact BK125.out⟩,⟨by (with_reducible repeat (first|apply qa|apply qb|apply qc));exact BK142.out⟩,⟨by repeat (first|(with_reducible first|exact HB.out|apply qg|apply qh|apply qi|refine qj ?_ GE125.out|refine qj ?_ GE142.out)|exact HB.out)⟩⟩
             case round =>
              clear H'
              try clear c1
              try clear c2
              try clear p2
              try clear c14
              try clear c24
              try clear c26
              try clear c27
              obtain ⟨x3_2,x6_2,rfl,HA,HK2,HO_3,BK125,BK142,HB⟩:=hrel
              cases gk with
              | zero => exact absurd HA.out (by simp [spec_l05Bytes.l1])
              | succ k2 =>
               have H:=HA.out
               clear HA
               simp only [spec_l05Bytes.l1] at H
               by_cases c56 : x6_2 < (((rd_T55 l0_2 x4_1).f4).length : Int)
               ·
                rw [if_pos c56] at H
                have c56b0 : decide (x6_2 < (((rd_T55 l0_2 x4_1).f4).length : Int)) = true:=decide_eq_true c56
                clear c56
                by_cases c57 : 0 ≤ x6_2
                ·
                 rw [if_pos c57] at H
                 have c57b0 : decide (0 ≤ x6_2) = true:=decide_eq_true c57
                 clear c57
                 obtain ⟨y177,hy177⟩ : ∃ y_ : List Int,y_ = (([((rd_T58 ((rd_T55 l0_2 x4_1).f4) x6_2).f0) % 256] : List Int)):=⟨_,rfl⟩
                 replace H : (if x3_2.length + y177.length < 140737488355328 then ((some (x3_2 ++ y177 : List Int)).bind fun y180 => ((spec_l02Number.f k2 ((rd_T58 ((rd_T55 l0_2 x4_1).f4) x6_2).f1) 2).bind fun t184 => (if y180.length + t184.length < 140737488355328 then (spec_l05Bytes.l1 k2 (y180 ++ t184) x4_1 (wrap64 (x6_2 + 1)) a0_0 a0_1 l0_2 l0_3 ((rd_T55 l0_2 x4_1).f0) ((rd_T55 l0_2 x4_1).f1) ((rd_T55 l0_2 x4_1).f2) ((rd_T55 l0_2 x4_1).f3) ((rd_T55 l0_2 x4_1).f4)) else (none)))) else (none)) = some r:=by first|(rw [hy177];with_reducible exact H)|(have H2_:=(Option.bind_some _ _).symm.trans H;rw [hy177];with_reducible exact H2_)|(have H2_:=(Option.bind_some _ _).symm.trans H;with_reducible exact H2_)|with_reducible exact H|(rw [hy177];exact H)|exact H
                 have Ny177:=qk hy177
                 clear hy177
                 by_cases c58 : x3_2.length + y177.length < 140737488355328
                 ·
                  rw [if_pos c58] at H
                  have LMc58:=qk c58
                  clear c58
                  obtain ⟨y180,hy180⟩ : ∃ y_ : List Int,y_ = (x3_2 ++ y177):=⟨_,rfl⟩
                  replace H : ((spec_l02Number.f k2 ((rd_T58 ((rd_T55 l0_2 x4_1).f4) x6_2).f1) 2).bind fun t184 => (if y180.length + t184.length < 140737488355328 then (spec_l05Bytes.l1 k2 (y180 ++ t184) x4_1 (wrap64 (x6_2 + 1)) a0_0 a0_1 l0_2 l0_3 ((rd_T55 l0_2 x4_1).f0) ((rd_T55 l0_2 x4_1).f1) ((rd_T55 l0_2 x4_1).f2) ((rd_T55 l0_2 x4_1).f3) ((rd_T55 l0_2 x4_1).f4)) else (none))) = some r:=by first|(rw [hy180];with_reducible exact H)|(have H2_:=(Option.bind_some _ _).symm.trans H;rw [hy180];with_reducible exact H2_)|(have H2_:=(Option.bind_some _ _).symm.trans H;with_reducible exact H2_)|with_reducible exact H|(rw [hy180];exact H)|exact H
                  have Ny180:=qk hy180
                  clear hy180
                  replace H:=Option.bind_eq_some_iff.mp H
                  obtain ⟨t184,A590,H⟩:=H
                  replace H : (if y180.length + t184.length < 140737488355328 then (spec_l05Bytes.l1 k2 (y180 ++ t184) x4_1 (wrap64 (x6_2 + 1)) a0_0 a0_1 l0_2 l0_3 ((rd_T55 l0_2 x4_1).f0) ((rd_T55 l0_2 x4_1).f1) ((rd_T55 l0_2 x4_1).f2) ((rd_T55 l0_2 x4_1).f3) ((rd_T55 l0_2 x4_1).f4)) else (none)) = some r:=H
                  have A59:=qk A590
                  clear A590
                  by_cases c60 : y180.length + t184.length < 140737488355328
                  ·
                   rw [if_pos c60] at H
                   have LMc60:=qk c60
                   clear c60
                   obtain ⟨y187,hy187⟩ : ∃ y_ : List Int,y_ = (y180 ++ t184):=⟨_,rfl⟩
                   replace H : (spec_l05Bytes.l1 k2 y187 x4_1 (wrap64 (x6_2 + 1)) a0_0 a0_1 l0_2 l0_3 ((rd_T55 l0_2 x4_1).f0) ((rd_T55 l0_2 x4_1).f1) ((rd_T55 l0_2 x4_1).f2) ((rd_T55 l0_2 x4_1).f3) ((rd_T55 l0_2 x4_1).f4)) = some r:=by first|(rw [hy187];with_reducible exact H)|(have H2_:=(Option.bind_some _ _).symm.trans H;rw [hy187];with_reducible exact H2_)|(have H2_:=(Option.bind_some _ _).symm.trans H;with_reducible exact H2_)|with_reducible exact H|(rw [hy187];exact H)|exact H
                   have Ny187:=qk hy187
                   clear hy187
                   have H':=qk H
                   clear H
                   have hnb61:=NB142_125.out
                   have hnc61:=NB125_142.out
                   have hcz62_0 : wr.cell? ⟨gb142,0,none⟩ = some (.string ((rd_T55 l0_2 x4_1).f0)):=(blk_cell BK142.out 0).trans rfl
                   have hcz62_1 : wr.cell? ⟨gb142,1,none⟩ = some (.int .i64 ((rd_T55 l0_2 x4_1).f1)):=(blk_cell BK142.out 1).trans rfl
                   have hcz62_2 : wr.cell? ⟨gb142,2,none⟩ = some (.int .i64 ((rd_T55 l0_2 x4_1).f2)):=(blk_cell BK142.out 2).trans rfl
                   have hcz62_3 : wr.cell? ⟨gb142,3,none⟩ = some (.int .i64 ((rd_T55 l0_2 x4_1).f3)):=(blk_cell BK142.out 3).trans rfl
                   have hcz62_4 : wr.cell? ⟨gb142,4,none⟩ = some (.slice A141_4 ((rd_T55 l0_2 x4_1).f4).length c141_4):=(blk_cell BK142.out 4).trans rfl
                   have hfz62_0:=sJ BK142.out 0
                   have hfz62_1:=sJ BK142.out 1
                   have hfz62_2:=sJ BK142.out 2
                   have hfz62_3:=sJ BK142.out 3
                   have hfz62_4:=sJ BK142.out 4
                   try go_wp2
                   have n0_:=qk (qf HO_3.out)
                   have n1_:=qk (qb BK125.out)
                   have n2_:=qk (qb BK142.out)
                   have n3_:=qk (qi HB.out)
                   clear HO_3
                   clear BK125
                   clear BK142
                   clear HB
                   have HO_3:=n0_
                   have BK125:=n1_
                   have BK142:=n2_
                   have HB:=n3_
                   clear n0_ n1_ n2_ n3_
                   have p176 : 0 ≤ (x6_2 : Int):=sM (by first|(with_reducible assumption)|assumption)
                   have q176 : x6_2 < (((rd_T55 l0_2 x4_1).f4).length : Int):=sM (by first|(with_reducible assumption)|assumption)
                   obtain ⟨ad176,e176,hx176_0,hx176_1⟩:=at_T58 HR141_4.out x6_2 p176 q176
                   have hw176_1:=hx176_1
                   have hw176_0:=hx176_0
                   cases e176
                   replace hx176_0:=(HB.out.cell (sD w _ hx176_0)).trans hx176_0
                   replace hx176_1:=(HB.out.cell (sD w _ hx176_1)).trans hx176_1
                   replace p176:=eq_true p176
                   replace q176:=eq_true q176
                   have p183 : 0 ≤ (x6_2 : Int):=sM (by first|(with_reducible assumption)|assumption)
                   have q183 : x6_2 < (((rd_T55 l0_2 x4_1).f4).length : Int):=sM (by first|(with_reducible assumption)|assumption)
                   obtain ⟨ad183,e183,hx183_0,hx183_1⟩:=at_T58 HR141_4.out x6_2 p183 q183
                   have hw183_1:=hx183_1
                   have hw183_0:=hx183_0
                   obtain rfl : ad176 = ad183:=(by injection e183)
                   replace hx183_0:=(HB.out.cell (sD w _ hx183_0)).trans hx183_0
                   replace hx183_1:=(HB.out.cell (sD w _ hx183_1)).trans hx183_1
                   replace p183:=eq_true p183
                   replace q183:=eq_true q183
                   refine start_ (n:=19) (S:=fun w' => w'.cell? ⟨gb142,0,none⟩ = some (.string ((rd_T55 l0_2 x4_1).f0)) ∧ w'.cell? ⟨gb142,1,none⟩ = some (.int .i64 ((rd_T55 l0_2 x4_1).f1)) ∧ w'.cell? ⟨gb142,2,none⟩ = some (.int .i64 ((rd_T55 l0_2 x4_1).f2)) ∧ w'.cell? ⟨gb142,3,none⟩ = some (.int .i64 ((rd_T55 l0_2 x4_1).f3)) ∧ w'.cell? ⟨gb142,4,none⟩ = some (.slice (some ad176) ((rd_T55 l0_2 x4_1).f4).length c141_4) ∧ w'.cell? (ad176.add ((x6_2).toNat * 2)) = some (.int .i64 ((rd_T58 ((rd_T55 l0_2 x4_1).f4) x6_2).f0)) ∧ w'.cell? ⟨(ad176.add ((x6_2).toNat * 2)).block,(ad176.add ((x6_2).toNat * 2)).off + 1,none⟩ = some (.int .i64 ((rd_T58 ((rd_T55 l0_2 x4_1).f4) x6_2).f1)) ∧ w'.cell? (ad176.add ((x6_2).toNat * 2)) = some (.int .i64 ((rd_T58 ((rd_T55 l0_2 x4_1).f4) x6_2).f0)) ∧ w'.cell? ⟨(ad176.add ((x6_2).toNat * 2)).block,(ad176.add ((x6_2).toNat * 2)).off + 1,none⟩ = some (.int .i64 ((rd_T58 ((rd_T55 l0_2 x4_1).f4) x6_2).f1))) (ds:=[]) #[false,false,false,false,false,false,false,false,false,false,false,false,false,false,false,false,false,false,false] (by kernel_rfl) rfl rfl ⟨(blk_cell BK142.out 0).trans rfl,(blk_cell BK142.out 1).trans rfl,(blk_cell BK142.out 2).trans rfl,(blk_cell BK142.out 3).trans rfl,(blk_cell BK142.out 4).trans rfl,((HB.out.cell (sD w _ hw176_0)).trans hw176_0),((HB.out.cell (sD w _ hw176_1)).trans hw176_1),((HB.out.cell (sD w _ hw183_0)).trans hw183_0),((HB.out.cell (sD w _ hw183_1)).trans hw183_1)⟩ (fun hHeld => ?_);refine with_tabW spec_l05Bytes.tab13 spec_l05Bytes.bits13 (fun HT_ HW_ => ?_)
                   generalize wr.drew = w63 at HO_3 BK125 BK142 HB hx176_0 hx176_1 hx183_0 hx183_1 hHeld ⊢
                   refine pure_ (i:=0) (N:=some 73) (v:=?_) (a':=?_) #[true,false,false,false,false,false,false,false,false,false,false,false,false,false,false,false,false,false,false] rfl rfl (any_of HT_.out (by kernel_rfl)) (fun _ _ _ h => h) (Or.inl ⟨by rfl,?_⟩) ?_ ?_
                   rotate_left
                   ·
                    intro w'
                    go_simp
                    with_reducible rfl
                   rotate_left
                   ·
                    simp only [Act.put,sA,sB,sC,i64_w,i32_w]
                    rfl
                   refine pure_ (i:=1) (N:=some 74) (v:=?_) (a':=?_) #[true,true,false,false,false,false,false,false,false,false,false,false,false,false,false,false,false,false,false] rfl rfl (any_of HT_.out (by kernel_rfl)) (fun _ _ _ h => h) (Or.inl ⟨by rfl,?_⟩) ?_ ?_
                   rotate_left
                   ·
                    intro w'
                    go_simp
                    with_reducible rfl
                   rotate_left
                   ·
                    simp only [Act.put,sA,sB,sC,i64_w,i32_w]
                    rfl
                   refine pure_ (i:=3) (N:=some 76) (v:=?_) (a':=?_) #[true,true,false,true,false,false,false,false,false,false,false,false,false,false,false,false,false,false,false] rfl rfl (any_of HT_.out (by kernel_rfl)) (fun _ _ _ h => h) (Or.inl ⟨by rfl,?_⟩) ?_ ?_
                   rotate_left
                   ·
                    intro w'
                    go_simp
                    with_reducible rfl
                   rotate_left
                   ·
                    simp only [Act.put,sA,sB,sC,i64_w,i32_w]
                    rfl
                   refine pure_ (i:=10) (N:=some 83) (v:=?_) (a':=?_) #[true,true,false,true,false,false,false,false,false,false,true,false,false,false,false,false,false,false,false] rfl rfl (any_of HT_.out (by kernel_rfl)) (fun _ _ _ h => h) (Or.inl ⟨by rfl,?_⟩) ?_ ?_
                   rotate_left
                   ·
                    intro w'
                    go_simp
                    with_reducible rfl
                   rotate_left
                   ·
                    simp only [Act.put,sA,sB,sC,i64_w,i32_w]
                    rfl
                   refine pure_ (i:=12) (N:=some 85) (v:=?_) (a':=?_) #[true,true,false,true,false,false,false,false,false,false,true,false,true,false,false,false,false,false,false] rfl rfl (any_of HT_.out (by kernel_rfl)) (fun _ _ _ h => h) (Or.inl ⟨by rfl,?_⟩) ?_ ?_
                   rotate_left
                   ·
                    intro w'
                    go_simp
                    with_reducible rfl
                   rotate_left
                   ·
                    simp only [Act.put,sA,sB,sC,i64_w,i32_w]
                    rfl
                   refine take_ (i:=2) (N:=some 75) (v:=?_) (a':=?_) #[true,true,true,true,false,false,false,false,false,false,true,false,true,false,false,false,false,false,false] rfl rfl (take_ofW HT_.out HW_.out (by kernel_rfl)) (fun _ _ _ h => h) (Or.inl ⟨by rfl,?_⟩) hHeld ?_ ?_
                   rotate_left
                   ·
                    rintro w' ⟨s0,s1,s2,s3,s4,s5,s6,s7,s8⟩
                    go_simp
                    with_reducible rfl
                   rotate_left
                   ·
                    simp only [Act.put,sA,sB,sC,i64_w,i32_w]
                    rfl
                   refine pure_ (i:=4) (N:=some 77) (v:=?_) (a':=?_) #[true,true,true,true,true,false,false,false,false,false,true,false,true,false,false,false,false,false,false] rfl rfl (any_of HT_.out (by kernel_rfl)) (fun _ _ _ h => h) (Or.inl ⟨by rfl,?_⟩) ?_ ?_
                   rotate_left
                   ·
                    intro w'
                    go_simp
                    with_reducible rfl
                   rotate_left
                   ·
                    simp only [Act.put,sA,sB,sC,i64_w,i32_w]
                    rfl
                   refine pure_ (i:=5) (N:=some 78) (v:=?_) (a':=?_) #[true,true,true,true,true,true,false,false,false,false,true,false,true,false,false,false,false,false,false] rfl rfl (any_of HT_.out (by kernel_rfl)) (fun _ _ _ h => h) (Or.inl ⟨by rfl,?_⟩) ?_ ?_
                   rotate_left
                   ·
                    intro w'
                    go_simp
                    with_reducible rfl
                   rotate_left
                   ·
                    simp only [Act.put,sA,sB,sC,i64_w,i32_w]
                    rfl
                   refine take_ (i:=6) (N:=some 79) (v:=?_) (a':=?_) #[true,true,true,true,true,true,true,false,false,false,true,false,true,false,false,false,false,false,false] rfl rfl (take_ofW HT_.out HW_.out (by kernel_rfl)) (fun _ _ _ h => h) (Or.inl ⟨by rfl,?_⟩) hHeld ?_ ?_
                   rotate_left
                   ·
                    rintro w' ⟨s0,s1,s2,s3,s4,s5,s6,s7,s8⟩
                    go_simp
                    with_reducible rfl
                   rotate_left
                   ·
                    simp only [Act.put,sA,sB,sC,i64_w,i32_w]
                    rfl
                   refine pure_ (i:=7) (N:=some 80) (v:=?_) (a':=?_) #[true,true,true,true,true,true,true,true,false,false,true,false,true,false,false,false,false,false,false] rfl rfl (any_of HT_.out (by kernel_rfl)) (fun _ _ _ h => h) (Or.inl ⟨by rfl,?_⟩) ?_ ?_
                   rotate_left
                   ·
                    intro w'
                    go_simp
                    with_reducible rfl
                   rotate_left
                   ·
                    simp only [Act.put,sA,sB,sC,i64_w,i32_w]
                    rfl
                   refine take_ (i:=11) (N:=some 84) (v:=?_) (a':=?_) #[true,true,true,true,true,true,true,true,false,false,true,true,true,false,false,false,false,false,false] rfl rfl (take_ofW HT_.out HW_.out (by kernel_rfl)) (fun _ _ _ h => h) (Or.inl ⟨by rfl,?_⟩) hHeld ?_ ?_
                   rotate_left
                   ·
                    rintro w' ⟨s0,s1,s2,s3,s4,s5,s6,s7,s8⟩
                    go_simp
                    with_reducible rfl
                   rotate_left
                   ·
                    simp only [Act.put,sA,sB,sC,i64_w,i32_w]
                    rfl
                   refine pure_ (i:=13) (N:=some 86) (v:=?_) (a':=?_) #[true,true,true,true,true,true,true,true,false,false,true,true,true,true,false,false,false,false,false] rfl rfl (any_of HT_.out (by kernel_rfl)) (fun _ _ _ h => h) (Or.inl ⟨by rfl,?_⟩) ?_ ?_
                   rotate_left
                   ·
                    intro w'
                    go_simp
                    with_reducible rfl
                   rotate_left
                   ·
                    simp only [Act.put,sA,sB,sC,i64_w,i32_w]
                    rfl
                   refine pure_ (i:=14) (N:=some 87) (v:=?_) (a':=?_) #[true,true,true,true,true,true,true,true,false,false,true,true,true,true,true,false,false,false,false] rfl rfl (any_of HT_.out (by kernel_rfl)) (fun _ _ _ h => h) (Or.inl ⟨by rfl,?_⟩) ?_ ?_
                   rotate_left
                   ·
                    intro w'
                    go_simp
                    with_reducible rfl
                   rotate_left
                   ·
                    simp only [Act.put,sA,sB,sC,i64_w,i32_w]
                    rfl
                   refine take_ (i:=15) (N:=some 88) (v:=?_) (a':=?_) #[true,true,true,true,true,true,true,true,false,false,true,true,true,true,true,true,false,false,false] rfl rfl (take_ofW HT_.out HW_.out (by kernel_rfl)) (fun _ _ _ h => h) (Or.inl ⟨by rfl,?_⟩) hHeld ?_ ?_
                   rotate_left
                   ·
                    rintro w' ⟨s0,s1,s2,s3,s4,s5,s6,s7,s8⟩
                    go_simp
                    with_reducible rfl
                   rotate_left
                   ·
                    simp only [Act.put,sA,sB,sC,i64_w,i32_w]
                    rfl
                   refine one_ (i:=8) (N:=some 81) #[true,true,true,true,true,true,true,true,true,false,true,true,true,true,true,true,false,false,false] rfl rfl (one_of HT_.out (by kernel_rfl)) (by decide) (fun K hK => ?_)
                   refine Kd.R_lit_step (Kd.int .u8) _ 5 ?hg (N:=81) ?hd (xs:=([((rd_T58 ((rd_T55 l0_2 x4_1).f4) x6_2).f0) % 256] : List Int)) (inner:=[.int .u8 (((rd_T58 ((rd_T55 l0_2 x4_1).f4) x6_2).f0) % 256)]) (ok:=fun _ => True) (okp:=fun _ => True) ?hr ?hp (fun _ hk => hk) trivial (Below.refl _ _) (Nat.le_refl _) (by simp) ?_;(case hd => rfl);(case hg => rfl);(case hr => first|(go_simp;done)|(go_simp;rfl));(case hp => exact (Reps.one (show Kd.M (Kd.int .u8) _ _ _ (((rd_T58 ((rd_T55 l0_2 x4_1).f4) x6_2).f0) % 256) [.int .u8 (((rd_T58 ((rd_T55 l0_2 x4_1).f4) x6_2).f0) % 256)] from rfl) (Reps.none _ _)))
                   intro v178 w64 ho65 hb hg_ hnew_
                   clear hg_ hnew_
                   (first|rw [← Ny177.out] at ho65|(simp only [Int.reduceToNat] at ho65;rw [← Ny177.out] at ho65))
                   have n0_:=qk (Kd.R_elder' (by (with_reducible repeat (first|apply qd|apply qe|apply qf));exact HO_3.out) (Kd.R_base ho65) hb)
                   have n1_:=qk (Kd.R_lower (Kd.R_new' ho65 (Kd.R_lt (by (with_reducible repeat (first|apply qd|apply qe|apply qf));exact HO_3.out))) (qm (by repeat (first|(with_reducible first|exact HB.out|apply qg|apply qh|apply qi|refine qj ?_ GE125.out|refine qj ?_ GE142.out)|exact HB.out))))
                   have n2_:=qk (ql (g:=gb125) (o:=.cells #[.int .i64 a0_0,.int .i64 a0_1,.slice (some ad141) l0_2.length c0_2,.slice A0_3 l0_3.length c0_3] 32 (0,0)) (by (with_reducible repeat (first|apply qa|apply qb|apply qc));exact BK125.out) hb)
                   have n3_:=qk (ql (g:=gb142) (o:=.cells #[.string ((rd_T55 l0_2 x4_1).f0),.int .i64 ((rd_T55 l0_2 x4_1).f1),.int .i64 ((rd_T55 l0_2 x4_1).f2),.int .i64 ((rd_T55 l0_2 x4_1).f3),.slice (some ad176) ((rd_T55 l0_2 x4_1).f4).length c141_4] 55 (0,0)) (by (with_reducible repeat (first|apply qa|apply qb|apply qc));exact BK142.out) hb)
                   have n4_:=qk (sN (by repeat (first|(with_reducible first|exact HB.out|apply qg|apply qh|apply qi|refine qj ?_ GE125.out|refine qj ?_ GE142.out)|exact HB.out)) hb)
                   clear HO_3
                   clear BK125
                   clear BK142
                   clear HB
                   have HO_3:=n0_
                   have HO179:=n1_
                   have BK125:=n2_
                   have BK142:=n3_
                   have HB:=n4_
                   clear n0_ n1_ n2_ n3_ n4_
                   clear hb ho65
                   obtain ⟨Ao67,co67,eo67⟩:=Kd.R_slice HO179.out
                   (first|subst eo67|(injection eo67 with f1_ f2_ f3_;have f4_:=f1_.symm;have f5_:=f3_.symm;clear f1_ f2_ f3_;subst f4_;subst f5_))
                   refine hK.out _ _ ⟨(blk_cell BK142.out 0).trans rfl,(blk_cell BK142.out 1).trans rfl,(blk_cell BK142.out 2).trans rfl,(blk_cell BK142.out 3).trans rfl,(blk_cell BK142.out 4).trans rfl,((HB.out.cell (sD w _ hw176_0)).trans hw176_0),((HB.out.cell (sD w _ hw176_1)).trans hw176_1),((HB.out.cell (sD w _ hw183_0)).trans hw183_0),((HB.out.cell (sD w _ hw183_1)).trans hw183_1)⟩ (fun hHeld => ?_)
                   clear hK K
                   refine norm_ (a':=?_) ?_ ?_
                   rotate_left
                   ·
                    show Act.put _ (some 81) _ = _
                    simp only [Act.put,sA,sB,sC,i64_w,i32_w]
                    rfl
                   refine one_ (i:=9) (N:=some 82) #[true,true,true,true,true,true,true,true,true,true,true,true,true,true,true,true,false,false,false] rfl rfl (one_of HT_.out (by kernel_rfl)) (by decide) (fun K hK => ?_)
                   refine Kd.R_append_rows_step (Kd.int .u8) (w0:=w) w.heap.size (by rfl) (.tmp 73) (.tmp 81) 40 5 (.int .u8 0) 1 rfl Tryd.underlying40 info5 rfl (by decide) (by omega) u3 x3_2 y177 _ _ _ (fun k_ => some k_ ≠ (.slice Ao67 y177.length co67 : Value).ownBlock) (fun _ => False) rfl rfl ?aO ?aR (fun _ _ h => h) (fun _ h => h.elim) ?aF ?aB ?aS ?aL ?_
                   (case aR => repeat (first|exact (Kd.R_reads' HO179.out).2.2|(with_reducible refine Kd.C_alloc ?_ _)|(with_reducible refine Kd.C_drewN ?_ _)|(with_reducible refine Kd.C_drew ?_)))
                   (case aB => exact (by repeat (first|(with_reducible first|exact HB.out|apply qg|apply qh|apply qi|refine qj ?_ GE125.out|refine qj ?_ GE142.out)|exact HB.out)))
                   (case aF => exact (fun k_ hk => Kd.fresh' (Kd.R_lt (by (with_reducible repeat (first|apply qd|apply qe|apply qf));exact HO179.out)) k_ hk))
                   (case aO => exact (by (with_reducible repeat (first|apply qd|apply qe|apply qf));exact qn HO_3.out (fun _ hk => hk.2)))
                   (case aS => exact (qm (by repeat (first|(with_reducible first|exact HB.out|apply qg|apply qh|apply qi|refine qj ?_ GE125.out|refine qj ?_ GE142.out)|exact HB.out))))
                   (case aL => have:=LMc58.out;omega)
                   intro v181 w66 ho hb hg hat
                   rw [← Ny180.out] at ho
                   have n0_:=qk (blk_grown (g:=gb125) (o:=.cells #[.int .i64 a0_0,.int .i64 a0_1,.slice (some ad141) l0_2.length c0_2,.slice A0_3 l0_3.length c0_3] 32 (0,0)) (by (with_reducible repeat (first|apply qa|apply qb|apply qc));exact BK125.out) hg (Kd.R_ne HO_3.out BK125.out (by decide)))
                   have n1_:=qk (blk_grown (g:=gb142) (o:=.cells #[.string ((rd_T55 l0_2 x4_1).f0),.int .i64 ((rd_T55 l0_2 x4_1).f1),.int .i64 ((rd_T55 l0_2 x4_1).f2),.int .i64 ((rd_T55 l0_2 x4_1).f3),.slice (some ad176) ((rd_T55 l0_2 x4_1).f4).length c141_4] 55 (0,0)) (by (with_reducible repeat (first|apply qa|apply qb|apply qc));exact BK142.out) hg (Kd.R_ne HO_3.out BK142.out (by decide)))
                   have n2_:=qk (Kd.R_after (ok:=(fun _ => True)) (by (with_reducible repeat (first|apply qd|apply qe|apply qf));exact HO179.out) hg hat)
                   have n3_:=qk (hb)
                   have n4_:=qk (ho)
                   clear BK125
                   clear BK142
                   clear HO179
                   clear HB
                   clear HO_3
                   have BK125:=n0_
                   have BK142:=n1_
                   have HO179:=n2_
                   have HB:=n3_
                   have HO182:=n4_
                   clear n0_ n1_ n2_ n3_ n4_
                   clear ho hb hg hat
                   refine hK.out _ _ ⟨(blk_cell BK142.out 0).trans rfl,(blk_cell BK142.out 1).trans rfl,(blk_cell BK142.out 2).trans rfl,(blk_cell BK142.out 3).trans rfl,(blk_cell BK142.out 4).trans rfl,((HB.out.cell (sD w _ hw176_0)).trans hw176_0),((HB.out.cell (sD w _ hw176_1)).trans hw176_1),((HB.out.cell (sD w _ hw183_0)).trans hw183_0),((HB.out.cell (sD w _ hw183_1)).trans hw183_1)⟩ (fun hHeld => ?_)
                   clear hK K
                   refine norm_ (a':=?_) ?_ ?_
                   rotate_left
                   ·
                    show Act.put _ (some 82) _ = _
                    simp only [Act.put,sA,sB,sC,i64_w,i32_w]
                    rfl
                   refine one_ (i:=16) (N:=some 89) #[true,true,true,true,true,true,true,true,true,true,true,true,true,true,true,true,true,false,false] rfl rfl (one_of HT_.out (by kernel_rfl)) (by decide) (fun K hK => ?_)
                   refine goes_ Tryd.func27 (by kernel_rfl) rfl #[.int .i64 ((rd_T58 ((rd_T55 l0_2 x4_1).f4) x6_2).f1),.int .i64 2] (by rfl) rfl rfl (by (try simp only [sE,sH,sI]);first|done|rfl|(simp only [sG,sF];rfl)) ?_
                   with_reducible refine (spec_l02Number.calls k2 ((rd_T58 ((rd_T55 l0_2 x4_1).f4) x6_2).f1) 2 t184 _ A59.out).mono ?_
                   rintro e w68 ⟨v185,rfl,ho0,hb⟩
                   refine ⟨_,rfl,?_⟩
                   have n0_:=qk (Kd.R_elder' (by (with_reducible repeat (first|apply qd|apply qe|apply qf));exact HO179.out) (Kd.R_base ho0) hb)
                   have n1_:=qk (Kd.R_elder' (by (with_reducible repeat (first|apply qd|apply qe|apply qf));exact HO182.out) (Kd.R_base ho0) hb)
                   have n2_:=qk (Kd.R_lower (Kd.R_new' (Kd.R_new' ho0 (Kd.R_lt (by (with_reducible repeat (first|apply qd|apply qe|apply qf));exact HO179.out))) (Kd.R_lt (by (with_reducible repeat (first|apply qd|apply qe|apply qf));exact HO182.out))) (qm (by repeat (first|(with_reducible first|exact HB.out|apply qg|apply qh|apply qi|refine qj ?_ GE125.out|refine qj ?_ GE142.out)|exact HB.out))))
                   have n3_:=qk (ql (g:=gb125) (o:=.cells #[.int .i64 a0_0,.int .i64 a0_1,.slice (some ad141) l0_2.length c0_2,.slice A0_3 l0_3.length c0_3] 32 (0,0)) (by (with_reducible repeat (first|apply qa|apply qb|apply qc));exact BK125.out) hb)
                   have n4_:=qk (ql (g:=gb142) (o:=.cells #[.string ((rd_T55 l0_2 x4_1).f0),.int .i64 ((rd_T55 l0_2 x4_1).f1),.int .i64 ((rd_T55 l0_2 x4_1).f2),.int .i64 ((rd_T55 l0_2 x4_1).f3),.slice (some ad176) ((rd_T55 l0_2 x4_1).f4).length c141_4] 55 (0,0)) (by (with_reducible repeat (first|apply qa|apply qb|apply qc));exact BK142.out) hb)
                   have n5_:=qk (sN (by repeat (first|(with_reducible first|exact HB.out|apply qg|apply qh|apply qi|refine qj ?_ GE125.out|refine qj ?_ GE142.out)|exact HB.out)) hb)
                   clear HO179
                   clear HO182
                   clear BK125
                   clear BK142
                   clear HB
                   have HO179:=n0_
                   have HO182:=n1_
                   have HO186:=n2_
                   have BK125:=n3_
                   have BK142:=n4_
                   have HB:=n5_
                   clear n0_ n1_ n2_ n3_ n4_ n5_
                   (try clear hb)
                   (try clear hb2)
                   (try clear hk)
                   (try clear hi)
                   (try clear ho0)
                   obtain ⟨Ao70,co70,eo70⟩:=Kd.R_slice HO186.out
                   (first|subst eo70|(injection eo70 with f1_ f2_ f3_;have f4_:=f1_.symm;have f5_:=f3_.symm;clear f1_ f2_ f3_;subst f4_;subst f5_))
                   refine hK.out _ _ ⟨(blk_cell BK142.out 0).trans rfl,(blk_cell BK142.out 1).trans rfl,(blk_cell BK142.out 2).trans rfl,(blk_cell BK142.out 3).trans rfl,(blk_cell BK142.out 4).trans rfl,((HB.out.cell (sD w _ hw176_0)).trans hw176_0),((HB.out.cell (sD w _ hw176_1)).trans hw176_1),((HB.out.cell (sD w _ hw183_0)).trans hw183_0),((HB.out.cell (sD w _ hw183_1)).trans hw183_1)⟩ (fun hHeld => ?_)
                   clear hK K
                   refine norm_ (a':=?_) ?_ ?_
                   rotate_left
                   ·
                    show Act.put _ (some 89) _ = _
                    simp only [Act.put,sA,sB,sC,i64_w,i32_w]
                    rfl
                   refine one_ (i:=17) (N:=some 90) #[true,true,true,true,true,true,true,true,true,true,true,true,true,true,true,true,true,true,false] rfl rfl (one_of HT_.out (by kernel_rfl)) (by decide) (fun K hK => ?_)
                   refine Kd.R_append_rows_step (Kd.int .u8) (w0:=w) w.heap.size (by rfl) (.tmp 82) (.tmp 89) 40 5 (.int .u8 0) 1 rfl Tryd.underlying40 info5 rfl (by decide) (by omega) v181 y180 t184 _ _ _ (fun k_ => some k_ ≠ (.slice Ao67 y177.length co67 : Value).ownBlock ∧ some k_ ≠ (.slice Ao70 t184.length co70 : Value).ownBlock) (fun _ => False) rfl rfl ?aO ?aR (fun _ _ h => h) (fun _ h => h.elim) ?aF ?aB ?aS ?aL ?_
                   (case aR => repeat (first|exact (Kd.R_reads' HO186.out).2.2|(with_reducible refine Kd.C_alloc ?_ _)|(with_reducible refine Kd.C_drewN ?_ _)|(with_reducible refine Kd.C_drew ?_)))
                   (case aB => exact (by repeat (first|(with_reducible first|exact HB.out|apply qg|apply qh|apply qi|refine qj ?_ GE125.out|refine qj ?_ GE142.out)|exact HB.out)))
                   (case aF => exact (fun k_ hk => ⟨Kd.fresh' (Kd.R_lt (by (with_reducible repeat (first|apply qd|apply qe|apply qf));exact HO179.out)) k_ hk,Kd.fresh' (Kd.R_lt (by (with_reducible repeat (first|apply qd|apply qe|apply qf));exact HO186.out)) k_ hk⟩))
                   (case aO => exact (by (with_reducible repeat (first|apply qd|apply qe|apply qf));exact HO182.out))
                   (case aS => exact (qm (by repeat (first|(with_reducible first|exact HB.out|apply qg|apply qh|apply qi|refine qj ?_ GE125.out|refine qj ?_ GE142.out)|exact HB.out))))
                   (case aL => have:=LMc60.out;omega)
                   intro v188 w69 ho hb hg hat
                   rw [← Ny187.out] at ho
                   have n0_:=qk (blk_grown (g:=gb125) (o:=.cells #[.int .i64 a0_0,.int .i64 a0_1,.slice (some ad141) l0_2.length c0_2,.slice A0_3 l0_3.length c0_3] 32 (0,0)) (by (with_reducible repeat (first|apply qa|apply qb|apply qc));exact BK125.out) hg (Kd.R_ne HO182.out BK125.out (by decide)))
                   have n1_:=qk (blk_grown (g:=gb142) (o:=.cells #[.string ((rd_T55 l0_2 x4_1).f0),.int .i64 ((rd_T55 l0_2 x4_1).f1),.int .i64 ((rd_T55 l0_2 x4_1).f2),.int .i64 ((rd_T55 l0_2 x4_1).f3),.slice (some ad176) ((rd_T55 l0_2 x4_1).f4).length c141_4] 55 (0,0)) (by (with_reducible repeat (first|apply qa|apply qb|apply qc));exact BK142.out) hg (Kd.R_ne HO182.out BK142.out (by decide)))
                   have n2_:=qk (Kd.R_after (ok:=(fun k_ => some k_ ≠ (.slice Ao70 t184.length co70 : Value).ownBlock)) (by (with_reducible repeat (first|apply qd|apply qe|apply qf));exact qn HO179.out (fun _ hk => ⟨hk.2,hk.1.2⟩)) hg hat)
                   have n3_:=qk (Kd.R_after (ok:=(fun k_ => some k_ ≠ (.slice Ao67 y177.length co67 : Value).ownBlock)) (by (with_reducible repeat (first|apply qd|apply qe|apply qf));exact qn HO186.out (fun _ hk => ⟨hk.1.2,hk.2⟩)) hg hat)
                   have n4_:=qk (hb)
                   have n5_:=qk (ho)
                   clear BK125
                   clear BK142
                   clear HO179
                   clear HO186
                   clear HB
                   clear HO182
                   have BK125:=n0_
                   have BK142:=n1_
                   have HO179:=n2_
                   have HO186:=n3_
                   have HB:=n4_
                   have HO189:=n5_
                   clear n0_ n1_ n2_ n3_ n4_ n5_
                   clear ho hb hg hat
                   refine hK.out _ _ ⟨(blk_cell BK142.out 0).trans rfl,(blk_cell BK142.out 1).trans rfl,(blk_cell BK142.out 2).trans rfl,(blk_cell BK142.out 3).trans rfl,(blk_cell BK142.out 4).trans rfl,((HB.out.cell (sD w _ hw176_0)).trans hw176_0),((HB.out.cell (sD w _ hw176_1)).trans hw176_1),((HB.out.cell (sD w _ hw183_0)).trans hw183_0),((HB.out.cell (sD w _ hw183_1)).trans hw183_1)⟩ (fun hHeld => ?_)
                   clear hK K
                   refine norm_ (a':=?_) ?_ ?_
                   rotate_left
                   ·
                    show Act.put _ (some 90) _ = _
                    simp only [Act.put,sA,sB,sC,i64_w,i32_w]
                    rfl
                   refine pure_ (i:=18) (N:=some 3) (v:=?_) (a':=?_) #[true,true,true,true,true,true,true,true,true,true,true,true,true,true,true,true,true,true,true] rfl rfl (any_of HT_.out (by kernel_rfl)) (fun _ _ _ h => h) (Or.inl ⟨by rfl,?_⟩) ?_ ?_
                   rotate_left
                   ·
                    intro w'
                    go_simp
                    with_reducible rfl
                   rotate_left
                   ·
                    simp only [Act.put,sA,sB,sC,i64_w,i32_w]
                    rfl
                   refine done_ (done_of HT_.out (by kernel_rfl)) ?_
                   try go_wp2
                   go_roundg k2
                   case measure => have:=HK1.out;have:=HK2.out;omega
                   case rel => exact ⟨(y187),(wrap64 (x6_2 + 1)),(by first|rfl|(simp;done)|(simp [*];done)),H',⟨by have:=HK1.out;have:=HK2.out;omega⟩,⟨by (with_reducible repeat (first|apply qd|apply qe|apply qf));exact qn HO189.out (fun _ hk => trivial)⟩,⟨by (with_reducible repeat (first|apply qa|apply qb|apply qc));exact BK125.out⟩,⟨by (with_reducible repeat (first|apply qa|apply qb|apply qc));exact BK142.out⟩,⟨by repeat (first|(with_reducible first|exact HB.out|apply qg|apply qh|apply qi|refine qj ?_ GE125.out|refine qj ?_ GE142.out)|exact HB.out)⟩⟩
                  ·
                   rw [if_neg c60] at H
                   exact absurd H (by simp)
                 ·
                  rw [if_neg c58] at H
                  exact absurd H (by simp)
                ·
                 rw [if_neg c57] at H
                 exact absurd H (by simp)
               ·
                rw [if_neg c56] at H
                have c56b0 : decide (x6_2 < (((rd_T55 l0_2 x4_1).f4).length : Int)) = false:=decide_eq_false c56
                clear c56
                have H':=qk H
                clear H
                have hnb71:=NB142_125.out
                have hnc71:=NB125_142.out
                have hcz72_0 : wr.cell? ⟨gb142,0,none⟩ = some (.string ((rd_T55 l0_2 x4_1).f0)):=(blk_cell BK142.out 0).trans rfl
                have hcz72_1 : wr.cell? ⟨gb142,1,none⟩ = some (.int .i64 ((rd_T55 l0_2 x4_1).f1)):=(blk_cell BK142.out 1).trans rfl
                have hcz72_2 : wr.cell? ⟨gb142,2,none⟩ = some (.int .i64 ((rd_T55 l0_2 x4_1).f2)):=(blk_cell BK142.out 2).trans rfl
                have hcz72_3 : wr.cell? ⟨gb142,3,none⟩ = some (.int .i64 ((rd_T55 l0_2 x4_1).f3)):=(blk_cell BK142.out 3).trans rfl
                have hcz72_4 : wr.cell? ⟨gb142,4,none⟩ = some (.slice A141_4 ((rd_T55 l0_2 x4_1).f4).length c141_4):=(blk_cell BK142.out 4).trans rfl
                have hfz72_0:=sJ BK142.out 0
                have hfz72_1:=sJ BK142.out 1
                have hfz72_2:=sJ BK142.out 2
                have hfz72_3:=sJ BK142.out 3
                have hfz72_4:=sJ BK142.out 4
                go_wp2
                go_roundg k2
                case measure => have:=HK1.out;have:=HK2.out;omega
                case rel => exact ⟨(x3_2),(wrap64 (x4_1 + 1)),(by first|rfl|(simp;done)|(simp [*];done)),H',⟨by have:=HK1.out;have:=HK2.out;omega⟩,⟨by (with_reducible repeat (first|apply qd|apply qe|apply qf));exact HO_3.out⟩,⟨by (with_reducible repeat (first|apply qa|apply qb|apply qc));exact BK125.out⟩,⟨by repeat (first|(with_reducible first|exact HB.out|apply qg|apply qh|apply qi|refine qj ?_ GE125.out|refine qj ?_ GE142.out)|exact HB.out)⟩⟩
            ·
             rw [if_neg c27] at H
             exact absurd H (by simp)
           ·
            rw [if_neg c26] at H
            exact absurd H (by simp)
          ·
           rw [if_neg c24] at H
           exact absurd H (by simp)
         ·
          rw [if_neg c22] at H
          exact absurd H (by simp)
        ·
         rw [if_neg c20] at H
         exact absurd H (by simp)
       ·
        rw [if_neg c19] at H
        exact absurd H (by simp)
      ·
       rw [if_neg c18] at H
       exact absurd H (by simp)
     ·
      rw [if_neg c17] at H
      have c17b0 : decide (x4_1 < (l0_2.length : Int)) = false:=decide_eq_false c17
      clear c17
      obtain ⟨y190,hy190⟩ : ∃ y_ : List Int,y_ = (([((l0_3.length : Int)) % 256] : List Int)):=⟨_,rfl⟩
      replace H : (if x3_1.length + y190.length < 140737488355328 then (spec_l05Bytes.l2 k1 (x3_1 ++ y190) 0 a0_0 a0_1 l0_2 l0_3) else (none)) = some r:=by first|(rw [hy190];with_reducible exact H)|(have H2_:=(Option.bind_some _ _).symm.trans H;rw [hy190];with_reducible exact H2_)|(have H2_:=(Option.bind_some _ _).symm.trans H;with_reducible exact H2_)|with_reducible exact H|(rw [hy190];exact H)|exact H
      have Ny190:=qk hy190
      clear hy190
      by_cases c73 : x3_1.length + y190.length < 140737488355328
      ·
       rw [if_pos c73] at H
       have LMc73:=qk c73
       clear c73
       obtain ⟨y193,hy193⟩ : ∃ y_ : List Int,y_ = (x3_1 ++ y190):=⟨_,rfl⟩
       replace H : (spec_l05Bytes.l2 k1 y193 0 a0_0 a0_1 l0_2 l0_3) = some r:=by first|(rw [hy193];with_reducible exact H)|(have H2_:=(Option.bind_some _ _).symm.trans H;rw [hy193];with_reducible exact H2_)|(have H2_:=(Option.bind_some _ _).symm.trans H;with_reducible exact H2_)|with_reducible exact H|(rw [hy193];exact H)|exact H
       have Ny193:=qk hy193
       clear hy193
       have H':=qk H
       clear H
       have hcz74_0 : wr.cell? ⟨gb125,0,none⟩ = some (.int .i64 a0_0):=(blk_cell BK125.out 0).trans rfl
       have hcz74_1 : wr.cell? ⟨gb125,1,none⟩ = some (.int .i64 a0_1):=(blk_cell BK125.out 1).trans rfl
       have hcz74_2 : wr.cell? ⟨gb125,2,none⟩ = some (.slice A0_2 l0_2.length c0_2):=(blk_cell BK125.out 2).trans rfl
       have hcz74_3 : wr.cell? ⟨gb125,3,none⟩ = some (.slice A0_3 l0_3.length c0_3):=(blk_cell BK125.out 3).trans rfl
       have hfz74_0:=sJ BK125.out 0
       have hfz74_1:=sJ BK125.out 1
       have hfz74_2:=sJ BK125.out 2
       have hfz74_3:=sJ BK125.out 3
       go_wp2_with (first|((with_reducible refine gate_dst (N:=96) rfl ?_);refine Kd.R_lit (Kd.int .u8) _ 5 ?hg (N:=96) ?hd (xs:=([((l0_3.length : Int)) % 256] : List Int)) (inner:=[.int .u8 (((l0_3.length : Int)) % 256)]) (ok:=fun _ => True) (okp:=fun _ => True) ?hr ?hp (fun _ hk => hk) trivial (Below.refl _ _) (Nat.le_refl _) (by simp) ?_;(case hd => rfl);(case hg => rfl);(case hr => first|(go_simp;done)|(go_simp;rfl));(case hp => exact (Reps.one (show Kd.M (Kd.int .u8) _ _ _ (((l0_3.length : Int)) % 256) [.int .u8 (((l0_3.length : Int)) % 256)] from rfl) (Reps.none _ _)));intro v191 w75 ho76 hb hg_ hnew_;clear hg_ hnew_;(first|rw [← Ny190.out] at ho76|(simp only [Int.reduceToNat] at ho76;rw [← Ny190.out] at ho76));have n0_:=qk (Kd.R_elder' (by (with_reducible repeat (first|apply qd|apply qe|apply qf));exact HO_3.out) (Kd.R_base ho76) hb);have n1_:=qk (Kd.R_lower (Kd.R_new' ho76 (Kd.R_lt (by (with_reducible repeat (first|apply qd|apply qe|apply qf));exact HO_3.out))) (qm (by repeat (first|(with_reducible first|exact HB.out|apply qg|apply qh|apply qi|refine qj ?_ GE125.out)|exact HB.out))));have n2_:=qk (ql (g:=gb125) (o:=.cells #[.int .i64 a0_0,.int .i64 a0_1,.slice A0_2 l0_2.length c0_2,.slice A0_3 l0_3.length c0_3] 32 (0,0)) (by (with_reducible repeat (first|apply qa|apply qb|apply qc));exact BK125.out) hb);have n3_:=qk (sN (by repeat (first|(with_reducible first|exact HB.out|apply qg|apply qh|apply qi|refine qj ?_ GE125.out)|exact HB.out)) hb);clear HO_3;clear BK125;clear HB;have HO_3:=n0_;have HO192:=n1_;have BK125:=n2_;have HB:=n3_;clear n0_ n1_ n2_ n3_;clear hb ho76;obtain ⟨Ao78,co78,eo78⟩:=Kd.R_slice HO192.out;subst eo78)|((with_reducible refine gate_builtin (b:=.append) (xs:=#[.tmp 91,.tmp 96]) rfl ?_);at_builtin;refine Kd.R_append_rows (Kd.int .u8) (w0:=w) w.heap.size rfl (.tmp 91) (.tmp 96) 40 5 (.int .u8 0) 1 rfl Tryd.underlying40 info5 rfl (by decide) (by omega) u3 x3_1 y190 _ _ _ (fun k_ => some k_ ≠ (.slice Ao78 y190.length co78 : Value).ownBlock) (fun _ => False) rfl rfl ?aO ?aR (fun _ _ h => h) (fun _ h => h.elim) ?aF ?aB ?aS ?aL ?_;(case aR => repeat (first|exact (Kd.R_reads' HO192.out).2.2|(with_reducible refine Kd.C_alloc ?_ _)|(with_reducible refine Kd.C_drewN ?_ _)|(with_reducible refine Kd.C_drew ?_)));(case aB => exact (by repeat (first|(with_reducible first|exact HB.out|apply qg|apply qh|apply qi|refine qj ?_ GE125.out)|exact HB.out)));(case aF => exact (fun k_ hk => Kd.fresh' (Kd.R_lt (by (with_reducible repeat (first|apply qd|apply qe|apply qf));exact HO192.out)) k_ hk));(case aO => exact (by (with_reducible repeat (first|apply qd|apply qe|apply qf));exact qn HO_3.out (fun _ hk => hk.2)));(case aS => exact (qm (by repeat (first|(with_reducible first|exact HB.out|apply qg|apply qh|apply qi|refine qj ?_ GE125.out)|exact HB.out))));(case aL => have:=LMc73.out;omega);intro v194 w77 ho hb hg hat;rw [← Ny193.out] at ho;have n0_:=qk (blk_grown (g:=gb125) (o:=.cells #[.int .i64 a0_0,.int .i64 a0_1,.slice A0_2 l0_2.length c0_2,.slice A0_3 l0_3.length c0_3] 32 (0,0)) (by (with_reducible repeat (first|apply qa|apply qb|apply qc));exact BK125.out) hg (Kd.R_ne HO_3.out BK125.out (by decide)));have n1_:=qk (Kd.R_after (ok:=(fun _ => True)) (by (with_reducible repeat (first|apply qd|apply qe|apply qf));exact HO192.out) hg hat);have n2_:=qk (hb);have n3_:=qk (ho);clear BK125;clear HO192;clear HB;clear HO_3;have BK125:=n0_;have HO192:=n1_;have HB:=n2_;have HO195:=n3_;clear n0_ n1_ n2_ n3_;clear ho hb hg hat))
       go_loopg [3,7] k1 (fun kq v3 v7 w' => ∃ (x3_2 : List Int) (x7_2 : Int),v7 = .int .i64 x7_2 ∧ Aside0 (spec_l05Bytes.l2 kq x3_2 x7_2 a0_0 a0_1 l0_2 l0_3 = some r) ∧ Aside0 (kq ≤ k1) ∧ Aside0 (Kd.R (Kd.int .u8) 5 w' w.heap.size (fun _ => True) v3 x3_2) ∧ Aside0 (w'.heap[gb125]? = some (.cells #[.int .i64 a0_0,.int .i64 a0_1,(.slice A0_2 l0_2.length c0_2),(.slice A0_3 l0_3.length c0_3)] 32 (0,0))) ∧ Aside0 (Below w.heap.size w w'))
       case atStart => exact ⟨(y193),(0),(by first|rfl|(simp;done)|(simp [*];done)),H',⟨Nat.le_refl _⟩,⟨by (with_reducible repeat (first|apply qd|apply qe|apply qf));exact qn HO195.out (fun _ hk => trivial)⟩,⟨by (with_reducible repeat (first|apply qa|apply qb|apply qc));exact BK125.out⟩,⟨by repeat (first|(with_reducible first|exact HB.out|apply qg|apply qh|apply qi|refine qj ?_ GE125.out)|exact HB.out)⟩⟩
       case round =>
        clear H'
        try clear c1
        try clear p1
        try clear q1
        try clear hx1
        try clear c2
        try clear p2
        try clear c5
        try clear c6
        try clear p6
        try clear c7
        try clear c14
        try clear c17
        try clear c17b0
        try clear p17
        try clear q17
        try clear hx17
        try clear c18
        try clear p18
        try clear q18
        try clear hx18
        try clear c19
        try clear c20
        try clear c22
        try clear c24
        try clear c26
        try clear c27
        try clear c56
        try clear c56b0
        try clear c57
        try clear c57b0
        try clear c58
        try clear c60
        try clear c61
        try clear p64
        try clear c71
        try clear c73
        try clear hcz62_0
        try clear hcz62_1
        try clear hcz62_2
        try clear hcz62_3
        try clear hcz62_4
        try clear hcz72_0
        try clear hcz72_1
        try clear hcz72_2
        try clear hcz72_3
        try clear hcz72_4
        try clear hcz74_0
        try clear hcz74_1
        try clear hcz74_2
        try clear hcz74_3
        try clear hfz62_0
        try clear hfz62_1
        try clear hfz62_2
        try clear hfz62_3
        try clear hfz62_4
        try clear hfz72_0
        try clear hfz72_1
        try clear hfz72_2
        try clear hfz72_3
        try clear hfz72_4
        try clear hfz74_0
        try clear hfz74_1
        try clear hfz74_2
        try clear hfz74_3
        try clear hx176_0
        try clear hx176_1
        try clear hx183_0
        try clear hx183_1
        try clear p176
        try clear p183
        try clear p2
        try clear q176
        try clear q183
        obtain ⟨x3_2,x7_2,rfl,HA,HK2,HO_3,BK125,HB⟩:=hrel
        cases gk with
        | zero => exact absurd HA.out (by simp [spec_l05Bytes.l2])
        | succ k2 =>
         have H:=HA.out
         clear HA
         simp only [spec_l05Bytes.l2] at H
         by_cases c79 : x7_2 < (l0_3.length : Int)
         ·
          rw [if_pos c79] at H
          have c79b0 : decide (x7_2 < (l0_3.length : Int)) = true:=decide_eq_true c79
          clear c79
          by_cases c80 : 0 ≤ x7_2
          ·
           rw [if_pos c80] at H
           have c80b0 : decide (0 ≤ x7_2) = true:=decide_eq_true c80
           clear c80
           obtain ⟨y198,hy198⟩ : ∃ y_ : List Int,y_ = (([((rd_T62 l0_3 x7_2).f0) % 256] : List Int)):=⟨_,rfl⟩
           replace H : (if x3_2.length + y198.length < 140737488355328 then ((some (x3_2 ++ y198 : List Int)).bind fun y201 => ((spec_l02Number.f k2 ((rd_T62 l0_3 x7_2).f1) 2).bind fun t204 => (if y201.length + t204.length < 140737488355328 then ((some (y201 ++ t204 : List Int)).bind fun y207 => ((some (([((rd_T62 l0_3 x7_2).f2.f0) % 256] : List Int) : List Int)).bind fun y210 => (if y207.length + y210.length < 140737488355328 then ((some (y207 ++ y210 : List Int)).bind fun y213 => ((spec_l02Number.f k2 ((rd_T62 l0_3 x7_2).f2.f1) 3).bind fun t216 => (if y213.length + t216.length < 140737488355328 then ((some (y213 ++ t216 : List Int)).bind fun y219 => ((spec_l02Number.f k2 (wrap64 (((rd_T62 l0_3 x7_2).f2.f2) + 1)) 2).bind fun t222 => (if y219.length + t222.length < 140737488355328 then ((some (y219 ++ t222 : List Int)).bind fun y225 => ((spec_l02Number.f k2 ((rd_T62 l0_3 x7_2).f2.f3) 4).bind fun t228 => (if y225.length + t228.length < 140737488355328 then (spec_l05Bytes.l2 k2 (y225 ++ t228) (wrap64 (x7_2 + 1)) a0_0 a0_1 l0_2 l0_3) else (none)))) else (none)))) else (none)))) else (none)))) else (none)))) else (none)) = some r:=by first|(rw [hy198];with_reducible exact H)|(have H2_:=(Option.bind_some _ _).symm.trans H;rw [hy198];with_reducible exact H2_)|(have H2_:=(Option.bind_some _ _).symm.trans H;with_reducible exact H2_)|with_reducible exact H|(rw [hy198];exact H)|exact H
           have Ny198:=qk hy198
           clear hy198
           by_cases c81 : x3_2.length + y198.length < 140737488355328
           ·
            rw [if_pos c81] at H
            have LMc81:=qk c81
            clear c81
            obtain ⟨y201,hy201⟩ : ∃ y_ : List Int,y_ = (x3_2 ++ y198):=⟨_,rfl⟩
            replace H : ((spec_l02Number.f k2 ((rd_T62 l0_3 x7_2).f1) 2).bind fun t204 => (if y201.length + t204.length < 140737488355328 then ((some (y201 ++ t204 : List Int)).bind fun y207 => ((some (([((rd_T62 l0_3 x7_2).f2.f0) % 256] : List Int) : List Int)).bind fun y210 => (if y207.length + y210.length < 140737488355328 then ((some (y207 ++ y210 : List Int)).bind fun y213 => ((spec_l02Number.f k2 ((rd_T62 l0_3 x7_2).f2.f1) 3).bind fun t216 => (if y213.length + t216.length < 140737488355328 then ((some (y213 ++ t216 : List Int)).bind fun y219 => ((spec_l02Number.f k2 (wrap64 (((rd_T62 l0_3 x7_2).f2.f2) + 1)) 2).bind fun t222 => (if y219.length + t222.length < 140737488355328 then ((some (y219 ++ t222 : List Int)).bind fun y225 => ((spec_l02Number.f k2 ((rd_T62 l0_3 x7_2).f2.f3) 4).bind fun t228 => (if y225.length + t228.length < 140737488355328 then (spec_l05Bytes.l2 k2 (y225 ++ t228) (wrap64 (x7_2 + 1)) a0_0 a0_1 l0_2 l0_3) else (none)))) else (none)))) else (none)))) else (none)))) else (none))) = some r:=by first|(rw [hy201];with_reducible exact H)|(have H2_:=(Option.bind_some _ _).symm.trans H;rw [hy201];with_reducible exact H2_)|(have H2_:=(Option.bind_some _ _).symm.trans H;with_reducible exact H2_)|with_reducible exact H|(rw [hy201];exact H)|exact H
            have Ny201:=qk hy201
            clear hy201
            replace H:=Option.bind_eq_some_iff.mp H
            obtain ⟨t204,A820,H⟩:=H
            replace H : (if y201.length + t204.length < 140737488355328 then ((some (y201 ++ t204 : List Int)).bind fun y207 => ((some (([((rd_T62 l0_3 x7_2).f2.f0) % 256] : List Int) : List Int)).bind fun y210 => (if y207.length + y210.length < 140737488355328 then ((some (y207 ++ y210 : List Int)).bind fun y213 => ((spec_l02Number.f k2 ((rd_T62 l0_3 x7_2).f2.f1) 3).bind fun t216 => (if y213.length + t216.length < 140737488355328 then ((some (y213 ++ t216 : List Int)).bind fun y219 => ((spec_l02Number.f k2 (wrap64 (((rd_T62 l0_3 x7_2).f2.f2) + 1)) 2).bind fun t222 => (if y219.length + t222.length < 140737488355328 then ((some (y219 ++ t222 : List Int)).bind fun y225 => ((spec_l02Number.f k2 ((rd_T62 l0_3 x7_2).f2.f3) 4).bind fun t228 => (if y225.length + t228.length < 140737488355328 then (spec_l05Bytes.l2 k2 (y225 ++ t228) (wrap64 (x7_2 + 1)) a0_0 a0_1 l0_2 l0_3) else (none)))) else (none)))) else (none)))) else (none)))) else (none)) = some r:=H
            have A82:=qk A820
            clear A820
            by_cases c83 : y201.length + t204.length < 140737488355328
            ·
             rw [if_pos c83] at H
             have LMc83:=qk c83
             clear c83
             obtain ⟨y207,hy207⟩ : ∃ y_ : List Int,y_ = (y201 ++ t204):=⟨_,rfl⟩
             replace H : ((some (([((rd_T62 l0_3 x7_2).f2.f0) % 256] : List Int) : List Int)).bind fun y210 => (if y207.length + y210.length < 140737488355328 then ((some (y207 ++ y210 : List Int)).bind fun y213 => ((spec_l02Number.f k2 ((rd_T62 l0_3 x7_2).f2.f1) 3).bind fun t216 => (if y213.length + t216.length < 140737488355328 then ((some (y213 ++ t216 : List Int)).bind fun y219 => ((spec_l02Number.f k2 (wrap64 (((rd_T62 l0_3 x7_2).f2.f2) + 1)) 2).bind fun t222 => (if y219.length + t222.length < 140737488355328 then ((some (y219 ++ t222 : List Int)).bind fun y225 => ((spec_l02Number.f k2 ((rd_T62 l0_3 x7_2).f2.f3) 4).bind fun t228 => (if y225.length + t228.length < 140737488355328 then (spec_l05Bytes.l2 k2 (y225 ++ t228) (wrap64 (x7_2 + 1)) a0_0 a0_1 l0_2 l0_3) else (none)))) else (none)))) else (none)))) else (none))) = some r:=by first|(rw [hy207];with_reducible exact H)|(have H2_:=(Option.bind_some _ _).symm.trans H;rw [hy207];with_reducible exact H2_)|(have H2_:=(Option.bind_some _ _).symm.trans H;with_reducible exact H2_)|with_reducible exact H|(rw [hy207];exact H)|exact H
             have Ny207:=qk hy207
             clear hy207
             obtain ⟨y210,hy210⟩ : ∃ y_ : List Int,y_ = (([((rd_T62 l0_3 x7_2).f2.f0) % 256] : List Int)):=⟨_,rfl⟩
             replace H : (if y207.length + y210.length < 140737488355328 then ((some (y207 ++ y210 : List Int)).bind fun y213 => ((spec_l02Number.f k2 ((rd_T62 l0_3 x7_2).f2.f1) 3).bind fun t216 => (if y213.length + t216.length < 140737488355328 then ((some (y213 ++ t216 : List Int)).bind fun y219 => ((spec_l02Number.f k2 (wrap64 (((rd_T62 l0_3 x7_2).f2.f2) + 1)) 2).bind fun t222 => (if y219.length + t222.length < 140737488355328 then ((some (y219 ++ t222 : List Int)).bind fun y225 => ((spec_l02Number.f k2 ((rd_T62 l0_3 x7_2).f2.f3) 4).bind fun t228 => (if y225.length + t228.length < 140737488355328 then (spec_l05Bytes.l2 k2 (y225 ++ t228) (wrap64 (x7_2 + 1)) a0_0 a0_1 l0_2 l0_3) else (none)))) else (none)))) else (none)))) else (none)) = some r:=by first|(rw [hy210];with_reducible exact H)|(have H2_:=(Option.bind_some _ _).symm.trans H;rw [hy210];with_reducible exact H2_)|(have H2_:=(Option.bind_some _ _).symm.trans H;with_reducible exact H2_)|with_reducible exact H|(rw [hy210];exact H)|exact H
             have Ny210:=qk hy210
             clear hy210
             by_cases c84 : y207.length + y210.length < 140737488355328
             ·
              rw [if_pos c84] at H
              have LMc84:=qk c84
              clear c84
              obtain ⟨y213,hy213⟩ : ∃ y_ : List Int,y_ = (y207 ++ y210):=⟨_,rfl⟩
              replace H : ((spec_l02Number.f k2 ((rd_T62 l0_3 x7_2).f2.f1) 3).bind fun t216 => (if y213.length + t216.length < 140737488355328 then ((some (y213 ++ t216 : List Int)).bind fun y219 => ((spec_l02Number.f k2 (wrap64 (((rd_T62 l0_3 x7_2).f2.f2) + 1)) 2).bind fun t222 => (if y219.length + t222.length < 140737488355328 then ((some (y219 ++ t222 : List Int)).bind fun y225 => ((spec_l02Number.f k2 ((rd_T62 l0_3 x7_2).f2.f3) 4).bind fun t228 => (if y225.length + t228.length < 140737488355328 then (spec_l05Bytes.l2 k2 (y225 ++ t228) (wrap64 (x7_2 + 1)) a0_0 a0_1 l0_2 l0_3) else (none)))) else (none)))) else (none))) = some r:=by first|(rw [hy213];with_reducible exact H)|(have H2_:=(Option.bind_some _ _).symm.trans H;rw [hy213];with_reducible exact H2_)|(have H2_:=(Option.bind_some _ _).symm.trans H;with_reducible exact H2_)|with_reducible exact H|(rw [hy213];exact H)|exact H
              have Ny213:=qk hy213
              clear hy213
              replace H:=Option.bind_eq_some_iff.mp H
              obtain ⟨t216,A850,H⟩:=H
              replace H : (if y213.length + t216.length < 140737488355328 then ((some (y213 ++ t216 : List Int)).bind fun y219 => ((spec_l02Number.f k2 (wrap64 (((rd_T62 l0_3 x7_2).f2.f2) + 1)) 2).bind fun t222 => (if y219.length + t222.length < 140737488355328 then ((some (y219 ++ t222 : List Int)).bind fun y225 => ((spec_l02Number.f k2 ((rd_T62 l0_3 x7_2).f2.f3) 4).bind fun t228 => (if y225.length + t228.length < 140737488355328 then (spec_l05Bytes.l2 k2 (y225 ++ t228) (wrap64 (x7_2 + 1)) a0_0 a0_1 l0_2 l0_3) else (none)))) else (none)))) else (none)) = some r:=H
              have A85:=qk A850
              clear A850
              by_cases c86 : y213.length + t216.length < 140737488355328
              ·
               rw [if_pos c86] at H
               have LMc86:=qk c86
               clear c86
               obtain ⟨y219,hy219⟩ : ∃ y_ : List Int,y_ = (y213 ++ t216):=⟨_,rfl⟩
               replace H : ((spec_l02Number.f k2 (wrap64 (((rd_T62 l0_3 x7_2).f2.f2) + 1)) 2).bind fun t222 => (if y219.length + t222.length < 140737488355328 then ((some (y219 ++ t222 : List Int)).bind fun y225 => ((spec_l02Number.f k2 ((rd_T62 l0_3 x7_2).f2.f3) 4).bind fun t228 => (if y225.length + t228.length < 140737488355328 then (spec_l05Bytes.l2 k2 (y225 ++ t228) (wrap64 (x7_2 + 1)) a0_0 a0_1 l0_2 l0_3) else (none)))) else (none))) = some r:=by first|(rw [hy219];with_reducible exact H)|(have H2_:=(Option.bind_some _ _).symm.trans H;rw [hy219];with_reducible exact H2_)|(have H2_:=(Option.bind_some _ _).symm.trans H;with_reducible exact H2_)|with_reducible exact H|(rw [hy219];exact H)|exact H
               have Ny219:=qk hy219
               clear hy219
               replace H:=Option.bind_eq_some_iff.mp H
               obtain ⟨t222,A870,H⟩:=H
               replace H : (if y219.length + t222.length < 140737488355328 then ((some (y219 ++ t222 : List Int)).bind fun y225 => ((spec_l02Number.f k2 ((rd_T62 l0_3 x7_2).f2.f3) 4).bind fun t228 => (if y225.length + t228.length < 140737488355328 then (spec_l05Bytes.l2 k2 (y225 ++ t228) (wrap64 (x7_2 + 1)) a0_0 a0_1 l0_2 l0_3) else (none)))) else (none)) = some r:=H
               have A87:=qk A870
               clear A870
               by_cases c88 : y219.length + t222.length < 140737488355328
               ·
                rw [if_pos c88] at H
                have LMc88:=qk c88
                clear c88
                obtain ⟨y225,hy225⟩ : ∃ y_ : List Int,y_ = (y219 ++ t222):=⟨_,rfl⟩
                replace H : ((spec_l02Number.f k2 ((rd_T62 l0_3 x7_2).f2.f3) 4).bind fun t228 => (if y225.length + t228.length < 140737488355328 then (spec_l05Bytes.l2 k2 (y225 ++ t228) (wrap64 (x7_2 + 1)) a0_0 a0_1 l0_2 l0_3) else (none))) = some r:=by first|(rw [hy225];with_reducible exact H)|(have H2_:=(Option.bind_some _ _).symm.trans H;rw [hy225];with_reducible exact H2_)|(have H2_:=(Option.bind_some _ _).symm.trans H;with_reducible exact H2_)|with_reducible exact H|(rw [hy225];exact H)|exact H
                have Ny225:=qk hy225
                clear hy225
                replace H:=Option.bind_eq_some_iff.mp H
                obtain ⟨t228,A890,H⟩:=H
                replace H : (if y225.length + t228.length < 140737488355328 then (spec_l05Bytes.l2 k2 (y225 ++ t228) (wrap64 (x7_2 + 1)) a0_0 a0_1 l0_2 l0_3) else (none)) = some r:=H
                have A89:=qk A890
                clear A890
                by_cases c90 : y225.length + t228.length < 140737488355328
                ·
                 rw [if_pos c90] at H
                 have LMc90:=qk c90
                 clear c90
                 obtain ⟨y231,hy231⟩ : ∃ y_ : List Int,y_ = (y225 ++ t228):=⟨_,rfl⟩
                 replace H : (spec_l05Bytes.l2 k2 y231 (wrap64 (x7_2 + 1)) a0_0 a0_1 l0_2 l0_3) = some r:=by first|(rw [hy231];with_reducible exact H)|(have H2_:=(Option.bind_some _ _).symm.trans H;rw [hy231];with_reducible exact H2_)|(have H2_:=(Option.bind_some _ _).symm.trans H;with_reducible exact H2_)|with_reducible exact H|(rw [hy231];exact H)|exact H
                 have Ny231:=qk hy231
                 clear hy231
                 have H':=qk H
                 clear H
                 have hcz91_0 : wr.cell? ⟨gb125,0,none⟩ = some (.int .i64 a0_0):=(blk_cell BK125.out 0).trans rfl
                 have hcz91_1 : wr.cell? ⟨gb125,1,none⟩ = some (.int .i64 a0_1):=(blk_cell BK125.out 1).trans rfl
                 have hcz91_2 : wr.cell? ⟨gb125,2,none⟩ = some (.slice A0_2 l0_2.length c0_2):=(blk_cell BK125.out 2).trans rfl
                 have hcz91_3 : wr.cell? ⟨gb125,3,none⟩ = some (.slice A0_3 l0_3.length c0_3):=(blk_cell BK125.out 3).trans rfl
                 have hfz91_0:=sJ BK125.out 0
                 have hfz91_1:=sJ BK125.out 1
                 have hfz91_2:=sJ BK125.out 2
                 have hfz91_3:=sJ BK125.out 3
                 have p196 : 0 ≤ (x7_2 : Int):=sM (by first|(with_reducible assumption)|assumption)
                 have q196 : x7_2 < (l0_3.length : Int):=sM (by first|(with_reducible assumption)|assumption)
                 obtain ⟨ad196,e196,hx196_0,hx196_1,hx196_2,hx196_3,hx196_4,hx196_5⟩:=at_T62 HR0_3.out x7_2 p196 q196
                 cases e196
                 replace hx196_0:=(HB.out.cell (sD w _ hx196_0)).trans hx196_0
                 replace hx196_1:=(HB.out.cell (sD w _ hx196_1)).trans hx196_1
                 replace hx196_2:=(HB.out.cell (sD w _ hx196_2)).trans hx196_2
                 replace hx196_3:=(HB.out.cell (sD w _ hx196_3)).trans hx196_3
                 replace hx196_4:=(HB.out.cell (sD w _ hx196_4)).trans hx196_4
                 replace hx196_5:=(HB.out.cell (sD w _ hx196_5)).trans hx196_5
                 replace p196:=eq_true p196
                 replace q196:=eq_true q196
                 try go_wp2_with (first|((with_reducible refine gate_dst (N:=8) rfl ?_);refine box_event ?hg (N:=8) ?hd (cs:=#[.int .i64 0,.int .i64 0,.int .i64 0,.int .i64 0,.int .i64 0,.int .i64 0]) (t:=62) ?hr ?_;(case hd => rfl);(case hg => rfl);(case hr => first|(go_simp;done)|(go_simp;rfl));intro gb197 hg w92 hbox hb;have n0_:=qk (Kd.R_below (by (with_reducible repeat (first|apply qd|apply qe|apply qf));exact HO_3.out) hb);have n1_:=qk (ql (g:=gb125) (o:=.cells #[.int .i64 a0_0,.int .i64 a0_1,.slice A0_2 l0_2.length c0_2,.slice (some ad196) l0_3.length c0_3] 32 (0,0)) (by (with_reducible repeat (first|apply qa|apply qb|apply qc));exact BK125.out) hb);have n2_:=qk (sN (by repeat (first|(with_reducible first|exact HB.out|apply qg|apply qh|apply qi|refine qj ?_ GE125.out)|exact HB.out)) hb);have n3_:=qk (hbox);have n4_:=qk ((by rw [hg];exact (qm (by repeat (first|(with_reducible first|exact HB.out|apply qg|apply qh|apply qi|refine qj ?_ GE125.out)|exact HB.out))) : w.heap.size ≤ gb197));have n5_:=qk ((by rw [hg];exact (qm (by repeat (first|(with_reducible first|exact HB.out|apply qg|apply qh|apply qi|refine qj ?_ GE125.out)|exact HB.out))) : w.heap.size ≤ gb197));have n6_:=qk ((by rw [hg];exact Nat.ne_of_lt (blk_lt (g:=gb125) (o:=.cells #[.int .i64 a0_0,.int .i64 a0_1,.slice A0_2 l0_2.length c0_2,.slice (some ad196) l0_3.length c0_3] 32 (0,0)) (by (with_reducible repeat (first|apply qa|apply qb|apply qc));exact BK125.out)) : gb125 ≠ gb197));have n7_:=qk ((by rw [hg];exact Nat.ne_of_gt (blk_lt (g:=gb125) (o:=.cells #[.int .i64 a0_0,.int .i64 a0_1,.slice A0_2 l0_2.length c0_2,.slice (some ad196) l0_3.length c0_3] 32 (0,0)) (by (with_reducible repeat (first|apply qa|apply qb|apply qc));exact BK125.out)) : gb197 ≠ gb125));clear HO_3;clear BK125;clear HB;have HO_3:=n0_;have BK125:=n1_;have HB:=n2_;have BK197:=n3_;have GW197:=n4_;have GE197:=n5_;have NB125_197:=n6_;have NB197_125:=n7_;clear n0_ n1_ n2_ n3_ n4_ n5_ n6_ n7_;clear hb hbox hg;have hnb93:=NB197_125.out;have hnc93:=NB125_197.out;have hcz94_0 : w92.cell? ⟨gb197,0,none⟩ = some (.int .i64 0):=(blk_cell BK197.out 0).trans rfl;have hcz94_1 : w92.cell? ⟨gb197,1,none⟩ = some (.int .i64 0):=(blk_cell BK197.out 1).trans rfl;have hcz94_2 : w92.cell? ⟨gb197,2,none⟩ = some (.int .i64 0):=(blk_cell BK197.out 2).trans rfl;have hcz94_3 : w92.cell? ⟨gb197,3,none⟩ = some (.int .i64 0):=(blk_cell BK197.out 3).trans rfl;have hcz94_4 : w92.cell? ⟨gb197,4,none⟩ = some (.int .i64 0):=(blk_cell BK197.out 4).trans rfl;have hcz94_5 : w92.cell? ⟨gb197,5,none⟩ = some (.int .i64 0):=(blk_cell BK197.out 5).trans rfl;have hfz94_0:=sJ BK197.out 0;have hfz94_1:=sJ BK197.out 1;have hfz94_2:=sJ BK197.out 2;have hfz94_3:=sJ BK197.out 3;have hfz94_4:=sJ BK197.out 4;have hfz94_5:=sJ BK197.out 5))
                 have n0_ : Aside0 (Kd.R (Kd.int .u8) 5 ((((((w92.setCell ⟨gb197,0,none⟩ (.int .i64 ((rd_T62 l0_3 x7_2).f0))).setCell ⟨gb197,1,none⟩ (.int .i64 ((rd_T62 l0_3 x7_2).f1))).setCell ⟨gb197,2,none⟩ (.int .i64 ((rd_T62 l0_3 x7_2).f2.f0))).setCell ⟨gb197,3,none⟩ (.int .i64 ((rd_T62 l0_3 x7_2).f2.f1))).setCell ⟨gb197,4,none⟩ (.int .i64 ((rd_T62 l0_3 x7_2).f2.f2))).setCell ⟨gb197,5,none⟩ (.int .i64 ((rd_T62 l0_3 x7_2).f2.f3))) w.heap.size (fun _ => True) u3 x3_2):=⟨by (with_reducible repeat (first|apply qd|apply qe|apply qf));exact qn (Kd.R_far (p:=⟨gb197,5,none⟩) (Kd.R_far (p:=⟨gb197,4,none⟩) (Kd.R_far (p:=⟨gb197,3,none⟩) (Kd.R_far (p:=⟨gb197,2,none⟩) (Kd.R_far (p:=⟨gb197,1,none⟩) (Kd.R_far (p:=⟨gb197,0,none⟩) (Kd.R_types HO_3.out BK197.out (by decide)) (fun _ hk => hk.2) (.int .i64 ((rd_T62 l0_3 x7_2).f0))) (fun _ hk => hk.2) (.int .i64 ((rd_T62 l0_3 x7_2).f1))) (fun _ hk => hk.2) (.int .i64 ((rd_T62 l0_3 x7_2).f2.f0))) (fun _ hk => hk.2) (.int .i64 ((rd_T62 l0_3 x7_2).f2.f1))) (fun _ hk => hk.2) (.int .i64 ((rd_T62 l0_3 x7_2).f2.f2))) (fun _ hk => hk.2) (.int .i64 ((rd_T62 l0_3 x7_2).f2.f3))) (fun _ hk => trivial)⟩
                 have n1_ : Aside0 (((((((w92.setCell ⟨gb197,0,none⟩ (.int .i64 ((rd_T62 l0_3 x7_2).f0))).setCell ⟨gb197,1,none⟩ (.int .i64 ((rd_T62 l0_3 x7_2).f1))).setCell ⟨gb197,2,none⟩ (.int .i64 ((rd_T62 l0_3 x7_2).f2.f0))).setCell ⟨gb197,3,none⟩ (.int .i64 ((rd_T62 l0_3 x7_2).f2.f1))).setCell ⟨gb197,4,none⟩ (.int .i64 ((rd_T62 l0_3 x7_2).f2.f2))).setCell ⟨gb197,5,none⟩ (.int .i64 ((rd_T62 l0_3 x7_2).f2.f3))).heap[gb125]? = some (.cells #[.int .i64 a0_0,.int .i64 a0_1,.slice A0_2 l0_2.length c0_2,.slice (some ad196) l0_3.length c0_3] 32 (0,0))):=⟨by (with_reducible repeat (first|apply qa|apply qb|apply qc));refine blk_far ?_ NB125_197.out _;(with_reducible repeat (first|apply qa|apply qb|apply qc));refine blk_far ?_ NB125_197.out _;(with_reducible repeat (first|apply qa|apply qb|apply qc));refine blk_far ?_ NB125_197.out _;(with_reducible repeat (first|apply qa|apply qb|apply qc));refine blk_far ?_ NB125_197.out _;(with_reducible repeat (first|apply qa|apply qb|apply qc));refine blk_far ?_ NB125_197.out _;(with_reducible repeat (first|apply qa|apply qb|apply qc));refine blk_far ?_ NB125_197.out _;(with_reducible repeat (first|apply qa|apply qb|apply qc));exact BK125.out⟩
                 have n2_ : Aside0 (((((((w92.setCell ⟨gb197,0,none⟩ (.int .i64 ((rd_T62 l0_3 x7_2).f0))).setCell ⟨gb197,1,none⟩ (.int .i64 ((rd_T62 l0_3 x7_2).f1))).setCell ⟨gb197,2,none⟩ (.int .i64 ((rd_T62 l0_3 x7_2).f2.f0))).setCell ⟨gb197,3,none⟩ (.int .i64 ((rd_T62 l0_3 x7_2).f2.f1))).setCell ⟨gb197,4,none⟩ (.int .i64 ((rd_T62 l0_3 x7_2).f2.f2))).setCell ⟨gb197,5,none⟩ (.int .i64 ((rd_T62 l0_3 x7_2).f2.f3))).heap[gb197]? = some (.cells #[.int .i64 ((rd_T62 l0_3 x7_2).f0),.int .i64 ((rd_T62 l0_3 x7_2).f1),.int .i64 ((rd_T62 l0_3 x7_2).f2.f0),.int .i64 ((rd_T62 l0_3 x7_2).f2.f1),.int .i64 ((rd_T62 l0_3 x7_2).f2.f2),.int .i64 ((rd_T62 l0_3 x7_2).f2.f3)] 62 (0,0))):=⟨by (with_reducible repeat (first|apply qa|apply qb|apply qc));refine blk_put (cs:=#[.int .i64 ((rd_T62 l0_3 x7_2).f0),.int .i64 ((rd_T62 l0_3 x7_2).f1),.int .i64 ((rd_T62 l0_3 x7_2).f2.f0),.int .i64 ((rd_T62 l0_3 x7_2).f2.f1),.int .i64 ((rd_T62 l0_3 x7_2).f2.f2),.int .i64 0]) ?_ 5 _ rfl;(with_reducible repeat (first|apply qa|apply qb|apply qc));refine blk_put (cs:=#[.int .i64 ((rd_T62 l0_3 x7_2).f0),.int .i64 ((rd_T62 l0_3 x7_2).f1),.int .i64 ((rd_T62 l0_3 x7_2).f2.f0),.int .i64 ((rd_T62 l0_3 x7_2).f2.f1),.int .i64 0,.int .i64 0]) ?_ 4 _ rfl;(with_reducible repeat (first|apply qa|apply qb|apply qc));refine blk_put (cs:=#[.int .i64 ((rd_T62 l0_3 x7_2).f0),.int .i64 ((rd_T62 l0_3 x7_2).f1),.int .i64 ((rd_T62 l0_3 x7_2).f2.f0),.int .i64 0,.int .i64 0,.int .i64 0]) ?_ 3 _ rfl;(with_reducible repeat (first|apply qa|apply qb|apply qc));refine blk_put (cs:=#[.int .i64 ((rd_T62 l0_3 x7_2).f0),.int .i64 ((rd_T62 l0_3 x7_2).f1),.int .i64 0,.int .i64 0,.int .i64 0,.int .i64 0]) ?_ 2 _ rfl;(with_reducible repeat (first|apply qa|apply qb|apply qc));refine blk_put (cs:=#[.int .i64 ((rd_T62 l0_3 x7_2).f0),.int .i64 0,.int .i64 0,.int .i64 0,.int .i64 0,.int .i64 0]) ?_ 1 _ rfl;(with_reducible repeat (first|apply qa|apply qb|apply qc));refine blk_put (cs:=#[.int .i64 0,.int .i64 0,.int .i64 0,.int .i64 0,.int .i64 0,.int .i64 0]) ?_ 0 _ rfl;(with_reducible repeat (first|apply qa|apply qb|apply qc));exact BK197.out⟩
                 have n3_ : Aside0 (Below w.heap.size w ((((((w92.setCell ⟨gb197,0,none⟩ (.int .i64 ((rd_T62 l0_3 x7_2).f0))).setCell ⟨gb197,1,none⟩ (.int .i64 ((rd_T62 l0_3 x7_2).f1))).setCell ⟨gb197,2,none⟩ (.int .i64 ((rd_T62 l0_3 x7_2).f2.f0))).setCell ⟨gb197,3,none⟩ (.int .i64 ((rd_T62 l0_3 x7_2).f2.f1))).setCell ⟨gb197,4,none⟩ (.int .i64 ((rd_T62 l0_3 x7_2).f2.f2))).setCell ⟨gb197,5,none⟩ (.int .i64 ((rd_T62 l0_3 x7_2).f2.f3)))):=⟨by repeat (first|(with_reducible first|exact HB.out|apply qg|apply qh|apply qi|refine qj ?_ GE125.out|refine qj ?_ GE197.out)|exact HB.out)⟩
                 (try clear HO_3)
                 (try clear BK125)
                 (try clear BK197)
                 (try clear HB)
                 generalize ((((((w92.setCell ⟨gb197,0,none⟩ (.int .i64 ((rd_T62 l0_3 x7_2).f0))).setCell ⟨gb197,1,none⟩ (.int .i64 ((rd_T62 l0_3 x7_2).f1))).setCell ⟨gb197,2,none⟩ (.int .i64 ((rd_T62 l0_3 x7_2).f2.f0))).setCell ⟨gb197,3,none⟩ (.int .i64 ((rd_T62 l0_3 x7_2).f2.f1))).setCell ⟨gb197,4,none⟩ (.int .i64 ((rd_T62 l0_3 x7_2).f2.f2))).setCell ⟨gb197,5,none⟩ (.int .i64 ((rd_T62 l0_3 x7_2).f2.f3))) = w95 at n0_ n1_ n2_ n3_ ⊢
                 have HO_3:=n0_
                 have BK125:=n1_
                 have BK197:=n2_
                 have HB:=n3_
                 clear n0_ n1_ n2_ n3_
                 have n0_:=qk (qf HO_3.out)
                 have n1_:=qk (qb BK125.out)
                 have n2_:=qk (qb BK197.out)
                 have n3_:=qk (qi HB.out)
                 clear HO_3
                 clear BK125
                 clear BK197
                 clear HB
                 have HO_3:=n0_
                 have BK125:=n1_
                 have BK197:=n2_
                 have HB:=n3_
                 clear n0_ n1_ n2_ n3_
                 refine start_ (n:=11) (S:=fun w' => w'.cell? ⟨gb197,0,none⟩ = some (.int .i64 ((rd_T62 l0_3 x7_2).f0)) ∧ w'.cell? ⟨gb197,1,none⟩ = some (.int .i64 ((rd_T62 l0_3 x7_2).f1)) ∧ w'.cell? ⟨gb197,2,none⟩ = some (.int .i64 ((rd_T62 l0_3 x7_2).f2.f0)) ∧ w'.cell? ⟨gb197,3,none⟩ = some (.int .i64 ((rd_T62 l0_3 x7_2).f2.f1)) ∧ w'.cell? ⟨gb197,4,none⟩ = some (.int .i64 ((rd_T62 l0_3 x7_2).f2.f2)) ∧ w'.cell? ⟨gb197,5,none⟩ = some (.int .i64 ((rd_T62 l0_3 x7_2).f2.f3))) (ds:=[]) #[false,false,false,false,false,false,false,false,false,false,false] (by kernel_rfl) rfl rfl ⟨(blk_cell BK197.out 0).trans rfl,(blk_cell BK197.out 1).trans rfl,(blk_cell BK197.out 2).trans rfl,(blk_cell BK197.out 3).trans rfl,(blk_cell BK197.out 4).trans rfl,(blk_cell BK197.out 5).trans rfl⟩ (fun hHeld => ?_);refine with_tabW spec_l05Bytes.tab19 spec_l05Bytes.bits19 (fun HT_ HW_ => ?_)
                 generalize w95.drew = w96 at HO_3 BK125 BK197 HB hHeld ⊢
                 refine pure_ (i:=0) (N:=some 110) (v:=?_) (a':=?_) #[true,false,false,false,false,false,false,false,false,false,false] rfl rfl (any_of HT_.out (by kernel_rfl)) (fun _ _ _ h => h) (Or.inl ⟨by rfl,?_⟩) ?_ ?_
                 rotate_left
                 ·
                  intro w'
                  go_simp
                  with_reducible rfl
                 rotate_left
                 ·
                  simp only [Act.put,sA,sB,sC,i64_w,i32_w]
                  rfl
                 refine pure_ (i:=1) (N:=some 111) (v:=?_) (a':=?_) #[true,true,false,false,false,false,false,false,false,false,false] rfl rfl (any_of HT_.out (by kernel_rfl)) (fun _ _ _ h => h) (Or.inl ⟨by rfl,?_⟩) ?_ ?_
                 rotate_left
                 ·
                  intro w'
                  go_simp
                  with_reducible rfl
                 rotate_left
                 ·
                  simp only [Act.put,sA,sB,sC,i64_w,i32_w]
                  rfl
                 refine pure_ (i:=6) (N:=some 116) (v:=?_) (a':=?_) #[true,true,false,false,false,false,true,false,false,false,false] rfl rfl (any_of HT_.out (by kernel_rfl)) (fun _ _ _ h => h) (Or.inl ⟨by rfl,?_⟩) ?_ ?_
                 rotate_left
                 ·
                  intro w'
                  go_simp
                  with_reducible rfl
                 rotate_left
                 ·
                  simp only [Act.put,sA,sB,sC,i64_w,i32_w]
                  rfl
                 refine take_ (i:=2) (N:=some 112) (v:=?_) (a':=?_) #[true,true,true,false,false,false,true,false,false,false,false] rfl rfl (take_ofW HT_.out HW_.out (by kernel_rfl)) (fun _ _ _ h => h) (Or.inl ⟨by rfl,?_⟩) hHeld ?_ ?_
                 rotate_left
                 ·
                  rintro w' ⟨s0,s1,s2,s3,s4,s5⟩
                  go_simp
                  with_reducible rfl
                 rotate_left
                 ·
                  simp only [Act.put,sA,sB,sC,i64_w,i32_w]
                  rfl
                 refine pure_ (i:=3) (N:=some 113) (v:=?_) (a':=?_) #[true,true,true,true,false,false,true,false,false,false,false] rfl rfl (any_of HT_.out (by kernel_rfl)) (fun _ _ _ h => h) (Or.inl ⟨by rfl,?_⟩) ?_ ?_
                 rotate_left
                 ·
                  intro w'
                  go_simp
                  with_reducible rfl
                 rotate_left
                 ·
                  simp only [Act.put,sA,sB,sC,i64_w,i32_w]
                  rfl
                 refine take_ (i:=7) (N:=some 117) (v:=?_) (a':=?_) #[true,true,true,true,false,false,true,true,false,false,false] rfl rfl (take_ofW HT_.out HW_.out (by kernel_rfl)) (fun _ _ _ h => h) (Or.inl ⟨by rfl,?_⟩) hHeld ?_ ?_
                 rotate_left
                 ·
                  rintro w' ⟨s0,s1,s2,s3,s4,s5⟩
                  go_simp
                  with_reducible rfl
                 rotate_left
                 ·
                  simp only [Act.put,sA,sB,sC,i64_w,i32_w]
                  rfl
                 refine one_ (i:=4) (N:=some 114) #[true,true,true,true,true,false,true,true,false,false,false] rfl rfl (one_of HT_.out (by kernel_rfl)) (by decide) (fun K hK => ?_)
                 refine Kd.R_lit_step (Kd.int .u8) _ 5 ?hg (N:=114) ?hd (xs:=([((rd_T62 l0_3 x7_2).f0) % 256] : List Int)) (inner:=[.int .u8 (((rd_T62 l0_3 x7_2).f0) % 256)]) (ok:=fun _ => True) (okp:=fun _ => True) ?hr ?hp (fun _ hk => hk) trivial (Below.refl _ _) (Nat.le_refl _) (by simp) ?_;(case hd => rfl);(case hg => rfl);(case hr => first|(go_simp;done)|(go_simp;rfl));(case hp => exact (Reps.one (show Kd.M (Kd.int .u8) _ _ _ (((rd_T62 l0_3 x7_2).f0) % 256) [.int .u8 (((rd_T62 l0_3 x7_2).f0) % 256)] from rfl) (Reps.none _ _)))
                 intro v199 w97 ho98 hb hg_ hnew_
                 clear hg_ hnew_
                 (first|rw [← Ny198.out] at ho98|(simp only [Int.reduceToNat] at ho98;rw [← Ny198.out] at ho98))
                 have n0_:=qk (Kd.R_elder' (by (with_reducible repeat (first|apply qd|apply qe|apply qf));exact HO_3.out) (Kd.R_base ho98) hb)
                 have n1_:=qk (Kd.R_lower (Kd.R_new' ho98 (Kd.R_lt (by (with_reducible repeat (first|apply qd|apply qe|apply qf));exact HO_3.out))) (qm (by repeat (first|(with_reducible first|exact HB.out|apply qg|apply qh|apply qi|refine qj ?_ GE125.out|refine qj ?_ GE197.out)|exact HB.out))))
                 have n2_:=qk (ql (g:=gb125) (o:=.cells #[.int .i64 a0_0,.int .i64 a0_1,.slice A0_2 l0_2.length c0_2,.slice (some ad196) l0_3.length c0_3] 32 (0,0)) (by (with_reducible repeat (first|apply qa|apply qb|apply qc));exact BK125.out) hb)
                 have n3_:=qk (ql (g:=gb197) (o:=.cells #[.int .i64 ((rd_T62 l0_3 x7_2).f0),.int .i64 ((rd_T62 l0_3 x7_2).f1),.int .i64 ((rd_T62 l0_3 x7_2).f2.f0),.int .i64 ((rd_T62 l0_3 x7_2).f2.f1),.int .i64 ((rd_T62 l0_3 x7_2).f2.f2),.int .i64 ((rd_T62 l0_3 x7_2).f2.f3)] 62 (0,0)) (by (with_reducible repeat (first|apply qa|apply qb|apply qc));exact BK197.out) hb)
                 have n4_:=qk (sN (by repeat (first|(with_reducible first|exact HB.out|apply qg|apply qh|apply qi|refine qj ?_ GE125.out|refine qj ?_ GE197.out)|exact HB.out)) hb)
                 clear HO_3
                 clear BK125
                 clear BK197
                 clear HB
                 have HO_3:=n0_
                 have HO200:=n1_
                 have BK125:=n2_
                 have BK197:=n3_
                 have HB:=n4_
                 clear n0_ n1_ n2_ n3_ n4_
                 clear hb ho98
                 obtain ⟨Ao100,co100,eo100⟩:=Kd.R_slice HO200.out
                 (first|subst eo100|(injection eo100 with f1_ f2_ f3_;have f4_:=f1_.symm;have f5_:=f3_.symm;clear f1_ f2_ f3_;subst f4_;subst f5_))
                 refine hK.out _ _ ⟨(blk_cell BK197.out 0).trans rfl,(blk_cell BK197.out 1).trans rfl,(blk_cell BK197.out 2).trans rfl,(blk_cell BK197.out 3).trans rfl,(blk_cell BK197.out 4).trans rfl,(blk_cell BK197.out 5).trans rfl⟩ (fun hHeld => ?_)
                 clear hK K
                 refine norm_ (a':=?_) ?_ ?_
                 rotate_left
                 ·
                  show Act.put _ (some 114) _ = _
                  simp only [Act.put,sA,sB,sC,i64_w,i32_w]
                  rfl
                 refine one_ (i:=5) (N:=some 115) #[true,true,true,true,true,true,true,true,false,false,false] rfl rfl (one_of HT_.out (by kernel_rfl)) (by decide) (fun K hK => ?_)
                 refine Kd.R_append_rows_step (Kd.int .u8) (w0:=w) w.heap.size (by rfl) (.tmp 110) (.tmp 114) 40 5 (.int .u8 0) 1 rfl Tryd.underlying40 info5 rfl (by decide) (by omega) u3 x3_2 y198 _ _ _ (fun k_ => some k_ ≠ (.slice Ao100 y198.length co100 : Value).ownBlock) (fun _ => False) rfl rfl ?aO ?aR (fun _ _ h => h) (fun _ h => h.elim) ?aF ?aB ?aS ?aL ?_
                 (case aR => repeat (first|exact (Kd.R_reads' HO200.out).2.2|(with_reducible refine Kd.C_alloc ?_ _)|(with_reducible refine Kd.C_drewN ?_ _)|(with_reducible refine Kd.C_drew ?_)))
                 (case aB => exact (by repeat (first|(with_reducible first|exact HB.out|apply qg|apply qh|apply qi|refine qj ?_ GE125.out|refine qj ?_ GE197.out)|exact HB.out)))
                 (case aF => exact (fun k_ hk => Kd.fresh' (Kd.R_lt (by (with_reducible repeat (first|apply qd|apply qe|apply qf));exact HO200.out)) k_ hk))
                 (case aO => exact (by (with_reducible repeat (first|apply qd|apply qe|apply qf));exact qn HO_3.out (fun _ hk => hk.2)))
                 (case aS => exact (qm (by repeat (first|(with_reducible first|exact HB.out|apply qg|apply qh|apply qi|refine qj ?_ GE125.out|refine qj ?_ GE197.out)|exact HB.out))))
                 (case aL => have:=LMc81.out;omega)
                 intro v202 w99 ho hb hg hat
                 rw [← Ny201.out] at ho
                 have n0_:=qk (blk_grown (g:=gb125) (o:=.cells #[.int .i64 a0_0,.int .i64 a0_1,.slice A0_2 l0_2.length c0_2,.slice (some ad196) l0_3.length c0_3] 32 (0,0)) (by (with_reducible repeat (first|apply qa|apply qb|apply qc));exact BK125.out) hg (Kd.R_ne HO_3.out BK125.out (by decide)))
                 have n1_:=qk (blk_grown (g:=gb197) (o:=.cells #[.int .i64 ((rd_T62 l0_3 x7_2).f0),.int .i64 ((rd_T62 l0_3 x7_2).f1),.int .i64 ((rd_T62 l0_3 x7_2).f2.f0),.int .i64 ((rd_T62 l0_3 x7_2).f2.f1),.int .i64 ((rd_T62 l0_3 x7_2).f2.f2),.int .i64 ((rd_T62 l0_3 x7_2).f2.f3)] 62 (0,0)) (by (with_reducible repeat (first|apply qa|apply qb|apply qc));exact BK197.out) hg (Kd.R_ne HO_3.out BK197.out (by decide)))
                 have n2_:=qk (Kd.R_after (ok:=(fun _ => True)) (by (with_reducible repeat (first|apply qd|apply qe|apply qf));exact HO200.out) hg hat)
                 have n3_:=qk (hb)
                 have n4_:=qk (ho)
                 clear BK125
                 clear BK197
                 clear HO200
                 clear HB
                 clear HO_3
                 have BK125:=n0_
                 have BK197:=n1_
                 have HO200:=n2_
                 have HB:=n3_
                 have HO203:=n4_
                 clear n0_ n1_ n2_ n3_ n4_
                 clear ho hb hg hat
                 refine hK.out _ _ ⟨(blk_cell BK197.out 0).trans rfl,(blk_cell BK197.out 1).trans rfl,(blk_cell BK197.out 2).trans rfl,(blk_cell BK197.out 3).trans rfl,(blk_cell BK197.out 4).trans rfl,(blk_cell BK197.out 5).trans rfl⟩ (fun hHeld => ?_)
                 clear hK K
                 refine norm_ (a':=?_) ?_ ?_
                 rotate_left
                 ·
                  show Act.put _ (some 115) _ = _
                  simp only [Act.put,sA,sB,sC,i64_w,i32_w]
                  rfl
                 refine one_ (i:=8) (N:=some 118) #[true,true,true,true,true,true,true,true,true,false,false] rfl rfl (one_of HT_.out (by kernel_rfl)) (by decide) (fun K hK => ?_)
                 refine goes_ Tryd.func27 (by kernel_rfl) rfl #[.int .i64 ((rd_T62 l0_3 x7_2).f1),.int .i64 2] (by rfl) rfl rfl (by (try simp only [sE,sH,sI]);first|done|rfl|(simp only [sG,sF];rfl)) ?_
                 with_reducible refine (spec_l02Number.calls k2 ((rd_T62 l0_3 x7_2).f1) 2 t204 _ A82.out).mono ?_
                 rintro e w101 ⟨v205,rfl,ho0,hb⟩
                 refine ⟨_,rfl,?_⟩
                 have n0_:=qk (Kd.R_elder' (by (with_reducible repeat (first|apply qd|apply qe|apply qf));exact HO200.out) (Kd.R_base ho0) hb)
                 have n1_:=qk (Kd.R_elder' (by (with_reducible repeat (first|apply qd|apply qe|apply qf));exact HO203.out) (Kd.R_base ho0) hb)
                 have n2_:=qk (Kd.R_lower (Kd.R_new' (Kd.R_new' ho0 (Kd.R_lt (by (with_reducible repeat (first|apply qd|apply qe|apply qf));exact HO200.out))) (Kd.R_lt (by (with_reducible repeat (first|apply qd|apply qe|apply qf));exact HO203.out))) (qm (by repeat (first|(with_reducible first|exact HB.out|apply qg|apply qh|apply qi|refine qj ?_ GE125.out|refine qj ?_ GE197.out)|exact HB.out))))
                 have n3_:=qk (ql (g:=gb125) (o:=.cells #[.int .i64 a0_0,.int .i64 a0_1,.slice A0_2 l0_2.length c0_2,.slice (some ad196) l0_3.length c0_3] 32 (0,0)) (by (with_reducible repeat (first|apply qa|apply qb|apply qc));exact BK125.out) hb)
                 have n4_:=qk (ql (g:=gb197) (o:=.cells #[.int .i64 ((rd_T62 l0_3 x7_2).f0),.int .i64 ((rd_T62 l0_3 x7_2).f1),.int .i64 ((rd_T62 l0_3 x7_2).f2.f0),.int .i64 ((rd_T62 l0_3 x7_2).f2.f1),.int .i64 ((rd_T62 l0_3 x7_2).f2.f2),.int .i64 ((rd_T62 l0_3 x7_2).f2.f3)] 62 (0,0)) (by (with_reducible repeat (first|apply qa|apply qb|apply qc));exact BK197.out) hb)
                 have n5_:=qk (sN (by repeat (first|(with_reducible first|exact HB.out|apply qg|apply qh|apply qi|refine qj ?_ GE125.out|refine qj ?_ GE197.out)|exact HB.out)) hb)
                 clear HO200
                 clear HO203
                 clear BK125
                 clear BK197
                 clear HB
                 have HO200:=n0_
                 have HO203:=n1_
                 have HO206:=n2_
                 have BK125:=n3_
                 have BK197:=n4_
                 have HB:=n5_
                 clear n0_ n1_ n2_ n3_ n4_ n5_
                 (try clear hb)
                 (try clear hb2)
                 (try clear hk)
                 (try clear hi)
                 (try clear ho0)
                 obtain ⟨Ao103,co103,eo103⟩:=Kd.R_slice HO206.out
                 (first|subst eo103|(injection eo103 with f1_ f2_ f3_;have f4_:=f1_.symm;have f5_:=f3_.symm;clear f1_ f2_ f3_;subst f4_;subst f5_))
                 refine hK.out _ _ ⟨(blk_cell BK197.out 0).trans rfl,(blk_cell BK197.out 1).trans rfl,(blk_cell BK197.out 2).trans rfl,(blk_cell BK197.out 3).trans rfl,(blk_cell BK197.out 4).trans rfl,(blk_cell BK197.out 5).trans rfl⟩ (fun hHeld => ?_)
                 clear hK K
                 refine norm_ (a':=?_) ?_ ?_
                 rotate_left
                 ·
                  show Act.put _ (some 118) _ = _
                  simp only [Act.put,sA,sB,sC,i64_w,i32_w]
                  rfl
                 refine one_ (i:=9) (N:=some 119) #[true,true,true,true,true,true,true,true,true,true,false] rfl rfl (one_of HT_.out (by kernel_rfl)) (by decide) (fun K hK => ?_)
                 refine Kd.R_append_rows_step (Kd.int .u8) (w0:=w) w.heap.size (by rfl) (.tmp 115) (.tmp 118) 40 5 (.int .u8 0) 1 rfl Tryd.underlying40 info5 rfl (by decide) (by omega) v202 y201 t204 _ _ _ (fun k_ => some k_ ≠ (.slice Ao100 y198.length co100 : Value).ownBlock ∧ some k_ ≠ (.slice Ao103 t204.length co103 : Value).ownBlock) (fun _ => False) rfl rfl ?aO ?aR (fun _ _ h => h) (fun _ h => h.elim) ?aF ?aB ?aS ?aL ?_
                 (case aR => repeat (first|exact (Kd.R_reads' HO206.out).2.2|(with_reducible refine Kd.C_alloc ?_ _)|(with_reducible refine Kd.C_drewN ?_ _)|(with_reducible refine Kd.C_drew ?_)))
                 (case aB => exact (by repeat (first|(with_reducible first|exact HB.out|apply qg|apply qh|apply qi|refine qj ?_ GE125.out|refine qj ?_ GE197.out)|exact HB.out)))
                 (case aF => exact (fun k_ hk => ⟨Kd.fresh' (Kd.R_lt (by (with_reducible repeat (first|apply qd|apply qe|apply qf));exact HO200.out)) k_ hk,Kd.fresh' (Kd.R_lt (by (with_reducible repeat (first|apply qd|apply qe|apply qf));exact HO206.out)) k_ hk⟩))
                 (case aO => exact (by (with_reducible repeat (first|apply qd|apply qe|apply qf));exact HO203.out))
                 (case aS => exact (qm (by repeat (first|(with_reducible first|exact HB.out|apply qg|apply qh|apply qi|refine qj ?_ GE125.out|refine qj ?_ GE197.out)|exact HB.out))))
                 (case aL => have:=LMc83.out;omega)
                 intro v208 w102 ho hb hg hat
                 rw [← Ny207.out] at ho
                 have n0_:=qk (blk_grown (g:=gb125) (o:=.cells #[.int .i64 a0_0,.int .i64 a0_1,.slice A0_2 l0_2.length c0_2,.slice (some ad196) l0_3.length c0_3] 32 (0,0)) (by (with_reducible repeat (first|apply qa|apply qb|apply qc));exact BK125.out) hg (Kd.R_ne HO203.out BK125.out (by decide)))
                 have n1_:=qk (blk_grown (g:=gb197) (o:=.cells #[.int .i64 ((rd_T62 l0_3 x7_2).f0),.int .i64 ((rd_T62 l0_3 x7_2).f1),.int .i64 ((rd_T62 l0_3 x7_2).f2.f0),.int .i64 ((rd_T62 l0_3 x7_2).f2.f1),.int .i64 ((rd_T62 l0_3 x7_2).f2.f2),.int .i64 ((rd_T62 l0_3 x7_2).f2.f3)] 62 (0,0)) (by (with_reducible repeat (first|apply qa|apply qb|apply qc));exact BK197.out) hg (Kd.R_ne HO203.out BK197.out (by decide)))
                 have n2_:=qk (Kd.R_after (ok:=(fun k_ => some k_ ≠ (.slice Ao103 t204.length co103 : Value).ownBlock)) (by (with_reducible repeat (first|apply qd|apply qe|apply qf));exact qn HO200.out (fun _ hk => ⟨hk.2,hk.1.2⟩)) hg hat)
                 have n3_:=qk (Kd.R_after (ok:=(fun k_ => some k_ ≠ (.slice Ao100 y198.length co100 : Value).ownBlock)) (by (with_reducible repeat (first|apply qd|apply qe|apply qf));exact qn HO206.out (fun _ hk => ⟨hk.1.2,hk.2⟩)) hg hat)
                 have n4_:=qk (hb)
                 have n5_:=qk (ho)
                 clear BK125
                 clear BK197
                 clear HO200
                 clear HO206
                 clear HB
                 clear HO203
                 have BK125:=n0_
                 have BK197:=n1_
                 have HO200:=n2_
                 have HO206:=n3_
                 have HB:=n4_
                 have HO209:=n5_
                 clear n0_ n1_ n2_ n3_ n4_ n5_
                 clear ho hb hg hat
                 refine hK.out _ _ ⟨(blk_cell BK197.out 0).trans rfl,(blk_cell BK197.out 1).trans rfl,(blk_cell BK197.out 2).trans rfl,(blk_cell BK197.out 3).trans rfl,(blk_cell BK197.out 4).trans rfl,(blk_cell BK197.out 5).trans rfl⟩ (fun hHeld => ?_)
                 clear hK K
                 refine norm_ (a':=?_) ?_ ?_
                 rotate_left
                 ·
                  show Act.put _ (some 119) _ = _
                  simp only [Act.put,sA,sB,sC,i64_w,i32_w]
                  rfl
                 refine pure_ (i:=10) (N:=some 3) (v:=?_) (a':=?_) #[true,true,true,true,true,true,true,true,true,true,true] rfl rfl (any_of HT_.out (by kernel_rfl)) (fun _ _ _ h => h) (Or.inl ⟨by rfl,?_⟩) ?_ ?_
                 rotate_left
                 ·
                  intro w'
                  go_simp
                  with_reducible rfl
                 rotate_left
                 ·
                  simp only [Act.put,sA,sB,sC,i64_w,i32_w]
                  rfl
                 refine done_ (done_of HT_.out (by kernel_rfl)) ?_
                 try go_wp2
                 have n0_:=qk (qf HO200.out)
                 have n1_:=qk (qf HO206.out)
                 have n2_:=qk (qf HO209.out)
                 have n3_:=qk (qb BK125.out)
                 have n4_:=qk (qb BK197.out)
                 have n5_:=qk (qi HB.out)
                 clear HO200
                 clear HO206
                 clear HO209
                 clear BK125
                 clear BK197
                 clear HB
                 have HO200:=n0_
                 have HO206:=n1_
                 have HO209:=n2_
                 have BK125:=n3_
                 have BK197:=n4_
                 have HB:=n5_
                 clear n0_ n1_ n2_ n3_ n4_ n5_
                 refine start_ (n:=13) (S:=fun w' => w'.cell? ⟨gb197,0,none⟩ = some (.int .i64 ((rd_T62 l0_3 x7_2).f0)) ∧ w'.cell? ⟨gb197,1,none⟩ = some (.int .i64 ((rd_T62 l0_3 x7_2).f1)) ∧ w'.cell? ⟨gb197,2,none⟩ = some (.int .i64 ((rd_T62 l0_3 x7_2).f2.f0)) ∧ w'.cell? ⟨gb197,3,none⟩ = some (.int .i64 ((rd_T62 l0_3 x7_2).f2.f1)) ∧ w'.cell? ⟨gb197,4,none⟩ = some (.int .i64 ((rd_T62 l0_3 x7_2).f2.f2)) ∧ w'.cell? ⟨gb197,5,none⟩ = some (.int .i64 ((rd_T62 l0_3 x7_2).f2.f3))) (ds:=[]) #[false,false,false,false,false,false,false,false,false,false,false,false,false] (by kernel_rfl) rfl rfl ⟨(blk_cell BK197.out 0).trans rfl,(blk_cell BK197.out 1).trans rfl,(blk_cell BK197.out 2).trans rfl,(blk_cell BK197.out 3).trans rfl,(blk_cell BK197.out 4).trans rfl,(blk_cell BK197.out 5).trans rfl⟩ (fun hHeld => ?_);refine with_tabW spec_l05Bytes.tab20 spec_l05Bytes.bits20 (fun HT_ HW_ => ?_)
                 generalize w102.drew = w104 at HO200 HO206 HO209 BK125 BK197 HB hHeld ⊢
                 refine pure_ (i:=0) (N:=some 120) (v:=?_) (a':=?_) #[true,false,false,false,false,false,false,false,false,false,false,false,false] rfl rfl (any_of HT_.out (by kernel_rfl)) (fun _ _ _ h => h) (Or.inl ⟨by rfl,?_⟩) ?_ ?_
                 rotate_left
                 ·
                  intro w'
                  go_simp
                  with_reducible rfl
                 rotate_left
                 ·
                  simp only [Act.put,sA,sB,sC,i64_w,i32_w]
                  rfl
                 refine pure_ (i:=1) (N:=some 121) (v:=?_) (a':=?_) #[true,true,false,false,false,false,false,false,false,false,false,false,false] rfl rfl (any_of HT_.out (by kernel_rfl)) (fun _ _ _ h => h) (Or.inl ⟨by rfl,?_⟩) ?_ ?_
                 rotate_left
                 ·
                  intro w'
                  go_simp
                  with_reducible rfl
                 rotate_left
                 ·
                  simp only [Act.put,sA,sB,sC,i64_w,i32_w]
                  rfl
                 refine pure_ (i:=2) (N:=some 122) (v:=?_) (a':=?_) #[true,true,true,false,false,false,false,false,false,false,false,false,false] rfl rfl (any_of HT_.out (by kernel_rfl)) (fun _ _ _ h => h) (Or.inl ⟨by rfl,?_⟩) ?_ ?_
                 rotate_left
                 ·
                  intro w'
                  go_simp
                  with_reducible rfl
                 rotate_left
                 ·
                  simp only [Act.put,sA,sB,sC,i64_w,i32_w]
                  rfl
                 refine pure_ (i:=7) (N:=some 127) (v:=?_) (a':=?_) #[true,true,true,false,false,false,false,true,false,false,false,false,false] rfl rfl (any_of HT_.out (by kernel_rfl)) (fun _ _ _ h => h) (Or.inl ⟨by rfl,?_⟩) ?_ ?_
                 rotate_left
                 ·
                  intro w'
                  go_simp
                  with_reducible rfl
                 rotate_left
                 ·
                  simp only [Act.put,sA,sB,sC,i64_w,i32_w]
                  rfl
                 refine pure_ (i:=8) (N:=some 128) (v:=?_) (a':=?_) #[true,true,true,false,false,false,false,true,true,false,false,false,false] rfl rfl (any_of HT_.out (by kernel_rfl)) (fun _ _ _ h => h) (Or.inl ⟨by rfl,?_⟩) ?_ ?_
                 rotate_left
                 ·
                  intro w'
                  go_simp
                  with_reducible rfl
                 rotate_left
                 ·
                  simp only [Act.put,sA,sB,sC,i64_w,i32_w]
                  rfl
                 refine take_ (i:=3) (N:=some 123) (v:=?_) (a':=?_) #[true,true,true,true,false,false,false,true,true,false,false,false,false] rfl rfl (take_ofW HT_.out HW_.out (by kernel_rfl)) (fun _ _ _ h => h) (Or.inl ⟨by rfl,?_⟩) hHeld ?_ ?_
                 rotate_left
                 ·
                  rintro w' ⟨s0,s1,s2,s3,s4,s5⟩
                  go_simp
                  with_reducible rfl
                 rotate_left
                 ·
                  simp only [Act.put,sA,sB,sC,i64_w,i32_w]
                  rfl
                 refine pure_ (i:=4) (N:=some 124) (v:=?_) (a':=?_) #[true,true,true,true,true,false,false,true,true,false,false,false,false] rfl rfl (any_of HT_.out (by kernel_rfl)) (fun _ _ _ h => h) (Or.inl ⟨by rfl,?_⟩) ?_ ?_
                 rotate_left
                 ·
                  intro w'
                  go_simp
                  with_reducible rfl
                 rotate_left
                 ·
                  simp only [Act.put,sA,sB,sC,i64_w,i32_w]
                  rfl
                 refine take_ (i:=9) (N:=some 129) (v:=?_) (a':=?_) #[true,true,true,true,true,false,false,true,true,true,false,false,false] rfl rfl (take_ofW HT_.out HW_.out (by kernel_rfl)) (fun _ _ _ h => h) (Or.inl ⟨by rfl,?_⟩) hHeld ?_ ?_
                 rotate_left
                 ·
                  rintro w' ⟨s0,s1,s2,s3,s4,s5⟩
                  go_simp
                  with_reducible rfl
                 rotate_left
                 ·
                  simp only [Act.put,sA,sB,sC,i64_w,i32_w]
                  rfl
                 refine one_ (i:=5) (N:=some 125) #[true,true,true,true,true,true,false,true,true,true,false,false,false] rfl rfl (one_of HT_.out (by kernel_rfl)) (by decide) (fun K hK => ?_)
                 refine Kd.R_lit_step (Kd.int .u8) _ 5 ?hg (N:=125) ?hd (xs:=([((rd_T62 l0_3 x7_2).f2.f0) % 256] : List Int)) (inner:=[.int .u8 (((rd_T62 l0_3 x7_2).f2.f0) % 256)]) (ok:=fun _ => True) (okp:=fun _ => True) ?hr ?hp (fun _ hk => hk) trivial (Below.refl _ _) (Nat.le_refl _) (by simp) ?_;(case hd => rfl);(case hg => rfl);(case hr => first|(go_simp;done)|(go_simp;rfl));(case hp => exact (Reps.one (show Kd.M (Kd.int .u8) _ _ _ (((rd_T62 l0_3 x7_2).f2.f0) % 256) [.int .u8 (((rd_T62 l0_3 x7_2).f2.f0) % 256)] from rfl) (Reps.none _ _)))
                 intro v211 w105 ho106 hb hg_ hnew_
                 clear hg_ hnew_
                 (first|rw [← Ny210.out] at ho106|(simp only [Int.reduceToNat] at ho106;rw [← Ny210.out] at ho106))
                 have n0_:=qk (Kd.R_elder' (by (with_reducible repeat (first|apply qd|apply qe|apply qf));exact HO200.out) (Kd.R_base ho106) hb)
                 have n1_:=qk (Kd.R_elder' (by (with_reducible repeat (first|apply qd|apply qe|apply qf));exact HO206.out) (Kd.R_base ho106) hb)
                 have n2_:=qk (Kd.R_elder' (by (with_reducible repeat (first|apply qd|apply qe|apply qf));exact HO209.out) (Kd.R_base ho106) hb)
                 have n3_:=qk (Kd.R_lower (Kd.R_new' (Kd.R_new' (Kd.R_new' ho106 (Kd.R_lt (by (with_reducible repeat (first|apply qd|apply qe|apply qf));exact HO200.out))) (Kd.R_lt (by (with_reducible repeat (first|apply qd|apply qe|apply qf));exact HO206.out))) (Kd.R_lt (by (with_reducible repeat (first|apply qd|apply qe|apply qf));exact HO209.out))) (qm (by repeat (first|(with_reducible first|exact HB.out|apply qg|apply qh|apply qi|refine qj ?_ GE125.out|refine qj ?_ GE197.out)|exact HB.out))))
                 have n4_:=qk (ql (g:=gb125) (o:=.cells #[.int .i64 a0_0,.int .i64 a0_1,.slice A0_2 l0_2.length c0_2,.slice (some ad196) l0_3.length c0_3] 32 (0,0)) (by (with_reducible repeat (first|apply qa|apply qb|apply qc));exact BK125.out) hb)
                 have n5_:=qk (ql (g:=gb197) (o:=.cells #[.int .i64 ((rd_T62 l0_3 x7_2).f0),.int .i64 ((rd_T62 l0_3 x7_2).f1),.int .i64 ((rd_T62 l0_3 x7_2).f2.f0),.int .i64 ((rd_T62 l0_3 x7_2).f2.f1),.int .i64 ((rd_T62 l0_3 x7_2).f2.f2),.int .i64 ((rd_T62 l0_3 x7_2).f2.f3)] 62 (0,0)) (by (with_reducible repeat (first|apply qa|apply qb|apply qc));exact BK197.out) hb)
                 have n6_:=qk (sN (by repeat (first|(with_reducible first|exact HB.out|apply qg|apply qh|apply qi|refine qj ?_ GE125.out|refine qj ?_ GE197.out)|exact HB.out)) hb)
                 clear HO200
                 clear HO206
                 clear HO209
                 clear BK125
                 clear BK197
                 clear HB
                 have HO200:=n0_
                 have HO206:=n1_
                 have HO209:=n2_
                 have HO212:=n3_
                 have BK125:=n4_
                 have BK197:=n5_
                 have HB:=n6_
                 clear n0_ n1_ n2_ n3_ n4_ n5_ n6_
                 clear hb ho106
                 obtain ⟨Ao108,co108,eo108⟩:=Kd.R_slice HO212.out
                 (first|subst eo108|(injection eo108 with f1_ f2_ f3_;have f4_:=f1_.symm;have f5_:=f3_.symm;clear f1_ f2_ f3_;subst f4_;subst f5_))
                 refine hK.out _ _ ⟨(blk_cell BK197.out 0).trans rfl,(blk_cell BK197.out 1).trans rfl,(blk_cell BK197.out 2).trans rfl,(blk_cell BK197.out 3).trans rfl,(blk_cell BK197.out 4).trans rfl,(blk_cell BK197.out 5).trans rfl⟩ (fun hHeld => ?_)
                 clear hK K
                 refine norm_ (a':=?_) ?_ ?_
                 rotate_left
                 ·
                  show Act.put _ (some 125) _ = _
                  simp only [Act.put,sA,sB,sC,i64_w,i32_w]
                  rfl
                 refine one_ (i:=6) (N:=some 126) #[true,true,true,true,true,true,true,true,true,true,false,false,false] rfl rfl (one_of HT_.out (by kernel_rfl)) (by decide) (fun K hK => ?_)
                 refine Kd.R_append_rows_step (Kd.int .u8) (w0:=w) w.heap.size (by rfl) (.tmp 120) (.tmp 125) 40 5 (.int .u8 0) 1 rfl Tryd.underlying40 info5 rfl (by decide) (by omega) v208 y207 y210 _ _ _ (fun k_ => some k_ ≠ (.slice Ao100 y198.length co100 : Value).ownBlock ∧ some k_ ≠ (.slice Ao103 t204.length co103 : Value).ownBlock ∧ some k_ ≠ (.slice Ao108 y210.length co108 : Value).ownBlock) (fun _ => False) rfl rfl ?aO ?aR (fun _ _ h => h) (fun _ h => h.elim) ?aF ?aB ?aS ?aL ?_
                 (case aR => repeat (first|exact (Kd.R_reads' HO212.out).2.2|(with_reducible refine Kd.C_alloc ?_ _)|(with_reducible refine Kd.C_drewN ?_ _)|(with_reducible refine Kd.C_drew ?_)))
                 (case aB => exact (by repeat (first|(with_reducible first|exact HB.out|apply qg|apply qh|apply qi|refine qj ?_ GE125.out|refine qj ?_ GE197.out)|exact HB.out)))
                 (case aF => exact (fun k_ hk => ⟨Kd.fresh' (Kd.R_lt (by (with_reducible repeat (first|apply qd|apply qe|apply qf));exact HO200.out)) k_ hk,Kd.fresh' (Kd.R_lt (by (with_reducible repeat (first|apply qd|apply qe|apply qf));exact HO206.out)) k_ hk,Kd.fresh' (Kd.R_lt (by (with_reducible repeat (first|apply qd|apply qe|apply qf));exact HO212.out)) k_ hk⟩))
                 (case aO => exact (by (with_reducible repeat (first|apply qd|apply qe|apply qf));exact qn HO209.out (fun _ hk => ⟨hk.1.1,⟨hk.1.2,hk.2⟩⟩)))
                 (case aS => exact (qm (by repeat (first|(with_reducible first|exact HB.out|apply qg|apply qh|apply qi|refine qj ?_ GE125.out|refine qj ?_ GE197.out)|exact HB.out))))
                 (case aL => have:=LMc84.out;omega)
                 intro v214 w107 ho hb hg hat
                 rw [← Ny213.out] at ho
                 have n0_:=qk (blk_grown (g:=gb125) (o:=.cells #[.int .i64 a0_0,.int .i64 a0_1,.slice A0_2 l0_2.length c0_2,.slice (some ad196) l0_3.length c0_3] 32 (0,0)) (by (with_reducible repeat (first|apply qa|apply qb|apply qc));exact BK125.out) hg (Kd.R_ne HO209.out BK125.out (by decide)))
                 have n1_:=qk (blk_grown (g:=gb197) (o:=.cells #[.int .i64 ((rd_T62 l0_3 x7_2).f0),.int .i64 ((rd_T62 l0_3 x7_2).f1),.int .i64 ((rd_T62 l0_3 x7_2).f2.f0),.int .i64 ((rd_T62 l0_3 x7_2).f2.f1),.int .i64 ((rd_T62 l0_3 x7_2).f2.f2),.int .i64 ((rd_T62 l0_3 x7_2).f2.f3)] 62 (0,0)) (by (with_reducible repeat (first|apply qa|apply qb|apply qc));exact BK197.out) hg (Kd.R_ne HO209.out BK197.out (by decide)))
                 have n2_:=qk (Kd.R_after (ok:=(fun k_ => some k_ ≠ (.slice Ao103 t204.length co103 : Value).ownBlock ∧ some k_ ≠ (.slice Ao108 y210.length co108 : Value).ownBlock)) (by (with_reducible repeat (first|apply qd|apply qe|apply qf));exact qn HO200.out (fun _ hk => ⟨⟨hk.1.1,hk.2⟩,hk.1.2⟩)) hg hat)
                 have n3_:=qk (Kd.R_after (ok:=(fun k_ => some k_ ≠ (.slice Ao100 y198.length co100 : Value).ownBlock ∧ some k_ ≠ (.slice Ao108 y210.length co108 : Value).ownBlock)) (by (with_reducible repeat (first|apply qd|apply qe|apply qf));exact qn HO206.out (fun _ hk => ⟨⟨hk.1.1,hk.2⟩,hk.1.2⟩)) hg hat)
                 have n4_:=qk (Kd.R_after (ok:=(fun k_ => some k_ ≠ (.slice Ao100 y198.length co100 : Value).ownBlock ∧ some k_ ≠ (.slice Ao103 t204.length co103 : Value).ownBlock)) (by (with_reducible repeat (first|apply qd|apply qe|apply qf));exact qn HO212.out (fun _ hk => ⟨⟨hk.1.1.2,hk.1.2⟩,hk.2⟩)) hg hat)
                 have n5_:=qk (hb)
                 have n6_:=qk (ho)
                 clear BK125
                 clear BK197
                 clear HO200
                 clear HO206
                 clear HO212
                 clear HB
                 clear HO209
                 have BK125:=n0_
                 have BK197:=n1_
                 have HO200:=n2_
                 have HO206:=n3_
                 have HO212:=n4_
                 have HB:=n5_
                 have HO215:=n6_
                 clear n0_ n1_ n2_ n3_ n4_ n5_ n6_
                 clear ho hb hg hat
                 refine hK.out _ _ ⟨(blk_cell BK197.out 0).trans rfl,(blk_cell BK197.out 1).trans rfl,(blk_cell BK197.out 2).trans rfl,(blk_cell BK197.out 3).trans rfl,(blk_cell BK197.out 4).trans rfl,(blk_cell BK197.out 5).trans rfl⟩ (fun hHeld => ?_)
                 clear hK K
                 refine norm_ (a':=?_) ?_ ?_
                 rotate_left
                 ·
                  show Act.put _ (some 126) _ = _
                  simp only [Act.put,sA,sB,sC,i64_w,i32_w]
                  rfl
                 refine one_ (i:=10) (N:=some 130) #[true,true,true,true,true,true,true,true,true,true,true,false,false] rfl rfl (one_of HT_.out (by kernel_rfl)) (by decide) (fun K hK => ?_)
                 refine goes_ Tryd.func27 (by kernel_rfl) rfl #[.int .i64 ((rd_T62 l0_3 x7_2).f2.f1),.int .i64 3] (by rfl) rfl rfl (by (try simp only [sE,sH,sI]);first|done|rfl|(simp only [sG,sF];rfl)) ?_
                 with_reducible refine (spec_l02Number.calls k2 ((rd_T62 l0_3 x7_2).f2.f1) 3 t216 _ A85.out).mono ?_
                 rintro e w109 ⟨v217,rfl,ho0,hb⟩
                 refine ⟨_,rfl,?_⟩
                 have n0_:=qk (Kd.R_elder' (by (with_reducible repeat (first|apply qd|apply qe|apply qf));exact HO200.out) (Kd.R_base ho0) hb)
                 have n1_:=qk (Kd.R_elder' (by (with_reducible repeat (first|apply qd|apply qe|apply qf));exact HO206.out) (Kd.R_base ho0) hb)
                 have n2_:=qk (Kd.R_elder' (by (with_reducible repeat (first|apply qd|apply qe|apply qf));exact HO212.out) (Kd.R_base ho0) hb)
                 have n3_:=qk (Kd.R_elder' (by (with_reducible repeat (first|apply qd|apply qe|apply qf));exact HO215.out) (Kd.R_base ho0) hb)
                 have n4_:=qk (Kd.R_lower (Kd.R_new' (Kd.R_new' (Kd.R_new' (Kd.R_new' ho0 (Kd.R_lt (by (with_reducible repeat (first|apply qd|apply qe|apply qf));exact HO200.out))) (Kd.R_lt (by (with_reducible repeat (first|apply qd|apply qe|apply qf));exact HO206.out))) (Kd.R_lt (by (with_reducible repeat (first|apply qd|apply qe|apply qf));exact HO212.out))) (Kd.R_lt (by (with_reducible repeat (first|apply qd|apply qe|apply qf));exact HO215.out))) (qm (by repeat (first|(with_reducible first|exact HB.out|apply qg|apply qh|apply qi|refine qj ?_ GE125.out|refine qj ?_ GE197.out)|exact HB.out))))
                 have n5_:=qk (ql (g:=gb125) (o:=.cells #[.int .i64 a0_0,.int .i64 a0_1,.slice A0_2 l0_2.length c0_2,.slice (some ad196) l0_3.length c0_3] 32 (0,0)) (by (with_reducible repeat (first|apply qa|apply qb|apply qc));exact BK125.out) hb)
                 have n6_:=qk (ql (g:=gb197) (o:=.cells #[.int .i64 ((rd_T62 l0_3 x7_2).f0),.int .i64 ((rd_T62 l0_3 x7_2).f1),.int .i64 ((rd_T62 l0_3 x7_2).f2.f0),.int .i64 ((rd_T62 l0_3 x7_2).f2.f1),.int .i64 ((rd_T62 l0_3 x7_2).f2.f2),.int .i64 ((rd_T62 l0_3 x7_2).f2.f3)] 62 (0,0)) (by (with_reducible repeat (first|apply qa|apply qb|apply qc));exact BK197.out) hb)
                 have n7_:=qk (sN (by repeat (first|(with_reducible first|exact HB.out|apply qg|apply qh|apply qi|refine qj ?_ GE125.out|refine qj ?_ GE197.out)|exact HB.out)) hb)
                 clear HO200
                 clear HO206
                 clear HO212
                 clear HO215
                 clear BK125
                 clear BK197
                 clear HB
                 have HO200:=n0_
                 have HO206:=n1_
                 have HO212:=n2_
                 have HO215:=n3_
                 have HO218:=n4_
                 have BK125:=n5_
                 have BK197:=n6_
                 have HB:=n7_
                 clear n0_ n1_ n2_ n3_ n4_ n5_ n6_ n7_
                 (try clear hb)
                 (try clear hb2)
                 (try clear hk)
                 (try clear hi)
                 (try clear ho0)
                 obtain ⟨Ao111,co111,eo111⟩:=Kd.R_slice HO218.out
                 (first|subst eo111|(injection eo111 with f1_ f2_ f3_;have f4_:=f1_.symm;have f5_:=f3_.symm;clear f1_ f2_ f3_;subst f4_;subst f5_))
                 refine hK.out _ _ ⟨(blk_cell BK197.out 0).trans rfl,(blk_cell BK197.out 1).trans rfl,(blk_cell BK197.out 2).trans rfl,(blk_cell BK197.out 3).trans rfl,(blk_cell BK197.out 4).trans rfl,(blk_cell BK197.out 5).trans rfl⟩ (fun hHeld => ?_)
                 clear hK K
                 refine norm_ (a':=?_) ?_ ?_
                 rotate_left
                 ·
                  show Act.put _ (some 130) _ = _
                  simp only [Act.put,sA,sB,sC,i64_w,i32_w]
                  rfl
                 refine one_ (i:=11) (N:=some 131) #[true,true,true,true,true,true,true,true,true,true,true,true,false] rfl rfl (one_of HT_.out (by kernel_rfl)) (by decide) (fun K hK => ?_)
                 refine Kd.R_append_rows_step (Kd.int .u8) (w0:=w) w.heap.size (by rfl) (.tmp 126) (.tmp 130) 40 5 (.int .u8 0) 1 rfl Tryd.underlying40 info5 rfl (by decide) (by omega) v214 y213 t216 _ _ _ (fun k_ => some k_ ≠ (.slice Ao100 y198.length co100 : Value).ownBlock ∧ some k_ ≠ (.slice Ao103 t204.length co103 : Value).ownBlock ∧ some k_ ≠ (.slice Ao108 y210.length co108 : Value).ownBlock ∧ some k_ ≠ (.slice Ao111 t216.length co111 : Value).ownBlock) (fun _ => False) rfl rfl ?aO ?aR (fun _ _ h => h) (fun _ h => h.elim) ?aF ?aB ?aS ?aL ?_
                 (case aR => repeat (first|exact (Kd.R_reads' HO218.out).2.2|(with_reducible refine Kd.C_alloc ?_ _)|(with_reducible refine Kd.C_drewN ?_ _)|(with_reducible refine Kd.C_drew ?_)))
                 (case aB => exact (by repeat (first|(with_reducible first|exact HB.out|apply qg|apply qh|apply qi|refine qj ?_ GE125.out|refine qj ?_ GE197.out)|exact HB.out)))
                 (case aF => exact (fun k_ hk => ⟨Kd.fresh' (Kd.R_lt (by (with_reducible repeat (first|apply qd|apply qe|apply qf));exact HO200.out)) k_ hk,Kd.fresh' (Kd.R_lt (by (with_reducible repeat (first|apply qd|apply qe|apply qf));exact HO206.out)) k_ hk,Kd.fresh' (Kd.R_lt (by (with_reducible repeat (first|apply qd|apply qe|apply qf));exact HO212.out)) k_ hk,Kd.fresh' (Kd.R_lt (by (with_reducible repeat (first|apply qd|apply qe|apply qf));exact HO218.out)) k_ hk⟩))
                 (case aO => exact (by (with_reducible repeat (first|apply qd|apply qe|apply qf));exact qn HO215.out (fun _ hk => ⟨hk.1.1,⟨hk.1.2.1,⟨hk.1.2.2,hk.2⟩⟩⟩)))
                 (case aS => exact (qm (by repeat (first|(with_reducible first|exact HB.out|apply qg|apply qh|apply qi|refine qj ?_ GE125.out|refine qj ?_ GE197.out)|exact HB.out))))
                 (case aL => have:=LMc86.out;omega)
                 intro v220 w110 ho hb hg hat
                 rw [← Ny219.out] at ho
                 have n0_:=qk (blk_grown (g:=gb125) (o:=.cells #[.int .i64 a0_0,.int .i64 a0_1,.slice A0_2 l0_2.length c0_2,.slice (some ad196) l0_3.length c0_3] 32 (0,0)) (by (with_reducible repeat (first|apply qa|apply qb|apply qc));exact BK125.out) hg (Kd.R_ne HO215.out BK125.out (by decide)))
                 have n1_:=qk (blk_grown (g:=gb197) (o:=.cells #[.int .i64 ((rd_T62 l0_3 x7_2).f0),.int .i64 ((rd_T62 l0_3 x7_2).f1),.int .i64 ((rd_T62 l0_3 x7_2).f2.f0),.int .i64 ((rd_T62 l0_3 x7_2).f2.f1),.int .i64 ((rd_T62 l0_3 x7_2).f2.f2),.int .i64 ((rd_T62 l0_3 x7_2).f2.f3)] 62 (0,0)) (by (with_reducible repeat (first|apply qa|apply qb|apply qc));exact BK197.out) hg (Kd.R_ne HO215.out BK197.out (by decide)))
                 have n2_:=qk (Kd.R_after (ok:=(fun k_ => some k_ ≠ (.slice Ao103 t204.length co103 : Value).ownBlock ∧ some k_ ≠ (.slice Ao108 y210.length co108 : Value).ownBlock ∧ some k_ ≠ (.slice Ao111 t216.length co111 : Value).ownBlock)) (by (with_reducible repeat (first|apply qd|apply qe|apply qf));exact qn HO200.out (fun _ hk => ⟨⟨hk.1.1.1,⟨hk.1.1.2,hk.2⟩⟩,hk.1.2⟩)) hg hat)
                 have n3_:=qk (Kd.R_after (ok:=(fun k_ => some k_ ≠ (.slice Ao100 y198.length co100 : Value).ownBlock ∧ some k_ ≠ (.slice Ao108 y210.length co108 : Value).ownBlock ∧ some k_ ≠ (.slice Ao111 t216.length co111 : Value).ownBlock)) (by (with_reducible repeat (first|apply qd|apply qe|apply qf));exact qn HO206.out (fun _ hk => ⟨⟨hk.1.1.1,⟨hk.1.1.2,hk.2⟩⟩,hk.1.2⟩)) hg hat)
                 have n4_:=qk (Kd.R_after (ok:=(fun k_ => some k_ ≠ (.slice Ao100 y198.length co100 : Value).ownBlock ∧ some k_ ≠ (.slice Ao103 t204.length co103 : Value).ownBlock ∧ some k_ ≠ (.slice Ao111 t216.length co111 : Value).ownBlock)) (by (with_reducible repeat (first|apply qd|apply qe|apply qf));exact qn HO212.out (fun _ hk => ⟨⟨hk.1.1.1,⟨hk.1.1.2,hk.2⟩⟩,hk.1.2⟩)) hg hat)
                 have n5_:=qk (Kd.R_after (ok:=(fun k_ => some k_ ≠ (.slice Ao100 y198.length co100 : Value).ownBlock ∧ some k_ ≠ (.slice Ao103 t204.length co103 : Value).ownBlock ∧ some k_ ≠ (.slice Ao108 y210.length co108 : Value).ownBlock)) (by (with_reducible repeat (first|apply qd|apply qe|apply qf));exact qn HO218.out (fun _ hk => ⟨⟨hk.1.1.1.2,⟨hk.1.1.2,hk.1.2⟩⟩,hk.2⟩)) hg hat)
                 have n6_:=qk (hb)
                 have n7_:=qk (ho)
                 clear BK125
                 clear BK197
                 clear HO200
                 clear HO206
                 clear HO212
                 clear HO218
                 clear HB
                 clear HO215
                 have BK125:=n0_
                 have BK197:=n1_
                 have HO200:=n2_
                 have HO206:=n3_
                 have HO212:=n4_
                 have HO218:=n5_
                 have HB:=n6_
                 have HO221:=n7_
                 clear n0_ n1_ n2_ n3_ n4_ n5_ n6_ n7_
                 clear ho hb hg hat
                 refine hK.out _ _ ⟨(blk_cell BK197.out 0).trans rfl,(blk_cell BK197.out 1).trans rfl,(blk_cell BK197.out 2).trans rfl,(blk_cell BK197.out 3).trans rfl,(blk_cell BK197.out 4).trans rfl,(blk_cell BK197.out 5).trans rfl⟩ (fun hHeld => ?_)
                 clear hK K
                 refine norm_ (a':=?_) ?_ ?_
                 rotate_left
                 ·
                  show Act.put _ (some 131) _ = _
                  simp only [Act.put,sA,sB,sC,i64_w,i32_w]
                  rfl
                 refine pure_ (i:=12) (N:=some 3) (v:=?_) (a':=?_) #[true,true,true,true,true,true,true,true,true,true,true,true,true] rfl rfl (any_of HT_.out (by kernel_rfl)) (fun _ _ _ h => h) (Or.inl ⟨by rfl,?_⟩) ?_ ?_
                 rotate_left
                 ·
                  intro w'
                  go_simp
                  with_reducible rfl
                 rotate_left
                 ·
                  simp only [Act.put,sA,sB,sC,i64_w,i32_w]
                  rfl
                 refine done_ (done_of HT_.out (by kernel_rfl)) ?_
                 try go_wp2
                 have n0_:=qk (qf HO200.out)
                 have n1_:=qk (qf HO206.out)
                 have n2_:=qk (qf HO212.out)
                 have n3_:=qk (qf HO218.out)
                 have n4_:=qk (qf HO221.out)
                 have n5_:=qk (qb BK125.out)
                 have n6_:=qk (qb BK197.out)
                 have n7_:=qk (qi HB.out)
                 clear HO200
                 clear HO206
                 clear HO212
                 clear HO218
                 clear HO221
                 clear BK125
                 clear BK197
                 clear HB
                 have HO200:=n0_
                 have HO206:=n1_
                 have HO212:=n2_
                 have HO218:=n3_
                 have HO221:=n4_
                 have BK125:=n5_
                 have BK197:=n6_
                 have HB:=n7_
                 clear n0_ n1_ n2_ n3_ n4_ n5_ n6_ n7_
                 refine start_ (n:=13) (S:=fun w' => w'.cell? ⟨gb197,0,none⟩ = some (.int .i64 ((rd_T62 l0_3 x7_2).f0)) ∧ w'.cell? ⟨gb197,1,none⟩ = some (.int .i64 ((rd_T62 l0_3 x7_2).f1)) ∧ w'.cell? ⟨gb197,2,none⟩ = some (.int .i64 ((rd_T62 l0_3 x7_2).f2.f0)) ∧ w'.cell? ⟨gb197,3,none⟩ = some (.int .i64 ((rd_T62 l0_3 x7_2).f2.f1)) ∧ w'.cell? ⟨gb197,4,none⟩ = some (.int .i64 ((rd_T62 l0_3 x7_2).f2.f2)) ∧ w'.cell? ⟨gb197,5,none⟩ = some (.int .i64 ((rd_T62 l0_3 x7_2).f2.f3))) (ds:=[]) #[false,false,false,false,false,false,false,false,false,false,false,false,false] (by kernel_rfl) rfl rfl ⟨(blk_cell BK197.out 0).trans rfl,(blk_cell BK197.out 1).trans rfl,(blk_cell BK197.out 2).trans rfl,(blk_cell BK197.out 3).trans rfl,(blk_cell BK197.out 4).trans rfl,(blk_cell BK197.out 5).trans rfl⟩ (fun hHeld => ?_);refine with_tabW spec_l05Bytes.tab21 spec_l05Bytes.bits21 (fun HT_ HW_ => ?_)
                 generalize w110.drew = w112 at HO200 HO206 HO212 HO218 HO221 BK125 BK197 HB hHeld ⊢
                 refine pure_ (i:=0) (N:=some 132) (v:=?_) (a':=?_) #[true,false,false,false,false,false,false,false,false,false,false,false,false] rfl rfl (any_of HT_.out (by kernel_rfl)) (fun _ _ _ h => h) (Or.inl ⟨by rfl,?_⟩) ?_ ?_
                 rotate_left
                 ·
                  intro w'
                  go_simp
                  with_reducible rfl
                 rotate_left
                 ·
                  simp only [Act.put,sA,sB,sC,i64_w,i32_w]
                  rfl
                 refine pure_ (i:=1) (N:=some 133) (v:=?_) (a':=?_) #[true,true,false,false,false,false,false,false,false,false,false,false,false] rfl rfl (any_of HT_.out (by kernel_rfl)) (fun _ _ _ h => h) (Or.inl ⟨by rfl,?_⟩) ?_ ?_
                 rotate_left
                 ·
                  intro w'
                  go_simp
                  with_reducible rfl
                 rotate_left
                 ·
                  simp only [Act.put,sA,sB,sC,i64_w,i32_w]
                  rfl
                 refine pure_ (i:=2) (N:=some 134) (v:=?_) (a':=?_) #[true,true,true,false,false,false,false,false,false,false,false,false,false] rfl rfl (any_of HT_.out (by kernel_rfl)) (fun _ _ _ h => h) (Or.inl ⟨by rfl,?_⟩) ?_ ?_
                 rotate_left
                 ·
                  intro w'
                  go_simp
                  with_reducible rfl
                 rotate_left
                 ·
                  simp only [Act.put,sA,sB,sC,i64_w,i32_w]
                  rfl
                 refine pure_ (i:=7) (N:=some 139) (v:=?_) (a':=?_) #[true,true,true,false,false,false,false,true,false,false,false,false,false] rfl rfl (any_of HT_.out (by kernel_rfl)) (fun _ _ _ h => h) (Or.inl ⟨by rfl,?_⟩) ?_ ?_
                 rotate_left
                 ·
                  intro w'
                  go_simp
                  with_reducible rfl
                 rotate_left
                 ·
                  simp only [Act.put,sA,sB,sC,i64_w,i32_w]
                  rfl
                 refine pure_ (i:=8) (N:=some 140) (v:=?_) (a':=?_) #[true,true,true,false,false,false,false,true,true,false,false,false,false] rfl rfl (any_of HT_.out (by kernel_rfl)) (fun _ _ _ h => h) (Or.inl ⟨by rfl,?_⟩) ?_ ?_
                 rotate_left
                 ·
                  intro w'
                  go_simp
                  with_reducible rfl
                 rotate_left
                 ·
                  simp only [Act.put,sA,sB,sC,i64_w,i32_w]
                  rfl
                 refine take_ (i:=3) (N:=some 135) (v:=?_) (a':=?_) #[true,true,true,true,false,false,false,true,true,false,false,false,false] rfl rfl (take_ofW HT_.out HW_.out (by kernel_rfl)) (fun _ _ _ h => h) (Or.inl ⟨by rfl,?_⟩) hHeld ?_ ?_
                 rotate_left
                 ·
                  rintro w' ⟨s0,s1,s2,s3,s4,s5⟩
                  go_simp
                  with_reducible rfl
                 rotate_left
                 ·
                  simp only [Act.put,sA,sB,sC,i64_w,i32_w]
                  rfl
                 refine pure_ (i:=4) (N:=some 136) (v:=?_) (a':=?_) #[true,true,true,true,true,false,false,true,true,false,false,false,false] rfl rfl (any_of HT_.out (by kernel_rfl)) (fun _ _ _ h => h) (Or.inl ⟨by rfl,?_⟩) ?_ ?_
                 rotate_left
                 ·
                  intro w'
                  go_simp
                  with_reducible rfl
                 rotate_left
                 ·
                  simp only [Act.put,sA,sB,sC,i64_w,i32_w]
                  rfl
                 refine take_ (i:=9) (N:=some 141) (v:=?_) (a':=?_) #[true,true,true,true,true,false,false,true,true,true,false,false,false] rfl rfl (take_ofW HT_.out HW_.out (by kernel_rfl)) (fun _ _ _ h => h) (Or.inl ⟨by rfl,?_⟩) hHeld ?_ ?_
                 rotate_left
                 ·
                  rintro w' ⟨s0,s1,s2,s3,s4,s5⟩
                  go_simp
                  with_reducible rfl
                 rotate_left
                 ·
                  simp only [Act.put,sA,sB,sC,i64_w,i32_w]
                  rfl
                 refine one_ (i:=5) (N:=some 137) #[true,true,true,true,true,true,false,true,true,true,false,false,false] rfl rfl (one_of HT_.out (by kernel_rfl)) (by decide) (fun K hK => ?_)
                 refine goes_ Tryd.func27 (by kernel_rfl) rfl #[.int .i64 (wrap64 (((rd_T62 l0_3 x7_2).f2.f2) + 1)),.int .i64 2] (by rfl) rfl rfl (by (try simp only [sE,sH,sI]);first|done|rfl|(simp only [sG,sF];rfl)) ?_
                 with_reducible refine (spec_l02Number.calls k2 (wrap64 (((rd_T62 l0_3 x7_2).f2.f2) + 1)) 2 t222 _ A87.out).mono ?_
                 rintro e w113 ⟨v223,rfl,ho0,hb⟩
                 refine ⟨_,rfl,?_⟩
                 have n0_:=qk (Kd.R_elder' (by (with_reducible repeat (first|apply qd|apply qe|apply qf));exact HO200.out) (Kd.R_base ho0) hb)
                 have n1_:=qk (Kd.R_elder' (by (with_reducible repeat (first|apply qd|apply qe|apply qf));exact HO206.out) (Kd.R_base ho0) hb)
                 have n2_:=qk (Kd.R_elder' (by (with_reducible repeat (first|apply qd|apply qe|apply qf));exact HO212.out) (Kd.R_base ho0) hb)
                 have n3_:=qk (Kd.R_elder' (by (with_reducible repeat (first|apply qd|apply qe|apply qf));exact HO218.out) (Kd.R_base ho0) hb)
                 have n4_:=qk (Kd.R_elder' (by (with_reducible repeat (first|apply qd|apply qe|apply qf));exact HO221.out) (Kd.R_base ho0) hb)
                 have n5_:=qk (Kd.R_lower (Kd.R_new' (Kd.R_new' (Kd.R_new' (Kd.R_new' (Kd.R_new' ho0 (Kd.R_lt (by (with_reducible repeat (first|apply qd|apply qe|apply qf));exact HO200.out))) (Kd.R_lt (by (with_reducible repeat (first|apply qd|apply qe|apply qf));exact HO206.out))) (Kd.R_lt (by (with_reducible repeat (first|apply qd|apply qe|apply qf));exact HO212.out))) (Kd.R_lt (by (with_reducible repeat (first|apply qd|apply qe|apply qf));exact HO218.out))) (Kd.R_lt (by (with_reducible repeat (first|apply qd|apply qe|apply qf));exact HO221.out))) (qm (by repeat (first|(with_reducible first|exact HB.out|apply qg|apply qh|apply qi|refine qj ?_ GE125.out|refine qj ?_ GE197.out)|exact HB.out))))
                 have n6_:=qk (ql (g:=gb125) (o:=.cells #[.int .i64 a0_0,.int .i64 a0_1,.slice A0_2 l0_2.length c0_2,.slice (some ad196) l0_3.length c0_3] 32 (0,0)) (by (with_reducible repeat (first|apply qa|apply qb|apply qc));exact BK125.out) hb)
                 have n7_:=qk (ql (g:=gb197) (o:=.cells #[.int .i64 ((rd_T62 l0_3 x7_2).f0),.int .i64 ((rd_T62 l0_3 x7_2).f1),.int .i64 ((rd_T62 l0_3 x7_2).f2.f0),.int .i64 ((rd_T62 l0_3 x7_2).f2.f1),.int .i64 ((rd_T62 l0_3 x7_2).f2.f2),.int .i64 ((rd_T62 l0_3 x7_2).f2.f3)] 62 (0,0)) (by (with_reducible repeat (first|apply qa|apply qb|apply qc));exact BK197.out) hb)
                 have n8_:=qk (sN (by repeat (first|(with_reducible first|exact HB.out|apply qg|apply qh|apply qi|refine qj ?_ GE125.out|refine qj ?_ GE197.out)|exact HB.out)) hb)
                 clear HO200
                 clear HO206
                 clear HO212
                 clear HO218
                 clear HO221
                 clear BK125
                 clear BK197
                 clear HB
                 have HO200:=n0_
                 have HO206:=n1_
                 have HO212:=n2_
                 have HO218:=n3_
                 have HO221:=n4_
                 have HO224:=n5_
                 have BK125:=n6_
                 have BK197:=n7_
                 have HB:=n8_
                 clear n0_ n1_ n2_ n3_ n4_ n5_ n6_ n7_ n8_
                 (try clear hb)
                 (try clear hb2)
                 (try clear hk)
                 (try clear hi)
                 (try clear ho0)
                 obtain ⟨Ao115,co115,eo115⟩:=Kd.R_slice HO224.out
                 (first|subst eo115|(injection eo115 with f1_ f2_ f3_;have f4_:=f1_.symm;have f5_:=f3_.symm;clear f1_ f2_ f3_;subst f4_;subst f5_))
                 refine hK.out _ _ ⟨(blk_cell BK197.out 0).trans rfl,(blk_cell BK197.out 1).trans rfl,(blk_cell BK197.out 2).trans rfl,(blk_cell BK197.out 3).trans rfl,(blk_cell BK197.out 4).trans rfl,(blk_cell BK197.out 5).trans rfl⟩ (fun hHeld => ?_)
                 clear hK K
                 refine norm_ (a':=?_) ?_ ?_
                 rotate_left
                 ·
                  show Act.put _ (some 137) _ = _
                  simp only [Act.put,sA,sB,sC,i64_w,i32_w]
                  rfl
                 refine one_ (i:=6) (N:=some 138) #[true,true,true,true,true,true,true,true,true,true,false,false,false] rfl rfl (one_of HT_.out (by kernel_rfl)) (by decide) (fun K hK => ?_)
                 refine Kd.R_append_rows_step (Kd.int .u8) (w0:=w) w.heap.size (by rfl) (.tmp 132) (.tmp 137) 40 5 (.int .u8 0) 1 rfl Tryd.underlying40 info5 rfl (by decide) (by omega) v220 y219 t222 _ _ _ (fun k_ => some k_ ≠ (.slice Ao100 y198.length co100 : Value).ownBlock ∧ some k_ ≠ (.slice Ao103 t204.length co103 : Value).ownBlock ∧ some k_ ≠ (.slice Ao108 y210.length co108 : Value).ownBlock ∧ some k_ ≠ (.slice Ao111 t216.length co111 : Value).ownBlock ∧ some k_ ≠ (.slice Ao115 t222.length co115 : Value).ownBlock) (fun _ => False) rfl rfl ?aO ?aR (fun _ _ h => h) (fun _ h => h.elim) ?aF ?aB ?aS ?aL ?_
                 (case aR => repeat (first|exact (Kd.R_reads' HO224.out).2.2|(with_reducible refine Kd.C_alloc ?_ _)|(with_reducible refine Kd.C_drewN ?_ _)|(with_reducible refine Kd.C_drew ?_)))
                 (case aB => exact (by repeat (first|(with_reducible first|exact HB.out|apply qg|apply qh|apply qi|refine qj ?_ GE125.out|refine qj ?_ GE197.out)|exact HB.out)))
                 (case aF => exact (fun k_ hk => ⟨Kd.fresh' (Kd.R_lt (by (with_reducible repeat (first|apply qd|apply qe|apply qf));exact HO200.out)) k_ hk,Kd.fresh' (Kd.R_lt (by (with_reducible repeat (first|apply qd|apply qe|apply qf));exact HO206.out)) k_ hk,Kd.fresh' (Kd.R_lt (by (with_reducible repeat (first|apply qd|apply qe|apply qf));exact HO212.out)) k_ hk,Kd.fresh' (Kd.R_lt (by (with_reducible repeat (first|apply qd|apply qe|apply qf));exact HO218.out)) k_ hk,Kd.fresh' (Kd.R_lt (by (with_reducible repeat (first|apply qd|apply qe|apply qf));exact HO224.out)) k_ hk⟩))
                 (case aO => exact (by (with_reducible repeat (first|apply qd|apply qe|apply qf));exact qn HO221.out (fun _ hk => ⟨hk.1.1,⟨hk.1.2.1,⟨hk.1.2.2.1,⟨hk.1.2.2.2,hk.2⟩⟩⟩⟩)))
                 (case aS => exact (qm (by repeat (first|(with_reducible first|exact HB.out|apply qg|apply qh|apply qi|refine qj ?_ GE125.out|refine qj ?_ GE197.out)|exact HB.out))))
                 (case aL => have:=LMc88.out;omega)
                 intro v226 w114 ho hb hg hat
                 rw [← Ny225.out] at ho
                 have n0_:=qk (blk_grown (g:=gb125) (o:=.cells #[.int .i64 a0_0,.int .i64 a0_1,.slice A0_2 l0_2.length c0_2,.slice (some ad196) l0_3.length c0_3] 32 (0,0)) (by (with_reducible repeat (first|apply qa|apply qb|apply qc));exact BK125.out) hg (Kd.R_ne HO221.out BK125.out (by decide)))
                 have n1_:=qk (blk_grown (g:=gb197) (o:=.cells #[.int .i64 ((rd_T62 l0_3 x7_2).f0),.int .i64 ((rd_T62 l0_3 x7_2).f1),.int .i64 ((rd_T62 l0_3 x7_2).f2.f0),.int .i64 ((rd_T62 l0_3 x7_2).f2.f1),.int .i64 ((rd_T62 l0_3 x7_2).f2.f2),.int .i64 ((rd_T62 l0_3 x7_2).f2.f3)] 62 (0,0)) (by (with_reducible repeat (first|apply qa|apply qb|apply qc));exact BK197.out) hg (Kd.R_ne HO221.out BK197.out (by decide)))
                 have n2_:=qk (Kd.R_after (ok:=(fun k_ => some k_ ≠ (.slice Ao103 t204.length co103 : Value).ownBlock ∧ some k_ ≠ (.slice Ao108 y210.length co108 : Value).ownBlock ∧ some k_ ≠ (.slice Ao111 t216.length co111 : Value).ownBlock ∧ some k_ ≠ (.slice Ao115 t222.length co115 : Value).ownBlock)) (by (with_reducible repeat (first|apply qd|apply qe|apply qf));exact qn HO200.out (fun _ hk => ⟨⟨hk.1.1.1,⟨hk.1.1.2.1,⟨hk.1.1.2.2,hk.2⟩⟩⟩,hk.1.2⟩)) hg hat)
                 have n3_:=qk (Kd.R_after (ok:=(fun k_ => some k_ ≠ (.slice Ao100 y198.length co100 : Value).ownBlock ∧ some k_ ≠ (.slice Ao108 y210.length co108 : Value).ownBlock ∧ some k_ ≠ (.slice Ao111 t216.length co111 : Value).ownBlock ∧ some k_ ≠ (.slice Ao115 t222.length co115 : Value).ownBlock)) (by (with_reducible repeat (first|apply qd|apply qe|apply qf));exact qn HO206.out (fun _ hk => ⟨⟨hk.1.1.1,⟨hk.1.1.2.1,⟨hk.1.1.2.2,hk.2⟩⟩⟩,hk.1.2⟩)) hg hat)
                 have n4_:=qk (Kd.R_after (ok:=(fun k_ => some k_ ≠ (.slice Ao100 y198.length co100 : Value).ownBlock ∧ some k_ ≠ (.slice Ao103 t204.length co103 : Value).ownBlock ∧ some k_ ≠ (.slice Ao111 t216.length co111 : Value).ownBlock ∧ some k_ ≠ (.slice Ao115 t222.length co115 : Value).ownBlock)) (by (with_reducible repeat (first|apply qd|apply qe|apply qf));exact qn HO212.out (fun _ hk => ⟨⟨hk.1.1.1,⟨hk.1.1.2.1,⟨hk.1.1.2.2,hk.2⟩⟩⟩,hk.1.2⟩)) hg hat)
                 have n5_:=qk (Kd.R_after (ok:=(fun k_ => some k_ ≠ (.slice Ao100 y198.length co100 : Value).ownBlock ∧ some k_ ≠ (.slice Ao103 t204.length co103 : Value).ownBlock ∧ some k_ ≠ (.slice Ao108 y210.length co108 : Value).ownBlock ∧ some k_ ≠ (.slice Ao115 t222.length co115 : Value).ownBlock)) (by (with_reducible repeat (first|apply qd|apply qe|apply qf));exact qn HO218.out (fun _ hk => ⟨⟨hk.1.1.1,⟨hk.1.1.2.1,⟨hk.1.1.2.2,hk.2⟩⟩⟩,hk.1.2⟩)) hg hat)
                 have n6_:=qk (Kd.R_after (ok:=(fun k_ => some k_ ≠ (.slice Ao100 y198.length co100 : Value).ownBlock ∧ some k_ ≠ (.slice Ao103 t204.length co103 : Value).ownBlock ∧ some k_ ≠ (.slice Ao108 y210.length co108 : Value).ownBlock ∧ some k_ ≠ (.slice Ao111 t216.length co111 : Value).ownBlock)) (by (with_reducible repeat (first|apply qd|apply qe|apply qf));exact qn HO224.out (fun _ hk => ⟨⟨hk.1.1.1.1.2,⟨hk.1.1.1.2,⟨hk.1.1.2,hk.1.2⟩⟩⟩,hk.2⟩)) hg hat)
                 have n7_:=qk (hb)
                 have n8_:=qk (ho)
                 clear BK125
                 clear BK197
                 clear HO200
                 clear HO206
                 clear HO212
                 clear HO218
                 clear HO224
                 clear HB
                 clear HO221
                 have BK125:=n0_
                 have BK197:=n1_
                 have HO200:=n2_
                 have HO206:=n3_
                 have HO212:=n4_
                 have HO218:=n5_
                 have HO224:=n6_
                 have HB:=n7_
                 have HO227:=n8_
                 clear n0_ n1_ n2_ n3_ n4_ n5_ n6_ n7_ n8_
                 clear ho hb hg hat
                 refine hK.out _ _ ⟨(blk_cell BK197.out 0).trans rfl,(blk_cell BK197.out 1).trans rfl,(blk_cell BK197.out 2).trans rfl,(blk_cell BK197.out 3).trans rfl,(blk_cell BK197.out 4).trans rfl,(blk_cell BK197.out 5).trans rfl⟩ (fun hHeld => ?_)
                 clear hK K
                 refine norm_ (a':=?_) ?_ ?_
                 rotate_left
                 ·
                  show Act.put _ (some 138) _ = _
                  simp only [Act.put,sA,sB,sC,i64_w,i32_w]
                  rfl
                 refine one_ (i:=10) (N:=some 142) #[true,true,true,true,true,true,true,true,true,true,true,false,false] rfl rfl (one_of HT_.out (by kernel_rfl)) (by decide) (fun K hK => ?_)
                 refine goes_ Tryd.func27 (by kernel_rfl) rfl #[.int .i64 ((rd_T62 l0_3 x7_2).f2.f3),.int .i64 4] (by rfl) rfl rfl (by (try simp only [sE,sH,sI]);first|done|rfl|(simp only [sG,sF];rfl)) ?_
                 with_reducible refine (spec_l02Number.calls k2 ((rd_T62 l0_3 x7_2).f2.f3) 4 t228 _ A89.out).mono ?_
                 rintro e w116 ⟨v229,rfl,ho0,hb⟩
                 refine ⟨_,rfl,?_⟩
                 have n0_:=qk (Kd.R_elder' (by (with_reducible repeat (first|apply qd|apply qe|apply qf));exact HO200.out) (Kd.R_base ho0) hb)
                 have n1_:=qk (Kd.R_elder' (by (with_reducible repeat (first|apply qd|apply qe|apply qf));exact HO206.out) (Kd.R_base ho0) hb)
                 have n2_:=qk (Kd.R_elder' (by (with_reducible repeat (first|apply qd|apply qe|apply qf));exact HO212.out) (Kd.R_base ho0) hb)
                 have n3_:=qk (Kd.R_elder' (by (with_reducible repeat (first|apply qd|apply qe|apply qf));exact HO218.out) (Kd.R_base ho0) hb)
                 have n4_:=qk (Kd.R_elder' (by (with_reducible repeat (first|apply qd|apply qe|apply qf));exact HO224.out) (Kd.R_base ho0) hb)
                 have n5_:=qk (Kd.R_elder' (by (with_reducible repeat (first|apply qd|apply qe|apply qf));exact HO227.out) (Kd.R_base ho0) hb)
                 have n6_:=qk (Kd.R_lower (Kd.R_new' (Kd.R_new' (Kd.R_new' (Kd.R_new' (Kd.R_new' (Kd.R_new' ho0 (Kd.R_lt (by (with_reducible repeat (first|apply qd|apply qe|apply qf));exact HO200.out))) (Kd.R_lt (by (with_reducible repeat (first|apply qd|apply qe|apply qf));exact HO206.out))) (Kd.R_lt (by (with_reducible repeat (first|apply qd|apply qe|apply qf));exact HO212.out))) (Kd.R_lt (by (with_reducible repeat (first|apply qd|apply qe|apply qf));exact HO218.out))) (Kd.R_lt (by (with_reducible repeat (first|apply qd|apply qe|apply qf));exact HO224.out))) (Kd.R_lt (by (with_reducible repeat (first|apply qd|apply qe|apply qf));exact HO227.out))) (qm (by repeat (first|(with_reducible first|exact HB.out|apply qg|apply qh|apply qi|refine qj ?_ GE125.out|refine qj ?_ GE197.out)|exact HB.out))))
                 have n7_:=qk (ql (g:=gb125) (o:=.cells #[.int .i64 a0_0,.int .i64 a0_1,.slice A0_2 l0_2.length c0_2,.slice (some ad196) l0_3.length c0_3] 32 (0,0)) (by (with_reducible repeat (first|apply qa|apply qb|apply qc));exact BK125.out) hb)
                 have n8_:=qk (ql (g:=gb197) (o:=.cells #[.int .i64 ((rd_T62 l0_3 x7_2).f0),.int .i64 ((rd_T62 l0_3 x7_2).f1),.int .i64 ((rd_T62 l0_3 x7_2).f2.f0),.int .i64 ((rd_T62 l0_3 x7_2).f2.f1),.int .i64 ((rd_T62 l0_3 x7_2).f2.f2),.int .i64 ((rd_T62 l0_3 x7_2).f2.f3)] 62 (0,0)) (by (with_reducible repeat (first|apply qa|apply qb|apply qc));exact BK197.out) hb)
                 have n9_:=qk (sN (by repeat (first|(with_reducible first|exact HB.out|apply qg|apply qh|apply qi|refine qj ?_ GE125.out|refine qj ?_ GE197.out)|exact HB.out)) hb)
                 clear HO200
                 clear HO206
                 clear HO212
                 clear HO218
                 clear HO224
                 clear HO227
                 clear BK125
                 clear BK197
                 clear HB
                 have HO200:=n0_
                 have HO206:=n1_
                 have HO212:=n2_
                 have HO218:=n3_
                 have HO224:=n4_
                 have HO227:=n5_
                 have HO230:=n6_
                 have BK125:=n7_
                 have BK197:=n8_
                 have HB:=n9_
                 clear n0_ n1_ n2_ n3_ n4_ n5_ n6_ n7_ n8_ n9_
                 (try clear hb)
                 (try clear hb2)
                 (try clear hk)
                 (try clear hi)
                 (try clear ho0)
                 obtain ⟨Ao118,co118,eo118⟩:=Kd.R_slice HO230.out
                 (first|subst eo118|(injection eo118 with f1_ f2_ f3_;have f4_:=f1_.symm;have f5_:=f3_.symm;clear f1_ f2_ f3_;subst f4_;subst f5_))
                 refine hK.out _ _ ⟨(blk_cell BK197.out 0).trans rfl,(blk_cell BK197.out 1).trans rfl,(blk_cell BK197.out 2).trans rfl,(blk_cell BK197.out 3).trans rfl,(blk_cell BK197.out 4).trans rfl,(blk_cell BK197.out 5).trans rfl⟩ (fun hHeld => ?_)
                 clear hK K
                 refine norm_ (a':=?_) ?_ ?_
                 rotate_left
                 ·
                  show Act.put _ (some 142) _ = _
                  simp only [Act.put,sA,sB,sC,i64_w,i32_w]
                  rfl
                 refine one_ (i:=11) (N:=some 143) #[true,true,true,true,true,true,true,true,true,true,true,true,false] rfl rfl (one_of HT_.out (by kernel_rfl)) (by decide) (fun K hK => ?_)
                 refine Kd.R_append_rows_step (Kd.int .u8) (w0:=w) w.heap.size (by rfl) (.tmp 138) (.tmp 142) 40 5 (.int .u8 0) 1 rfl Tryd.underlying40 info5 rfl (by decide) (by omega) v226 y225 t228 _ _ _ (fun k_ => some k_ ≠ (.slice Ao100 y198.length co100 : Value).ownBlock ∧ some k_ ≠ (.slice Ao103 t204.length co103 : Value).ownBlock ∧ some k_ ≠ (.slice Ao108 y210.length co108 : Value).ownBlock ∧ some k_ ≠ (.slice Ao111 t216.length co111 : Value).ownBlock ∧ some k_ ≠ (.slice Ao115 t222.length co115 : Value).ownBlock ∧ some k_ ≠ (.slice Ao118 t228.length co118 : Value).ownBlock) (fun _ => False) rfl rfl ?aO ?aR (fun _ _ h => h) (fun _ h => h.elim) ?aF ?aB ?aS ?aL ?_
                 (case aR => repeat (first|exact (Kd.R_reads' HO230.out).2.2|(with_reducible refine Kd.C_alloc ?_ _)|(with_reducible refine Kd.C_drewN ?_ _)|(with_reducible refine Kd.C_drew ?_)))
                 (case aB => exact (by repeat (first|(with_reducible first|exact HB.out|apply qg|apply qh|apply qi|refine qj ?_ GE125.out|refine qj ?_ GE197.out)|exact HB.out)))
                 (case aF => exact (fun k_ hk => ⟨Kd.fresh' (Kd.R_lt (by (with_reducible repeat (first|apply qd|apply qe|apply qf));exact HO200.out)) k_ hk,Kd.fresh' (Kd.R_lt (by (with_reducible repeat (first|apply qd|apply qe|apply qf));exact HO206.out)) k_ hk,Kd.fresh' (Kd.R_lt (by (with_reducible repeat (first|apply qd|apply qe|apply qf));exact HO212.out)) k_ hk,Kd.fresh' (Kd.R_lt (by (with_reducible repeat (first|apply qd|apply qe|apply qf));exact HO218.out)) k_ hk,Kd.fresh' (Kd.R_lt (by (with_reducible repeat (first|apply qd|apply qe|apply qf));exact HO224.out)) k_ hk,Kd.fresh' (Kd.R_lt (by (with_reducible repeat (first|apply qd|apply qe|apply qf));exact HO230.out)) k_ hk⟩))
                 (case aO => exact (by (with_reducible repeat (first|apply qd|apply qe|apply qf));exact qn HO227.out (fun _ hk => ⟨hk.1.1,⟨hk.1.2.1,⟨hk.1.2.2.1,⟨hk.1.2.2.2.1,⟨hk.1.2.2.2.2,hk.2⟩⟩⟩⟩⟩)))
                 (case aS => exact (qm (by repeat (first|(with_reducible first|exact HB.out|apply qg|apply qh|apply qi|refine qj ?_ GE125.out|refine qj ?_ GE197.out)|exact HB.out))))
                 (case aL => have:=LMc90.out;omega)
                 intro v232 w117 ho hb hg hat
                 rw [← Ny231.out] at ho
                 have n0_:=qk (blk_grown (g:=gb125) (o:=.cells #[.int .i64 a0_0,.int .i64 a0_1,.slice A0_2 l0_2.length c0_2,.slice (some ad196) l0_3.length c0_3] 32 (0,0)) (by (with_reducible repeat (first|apply qa|apply qb|apply qc));exact BK125.out) hg (Kd.R_ne HO227.out BK125.out (by decide)))
                 have n1_:=qk (blk_grown (g:=gb197) (o:=.cells #[.int .i64 ((rd_T62 l0_3 x7_2).f0),.int .i64 ((rd_T62 l0_3 x7_2).f1),.int .i64 ((rd_T62 l0_3 x7_2).f2.f0),.int .i64 ((rd_T62 l0_3 x7_2).f2.f1),.int .i64 ((rd_T62 l0_3 x7_2).f2.f2),.int .i64 ((rd_T62 l0_3 x7_2).f2.f3)] 62 (0,0)) (by (with_reducible repeat (first|apply qa|apply qb|apply qc));exact BK197.out) hg (Kd.R_ne HO227.out BK197.out (by decide)))
                 have n2_:=qk (Kd.R_after (ok:=(fun k_ => some k_ ≠ (.slice Ao103 t204.length co103 : Value).ownBlock ∧ some k_ ≠ (.slice Ao108 y210.length co108 : Value).ownBlock ∧ some k_ ≠ (.slice Ao111 t216.length co111 : Value).ownBlock ∧ some k_ ≠ (.slice Ao115 t222.length co115 : Value).ownBlock ∧ some k_ ≠ (.slice Ao118 t228.length co118 : Value).ownBlock)) (by (with_reducible repeat (first|apply qd|apply qe|apply qf));exact qn HO200.out (fun _ hk => ⟨⟨hk.1.1.1,⟨hk.1.1.2.1,⟨hk.1.1.2.2.1,⟨hk.1.1.2.2.2,hk.2⟩⟩⟩⟩,hk.1.2⟩)) hg hat)
                 have n3_:=qk (Kd.R_after (ok:=(fun k_ => some k_ ≠ (.slice Ao100 y198.length co100 : Value).ownBlock ∧ some k_ ≠ (.slice Ao108 y210.length co108 : Value).ownBlock ∧ some k_ ≠ (.slice Ao111 t216.length co111 : Value).ownBlock ∧ some k_ ≠ (.slice Ao115 t222.length co115 : Value).ownBlock ∧ some k_ ≠ (.slice Ao118 t228.length co118 : Value).ownBlock)) (by (with_reducible repeat (first|apply qd|apply qe|apply qf));exact qn HO206.out (fun _ hk => ⟨⟨hk.1.1.1,⟨hk.1.1.2.1,⟨hk.1.1.2.2.1,⟨hk.1.1.2.2.2,hk.2⟩⟩⟩⟩,hk.1.2⟩)) hg hat)
                 have n4_:=qk (Kd.R_after (ok:=(fun k_ => some k_ ≠ (.slice Ao100 y198.length co100 : Value).ownBlock ∧ some k_ ≠ (.slice Ao103 t204.length co103 : Value).ownBlock ∧ some k_ ≠ (.slice Ao111 t216.length co111 : Value).ownBlock ∧ some k_ ≠ (.slice Ao115 t222.length co115 : Value).ownBlock ∧ some k_ ≠ (.slice Ao118 t228.length co118 : Value).ownBlock)) (by (with_reducible repeat (first|apply qd|apply qe|apply qf));exact qn HO212.out (fun _ hk => ⟨⟨hk.1.1.1,⟨hk.1.1.2.1,⟨hk.1.1.2.2.1,⟨hk.1.1.2.2.2,hk.2⟩⟩⟩⟩,hk.1.2⟩)) hg hat)
                 have n5_:=qk (Kd.R_after (ok:=(fun k_ => some k_ ≠ (.slice Ao100 y198.length co100 : Value).ownBlock ∧ some k_ ≠ (.slice Ao103 t204.length co103 : Value).ownBlock ∧ some k_ ≠ (.slice Ao108 y210.length co108 : Value).ownBlock ∧ some k_ ≠ (.slice Ao115 t222.length co115 : Value).ownBlock ∧ some k_ ≠ (.slice Ao118 t228.length co118 : Value).ownBlock)) (by (with_reducible repeat (first|apply qd|apply qe|apply qf));exact qn HO218.out (fun _ hk => ⟨⟨hk.1.1.1,⟨hk.1.1.2.1,⟨hk.1.1.2.2.1,⟨hk.1.1.2.2.2,hk.2⟩⟩⟩⟩,hk.1.2⟩)) hg hat)
                 have n6_:=qk (Kd.R_after (ok:=(fun k_ => some k_ ≠ (.slice Ao100 y198.length co100 : Value).ownBlock ∧ some k_ ≠ (.slice Ao103 t204.length co103 : Value).ownBlock ∧ some k_ ≠ (.slice Ao108 y210.length co108 : Value).ownBlock ∧ some k_ ≠ (.slice Ao111 t216.length co111 : Value).ownBlock ∧ some k_ ≠ (.slice Ao118 t228.length co118 : Value).ownBlock)) (by (with_reducible repeat (first|apply qd|apply qe|apply qf));exact qn HO224.out (fun _ hk => ⟨⟨hk.1.1.1,⟨hk.1.1.2.1,⟨hk.1.1.2.2.1,⟨hk.1.1.2.2.2,hk.2⟩⟩⟩⟩,hk.1.2⟩)) hg hat)
                 have n7_:=qk (Kd.R_after (ok:=(fun k_ => some k_ ≠ (.slice Ao100 y198.length co100 : Value).ownBlock ∧ some k_ ≠ (.slice Ao103 t204.length co103 : Value).ownBlock ∧ some k_ ≠ (.slice Ao108 y210.length co108 : Value).ownBlock ∧ some k_ ≠ (.slice Ao111 t216.length co111 : Value).ownBlock ∧ some k_ ≠ (.slice Ao115 t222.length co115 : Value).ownBlock)) (by (with_reducible repeat (first|apply qd|apply qe|apply qf));exact qn HO230.out (fun _ hk => ⟨⟨hk.1.1.1.1.1.2,⟨hk.1.1.1.1.2,⟨hk.1.1.1.2,⟨hk.1.1.2,hk.1.2⟩⟩⟩⟩,hk.2⟩)) hg hat)
                 have n8_:=qk (hb)
                 have n9_:=qk (ho)
                 clear BK125
                 clear BK197
                 clear HO200
                 clear HO206
                 clear HO212
                 clear HO218
                 clear HO224
                 clear HO230
                 clear HB
                 clear HO227
                 have BK125:=n0_
                 have BK197:=n1_
                 have HO200:=n2_
                 have HO206:=n3_
                 have HO212:=n4_
                 have HO218:=n5_
                 have HO224:=n6_
                 have HO230:=n7_
                 have HB:=n8_
                 have HO233:=n9_
                 clear n0_ n1_ n2_ n3_ n4_ n5_ n6_ n7_ n8_ n9_
                 clear ho hb hg hat
                 refine hK.out _ _ ⟨(blk_cell BK197.out 0).trans rfl,(blk_cell BK197.out 1).trans rfl,(blk_cell BK197.out 2).trans rfl,(blk_cell BK197.out 3).trans rfl,(blk_cell BK197.out 4).trans rfl,(blk_cell BK197.out 5).trans rfl⟩ (fun hHeld => ?_)
                 clear hK K
                 refine norm_ (a':=?_) ?_ ?_
                 rotate_left
                 ·
                  show Act.put _ (some 143) _ = _
                  simp only [Act.put,sA,sB,sC,i64_w,i32_w]
                  rfl
                 refine pure_ (i:=12) (N:=some 3) (v:=?_) (a':=?_) #[true,true,true,true,true,true,true,true,true,true,true,true,true] rfl rfl (any_of HT_.out (by kernel_rfl)) (fun _ _ _ h => h) (Or.inl ⟨by rfl,?_⟩) ?_ ?_
                 rotate_left
                 ·
                  intro w'
                  go_simp
                  with_reducible rfl
                 rotate_left
                 ·
                  simp only [Act.put,sA,sB,sC,i64_w,i32_w]
                  rfl
                 refine done_ (done_of HT_.out (by kernel_rfl)) ?_
                 try go_wp2
                 go_roundg k2
                 case measure => have:=HK1.out;have:=HK2.out;omega
                 case rel => exact ⟨(y231),(wrap64 (x7_2 + 1)),(by first|rfl|(simp;done)|(simp [*];done)),H',⟨by have:=HK1.out;have:=HK2.out;omega⟩,⟨by (with_reducible repeat (first|apply qd|apply qe|apply qf));exact qn HO233.out (fun _ hk => trivial)⟩,⟨by (with_reducible repeat (first|apply qa|apply qb|apply qc));exact BK125.out⟩,⟨by repeat (first|(with_reducible first|exact HB.out|apply qg|apply qh|apply qi|refine qj ?_ GE125.out|refine qj ?_ GE197.out)|exact HB.out)⟩⟩
                ·
                 rw [if_neg c90] at H
                 exact absurd H (by simp)
               ·
                rw [if_neg c88] at H
                exact absurd H (by simp)
              ·
               rw [if_neg c86] at H
               exact absurd H (by simp)
             ·
              rw [if_neg c84] at H
              exact absurd H (by simp)
            ·
             rw [if_neg c83] at H
             exact absurd H (by simp)
           ·
            rw [if_neg c81] at H
            exact absurd H (by simp)
          ·
           rw [if_neg c80] at H
           exact absurd H (by simp)
         ·
          rw [if_neg c79] at H
          have c79b0 : decide (x7_2 < (l0_3.length : Int)) = false:=decide_eq_false c79
          clear c79
          obtain rfl:=sO H
          have hcz119_0 : wr.cell? ⟨gb125,0,none⟩ = some (.int .i64 a0_0):=(blk_cell BK125.out 0).trans rfl
          have hcz119_1 : wr.cell? ⟨gb125,1,none⟩ = some (.int .i64 a0_1):=(blk_cell BK125.out 1).trans rfl
          have hcz119_2 : wr.cell? ⟨gb125,2,none⟩ = some (.slice A0_2 l0_2.length c0_2):=(blk_cell BK125.out 2).trans rfl
          have hcz119_3 : wr.cell? ⟨gb125,3,none⟩ = some (.slice A0_3 l0_3.length c0_3):=(blk_cell BK125.out 3).trans rfl
          have hfz119_0:=sJ BK125.out 0
          have hfz119_1:=sJ BK125.out 1
          have hfz119_2:=sJ BK125.out 2
          have hfz119_3:=sJ BK125.out 3
          go_wp2
          go_ret
          exact ⟨_,by first|rfl|(simp [errW_none,errW_some] <;> rfl)|(simp [*,errW_none,errW_some] <;> rfl),by (with_reducible repeat (first|apply qd|apply qe|apply qf));exact HO_3.out,by repeat (first|(with_reducible first|exact HB.out|apply qg|apply qh|apply qi|refine qj ?_ GE125.out)|exact HB.out)⟩
      ·
       rw [if_neg c73] at H
       exact absurd H (by simp)
  ·
   rw [if_neg c5] at H
   exact absurd H (by simp)
 ·
  rw [if_neg c4] at H
  exact absurd H (by simp)

end Go.Proofs.YtjkanhjapddhnaaDoor.PFnExactTableDigest
