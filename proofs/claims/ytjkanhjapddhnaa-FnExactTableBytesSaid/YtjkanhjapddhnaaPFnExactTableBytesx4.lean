-- laid by this session's program myprint.py over the kit's printer
-- aliased
-- squeezed
import Derived.Test.YtjkanhjapddhnaaPFnExactTableBytesx0
import Derived.Test.YtjkanhjapddhnaaPFnExactTableBytesx3
import Derived.Test.YtjkanhjapddhnaaPFnExactTableBytesx4d
namespace Go.Proofs.Ytjkanhjapddhnaa.PFnExactTableBytes
open Go.RowKit Go.Proofs.YtjkanhjapddhnaaV.PrintWords Go.Proofs.YtjkanhjapddhnaaV.PrintLast Go.Proofs.YtjkanhjapddhnaaV.PrintMore
attribute [local go_sem] max2_int min2_int max_two min_two max_three min_three max_four min_four u8_wm u32_wm   -- for this text's walks alone
set_option linter.unusedVariables false
set_option linter.unusedSimpArgs false


set_option maxHeartbeats 8000000 in
set_option maxRecDepth 100000 in
theorem spec_l05Bytes.calls (k : Nat) (a0_0 : Int) (a0_1 : Int) (A0_2 : Option Addr) (c0_2 : Nat) (l0_2 : List (S70)) (A0_3 : Option Addr) (c0_3 : Nat) (l0_3 : List (S77)) (r : List Int) (w : World) (hr0_2 : Kd.C k70 w A0_2 l0_2.length l0_2) (hc0_2 : l0_2.length ≤ c0_2) (hr0_3 : Kd.C k77 w A0_3 l0_3.length l0_3) (hc0_3 : l0_3.length ≤ c0_3) (h : spec_l05Bytes.f k a0_0 a0_1 l0_2 l0_3 = some r) :
  Calls Try.prog 51 #[.agg #[.int .i64 a0_0,.int .i64 a0_1,.slice A0_2 l0_2.length c0_2,.slice A0_3 l0_3.length c0_3]] w fun e w' => ∃ v0_ : Value,e = .returned (v0_) ∧ Kd.R (Kd.int .u8) 5 w' w.heap.size (fun _ => True) v0_ r ∧ Below w.heap.size w w':=by
 have hu31:=Try.underlying31
 have hu70:=Try.underlying70
 have hu77:=Try.underlying77
 have HR0_2:=qk hr0_2
 have HC0_2:=qk hc0_2
 clear hr0_2 hc0_2
 have HR0_3:=qk hr0_3
 have HC0_3:=qk hc0_3
 clear hr0_3 hc0_3
 have HB:=qk (Below.refl w.heap.size w)
 have H : ((spec_l02Number.f k a0_0 4).bind fun t184 => ((spec_l02Number.f k a0_1 3).bind fun t187 => (if t184.length + t187.length < 140737488355328 then ((some (t184 ++ t187 : List Int)).bind fun y190 => ((some (([((l0_2.length : Int)) % 256] : List Int) : List Int)).bind fun y193 => (if y190.length + y193.length < 140737488355328 then (spec_l05Bytes.l0 k (y190 ++ y193) 0 a0_0 a0_1 l0_2 l0_3) else (none)))) else (none)))) = some r:=h
 clear h
 replace H:=Option.bind_eq_some_iff.mp H
 obtain ⟨t184,A20,H⟩:=H
 replace H : ((spec_l02Number.f k a0_1 3).bind fun t187 => (if t184.length + t187.length < 140737488355328 then ((some (t184 ++ t187 : List Int)).bind fun y190 => ((some (([((l0_2.length : Int)) % 256] : List Int) : List Int)).bind fun y193 => (if y190.length + y193.length < 140737488355328 then (spec_l05Bytes.l0 k (y190 ++ y193) 0 a0_0 a0_1 l0_2 l0_3) else (none)))) else (none))) = some r:=H
 have A2:=qk A20
 clear A20
 replace H:=Option.bind_eq_some_iff.mp H
 obtain ⟨t187,A30,H⟩:=H
 replace H : (if t184.length + t187.length < 140737488355328 then ((some (t184 ++ t187 : List Int)).bind fun y190 => ((some (([((l0_2.length : Int)) % 256] : List Int) : List Int)).bind fun y193 => (if y190.length + y193.length < 140737488355328 then (spec_l05Bytes.l0 k (y190 ++ y193) 0 a0_0 a0_1 l0_2 l0_3) else (none)))) else (none)) = some r:=H
 have A3:=qk A30
 clear A30
 by_cases c4 : t184.length + t187.length < 140737488355328
 ·
  rw [if_pos c4] at H
  have LMc4:=qk c4
  clear c4
  obtain ⟨y190,hy190⟩ : ∃ y_ : List Int,y_ = (t184 ++ t187):=⟨_,rfl⟩
  replace H : ((some (([((l0_2.length : Int)) % 256] : List Int) : List Int)).bind fun y193 => (if y190.length + y193.length < 140737488355328 then (spec_l05Bytes.l0 k (y190 ++ y193) 0 a0_0 a0_1 l0_2 l0_3) else (none))) = some r:=by first|(rw [hy190];with_reducible exact H)|(have H2_:=(Option.bind_some _ _).symm.trans H;rw [hy190];with_reducible exact H2_)|(have H2_:=(Option.bind_some _ _).symm.trans H;with_reducible exact H2_)|with_reducible exact H|(rw [hy190];exact H)|exact H
  have Ny190:=qk hy190
  clear hy190
  obtain ⟨y193,hy193⟩ : ∃ y_ : List Int,y_ = (([((l0_2.length : Int)) % 256] : List Int)):=⟨_,rfl⟩
  replace H : (if y190.length + y193.length < 140737488355328 then (spec_l05Bytes.l0 k (y190 ++ y193) 0 a0_0 a0_1 l0_2 l0_3) else (none)) = some r:=by first|(rw [hy193];with_reducible exact H)|(have H2_:=(Option.bind_some _ _).symm.trans H;rw [hy193];with_reducible exact H2_)|(have H2_:=(Option.bind_some _ _).symm.trans H;with_reducible exact H2_)|with_reducible exact H|(rw [hy193];exact H)|exact H
  have Ny193:=qk hy193
  clear hy193
  by_cases c5 : y190.length + y193.length < 140737488355328
  ·
   rw [if_pos c5] at H
   have LMc5:=qk c5
   clear c5
   obtain ⟨y196,hy196⟩ : ∃ y_ : List Int,y_ = (y190 ++ y193):=⟨_,rfl⟩
   replace H : (spec_l05Bytes.l0 k y196 0 a0_0 a0_1 l0_2 l0_3) = some r:=by first|(rw [hy196];with_reducible exact H)|(have H2_:=(Option.bind_some _ _).symm.trans H;rw [hy196];with_reducible exact H2_)|(have H2_:=(Option.bind_some _ _).symm.trans H;with_reducible exact H2_)|with_reducible exact H|(rw [hy196];exact H)|exact H
   have Ny196:=qk hy196
   clear hy196
   have H':=qk H
   clear H
   go_enter Try.func51,Try.ntmps51
   try go_wp2_with (first|((with_reducible refine gate_dst (N:=1) rfl ?_);refine box_event ?hg (N:=1) ?hd (cs:=#[.int .i64 a0_0,.int .i64 a0_1,.slice A0_2 l0_2.length c0_2,.slice A0_3 l0_3.length c0_3]) (t:=31) ?hr ?_;(case hd => rfl);(case hg => rfl);(case hr => first|(go_simp;done)|(go_simp;rfl));intro gb183 hg w6 hbox hb;have n0_:=qk (sN (by repeat (first|(with_reducible first|exact HB.out|apply qg|apply qh|apply qi)|exact HB.out)) hb);have n1_:=qk (hbox);have n2_:=qk ((by rw [hg];exact (qm (by repeat (first|(with_reducible first|exact HB.out|apply qg|apply qh|apply qi)|exact HB.out))) : w.heap.size ≤ gb183));have n3_:=qk ((by rw [hg];exact (qm (by repeat (first|(with_reducible first|exact HB.out|apply qg|apply qh|apply qi)|exact HB.out))) : w.heap.size ≤ gb183));clear HB;have HB:=n0_;have BK183:=n1_;have GW183:=n2_;have GE183:=n3_;clear n0_ n1_ n2_ n3_;clear hb hbox hg))
   have n0_:=qk (qb BK183.out)
   have n1_:=qk (qi HB.out)
   clear BK183
   clear HB
   have BK183:=n0_
   have HB:=n1_
   clear n0_ n1_
   refine start_ (n:=8) (S:=fun w' => w'.cell? ⟨gb183,0,none⟩ = some (.int .i64 a0_0) ∧ w'.cell? ⟨gb183,1,none⟩ = some (.int .i64 a0_1) ∧ w'.cell? ⟨gb183,2,none⟩ = some (.slice A0_2 l0_2.length c0_2) ∧ w'.cell? ⟨gb183,3,none⟩ = some (.slice A0_3 l0_3.length c0_3)) (ds:=[]) #[false,false,false,false,false,false,false,false] (by kernel_rfl) rfl rfl ⟨(blk_cell BK183.out 0).trans rfl,(blk_cell BK183.out 1).trans rfl,(blk_cell BK183.out 2).trans rfl,(blk_cell BK183.out 3).trans rfl⟩ (fun hHeld => ?_);refine with_tabW spec_l05Bytes.tab1 spec_l05Bytes.bits1 (fun HT_ HW_ => ?_)
   generalize w6.drew = w7 at BK183 HB hHeld ⊢
   refine pure_ (i:=0) (N:=some 9) (v:=?_) (a':=?_) #[true,false,false,false,false,false,false,false] rfl rfl (any_of HT_.out (by kernel_rfl)) (fun _ _ _ h => h) (Or.inl ⟨by rfl,?_⟩) ?_ ?_
   rotate_left
   ·
    intro w'
    go_simp
    with_reducible rfl
   rotate_left
   ·
    simp only [Act.put,sA,sB,sC,i64_w,i32_w]
    rfl
   refine pure_ (i:=3) (N:=some 12) (v:=?_) (a':=?_) #[true,false,false,true,false,false,false,false] rfl rfl (any_of HT_.out (by kernel_rfl)) (fun _ _ _ h => h) (Or.inl ⟨by rfl,?_⟩) ?_ ?_
   rotate_left
   ·
    intro w'
    go_simp
    with_reducible rfl
   rotate_left
   ·
    simp only [Act.put,sA,sB,sC,i64_w,i32_w]
    rfl
   refine take_ (i:=1) (N:=some 10) (v:=?_) (a':=?_) #[true,true,false,true,false,false,false,false] rfl rfl (take_ofW HT_.out HW_.out (by kernel_rfl)) (fun _ _ _ h => h) (Or.inl ⟨by rfl,?_⟩) hHeld ?_ ?_
   rotate_left
   ·
    rintro w' ⟨s0,s1,s2,s3⟩
    go_simp
    with_reducible rfl
   rotate_left
   ·
    simp only [Act.put,sA,sB,sC,i64_w,i32_w]
    rfl
   refine take_ (i:=4) (N:=some 13) (v:=?_) (a':=?_) #[true,true,false,true,true,false,false,false] rfl rfl (take_ofW HT_.out HW_.out (by kernel_rfl)) (fun _ _ _ h => h) (Or.inl ⟨by rfl,?_⟩) hHeld ?_ ?_
   rotate_left
   ·
    rintro w' ⟨s0,s1,s2,s3⟩
    go_simp
    with_reducible rfl
   rotate_left
   ·
    simp only [Act.put,sA,sB,sC,i64_w,i32_w]
    rfl
   refine one_ (i:=2) (N:=some 11) #[true,true,true,true,true,false,false,false] rfl rfl (one_of HT_.out (by kernel_rfl)) (by decide) (fun K hK => ?_)
   refine goes_ Try.func79 (by kernel_rfl) rfl #[.int .i64 a0_0,.int .i64 4] (by rfl) rfl rfl (by (try simp only [sE,sH,sI]);first|done|rfl|(simp only [sG,sF];rfl)) ?_
   with_reducible refine (spec_l02Number.calls k a0_0 4 t184 _ A2.out).mono ?_
   rintro e w8 ⟨v185,rfl,ho0,hb⟩
   refine ⟨_,rfl,?_⟩
   have n0_:=qk (Kd.R_lower ho0 (qm (by repeat (first|(with_reducible first|exact HB.out|apply qg|apply qh|apply qi|refine qj ?_ GE183.out)|exact HB.out))))
   have n1_:=qk (ql (g:=gb183) (o:=.cells #[.int .i64 a0_0,.int .i64 a0_1,.slice A0_2 l0_2.length c0_2,.slice A0_3 l0_3.length c0_3] 31 (0,0)) (by (with_reducible repeat (first|apply qa|apply qb|apply qc));exact BK183.out) hb)
   have n2_:=qk (sN (by repeat (first|(with_reducible first|exact HB.out|apply qg|apply qh|apply qi|refine qj ?_ GE183.out)|exact HB.out)) hb)
   clear BK183
   clear HB
   have HO186:=n0_
   have BK183:=n1_
   have HB:=n2_
   clear n0_ n1_ n2_
   (try clear hb)
   (try clear hb2)
   (try clear hk)
   (try clear hi)
   (try clear ho0)
   refine hK.out _ _ ⟨(blk_cell BK183.out 0).trans rfl,(blk_cell BK183.out 1).trans rfl,(blk_cell BK183.out 2).trans rfl,(blk_cell BK183.out 3).trans rfl⟩ (fun hHeld => ?_)
   clear hK K
   refine norm_ (a':=?_) ?_ ?_
   rotate_left
   ·
    show Act.put _ (some 11) _ = _
    simp only [Act.put,sA,sB,sC,i64_w,i32_w]
    rfl
   refine one_ (i:=5) (N:=some 14) #[true,true,true,true,true,true,false,false] rfl rfl (one_of HT_.out (by kernel_rfl)) (by decide) (fun K hK => ?_)
   refine goes_ Try.func79 (by kernel_rfl) rfl #[.int .i64 a0_1,.int .i64 3] (by rfl) rfl rfl (by (try simp only [sE,sH,sI]);first|done|rfl|(simp only [sG,sF];rfl)) ?_
   with_reducible refine (spec_l02Number.calls k a0_1 3 t187 _ A3.out).mono ?_
   rintro e w9 ⟨v188,rfl,ho0,hb⟩
   refine ⟨_,rfl,?_⟩
   have n0_:=qk (Kd.R_elder' (by (with_reducible repeat (first|apply qd|apply qe|apply qf));exact HO186.out) (Kd.R_base ho0) hb)
   have n1_:=qk (Kd.R_lower (Kd.R_new' ho0 (Kd.R_lt (by (with_reducible repeat (first|apply qd|apply qe|apply qf));exact HO186.out))) (qm (by repeat (first|(with_reducible first|exact HB.out|apply qg|apply qh|apply qi|refine qj ?_ GE183.out)|exact HB.out))))
   have n2_:=qk (ql (g:=gb183) (o:=.cells #[.int .i64 a0_0,.int .i64 a0_1,.slice A0_2 l0_2.length c0_2,.slice A0_3 l0_3.length c0_3] 31 (0,0)) (by (with_reducible repeat (first|apply qa|apply qb|apply qc));exact BK183.out) hb)
   have n3_:=qk (sN (by repeat (first|(with_reducible first|exact HB.out|apply qg|apply qh|apply qi|refine qj ?_ GE183.out)|exact HB.out)) hb)
   clear HO186
   clear BK183
   clear HB
   have HO186:=n0_
   have HO189:=n1_
   have BK183:=n2_
   have HB:=n3_
   clear n0_ n1_ n2_ n3_
   (try clear hb)
   (try clear hb2)
   (try clear hk)
   (try clear hi)
   (try clear ho0)
   obtain ⟨Ao11,co11,eo11⟩:=Kd.R_slice HO189.out
   (first|subst eo11|(injection eo11 with f1_ f2_ f3_;have f4_:=f1_.symm;have f5_:=f3_.symm;clear f1_ f2_ f3_;subst f4_;subst f5_))
   refine hK.out _ _ ⟨(blk_cell BK183.out 0).trans rfl,(blk_cell BK183.out 1).trans rfl,(blk_cell BK183.out 2).trans rfl,(blk_cell BK183.out 3).trans rfl⟩ (fun hHeld => ?_)
   clear hK K
   refine norm_ (a':=?_) ?_ ?_
   rotate_left
   ·
    show Act.put _ (some 14) _ = _
    simp only [Act.put,sA,sB,sC,i64_w,i32_w]
    rfl
   refine one_ (i:=6) (N:=some 15) #[true,true,true,true,true,true,true,false] rfl rfl (one_of HT_.out (by kernel_rfl)) (by decide) (fun K hK => ?_)
   refine Kd.R_append_rows_step (Kd.int .u8) (w0:=w) w.heap.size (by rfl) (.tmp 11) (.tmp 14) 38 5 (.int .u8 0) 1 rfl Try.underlying38 info5 rfl (by decide) (by omega) v185 t184 t187 _ _ _ (fun k_ => some k_ ≠ (.slice Ao11 t187.length co11 : Value).ownBlock) (fun _ => False) rfl rfl ?aO ?aR (fun _ _ h => h) (fun _ h => h.elim) ?aF ?aB ?aS ?aL ?_
   (case aR => repeat (first|exact (Kd.R_reads' HO189.out).2.2|(with_reducible refine Kd.C_alloc ?_ _)|(with_reducible refine Kd.C_drewN ?_ _)|(with_reducible refine Kd.C_drew ?_)))
   (case aB => exact (by repeat (first|(with_reducible first|exact HB.out|apply qg|apply qh|apply qi|refine qj ?_ GE183.out)|exact HB.out)))
   (case aF => exact (fun k_ hk => Kd.fresh' (Kd.R_lt (by (with_reducible repeat (first|apply qd|apply qe|apply qf));exact HO189.out)) k_ hk))
   (case aO => exact (by (with_reducible repeat (first|apply qd|apply qe|apply qf));exact qn HO186.out (fun _ hk => hk.2)))
   (case aS => exact (qm (by repeat (first|(with_reducible first|exact HB.out|apply qg|apply qh|apply qi|refine qj ?_ GE183.out)|exact HB.out))))
   (case aL => have:=LMc4.out;omega)
   intro v191 w10 ho hb hg hat
   rw [← Ny190.out] at ho
   have n0_:=qk (blk_grown (g:=gb183) (o:=.cells #[.int .i64 a0_0,.int .i64 a0_1,.slice A0_2 l0_2.length c0_2,.slice A0_3 l0_3.length c0_3] 31 (0,0)) (by (with_reducible repeat (first|apply qa|apply qb|apply qc));exact BK183.out) hg (Kd.R_ne HO186.out BK183.out (by decide)))
   have n1_:=qk (Kd.R_after (ok:=(fun _ => True)) (by (with_reducible repeat (first|apply qd|apply qe|apply qf));exact HO189.out) hg hat)
   have n2_:=qk (hb)
   have n3_:=qk (ho)
   clear BK183
   clear HO189
   clear HB
   clear HO186
   have BK183:=n0_
   have HO189:=n1_
   have HB:=n2_
   have HO192:=n3_
   clear n0_ n1_ n2_ n3_
   clear ho hb hg hat
   refine hK.out _ _ ⟨(blk_cell BK183.out 0).trans rfl,(blk_cell BK183.out 1).trans rfl,(blk_cell BK183.out 2).trans rfl,(blk_cell BK183.out 3).trans rfl⟩ (fun hHeld => ?_)
   clear hK K
   refine norm_ (a':=?_) ?_ ?_
   rotate_left
   ·
    show Act.put _ (some 15) _ = _
    simp only [Act.put,sA,sB,sC,i64_w,i32_w]
    rfl
   refine pure_ (i:=7) (N:=some 3) (v:=?_) (a':=?_) #[true,true,true,true,true,true,true,true] rfl rfl (any_of HT_.out (by kernel_rfl)) (fun _ _ _ h => h) (Or.inl ⟨by rfl,?_⟩) ?_ ?_
   rotate_left
   ·
    intro w'
    go_simp
    with_reducible rfl
   rotate_left
   ·
    simp only [Act.put,sA,sB,sC,i64_w,i32_w]
    rfl
   refine done_ (done_of HT_.out (by kernel_rfl)) ?_
   have hcz12_0 : w10.cell? ⟨gb183,0,none⟩ = some (.int .i64 a0_0):=(blk_cell BK183.out 0).trans rfl
   have hcz12_1 : w10.cell? ⟨gb183,1,none⟩ = some (.int .i64 a0_1):=(blk_cell BK183.out 1).trans rfl
   have hcz12_2 : w10.cell? ⟨gb183,2,none⟩ = some (.slice A0_2 l0_2.length c0_2):=(blk_cell BK183.out 2).trans rfl
   have hcz12_3 : w10.cell? ⟨gb183,3,none⟩ = some (.slice A0_3 l0_3.length c0_3):=(blk_cell BK183.out 3).trans rfl
   have hfz12_0:=sJ BK183.out 0
   have hfz12_1:=sJ BK183.out 1
   have hfz12_2:=sJ BK183.out 2
   have hfz12_3:=sJ BK183.out 3
   try go_wp2_with (first|((with_reducible refine gate_dst (N:=21) rfl ?_);refine Kd.R_lit (Kd.int .u8) _ 5 ?hg (N:=21) ?hd (xs:=([((l0_2.length : Int)) % 256] : List Int)) (inner:=[.int .u8 (((l0_2.length : Int)) % 256)]) (ok:=fun _ => True) (okp:=fun _ => True) ?hr ?hp (fun _ hk => hk) trivial (Below.refl _ _) (Nat.le_refl _) (by simp) ?_;(case hd => rfl);(case hg => rfl);(case hr => first|(go_simp;done)|(go_simp;rfl));(case hp => exact (Reps.one (show Kd.M (Kd.int .u8) _ _ _ (((l0_2.length : Int)) % 256) [.int .u8 (((l0_2.length : Int)) % 256)] from rfl) (Reps.none _ _)));intro v194 w13 ho14 hb hg_ hnew_;clear hg_ hnew_;(first|rw [← Ny193.out] at ho14|(simp only [Int.reduceToNat] at ho14;rw [← Ny193.out] at ho14));have n0_:=qk (Kd.R_elder' (by (with_reducible repeat (first|apply qd|apply qe|apply qf));exact HO189.out) (Kd.R_base ho14) hb);have n1_:=qk (Kd.R_elder' (by (with_reducible repeat (first|apply qd|apply qe|apply qf));exact HO192.out) (Kd.R_base ho14) hb);have n2_:=qk (Kd.R_lower (Kd.R_new' (Kd.R_new' ho14 (Kd.R_lt (by (with_reducible repeat (first|apply qd|apply qe|apply qf));exact HO189.out))) (Kd.R_lt (by (with_reducible repeat (first|apply qd|apply qe|apply qf));exact HO192.out))) (qm (by repeat (first|(with_reducible first|exact HB.out|apply qg|apply qh|apply qi|refine qj ?_ GE183.out)|exact HB.out))));have n3_:=qk (ql (g:=gb183) (o:=.cells #[.int .i64 a0_0,.int .i64 a0_1,.slice A0_2 l0_2.length c0_2,.slice A0_3 l0_3.length c0_3] 31 (0,0)) (by (with_reducible repeat (first|apply qa|apply qb|apply qc));exact BK183.out) hb);have n4_:=qk (sN (by repeat (first|(with_reducible first|exact HB.out|apply qg|apply qh|apply qi|refine qj ?_ GE183.out)|exact HB.out)) hb);clear HO189;clear HO192;clear BK183;clear HB;have HO189:=n0_;have HO192:=n1_;have HO195:=n2_;have BK183:=n3_;have HB:=n4_;clear n0_ n1_ n2_ n3_ n4_;clear hb ho14;obtain ⟨Ao16,co16,eo16⟩:=Kd.R_slice HO195.out;subst eo16)|((with_reducible refine gate_builtin (b:=.append) (xs:=#[.tmp 16,.tmp 21]) rfl ?_);at_builtin;refine Kd.R_append_rows (Kd.int .u8) (w0:=w) w.heap.size rfl (.tmp 16) (.tmp 21) 38 5 (.int .u8 0) 1 rfl Try.underlying38 info5 rfl (by decide) (by omega) v191 y190 y193 _ _ _ (fun k_ => some k_ ≠ (.slice Ao11 t187.length co11 : Value).ownBlock ∧ some k_ ≠ (.slice Ao16 y193.length co16 : Value).ownBlock) (fun _ => False) rfl rfl ?aO ?aR (fun _ _ h => h) (fun _ h => h.elim) ?aF ?aB ?aS ?aL ?_;(case aR => repeat (first|exact (Kd.R_reads' HO195.out).2.2|(with_reducible refine Kd.C_alloc ?_ _)|(with_reducible refine Kd.C_drewN ?_ _)|(with_reducible refine Kd.C_drew ?_)));(case aB => exact (by repeat (first|(with_reducible first|exact HB.out|apply qg|apply qh|apply qi|refine qj ?_ GE183.out)|exact HB.out)));(case aF => exact (fun k_ hk => ⟨Kd.fresh' (Kd.R_lt (by (with_reducible repeat (first|apply qd|apply qe|apply qf));exact HO189.out)) k_ hk,Kd.fresh' (Kd.R_lt (by (with_reducible repeat (first|apply qd|apply qe|apply qf));exact HO195.out)) k_ hk⟩));(case aO => exact (by (with_reducible repeat (first|apply qd|apply qe|apply qf));exact HO192.out));(case aS => exact (qm (by repeat (first|(with_reducible first|exact HB.out|apply qg|apply qh|apply qi|refine qj ?_ GE183.out)|exact HB.out))));(case aL => have:=LMc5.out;omega);intro v197 w15 ho hb hg hat;rw [← Ny196.out] at ho;have n0_:=qk (blk_grown (g:=gb183) (o:=.cells #[.int .i64 a0_0,.int .i64 a0_1,.slice A0_2 l0_2.length c0_2,.slice A0_3 l0_3.length c0_3] 31 (0,0)) (by (with_reducible repeat (first|apply qa|apply qb|apply qc));exact BK183.out) hg (Kd.R_ne HO192.out BK183.out (by decide)));have n1_:=qk (Kd.R_after (ok:=(fun k_ => some k_ ≠ (.slice Ao16 y193.length co16 : Value).ownBlock)) (by (with_reducible repeat (first|apply qd|apply qe|apply qf));exact qn HO189.out (fun _ hk => ⟨hk.2,hk.1.2⟩)) hg hat);have n2_:=qk (Kd.R_after (ok:=(fun k_ => some k_ ≠ (.slice Ao11 t187.length co11 : Value).ownBlock)) (by (with_reducible repeat (first|apply qd|apply qe|apply qf));exact qn HO195.out (fun _ hk => ⟨hk.1.2,hk.2⟩)) hg hat);have n3_:=qk (hb);have n4_:=qk (ho);clear BK183;clear HO189;clear HO195;clear HB;clear HO192;have BK183:=n0_;have HO189:=n1_;have HO195:=n2_;have HB:=n3_;have HO198:=n4_;clear n0_ n1_ n2_ n3_ n4_;clear ho hb hg hat))
   go_loopg [3,4] k (fun kq v3 v4 w' => ∃ (x3_1 : List Int) (x4_1 : Int),v4 = .int .i64 x4_1 ∧ Aside0 (spec_l05Bytes.l0 kq x3_1 x4_1 a0_0 a0_1 l0_2 l0_3 = some r) ∧ Aside0 (kq ≤ k) ∧ Aside0 (Kd.R (Kd.int .u8) 5 w' w.heap.size (fun _ => True) v3 x3_1) ∧ Aside0 (w'.heap[gb183]? = some (.cells #[.int .i64 a0_0,.int .i64 a0_1,(.slice A0_2 l0_2.length c0_2),(.slice A0_3 l0_3.length c0_3)] 31 (0,0))) ∧ Aside0 (Below w.heap.size w w'))
   case atStart => exact ⟨(y196),(0),(by first|rfl|(simp;done)|(simp [*];done)),H',⟨Nat.le_refl _⟩,⟨by (with_reducible repeat (first|apply qd|apply qe|apply qf));exact qn HO198.out (fun _ hk => trivial)⟩,⟨by (with_reducible repeat (first|apply qa|apply qb|apply qc));exact BK183.out⟩,⟨by repeat (first|(with_reducible first|exact HB.out|apply qg|apply qh|apply qi|refine qj ?_ GE183.out)|exact HB.out)⟩⟩
   case round =>
    clear H'
    try clear p2
    try clear c4
    try clear c5
    try clear c7
    try clear hcz12_0
    try clear hcz12_1
    try clear hcz12_2
    try clear hcz12_3
    try clear hfz12_0
    try clear hfz12_1
    try clear hfz12_2
    try clear hfz12_3
    obtain ⟨x3_1,x4_1,rfl,HA,HK1,HO_3,BK183,HB⟩:=hrel
    cases gk with
    | zero => exact absurd HA.out (by simp [spec_l05Bytes.l0])
    | succ k1 =>
     have H:=HA.out
     clear HA
     simp only [spec_l05Bytes.l0] at H
     by_cases c17 : x4_1 < (l0_2.length : Int)
     ·
      rw [if_pos c17] at H
      have c17b0 : decide (x4_1 < (l0_2.length : Int)) = true:=decide_eq_true c17
      clear c17
      by_cases c18 : 0 ≤ x4_1
      ·
       rw [if_pos c18] at H
       have c18b0 : decide (0 ≤ x4_1) = true:=decide_eq_true c18
       clear c18
       obtain ⟨y201,hy201⟩ : ∃ y_ : List Int,y_ = (([((((rd_T70 l0_2 x4_1).f0).size : Int)) % 256] : List Int)):=⟨_,rfl⟩
       replace H : (if x3_1.length + y201.length < 140737488355328 then ((some (x3_1 ++ y201 : List Int)).bind fun y204 => (if y204.length + ((rd_T70 l0_2 x4_1).f0).size < 140737488355328 then ((some (y204 ++ bytesOf ((rd_T70 l0_2 x4_1).f0) : List Int)).bind fun y207 => ((spec_l02Number.f k1 ((rd_T70 l0_2 x4_1).f1) 3).bind fun t210 => (if y207.length + t210.length < 140737488355328 then ((some (y207 ++ t210 : List Int)).bind fun y213 => ((spec_l02Number.f k1 (wrap64 (((rd_T70 l0_2 x4_1).f2) + 1)) 2).bind fun t216 => (if y213.length + t216.length < 140737488355328 then ((some (y213 ++ t216 : List Int)).bind fun y219 => ((spec_l02Number.f k1 ((rd_T70 l0_2 x4_1).f3) 4).bind fun t222 => (if y219.length + t222.length < 140737488355328 then ((some (y219 ++ t222 : List Int)).bind fun y225 => ((some (([((((rd_T70 l0_2 x4_1).f4).length : Int)) % 256] : List Int) : List Int)).bind fun y228 => (if y225.length + y228.length < 140737488355328 then (spec_l05Bytes.l1 k1 (y225 ++ y228) x4_1 0 a0_0 a0_1 l0_2 l0_3 ((rd_T70 l0_2 x4_1).f0) ((rd_T70 l0_2 x4_1).f1) ((rd_T70 l0_2 x4_1).f2) ((rd_T70 l0_2 x4_1).f3) ((rd_T70 l0_2 x4_1).f4)) else (none)))) else (none)))) else (none)))) else (none)))) else (none))) else (none)) = some r:=by first|(rw [hy201];with_reducible exact H)|(have H2_:=(Option.bind_some _ _).symm.trans H;rw [hy201];with_reducible exact H2_)|(have H2_:=(Option.bind_some _ _).symm.trans H;with_reducible exact H2_)|with_reducible exact H|(rw [hy201];exact H)|exact H
       have Ny201:=qk hy201
       clear hy201
       by_cases c19 : x3_1.length + y201.length < 140737488355328
       ·
        rw [if_pos c19] at H
        have LMc19:=qk c19
        clear c19
        obtain ⟨y204,hy204⟩ : ∃ y_ : List Int,y_ = (x3_1 ++ y201):=⟨_,rfl⟩
        replace H : (if y204.length + ((rd_T70 l0_2 x4_1).f0).size < 140737488355328 then ((some (y204 ++ bytesOf ((rd_T70 l0_2 x4_1).f0) : List Int)).bind fun y207 => ((spec_l02Number.f k1 ((rd_T70 l0_2 x4_1).f1) 3).bind fun t210 => (if y207.length + t210.length < 140737488355328 then ((some (y207 ++ t210 : List Int)).bind fun y213 => ((spec_l02Number.f k1 (wrap64 (((rd_T70 l0_2 x4_1).f2) + 1)) 2).bind fun t216 => (if y213.length + t216.length < 140737488355328 then ((some (y213 ++ t216 : List Int)).bind fun y219 => ((spec_l02Number.f k1 ((rd_T70 l0_2 x4_1).f3) 4).bind fun t222 => (if y219.length + t222.length < 140737488355328 then ((some (y219 ++ t222 : List Int)).bind fun y225 => ((some (([((((rd_T70 l0_2 x4_1).f4).length : Int)) % 256] : List Int) : List Int)).bind fun y228 => (if y225.length + y228.length < 140737488355328 then (spec_l05Bytes.l1 k1 (y225 ++ y228) x4_1 0 a0_0 a0_1 l0_2 l0_3 ((rd_T70 l0_2 x4_1).f0) ((rd_T70 l0_2 x4_1).f1) ((rd_T70 l0_2 x4_1).f2) ((rd_T70 l0_2 x4_1).f3) ((rd_T70 l0_2 x4_1).f4)) else (none)))) else (none)))) else (none)))) else (none)))) else (none)) = some r:=by first|(rw [hy204];with_reducible exact H)|(have H2_:=(Option.bind_some _ _).symm.trans H;rw [hy204];with_reducible exact H2_)|(have H2_:=(Option.bind_some _ _).symm.trans H;with_reducible exact H2_)|with_reducible exact H|(rw [hy204];exact H)|exact H
        have Ny204:=qk hy204
        clear hy204
        by_cases c20 : y204.length + ((rd_T70 l0_2 x4_1).f0).size < 140737488355328
        ·
         rw [if_pos c20] at H
         have LMc20:=qk c20
         clear c20
         obtain ⟨y207,hy207⟩ : ∃ y_ : List Int,y_ = (y204 ++ bytesOf ((rd_T70 l0_2 x4_1).f0)):=⟨_,rfl⟩
         replace H : ((spec_l02Number.f k1 ((rd_T70 l0_2 x4_1).f1) 3).bind fun t210 => (if y207.length + t210.length < 140737488355328 then ((some (y207 ++ t210 : List Int)).bind fun y213 => ((spec_l02Number.f k1 (wrap64 (((rd_T70 l0_2 x4_1).f2) + 1)) 2).bind fun t216 => (if y213.length + t216.length < 140737488355328 then ((some (y213 ++ t216 : List Int)).bind fun y219 => ((spec_l02Number.f k1 ((rd_T70 l0_2 x4_1).f3) 4).bind fun t222 => (if y219.length + t222.length < 140737488355328 then ((some (y219 ++ t222 : List Int)).bind fun y225 => ((some (([((((rd_T70 l0_2 x4_1).f4).length : Int)) % 256] : List Int) : List Int)).bind fun y228 => (if y225.length + y228.length < 140737488355328 then (spec_l05Bytes.l1 k1 (y225 ++ y228) x4_1 0 a0_0 a0_1 l0_2 l0_3 ((rd_T70 l0_2 x4_1).f0) ((rd_T70 l0_2 x4_1).f1) ((rd_T70 l0_2 x4_1).f2) ((rd_T70 l0_2 x4_1).f3) ((rd_T70 l0_2 x4_1).f4)) else (none)))) else (none)))) else (none)))) else (none))) = some r:=by first|(rw [hy207];with_reducible exact H)|(have H2_:=(Option.bind_some _ _).symm.trans H;rw [hy207];with_reducible exact H2_)|(have H2_:=(Option.bind_some _ _).symm.trans H;with_reducible exact H2_)|with_reducible exact H|(rw [hy207];exact H)|exact H
         have Ny207:=qk hy207
         clear hy207
         replace H:=Option.bind_eq_some_iff.mp H
         obtain ⟨t210,A210,H⟩:=H
         replace H : (if y207.length + t210.length < 140737488355328 then ((some (y207 ++ t210 : List Int)).bind fun y213 => ((spec_l02Number.f k1 (wrap64 (((rd_T70 l0_2 x4_1).f2) + 1)) 2).bind fun t216 => (if y213.length + t216.length < 140737488355328 then ((some (y213 ++ t216 : List Int)).bind fun y219 => ((spec_l02Number.f k1 ((rd_T70 l0_2 x4_1).f3) 4).bind fun t222 => (if y219.length + t222.length < 140737488355328 then ((some (y219 ++ t222 : List Int)).bind fun y225 => ((some (([((((rd_T70 l0_2 x4_1).f4).length : Int)) % 256] : List Int) : List Int)).bind fun y228 => (if y225.length + y228.length < 140737488355328 then (spec_l05Bytes.l1 k1 (y225 ++ y228) x4_1 0 a0_0 a0_1 l0_2 l0_3 ((rd_T70 l0_2 x4_1).f0) ((rd_T70 l0_2 x4_1).f1) ((rd_T70 l0_2 x4_1).f2) ((rd_T70 l0_2 x4_1).f3) ((rd_T70 l0_2 x4_1).f4)) else (none)))) else (none)))) else (none)))) else (none)) = some r:=H
         have A21:=qk A210
         clear A210
         by_cases c22 : y207.length + t210.length < 140737488355328
         ·
          rw [if_pos c22] at H
          have LMc22:=qk c22
          clear c22
          obtain ⟨y213,hy213⟩ : ∃ y_ : List Int,y_ = (y207 ++ t210):=⟨_,rfl⟩
          replace H : ((spec_l02Number.f k1 (wrap64 (((rd_T70 l0_2 x4_1).f2) + 1)) 2).bind fun t216 => (if y213.length + t216.length < 140737488355328 then ((some (y213 ++ t216 : List Int)).bind fun y219 => ((spec_l02Number.f k1 ((rd_T70 l0_2 x4_1).f3) 4).bind fun t222 => (if y219.length + t222.length < 140737488355328 then ((some (y219 ++ t222 : List Int)).bind fun y225 => ((some (([((((rd_T70 l0_2 x4_1).f4).length : Int)) % 256] : List Int) : List Int)).bind fun y228 => (if y225.length + y228.length < 140737488355328 then (spec_l05Bytes.l1 k1 (y225 ++ y228) x4_1 0 a0_0 a0_1 l0_2 l0_3 ((rd_T70 l0_2 x4_1).f0) ((rd_T70 l0_2 x4_1).f1) ((rd_T70 l0_2 x4_1).f2) ((rd_T70 l0_2 x4_1).f3) ((rd_T70 l0_2 x4_1).f4)) else (none)))) else (none)))) else (none))) = some r:=by first|(rw [hy213];with_reducible exact H)|(have H2_:=(Option.bind_some _ _).symm.trans H;rw [hy213];with_reducible exact H2_)|(have H2_:=(Option.bind_some _ _).symm.trans H;with_reducible exact H2_)|with_reducible exact H|(rw [hy213];exact H)|exact H
          have Ny213:=qk hy213
          clear hy213
          replace H:=Option.bind_eq_some_iff.mp H
          obtain ⟨t216,A230,H⟩:=H
          replace H : (if y213.length + t216.length < 140737488355328 then ((some (y213 ++ t216 : List Int)).bind fun y219 => ((spec_l02Number.f k1 ((rd_T70 l0_2 x4_1).f3) 4).bind fun t222 => (if y219.length + t222.length < 140737488355328 then ((some (y219 ++ t222 : List Int)).bind fun y225 => ((some (([((((rd_T70 l0_2 x4_1).f4).length : Int)) % 256] : List Int) : List Int)).bind fun y228 => (if y225.length + y228.length < 140737488355328 then (spec_l05Bytes.l1 k1 (y225 ++ y228) x4_1 0 a0_0 a0_1 l0_2 l0_3 ((rd_T70 l0_2 x4_1).f0) ((rd_T70 l0_2 x4_1).f1) ((rd_T70 l0_2 x4_1).f2) ((rd_T70 l0_2 x4_1).f3) ((rd_T70 l0_2 x4_1).f4)) else (none)))) else (none)))) else (none)) = some r:=H
          have A23:=qk A230
          clear A230
          by_cases c24 : y213.length + t216.length < 140737488355328
          ·
           rw [if_pos c24] at H
           have LMc24:=qk c24
           clear c24
           obtain ⟨y219,hy219⟩ : ∃ y_ : List Int,y_ = (y213 ++ t216):=⟨_,rfl⟩
           replace H : ((spec_l02Number.f k1 ((rd_T70 l0_2 x4_1).f3) 4).bind fun t222 => (if y219.length + t222.length < 140737488355328 then ((some (y219 ++ t222 : List Int)).bind fun y225 => ((some (([((((rd_T70 l0_2 x4_1).f4).length : Int)) % 256] : List Int) : List Int)).bind fun y228 => (if y225.length + y228.length < 140737488355328 then (spec_l05Bytes.l1 k1 (y225 ++ y228) x4_1 0 a0_0 a0_1 l0_2 l0_3 ((rd_T70 l0_2 x4_1).f0) ((rd_T70 l0_2 x4_1).f1) ((rd_T70 l0_2 x4_1).f2) ((rd_T70 l0_2 x4_1).f3) ((rd_T70 l0_2 x4_1).f4)) else (none)))) else (none))) = some r:=by first|(rw [hy219];with_reducible exact H)|(have H2_:=(Option.bind_some _ _).symm.trans H;rw [hy219];with_reducible exact H2_)|(have H2_:=(Option.bind_some _ _).symm.trans H;with_reducible exact H2_)|with_reducible exact H|(rw [hy219];exact H)|exact H
           have Ny219:=qk hy219
           clear hy219
           replace H:=Option.bind_eq_some_iff.mp H
           obtain ⟨t222,A250,H⟩:=H
           replace H : (if y219.length + t222.length < 140737488355328 then ((some (y219 ++ t222 : List Int)).bind fun y225 => ((some (([((((rd_T70 l0_2 x4_1).f4).length : Int)) % 256] : List Int) : List Int)).bind fun y228 => (if y225.length + y228.length < 140737488355328 then (spec_l05Bytes.l1 k1 (y225 ++ y228) x4_1 0 a0_0 a0_1 l0_2 l0_3 ((rd_T70 l0_2 x4_1).f0) ((rd_T70 l0_2 x4_1).f1) ((rd_T70 l0_2 x4_1).f2) ((rd_T70 l0_2 x4_1).f3) ((rd_T70 l0_2 x4_1).f4)) else (none)))) else (none)) = some r:=H
           have A25:=qk A250
           clear A250
           by_cases c26 : y219.length + t222.length < 140737488355328
           ·
            rw [if_pos c26] at H
            have LMc26:=qk c26
            clear c26
            obtain ⟨y225,hy225⟩ : ∃ y_ : List Int,y_ = (y219 ++ t222):=⟨_,rfl⟩
            replace H : ((some (([((((rd_T70 l0_2 x4_1).f4).length : Int)) % 256] : List Int) : List Int)).bind fun y228 => (if y225.length + y228.length < 140737488355328 then (spec_l05Bytes.l1 k1 (y225 ++ y228) x4_1 0 a0_0 a0_1 l0_2 l0_3 ((rd_T70 l0_2 x4_1).f0) ((rd_T70 l0_2 x4_1).f1) ((rd_T70 l0_2 x4_1).f2) ((rd_T70 l0_2 x4_1).f3) ((rd_T70 l0_2 x4_1).f4)) else (none))) = some r:=by first|(rw [hy225];with_reducible exact H)|(have H2_:=(Option.bind_some _ _).symm.trans H;rw [hy225];with_reducible exact H2_)|(have H2_:=(Option.bind_some _ _).symm.trans H;with_reducible exact H2_)|with_reducible exact H|(rw [hy225];exact H)|exact H
            have Ny225:=qk hy225
            clear hy225
            obtain ⟨y228,hy228⟩ : ∃ y_ : List Int,y_ = (([((((rd_T70 l0_2 x4_1).f4).length : Int)) % 256] : List Int)):=⟨_,rfl⟩
            replace H : (if y225.length + y228.length < 140737488355328 then (spec_l05Bytes.l1 k1 (y225 ++ y228) x4_1 0 a0_0 a0_1 l0_2 l0_3 ((rd_T70 l0_2 x4_1).f0) ((rd_T70 l0_2 x4_1).f1) ((rd_T70 l0_2 x4_1).f2) ((rd_T70 l0_2 x4_1).f3) ((rd_T70 l0_2 x4_1).f4)) else (none)) = some r:=by first|(rw [hy228];with_reducible exact H)|(have H2_:=(Option.bind_some _ _).symm.trans H;rw [hy228];with_reducible exact H2_)|(have H2_:=(Option.bind_some _ _).symm.trans H;with_reducible exact H2_)|with_reducible exact H|(rw [hy228];exact H)|exact H
            have Ny228:=qk hy228
            clear hy228
            by_cases c27 : y225.length + y228.length < 140737488355328
            ·
             rw [if_pos c27] at H
             have LMc27:=qk c27
             clear c27
             obtain ⟨y231,hy231⟩ : ∃ y_ : List Int,y_ = (y225 ++ y228):=⟨_,rfl⟩
             replace H : (spec_l05Bytes.l1 k1 y231 x4_1 0 a0_0 a0_1 l0_2 l0_3 ((rd_T70 l0_2 x4_1).f0) ((rd_T70 l0_2 x4_1).f1) ((rd_T70 l0_2 x4_1).f2) ((rd_T70 l0_2 x4_1).f3) ((rd_T70 l0_2 x4_1).f4)) = some r:=by first|(rw [hy231];with_reducible exact H)|(have H2_:=(Option.bind_some _ _).symm.trans H;rw [hy231];with_reducible exact H2_)|(have H2_:=(Option.bind_some _ _).symm.trans H;with_reducible exact H2_)|with_reducible exact H|(rw [hy231];exact H)|exact H
             have Ny231:=qk hy231
             clear hy231
             have H':=qk H
             clear H
             have hcz28_0 : wr.cell? ⟨gb183,0,none⟩ = some (.int .i64 a0_0):=(blk_cell BK183.out 0).trans rfl
             have hcz28_1 : wr.cell? ⟨gb183,1,none⟩ = some (.int .i64 a0_1):=(blk_cell BK183.out 1).trans rfl
             have hcz28_2 : wr.cell? ⟨gb183,2,none⟩ = some (.slice A0_2 l0_2.length c0_2):=(blk_cell BK183.out 2).trans rfl
             have hcz28_3 : wr.cell? ⟨gb183,3,none⟩ = some (.slice A0_3 l0_3.length c0_3):=(blk_cell BK183.out 3).trans rfl
             have hfz28_0:=sJ BK183.out 0
             have hfz28_1:=sJ BK183.out 1
             have hfz28_2:=sJ BK183.out 2
             have hfz28_3:=sJ BK183.out 3
             have p199 : 0 ≤ (x4_1 : Int):=sM (by first|(with_reducible assumption)|assumption)
             have q199 : x4_1 < (l0_2.length : Int):=sM (by first|(with_reducible assumption)|assumption)
             obtain ⟨ad199,A199_4,c199_4,e199,hx199_0,hx199_1,hx199_2,hx199_3,hx199_4,hl199_4,hi199_4⟩:=at_T70 HR0_2.out x4_1 p199 q199
             cases e199
             replace hx199_0:=(HB.out.cell (sD w _ hx199_0)).trans hx199_0
             replace hx199_1:=(HB.out.cell (sD w _ hx199_1)).trans hx199_1
             replace hx199_2:=(HB.out.cell (sD w _ hx199_2)).trans hx199_2
             replace hx199_3:=(HB.out.cell (sD w _ hx199_3)).trans hx199_3
             replace hx199_4:=(HB.out.cell (sD w _ hx199_4)).trans hx199_4
             have HR199_4:=qk hi199_4
             have HC199_4:=qk hl199_4
             clear hi199_4 hl199_4
             replace p199:=eq_true p199
             replace q199:=eq_true q199
             try go_wp2_with (first|((with_reducible refine gate_dst (N:=5) rfl ?_);refine box_event ?hg (N:=5) ?hd (cs:=#[.string (⟨#[]⟩ : ByteArray),.int .i64 0,.int .i64 0,.int .i64 0,.slice none 0 0]) (t:=70) ?hr ?_;(case hd => rfl);(case hg => rfl);(case hr => first|(go_simp;done)|(go_simp;rfl));intro gb200 hg w29 hbox hb;have n0_:=qk (Kd.R_below (by (with_reducible repeat (first|apply qd|apply qe|apply qf));exact HO_3.out) hb);have n1_:=qk (ql (g:=gb183) (o:=.cells #[.int .i64 a0_0,.int .i64 a0_1,.slice (some ad199) l0_2.length c0_2,.slice A0_3 l0_3.length c0_3] 31 (0,0)) (by (with_reducible repeat (first|apply qa|apply qb|apply qc));exact BK183.out) hb);have n2_:=qk (sN (by repeat (first|(with_reducible first|exact HB.out|apply qg|apply qh|apply qi|refine qj ?_ GE183.out)|exact HB.out)) hb);have n3_:=qk (hbox);have n4_:=qk ((by rw [hg];exact (qm (by repeat (first|(with_reducible first|exact HB.out|apply qg|apply qh|apply qi|refine qj ?_ GE183.out)|exact HB.out))) : w.heap.size ≤ gb200));have n5_:=qk ((by rw [hg];exact (qm (by repeat (first|(with_reducible first|exact HB.out|apply qg|apply qh|apply qi|refine qj ?_ GE183.out)|exact HB.out))) : w.heap.size ≤ gb200));have n6_:=qk ((by rw [hg];exact Nat.ne_of_lt (blk_lt (g:=gb183) (o:=.cells #[.int .i64 a0_0,.int .i64 a0_1,.slice (some ad199) l0_2.length c0_2,.slice A0_3 l0_3.length c0_3] 31 (0,0)) (by (with_reducible repeat (first|apply qa|apply qb|apply qc));exact BK183.out)) : gb183 ≠ gb200));have n7_:=qk ((by rw [hg];exact Nat.ne_of_gt (blk_lt (g:=gb183) (o:=.cells #[.int .i64 a0_0,.int .i64 a0_1,.slice (some ad199) l0_2.length c0_2,.slice A0_3 l0_3.length c0_3] 31 (0,0)) (by (with_reducible repeat (first|apply qa|apply qb|apply qc));exact BK183.out)) : gb200 ≠ gb183));clear HO_3;clear BK183;clear HB;have HO_3:=n0_;have BK183:=n1_;have HB:=n2_;have BK200:=n3_;have GW200:=n4_;have GE200:=n5_;have NB183_200:=n6_;have NB200_183:=n7_;clear n0_ n1_ n2_ n3_ n4_ n5_ n6_ n7_;clear hb hbox hg;have hnb30:=NB200_183.out;have hnc30:=NB183_200.out;have hcz31_0 : w29.cell? ⟨gb200,0,none⟩ = some (.string (⟨#[]⟩ : ByteArray)):=(blk_cell BK200.out 0).trans rfl;have hcz31_1 : w29.cell? ⟨gb200,1,none⟩ = some (.int .i64 0):=(blk_cell BK200.out 1).trans rfl;have hcz31_2 : w29.cell? ⟨gb200,2,none⟩ = some (.int .i64 0):=(blk_cell BK200.out 2).trans rfl;have hcz31_3 : w29.cell? ⟨gb200,3,none⟩ = some (.int .i64 0):=(blk_cell BK200.out 3).trans rfl;have hcz31_4 : w29.cell? ⟨gb200,4,none⟩ = some (.slice none 0 0):=(blk_cell BK200.out 4).trans rfl;have hfz31_0:=sJ BK200.out 0;have hfz31_1:=sJ BK200.out 1;have hfz31_2:=sJ BK200.out 2;have hfz31_3:=sJ BK200.out 3;have hfz31_4:=sJ BK200.out 4))
             have n0_ : Aside0 (Kd.R (Kd.int .u8) 5 (((((w29.setCell ⟨gb200,0,none⟩ (.string ((rd_T70 l0_2 x4_1).f0))).setCell ⟨gb200,1,none⟩ (.int .i64 ((rd_T70 l0_2 x4_1).f1))).setCell ⟨gb200,2,none⟩ (.int .i64 ((rd_T70 l0_2 x4_1).f2))).setCell ⟨gb200,3,none⟩ (.int .i64 ((rd_T70 l0_2 x4_1).f3))).setCell ⟨gb200,4,none⟩ (.slice A199_4 ((rd_T70 l0_2 x4_1).f4).length c199_4)) w.heap.size (fun _ => True) u3 x3_1):=⟨by (with_reducible repeat (first|apply qd|apply qe|apply qf));exact qn (Kd.R_far (p:=⟨gb200,4,none⟩) (Kd.R_far (p:=⟨gb200,3,none⟩) (Kd.R_far (p:=⟨gb200,2,none⟩) (Kd.R_far (p:=⟨gb200,1,none⟩) (Kd.R_far (p:=⟨gb200,0,none⟩) (Kd.R_types HO_3.out BK200.out (by decide)) (fun _ hk => hk.2) (.string ((rd_T70 l0_2 x4_1).f0))) (fun _ hk => hk.2) (.int .i64 ((rd_T70 l0_2 x4_1).f1))) (fun _ hk => hk.2) (.int .i64 ((rd_T70 l0_2 x4_1).f2))) (fun _ hk => hk.2) (.int .i64 ((rd_T70 l0_2 x4_1).f3))) (fun _ hk => hk.2) (.slice A199_4 ((rd_T70 l0_2 x4_1).f4).length c199_4)) (fun _ hk => trivial)⟩
             have n1_ : Aside0 ((((((w29.setCell ⟨gb200,0,none⟩ (.string ((rd_T70 l0_2 x4_1).f0))).setCell ⟨gb200,1,none⟩ (.int .i64 ((rd_T70 l0_2 x4_1).f1))).setCell ⟨gb200,2,none⟩ (.int .i64 ((rd_T70 l0_2 x4_1).f2))).setCell ⟨gb200,3,none⟩ (.int .i64 ((rd_T70 l0_2 x4_1).f3))).setCell ⟨gb200,4,none⟩ (.slice A199_4 ((rd_T70 l0_2 x4_1).f4).length c199_4)).heap[gb183]? = some (.cells #[.int .i64 a0_0,.int .i64 a0_1,.slice (some ad199) l0_2.length c0_2,.slice A0_3 l0_3.length c0_3] 31 (0,0))):=⟨by (with_reducible repeat (first|apply qa|apply qb|apply qc));refine blk_far ?_ NB183_200.out _;(with_reducible repeat (first|apply qa|apply qb|apply qc));refine blk_far ?_ NB183_200.out _;(with_reducible repeat (first|apply qa|apply qb|apply qc));refine blk_far ?_ NB183_200.out _;(with_reducible repeat (first|apply qa|apply qb|apply qc));refine blk_far ?_ NB183_200.out _;(with_reducible repeat (first|apply qa|apply qb|apply qc));refine blk_far ?_ NB183_200.out _;(with_reducible repeat (first|apply qa|apply qb|apply qc));exact BK183.out⟩
             have n2_ : Aside0 ((((((w29.setCell ⟨gb200,0,none⟩ (.string ((rd_T70 l0_2 x4_1).f0))).setCell ⟨gb200,1,none⟩ (.int .i64 ((rd_T70 l0_2 x4_1).f1))).setCell ⟨gb200,2,none⟩ (.int .i64 ((rd_T70 l0_2 x4_1).f2))).setCell ⟨gb200,3,none⟩ (.int .i64 ((rd_T70 l0_2 x4_1).f3))).setCell ⟨gb200,4,none⟩ (.slice A199_4 ((rd_T70 l0_2 x4_1).f4).length c199_4)).heap[gb200]? = some (.cells #[.string ((rd_T70 l0_2 x4_1).f0),.int .i64 ((rd_T70 l0_2 x4_1).f1),.int .i64 ((rd_T70 l0_2 x4_1).f2),.int .i64 ((rd_T70 l0_2 x4_1).f3),.slice A199_4 ((rd_T70 l0_2 x4_1).f4).length c199_4] 70 (0,0))):=⟨by (with_reducible repeat (first|apply qa|apply qb|apply qc));refine blk_put (cs:=#[.string ((rd_T70 l0_2 x4_1).f0),.int .i64 ((rd_T70 l0_2 x4_1).f1),.int .i64 ((rd_T70 l0_2 x4_1).f2),.int .i64 ((rd_T70 l0_2 x4_1).f3),.slice none 0 0]) ?_ 4 _ rfl;(with_reducible repeat (first|apply qa|apply qb|apply qc));refine blk_put (cs:=#[.string ((rd_T70 l0_2 x4_1).f0),.int .i64 ((rd_T70 l0_2 x4_1).f1),.int .i64 ((rd_T70 l0_2 x4_1).f2),.int .i64 0,.slice none 0 0]) ?_ 3 _ rfl;(with_reducible repeat (first|apply qa|apply qb|apply qc));refine blk_put (cs:=#[.string ((rd_T70 l0_2 x4_1).f0),.int .i64 ((rd_T70 l0_2 x4_1).f1),.int .i64 0,.int .i64 0,.slice none 0 0]) ?_ 2 _ rfl;(with_reducible repeat (first|apply qa|apply qb|apply qc));refine blk_put (cs:=#[.string ((rd_T70 l0_2 x4_1).f0),.int .i64 0,.int .i64 0,.int .i64 0,.slice none 0 0]) ?_ 1 _ rfl;(with_reducible repeat (first|apply qa|apply qb|apply qc));refine blk_put (cs:=#[.string (⟨#[]⟩ : ByteArray),.int .i64 0,.int .i64 0,.int .i64 0,.slice none 0 0]) ?_ 0 _ rfl;(with_reducible repeat (first|apply qa|apply qb|apply qc));exact BK200.out⟩
             have n3_ : Aside0 (Below w.heap.size w (((((w29.setCell ⟨gb200,0,none⟩ (.string ((rd_T70 l0_2 x4_1).f0))).setCell ⟨gb200,1,none⟩ (.int .i64 ((rd_T70 l0_2 x4_1).f1))).setCell ⟨gb200,2,none⟩ (.int .i64 ((rd_T70 l0_2 x4_1).f2))).setCell ⟨gb200,3,none⟩ (.int .i64 ((rd_T70 l0_2 x4_1).f3))).setCell ⟨gb200,4,none⟩ (.slice A199_4 ((rd_T70 l0_2 x4_1).f4).length c199_4))):=⟨by repeat (first|(with_reducible first|exact HB.out|apply qg|apply qh|apply qi|refine qj ?_ GE183.out|refine qj ?_ GE200.out)|exact HB.out)⟩
             (try clear HO_3)
             (try clear BK183)
             (try clear BK200)
             (try clear HB)
             generalize (((((w29.setCell ⟨gb200,0,none⟩ (.string ((rd_T70 l0_2 x4_1).f0))).setCell ⟨gb200,1,none⟩ (.int .i64 ((rd_T70 l0_2 x4_1).f1))).setCell ⟨gb200,2,none⟩ (.int .i64 ((rd_T70 l0_2 x4_1).f2))).setCell ⟨gb200,3,none⟩ (.int .i64 ((rd_T70 l0_2 x4_1).f3))).setCell ⟨gb200,4,none⟩ (.slice A199_4 ((rd_T70 l0_2 x4_1).f4).length c199_4)) = w32 at n0_ n1_ n2_ n3_ ⊢
             have HO_3:=n0_
             have BK183:=n1_
             have BK200:=n2_
             have HB:=n3_
             clear n0_ n1_ n2_ n3_
             have n0_:=qk (qf HO_3.out)
             have n1_:=qk (qb BK183.out)
             have n2_:=qk (qb BK200.out)
             have n3_:=qk (qi HB.out)
             clear HO_3
             clear BK183
             clear BK200
             clear HB
             have HO_3:=n0_
             have BK183:=n1_
             have BK200:=n2_
             have HB:=n3_
             clear n0_ n1_ n2_ n3_
             refine start_ (n:=11) (S:=fun w' => w'.cell? ⟨gb200,0,none⟩ = some (.string ((rd_T70 l0_2 x4_1).f0)) ∧ w'.cell? ⟨gb200,1,none⟩ = some (.int .i64 ((rd_T70 l0_2 x4_1).f1)) ∧ w'.cell? ⟨gb200,2,none⟩ = some (.int .i64 ((rd_T70 l0_2 x4_1).f2)) ∧ w'.cell? ⟨gb200,3,none⟩ = some (.int .i64 ((rd_T70 l0_2 x4_1).f3)) ∧ w'.cell? ⟨gb200,4,none⟩ = some (.slice A199_4 ((rd_T70 l0_2 x4_1).f4).length c199_4)) (ds:=[]) #[false,false,false,false,false,false,false,false,false,false,false] (by kernel_rfl) rfl rfl ⟨(blk_cell BK200.out 0).trans rfl,(blk_cell BK200.out 1).trans rfl,(blk_cell BK200.out 2).trans rfl,(blk_cell BK200.out 3).trans rfl,(blk_cell BK200.out 4).trans rfl⟩ (fun hHeld => ?_);refine with_tabW spec_l05Bytes.tab7 spec_l05Bytes.bits7 (fun HT_ HW_ => ?_)
             generalize w32.drew = w33 at HO_3 BK183 BK200 HB hHeld ⊢
             refine pure_ (i:=0) (N:=some 35) (v:=?_) (a':=?_) #[true,false,false,false,false,false,false,false,false,false,false] rfl rfl (any_of HT_.out (by kernel_rfl)) (fun _ _ _ h => h) (Or.inl ⟨by rfl,?_⟩) ?_ ?_
             rotate_left
             ·
              intro w'
              go_simp
              with_reducible rfl
             rotate_left
             ·
              simp only [Act.put,sA,sB,sC,i64_w,i32_w]
              rfl
             refine pure_ (i:=1) (N:=some 36) (v:=?_) (a':=?_) #[true,true,false,false,false,false,false,false,false,false,false] rfl rfl (any_of HT_.out (by kernel_rfl)) (fun _ _ _ h => h) (Or.inl ⟨by rfl,?_⟩) ?_ ?_
             rotate_left
             ·
              intro w'
              go_simp
              with_reducible rfl
             rotate_left
             ·
              simp only [Act.put,sA,sB,sC,i64_w,i32_w]
              rfl
             refine pure_ (i:=7) (N:=some 42) (v:=?_) (a':=?_) #[true,true,false,false,false,false,false,true,false,false,false] rfl rfl (any_of HT_.out (by kernel_rfl)) (fun _ _ _ h => h) (Or.inl ⟨by rfl,?_⟩) ?_ ?_
             rotate_left
             ·
              intro w'
              go_simp
              with_reducible rfl
             rotate_left
             ·
              simp only [Act.put,sA,sB,sC,i64_w,i32_w]
              rfl
             refine take_ (i:=2) (N:=some 37) (v:=?_) (a':=?_) #[true,true,true,false,false,false,false,true,false,false,false] rfl rfl (take_ofW HT_.out HW_.out (by kernel_rfl)) (fun _ _ _ h => h) (Or.inl ⟨by rfl,?_⟩) hHeld ?_ ?_
             rotate_left
             ·
              rintro w' ⟨s0,s1,s2,s3,s4⟩
              go_simp
              with_reducible rfl
             rotate_left
             ·
              simp only [Act.put,sA,sB,sC,i64_w,i32_w]
              rfl
             refine pure_ (i:=3) (N:=some 38) (v:=?_) (a':=?_) #[true,true,true,true,false,false,false,true,false,false,false] rfl rfl (any_of HT_.out (by kernel_rfl)) (fun _ _ _ h => h) (Or.inl ⟨by rfl,?_⟩) ?_ ?_
             rotate_left
             ·
              intro w'
              go_simp
              with_reducible rfl
             rotate_left
             ·
              simp only [Act.put,sA,sB,sC,i64_w,i32_w]
              rfl
             refine pure_ (i:=4) (N:=some 39) (v:=?_) (a':=?_) #[true,true,true,true,true,false,false,true,false,false,false] rfl rfl (any_of HT_.out (by kernel_rfl)) (fun _ _ _ h => h) (Or.inl ⟨by rfl,?_⟩) ?_ ?_
             rotate_left
             ·
              intro w'
              go_simp
              with_reducible rfl
             rotate_left
             ·
              simp only [Act.put,sA,sB,sC,i64_w,i32_w]
              rfl
             refine take_ (i:=8) (N:=some 43) (v:=?_) (a':=?_) #[true,true,true,true,true,false,false,true,true,false,false] rfl rfl (take_ofW HT_.out HW_.out (by kernel_rfl)) (fun _ _ _ h => h) (Or.inl ⟨by rfl,?_⟩) hHeld ?_ ?_
             rotate_left
             ·
              rintro w' ⟨s0,s1,s2,s3,s4⟩
              go_simp
              with_reducible rfl
             rotate_left
             ·
              simp only [Act.put,sA,sB,sC,i64_w,i32_w]
              rfl
             refine one_ (i:=5) (N:=some 40) #[true,true,true,true,true,true,false,true,true,false,false] rfl rfl (one_of HT_.out (by kernel_rfl)) (by decide) (fun K hK => ?_)
             refine Kd.R_lit_step (Kd.int .u8) _ 5 ?hg (N:=40) ?hd (xs:=([((((rd_T70 l0_2 x4_1).f0).size : Int)) % 256] : List Int)) (inner:=[.int .u8 (((((rd_T70 l0_2 x4_1).f0).size : Int)) % 256)]) (ok:=fun _ => True) (okp:=fun _ => True) ?hr ?hp (fun _ hk => hk) trivial (Below.refl _ _) (Nat.le_refl _) (by simp) ?_;(case hd => rfl);(case hg => rfl);(case hr => first|(go_simp;done)|(go_simp;rfl));(case hp => exact (Reps.one (show Kd.M (Kd.int .u8) _ _ _ (((((rd_T70 l0_2 x4_1).f0).size : Int)) % 256) [.int .u8 (((((rd_T70 l0_2 x4_1).f0).size : Int)) % 256)] from rfl) (Reps.none _ _)))
             intro v202 w34 ho35 hb hg_ hnew_
             clear hg_ hnew_
             (first|rw [← Ny201.out] at ho35|(simp only [Int.reduceToNat] at ho35;rw [← Ny201.out] at ho35))
             have n0_:=qk (Kd.R_elder' (by (with_reducible repeat (first|apply qd|apply qe|apply qf));exact HO_3.out) (Kd.R_base ho35) hb)
             have n1_:=qk (Kd.R_lower (Kd.R_new' ho35 (Kd.R_lt (by (with_reducible repeat (first|apply qd|apply qe|apply qf));exact HO_3.out))) (qm (by repeat (first|(with_reducible first|exact HB.out|apply qg|apply qh|apply qi|refine qj ?_ GE183.out|refine qj ?_ GE200.out)|exact HB.out))))
             have n2_:=qk (ql (g:=gb183) (o:=.cells #[.int .i64 a0_0,.int .i64 a0_1,.slice (some ad199) l0_2.length c0_2,.slice A0_3 l0_3.length c0_3] 31 (0,0)) (by (with_reducible repeat (first|apply qa|apply qb|apply qc));exact BK183.out) hb)
             have n3_:=qk (ql (g:=gb200) (o:=.cells #[.string ((rd_T70 l0_2 x4_1).f0),.int .i64 ((rd_T70 l0_2 x4_1).f1),.int .i64 ((rd_T70 l0_2 x4_1).f2),.int .i64 ((rd_T70 l0_2 x4_1).f3),.slice A199_4 ((rd_T70 l0_2 x4_1).f4).length c199_4] 70 (0,0)) (by (with_reducible repeat (first|apply qa|apply qb|apply qc));exact BK200.out) hb)
             have n4_:=qk (sN (by repeat (first|(with_reducible first|exact HB.out|apply qg|apply qh|apply qi|refine qj ?_ GE183.out|refine qj ?_ GE200.out)|exact HB.out)) hb)
             clear HO_3
             clear BK183
             clear BK200
             clear HB
             have HO_3:=n0_
             have HO203:=n1_
             have BK183:=n2_
             have BK200:=n3_
             have HB:=n4_
             clear n0_ n1_ n2_ n3_ n4_
             clear hb ho35
             obtain ⟨Ao37,co37,eo37⟩:=Kd.R_slice HO203.out
             (first|subst eo37|(injection eo37 with f1_ f2_ f3_;have f4_:=f1_.symm;have f5_:=f3_.symm;clear f1_ f2_ f3_;subst f4_;subst f5_))
             refine hK.out _ _ ⟨(blk_cell BK200.out 0).trans rfl,(blk_cell BK200.out 1).trans rfl,(blk_cell BK200.out 2).trans rfl,(blk_cell BK200.out 3).trans rfl,(blk_cell BK200.out 4).trans rfl⟩ (fun hHeld => ?_)
             clear hK K
             refine norm_ (a':=?_) ?_ ?_
             rotate_left
             ·
              show Act.put _ (some 40) _ = _
              simp only [Act.put,sA,sB,sC,i64_w,i32_w]
              rfl
             refine one_ (i:=6) (N:=some 41) #[true,true,true,true,true,true,true,true,true,false,false] rfl rfl (one_of HT_.out (by kernel_rfl)) (by decide) (fun K hK => ?_)
             refine Kd.R_append_rows_step (Kd.int .u8) (w0:=w) w.heap.size (by rfl) (.tmp 35) (.tmp 40) 38 5 (.int .u8 0) 1 rfl Try.underlying38 info5 rfl (by decide) (by omega) u3 x3_1 y201 _ _ _ (fun k_ => some k_ ≠ (.slice Ao37 y201.length co37 : Value).ownBlock) (fun _ => False) rfl rfl ?aO ?aR (fun _ _ h => h) (fun _ h => h.elim) ?aF ?aB ?aS ?aL ?_
             (case aR => repeat (first|exact (Kd.R_reads' HO203.out).2.2|(with_reducible refine Kd.C_alloc ?_ _)|(with_reducible refine Kd.C_drewN ?_ _)|(with_reducible refine Kd.C_drew ?_)))
             (case aB => exact (by repeat (first|(with_reducible first|exact HB.out|apply qg|apply qh|apply qi|refine qj ?_ GE183.out|refine qj ?_ GE200.out)|exact HB.out)))
             (case aF => exact (fun k_ hk => Kd.fresh' (Kd.R_lt (by (with_reducible repeat (first|apply qd|apply qe|apply qf));exact HO203.out)) k_ hk))
             (case aO => exact (by (with_reducible repeat (first|apply qd|apply qe|apply qf));exact qn HO_3.out (fun _ hk => hk.2)))
             (case aS => exact (qm (by repeat (first|(with_reducible first|exact HB.out|apply qg|apply qh|apply qi|refine qj ?_ GE183.out|refine qj ?_ GE200.out)|exact HB.out))))
             (case aL => have:=LMc19.out;omega)
             intro v205 w36 ho hb hg hat
             rw [← Ny204.out] at ho
             have n0_:=qk (blk_grown (g:=gb183) (o:=.cells #[.int .i64 a0_0,.int .i64 a0_1,.slice (some ad199) l0_2.length c0_2,.slice A0_3 l0_3.length c0_3] 31 (0,0)) (by (with_reducible repeat (first|apply qa|apply qb|apply qc));exact BK183.out) hg (Kd.R_ne HO_3.out BK183.out (by decide)))
             have n1_:=qk (blk_grown (g:=gb200) (o:=.cells #[.string ((rd_T70 l0_2 x4_1).f0),.int .i64 ((rd_T70 l0_2 x4_1).f1),.int .i64 ((rd_T70 l0_2 x4_1).f2),.int .i64 ((rd_T70 l0_2 x4_1).f3),.slice A199_4 ((rd_T70 l0_2 x4_1).f4).length c199_4] 70 (0,0)) (by (with_reducible repeat (first|apply qa|apply qb|apply qc));exact BK200.out) hg (Kd.R_ne HO_3.out BK200.out (by decide)))
             have n2_:=qk (Kd.R_after (ok:=(fun _ => True)) (by (with_reducible repeat (first|apply qd|apply qe|apply qf));exact HO203.out) hg hat)
             have n3_:=qk (hb)
             have n4_:=qk (ho)
             clear BK183
             clear BK200
             clear HO203
             clear HB
             clear HO_3
             have BK183:=n0_
             have BK200:=n1_
             have HO203:=n2_
             have HB:=n3_
             have HO206:=n4_
             clear n0_ n1_ n2_ n3_ n4_
             clear ho hb hg hat
             refine hK.out _ _ ⟨(blk_cell BK200.out 0).trans rfl,(blk_cell BK200.out 1).trans rfl,(blk_cell BK200.out 2).trans rfl,(blk_cell BK200.out 3).trans rfl,(blk_cell BK200.out 4).trans rfl⟩ (fun hHeld => ?_)
             clear hK K
             refine norm_ (a':=?_) ?_ ?_
             rotate_left
             ·
              show Act.put _ (some 41) _ = _
              simp only [Act.put,sA,sB,sC,i64_w,i32_w]
              rfl
             refine one_ (i:=9) (N:=some 44) #[true,true,true,true,true,true,true,true,true,true,false] rfl rfl (one_of HT_.out (by kernel_rfl)) (by decide) (fun K hK => ?_)
             refine R_append_str_step (w0:=w) w.heap.size (by rfl) (.tmp 41) _ 38 9 5 rfl Try.underlying38 Try.underlying9 info5 v205 y204 ((rd_T70 l0_2 x4_1).f0) (fun k_ => some k_ ≠ (.slice Ao37 y201.length co37 : Value).ownBlock) rfl rfl ?aO ?aF ?aB ?aS ?aL ?_
             (case aB => exact (by repeat (first|(with_reducible first|exact HB.out|apply qg|apply qh|apply qi|refine qj ?_ GE183.out|refine qj ?_ GE200.out)|exact HB.out)))
             (case aF => exact (fun k_ hk => Kd.fresh' (Kd.R_lt (by (with_reducible repeat (first|apply qd|apply qe|apply qf));exact HO203.out)) k_ hk))
             (case aO => exact (by (with_reducible repeat (first|apply qd|apply qe|apply qf));exact HO206.out))
             (case aS => exact (qm (by repeat (first|(with_reducible first|exact HB.out|apply qg|apply qh|apply qi|refine qj ?_ GE183.out|refine qj ?_ GE200.out)|exact HB.out))))
             (case aL => have:=LMc20.out;omega)
             intro v208 w38 ho hb hg hat
             rw [← Ny207.out] at ho
             have n0_:=qk (blk_grown (g:=gb183) (o:=.cells #[.int .i64 a0_0,.int .i64 a0_1,.slice (some ad199) l0_2.length c0_2,.slice A0_3 l0_3.length c0_3] 31 (0,0)) (by (with_reducible repeat (first|apply qa|apply qb|apply qc));exact BK183.out) hg (Kd.R_ne HO206.out BK183.out (by decide)))
             have n1_:=qk (blk_grown (g:=gb200) (o:=.cells #[.string ((rd_T70 l0_2 x4_1).f0),.int .i64 ((rd_T70 l0_2 x4_1).f1),.int .i64 ((rd_T70 l0_2 x4_1).f2),.int .i64 ((rd_T70 l0_2 x4_1).f3),.slice A199_4 ((rd_T70 l0_2 x4_1).f4).length c199_4] 70 (0,0)) (by (with_reducible repeat (first|apply qa|apply qb|apply qc));exact BK200.out) hg (Kd.R_ne HO206.out BK200.out (by decide)))
             have n2_:=qk (Kd.R_after (ok:=(fun _ => True)) (by (with_reducible repeat (first|apply qd|apply qe|apply qf));exact HO203.out) hg hat)
             have n3_:=qk (hb)
             have n4_:=qk (ho)
             clear BK183
             clear BK200
             clear HO203
             clear HB
             clear HO206
             have BK183:=n0_
             have BK200:=n1_
             have HO203:=n2_
             have HB:=n3_
             have HO209:=n4_
             clear n0_ n1_ n2_ n3_ n4_
             clear ho hb hg hat
             refine hK.out _ _ ⟨(blk_cell BK200.out 0).trans rfl,(blk_cell BK200.out 1).trans rfl,(blk_cell BK200.out 2).trans rfl,(blk_cell BK200.out 3).trans rfl,(blk_cell BK200.out 4).trans rfl⟩ (fun hHeld => ?_)
             clear hK K
             refine norm_ (a':=?_) ?_ ?_
             rotate_left
             ·
              show Act.put _ (some 44) _ = _
              simp only [Act.put,sA,sB,sC,i64_w,i32_w]
              rfl
             refine pure_ (i:=10) (N:=some 3) (v:=?_) (a':=?_) #[true,true,true,true,true,true,true,true,true,true,true] rfl rfl (any_of HT_.out (by kernel_rfl)) (fun _ _ _ h => h) (Or.inl ⟨by rfl,?_⟩) ?_ ?_
             rotate_left
             ·
              intro w'
              go_simp
              with_reducible rfl
             rotate_left
             ·
              simp only [Act.put,sA,sB,sC,i64_w,i32_w]
              rfl
             refine done_ (done_of HT_.out (by kernel_rfl)) ?_
             try go_wp2
             have n0_:=qk (qf HO203.out)
             have n1_:=qk (qf HO209.out)
             have n2_:=qk (qb BK183.out)
             have n3_:=qk (qb BK200.out)
             have n4_:=qk (qi HB.out)
             clear HO203
             clear HO209
             clear BK183
             clear BK200
             clear HB
             have HO203:=n0_
             have HO209:=n1_
             have BK183:=n2_
             have BK200:=n3_
             have HB:=n4_
             clear n0_ n1_ n2_ n3_ n4_
             refine start_ (n:=11) (S:=fun w' => w'.cell? ⟨gb200,0,none⟩ = some (.string ((rd_T70 l0_2 x4_1).f0)) ∧ w'.cell? ⟨gb200,1,none⟩ = some (.int .i64 ((rd_T70 l0_2 x4_1).f1)) ∧ w'.cell? ⟨gb200,2,none⟩ = some (.int .i64 ((rd_T70 l0_2 x4_1).f2)) ∧ w'.cell? ⟨gb200,3,none⟩ = some (.int .i64 ((rd_T70 l0_2 x4_1).f3)) ∧ w'.cell? ⟨gb200,4,none⟩ = some (.slice A199_4 ((rd_T70 l0_2 x4_1).f4).length c199_4)) (ds:=[]) #[false,false,false,false,false,false,false,false,false,false,false] (by kernel_rfl) rfl rfl ⟨(blk_cell BK200.out 0).trans rfl,(blk_cell BK200.out 1).trans rfl,(blk_cell BK200.out 2).trans rfl,(blk_cell BK200.out 3).trans rfl,(blk_cell BK200.out 4).trans rfl⟩ (fun hHeld => ?_);refine with_tabW spec_l05Bytes.tab8 spec_l05Bytes.bits8 (fun HT_ HW_ => ?_)
             generalize w38.drew = w39 at HO203 HO209 BK183 BK200 HB hHeld ⊢
             refine pure_ (i:=0) (N:=some 45) (v:=?_) (a':=?_) #[true,false,false,false,false,false,false,false,false,false,false] rfl rfl (any_of HT_.out (by kernel_rfl)) (fun _ _ _ h => h) (Or.inl ⟨by rfl,?_⟩) ?_ ?_
             rotate_left
             ·
              intro w'
              go_simp
              with_reducible rfl
             rotate_left
             ·
              simp only [Act.put,sA,sB,sC,i64_w,i32_w]
              rfl
             refine pure_ (i:=1) (N:=some 46) (v:=?_) (a':=?_) #[true,true,false,false,false,false,false,false,false,false,false] rfl rfl (any_of HT_.out (by kernel_rfl)) (fun _ _ _ h => h) (Or.inl ⟨by rfl,?_⟩) ?_ ?_
             rotate_left
             ·
              intro w'
              go_simp
              with_reducible rfl
             rotate_left
             ·
              simp only [Act.put,sA,sB,sC,i64_w,i32_w]
              rfl
             refine pure_ (i:=5) (N:=some 50) (v:=?_) (a':=?_) #[true,true,false,false,false,true,false,false,false,false,false] rfl rfl (any_of HT_.out (by kernel_rfl)) (fun _ _ _ h => h) (Or.inl ⟨by rfl,?_⟩) ?_ ?_
             rotate_left
             ·
              intro w'
              go_simp
              with_reducible rfl
             rotate_left
             ·
              simp only [Act.put,sA,sB,sC,i64_w,i32_w]
              rfl
             refine take_ (i:=2) (N:=some 47) (v:=?_) (a':=?_) #[true,true,true,false,false,true,false,false,false,false,false] rfl rfl (take_ofW HT_.out HW_.out (by kernel_rfl)) (fun _ _ _ h => h) (Or.inl ⟨by rfl,?_⟩) hHeld ?_ ?_
             rotate_left
             ·
              rintro w' ⟨s0,s1,s2,s3,s4⟩
              go_simp
              with_reducible rfl
             rotate_left
             ·
              simp only [Act.put,sA,sB,sC,i64_w,i32_w]
              rfl
             refine take_ (i:=6) (N:=some 51) (v:=?_) (a':=?_) #[true,true,true,false,false,true,true,false,false,false,false] rfl rfl (take_ofW HT_.out HW_.out (by kernel_rfl)) (fun _ _ _ h => h) (Or.inl ⟨by rfl,?_⟩) hHeld ?_ ?_
             rotate_left
             ·
              rintro w' ⟨s0,s1,s2,s3,s4⟩
              go_simp
              with_reducible rfl
             rotate_left
             ·
              simp only [Act.put,sA,sB,sC,i64_w,i32_w]
              rfl
             refine pure_ (i:=7) (N:=some 52) (v:=?_) (a':=?_) #[true,true,true,false,false,true,true,true,false,false,false] rfl rfl (any_of HT_.out (by kernel_rfl)) (fun _ _ _ h => h) (Or.inl ⟨by rfl,?_⟩) ?_ ?_
             rotate_left
             ·
              intro w'
              go_simp
              with_reducible rfl
             rotate_left
             ·
              simp only [Act.put,sA,sB,sC,i64_w,i32_w]
              rfl
             refine one_ (i:=3) (N:=some 48) #[true,true,true,true,false,true,true,true,false,false,false] rfl rfl (one_of HT_.out (by kernel_rfl)) (by decide) (fun K hK => ?_)
             refine goes_ Try.func79 (by kernel_rfl) rfl #[.int .i64 ((rd_T70 l0_2 x4_1).f1),.int .i64 3] (by rfl) rfl rfl (by (try simp only [sE,sH,sI]);first|done|rfl|(simp only [sG,sF];rfl)) ?_
             with_reducible refine (spec_l02Number.calls k1 ((rd_T70 l0_2 x4_1).f1) 3 t210 _ A21.out).mono ?_
             rintro e w40 ⟨v211,rfl,ho0,hb⟩
             refine ⟨_,rfl,?_⟩
             have n0_:=qk (Kd.R_elder' (by (with_reducible repeat (first|apply qd|apply qe|apply qf));exact HO203.out) (Kd.R_base ho0) hb)
             have n1_:=qk (Kd.R_elder' (by (with_reducible repeat (first|apply qd|apply qe|apply qf));exact HO209.out) (Kd.R_base ho0) hb)
             have n2_:=qk (Kd.R_lower (Kd.R_new' (Kd.R_new' ho0 (Kd.R_lt (by (with_reducible repeat (first|apply qd|apply qe|apply qf));exact HO203.out))) (Kd.R_lt (by (with_reducible repeat (first|apply qd|apply qe|apply qf));exact HO209.out))) (qm (by repeat (first|(with_reducible first|exact HB.out|apply qg|apply qh|apply qi|refine qj ?_ GE183.out|refine qj ?_ GE200.out)|exact HB.out))))
             have n3_:=qk (ql (g:=gb183) (o:=.cells #[.int .i64 a0_0,.int .i64 a0_1,.slice (some ad199) l0_2.length c0_2,.slice A0_3 l0_3.length c0_3] 31 (0,0)) (by (with_reducible repeat (first|apply qa|apply qb|apply qc));exact BK183.out) hb)
             have n4_:=qk (ql (g:=gb200) (o:=.cells #[.string ((rd_T70 l0_2 x4_1).f0),.int .i64 ((rd_T70 l0_2 x4_1).f1),.int .i64 ((rd_T70 l0_2 x4_1).f2),.int .i64 ((rd_T70 l0_2 x4_1).f3),.slice A199_4 ((rd_T70 l0_2 x4_1).f4).length c199_4] 70 (0,0)) (by (with_reducible repeat (first|apply qa|apply qb|apply qc));exact BK200.out) hb)
             have n5_:=qk (sN (by repeat (first|(with_reducible first|exact HB.out|apply qg|apply qh|apply qi|refine qj ?_ GE183.out|refine qj ?_ GE200.out)|exact HB.out)) hb)
             clear HO203
             clear HO209
             clear BK183
             clear BK200
             clear HB
             have HO203:=n0_
             have HO209:=n1_
             have HO212:=n2_
             have BK183:=n3_
             have BK200:=n4_
             have HB:=n5_
             clear n0_ n1_ n2_ n3_ n4_ n5_
             (try clear hb)
             (try clear hb2)
             (try clear hk)
             (try clear hi)
             (try clear ho0)
             obtain ⟨Ao42,co42,eo42⟩:=Kd.R_slice HO212.out
             (first|subst eo42|(injection eo42 with f1_ f2_ f3_;have f4_:=f1_.symm;have f5_:=f3_.symm;clear f1_ f2_ f3_;subst f4_;subst f5_))
             refine hK.out _ _ ⟨(blk_cell BK200.out 0).trans rfl,(blk_cell BK200.out 1).trans rfl,(blk_cell BK200.out 2).trans rfl,(blk_cell BK200.out 3).trans rfl,(blk_cell BK200.out 4).trans rfl⟩ (fun hHeld => ?_)
             clear hK K
             refine norm_ (a':=?_) ?_ ?_
             rotate_left
             ·
              show Act.put _ (some 48) _ = _
              simp only [Act.put,sA,sB,sC,i64_w,i32_w]
              rfl
             refine one_ (i:=4) (N:=some 49) #[true,true,true,true,true,true,true,true,false,false,false] rfl rfl (one_of HT_.out (by kernel_rfl)) (by decide) (fun K hK => ?_)
             refine Kd.R_append_rows_step (Kd.int .u8) (w0:=w) w.heap.size (by rfl) (.tmp 45) (.tmp 48) 38 5 (.int .u8 0) 1 rfl Try.underlying38 info5 rfl (by decide) (by omega) v208 y207 t210 _ _ _ (fun k_ => some k_ ≠ (.slice Ao37 y201.length co37 : Value).ownBlock ∧ some k_ ≠ (.slice Ao42 t210.length co42 : Value).ownBlock) (fun _ => False) rfl rfl ?aO ?aR (fun _ _ h => h) (fun _ h => h.elim) ?aF ?aB ?aS ?aL ?_
             (case aR => repeat (first|exact (Kd.R_reads' HO212.out).2.2|(with_reducible refine Kd.C_alloc ?_ _)|(with_reducible refine Kd.C_drewN ?_ _)|(with_reducible refine Kd.C_drew ?_)))
             (case aB => exact (by repeat (first|(with_reducible first|exact HB.out|apply qg|apply qh|apply qi|refine qj ?_ GE183.out|refine qj ?_ GE200.out)|exact HB.out)))
             (case aF => exact (fun k_ hk => ⟨Kd.fresh' (Kd.R_lt (by (with_reducible repeat (first|apply qd|apply qe|apply qf));exact HO203.out)) k_ hk,Kd.fresh' (Kd.R_lt (by (with_reducible repeat (first|apply qd|apply qe|apply qf));exact HO212.out)) k_ hk⟩))
             (case aO => exact (by (with_reducible repeat (first|apply qd|apply qe|apply qf));exact HO209.out))
             (case aS => exact (qm (by repeat (first|(with_reducible first|exact HB.out|apply qg|apply qh|apply qi|refine qj ?_ GE183.out|refine qj ?_ GE200.out)|exact HB.out))))
             (case aL => have:=LMc22.out;omega)
             intro v214 w41 ho hb hg hat
             rw [← Ny213.out] at ho
             have n0_:=qk (blk_grown (g:=gb183) (o:=.cells #[.int .i64 a0_0,.int .i64 a0_1,.slice (some ad199) l0_2.length c0_2,.slice A0_3 l0_3.length c0_3] 31 (0,0)) (by (with_reducible repeat (first|apply qa|apply qb|apply qc));exact BK183.out) hg (Kd.R_ne HO209.out BK183.out (by decide)))
             have n1_:=qk (blk_grown (g:=gb200) (o:=.cells #[.string ((rd_T70 l0_2 x4_1).f0),.int .i64 ((rd_T70 l0_2 x4_1).f1),.int .i64 ((rd_T70 l0_2 x4_1).f2),.int .i64 ((rd_T70 l0_2 x4_1).f3),.slice A199_4 ((rd_T70 l0_2 x4_1).f4).length c199_4] 70 (0,0)) (by (with_reducible repeat (first|apply qa|apply qb|apply qc));exact BK200.out) hg (Kd.R_ne HO209.out BK200.out (by decide)))
             have n2_:=qk (Kd.R_after (ok:=(fun k_ => some k_ ≠ (.slice Ao42 t210.length co42 : Value).ownBlock)) (by (with_reducible repeat (first|apply qd|apply qe|apply qf));exact qn HO203.out (fun _ hk => ⟨hk.2,hk.1.2⟩)) hg hat)
             have n3_:=qk (Kd.R_after (ok:=(fun k_ => some k_ ≠ (.slice Ao37 y201.length co37 : Value).ownBlock)) (by (with_reducible repeat (first|apply qd|apply qe|apply qf));exact qn HO212.out (fun _ hk => ⟨hk.1.2,hk.2⟩)) hg hat)
             have n4_:=qk (hb)
             have n5_:=qk (ho)
             clear BK183
             clear BK200
             clear HO203
             clear HO212
             clear HB
             clear HO209
             have BK183:=n0_
             have BK200:=n1_
             have HO203:=n2_
             have HO212:=n3_
             have HB:=n4_
             have HO215:=n5_
             clear n0_ n1_ n2_ n3_ n4_ n5_
             clear ho hb hg hat
             refine hK.out _ _ ⟨(blk_cell BK200.out 0).trans rfl,(blk_cell BK200.out 1).trans rfl,(blk_cell BK200.out 2).trans rfl,(blk_cell BK200.out 3).trans rfl,(blk_cell BK200.out 4).trans rfl⟩ (fun hHeld => ?_)
             clear hK K
             refine norm_ (a':=?_) ?_ ?_
             rotate_left
             ·
              show Act.put _ (some 49) _ = _
              simp only [Act.put,sA,sB,sC,i64_w,i32_w]
              rfl
             refine one_ (i:=8) (N:=some 53) #[true,true,true,true,true,true,true,true,true,false,false] rfl rfl (one_of HT_.out (by kernel_rfl)) (by decide) (fun K hK => ?_)
             refine goes_ Try.func79 (by kernel_rfl) rfl #[.int .i64 (wrap64 (((rd_T70 l0_2 x4_1).f2) + 1)),.int .i64 2] (by rfl) rfl rfl (by (try simp only [sE,sH,sI]);first|done|rfl|(simp only [sG,sF];rfl)) ?_
             with_reducible refine (spec_l02Number.calls k1 (wrap64 (((rd_T70 l0_2 x4_1).f2) + 1)) 2 t216 _ A23.out).mono ?_
             rintro e w43 ⟨v217,rfl,ho0,hb⟩
             refine ⟨_,rfl,?_⟩
             have n0_:=qk (Kd.R_elder' (by (with_reducible repeat (first|apply qd|apply qe|apply qf));exact HO203.out) (Kd.R_base ho0) hb)
             have n1_:=qk (Kd.R_elder' (by (with_reducible repeat (first|apply qd|apply qe|apply qf));exact HO212.out) (Kd.R_base ho0) hb)
             have n2_:=qk (Kd.R_elder' (by (with_reducible repeat (first|apply qd|apply qe|apply qf));exact HO215.out) (Kd.R_base ho0) hb)
             have n3_:=qk (Kd.R_lower (Kd.R_new' (Kd.R_new' (Kd.R_new' ho0 (Kd.R_lt (by (with_reducible repeat (first|apply qd|apply qe|apply qf));exact HO203.out))) (Kd.R_lt (by (with_reducible repeat (first|apply qd|apply qe|apply qf));exact HO212.out))) (Kd.R_lt (by (with_reducible repeat (first|apply qd|apply qe|apply qf));exact HO215.out))) (qm (by repeat (first|(with_reducible first|exact HB.out|apply qg|apply qh|apply qi|refine qj ?_ GE183.out|refine qj ?_ GE200.out)|exact HB.out))))
             have n4_:=qk (ql (g:=gb183) (o:=.cells #[.int .i64 a0_0,.int .i64 a0_1,.slice (some ad199) l0_2.length c0_2,.slice A0_3 l0_3.length c0_3] 31 (0,0)) (by (with_reducible repeat (first|apply qa|apply qb|apply qc));exact BK183.out) hb)
             have n5_:=qk (ql (g:=gb200) (o:=.cells #[.string ((rd_T70 l0_2 x4_1).f0),.int .i64 ((rd_T70 l0_2 x4_1).f1),.int .i64 ((rd_T70 l0_2 x4_1).f2),.int .i64 ((rd_T70 l0_2 x4_1).f3),.slice A199_4 ((rd_T70 l0_2 x4_1).f4).length c199_4] 70 (0,0)) (by (with_reducible repeat (first|apply qa|apply qb|apply qc));exact BK200.out) hb)
             have n6_:=qk (sN (by repeat (first|(with_reducible first|exact HB.out|apply qg|apply qh|apply qi|refine qj ?_ GE183.out|refine qj ?_ GE200.out)|exact HB.out)) hb)
             clear HO203
             clear HO212
             clear HO215
             clear BK183
             clear BK200
             clear HB
             have HO203:=n0_
             have HO212:=n1_
             have HO215:=n2_
             have HO218:=n3_
             have BK183:=n4_
             have BK200:=n5_
             have HB:=n6_
             clear n0_ n1_ n2_ n3_ n4_ n5_ n6_
             (try clear hb)
             (try clear hb2)
             (try clear hk)
             (try clear hi)
             (try clear ho0)
             obtain ⟨Ao45,co45,eo45⟩:=Kd.R_slice HO218.out
             (first|subst eo45|(injection eo45 with f1_ f2_ f3_;have f4_:=f1_.symm;have f5_:=f3_.symm;clear f1_ f2_ f3_;subst f4_;subst f5_))
             refine hK.out _ _ ⟨(blk_cell BK200.out 0).trans rfl,(blk_cell BK200.out 1).trans rfl,(blk_cell BK200.out 2).trans rfl,(blk_cell BK200.out 3).trans rfl,(blk_cell BK200.out 4).trans rfl⟩ (fun hHeld => ?_)
             clear hK K
             refine norm_ (a':=?_) ?_ ?_
             rotate_left
             ·
              show Act.put _ (some 53) _ = _
              simp only [Act.put,sA,sB,sC,i64_w,i32_w]
              rfl
             refine one_ (i:=9) (N:=some 54) #[true,true,true,true,true,true,true,true,true,true,false] rfl rfl (one_of HT_.out (by kernel_rfl)) (by decide) (fun K hK => ?_)
             refine Kd.R_append_rows_step (Kd.int .u8) (w0:=w) w.heap.size (by rfl) (.tmp 49) (.tmp 53) 38 5 (.int .u8 0) 1 rfl Try.underlying38 info5 rfl (by decide) (by omega) v214 y213 t216 _ _ _ (fun k_ => some k_ ≠ (.slice Ao37 y201.length co37 : Value).ownBlock ∧ some k_ ≠ (.slice Ao42 t210.length co42 : Value).ownBlock ∧ some k_ ≠ (.slice Ao45 t216.length co45 : Value).ownBlock) (fun _ => False) rfl rfl ?aO ?aR (fun _ _ h => h) (fun _ h => h.elim) ?aF ?aB ?aS ?aL ?_
             (case aR => repeat (first|exact (Kd.R_reads' HO218.out).2.2|(with_reducible refine Kd.C_alloc ?_ _)|(with_reducible refine Kd.C_drewN ?_ _)|(with_reducible refine Kd.C_drew ?_)))
             (case aB => exact (by repeat (first|(with_reducible first|exact HB.out|apply qg|apply qh|apply qi|refine qj ?_ GE183.out|refine qj ?_ GE200.out)|exact HB.out)))
             (case aF => exact (fun k_ hk => ⟨Kd.fresh' (Kd.R_lt (by (with_reducible repeat (first|apply qd|apply qe|apply qf));exact HO203.out)) k_ hk,Kd.fresh' (Kd.R_lt (by (with_reducible repeat (first|apply qd|apply qe|apply qf));exact HO212.out)) k_ hk,Kd.fresh' (Kd.R_lt (by (with_reducible repeat (first|apply qd|apply qe|apply qf));exact HO218.out)) k_ hk⟩))
             (case aO => exact (by (with_reducible repeat (first|apply qd|apply qe|apply qf));exact qn HO215.out (fun _ hk => ⟨hk.1.1,⟨hk.1.2,hk.2⟩⟩)))
             (case aS => exact (qm (by repeat (first|(with_reducible first|exact HB.out|apply qg|apply qh|apply qi|refine qj ?_ GE183.out|refine qj ?_ GE200.out)|exact HB.out))))
             (case aL => have:=LMc24.out;omega)
             intro v220 w44 ho hb hg hat
             rw [← Ny219.out] at ho
             have n0_:=qk (blk_grown (g:=gb183) (o:=.cells #[.int .i64 a0_0,.int .i64 a0_1,.slice (some ad199) l0_2.length c0_2,.slice A0_3 l0_3.length c0_3] 31 (0,0)) (by (with_reducible repeat (first|apply qa|apply qb|apply qc));exact BK183.out) hg (Kd.R_ne HO215.out BK183.out (by decide)))
             have n1_:=qk (blk_grown (g:=gb200) (o:=.cells #[.string ((rd_T70 l0_2 x4_1).f0),.int .i64 ((rd_T70 l0_2 x4_1).f1),.int .i64 ((rd_T70 l0_2 x4_1).f2),.int .i64 ((rd_T70 l0_2 x4_1).f3),.slice A199_4 ((rd_T70 l0_2 x4_1).f4).length c199_4] 70 (0,0)) (by (with_reducible repeat (first|apply qa|apply qb|apply qc));exact BK200.out) hg (Kd.R_ne HO215.out BK200.out (by decide)))
             have n2_:=qk (Kd.R_after (ok:=(fun k_ => some k_ ≠ (.slice Ao42 t210.length co42 : Value).ownBlock ∧ some k_ ≠ (.slice Ao45 t216.length co45 : Value).ownBlock)) (by (with_reducible repeat (first|apply qd|apply qe|apply qf));exact qn HO203.out (fun _ hk => ⟨⟨hk.1.1,hk.2⟩,hk.1.2⟩)) hg hat)
             have n3_:=qk (Kd.R_after (ok:=(fun k_ => some k_ ≠ (.slice Ao37 y201.length co37 : Value).ownBlock ∧ some k_ ≠ (.slice Ao45 t216.length co45 : Value).ownBlock)) (by (with_reducible repeat (first|apply qd|apply qe|apply qf));exact qn HO212.out (fun _ hk => ⟨⟨hk.1.1,hk.2⟩,hk.1.2⟩)) hg hat)
             have n4_:=qk (Kd.R_after (ok:=(fun k_ => some k_ ≠ (.slice Ao37 y201.length co37 : Value).ownBlock ∧ some k_ ≠ (.slice Ao42 t210.length co42 : Value).ownBlock)) (by (with_reducible repeat (first|apply qd|apply qe|apply qf));exact qn HO218.out (fun _ hk => ⟨⟨hk.1.1.2,hk.1.2⟩,hk.2⟩)) hg hat)
             have n5_:=qk (hb)
             have n6_:=qk (ho)
             clear BK183
             clear BK200
             clear HO203
             clear HO212
             clear HO218
             clear HB
             clear HO215
             have BK183:=n0_
             have BK200:=n1_
             have HO203:=n2_
             have HO212:=n3_
             have HO218:=n4_
             have HB:=n5_
             have HO221:=n6_
             clear n0_ n1_ n2_ n3_ n4_ n5_ n6_
             clear ho hb hg hat
             refine hK.out _ _ ⟨(blk_cell BK200.out 0).trans rfl,(blk_cell BK200.out 1).trans rfl,(blk_cell BK200.out 2).trans rfl,(blk_cell BK200.out 3).trans rfl,(blk_cell BK200.out 4).trans rfl⟩ (fun hHeld => ?_)
             clear hK K
             refine norm_ (a':=?_) ?_ ?_
             rotate_left
             ·
              show Act.put _ (some 54) _ = _
              simp only [Act.put,sA,sB,sC,i64_w,i32_w]
              rfl
             refine pure_ (i:=10) (N:=some 3) (v:=?_) (a':=?_) #[true,true,true,true,true,true,true,true,true,true,true] rfl rfl (any_of HT_.out (by kernel_rfl)) (fun _ _ _ h => h) (Or.inl ⟨by rfl,?_⟩) ?_ ?_
             rotate_left
             ·
              intro w'
              go_simp
              with_reducible rfl
             rotate_left
             ·
              simp only [Act.put,sA,sB,sC,i64_w,i32_w]
              rfl
             refine done_ (done_of HT_.out (by kernel_rfl)) ?_
             obtain ⟨Ao46,co46,eo46⟩:=Kd.R_slice HO221.out
             subst eo46
             try go_wp2
             have n0_:=qk (qf HO203.out)
             have n1_:=qk (qf HO212.out)
             have n2_:=qk (qf HO218.out)
             have n3_:=qk (qf HO221.out)
             have n4_:=qk (qb BK183.out)
             have n5_:=qk (qb BK200.out)
             have n6_:=qk (qi HB.out)
             clear HO203
             clear HO212
             clear HO218
             clear HO221
             clear BK183
             clear BK200
             clear HB
             have HO203:=n0_
             have HO212:=n1_
             have HO218:=n2_
             have HO221:=n3_
             have BK183:=n4_
             have BK200:=n5_
             have HB:=n6_
             clear n0_ n1_ n2_ n3_ n4_ n5_ n6_
             refine start_ (n:=12) (S:=fun w' => w'.cell? ⟨gb200,0,none⟩ = some (.string ((rd_T70 l0_2 x4_1).f0)) ∧ w'.cell? ⟨gb200,1,none⟩ = some (.int .i64 ((rd_T70 l0_2 x4_1).f1)) ∧ w'.cell? ⟨gb200,2,none⟩ = some (.int .i64 ((rd_T70 l0_2 x4_1).f2)) ∧ w'.cell? ⟨gb200,3,none⟩ = some (.int .i64 ((rd_T70 l0_2 x4_1).f3)) ∧ w'.cell? ⟨gb200,4,none⟩ = some (.slice A199_4 ((rd_T70 l0_2 x4_1).f4).length c199_4)) (ds:=[]) #[false,false,false,false,false,false,false,false,false,false,false,false] (by kernel_rfl) rfl rfl ⟨(blk_cell BK200.out 0).trans rfl,(blk_cell BK200.out 1).trans rfl,(blk_cell BK200.out 2).trans rfl,(blk_cell BK200.out 3).trans rfl,(blk_cell BK200.out 4).trans rfl⟩ (fun hHeld => ?_);refine with_tabW spec_l05Bytes.tab9 spec_l05Bytes.bits9 (fun HT_ HW_ => ?_)
             generalize w44.drew = w47 at HO203 HO212 HO218 HO221 BK183 BK200 HB hHeld ⊢
             refine pure_ (i:=0) (N:=some 55) (v:=?_) (a':=?_) #[true,false,false,false,false,false,false,false,false,false,false,false] rfl rfl (any_of HT_.out (by kernel_rfl)) (fun _ _ _ h => h) (Or.inl ⟨by rfl,?_⟩) ?_ ?_
             rotate_left
             ·
              intro w'
              go_simp
              with_reducible rfl
             rotate_left
             ·
              simp only [Act.put,sA,sB,sC,i64_w,i32_w]
              rfl
             refine pure_ (i:=1) (N:=some 56) (v:=?_) (a':=?_) #[true,true,false,false,false,false,false,false,false,false,false,false] rfl rfl (any_of HT_.out (by kernel_rfl)) (fun _ _ _ h => h) (Or.inl ⟨by rfl,?_⟩) ?_ ?_
             rotate_left
             ·
              intro w'
              go_simp
              with_reducible rfl
             rotate_left
             ·
              simp only [Act.put,sA,sB,sC,i64_w,i32_w]
              rfl
             refine pure_ (i:=5) (N:=some 60) (v:=?_) (a':=?_) #[true,true,false,false,false,true,false,false,false,false,false,false] rfl rfl (any_of HT_.out (by kernel_rfl)) (fun _ _ _ h => h) (Or.inl ⟨by rfl,?_⟩) ?_ ?_
             rotate_left
             ·
              intro w'
              go_simp
              with_reducible rfl
             rotate_left
             ·
              simp only [Act.put,sA,sB,sC,i64_w,i32_w]
              rfl
             refine take_ (i:=2) (N:=some 57) (v:=?_) (a':=?_) #[true,true,true,false,false,true,false,false,false,false,false,false] rfl rfl (take_ofW HT_.out HW_.out (by kernel_rfl)) (fun _ _ _ h => h) (Or.inl ⟨by rfl,?_⟩) hHeld ?_ ?_
             rotate_left
             ·
              rintro w' ⟨s0,s1,s2,s3,s4⟩
              go_simp
              with_reducible rfl
             rotate_left
             ·
              simp only [Act.put,sA,sB,sC,i64_w,i32_w]
              rfl
             refine take_ (i:=6) (N:=some 61) (v:=?_) (a':=?_) #[true,true,true,false,false,true,true,false,false,false,false,false] rfl rfl (take_ofW HT_.out HW_.out (by kernel_rfl)) (fun _ _ _ h => h) (Or.inl ⟨by rfl,?_⟩) hHeld ?_ ?_
             rotate_left
             ·
              rintro w' ⟨s0,s1,s2,s3,s4⟩
              go_simp
              with_reducible rfl
             rotate_left
             ·
              simp only [Act.put,sA,sB,sC,i64_w,i32_w]
              rfl
             refine pure_ (i:=7) (N:=some 62) (v:=?_) (a':=?_) #[true,true,true,false,false,true,true,true,false,false,false,false] rfl rfl (any_of HT_.out (by kernel_rfl)) (fun _ _ _ h => h) (Or.inl ⟨by rfl,?_⟩) ?_ ?_
             rotate_left
             ·
              intro w'
              go_simp
              with_reducible rfl
             rotate_left
             ·
              simp only [Act.put,sA,sB,sC,i64_w,i32_w]
              rfl
             refine pure_ (i:=8) (N:=some 63) (v:=?_) (a':=?_) #[true,true,true,false,false,true,true,true,true,false,false,false] rfl rfl (any_of HT_.out (by kernel_rfl)) (fun _ _ _ h => h) (Or.inl ⟨by rfl,?_⟩) ?_ ?_
             rotate_left
             ·
              intro w'
              go_simp
              with_reducible rfl
             rotate_left
             ·
              simp only [Act.put,sA,sB,sC,i64_w,i32_w]
              rfl
             refine join_ (σ:=Value × Value × Value) 2 #[true,true,true,true,true,true,true,true,true,true,false,false] (fun s_ => [(58,s_.1),(59,s_.2.1),(64,s_.2.2)]) (fun s_ w' => (w'.cell? ⟨gb200,0,none⟩ = some (.string ((rd_T70 l0_2 x4_1).f0)) ∧ w'.cell? ⟨gb200,1,none⟩ = some (.int .i64 ((rd_T70 l0_2 x4_1).f1)) ∧ w'.cell? ⟨gb200,2,none⟩ = some (.int .i64 ((rd_T70 l0_2 x4_1).f2)) ∧ w'.cell? ⟨gb200,3,none⟩ = some (.int .i64 ((rd_T70 l0_2 x4_1).f3)) ∧ w'.cell? ⟨gb200,4,none⟩ = some (.slice A199_4 ((rd_T70 l0_2 x4_1).f4).length c199_4)) ∧ (Kd.R (Kd.int .u8) 5 w' w.heap.size (fun k_ => some k_ ≠ (.slice Ao42 t210.length co42 : Value).ownBlock ∧ some k_ ≠ (.slice Ao45 t216.length co45 : Value).ownBlock ∧ some k_ ≠ (s_.1 : Value).ownBlock ∧ some k_ ≠ (s_.2.1 : Value).ownBlock ∧ some k_ ≠ (s_.2.2 : Value).ownBlock) (.slice Ao37 y201.length co37) y201) ∧ (Kd.R (Kd.int .u8) 5 w' w.heap.size (fun k_ => some k_ ≠ (.slice Ao37 y201.length co37 : Value).ownBlock ∧ some k_ ≠ (.slice Ao45 t216.length co45 : Value).ownBlock ∧ some k_ ≠ (s_.1 : Value).ownBlock ∧ some k_ ≠ (s_.2.1 : Value).ownBlock ∧ some k_ ≠ (s_.2.2 : Value).ownBlock) (.slice Ao42 t210.length co42) t210) ∧ (Kd.R (Kd.int .u8) 5 w' w.heap.size (fun k_ => some k_ ≠ (.slice Ao37 y201.length co37 : Value).ownBlock ∧ some k_ ≠ (.slice Ao42 t210.length co42 : Value).ownBlock ∧ some k_ ≠ (s_.1 : Value).ownBlock ∧ some k_ ≠ (s_.2.1 : Value).ownBlock ∧ some k_ ≠ (s_.2.2 : Value).ownBlock) (.slice Ao45 t216.length co45) t216) ∧ (Kd.R (Kd.int .u8) 5 w' w.heap.size (fun k_ => some k_ ≠ (.slice Ao37 y201.length co37 : Value).ownBlock ∧ some k_ ≠ (.slice Ao42 t210.length co42 : Value).ownBlock ∧ some k_ ≠ (.slice Ao45 t216.length co45 : Value).ownBlock ∧ some k_ ≠ (s_.2.1 : Value).ownBlock ∧ some k_ ≠ (s_.2.2 : Value).ownBlock) s_.1 t222) ∧ (Kd.R (Kd.int .u8) 5 w' w.heap.size (fun k_ => some k_ ≠ (.slice Ao37 y201.length co37 : Value).ownBlock ∧ some k_ ≠ (.slice Ao42 t210.length co42 : Value).ownBlock ∧ some k_ ≠ (.slice Ao45 t216.length co45 : Value).ownBlock ∧ some k_ ≠ (s_.1 : Value).ownBlock ∧ some k_ ≠ (s_.2.2 : Value).ownBlock) s_.2.1 y225) ∧ (Kd.R (Kd.int .u8) 5 w' w.heap.size (fun k_ => some k_ ≠ (.slice Ao37 y201.length co37 : Value).ownBlock ∧ some k_ ≠ (.slice Ao42 t210.length co42 : Value).ownBlock ∧ some k_ ≠ (.slice Ao45 t216.length co45 : Value).ownBlock ∧ some k_ ≠ (s_.1 : Value).ownBlock ∧ some k_ ≠ (s_.2.1 : Value).ownBlock) s_.2.2 y228) ∧ (w'.heap[gb183]? = some (.cells #[.int .i64 a0_0,.int .i64 a0_1,.slice (some ad199) l0_2.length c0_2,.slice A0_3 l0_3.length c0_3] 31 (0,0))) ∧ (w'.heap[gb200]? = some (.cells #[.string ((rd_T70 l0_2 x4_1).f0),.int .i64 ((rd_T70 l0_2 x4_1).f1),.int .i64 ((rd_T70 l0_2 x4_1).f2),.int .i64 ((rd_T70 l0_2 x4_1).f3),.slice A199_4 ((rd_T70 l0_2 x4_1).f4).length c199_4] 70 (0,0))) ∧ (Below w.heap.size w w')) ?_ ?_
             rotate_left
             ·
              intro hCont
              refine two_ (i:=3) (j:=9) (Ni:=some 58) (Nj:=some 64) #[true,true,true,true,false,true,true,true,true,false,false,false] #[true,true,true,false,false,true,true,true,true,true,false,false] rfl rfl rfl rfl (two_of HT_.out (by kernel_rfl)) (by decide) (by decide) (fun K hK => ?_) (fun K hK => ?_)
              ·
               skip
               refine goes_ Try.func79 (by kernel_rfl) rfl #[.int .i64 ((rd_T70 l0_2 x4_1).f3),.int .i64 4] (by rfl) rfl rfl (by (try simp only [sE,sH,sI]);first|done|rfl|(simp only [sG,sF];rfl)) ?_
               with_reducible refine (spec_l02Number.calls k1 ((rd_T70 l0_2 x4_1).f3) 4 t222 _ A25.out).mono ?_
               rintro e w48 ⟨v223,rfl,ho0,hb⟩
               refine ⟨_,rfl,?_⟩
               have n0_:=qk (Kd.R_elder' (by (with_reducible repeat (first|apply qd|apply qe|apply qf));exact HO203.out) (Kd.R_base ho0) hb)
               have n1_:=qk (Kd.R_elder' (by (with_reducible repeat (first|apply qd|apply qe|apply qf));exact HO212.out) (Kd.R_base ho0) hb)
               have n2_:=qk (Kd.R_elder' (by (with_reducible repeat (first|apply qd|apply qe|apply qf));exact HO218.out) (Kd.R_base ho0) hb)
               have n3_:=qk (Kd.R_elder' (by (with_reducible repeat (first|apply qd|apply qe|apply qf));exact HO221.out) (Kd.R_base ho0) hb)
               have n4_:=qk (Kd.R_lower (Kd.R_new' (Kd.R_new' (Kd.R_new' (Kd.R_new' ho0 (Kd.R_lt (by (with_reducible repeat (first|apply qd|apply qe|apply qf));exact HO203.out))) (Kd.R_lt (by (with_reducible repeat (first|apply qd|apply qe|apply qf));exact HO212.out))) (Kd.R_lt (by (with_reducible repeat (first|apply qd|apply qe|apply qf));exact HO218.out))) (Kd.R_lt (by (with_reducible repeat (first|apply qd|apply qe|apply qf));exact HO221.out))) (qm (by repeat (first|(with_reducible first|exact HB.out|apply qg|apply qh|apply qi|refine qj ?_ GE183.out|refine qj ?_ GE200.out)|exact HB.out))))
               have n5_:=qk (ql (g:=gb183) (o:=.cells #[.int .i64 a0_0,.int .i64 a0_1,.slice (some ad199) l0_2.length c0_2,.slice A0_3 l0_3.length c0_3] 31 (0,0)) (by (with_reducible repeat (first|apply qa|apply qb|apply qc));exact BK183.out) hb)
               have n6_:=qk (ql (g:=gb200) (o:=.cells #[.string ((rd_T70 l0_2 x4_1).f0),.int .i64 ((rd_T70 l0_2 x4_1).f1),.int .i64 ((rd_T70 l0_2 x4_1).f2),.int .i64 ((rd_T70 l0_2 x4_1).f3),.slice A199_4 ((rd_T70 l0_2 x4_1).f4).length c199_4] 70 (0,0)) (by (with_reducible repeat (first|apply qa|apply qb|apply qc));exact BK200.out) hb)
               have n7_:=qk (sN (by repeat (first|(with_reducible first|exact HB.out|apply qg|apply qh|apply qi|refine qj ?_ GE183.out|refine qj ?_ GE200.out)|exact HB.out)) hb)
               clear HO203
               clear HO212
               clear HO218
               clear HO221
               clear BK183
               clear BK200
               clear HB
               have HO203:=n0_
               have HO212:=n1_
               have HO218:=n2_
               have HO221:=n3_
               have HO224:=n4_
               have BK183:=n5_
               have BK200:=n6_
               have HB:=n7_
               clear n0_ n1_ n2_ n3_ n4_ n5_ n6_ n7_
               (try clear hb)
               (try clear hb2)
               (try clear hk)
               (try clear hi)
               (try clear ho0)
               obtain ⟨Ao50,co50,eo50⟩:=Kd.R_slice HO224.out
               (first|subst eo50|(injection eo50 with f1_ f2_ f3_;have f4_:=f1_.symm;have f5_:=f3_.symm;clear f1_ f2_ f3_;subst f4_;subst f5_))
               refine hK.out _ _ ⟨(blk_cell BK200.out 0).trans rfl,(blk_cell BK200.out 1).trans rfl,(blk_cell BK200.out 2).trans rfl,(blk_cell BK200.out 3).trans rfl,(blk_cell BK200.out 4).trans rfl⟩ (fun hHeld => ?_)
               clear hK K
               refine norm_ (a':=?_) ?_ ?_
               rotate_left
               ·
                show Act.put _ (some 58) _ = _
                simp only [Act.put,sA,sB,sC,i64_w,i32_w]
                rfl
               refine two_ (i:=4) (j:=9) (Ni:=some 59) (Nj:=some 64) #[true,true,true,true,true,true,true,true,true,false,false,false] #[true,true,true,true,false,true,true,true,true,true,false,false] rfl rfl rfl rfl (two_of HT_.out (by kernel_rfl)) (by decide) (by decide) (fun K hK => ?_) (fun K hK => ?_)
               ·
                skip
                refine Kd.R_append_rows_step (Kd.int .u8) (w0:=w) w.heap.size (by rfl) (.tmp 55) (.tmp 58) 38 5 (.int .u8 0) 1 rfl Try.underlying38 info5 rfl (by decide) (by omega) (.slice Ao46 y219.length co46) y219 t222 _ _ _ (fun k_ => some k_ ≠ (.slice Ao37 y201.length co37 : Value).ownBlock ∧ some k_ ≠ (.slice Ao42 t210.length co42 : Value).ownBlock ∧ some k_ ≠ (.slice Ao45 t216.length co45 : Value).ownBlock ∧ some k_ ≠ (.slice Ao50 t222.length co50 : Value).ownBlock) (fun _ => False) rfl rfl ?aO ?aR (fun _ _ h => h) (fun _ h => h.elim) ?aF ?aB ?aS ?aL ?_
                (case aR => repeat (first|exact (Kd.R_reads' HO224.out).2.2|(with_reducible refine Kd.C_alloc ?_ _)|(with_reducible refine Kd.C_drewN ?_ _)|(with_reducible refine Kd.C_drew ?_)))
                (case aB => exact (by repeat (first|(with_reducible first|exact HB.out|apply qg|apply qh|apply qi|refine qj ?_ GE183.out|refine qj ?_ GE200.out)|exact HB.out)))
                (case aF => exact (fun k_ hk => ⟨Kd.fresh' (Kd.R_lt (by (with_reducible repeat (first|apply qd|apply qe|apply qf));exact HO203.out)) k_ hk,Kd.fresh' (Kd.R_lt (by (with_reducible repeat (first|apply qd|apply qe|apply qf));exact HO212.out)) k_ hk,Kd.fresh' (Kd.R_lt (by (with_reducible repeat (first|apply qd|apply qe|apply qf));exact HO218.out)) k_ hk,Kd.fresh' (Kd.R_lt (by (with_reducible repeat (first|apply qd|apply qe|apply qf));exact HO224.out)) k_ hk⟩))
                (case aO => exact (by (with_reducible repeat (first|apply qd|apply qe|apply qf));exact qn HO221.out (fun _ hk => ⟨hk.1.1,⟨hk.1.2.1,⟨hk.1.2.2,hk.2⟩⟩⟩)))
                (case aS => exact (qm (by repeat (first|(with_reducible first|exact HB.out|apply qg|apply qh|apply qi|refine qj ?_ GE183.out|refine qj ?_ GE200.out)|exact HB.out))))
                (case aL => have:=LMc26.out;omega)
                intro v226 w49 ho hb hg hat
                rw [← Ny225.out] at ho
                have n0_:=qk (blk_grown (g:=gb183) (o:=.cells #[.int .i64 a0_0,.int .i64 a0_1,.slice (some ad199) l0_2.length c0_2,.slice A0_3 l0_3.length c0_3] 31 (0,0)) (by (with_reducible repeat (first|apply qa|apply qb|apply qc));exact BK183.out) hg (Kd.R_ne HO221.out BK183.out (by decide)))
                have n1_:=qk (blk_grown (g:=gb200) (o:=.cells #[.string ((rd_T70 l0_2 x4_1).f0),.int .i64 ((rd_T70 l0_2 x4_1).f1),.int .i64 ((rd_T70 l0_2 x4_1).f2),.int .i64 ((rd_T70 l0_2 x4_1).f3),.slice A199_4 ((rd_T70 l0_2 x4_1).f4).length c199_4] 70 (0,0)) (by (with_reducible repeat (first|apply qa|apply qb|apply qc));exact BK200.out) hg (Kd.R_ne HO221.out BK200.out (by decide)))
                have n2_:=qk (Kd.R_after (ok:=(fun k_ => some k_ ≠ (.slice Ao42 t210.length co42 : Value).ownBlock ∧ some k_ ≠ (.slice Ao45 t216.length co45 : Value).ownBlock ∧ some k_ ≠ (.slice Ao50 t222.length co50 : Value).ownBlock)) (by (with_reducible repeat (first|apply qd|apply qe|apply qf));exact qn HO203.out (fun _ hk => ⟨⟨hk.1.1.1,⟨hk.1.1.2,hk.2⟩⟩,hk.1.2⟩)) hg hat)
                have n3_:=qk (Kd.R_after (ok:=(fun k_ => some k_ ≠ (.slice Ao37 y201.length co37 : Value).ownBlock ∧ some k_ ≠ (.slice Ao45 t216.length co45 : Value).ownBlock ∧ some k_ ≠ (.slice Ao50 t222.length co50 : Value).ownBlock)) (by (with_reducible repeat (first|apply qd|apply qe|apply qf));exact qn HO212.out (fun _ hk => ⟨⟨hk.1.1.1,⟨hk.1.1.2,hk.2⟩⟩,hk.1.2⟩)) hg hat)
                have n4_:=qk (Kd.R_after (ok:=(fun k_ => some k_ ≠ (.slice Ao37 y201.length co37 : Value).ownBlock ∧ some k_ ≠ (.slice Ao42 t210.length co42 : Value).ownBlock ∧ some k_ ≠ (.slice Ao50 t222.length co50 : Value).ownBlock)) (by (with_reducible repeat (first|apply qd|apply qe|apply qf));exact qn HO218.out (fun _ hk => ⟨⟨hk.1.1.1,⟨hk.1.1.2,hk.2⟩⟩,hk.1.2⟩)) hg hat)
                have n5_:=qk (Kd.R_after (ok:=(fun k_ => some k_ ≠ (.slice Ao37 y201.length co37 : Value).ownBlock ∧ some k_ ≠ (.slice Ao42 t210.length co42 : Value).ownBlock ∧ some k_ ≠ (.slice Ao45 t216.length co45 : Value).ownBlock)) (by (with_reducible repeat (first|apply qd|apply qe|apply qf));exact qn HO224.out (fun _ hk => ⟨⟨hk.1.1.1.2,⟨hk.1.1.2,hk.1.2⟩⟩,hk.2⟩)) hg hat)
                have n6_:=qk (hb)
                have n7_:=qk (ho)
                clear BK183
                clear BK200
                clear HO203
                clear HO212
                clear HO218
                clear HO224
                clear HB
                clear HO221
                have BK183:=n0_
                have BK200:=n1_
                have HO203:=n2_
                have HO212:=n3_
                have HO218:=n4_
                have HO224:=n5_
                have HB:=n6_
                have HO227:=n7_
                clear n0_ n1_ n2_ n3_ n4_ n5_ n6_ n7_
                clear ho hb hg hat
                refine hK.out _ _ ⟨(blk_cell BK200.out 0).trans rfl,(blk_cell BK200.out 1).trans rfl,(blk_cell BK200.out 2).trans rfl,(blk_cell BK200.out 3).trans rfl,(blk_cell BK200.out 4).trans rfl⟩ (fun hHeld => ?_)
                clear hK K
                refine norm_ (a':=?_) ?_ ?_
                rotate_left
                ·
                 show Act.put _ (some 59) _ = _
                 simp only [Act.put,sA,sB,sC,i64_w,i32_w]
                 rfl
                refine one_ (i:=9) (N:=some 64) #[true,true,true,true,true,true,true,true,true,true,false,false] rfl rfl (one_of HT_.out (by kernel_rfl)) (by decide) (fun K hK => ?_)
                refine Kd.R_lit_step (Kd.int .u8) _ 5 ?hg (N:=64) ?hd (xs:=([((((rd_T70 l0_2 x4_1).f4).length : Int)) % 256] : List Int)) (inner:=[.int .u8 (((((rd_T70 l0_2 x4_1).f4).length : Int)) % 256)]) (ok:=fun _ => True) (okp:=fun _ => True) ?hr ?hp (fun _ hk => hk) trivial (Below.refl _ _) (Nat.le_refl _) (by simp) ?_;(case hd => rfl);(case hg => rfl);(case hr => first|(go_simp;done)|(go_simp;rfl));(case hp => exact (Reps.one (show Kd.M (Kd.int .u8) _ _ _ (((((rd_T70 l0_2 x4_1).f4).length : Int)) % 256) [.int .u8 (((((rd_T70 l0_2 x4_1).f4).length : Int)) % 256)] from rfl) (Reps.none _ _)))
                intro v229 w51 ho52 hb hg_ hnew_
                clear hg_ hnew_
                (first|rw [← Ny228.out] at ho52|(simp only [Int.reduceToNat] at ho52;rw [← Ny228.out] at ho52))
                have n0_:=qk (Kd.R_elder' (by (with_reducible repeat (first|apply qd|apply qe|apply qf));exact HO203.out) (Kd.R_base ho52) hb)
                have n1_:=qk (Kd.R_elder' (by (with_reducible repeat (first|apply qd|apply qe|apply qf));exact HO212.out) (Kd.R_base ho52) hb)
                have n2_:=qk (Kd.R_elder' (by (with_reducible repeat (first|apply qd|apply qe|apply qf));exact HO218.out) (Kd.R_base ho52) hb)
                have n3_:=qk (Kd.R_elder' (by (with_reducible repeat (first|apply qd|apply qe|apply qf));exact HO224.out) (Kd.R_base ho52) hb)
                have n4_:=qk (Kd.R_elder' (by (with_reducible repeat (first|apply qd|apply qe|apply qf));exact HO227.out) (Kd.R_base ho52) hb)
                have n5_:=qk (Kd.R_lower (Kd.R_new' (Kd.R_new' (Kd.R_new' (Kd.R_new' (Kd.R_new' ho52 (Kd.R_lt (by (with_reducible repeat (first|apply qd|apply qe|apply qf));exact HO203.out))) (Kd.R_lt (by (with_reducible repeat (first|apply qd|apply qe|apply qf));exact HO212.out))) (Kd.R_lt (by (with_reducible repeat (first|apply qd|apply qe|apply qf));exact HO218.out))) (Kd.R_lt (by (with_reducible repeat (first|apply qd|apply qe|apply qf));exact HO224.out))) (Kd.R_lt (by (with_reducible repeat (first|apply qd|apply qe|apply qf));exact HO227.out))) (qm (by repeat (first|(with_reducible first|exact HB.out|apply qg|apply qh|apply qi|refine qj ?_ GE183.out|refine qj ?_ GE200.out)|exact HB.out))))
                have n6_:=qk (ql (g:=gb183) (o:=.cells #[.int .i64 a0_0,.int .i64 a0_1,.slice (some ad199) l0_2.length c0_2,.slice A0_3 l0_3.length c0_3] 31 (0,0)) (by (with_reducible repeat (first|apply qa|apply qb|apply qc));exact BK183.out) hb)
                have n7_:=qk (ql (g:=gb200) (o:=.cells #[.string ((rd_T70 l0_2 x4_1).f0),.int .i64 ((rd_T70 l0_2 x4_1).f1),.int .i64 ((rd_T70 l0_2 x4_1).f2),.int .i64 ((rd_T70 l0_2 x4_1).f3),.slice A199_4 ((rd_T70 l0_2 x4_1).f4).length c199_4] 70 (0,0)) (by (with_reducible repeat (first|apply qa|apply qb|apply qc));exact BK200.out) hb)
                have n8_:=qk (sN (by repeat (first|(with_reducible first|exact HB.out|apply qg|apply qh|apply qi|refine qj ?_ GE183.out|refine qj ?_ GE200.out)|exact HB.out)) hb)
                clear HO203
                clear HO212
                clear HO218
                clear HO224
                clear HO227
                clear BK183
                clear BK200
                clear HB
                have HO203:=n0_
                have HO212:=n1_
                have HO218:=n2_
                have HO224:=n3_
                have HO227:=n4_
                have HO230:=n5_
                have BK183:=n6_
                have BK200:=n7_
                have HB:=n8_
                clear n0_ n1_ n2_ n3_ n4_ n5_ n6_ n7_ n8_
                clear hb ho52
                refine hK.out _ _ ⟨(blk_cell BK200.out 0).trans rfl,(blk_cell BK200.out 1).trans rfl,(blk_cell BK200.out 2).trans rfl,(blk_cell BK200.out 3).trans rfl,(blk_cell BK200.out 4).trans rfl⟩ (fun hHeld => ?_)
                clear hK K
                refine norm_ (a':=?_) ?_ ?_
                rotate_left
                ·
                 show Act.put _ (some 64) _ = _
                 simp only [Act.put,sA,sB,sC,i64_w,i32_w]
                 rfl
                exact norm_ (by simp only [putAll,Act.put,sA,sB,sC]) (hCont (.slice Ao50 t222.length co50,v226,v229) _ ⟨hHeld,(by (with_reducible repeat (first|apply qd|apply qe|apply qf));exact qn HO203.out (fun _ hk => ⟨hk.1.1.1,⟨hk.1.1.2.1,⟨hk.1.1.2.2,⟨hk.1.2,hk.2⟩⟩⟩⟩)),(by (with_reducible repeat (first|apply qd|apply qe|apply qf));exact qn HO212.out (fun _ hk => ⟨hk.1.1.1,⟨hk.1.1.2.1,⟨hk.1.1.2.2,⟨hk.1.2,hk.2⟩⟩⟩⟩)),(by (with_reducible repeat (first|apply qd|apply qe|apply qf));exact qn HO218.out (fun _ hk => ⟨hk.1.1.1,⟨hk.1.1.2.1,⟨hk.1.1.2.2,⟨hk.1.2,hk.2⟩⟩⟩⟩)),(by (with_reducible repeat (first|apply qd|apply qe|apply qf));exact qn HO224.out (fun _ hk => ⟨hk.1.1.1,⟨hk.1.1.2.1,⟨hk.1.1.2.2,⟨hk.1.2,hk.2⟩⟩⟩⟩)),(by (with_reducible repeat (first|apply qd|apply qe|apply qf));exact qn HO227.out (fun _ hk => ⟨hk.1.1,⟨hk.1.2.1,⟨hk.1.2.2.1,⟨hk.1.2.2.2,hk.2⟩⟩⟩⟩)),(by (with_reducible repeat (first|apply qd|apply qe|apply qf));exact qn HO230.out (fun _ hk => ⟨hk.1.1.1.1.2,⟨hk.1.1.1.2,⟨hk.1.1.2,⟨hk.1.2,hk.2⟩⟩⟩⟩)),(by (with_reducible repeat (first|apply qa|apply qb|apply qc));exact BK183.out),(by (with_reducible repeat (first|apply qa|apply qb|apply qc));exact BK200.out),(by repeat (first|(with_reducible first|exact HB.out|apply qg|apply qh|apply qi|refine qj ?_ GE183.out|refine qj ?_ GE200.out)|exact HB.out))⟩)
               ·
                skip
                refine Kd.R_lit_step (Kd.int .u8) _ 5 ?hg (N:=64) ?hd (xs:=([((((rd_T70 l0_2 x4_1).f4).length : Int)) % 256] : List Int)) (inner:=[.int .u8 (((((rd_T70 l0_2 x4_1).f4).length : Int)) % 256)]) (ok:=fun _ => True) (okp:=fun _ => True) ?hr ?hp (fun _ hk => hk) trivial (Below.refl _ _) (Nat.le_refl _) (by simp) ?_;(case hd => rfl);(case hg => rfl);(case hr => first|(go_simp;done)|(go_simp;rfl));(case hp => exact (Reps.one (show Kd.M (Kd.int .u8) _ _ _ (((((rd_T70 l0_2 x4_1).f4).length : Int)) % 256) [.int .u8 (((((rd_T70 l0_2 x4_1).f4).length : Int)) % 256)] from rfl) (Reps.none _ _)))
                intro v229 w49 ho50 hb hg_ hnew_
                clear hg_ hnew_
                (first|rw [← Ny228.out] at ho50|(simp only [Int.reduceToNat] at ho50;rw [← Ny228.out] at ho50))
                have n0_:=qk (Kd.R_elder' (by (with_reducible repeat (first|apply qd|apply qe|apply qf));exact HO203.out) (Kd.R_base ho50) hb)
                have n1_:=qk (Kd.R_elder' (by (with_reducible repeat (first|apply qd|apply qe|apply qf));exact HO212.out) (Kd.R_base ho50) hb)
                have n2_:=qk (Kd.R_elder' (by (with_reducible repeat (first|apply qd|apply qe|apply qf));exact HO218.out) (Kd.R_base ho50) hb)
                have n3_:=qk (Kd.R_elder' (by (with_reducible repeat (first|apply qd|apply qe|apply qf));exact HO221.out) (Kd.R_base ho50) hb)
                have n4_:=qk (Kd.R_elder' (by (with_reducible repeat (first|apply qd|apply qe|apply qf));exact HO224.out) (Kd.R_base ho50) hb)
                have n5_:=qk (Kd.R_lower (Kd.R_new' (Kd.R_new' (Kd.R_new' (Kd.R_new' (Kd.R_new' ho50 (Kd.R_lt (by (with_reducible repeat (first|apply qd|apply qe|apply qf));exact HO203.out))) (Kd.R_lt (by (with_reducible repeat (first|apply qd|apply qe|apply qf));exact HO212.out))) (Kd.R_lt (by (with_reducible repeat (first|apply qd|apply qe|apply qf));exact HO218.out))) (Kd.R_lt (by (with_reducible repeat (first|apply qd|apply qe|apply qf));exact HO221.out))) (Kd.R_lt (by (with_reducible repeat (first|apply qd|apply qe|apply qf));exact HO224.out))) (qm (by repeat (first|(with_reducible first|exact HB.out|apply qg|apply qh|apply qi|refine qj ?_ GE183.out|refine qj ?_ GE200.out)|exact HB.out))))
                have n6_:=qk (ql (g:=gb183) (o:=.cells #[.int .i64 a0_0,.int .i64 a0_1,.slice (some ad199) l0_2.length c0_2,.slice A0_3 l0_3.length c0_3] 31 (0,0)) (by (with_reducible repeat (first|apply qa|apply qb|apply qc));exact BK183.out) hb)
                have n7_:=qk (ql (g:=gb200) (o:=.cells #[.string ((rd_T70 l0_2 x4_1).f0),.int .i64 ((rd_T70 l0_2 x4_1).f1),.int .i64 ((rd_T70 l0_2 x4_1).f2),.int .i64 ((rd_T70 l0_2 x4_1).f3),.slice A199_4 ((rd_T70 l0_2 x4_1).f4).length c199_4] 70 (0,0)) (by (with_reducible repeat (first|apply qa|apply qb|apply qc));exact BK200.out) hb)
                have n8_:=qk (sN (by repeat (first|(with_reducible first|exact HB.out|apply qg|apply qh|apply qi|refine qj ?_ GE183.out|refine qj ?_ GE200.out)|exact HB.out)) hb)
                clear HO203
                clear HO212
                clear HO218
                clear HO221
                clear HO224
                clear BK183
                clear BK200
                clear HB
                have HO203:=n0_
                have HO212:=n1_
                have HO218:=n2_
                have HO221:=n3_
                have HO224:=n4_
                have HO230:=n5_
                have BK183:=n6_
                have BK200:=n7_
                have HB:=n8_
                clear n0_ n1_ n2_ n3_ n4_ n5_ n6_ n7_ n8_
                clear hb ho50
                obtain ⟨Ao52,co52,eo52⟩:=Kd.R_slice HO224.out
                (first|subst eo52|(injection eo52 with f1_ f2_ f3_;have f4_:=f1_.symm;have f5_:=f3_.symm;clear f1_ f2_ f3_;subst f4_;subst f5_))
                refine hK.out _ _ ⟨(blk_cell BK200.out 0).trans rfl,(blk_cell BK200.out 1).trans rfl,(blk_cell BK200.out 2).trans rfl,(blk_cell BK200.out 3).trans rfl,(blk_cell BK200.out 4).trans rfl⟩ (fun hHeld => ?_)
                clear hK K
                refine norm_ (a':=?_) ?_ ?_
                rotate_left
                ·
                 show Act.put _ (some 64) _ = _
                 simp only [Act.put,sA,sB,sC,i64_w,i32_w]
                 rfl
                refine one_ (i:=4) (N:=some 59) #[true,true,true,true,true,true,true,true,true,true,false,false] rfl rfl (one_of HT_.out (by kernel_rfl)) (by decide) (fun K hK => ?_)
                refine Kd.R_append_rows_step (Kd.int .u8) (w0:=w) w.heap.size (by rfl) (.tmp 55) (.tmp 58) 38 5 (.int .u8 0) 1 rfl Try.underlying38 info5 rfl (by decide) (by omega) (.slice Ao46 y219.length co46) y219 t222 _ _ _ (fun k_ => some k_ ≠ (.slice Ao37 y201.length co37 : Value).ownBlock ∧ some k_ ≠ (.slice Ao42 t210.length co42 : Value).ownBlock ∧ some k_ ≠ (.slice Ao45 t216.length co45 : Value).ownBlock ∧ some k_ ≠ (.slice Ao52 t222.length co52 : Value).ownBlock ∧ some k_ ≠ (v229 : Value).ownBlock) (fun _ => False) rfl rfl ?aO ?aR (fun _ _ h => h) (fun _ h => h.elim) ?aF ?aB ?aS ?aL ?_
                (case aR => repeat (first|exact (Kd.R_reads' HO224.out).2.2|(with_reducible refine Kd.C_alloc ?_ _)|(with_reducible refine Kd.C_drewN ?_ _)|(with_reducible refine Kd.C_drew ?_)))
                (case aB => exact (by repeat (first|(with_reducible first|exact HB.out|apply qg|apply qh|apply qi|refine qj ?_ GE183.out|refine qj ?_ GE200.out)|exact HB.out)))
                (case aF => exact (fun k_ hk => ⟨Kd.fresh' (Kd.R_lt (by (with_reducible repeat (first|apply qd|apply qe|apply qf));exact HO203.out)) k_ hk,Kd.fresh' (Kd.R_lt (by (with_reducible repeat (first|apply qd|apply qe|apply qf));exact HO212.out)) k_ hk,Kd.fresh' (Kd.R_lt (by (with_reducible repeat (first|apply qd|apply qe|apply qf));exact HO218.out)) k_ hk,Kd.fresh' (Kd.R_lt (by (with_reducible repeat (first|apply qd|apply qe|apply qf));exact HO224.out)) k_ hk,Kd.fresh' (Kd.R_lt (by (with_reducible repeat (first|apply qd|apply qe|apply qf));exact HO230.out)) k_ hk⟩))
                (case aO => exact (by (with_reducible repeat (first|apply qd|apply qe|apply qf));exact qn HO221.out (fun _ hk => ⟨hk.1.1.1,⟨hk.1.1.2.1,⟨hk.1.1.2.2,⟨hk.1.2,hk.2⟩⟩⟩⟩)))
                (case aS => exact (qm (by repeat (first|(with_reducible first|exact HB.out|apply qg|apply qh|apply qi|refine qj ?_ GE183.out|refine qj ?_ GE200.out)|exact HB.out))))
                (case aL => have:=LMc26.out;omega)
                intro v226 w51 ho hb hg hat
                rw [← Ny225.out] at ho
                have n0_:=qk (blk_grown (g:=gb183) (o:=.cells #[.int .i64 a0_0,.int .i64 a0_1,.slice (some ad199) l0_2.length c0_2,.slice A0_3 l0_3.length c0_3] 31 (0,0)) (by (with_reducible repeat (first|apply qa|apply qb|apply qc));exact BK183.out) hg (Kd.R_ne HO221.out BK183.out (by decide)))
                have n1_:=qk (blk_grown (g:=gb200) (o:=.cells #[.string ((rd_T70 l0_2 x4_1).f0),.int .i64 ((rd_T70 l0_2 x4_1).f1),.int .i64 ((rd_T70 l0_2 x4_1).f2),.int .i64 ((rd_T70 l0_2 x4_1).f3),.slice A199_4 ((rd_T70 l0_2 x4_1).f4).length c199_4] 70 (0,0)) (by (with_reducible repeat (first|apply qa|apply qb|apply qc));exact BK200.out) hg (Kd.R_ne HO221.out BK200.out (by decide)))
                have n2_:=qk (Kd.R_after (ok:=(fun k_ => some k_ ≠ (.slice Ao42 t210.length co42 : Value).ownBlock ∧ some k_ ≠ (.slice Ao45 t216.length co45 : Value).ownBlock ∧ some k_ ≠ (.slice Ao52 t222.length co52 : Value).ownBlock ∧ some k_ ≠ (v229 : Value).ownBlock)) (by (with_reducible repeat (first|apply qd|apply qe|apply qf));exact qn HO203.out (fun _ hk => ⟨⟨hk.1.1.1.1,⟨hk.1.1.1.2,⟨hk.1.2,hk.2⟩⟩⟩,hk.1.1.2⟩)) hg hat)
                have n3_:=qk (Kd.R_after (ok:=(fun k_ => some k_ ≠ (.slice Ao37 y201.length co37 : Value).ownBlock ∧ some k_ ≠ (.slice Ao45 t216.length co45 : Value).ownBlock ∧ some k_ ≠ (.slice Ao52 t222.length co52 : Value).ownBlock ∧ some k_ ≠ (v229 : Value).ownBlock)) (by (with_reducible repeat (first|apply qd|apply qe|apply qf));exact qn HO212.out (fun _ hk => ⟨⟨hk.1.1.1.1,⟨hk.1.1.1.2,⟨hk.1.2,hk.2⟩⟩⟩,hk.1.1.2⟩)) hg hat)
                have n4_:=qk (Kd.R_after (ok:=(fun k_ => some k_ ≠ (.slice Ao37 y201.length co37 : Value).ownBlock ∧ some k_ ≠ (.slice Ao42 t210.length co42 : Value).ownBlock ∧ some k_ ≠ (.slice Ao52 t222.length co52 : Value).ownBlock ∧ some k_ ≠ (v229 : Value).ownBlock)) (by (with_reducible repeat (first|apply qd|apply qe|apply qf));exact qn HO218.out (fun _ hk => ⟨⟨hk.1.1.1.1,⟨hk.1.1.1.2,⟨hk.1.2,hk.2⟩⟩⟩,hk.1.1.2⟩)) hg hat)
                have n5_:=qk (Kd.R_after (ok:=(fun k_ => some k_ ≠ (.slice Ao37 y201.length co37 : Value).ownBlock ∧ some k_ ≠ (.slice Ao42 t210.length co42 : Value).ownBlock ∧ some k_ ≠ (.slice Ao45 t216.length co45 : Value).ownBlock ∧ some k_ ≠ (v229 : Value).ownBlock)) (by (with_reducible repeat (first|apply qd|apply qe|apply qf));exact qn HO224.out (fun _ hk => ⟨⟨hk.1.1.1.1.2,⟨hk.1.1.1.2,⟨hk.1.1.2,hk.2⟩⟩⟩,hk.1.2⟩)) hg hat)
                have n6_:=qk (Kd.R_after (ok:=(fun k_ => some k_ ≠ (.slice Ao37 y201.length co37 : Value).ownBlock ∧ some k_ ≠ (.slice Ao42 t210.length co42 : Value).ownBlock ∧ some k_ ≠ (.slice Ao45 t216.length co45 : Value).ownBlock ∧ some k_ ≠ (.slice Ao52 t222.length co52 : Value).ownBlock)) (by (with_reducible repeat (first|apply qd|apply qe|apply qf));exact qn HO230.out (fun _ hk => ⟨⟨hk.1.1.1.1.2,⟨hk.1.1.1.2,⟨hk.1.1.2,hk.2⟩⟩⟩,hk.1.2⟩)) hg hat)
                have n7_:=qk (hb)
                have n8_:=qk (ho)
                clear BK183
                clear BK200
                clear HO203
                clear HO212
                clear HO218
                clear HO224
                clear HO230
                clear HB
                clear HO221
                have BK183:=n0_
                have BK200:=n1_
                have HO203:=n2_
                have HO212:=n3_
                have HO218:=n4_
                have HO224:=n5_
                have HO230:=n6_
                have HB:=n7_
                have HO227:=n8_
                clear n0_ n1_ n2_ n3_ n4_ n5_ n6_ n7_ n8_
                clear ho hb hg hat
                refine hK.out _ _ ⟨(blk_cell BK200.out 0).trans rfl,(blk_cell BK200.out 1).trans rfl,(blk_cell BK200.out 2).trans rfl,(blk_cell BK200.out 3).trans rfl,(blk_cell BK200.out 4).trans rfl⟩ (fun hHeld => ?_)
                clear hK K
                refine norm_ (a':=?_) ?_ ?_
                rotate_left
                ·
                 show Act.put _ (some 59) _ = _
                 simp only [Act.put,sA,sB,sC,i64_w,i32_w]
                 rfl
                exact norm_ (by simp only [putAll,Act.put,sA,sB,sC]) (hCont (.slice Ao52 t222.length co52,v226,v229) _ ⟨hHeld,(by (with_reducible repeat (first|apply qd|apply qe|apply qf));exact qn HO203.out (fun _ hk => ⟨hk.1.1,⟨hk.1.2.1,⟨hk.1.2.2.1,⟨hk.2,hk.1.2.2.2⟩⟩⟩⟩)),(by (with_reducible repeat (first|apply qd|apply qe|apply qf));exact qn HO212.out (fun _ hk => ⟨hk.1.1,⟨hk.1.2.1,⟨hk.1.2.2.1,⟨hk.2,hk.1.2.2.2⟩⟩⟩⟩)),(by (with_reducible repeat (first|apply qd|apply qe|apply qf));exact qn HO218.out (fun _ hk => ⟨hk.1.1,⟨hk.1.2.1,⟨hk.1.2.2.1,⟨hk.2,hk.1.2.2.2⟩⟩⟩⟩)),(by (with_reducible repeat (first|apply qd|apply qe|apply qf));exact qn HO224.out (fun _ hk => ⟨hk.1.1,⟨hk.1.2.1,⟨hk.1.2.2.1,⟨hk.2,hk.1.2.2.2⟩⟩⟩⟩)),(by (with_reducible repeat (first|apply qd|apply qe|apply qf));exact HO227.out),(by (with_reducible repeat (first|apply qd|apply qe|apply qf));exact qn HO230.out (fun _ hk => ⟨hk.1.1,⟨hk.1.2.1,⟨hk.1.2.2.1,⟨hk.1.2.2.2,hk.2⟩⟩⟩⟩)),(by (with_reducible repeat (first|apply qa|apply qb|apply qc));exact BK183.out),(by (with_reducible repeat (first|apply qa|apply qb|apply qc));exact BK200.out),(by repeat (first|(with_reducible first|exact HB.out|apply qg|apply qh|apply qi|refine qj ?_ GE183.out|refine qj ?_ GE200.out)|exact HB.out))⟩)
              ·
               skip
               refine Kd.R_lit_step (Kd.int .u8) _ 5 ?hg (N:=64) ?hd (xs:=([((((rd_T70 l0_2 x4_1).f4).length : Int)) % 256] : List Int)) (inner:=[.int .u8 (((((rd_T70 l0_2 x4_1).f4).length : Int)) % 256)]) (ok:=fun _ => True) (okp:=fun _ => True) ?hr ?hp (fun _ hk => hk) trivial (Below.refl _ _) (Nat.le_refl _) (by simp) ?_;(case hd => rfl);(case hg => rfl);(case hr => first|(go_simp;done)|(go_simp;rfl));(case hp => exact (Reps.one (show Kd.M (Kd.int .u8) _ _ _ (((((rd_T70 l0_2 x4_1).f4).length : Int)) % 256) [.int .u8 (((((rd_T70 l0_2 x4_1).f4).length : Int)) % 256)] from rfl) (Reps.none _ _)))
               intro v229 w48 ho49 hb hg_ hnew_
               clear hg_ hnew_
               (first|rw [← Ny228.out] at ho49|(simp only [Int.reduceToNat] at ho49;rw [← Ny228.out] at ho49))
               have n0_:=qk (Kd.R_elder' (by (with_reducible repeat (first|apply qd|apply qe|apply qf));exact HO203.out) (Kd.R_base ho49) hb)
               have n1_:=qk (Kd.R_elder' (by (with_reducible repeat (first|apply qd|apply qe|apply qf));exact HO212.out) (Kd.R_base ho49) hb)
               have n2_:=qk (Kd.R_elder' (by (with_reducible repeat (first|apply qd|apply qe|apply qf));exact HO218.out) (Kd.R_base ho49) hb)
               have n3_:=qk (Kd.R_elder' (by (with_reducible repeat (first|apply qd|apply qe|apply qf));exact HO221.out) (Kd.R_base ho49) hb)
               have n4_:=qk (Kd.R_lower (Kd.R_new' (Kd.R_new' (Kd.R_new' (Kd.R_new' ho49 (Kd.R_lt (by (with_reducible repeat (first|apply qd|apply qe|apply qf));exact HO203.out))) (Kd.R_lt (by (with_reducible repeat (first|apply qd|apply qe|apply qf));exact HO212.out))) (Kd.R_lt (by (with_reducible repeat (first|apply qd|apply qe|apply qf));exact HO218.out))) (Kd.R_lt (by (with_reducible repeat (first|apply qd|apply qe|apply qf));exact HO221.out))) (qm (by repeat (first|(with_reducible first|exact HB.out|apply qg|apply qh|apply qi|refine qj ?_ GE183.out|refine qj ?_ GE200.out)|exact HB.out))))
               have n5_:=qk (ql (g:=gb183) (o:=.cells #[.int .i64 a0_0,.int .i64 a0_1,.slice (some ad199) l0_2.length c0_2,.slice A0_3 l0_3.length c0_3] 31 (0,0)) (by (with_reducible repeat (first|apply qa|apply qb|apply qc));exact BK183.out) hb)
               have n6_:=qk (ql (g:=gb200) (o:=.cells #[.string ((rd_T70 l0_2 x4_1).f0),.int .i64 ((rd_T70 l0_2 x4_1).f1),.int .i64 ((rd_T70 l0_2 x4_1).f2),.int .i64 ((rd_T70 l0_2 x4_1).f3),.slice A199_4 ((rd_T70 l0_2 x4_1).f4).length c199_4] 70 (0,0)) (by (with_reducible repeat (first|apply qa|apply qb|apply qc));exact BK200.out) hb)
               have n7_:=qk (sN (by repeat (first|(with_reducible first|exact HB.out|apply qg|apply qh|apply qi|refine qj ?_ GE183.out|refine qj ?_ GE200.out)|exact HB.out)) hb)
               clear HO203
               clear HO212
               clear HO218
               clear HO221
               clear BK183
               clear BK200
               clear HB
               have HO203:=n0_
               have HO212:=n1_
               have HO218:=n2_
               have HO221:=n3_
               have HO230:=n4_
               have BK183:=n5_
               have BK200:=n6_
               have HB:=n7_
               clear n0_ n1_ n2_ n3_ n4_ n5_ n6_ n7_
               clear hb ho49
               refine hK.out _ _ ⟨(blk_cell BK200.out 0).trans rfl,(blk_cell BK200.out 1).trans rfl,(blk_cell BK200.out 2).trans rfl,(blk_cell BK200.out 3).trans rfl,(blk_cell BK200.out 4).trans rfl⟩ (fun hHeld => ?_)
               clear hK K
               refine norm_ (a':=?_) ?_ ?_
               rotate_left
               ·
                show Act.put _ (some 64) _ = _
                simp only [Act.put,sA,sB,sC,i64_w,i32_w]
                rfl
               refine one_ (i:=3) (N:=some 58) #[true,true,true,true,false,true,true,true,true,true,false,false] rfl rfl (one_of HT_.out (by kernel_rfl)) (by decide) (fun K hK => ?_)
               refine goes_ Try.func79 (by kernel_rfl) rfl #[.int .i64 ((rd_T70 l0_2 x4_1).f3),.int .i64 4] (by rfl) rfl rfl (by (try simp only [sE,sH,sI]);first|done|rfl|(simp only [sG,sF];rfl)) ?_
               with_reducible refine (spec_l02Number.calls k1 ((rd_T70 l0_2 x4_1).f3) 4 t222 _ A25.out).mono ?_
               rintro e w50 ⟨v223,rfl,ho0,hb⟩
               refine ⟨_,rfl,?_⟩
               have n0_:=qk (Kd.R_elder' (by (with_reducible repeat (first|apply qd|apply qe|apply qf));exact HO203.out) (Kd.R_base ho0) hb)
               have n1_:=qk (Kd.R_elder' (by (with_reducible repeat (first|apply qd|apply qe|apply qf));exact HO212.out) (Kd.R_base ho0) hb)
               have n2_:=qk (Kd.R_elder' (by (with_reducible repeat (first|apply qd|apply qe|apply qf));exact HO218.out) (Kd.R_base ho0) hb)
               have n3_:=qk (Kd.R_elder' (by (with_reducible repeat (first|apply qd|apply qe|apply qf));exact HO221.out) (Kd.R_base ho0) hb)
               have n4_:=qk (Kd.R_elder' (by (with_reducible repeat (first|apply qd|apply qe|apply qf));exact HO230.out) (Kd.R_base ho0) hb)
               have n5_:=qk (Kd.R_lower (Kd.R_new' (Kd.R_new' (Kd.R_new' (Kd.R_new' (Kd.R_new' ho0 (Kd.R_lt (by (with_reducible repeat (first|apply qd|apply qe|apply qf));exact HO203.out))) (Kd.R_lt (by (with_reducible repeat (first|apply qd|apply qe|apply qf));exact HO212.out))) (Kd.R_lt (by (with_reducible repeat (first|apply qd|apply qe|apply qf));exact HO218.out))) (Kd.R_lt (by (with_reducible repeat (first|apply qd|apply qe|apply qf));exact HO221.out))) (Kd.R_lt (by (with_reducible repeat (first|apply qd|apply qe|apply qf));exact HO230.out))) (qm (by repeat (first|(with_reducible first|exact HB.out|apply qg|apply qh|apply qi|refine qj ?_ GE183.out|refine qj ?_ GE200.out)|exact HB.out))))
               have n6_:=qk (ql (g:=gb183) (o:=.cells #[.int .i64 a0_0,.int .i64 a0_1,.slice (some ad199) l0_2.length c0_2,.slice A0_3 l0_3.length c0_3] 31 (0,0)) (by (with_reducible repeat (first|apply qa|apply qb|apply qc));exact BK183.out) hb)
               have n7_:=qk (ql (g:=gb200) (o:=.cells #[.string ((rd_T70 l0_2 x4_1).f0),.int .i64 ((rd_T70 l0_2 x4_1).f1),.int .i64 ((rd_T70 l0_2 x4_1).f2),.int .i64 ((rd_T70 l0_2 x4_1).f3),.slice A199_4 ((rd_T70 l0_2 x4_1).f4).length c199_4] 70 (0,0)) (by (with_reducible repeat (first|apply qa|apply qb|apply qc));exact BK200.out) hb)
               have n8_:=qk (sN (by repeat (first|(with_reducible first|exact HB.out|apply qg|apply qh|apply qi|refine qj ?_ GE183.out|refine qj ?_ GE200.out)|exact HB.out)) hb)
               clear HO203
               clear HO212
               clear HO218
               clear HO221
               clear HO230
               clear BK183
               clear BK200
               clear HB
               have HO203:=n0_
               have HO212:=n1_
               have HO218:=n2_
               have HO221:=n3_
               have HO230:=n4_
               have HO224:=n5_
               have BK183:=n6_
               have BK200:=n7_
               have HB:=n8_
               clear n0_ n1_ n2_ n3_ n4_ n5_ n6_ n7_ n8_
               (try clear hb)
               (try clear hb2)
               (try clear hk)
               (try clear hi)
               (try clear ho0)
               obtain ⟨Ao52,co52,eo52⟩:=Kd.R_slice HO224.out
               (first|subst eo52|(injection eo52 with f1_ f2_ f3_;have f4_:=f1_.symm;have f5_:=f3_.symm;clear f1_ f2_ f3_;subst f4_;subst f5_))
               refine hK.out _ _ ⟨(blk_cell BK200.out 0).trans rfl,(blk_cell BK200.out 1).trans rfl,(blk_cell BK200.out 2).trans rfl,(blk_cell BK200.out 3).trans rfl,(blk_cell BK200.out 4).trans rfl⟩ (fun hHeld => ?_)
               clear hK K
               refine norm_ (a':=?_) ?_ ?_
               rotate_left
               ·
                show Act.put _ (some 58) _ = _
                simp only [Act.put,sA,sB,sC,i64_w,i32_w]
                rfl
               refine one_ (i:=4) (N:=some 59) #[true,true,true,true,true,true,true,true,true,true,false,false] rfl rfl (one_of HT_.out (by kernel_rfl)) (by decide) (fun K hK => ?_)
               refine Kd.R_append_rows_step (Kd.int .u8) (w0:=w) w.heap.size (by rfl) (.tmp 55) (.tmp 58) 38 5 (.int .u8 0) 1 rfl Try.underlying38 info5 rfl (by decide) (by omega) (.slice Ao46 y219.length co46) y219 t222 _ _ _ (fun k_ => some k_ ≠ (.slice Ao37 y201.length co37 : Value).ownBlock ∧ some k_ ≠ (.slice Ao42 t210.length co42 : Value).ownBlock ∧ some k_ ≠ (.slice Ao45 t216.length co45 : Value).ownBlock ∧ some k_ ≠ (v229 : Value).ownBlock ∧ some k_ ≠ (.slice Ao52 t222.length co52 : Value).ownBlock) (fun _ => False) rfl rfl ?aO ?aR (fun _ _ h => h) (fun _ h => h.elim) ?aF ?aB ?aS ?aL ?_
               (case aR => repeat (first|exact (Kd.R_reads' HO224.out).2.2|(with_reducible refine Kd.C_alloc ?_ _)|(with_reducible refine Kd.C_drewN ?_ _)|(with_reducible refine Kd.C_drew ?_)))
               (case aB => exact (by repeat (first|(with_reducible first|exact HB.out|apply qg|apply qh|apply qi|refine qj ?_ GE183.out|refine qj ?_ GE200.out)|exact HB.out)))
               (case aF => exact (fun k_ hk => ⟨Kd.fresh' (Kd.R_lt (by (with_reducible repeat (first|apply qd|apply qe|apply qf));exact HO203.out)) k_ hk,Kd.fresh' (Kd.R_lt (by (with_reducible repeat (first|apply qd|apply qe|apply qf));exact HO212.out)) k_ hk,Kd.fresh' (Kd.R_lt (by (with_reducible repeat (first|apply qd|apply qe|apply qf));exact HO218.out)) k_ hk,Kd.fresh' (Kd.R_lt (by (with_reducible repeat (first|apply qd|apply qe|apply qf));exact HO230.out)) k_ hk,Kd.fresh' (Kd.R_lt (by (with_reducible repeat (first|apply qd|apply qe|apply qf));exact HO224.out)) k_ hk⟩))
               (case aO => exact (by (with_reducible repeat (first|apply qd|apply qe|apply qf));exact qn HO221.out (fun _ hk => ⟨hk.1.1.1,⟨hk.1.1.2.1,⟨hk.1.1.2.2,⟨hk.1.2,hk.2⟩⟩⟩⟩)))
               (case aS => exact (qm (by repeat (first|(with_reducible first|exact HB.out|apply qg|apply qh|apply qi|refine qj ?_ GE183.out|refine qj ?_ GE200.out)|exact HB.out))))
               (case aL => have:=LMc26.out;omega)
               intro v226 w51 ho hb hg hat
               rw [← Ny225.out] at ho
               have n0_:=qk (blk_grown (g:=gb183) (o:=.cells #[.int .i64 a0_0,.int .i64 a0_1,.slice (some ad199) l0_2.length c0_2,.slice A0_3 l0_3.length c0_3] 31 (0,0)) (by (with_reducible repeat (first|apply qa|apply qb|apply qc));exact BK183.out) hg (Kd.R_ne HO221.out BK183.out (by decide)))
               have n1_:=qk (blk_grown (g:=gb200) (o:=.cells #[.string ((rd_T70 l0_2 x4_1).f0),.int .i64 ((rd_T70 l0_2 x4_1).f1),.int .i64 ((rd_T70 l0_2 x4_1).f2),.int .i64 ((rd_T70 l0_2 x4_1).f3),.slice A199_4 ((rd_T70 l0_2 x4_1).f4).length c199_4] 70 (0,0)) (by (with_reducible repeat (first|apply qa|apply qb|apply qc));exact BK200.out) hg (Kd.R_ne HO221.out BK200.out (by decide)))
               have n2_:=qk (Kd.R_after (ok:=(fun k_ => some k_ ≠ (.slice Ao42 t210.length co42 : Value).ownBlock ∧ some k_ ≠ (.slice Ao45 t216.length co45 : Value).ownBlock ∧ some k_ ≠ (v229 : Value).ownBlock ∧ some k_ ≠ (.slice Ao52 t222.length co52 : Value).ownBlock)) (by (with_reducible repeat (first|apply qd|apply qe|apply qf));exact qn HO203.out (fun _ hk => ⟨⟨hk.1.1.1.1,⟨hk.1.1.1.2,⟨hk.1.2,hk.2⟩⟩⟩,hk.1.1.2⟩)) hg hat)
               have n3_:=qk (Kd.R_after (ok:=(fun k_ => some k_ ≠ (.slice Ao37 y201.length co37 : Value).ownBlock ∧ some k_ ≠ (.slice Ao45 t216.length co45 : Value).ownBlock ∧ some k_ ≠ (v229 : Value).ownBlock ∧ some k_ ≠ (.slice Ao52 t222.length co52 : Value).ownBlock)) (by (with_reducible repeat (first|apply qd|apply qe|apply qf));exact qn HO212.out (fun _ hk => ⟨⟨hk.1.1.1.1,⟨hk.1.1.1.2,⟨hk.1.2,hk.2⟩⟩⟩,hk.1.1.2⟩)) hg hat)
               have n4_:=qk (Kd.R_after (ok:=(fun k_ => some k_ ≠ (.slice Ao37 y201.length co37 : Value).ownBlock ∧ some k_ ≠ (.slice Ao42 t210.length co42 : Value).ownBlock ∧ some k_ ≠ (v229 : Value).ownBlock ∧ some k_ ≠ (.slice Ao52 t222.length co52 : Value).ownBlock)) (by (with_reducible repeat (first|apply qd|apply qe|apply qf));exact qn HO218.out (fun _ hk => ⟨⟨hk.1.1.1.1,⟨hk.1.1.1.2,⟨hk.1.2,hk.2⟩⟩⟩,hk.1.1.2⟩)) hg hat)
               have n5_:=qk (Kd.R_after (ok:=(fun k_ => some k_ ≠ (.slice Ao37 y201.length co37 : Value).ownBlock ∧ some k_ ≠ (.slice Ao42 t210.length co42 : Value).ownBlock ∧ some k_ ≠ (.slice Ao45 t216.length co45 : Value).ownBlock ∧ some k_ ≠ (.slice Ao52 t222.length co52 : Value).ownBlock)) (by (with_reducible repeat (first|apply qd|apply qe|apply qf));exact qn HO230.out (fun _ hk => ⟨⟨hk.1.1.1.1.2,⟨hk.1.1.1.2,⟨hk.1.1.2,hk.2⟩⟩⟩,hk.1.2⟩)) hg hat)
               have n6_:=qk (Kd.R_after (ok:=(fun k_ => some k_ ≠ (.slice Ao37 y201.length co37 : Value).ownBlock ∧ some k_ ≠ (.slice Ao42 t210.length co42 : Value).ownBlock ∧ some k_ ≠ (.slice Ao45 t216.length co45 : Value).ownBlock ∧ some k_ ≠ (v229 : Value).ownBlock)) (by (with_reducible repeat (first|apply qd|apply qe|apply qf));exact qn HO224.out (fun _ hk => ⟨⟨hk.1.1.1.1.2,⟨hk.1.1.1.2,⟨hk.1.1.2,hk.2⟩⟩⟩,hk.1.2⟩)) hg hat)
               have n7_:=qk (hb)
               have n8_:=qk (ho)
               clear BK183
               clear BK200
               clear HO203
               clear HO212
               clear HO218
               clear HO230
               clear HO224
               clear HB
               clear HO221
               have BK183:=n0_
               have BK200:=n1_
               have HO203:=n2_
               have HO212:=n3_
               have HO218:=n4_
               have HO230:=n5_
               have HO224:=n6_
               have HB:=n7_
               have HO227:=n8_
               clear n0_ n1_ n2_ n3_ n4_ n5_ n6_ n7_ n8_
               clear ho hb hg hat
               refine hK.out _ _ ⟨(blk_cell BK200.out 0).trans rfl,(blk_cell BK200.out 1).trans rfl,(blk_cell BK200.out 2).trans rfl,(blk_cell BK200.out 3).trans rfl,(blk_cell BK200.out 4).trans rfl⟩ (fun hHeld => ?_)
               clear hK K
               refine norm_ (a':=?_) ?_ ?_
               rotate_left
               ·
                show Act.put _ (some 59) _ = _
                simp only [Act.put,sA,sB,sC,i64_w,i32_w]
                rfl
               exact norm_ (by simp only [putAll,Act.put,sA,sB,sC]) (hCont (.slice Ao52 t222.length co52,v226,v229) _ ⟨hHeld,(by (with_reducible repeat (first|apply qd|apply qe|apply qf));exact qn HO203.out (fun _ hk => ⟨hk.1.1,⟨hk.1.2.1,⟨hk.1.2.2.2,⟨hk.2,hk.1.2.2.1⟩⟩⟩⟩)),(by (with_reducible repeat (first|apply qd|apply qe|apply qf));exact qn HO212.out (fun _ hk => ⟨hk.1.1,⟨hk.1.2.1,⟨hk.1.2.2.2,⟨hk.2,hk.1.2.2.1⟩⟩⟩⟩)),(by (with_reducible repeat (first|apply qd|apply qe|apply qf));exact qn HO218.out (fun _ hk => ⟨hk.1.1,⟨hk.1.2.1,⟨hk.1.2.2.2,⟨hk.2,hk.1.2.2.1⟩⟩⟩⟩)),(by (with_reducible repeat (first|apply qd|apply qe|apply qf));exact qn HO224.out (fun _ hk => ⟨hk.1.1,⟨hk.1.2.1,⟨hk.1.2.2.1,⟨hk.2,hk.1.2.2.2⟩⟩⟩⟩)),(by (with_reducible repeat (first|apply qd|apply qe|apply qf));exact qn HO227.out (fun _ hk => ⟨hk.1,⟨hk.2.1,⟨hk.2.2.1,⟨hk.2.2.2.2,hk.2.2.2.1⟩⟩⟩⟩)),(by (with_reducible repeat (first|apply qd|apply qe|apply qf));exact qn HO230.out (fun _ hk => ⟨hk.1.1,⟨hk.1.2.1,⟨hk.1.2.2.1,⟨hk.1.2.2.2,hk.2⟩⟩⟩⟩)),(by (with_reducible repeat (first|apply qa|apply qb|apply qc));exact BK183.out),(by (with_reducible repeat (first|apply qa|apply qb|apply qc));exact BK200.out),(by repeat (first|(with_reducible first|exact HB.out|apply qg|apply qh|apply qi|refine qj ?_ GE183.out|refine qj ?_ GE200.out)|exact HB.out))⟩)
             rintro ⟨v223,v226,v229⟩ w53 ⟨hS_,h0_,h1_,h2_,h3_,h4_,h5_,h6_,h7_,h8_⟩
             have n0_ : Aside0 (Kd.R (Kd.int .u8) 5 w53 w.heap.size (fun k_ => some k_ ≠ (.slice Ao42 t210.length co42 : Value).ownBlock ∧ some k_ ≠ (.slice Ao45 t216.length co45 : Value).ownBlock ∧ some k_ ≠ (v223 : Value).ownBlock ∧ some k_ ≠ (v226 : Value).ownBlock ∧ some k_ ≠ (v229 : Value).ownBlock) (.slice Ao37 y201.length co37) y201):=⟨h0_⟩
             have n1_ : Aside0 (Kd.R (Kd.int .u8) 5 w53 w.heap.size (fun k_ => some k_ ≠ (.slice Ao37 y201.length co37 : Value).ownBlock ∧ some k_ ≠ (.slice Ao45 t216.length co45 : Value).ownBlock ∧ some k_ ≠ (v223 : Value).ownBlock ∧ some k_ ≠ (v226 : Value).ownBlock ∧ some k_ ≠ (v229 : Value).ownBlock) (.slice Ao42 t210.length co42) t210):=⟨h1_⟩
             have n2_ : Aside0 (Kd.R (Kd.int .u8) 5 w53 w.heap.size (fun k_ => some k_ ≠ (.slice Ao37 y201.length co37 : Value).ownBlock ∧ some k_ ≠ (.slice Ao42 t210.length co42 : Value).ownBlock ∧ some k_ ≠ (v223 : Value).ownBlock ∧ some k_ ≠ (v226 : Value).ownBlock ∧ some k_ ≠ (v229 : Value).ownBlock) (.slice Ao45 t216.length co45) t216):=⟨h2_⟩
             have n3_ : Aside0 (Kd.R (Kd.int .u8) 5 w53 w.heap.size (fun k_ => some k_ ≠ (.slice Ao37 y201.length co37 : Value).ownBlock ∧ some k_ ≠ (.slice Ao42 t210.length co42 : Value).ownBlock ∧ some k_ ≠ (.slice Ao45 t216.length co45 : Value).ownBlock ∧ some k_ ≠ (v226 : Value).ownBlock ∧ some k_ ≠ (v229 : Value).ownBlock) v223 t222):=⟨h3_⟩
             have n4_ : Aside0 (Kd.R (Kd.int .u8) 5 w53 w.heap.size (fun k_ => some k_ ≠ (.slice Ao37 y201.length co37 : Value).ownBlock ∧ some k_ ≠ (.slice Ao42 t210.length co42 : Value).ownBlock ∧ some k_ ≠ (.slice Ao45 t216.length co45 : Value).ownBlock ∧ some k_ ≠ (v223 : Value).ownBlock ∧ some k_ ≠ (v229 : Value).ownBlock) v226 y225):=⟨h4_⟩
             have n5_ : Aside0 (Kd.R (Kd.int .u8) 5 w53 w.heap.size (fun k_ => some k_ ≠ (.slice Ao37 y201.length co37 : Value).ownBlock ∧ some k_ ≠ (.slice Ao42 t210.length co42 : Value).ownBlock ∧ some k_ ≠ (.slice Ao45 t216.length co45 : Value).ownBlock ∧ some k_ ≠ (v223 : Value).ownBlock ∧ some k_ ≠ (v226 : Value).ownBlock) v229 y228):=⟨h5_⟩
             have n6_ : Aside0 (w53.heap[gb183]? = some (.cells #[.int .i64 a0_0,.int .i64 a0_1,.slice (some ad199) l0_2.length c0_2,.slice A0_3 l0_3.length c0_3] 31 (0,0))):=⟨h6_⟩
             have n7_ : Aside0 (w53.heap[gb200]? = some (.cells #[.string ((rd_T70 l0_2 x4_1).f0),.int .i64 ((rd_T70 l0_2 x4_1).f1),.int .i64 ((rd_T70 l0_2 x4_1).f2),.int .i64 ((rd_T70 l0_2 x4_1).f3),.slice A199_4 ((rd_T70 l0_2 x4_1).f4).length c199_4] 70 (0,0))):=⟨h7_⟩
             have n8_ : Aside0 (Below w.heap.size w w53):=⟨h8_⟩
             clear HO203
             clear HO212
             clear HO218
             clear HO221
             clear BK183
             clear BK200
             clear HB
             clear h0_ h1_ h2_ h3_ h4_ h5_ h6_ h7_ h8_
             have HO203:=n0_
             have HO212:=n1_
             have HO218:=n2_
             have HO224:=n3_
             have HO227:=n4_
             have HO230:=n5_
             have BK183:=n6_
             have BK200:=n7_
             have HB:=n8_
             clear n0_ n1_ n2_ n3_ n4_ n5_ n6_ n7_ n8_
             have hHeld : w53.cell? ⟨gb200,0,none⟩ = some (.string ((rd_T70 l0_2 x4_1).f0)) ∧ w53.cell? ⟨gb200,1,none⟩ = some (.int .i64 ((rd_T70 l0_2 x4_1).f1)) ∧ w53.cell? ⟨gb200,2,none⟩ = some (.int .i64 ((rd_T70 l0_2 x4_1).f2)) ∧ w53.cell? ⟨gb200,3,none⟩ = some (.int .i64 ((rd_T70 l0_2 x4_1).f3)) ∧ w53.cell? ⟨gb200,4,none⟩ = some (.slice A199_4 ((rd_T70 l0_2 x4_1).f4).length c199_4):=hS_
             obtain ⟨Ao55,co55,eo55⟩:=Kd.R_slice HO230.out
             (first|subst eo55|(injection eo55 with f1_ f2_ f3_;have f4_:=f1_.symm;have f5_:=f3_.symm;clear f1_ f2_ f3_;subst f4_;subst f5_))
             refine norm_ (a':=?_) ?_ ?_
             rotate_left
             ·
              simp only [putAll,Act.put,sA,sB,sC]
              rfl
             refine one_ (i:=10) (N:=some 65) #[true,true,true,true,true,true,true,true,true,true,true,false] rfl rfl (one_of HT_.out (by kernel_rfl)) (by decide) (fun K hK => ?_)
             refine Kd.R_append_rows_step (Kd.int .u8) (w0:=w) w.heap.size (by rfl) (.tmp 59) (.tmp 64) 38 5 (.int .u8 0) 1 rfl Try.underlying38 info5 rfl (by decide) (by omega) v226 y225 y228 _ _ _ (fun k_ => some k_ ≠ (.slice Ao37 y201.length co37 : Value).ownBlock ∧ some k_ ≠ (.slice Ao42 t210.length co42 : Value).ownBlock ∧ some k_ ≠ (.slice Ao45 t216.length co45 : Value).ownBlock ∧ some k_ ≠ (v223 : Value).ownBlock ∧ some k_ ≠ (.slice Ao55 y228.length co55 : Value).ownBlock) (fun _ => False) rfl rfl ?aO ?aR (fun _ _ h => h) (fun _ h => h.elim) ?aF ?aB ?aS ?aL ?_
             (case aR => repeat (first|exact (Kd.R_reads' HO230.out).2.2|(with_reducible refine Kd.C_alloc ?_ _)|(with_reducible refine Kd.C_drewN ?_ _)|(with_reducible refine Kd.C_drew ?_)))
             (case aB => exact (by repeat (first|(with_reducible first|exact HB.out|apply qg|apply qh|apply qi|refine qj ?_ GE183.out|refine qj ?_ GE200.out)|exact HB.out)))
             (case aF => exact (fun k_ hk => ⟨Kd.fresh' (Kd.R_lt (by (with_reducible repeat (first|apply qd|apply qe|apply qf));exact HO203.out)) k_ hk,Kd.fresh' (Kd.R_lt (by (with_reducible repeat (first|apply qd|apply qe|apply qf));exact HO212.out)) k_ hk,Kd.fresh' (Kd.R_lt (by (with_reducible repeat (first|apply qd|apply qe|apply qf));exact HO218.out)) k_ hk,Kd.fresh' (Kd.R_lt (by (with_reducible repeat (first|apply qd|apply qe|apply qf));exact HO224.out)) k_ hk,Kd.fresh' (Kd.R_lt (by (with_reducible repeat (first|apply qd|apply qe|apply qf));exact HO230.out)) k_ hk⟩))
             (case aO => exact (by (with_reducible repeat (first|apply qd|apply qe|apply qf));exact HO227.out))
             (case aS => exact (qm (by repeat (first|(with_reducible first|exact HB.out|apply qg|apply qh|apply qi|refine qj ?_ GE183.out|refine qj ?_ GE200.out)|exact HB.out))))
             (case aL => have:=LMc27.out;omega)
             intro v232 w54 ho hb hg hat
             rw [← Ny231.out] at ho
             have n0_:=qk (blk_grown (g:=gb183) (o:=.cells #[.int .i64 a0_0,.int .i64 a0_1,.slice (some ad199) l0_2.length c0_2,.slice A0_3 l0_3.length c0_3] 31 (0,0)) (by (with_reducible repeat (first|apply qa|apply qb|apply qc));exact BK183.out) hg (Kd.R_ne HO227.out BK183.out (by decide)))
             have n1_:=qk (blk_grown (g:=gb200) (o:=.cells #[.string ((rd_T70 l0_2 x4_1).f0),.int .i64 ((rd_T70 l0_2 x4_1).f1),.int .i64 ((rd_T70 l0_2 x4_1).f2),.int .i64 ((rd_T70 l0_2 x4_1).f3),.slice A199_4 ((rd_T70 l0_2 x4_1).f4).length c199_4] 70 (0,0)) (by (with_reducible repeat (first|apply qa|apply qb|apply qc));exact BK200.out) hg (Kd.R_ne HO227.out BK200.out (by decide)))
             have n2_:=qk (Kd.R_after (ok:=(fun k_ => some k_ ≠ (.slice Ao42 t210.length co42 : Value).ownBlock ∧ some k_ ≠ (.slice Ao45 t216.length co45 : Value).ownBlock ∧ some k_ ≠ (v223 : Value).ownBlock ∧ some k_ ≠ (.slice Ao55 y228.length co55 : Value).ownBlock)) (by (with_reducible repeat (first|apply qd|apply qe|apply qf));exact qn HO203.out (fun _ hk => ⟨⟨hk.1,⟨hk.2.1,⟨hk.2.2.1,hk.2.2.2.2⟩⟩⟩,hk.2.2.2.1⟩)) hg hat)
             have n3_:=qk (Kd.R_after (ok:=(fun k_ => some k_ ≠ (.slice Ao37 y201.length co37 : Value).ownBlock ∧ some k_ ≠ (.slice Ao45 t216.length co45 : Value).ownBlock ∧ some k_ ≠ (v223 : Value).ownBlock ∧ some k_ ≠ (.slice Ao55 y228.length co55 : Value).ownBlock)) (by (with_reducible repeat (first|apply qd|apply qe|apply qf));exact qn HO212.out (fun _ hk => ⟨⟨hk.1,⟨hk.2.1,⟨hk.2.2.1,hk.2.2.2.2⟩⟩⟩,hk.2.2.2.1⟩)) hg hat)
             have n4_:=qk (Kd.R_after (ok:=(fun k_ => some k_ ≠ (.slice Ao37 y201.length co37 : Value).ownBlock ∧ some k_ ≠ (.slice Ao42 t210.length co42 : Value).ownBlock ∧ some k_ ≠ (v223 : Value).ownBlock ∧ some k_ ≠ (.slice Ao55 y228.length co55 : Value).ownBlock)) (by (with_reducible repeat (first|apply qd|apply qe|apply qf));exact qn HO218.out (fun _ hk => ⟨⟨hk.1,⟨hk.2.1,⟨hk.2.2.1,hk.2.2.2.2⟩⟩⟩,hk.2.2.2.1⟩)) hg hat)
             have n5_:=qk (Kd.R_after (ok:=(fun k_ => some k_ ≠ (.slice Ao37 y201.length co37 : Value).ownBlock ∧ some k_ ≠ (.slice Ao42 t210.length co42 : Value).ownBlock ∧ some k_ ≠ (.slice Ao45 t216.length co45 : Value).ownBlock ∧ some k_ ≠ (.slice Ao55 y228.length co55 : Value).ownBlock)) (by (with_reducible repeat (first|apply qd|apply qe|apply qf));exact qn HO224.out (fun _ hk => ⟨⟨hk.1,⟨hk.2.1,⟨hk.2.2.1,hk.2.2.2.2⟩⟩⟩,hk.2.2.2.1⟩)) hg hat)
             have n6_:=qk (Kd.R_after (ok:=(fun k_ => some k_ ≠ (.slice Ao37 y201.length co37 : Value).ownBlock ∧ some k_ ≠ (.slice Ao42 t210.length co42 : Value).ownBlock ∧ some k_ ≠ (.slice Ao45 t216.length co45 : Value).ownBlock ∧ some k_ ≠ (v223 : Value).ownBlock)) (by (with_reducible repeat (first|apply qd|apply qe|apply qf));exact qn HO230.out (fun _ hk => ⟨⟨hk.1,⟨hk.2.1,⟨hk.2.2.1,hk.2.2.2.1⟩⟩⟩,hk.2.2.2.2⟩)) hg hat)
             have n7_:=qk (hb)
             have n8_:=qk (ho)
             clear BK183
             clear BK200
             clear HO203
             clear HO212
             clear HO218
             clear HO224
             clear HO230
             clear HB
             clear HO227
             have BK183:=n0_
             have BK200:=n1_
             have HO203:=n2_
             have HO212:=n3_
             have HO218:=n4_
             have HO224:=n5_
             have HO230:=n6_
             have HB:=n7_
             have HO233:=n8_
             clear n0_ n1_ n2_ n3_ n4_ n5_ n6_ n7_ n8_
             clear ho hb hg hat
             refine hK.out _ _ ⟨(blk_cell BK200.out 0).trans rfl,(blk_cell BK200.out 1).trans rfl,(blk_cell BK200.out 2).trans rfl,(blk_cell BK200.out 3).trans rfl,(blk_cell BK200.out 4).trans rfl⟩ (fun hHeld => ?_)
             clear hK K
             refine norm_ (a':=?_) ?_ ?_
             rotate_left
             ·
              show Act.put _ (some 65) _ = _
              simp only [Act.put,sA,sB,sC,i64_w,i32_w]
              rfl
             refine pure_ (i:=11) (N:=some 3) (v:=?_) (a':=?_) #[true,true,true,true,true,true,true,true,true,true,true,true] rfl rfl (any_of HT_.out (by kernel_rfl)) (fun _ _ _ h => h) (Or.inl ⟨by rfl,?_⟩) ?_ ?_
             rotate_left
             ·
              intro w'
              go_simp
              with_reducible rfl
             rotate_left
             ·
              simp only [Act.put,sA,sB,sC,i64_w,i32_w]
              rfl
             refine done_ (done_of HT_.out (by kernel_rfl)) ?_
             try go_wp2
             go_loopg [3,6] k1 (fun kq v3 v6 w' => ∃ (x3_2 : List Int) (x6_2 : Int),v6 = .int .i64 x6_2 ∧ Aside0 (spec_l05Bytes.l1 kq x3_2 x4_1 x6_2 a0_0 a0_1 l0_2 l0_3 ((rd_T70 l0_2 x4_1).f0) ((rd_T70 l0_2 x4_1).f1) ((rd_T70 l0_2 x4_1).f2) ((rd_T70 l0_2 x4_1).f3) ((rd_T70 l0_2 x4_1).f4) = some r) ∧ Aside0 (kq ≤ k1) ∧ Aside0 (Kd.R (Kd.int .u8) 5 w' w.heap.size (fun _ => True) v3 x3_2) ∧ Aside0 (w'.heap[gb183]? = some (.cells #[.int .i64 a0_0,.int .i64 a0_1,(.slice (some ad199) l0_2.length c0_2),(.slice A0_3 l0_3.length c0_3)] 31 (0,0))) ∧ Aside0 (w'.heap[gb200]? = some (.cells #[.string ((rd_T70 l0_2 x4_1).f0),.int .i64 ((rd_T70 l0_2 x4_1).f1),.int .i64 ((rd_T70 l0_2 x4_1).f2),.int .i64 ((rd_T70 l0_2 x4_1).f3),(.slice A199_4 ((rd_T70 l0_2 x4_1).f4).length c199_4)] 70 (0,0))) ∧ Aside0 (Below w.heap.size w w'))
             case atStart => exact ⟨(y231),(0),(by first|rfl|(simp;done)|(simp [*];done)),H',⟨Nat.le_refl _⟩,⟨by (with_reducible repeat (first|apply qd|apply qe|apply qf));exact qn HO233.out (fun _ hk => trivial)⟩,⟨by (with_reducible repeat (first|apply qa|apply qb|apply qc));exact BK183.out⟩,⟨by (with_reducible repeat (first|apply qa|apply qb|apply qc));exact BK200.out⟩,⟨by repeat (first|(with_reducible first|exact HB.out|apply qg|apply qh|apply qi|refine qj ?_ GE183.out|refine qj ?_ GE200.out)|exact HB.out)⟩⟩
             case round =>
              clear H'
              try clear c1
              try clear c2
              try clear p2
              try clear c7
              try clear c19
              try clear c24
              try clear c26
              try clear c27
              obtain ⟨x3_2,x6_2,rfl,HA,HK2,HO_3,BK183,BK200,HB⟩:=hrel
              cases gk with
              | zero => exact absurd HA.out (by simp [spec_l05Bytes.l1])
              | succ k2 =>
               have H:=HA.out
               clear HA
               simp only [spec_l05Bytes.l1] at H
               by_cases c56 : x6_2 < (((rd_T70 l0_2 x4_1).f4).length : Int)
               ·
                rw [if_pos c56] at H
                have c56b0 : decide (x6_2 < (((rd_T70 l0_2 x4_1).f4).length : Int)) = true:=decide_eq_true c56
                clear c56
                by_cases c57 : 0 ≤ x6_2
                ·
                 rw [if_pos c57] at H
                 have c57b0 : decide (0 ≤ x6_2) = true:=decide_eq_true c57
                 clear c57
                 obtain ⟨y235,hy235⟩ : ∃ y_ : List Int,y_ = (([((rd_T73 ((rd_T70 l0_2 x4_1).f4) x6_2).f0) % 256] : List Int)):=⟨_,rfl⟩
                 replace H : (if x3_2.length + y235.length < 140737488355328 then ((some (x3_2 ++ y235 : List Int)).bind fun y238 => ((spec_l02Number.f k2 ((rd_T73 ((rd_T70 l0_2 x4_1).f4) x6_2).f1) 2).bind fun t242 => (if y238.length + t242.length < 140737488355328 then (spec_l05Bytes.l1 k2 (y238 ++ t242) x4_1 (wrap64 (x6_2 + 1)) a0_0 a0_1 l0_2 l0_3 ((rd_T70 l0_2 x4_1).f0) ((rd_T70 l0_2 x4_1).f1) ((rd_T70 l0_2 x4_1).f2) ((rd_T70 l0_2 x4_1).f3) ((rd_T70 l0_2 x4_1).f4)) else (none)))) else (none)) = some r:=by first|(rw [hy235];with_reducible exact H)|(have H2_:=(Option.bind_some _ _).symm.trans H;rw [hy235];with_reducible exact H2_)|(have H2_:=(Option.bind_some _ _).symm.trans H;with_reducible exact H2_)|with_reducible exact H|(rw [hy235];exact H)|exact H
                 have Ny235:=qk hy235
                 clear hy235
                 by_cases c58 : x3_2.length + y235.length < 140737488355328
                 ·
                  rw [if_pos c58] at H
                  have LMc58:=qk c58
                  clear c58
                  obtain ⟨y238,hy238⟩ : ∃ y_ : List Int,y_ = (x3_2 ++ y235):=⟨_,rfl⟩
                  replace H : ((spec_l02Number.f k2 ((rd_T73 ((rd_T70 l0_2 x4_1).f4) x6_2).f1) 2).bind fun t242 => (if y238.length + t242.length < 140737488355328 then (spec_l05Bytes.l1 k2 (y238 ++ t242) x4_1 (wrap64 (x6_2 + 1)) a0_0 a0_1 l0_2 l0_3 ((rd_T70 l0_2 x4_1).f0) ((rd_T70 l0_2 x4_1).f1) ((rd_T70 l0_2 x4_1).f2) ((rd_T70 l0_2 x4_1).f3) ((rd_T70 l0_2 x4_1).f4)) else (none))) = some r:=by first|(rw [hy238];with_reducible exact H)|(have H2_:=(Option.bind_some _ _).symm.trans H;rw [hy238];with_reducible exact H2_)|(have H2_:=(Option.bind_some _ _).symm.trans H;with_reducible exact H2_)|with_reducible exact H|(rw [hy238];exact H)|exact H
                  have Ny238:=qk hy238
                  clear hy238
                  replace H:=Option.bind_eq_some_iff.mp H
                  obtain ⟨t242,A590,H⟩:=H
                  replace H : (if y238.length + t242.length < 140737488355328 then (spec_l05Bytes.l1 k2 (y238 ++ t242) x4_1 (wrap64 (x6_2 + 1)) a0_0 a0_1 l0_2 l0_3 ((rd_T70 l0_2 x4_1).f0) ((rd_T70 l0_2 x4_1).f1) ((rd_T70 l0_2 x4_1).f2) ((rd_T70 l0_2 x4_1).f3) ((rd_T70 l0_2 x4_1).f4)) else (none)) = some r:=H
                  have A59:=qk A590
                  clear A590
                  by_cases c60 : y238.length + t242.length < 140737488355328
                  ·
                   rw [if_pos c60] at H
                   have LMc60:=qk c60
                   clear c60
                   obtain ⟨y245,hy245⟩ : ∃ y_ : List Int,y_ = (y238 ++ t242):=⟨_,rfl⟩
                   replace H : (spec_l05Bytes.l1 k2 y245 x4_1 (wrap64 (x6_2 + 1)) a0_0 a0_1 l0_2 l0_3 ((rd_T70 l0_2 x4_1).f0) ((rd_T70 l0_2 x4_1).f1) ((rd_T70 l0_2 x4_1).f2) ((rd_T70 l0_2 x4_1).f3) ((rd_T70 l0_2 x4_1).f4)) = some r:=by first|(rw [hy245];with_reducible exact H)|(have H2_:=(Option.bind_some _ _).symm.trans H;rw [hy245];with_reducible exact H2_)|(have H2_:=(Option.bind_some _ _).symm.trans H;with_reducible exact H2_)|with_reducible exact H|(rw [hy245];exact H)|exact H
                   have Ny245:=qk hy245
                   clear hy245
                   have H':=qk H
                   clear H
                   have hnb61:=NB200_183.out
                   have hnc61:=NB183_200.out
                   have hcz62_0 : wr.cell? ⟨gb200,0,none⟩ = some (.string ((rd_T70 l0_2 x4_1).f0)):=(blk_cell BK200.out 0).trans rfl
                   have hcz62_1 : wr.cell? ⟨gb200,1,none⟩ = some (.int .i64 ((rd_T70 l0_2 x4_1).f1)):=(blk_cell BK200.out 1).trans rfl
                   have hcz62_2 : wr.cell? ⟨gb200,2,none⟩ = some (.int .i64 ((rd_T70 l0_2 x4_1).f2)):=(blk_cell BK200.out 2).trans rfl
                   have hcz62_3 : wr.cell? ⟨gb200,3,none⟩ = some (.int .i64 ((rd_T70 l0_2 x4_1).f3)):=(blk_cell BK200.out 3).trans rfl
                   have hcz62_4 : wr.cell? ⟨gb200,4,none⟩ = some (.slice A199_4 ((rd_T70 l0_2 x4_1).f4).length c199_4):=(blk_cell BK200.out 4).trans rfl
                   have hfz62_0:=sJ BK200.out 0
                   have hfz62_1:=sJ BK200.out 1
                   have hfz62_2:=sJ BK200.out 2
                   have hfz62_3:=sJ BK200.out 3
                   have hfz62_4:=sJ BK200.out 4
                   try go_wp2
                   have n0_:=qk (qf HO_3.out)
                   have n1_:=qk (qb BK183.out)
                   have n2_:=qk (qb BK200.out)
                   have n3_:=qk (qi HB.out)
                   clear HO_3
                   clear BK183
                   clear BK200
                   clear HB
                   have HO_3:=n0_
                   have BK183:=n1_
                   have BK200:=n2_
                   have HB:=n3_
                   clear n0_ n1_ n2_ n3_
                   have p234 : 0 ≤ (x6_2 : Int):=sM (by first|(with_reducible assumption)|assumption)
                   have q234 : x6_2 < (((rd_T70 l0_2 x4_1).f4).length : Int):=sM (by first|(with_reducible assumption)|assumption)
                   obtain ⟨ad234,e234,hx234_0,hx234_1⟩:=at_T73 HR199_4.out x6_2 p234 q234
                   have hw234_1:=hx234_1
                   have hw234_0:=hx234_0
                   cases e234
                   replace hx234_0:=(HB.out.cell (sD w _ hx234_0)).trans hx234_0
                   replace hx234_1:=(HB.out.cell (sD w _ hx234_1)).trans hx234_1
                   replace p234:=eq_true p234
                   replace q234:=eq_true q234
                   have p241 : 0 ≤ (x6_2 : Int):=sM (by first|(with_reducible assumption)|assumption)
                   have q241 : x6_2 < (((rd_T70 l0_2 x4_1).f4).length : Int):=sM (by first|(with_reducible assumption)|assumption)
                   obtain ⟨ad241,e241,hx241_0,hx241_1⟩:=at_T73 HR199_4.out x6_2 p241 q241
                   have hw241_1:=hx241_1
                   have hw241_0:=hx241_0
                   obtain rfl : ad234 = ad241:=(by injection e241)
                   replace hx241_0:=(HB.out.cell (sD w _ hx241_0)).trans hx241_0
                   replace hx241_1:=(HB.out.cell (sD w _ hx241_1)).trans hx241_1
                   replace p241:=eq_true p241
                   replace q241:=eq_true q241
                   refine start_ (n:=19) (S:=fun w' => w'.cell? ⟨gb200,0,none⟩ = some (.string ((rd_T70 l0_2 x4_1).f0)) ∧ w'.cell? ⟨gb200,1,none⟩ = some (.int .i64 ((rd_T70 l0_2 x4_1).f1)) ∧ w'.cell? ⟨gb200,2,none⟩ = some (.int .i64 ((rd_T70 l0_2 x4_1).f2)) ∧ w'.cell? ⟨gb200,3,none⟩ = some (.int .i64 ((rd_T70 l0_2 x4_1).f3)) ∧ w'.cell? ⟨gb200,4,none⟩ = some (.slice (some ad234) ((rd_T70 l0_2 x4_1).f4).length c199_4) ∧ w'.cell? (ad234.add ((x6_2).toNat * 2)) = some (.int .i64 ((rd_T73 ((rd_T70 l0_2 x4_1).f4) x6_2).f0)) ∧ w'.cell? ⟨(ad234.add ((x6_2).toNat * 2)).block,(ad234.add ((x6_2).toNat * 2)).off + 1,none⟩ = some (.int .i64 ((rd_T73 ((rd_T70 l0_2 x4_1).f4) x6_2).f1)) ∧ w'.cell? (ad234.add ((x6_2).toNat * 2)) = some (.int .i64 ((rd_T73 ((rd_T70 l0_2 x4_1).f4) x6_2).f0)) ∧ w'.cell? ⟨(ad234.add ((x6_2).toNat * 2)).block,(ad234.add ((x6_2).toNat * 2)).off + 1,none⟩ = some (.int .i64 ((rd_T73 ((rd_T70 l0_2 x4_1).f4) x6_2).f1))) (ds:=[]) #[false,false,false,false,false,false,false,false,false,false,false,false,false,false,false,false,false,false,false] (by kernel_rfl) rfl rfl ⟨(blk_cell BK200.out 0).trans rfl,(blk_cell BK200.out 1).trans rfl,(blk_cell BK200.out 2).trans rfl,(blk_cell BK200.out 3).trans rfl,(blk_cell BK200.out 4).trans rfl,((HB.out.cell (sD w _ hw234_0)).trans hw234_0),((HB.out.cell (sD w _ hw234_1)).trans hw234_1),((HB.out.cell (sD w _ hw241_0)).trans hw241_0),((HB.out.cell (sD w _ hw241_1)).trans hw241_1)⟩ (fun hHeld => ?_);refine with_tabW spec_l05Bytes.tab13 spec_l05Bytes.bits13 (fun HT_ HW_ => ?_)
                   generalize wr.drew = w63 at HO_3 BK183 BK200 HB hx234_0 hx234_1 hx241_0 hx241_1 hHeld ⊢
                   refine pure_ (i:=0) (N:=some 73) (v:=?_) (a':=?_) #[true,false,false,false,false,false,false,false,false,false,false,false,false,false,false,false,false,false,false] rfl rfl (any_of HT_.out (by kernel_rfl)) (fun _ _ _ h => h) (Or.inl ⟨by rfl,?_⟩) ?_ ?_
                   rotate_left
                   ·
                    intro w'
                    go_simp
                    with_reducible rfl
                   rotate_left
                   ·
                    simp only [Act.put,sA,sB,sC,i64_w,i32_w]
                    rfl
                   refine pure_ (i:=1) (N:=some 74) (v:=?_) (a':=?_) #[true,true,false,false,false,false,false,false,false,false,false,false,false,false,false,false,false,false,false] rfl rfl (any_of HT_.out (by kernel_rfl)) (fun _ _ _ h => h) (Or.inl ⟨by rfl,?_⟩) ?_ ?_
                   rotate_left
                   ·
                    intro w'
                    go_simp
                    with_reducible rfl
                   rotate_left
                   ·
                    simp only [Act.put,sA,sB,sC,i64_w,i32_w]
                    rfl
                   refine pure_ (i:=3) (N:=some 76) (v:=?_) (a':=?_) #[true,true,false,true,false,false,false,false,false,false,false,false,false,false,false,false,false,false,false] rfl rfl (any_of HT_.out (by kernel_rfl)) (fun _ _ _ h => h) (Or.inl ⟨by rfl,?_⟩) ?_ ?_
                   rotate_left
                   ·
                    intro w'
                    go_simp
                    with_reducible rfl
                   rotate_left
                   ·
                    simp only [Act.put,sA,sB,sC,i64_w,i32_w]
                    rfl
                   refine pure_ (i:=10) (N:=some 83) (v:=?_) (a':=?_) #[true,true,false,true,false,false,false,false,false,false,true,false,false,false,false,false,false,false,false] rfl rfl (any_of HT_.out (by kernel_rfl)) (fun _ _ _ h => h) (Or.inl ⟨by rfl,?_⟩) ?_ ?_
                   rotate_left
                   ·
                    intro w'
                    go_simp
                    with_reducible rfl
                   rotate_left
                   ·
                    simp only [Act.put,sA,sB,sC,i64_w,i32_w]
                    rfl
                   refine pure_ (i:=12) (N:=some 85) (v:=?_) (a':=?_) #[true,true,false,true,false,false,false,false,false,false,true,false,true,false,false,false,false,false,false] rfl rfl (any_of HT_.out (by kernel_rfl)) (fun _ _ _ h => h) (Or.inl ⟨by rfl,?_⟩) ?_ ?_
                   rotate_left
                   ·
                    intro w'
                    go_simp
                    with_reducible rfl
                   rotate_left
                   ·
                    simp only [Act.put,sA,sB,sC,i64_w,i32_w]
                    rfl
                   refine take_ (i:=2) (N:=some 75) (v:=?_) (a':=?_) #[true,true,true,true,false,false,false,false,false,false,true,false,true,false,false,false,false,false,false] rfl rfl (take_ofW HT_.out HW_.out (by kernel_rfl)) (fun _ _ _ h => h) (Or.inl ⟨by rfl,?_⟩) hHeld ?_ ?_
                   rotate_left
                   ·
                    rintro w' ⟨s0,s1,s2,s3,s4,s5,s6,s7,s8⟩
                    go_simp
                    with_reducible rfl
                   rotate_left
                   ·
                    simp only [Act.put,sA,sB,sC,i64_w,i32_w]
                    rfl
                   refine pure_ (i:=4) (N:=some 77) (v:=?_) (a':=?_) #[true,true,true,true,true,false,false,false,false,false,true,false,true,false,false,false,false,false,false] rfl rfl (any_of HT_.out (by kernel_rfl)) (fun _ _ _ h => h) (Or.inl ⟨by rfl,?_⟩) ?_ ?_
                   rotate_left
                   ·
                    intro w'
                    go_simp
                    with_reducible rfl
                   rotate_left
                   ·
                    simp only [Act.put,sA,sB,sC,i64_w,i32_w]
                    rfl
                   refine pure_ (i:=5) (N:=some 78) (v:=?_) (a':=?_) #[true,true,true,true,true,true,false,false,false,false,true,false,true,false,false,false,false,false,false] rfl rfl (any_of HT_.out (by kernel_rfl)) (fun _ _ _ h => h) (Or.inl ⟨by rfl,?_⟩) ?_ ?_
                   rotate_left
                   ·
                    intro w'
                    go_simp
                    with_reducible rfl
                   rotate_left
                   ·
                    simp only [Act.put,sA,sB,sC,i64_w,i32_w]
                    rfl
                   refine take_ (i:=6) (N:=some 79) (v:=?_) (a':=?_) #[true,true,true,true,true,true,true,false,false,false,true,false,true,false,false,false,false,false,false] rfl rfl (take_ofW HT_.out HW_.out (by kernel_rfl)) (fun _ _ _ h => h) (Or.inl ⟨by rfl,?_⟩) hHeld ?_ ?_
                   rotate_left
                   ·
                    rintro w' ⟨s0,s1,s2,s3,s4,s5,s6,s7,s8⟩
                    go_simp
                    with_reducible rfl
                   rotate_left
                   ·
                    simp only [Act.put,sA,sB,sC,i64_w,i32_w]
                    rfl
                   refine pure_ (i:=7) (N:=some 80) (v:=?_) (a':=?_) #[true,true,true,true,true,true,true,true,false,false,true,false,true,false,false,false,false,false,false] rfl rfl (any_of HT_.out (by kernel_rfl)) (fun _ _ _ h => h) (Or.inl ⟨by rfl,?_⟩) ?_ ?_
                   rotate_left
                   ·
                    intro w'
                    go_simp
                    with_reducible rfl
                   rotate_left
                   ·
                    simp only [Act.put,sA,sB,sC,i64_w,i32_w]
                    rfl
                   refine take_ (i:=11) (N:=some 84) (v:=?_) (a':=?_) #[true,true,true,true,true,true,true,true,false,false,true,true,true,false,false,false,false,false,false] rfl rfl (take_ofW HT_.out HW_.out (by kernel_rfl)) (fun _ _ _ h => h) (Or.inl ⟨by rfl,?_⟩) hHeld ?_ ?_
                   rotate_left
                   ·
                    rintro w' ⟨s0,s1,s2,s3,s4,s5,s6,s7,s8⟩
                    go_simp
                    with_reducible rfl
                   rotate_left
                   ·
                    simp only [Act.put,sA,sB,sC,i64_w,i32_w]
                    rfl
                   refine pure_ (i:=13) (N:=some 86) (v:=?_) (a':=?_) #[true,true,true,true,true,true,true,true,false,false,true,true,true,true,false,false,false,false,false] rfl rfl (any_of HT_.out (by kernel_rfl)) (fun _ _ _ h => h) (Or.inl ⟨by rfl,?_⟩) ?_ ?_
                   rotate_left
                   ·
                    intro w'
                    go_simp
                    with_reducible rfl
                   rotate_left
                   ·
                    simp only [Act.put,sA,sB,sC,i64_w,i32_w]
                    rfl
                   refine pure_ (i:=14) (N:=some 87) (v:=?_) (a':=?_) #[true,true,true,true,true,true,true,true,false,false,true,true,true,true,true,false,false,false,false] rfl rfl (any_of HT_.out (by kernel_rfl)) (fun _ _ _ h => h) (Or.inl ⟨by rfl,?_⟩) ?_ ?_
                   rotate_left
                   ·
                    intro w'
                    go_simp
                    with_reducible rfl
                   rotate_left
                   ·
                    simp only [Act.put,sA,sB,sC,i64_w,i32_w]
                    rfl
                   refine take_ (i:=15) (N:=some 88) (v:=?_) (a':=?_) #[true,true,true,true,true,true,true,true,false,false,true,true,true,true,true,true,false,false,false] rfl rfl (take_ofW HT_.out HW_.out (by kernel_rfl)) (fun _ _ _ h => h) (Or.inl ⟨by rfl,?_⟩) hHeld ?_ ?_
                   rotate_left
                   ·
                    rintro w' ⟨s0,s1,s2,s3,s4,s5,s6,s7,s8⟩
                    go_simp
                    with_reducible rfl
                   rotate_left
                   ·
                    simp only [Act.put,sA,sB,sC,i64_w,i32_w]
                    rfl
                   refine one_ (i:=8) (N:=some 81) #[true,true,true,true,true,true,true,true,true,false,true,true,true,true,true,true,false,false,false] rfl rfl (one_of HT_.out (by kernel_rfl)) (by decide) (fun K hK => ?_)
                   refine Kd.R_lit_step (Kd.int .u8) _ 5 ?hg (N:=81) ?hd (xs:=([((rd_T73 ((rd_T70 l0_2 x4_1).f4) x6_2).f0) % 256] : List Int)) (inner:=[.int .u8 (((rd_T73 ((rd_T70 l0_2 x4_1).f4) x6_2).f0) % 256)]) (ok:=fun _ => True) (okp:=fun _ => True) ?hr ?hp (fun _ hk => hk) trivial (Below.refl _ _) (Nat.le_refl _) (by simp) ?_;(case hd => rfl);(case hg => rfl);(case hr => first|(go_simp;done)|(go_simp;rfl));(case hp => exact (Reps.one (show Kd.M (Kd.int .u8) _ _ _ (((rd_T73 ((rd_T70 l0_2 x4_1).f4) x6_2).f0) % 256) [.int .u8 (((rd_T73 ((rd_T70 l0_2 x4_1).f4) x6_2).f0) % 256)] from rfl) (Reps.none _ _)))
                   intro v236 w64 ho65 hb hg_ hnew_
                   clear hg_ hnew_
                   (first|rw [← Ny235.out] at ho65|(simp only [Int.reduceToNat] at ho65;rw [← Ny235.out] at ho65))
                   have n0_:=qk (Kd.R_elder' (by (with_reducible repeat (first|apply qd|apply qe|apply qf));exact HO_3.out) (Kd.R_base ho65) hb)
                   have n1_:=qk (Kd.R_lower (Kd.R_new' ho65 (Kd.R_lt (by (with_reducible repeat (first|apply qd|apply qe|apply qf));exact HO_3.out))) (qm (by repeat (first|(with_reducible first|exact HB.out|apply qg|apply qh|apply qi|refine qj ?_ GE183.out|refine qj ?_ GE200.out)|exact HB.out))))
                   have n2_:=qk (ql (g:=gb183) (o:=.cells #[.int .i64 a0_0,.int .i64 a0_1,.slice (some ad199) l0_2.length c0_2,.slice A0_3 l0_3.length c0_3] 31 (0,0)) (by (with_reducible repeat (first|apply qa|apply qb|apply qc));exact BK183.out) hb)
                   have n3_:=qk (ql (g:=gb200) (o:=.cells #[.string ((rd_T70 l0_2 x4_1).f0),.int .i64 ((rd_T70 l0_2 x4_1).f1),.int .i64 ((rd_T70 l0_2 x4_1).f2),.int .i64 ((rd_T70 l0_2 x4_1).f3),.slice (some ad234) ((rd_T70 l0_2 x4_1).f4).length c199_4] 70 (0,0)) (by (with_reducible repeat (first|apply qa|apply qb|apply qc));exact BK200.out) hb)
                   have n4_:=qk (sN (by repeat (first|(with_reducible first|exact HB.out|apply qg|apply qh|apply qi|refine qj ?_ GE183.out|refine qj ?_ GE200.out)|exact HB.out)) hb)
                   clear HO_3
                   clear BK183
                   clear BK200
                   clear HB
                   have HO_3:=n0_
                   have HO237:=n1_
                   have BK183:=n2_
                   have BK200:=n3_
                   have HB:=n4_
                   clear n0_ n1_ n2_ n3_ n4_
                   clear hb ho65
                   obtain ⟨Ao67,co67,eo67⟩:=Kd.R_slice HO237.out
                   (first|subst eo67|(injection eo67 with f1_ f2_ f3_;have f4_:=f1_.symm;have f5_:=f3_.symm;clear f1_ f2_ f3_;subst f4_;subst f5_))
                   refine hK.out _ _ ⟨(blk_cell BK200.out 0).trans rfl,(blk_cell BK200.out 1).trans rfl,(blk_cell BK200.out 2).trans rfl,(blk_cell BK200.out 3).trans rfl,(blk_cell BK200.out 4).trans rfl,((HB.out.cell (sD w _ hw234_0)).trans hw234_0),((HB.out.cell (sD w _ hw234_1)).trans hw234_1),((HB.out.cell (sD w _ hw241_0)).trans hw241_0),((HB.out.cell (sD w _ hw241_1)).trans hw241_1)⟩ (fun hHeld => ?_)
                   clear hK K
                   refine norm_ (a':=?_) ?_ ?_
                   rotate_left
                   ·
                    show Act.put _ (some 81) _ = _
                    simp only [Act.put,sA,sB,sC,i64_w,i32_w]
                    rfl
                   refine one_ (i:=9) (N:=some 82) #[true,true,true,true,true,true,true,true,true,true,true,true,true,true,true,true,false,false,false] rfl rfl (one_of HT_.out (by kernel_rfl)) (by decide) (fun K hK => ?_)
                   refine Kd.R_append_rows_step (Kd.int .u8) (w0:=w) w.heap.size (by rfl) (.tmp 73) (.tmp 81) 38 5 (.int .u8 0) 1 rfl Try.underlying38 info5 rfl (by decide) (by omega) u3 x3_2 y235 _ _ _ (fun k_ => some k_ ≠ (.slice Ao67 y235.length co67 : Value).ownBlock) (fun _ => False) rfl rfl ?aO ?aR (fun _ _ h => h) (fun _ h => h.elim) ?aF ?aB ?aS ?aL ?_
                   (case aR => repeat (first|exact (Kd.R_reads' HO237.out).2.2|(with_reducible refine Kd.C_alloc ?_ _)|(with_reducible refine Kd.C_drewN ?_ _)|(with_reducible refine Kd.C_drew ?_)))
                   (case aB => exact (by repeat (first|(with_reducible first|exact HB.out|apply qg|apply qh|apply qi|refine qj ?_ GE183.out|refine qj ?_ GE200.out)|exact HB.out)))
                   (case aF => exact (fun k_ hk => Kd.fresh' (Kd.R_lt (by (with_reducible repeat (first|apply qd|apply qe|apply qf));exact HO237.out)) k_ hk))
                   (case aO => exact (by (with_reducible repeat (first|apply qd|apply qe|apply qf));exact qn HO_3.out (fun _ hk => hk.2)))
                   (case aS => exact (qm (by repeat (first|(with_reducible first|exact HB.out|apply qg|apply qh|apply qi|refine qj ?_ GE183.out|refine qj ?_ GE200.out)|exact HB.out))))
                   (case aL => have:=LMc58.out;omega)
                   intro v239 w66 ho hb hg hat
                   rw [← Ny238.out] at ho
                   have n0_:=qk (blk_grown (g:=gb183) (o:=.cells #[.int .i64 a0_0,.int .i64 a0_1,.slice (some ad199) l0_2.length c0_2,.slice A0_3 l0_3.length c0_3] 31 (0,0)) (by (with_reducible repeat (first|apply qa|apply qb|apply qc));exact BK183.out) hg (Kd.R_ne HO_3.out BK183.out (by decide)))
                   have n1_:=qk (blk_grown (g:=gb200) (o:=.cells #[.string ((rd_T70 l0_2 x4_1).f0),.int .i64 ((rd_T70 l0_2 x4_1).f1),.int .i64 ((rd_T70 l0_2 x4_1).f2),.int .i64 ((rd_T70 l0_2 x4_1).f3),.slice (some ad234) ((rd_T70 l0_2 x4_1).f4).length c199_4] 70 (0,0)) (by (with_reducible repeat (first|apply qa|apply qb|apply qc));exact BK200.out) hg (Kd.R_ne HO_3.out BK200.out (by decide)))
                   have n2_:=qk (Kd.R_after (ok:=(fun _ => True)) (by (with_reducible repeat (first|apply qd|apply qe|apply qf));exact HO237.out) hg hat)
                   have n3_:=qk (hb)
                   have n4_:=qk (ho)
                   clear BK183
                   clear BK200
                   clear HO237
                   clear HB
                   clear HO_3
                   have BK183:=n0_
                   have BK200:=n1_
                   have HO237:=n2_
                   have HB:=n3_
                   have HO240:=n4_
                   clear n0_ n1_ n2_ n3_ n4_
                   clear ho hb hg hat
                   refine hK.out _ _ ⟨(blk_cell BK200.out 0).trans rfl,(blk_cell BK200.out 1).trans rfl,(blk_cell BK200.out 2).trans rfl,(blk_cell BK200.out 3).trans rfl,(blk_cell BK200.out 4).trans rfl,((HB.out.cell (sD w _ hw234_0)).trans hw234_0),((HB.out.cell (sD w _ hw234_1)).trans hw234_1),((HB.out.cell (sD w _ hw241_0)).trans hw241_0),((HB.out.cell (sD w _ hw241_1)).trans hw241_1)⟩ (fun hHeld => ?_)
                   clear hK K
                   refine norm_ (a':=?_) ?_ ?_
                   rotate_left
                   ·
                    show Act.put _ (some 82) _ = _
                    simp only [Act.put,sA,sB,sC,i64_w,i32_w]
                    rfl
                   refine one_ (i:=16) (N:=some 89) #[true,true,true,true,true,true,true,true,true,true,true,true,true,true,true,true,true,false,false] rfl rfl (one_of HT_.out (by kernel_rfl)) (by decide) (fun K hK => ?_)
                   refine goes_ Try.func79 (by kernel_rfl) rfl #[.int .i64 ((rd_T73 ((rd_T70 l0_2 x4_1).f4) x6_2).f1),.int .i64 2] (by rfl) rfl rfl (by (try simp only [sE,sH,sI]);first|done|rfl|(simp only [sG,sF];rfl)) ?_
                   with_reducible refine (spec_l02Number.calls k2 ((rd_T73 ((rd_T70 l0_2 x4_1).f4) x6_2).f1) 2 t242 _ A59.out).mono ?_
                   rintro e w68 ⟨v243,rfl,ho0,hb⟩
                   refine ⟨_,rfl,?_⟩
                   have n0_:=qk (Kd.R_elder' (by (with_reducible repeat (first|apply qd|apply qe|apply qf));exact HO237.out) (Kd.R_base ho0) hb)
                   have n1_:=qk (Kd.R_elder' (by (with_reducible repeat (first|apply qd|apply qe|apply qf));exact HO240.out) (Kd.R_base ho0) hb)
                   have n2_:=qk (Kd.R_lower (Kd.R_new' (Kd.R_new' ho0 (Kd.R_lt (by (with_reducible repeat (first|apply qd|apply qe|apply qf));exact HO237.out))) (Kd.R_lt (by (with_reducible repeat (first|apply qd|apply qe|apply qf));exact HO240.out))) (qm (by repeat (first|(with_reducible first|exact HB.out|apply qg|apply qh|apply qi|refine qj ?_ GE183.out|refine qj ?_ GE200.out)|exact HB.out))))
                   have n3_:=qk (ql (g:=gb183) (o:=.cells #[.int .i64 a0_0,.int .i64 a0_1,.slice (some ad199) l0_2.length c0_2,.slice A0_3 l0_3.length c0_3] 31 (0,0)) (by (with_reducible repeat (first|apply qa|apply qb|apply qc));exact BK183.out) hb)
                   have n4_:=qk (ql (g:=gb200) (o:=.cells #[.string ((rd_T70 l0_2 x4_1).f0),.int .i64 ((rd_T70 l0_2 x4_1).f1),.int .i64 ((rd_T70 l0_2 x4_1).f2),.int .i64 ((rd_T70 l0_2 x4_1).f3),.slice (some ad234) ((rd_T70 l0_2 x4_1).f4).length c199_4] 70 (0,0)) (by (with_reducible repeat (first|apply qa|apply qb|apply qc));exact BK200.out) hb)
                   have n5_:=qk (sN (by repeat (first|(with_reducible first|exact HB.out|apply qg|apply qh|apply qi|refine qj ?_ GE183.out|refine qj ?_ GE200.out)|exact HB.out)) hb)
                   clear HO237
                   clear HO240
                   clear BK183
                   clear BK200
                   clear HB
                   have HO237:=n0_
                   have HO240:=n1_
                   have HO244:=n2_
                   have BK183:=n3_
                   have BK200:=n4_
                   have HB:=n5_
                   clear n0_ n1_ n2_ n3_ n4_ n5_
                   (try clear hb)
                   (try clear hb2)
                   (try clear hk)
                   (try clear hi)
                   (try clear ho0)
                   obtain ⟨Ao70,co70,eo70⟩:=Kd.R_slice HO244.out
                   (first|subst eo70|(injection eo70 with f1_ f2_ f3_;have f4_:=f1_.symm;have f5_:=f3_.symm;clear f1_ f2_ f3_;subst f4_;subst f5_))
                   refine hK.out _ _ ⟨(blk_cell BK200.out 0).trans rfl,(blk_cell BK200.out 1).trans rfl,(blk_cell BK200.out 2).trans rfl,(blk_cell BK200.out 3).trans rfl,(blk_cell BK200.out 4).trans rfl,((HB.out.cell (sD w _ hw234_0)).trans hw234_0),((HB.out.cell (sD w _ hw234_1)).trans hw234_1),((HB.out.cell (sD w _ hw241_0)).trans hw241_0),((HB.out.cell (sD w _ hw241_1)).trans hw241_1)⟩ (fun hHeld => ?_)
                   clear hK K
                   refine norm_ (a':=?_) ?_ ?_
                   rotate_left
                   ·
                    show Act.put _ (some 89) _ = _
                    simp only [Act.put,sA,sB,sC,i64_w,i32_w]
                    rfl
                   refine one_ (i:=17) (N:=some 90) #[true,true,true,true,true,true,true,true,true,true,true,true,true,true,true,true,true,true,false] rfl rfl (one_of HT_.out (by kernel_rfl)) (by decide) (fun K hK => ?_)
                   refine Kd.R_append_rows_step (Kd.int .u8) (w0:=w) w.heap.size (by rfl) (.tmp 82) (.tmp 89) 38 5 (.int .u8 0) 1 rfl Try.underlying38 info5 rfl (by decide) (by omega) v239 y238 t242 _ _ _ (fun k_ => some k_ ≠ (.slice Ao67 y235.length co67 : Value).ownBlock ∧ some k_ ≠ (.slice Ao70 t242.length co70 : Value).ownBlock) (fun _ => False) rfl rfl ?aO ?aR (fun _ _ h => h) (fun _ h => h.elim) ?aF ?aB ?aS ?aL ?_
                   (case aR => repeat (first|exact (Kd.R_reads' HO244.out).2.2|(with_reducible refine Kd.C_alloc ?_ _)|(with_reducible refine Kd.C_drewN ?_ _)|(with_reducible refine Kd.C_drew ?_)))
                   (case aB => exact (by repeat (first|(with_reducible first|exact HB.out|apply qg|apply qh|apply qi|refine qj ?_ GE183.out|refine qj ?_ GE200.out)|exact HB.out)))
                   (case aF => exact (fun k_ hk => ⟨Kd.fresh' (Kd.R_lt (by (with_reducible repeat (first|apply qd|apply qe|apply qf));exact HO237.out)) k_ hk,Kd.fresh' (Kd.R_lt (by (with_reducible repeat (first|apply qd|apply qe|apply qf));exact HO244.out)) k_ hk⟩))
                   (case aO => exact (by (with_reducible repeat (first|apply qd|apply qe|apply qf));exact HO240.out))
                   (case aS => exact (qm (by repeat (first|(with_reducible first|exact HB.out|apply qg|apply qh|apply qi|refine qj ?_ GE183.out|refine qj ?_ GE200.out)|exact HB.out))))
                   (case aL => have:=LMc60.out;omega)
                   intro v246 w69 ho hb hg hat
                   rw [← Ny245.out] at ho
                   have n0_:=qk (blk_grown (g:=gb183) (o:=.cells #[.int .i64 a0_0,.int .i64 a0_1,.slice (some ad199) l0_2.length c0_2,.slice A0_3 l0_3.length c0_3] 31 (0,0)) (by (with_reducible repeat (first|apply qa|apply qb|apply qc));exact BK183.out) hg (Kd.R_ne HO240.out BK183.out (by decide)))
                   have n1_:=qk (blk_grown (g:=gb200) (o:=.cells #[.string ((rd_T70 l0_2 x4_1).f0),.int .i64 ((rd_T70 l0_2 x4_1).f1),.int .i64 ((rd_T70 l0_2 x4_1).f2),.int .i64 ((rd_T70 l0_2 x4_1).f3),.slice (some ad234) ((rd_T70 l0_2 x4_1).f4).length c199_4] 70 (0,0)) (by (with_reducible repeat (first|apply qa|apply qb|apply qc));exact BK200.out) hg (Kd.R_ne HO240.out BK200.out (by decide)))
                   have n2_:=qk (Kd.R_after (ok:=(fun k_ => some k_ ≠ (.slice Ao70 t242.length co70 : Value).ownBlock)) (by (with_reducible repeat (first|apply qd|apply qe|apply qf));exact qn HO237.out (fun _ hk => ⟨hk.2,hk.1.2⟩)) hg hat)
                   have n3_:=qk (Kd.R_after (ok:=(fun k_ => some k_ ≠ (.slice Ao67 y235.length co67 : Value).ownBlock)) (by (with_reducible repeat (first|apply qd|apply qe|apply qf));exact qn HO244.out (fun _ hk => ⟨hk.1.2,hk.2⟩)) hg hat)
                   have n4_:=qk (hb)
                   have n5_:=qk (ho)
                   clear BK183
                   clear BK200
                   clear HO237
                   clear HO244
                   clear HB
                   clear HO240
                   have BK183:=n0_
                   have BK200:=n1_
                   have HO237:=n2_
                   have HO244:=n3_
                   have HB:=n4_
                   have HO247:=n5_
                   clear n0_ n1_ n2_ n3_ n4_ n5_
                   clear ho hb hg hat
                   refine hK.out _ _ ⟨(blk_cell BK200.out 0).trans rfl,(blk_cell BK200.out 1).trans rfl,(blk_cell BK200.out 2).trans rfl,(blk_cell BK200.out 3).trans rfl,(blk_cell BK200.out 4).trans rfl,((HB.out.cell (sD w _ hw234_0)).trans hw234_0),((HB.out.cell (sD w _ hw234_1)).trans hw234_1),((HB.out.cell (sD w _ hw241_0)).trans hw241_0),((HB.out.cell (sD w _ hw241_1)).trans hw241_1)⟩ (fun hHeld => ?_)
                   clear hK K
                   refine norm_ (a':=?_) ?_ ?_
                   rotate_left
                   ·
                    show Act.put _ (some 90) _ = _
                    simp only [Act.put,sA,sB,sC,i64_w,i32_w]
                    rfl
                   refine pure_ (i:=18) (N:=some 3) (v:=?_) (a':=?_) #[true,true,true,true,true,true,true,true,true,true,true,true,true,true,true,true,true,true,true] rfl rfl (any_of HT_.out (by kernel_rfl)) (fun _ _ _ h => h) (Or.inl ⟨by rfl,?_⟩) ?_ ?_
                   rotate_left
                   ·
                    intro w'
                    go_simp
                    with_reducible rfl
                   rotate_left
                   ·
                    simp only [Act.put,sA,sB,sC,i64_w,i32_w]
                    rfl
                   refine done_ (done_of HT_.out (by kernel_rfl)) ?_
                   try go_wp2
                   go_roundg k2
                   case measure => have:=HK1.out;have:=HK2.out;omega
                   case rel => exact ⟨(y245),(wrap64 (x6_2 + 1)),(by first|rfl|(simp;done)|(simp [*];done)),H',⟨by have:=HK1.out;have:=HK2.out;omega⟩,⟨by (with_reducible repeat (first|apply qd|apply qe|apply qf));exact qn HO247.out (fun _ hk => trivial)⟩,⟨by (with_reducible repeat (first|apply qa|apply qb|apply qc));exact BK183.out⟩,⟨by (with_reducible repeat (first|apply qa|apply qb|apply qc));exact BK200.out⟩,⟨by repeat (first|(with_reducible first|exact HB.out|apply qg|apply qh|apply qi|refine qj ?_ GE183.out|refine qj ?_ GE200.out)|exact HB.out)⟩⟩
                  ·
                   rw [if_neg c60] at H
                   exact absurd H (by simp)
                 ·
                  rw [if_neg c58] at H
                  exact absurd H (by simp)
                ·
                 rw [if_neg c57] at H
                 exact absurd H (by simp)
               ·
                rw [if_neg c56] at H
                have c56b0 : decide (x6_2 < (((rd_T70 l0_2 x4_1).f4).length : Int)) = false:=decide_eq_false c56
                clear c56
                have H':=qk H
                clear H
                have hnb71:=NB200_183.out
                have hnc71:=NB183_200.out
                have hcz72_0 : wr.cell? ⟨gb200,0,none⟩ = some (.string ((rd_T70 l0_2 x4_1).f0)):=(blk_cell BK200.out 0).trans rfl
                have hcz72_1 : wr.cell? ⟨gb200,1,none⟩ = some (.int .i64 ((rd_T70 l0_2 x4_1).f1)):=(blk_cell BK200.out 1).trans rfl
                have hcz72_2 : wr.cell? ⟨gb200,2,none⟩ = some (.int .i64 ((rd_T70 l0_2 x4_1).f2)):=(blk_cell BK200.out 2).trans rfl
                have hcz72_3 : wr.cell? ⟨gb200,3,none⟩ = some (.int .i64 ((rd_T70 l0_2 x4_1).f3)):=(blk_cell BK200.out 3).trans rfl
                have hcz72_4 : wr.cell? ⟨gb200,4,none⟩ = some (.slice A199_4 ((rd_T70 l0_2 x4_1).f4).length c199_4):=(blk_cell BK200.out 4).trans rfl
                have hfz72_0:=sJ BK200.out 0
                have hfz72_1:=sJ BK200.out 1
                have hfz72_2:=sJ BK200.out 2
                have hfz72_3:=sJ BK200.out 3
                have hfz72_4:=sJ BK200.out 4
                go_wp2
                go_roundg k2
                case measure => have:=HK1.out;have:=HK2.out;omega
                case rel => exact ⟨(x3_2),(wrap64 (x4_1 + 1)),(by first|rfl|(simp;done)|(simp [*];done)),H',⟨by have:=HK1.out;have:=HK2.out;omega⟩,⟨by (with_reducible repeat (first|apply qd|apply qe|apply qf));exact HO_3.out⟩,⟨by (with_reducible repeat (first|apply qa|apply qb|apply qc));exact BK183.out⟩,⟨by repeat (first|(with_reducible first|exact HB.out|apply qg|apply qh|apply qi|refine qj ?_ GE183.out|refine qj ?_ GE200.out)|exact HB.out)⟩⟩
            ·
             rw [if_neg c27] at H
             exact absurd H (by simp)
           ·
            rw [if_neg c26] at H
            exact absurd H (by simp)
          ·
           rw [if_neg c24] at H
           exact absurd H (by simp)
         ·
          rw [if_neg c22] at H
          exact absurd H (by simp)
        ·
         rw [if_neg c20] at H
         exact absurd H (by simp)
       ·
        rw [if_neg c19] at H
        exact absurd H (by simp)
      ·
       rw [if_neg c18] at H
       exact absurd H (by simp)
     ·
      rw [if_neg c17] at H
      have c17b0 : decide (x4_1 < (l0_2.length : Int)) = false:=decide_eq_false c17
      clear c17
      obtain ⟨y248,hy248⟩ : ∃ y_ : List Int,y_ = (([((l0_3.length : Int)) % 256] : List Int)):=⟨_,rfl⟩
      replace H : (if x3_1.length + y248.length < 140737488355328 then (spec_l05Bytes.l2 k1 (x3_1 ++ y248) 0 a0_0 a0_1 l0_2 l0_3) else (none)) = some r:=by first|(rw [hy248];with_reducible exact H)|(have H2_:=(Option.bind_some _ _).symm.trans H;rw [hy248];with_reducible exact H2_)|(have H2_:=(Option.bind_some _ _).symm.trans H;with_reducible exact H2_)|with_reducible exact H|(rw [hy248];exact H)|exact H
      have Ny248:=qk hy248
      clear hy248
      by_cases c73 : x3_1.length + y248.length < 140737488355328
      ·
       rw [if_pos c73] at H
       have LMc73:=qk c73
       clear c73
       obtain ⟨y251,hy251⟩ : ∃ y_ : List Int,y_ = (x3_1 ++ y248):=⟨_,rfl⟩
       replace H : (spec_l05Bytes.l2 k1 y251 0 a0_0 a0_1 l0_2 l0_3) = some r:=by first|(rw [hy251];with_reducible exact H)|(have H2_:=(Option.bind_some _ _).symm.trans H;rw [hy251];with_reducible exact H2_)|(have H2_:=(Option.bind_some _ _).symm.trans H;with_reducible exact H2_)|with_reducible exact H|(rw [hy251];exact H)|exact H
       have Ny251:=qk hy251
       clear hy251
       have H':=qk H
       clear H
       have hcz74_0 : wr.cell? ⟨gb183,0,none⟩ = some (.int .i64 a0_0):=(blk_cell BK183.out 0).trans rfl
       have hcz74_1 : wr.cell? ⟨gb183,1,none⟩ = some (.int .i64 a0_1):=(blk_cell BK183.out 1).trans rfl
       have hcz74_2 : wr.cell? ⟨gb183,2,none⟩ = some (.slice A0_2 l0_2.length c0_2):=(blk_cell BK183.out 2).trans rfl
       have hcz74_3 : wr.cell? ⟨gb183,3,none⟩ = some (.slice A0_3 l0_3.length c0_3):=(blk_cell BK183.out 3).trans rfl
       have hfz74_0:=sJ BK183.out 0
       have hfz74_1:=sJ BK183.out 1
       have hfz74_2:=sJ BK183.out 2
       have hfz74_3:=sJ BK183.out 3
       go_wp2_with (first|((with_reducible refine gate_dst (N:=96) rfl ?_);refine Kd.R_lit (Kd.int .u8) _ 5 ?hg (N:=96) ?hd (xs:=([((l0_3.length : Int)) % 256] : List Int)) (inner:=[.int .u8 (((l0_3.length : Int)) % 256)]) (ok:=fun _ => True) (okp:=fun _ => True) ?hr ?hp (fun _ hk => hk) trivial (Below.refl _ _) (Nat.le_refl _) (by simp) ?_;(case hd => rfl);(case hg => rfl);(case hr => first|(go_simp;done)|(go_simp;rfl));(case hp => exact (Reps.one (show Kd.M (Kd.int .u8) _ _ _ (((l0_3.length : Int)) % 256) [.int .u8 (((l0_3.length : Int)) % 256)] from rfl) (Reps.none _ _)));intro v249 w75 ho76 hb hg_ hnew_;clear hg_ hnew_;(first|rw [← Ny248.out] at ho76|(simp only [Int.reduceToNat] at ho76;rw [← Ny248.out] at ho76));have n0_:=qk (Kd.R_elder' (by (with_reducible repeat (first|apply qd|apply qe|apply qf));exact HO_3.out) (Kd.R_base ho76) hb);have n1_:=qk (Kd.R_lower (Kd.R_new' ho76 (Kd.R_lt (by (with_reducible repeat (first|apply qd|apply qe|apply qf));exact HO_3.out))) (qm (by repeat (first|(with_reducible first|exact HB.out|apply qg|apply qh|apply qi|refine qj ?_ GE183.out)|exact HB.out))));have n2_:=qk (ql (g:=gb183) (o:=.cells #[.int .i64 a0_0,.int .i64 a0_1,.slice A0_2 l0_2.length c0_2,.slice A0_3 l0_3.length c0_3] 31 (0,0)) (by (with_reducible repeat (first|apply qa|apply qb|apply qc));exact BK183.out) hb);have n3_:=qk (sN (by repeat (first|(with_reducible first|exact HB.out|apply qg|apply qh|apply qi|refine qj ?_ GE183.out)|exact HB.out)) hb);clear HO_3;clear BK183;clear HB;have HO_3:=n0_;have HO250:=n1_;have BK183:=n2_;have HB:=n3_;clear n0_ n1_ n2_ n3_;clear hb ho76;obtain ⟨Ao78,co78,eo78⟩:=Kd.R_slice HO250.out;subst eo78)|((with_reducible refine gate_builtin (b:=.append) (xs:=#[.tmp 91,.tmp 96]) rfl ?_);at_builtin;refine Kd.R_append_rows (Kd.int .u8) (w0:=w) w.heap.size rfl (.tmp 91) (.tmp 96) 38 5 (.int .u8 0) 1 rfl Try.underlying38 info5 rfl (by decide) (by omega) u3 x3_1 y248 _ _ _ (fun k_ => some k_ ≠ (.slice Ao78 y248.length co78 : Value).ownBlock) (fun _ => False) rfl rfl ?aO ?aR (fun _ _ h => h) (fun _ h => h.elim) ?aF ?aB ?aS ?aL ?_;(case aR => repeat (first|exact (Kd.R_reads' HO250.out).2.2|(with_reducible refine Kd.C_alloc ?_ _)|(with_reducible refine Kd.C_drewN ?_ _)|(with_reducible refine Kd.C_drew ?_)));(case aB => exact (by repeat (first|(with_reducible first|exact HB.out|apply qg|apply qh|apply qi|refine qj ?_ GE183.out)|exact HB.out)));(case aF => exact (fun k_ hk => Kd.fresh' (Kd.R_lt (by (with_reducible repeat (first|apply qd|apply qe|apply qf));exact HO250.out)) k_ hk));(case aO => exact (by (with_reducible repeat (first|apply qd|apply qe|apply qf));exact qn HO_3.out (fun _ hk => hk.2)));(case aS => exact (qm (by repeat (first|(with_reducible first|exact HB.out|apply qg|apply qh|apply qi|refine qj ?_ GE183.out)|exact HB.out))));(case aL => have:=LMc73.out;omega);intro v252 w77 ho hb hg hat;rw [← Ny251.out] at ho;have n0_:=qk (blk_grown (g:=gb183) (o:=.cells #[.int .i64 a0_0,.int .i64 a0_1,.slice A0_2 l0_2.length c0_2,.slice A0_3 l0_3.length c0_3] 31 (0,0)) (by (with_reducible repeat (first|apply qa|apply qb|apply qc));exact BK183.out) hg (Kd.R_ne HO_3.out BK183.out (by decide)));have n1_:=qk (Kd.R_after (ok:=(fun _ => True)) (by (with_reducible repeat (first|apply qd|apply qe|apply qf));exact HO250.out) hg hat);have n2_:=qk (hb);have n3_:=qk (ho);clear BK183;clear HO250;clear HB;clear HO_3;have BK183:=n0_;have HO250:=n1_;have HB:=n2_;have HO253:=n3_;clear n0_ n1_ n2_ n3_;clear ho hb hg hat))
       go_loopg [3,7] k1 (fun kq v3 v7 w' => ∃ (x3_2 : List Int) (x7_2 : Int),v7 = .int .i64 x7_2 ∧ Aside0 (spec_l05Bytes.l2 kq x3_2 x7_2 a0_0 a0_1 l0_2 l0_3 = some r) ∧ Aside0 (kq ≤ k1) ∧ Aside0 (Kd.R (Kd.int .u8) 5 w' w.heap.size (fun _ => True) v3 x3_2) ∧ Aside0 (w'.heap[gb183]? = some (.cells #[.int .i64 a0_0,.int .i64 a0_1,(.slice A0_2 l0_2.length c0_2),(.slice A0_3 l0_3.length c0_3)] 31 (0,0))) ∧ Aside0 (Below w.heap.size w w'))
       case atStart => exact ⟨(y251),(0),(by first|rfl|(simp;done)|(simp [*];done)),H',⟨Nat.le_refl _⟩,⟨by (with_reducible repeat (first|apply qd|apply qe|apply qf));exact qn HO253.out (fun _ hk => trivial)⟩,⟨by (with_reducible repeat (first|apply qa|apply qb|apply qc));exact BK183.out⟩,⟨by repeat (first|(with_reducible first|exact HB.out|apply qg|apply qh|apply qi|refine qj ?_ GE183.out)|exact HB.out)⟩⟩
       case round =>
        clear H'
        try clear c1
        try clear c2
        try clear p2
        try clear q2
        try clear hx2
        try clear c5
        try clear c6
        try clear p6
        try clear c7
        try clear c17
        try clear c17b0
        try clear c18
        try clear c19
        try clear c20
        try clear c22
        try clear p23
        try clear q23
        try clear hx23
        try clear c24
        try clear p24
        try clear q24
        try clear hx24
        try clear c26
        try clear c27
        try clear c56
        try clear c56b0
        try clear c57
        try clear c57b0
        try clear c58
        try clear c60
        try clear c61
        try clear p64
        try clear c71
        try clear c73
        try clear hcz62_0
        try clear hcz62_1
        try clear hcz62_2
        try clear hcz62_3
        try clear hcz62_4
        try clear hcz72_0
        try clear hcz72_1
        try clear hcz72_2
        try clear hcz72_3
        try clear hcz72_4
        try clear hcz74_0
        try clear hcz74_1
        try clear hcz74_2
        try clear hcz74_3
        try clear hfz62_0
        try clear hfz62_1
        try clear hfz62_2
        try clear hfz62_3
        try clear hfz62_4
        try clear hfz72_0
        try clear hfz72_1
        try clear hfz72_2
        try clear hfz72_3
        try clear hfz72_4
        try clear hfz74_0
        try clear hfz74_1
        try clear hfz74_2
        try clear hfz74_3
        try clear hx234_0
        try clear hx234_1
        try clear hx241_0
        try clear hx241_1
        try clear p2
        try clear p234
        try clear p241
        try clear q234
        try clear q241
        obtain ⟨x3_2,x7_2,rfl,HA,HK2,HO_3,BK183,HB⟩:=hrel
        cases gk with
        | zero => exact absurd HA.out (by simp [spec_l05Bytes.l2])
        | succ k2 =>
         have H:=HA.out
         clear HA
         simp only [spec_l05Bytes.l2] at H
         by_cases c79 : x7_2 < (l0_3.length : Int)
         ·
          rw [if_pos c79] at H
          have c79b0 : decide (x7_2 < (l0_3.length : Int)) = true:=decide_eq_true c79
          clear c79
          by_cases c80 : 0 ≤ x7_2
          ·
           rw [if_pos c80] at H
           have c80b0 : decide (0 ≤ x7_2) = true:=decide_eq_true c80
           clear c80
           obtain ⟨y256,hy256⟩ : ∃ y_ : List Int,y_ = (([((rd_T77 l0_3 x7_2).f0) % 256] : List Int)):=⟨_,rfl⟩
           replace H : (if x3_2.length + y256.length < 140737488355328 then ((some (x3_2 ++ y256 : List Int)).bind fun y259 => ((spec_l02Number.f k2 ((rd_T77 l0_3 x7_2).f1) 2).bind fun t262 => (if y259.length + t262.length < 140737488355328 then ((some (y259 ++ t262 : List Int)).bind fun y265 => ((some (([((rd_T77 l0_3 x7_2).f2.f0) % 256] : List Int) : List Int)).bind fun y268 => (if y265.length + y268.length < 140737488355328 then ((some (y265 ++ y268 : List Int)).bind fun y271 => ((spec_l02Number.f k2 ((rd_T77 l0_3 x7_2).f2.f1) 3).bind fun t274 => (if y271.length + t274.length < 140737488355328 then ((some (y271 ++ t274 : List Int)).bind fun y277 => ((spec_l02Number.f k2 (wrap64 (((rd_T77 l0_3 x7_2).f2.f2) + 1)) 2).bind fun t280 => (if y277.length + t280.length < 140737488355328 then ((some (y277 ++ t280 : List Int)).bind fun y283 => ((spec_l02Number.f k2 ((rd_T77 l0_3 x7_2).f2.f3) 4).bind fun t286 => (if y283.length + t286.length < 140737488355328 then (spec_l05Bytes.l2 k2 (y283 ++ t286) (wrap64 (x7_2 + 1)) a0_0 a0_1 l0_2 l0_3) else (none)))) else (none)))) else (none)))) else (none)))) else (none)))) else (none)) = some r:=by first|(rw [hy256];with_reducible exact H)|(have H2_:=(Option.bind_some _ _).symm.trans H;rw [hy256];with_reducible exact H2_)|(have H2_:=(Option.bind_some _ _).symm.trans H;with_reducible exact H2_)|with_reducible exact H|(rw [hy256];exact H)|exact H
           have Ny256:=qk hy256
           clear hy256
           by_cases c81 : x3_2.length + y256.length < 140737488355328
           ·
            rw [if_pos c81] at H
            have LMc81:=qk c81
            clear c81
            obtain ⟨y259,hy259⟩ : ∃ y_ : List Int,y_ = (x3_2 ++ y256):=⟨_,rfl⟩
            replace H : ((spec_l02Number.f k2 ((rd_T77 l0_3 x7_2).f1) 2).bind fun t262 => (if y259.length + t262.length < 140737488355328 then ((some (y259 ++ t262 : List Int)).bind fun y265 => ((some (([((rd_T77 l0_3 x7_2).f2.f0) % 256] : List Int) : List Int)).bind fun y268 => (if y265.length + y268.length < 140737488355328 then ((some (y265 ++ y268 : List Int)).bind fun y271 => ((spec_l02Number.f k2 ((rd_T77 l0_3 x7_2).f2.f1) 3).bind fun t274 => (if y271.length + t274.length < 140737488355328 then ((some (y271 ++ t274 : List Int)).bind fun y277 => ((spec_l02Number.f k2 (wrap64 (((rd_T77 l0_3 x7_2).f2.f2) + 1)) 2).bind fun t280 => (if y277.length + t280.length < 140737488355328 then ((some (y277 ++ t280 : List Int)).bind fun y283 => ((spec_l02Number.f k2 ((rd_T77 l0_3 x7_2).f2.f3) 4).bind fun t286 => (if y283.length + t286.length < 140737488355328 then (spec_l05Bytes.l2 k2 (y283 ++ t286) (wrap64 (x7_2 + 1)) a0_0 a0_1 l0_2 l0_3) else (none)))) else (none)))) else (none)))) else (none)))) else (none))) = some r:=by first|(rw [hy259];with_reducible exact H)|(have H2_:=(Option.bind_some _ _).symm.trans H;rw [hy259];with_reducible exact H2_)|(have H2_:=(Option.bind_some _ _).symm.trans H;with_reducible exact H2_)|with_reducible exact H|(rw [hy259];exact H)|exact H
            have Ny259:=qk hy259
            clear hy259
            replace H:=Option.bind_eq_some_iff.mp H
            obtain ⟨t262,A820,H⟩:=H
            replace H : (if y259.length + t262.length < 140737488355328 then ((some (y259 ++ t262 : List Int)).bind fun y265 => ((some (([((rd_T77 l0_3 x7_2).f2.f0) % 256] : List Int) : List Int)).bind fun y268 => (if y265.length + y268.length < 140737488355328 then ((some (y265 ++ y268 : List Int)).bind fun y271 => ((spec_l02Number.f k2 ((rd_T77 l0_3 x7_2).f2.f1) 3).bind fun t274 => (if y271.length + t274.length < 140737488355328 then ((some (y271 ++ t274 : List Int)).bind fun y277 => ((spec_l02Number.f k2 (wrap64 (((rd_T77 l0_3 x7_2).f2.f2) + 1)) 2).bind fun t280 => (if y277.length + t280.length < 140737488355328 then ((some (y277 ++ t280 : List Int)).bind fun y283 => ((spec_l02Number.f k2 ((rd_T77 l0_3 x7_2).f2.f3) 4).bind fun t286 => (if y283.length + t286.length < 140737488355328 then (spec_l05Bytes.l2 k2 (y283 ++ t286) (wrap64 (x7_2 + 1)) a0_0 a0_1 l0_2 l0_3) else (none)))) else (none)))) else (none)))) else (none)))) else (none)) = some r:=H
            have A82:=qk A820
            clear A820
            by_cases c83 : y259.length + t262.length < 140737488355328
            ·
             rw [if_pos c83] at H
             have LMc83:=qk c83
             clear c83
             obtain ⟨y265,hy265⟩ : ∃ y_ : List Int,y_ = (y259 ++ t262):=⟨_,rfl⟩
             replace H : ((some (([((rd_T77 l0_3 x7_2).f2.f0) % 256] : List Int) : List Int)).bind fun y268 => (if y265.length + y268.length < 140737488355328 then ((some (y265 ++ y268 : List Int)).bind fun y271 => ((spec_l02Number.f k2 ((rd_T77 l0_3 x7_2).f2.f1) 3).bind fun t274 => (if y271.length + t274.length < 140737488355328 then ((some (y271 ++ t274 : List Int)).bind fun y277 => ((spec_l02Number.f k2 (wrap64 (((rd_T77 l0_3 x7_2).f2.f2) + 1)) 2).bind fun t280 => (if y277.length + t280.length < 140737488355328 then ((some (y277 ++ t280 : List Int)).bind fun y283 => ((spec_l02Number.f k2 ((rd_T77 l0_3 x7_2).f2.f3) 4).bind fun t286 => (if y283.length + t286.length < 140737488355328 then (spec_l05Bytes.l2 k2 (y283 ++ t286) (wrap64 (x7_2 + 1)) a0_0 a0_1 l0_2 l0_3) else (none)))) else (none)))) else (none)))) else (none))) = some r:=by first|(rw [hy265];with_reducible exact H)|(have H2_:=(Option.bind_some _ _).symm.trans H;rw [hy265];with_reducible exact H2_)|(have H2_:=(Option.bind_some _ _).symm.trans H;with_reducible exact H2_)|with_reducible exact H|(rw [hy265];exact H)|exact H
             have Ny265:=qk hy265
             clear hy265
             obtain ⟨y268,hy268⟩ : ∃ y_ : List Int,y_ = (([((rd_T77 l0_3 x7_2).f2.f0) % 256] : List Int)):=⟨_,rfl⟩
             replace H : (if y265.length + y268.length < 140737488355328 then ((some (y265 ++ y268 : List Int)).bind fun y271 => ((spec_l02Number.f k2 ((rd_T77 l0_3 x7_2).f2.f1) 3).bind fun t274 => (if y271.length + t274.length < 140737488355328 then ((some (y271 ++ t274 : List Int)).bind fun y277 => ((spec_l02Number.f k2 (wrap64 (((rd_T77 l0_3 x7_2).f2.f2) + 1)) 2).bind fun t280 => (if y277.length + t280.length < 140737488355328 then ((some (y277 ++ t280 : List Int)).bind fun y283 => ((spec_l02Number.f k2 ((rd_T77 l0_3 x7_2).f2.f3) 4).bind fun t286 => (if y283.length + t286.length < 140737488355328 then (spec_l05Bytes.l2 k2 (y283 ++ t286) (wrap64 (x7_2 + 1)) a0_0 a0_1 l0_2 l0_3) else (none)))) else (none)))) else (none)))) else (none)) = some r:=by first|(rw [hy268];with_reducible exact H)|(have H2_:=(Option.bind_some _ _).symm.trans H;rw [hy268];with_reducible exact H2_)|(have H2_:=(Option.bind_some _ _).symm.trans H;with_reducible exact H2_)|with_reducible exact H|(rw [hy268];exact H)|exact H
             have Ny268:=qk hy268
             clear hy268
             by_cases c84 : y265.length + y268.length < 140737488355328
             ·
              rw [if_pos c84] at H
              have LMc84:=qk c84
              clear c84
              obtain ⟨y271,hy271⟩ : ∃ y_ : List Int,y_ = (y265 ++ y268):=⟨_,rfl⟩
              replace H : ((spec_l02Number.f k2 ((rd_T77 l0_3 x7_2).f2.f1) 3).bind fun t274 => (if y271.length + t274.length < 140737488355328 then ((some (y271 ++ t274 : List Int)).bind fun y277 => ((spec_l02Number.f k2 (wrap64 (((rd_T77 l0_3 x7_2).f2.f2) + 1)) 2).bind fun t280 => (if y277.length + t280.length < 140737488355328 then ((some (y277 ++ t280 : List Int)).bind fun y283 => ((spec_l02Number.f k2 ((rd_T77 l0_3 x7_2).f2.f3) 4).bind fun t286 => (if y283.length + t286.length < 140737488355328 then (spec_l05Bytes.l2 k2 (y283 ++ t286) (wrap64 (x7_2 + 1)) a0_0 a0_1 l0_2 l0_3) else (none)))) else (none)))) else (none))) = some r:=by first|(rw [hy271];with_reducible exact H)|(have H2_:=(Option.bind_some _ _).symm.trans H;rw [hy271];with_reducible exact H2_)|(have H2_:=(Option.bind_some _ _).symm.trans H;with_reducible exact H2_)|with_reducible exact H|(rw [hy271];exact H)|exact H
              have Ny271:=qk hy271
              clear hy271
              replace H:=Option.bind_eq_some_iff.mp H
              obtain ⟨t274,A850,H⟩:=H
              replace H : (if y271.length + t274.length < 140737488355328 then ((some (y271 ++ t274 : List Int)).bind fun y277 => ((spec_l02Number.f k2 (wrap64 (((rd_T77 l0_3 x7_2).f2.f2) + 1)) 2).bind fun t280 => (if y277.length + t280.length < 140737488355328 then ((some (y277 ++ t280 : List Int)).bind fun y283 => ((spec_l02Number.f k2 ((rd_T77 l0_3 x7_2).f2.f3) 4).bind fun t286 => (if y283.length + t286.length < 140737488355328 then (spec_l05Bytes.l2 k2 (y283 ++ t286) (wrap64 (x7_2 + 1)) a0_0 a0_1 l0_2 l0_3) else (none)))) else (none)))) else (none)) = some r:=H
              have A85:=qk A850
              clear A850
              by_cases c86 : y271.length + t274.length < 140737488355328
              ·
               rw [if_pos c86] at H
               have LMc86:=qk c86
               clear c86
               obtain ⟨y277,hy277⟩ : ∃ y_ : List Int,y_ = (y271 ++ t274):=⟨_,rfl⟩
               replace H : ((spec_l02Number.f k2 (wrap64 (((rd_T77 l0_3 x7_2).f2.f2) + 1)) 2).bind fun t280 => (if y277.length + t280.length < 140737488355328 then ((some (y277 ++ t280 : List Int)).bind fun y283 => ((spec_l02Number.f k2 ((rd_T77 l0_3 x7_2).f2.f3) 4).bind fun t286 => (if y283.length + t286.length < 140737488355328 then (spec_l05Bytes.l2 k2 (y283 ++ t286) (wrap64 (x7_2 + 1)) a0_0 a0_1 l0_2 l0_3) else (none)))) else (none))) = some r:=by first|(rw [hy277];with_reducible exact H)|(have H2_:=(Option.bind_some _ _).symm.trans H;rw [hy277];with_reducible exact H2_)|(have H2_:=(Option.bind_some _ _).symm.trans H;with_reducible exact H2_)|with_reducible exact H|(rw [hy277];exact H)|exact H
               have Ny277:=qk hy277
               clear hy277
               replace H:=Option.bind_eq_some_iff.mp H
               obtain ⟨t280,A870,H⟩:=H
               replace H : (if y277.length + t280.length < 140737488355328 then ((some (y277 ++ t280 : List Int)).bind fun y283 => ((spec_l02Number.f k2 ((rd_T77 l0_3 x7_2).f2.f3) 4).bind fun t286 => (if y283.length + t286.length < 140737488355328 then (spec_l05Bytes.l2 k2 (y283 ++ t286) (wrap64 (x7_2 + 1)) a0_0 a0_1 l0_2 l0_3) else (none)))) else (none)) = some r:=H
               have A87:=qk A870
               clear A870
               by_cases c88 : y277.length + t280.length < 140737488355328
               ·
                rw [if_pos c88] at H
                have LMc88:=qk c88
                clear c88
                obtain ⟨y283,hy283⟩ : ∃ y_ : List Int,y_ = (y277 ++ t280):=⟨_,rfl⟩
                replace H : ((spec_l02Number.f k2 ((rd_T77 l0_3 x7_2).f2.f3) 4).bind fun t286 => (if y283.length + t286.length < 140737488355328 then (spec_l05Bytes.l2 k2 (y283 ++ t286) (wrap64 (x7_2 + 1)) a0_0 a0_1 l0_2 l0_3) else (none))) = some r:=by first|(rw [hy283];with_reducible exact H)|(have H2_:=(Option.bind_some _ _).symm.trans H;rw [hy283];with_reducible exact H2_)|(have H2_:=(Option.bind_some _ _).symm.trans H;with_reducible exact H2_)|with_reducible exact H|(rw [hy283];exact H)|exact H
                have Ny283:=qk hy283
                clear hy283
                replace H:=Option.bind_eq_some_iff.mp H
                obtain ⟨t286,A890,H⟩:=H
                replace H : (if y283.length + t286.length < 140737488355328 then (spec_l05Bytes.l2 k2 (y283 ++ t286) (wrap64 (x7_2 + 1)) a0_0 a0_1 l0_2 l0_3) else (none)) = some r:=H
                have A89:=qk A890
                clear A890
                by_cases c90 : y283.length + t286.length < 140737488355328
                ·
                 rw [if_pos c90] at H
                 have LMc90:=qk c90
                 clear c90
                 obtain ⟨y289,hy289⟩ : ∃ y_ : List Int,y_ = (y283 ++ t286):=⟨_,rfl⟩
                 replace H : (spec_l05Bytes.l2 k2 y289 (wrap64 (x7_2 + 1)) a0_0 a0_1 l0_2 l0_3) = some r:=by first|(rw [hy289];with_reducible exact H)|(have H2_:=(Option.bind_some _ _).symm.trans H;rw [hy289];with_reducible exact H2_)|(have H2_:=(Option.bind_some _ _).symm.trans H;with_reducible exact H2_)|with_reducible exact H|(rw [hy289];exact H)|exact H
                 have Ny289:=qk hy289
                 clear hy289
                 have H':=qk H
                 clear H
                 have hcz91_0 : wr.cell? ⟨gb183,0,none⟩ = some (.int .i64 a0_0):=(blk_cell BK183.out 0).trans rfl
                 have hcz91_1 : wr.cell? ⟨gb183,1,none⟩ = some (.int .i64 a0_1):=(blk_cell BK183.out 1).trans rfl
                 have hcz91_2 : wr.cell? ⟨gb183,2,none⟩ = some (.slice A0_2 l0_2.length c0_2):=(blk_cell BK183.out 2).trans rfl
                 have hcz91_3 : wr.cell? ⟨gb183,3,none⟩ = some (.slice A0_3 l0_3.length c0_3):=(blk_cell BK183.out 3).trans rfl
                 have hfz91_0:=sJ BK183.out 0
                 have hfz91_1:=sJ BK183.out 1
                 have hfz91_2:=sJ BK183.out 2
                 have hfz91_3:=sJ BK183.out 3
                 have p254 : 0 ≤ (x7_2 : Int):=sM (by first|(with_reducible assumption)|assumption)
                 have q254 : x7_2 < (l0_3.length : Int):=sM (by first|(with_reducible assumption)|assumption)
                 obtain ⟨ad254,e254,hx254_0,hx254_1,hx254_2,hx254_3,hx254_4,hx254_5⟩:=at_T77 HR0_3.out x7_2 p254 q254
                 cases e254
                 replace hx254_0:=(HB.out.cell (sD w _ hx254_0)).trans hx254_0
                 replace hx254_1:=(HB.out.cell (sD w _ hx254_1)).trans hx254_1
                 replace hx254_2:=(HB.out.cell (sD w _ hx254_2)).trans hx254_2
                 replace hx254_3:=(HB.out.cell (sD w _ hx254_3)).trans hx254_3
                 replace hx254_4:=(HB.out.cell (sD w _ hx254_4)).trans hx254_4
                 replace hx254_5:=(HB.out.cell (sD w _ hx254_5)).trans hx254_5
                 replace p254:=eq_true p254
                 replace q254:=eq_true q254
                 try go_wp2_with (first|((with_reducible refine gate_dst (N:=8) rfl ?_);refine box_event ?hg (N:=8) ?hd (cs:=#[.int .i64 0,.int .i64 0,.int .i64 0,.int .i64 0,.int .i64 0,.int .i64 0]) (t:=77) ?hr ?_;(case hd => rfl);(case hg => rfl);(case hr => first|(go_simp;done)|(go_simp;rfl));intro gb255 hg w92 hbox hb;have n0_:=qk (Kd.R_below (by (with_reducible repeat (first|apply qd|apply qe|apply qf));exact HO_3.out) hb);have n1_:=qk (ql (g:=gb183) (o:=.cells #[.int .i64 a0_0,.int .i64 a0_1,.slice A0_2 l0_2.length c0_2,.slice (some ad254) l0_3.length c0_3] 31 (0,0)) (by (with_reducible repeat (first|apply qa|apply qb|apply qc));exact BK183.out) hb);have n2_:=qk (sN (by repeat (first|(with_reducible first|exact HB.out|apply qg|apply qh|apply qi|refine qj ?_ GE183.out)|exact HB.out)) hb);have n3_:=qk (hbox);have n4_:=qk ((by rw [hg];exact (qm (by repeat (first|(with_reducible first|exact HB.out|apply qg|apply qh|apply qi|refine qj ?_ GE183.out)|exact HB.out))) : w.heap.size ≤ gb255));have n5_:=qk ((by rw [hg];exact (qm (by repeat (first|(with_reducible first|exact HB.out|apply qg|apply qh|apply qi|refine qj ?_ GE183.out)|exact HB.out))) : w.heap.size ≤ gb255));have n6_:=qk ((by rw [hg];exact Nat.ne_of_lt (blk_lt (g:=gb183) (o:=.cells #[.int .i64 a0_0,.int .i64 a0_1,.slice A0_2 l0_2.length c0_2,.slice (some ad254) l0_3.length c0_3] 31 (0,0)) (by (with_reducible repeat (first|apply qa|apply qb|apply qc));exact BK183.out)) : gb183 ≠ gb255));have n7_:=qk ((by rw [hg];exact Nat.ne_of_gt (blk_lt (g:=gb183) (o:=.cells #[.int .i64 a0_0,.int .i64 a0_1,.slice A0_2 l0_2.length c0_2,.slice (some ad254) l0_3.length c0_3] 31 (0,0)) (by (with_reducible repeat (first|apply qa|apply qb|apply qc));exact BK183.out)) : gb255 ≠ gb183));clear HO_3;clear BK183;clear HB;have HO_3:=n0_;have BK183:=n1_;have HB:=n2_;have BK255:=n3_;have GW255:=n4_;have GE255:=n5_;have NB183_255:=n6_;have NB255_183:=n7_;clear n0_ n1_ n2_ n3_ n4_ n5_ n6_ n7_;clear hb hbox hg;have hnb93:=NB255_183.out;have hnc93:=NB183_255.out;have hcz94_0 : w92.cell? ⟨gb255,0,none⟩ = some (.int .i64 0):=(blk_cell BK255.out 0).trans rfl;have hcz94_1 : w92.cell? ⟨gb255,1,none⟩ = some (.int .i64 0):=(blk_cell BK255.out 1).trans rfl;have hcz94_2 : w92.cell? ⟨gb255,2,none⟩ = some (.int .i64 0):=(blk_cell BK255.out 2).trans rfl;have hcz94_3 : w92.cell? ⟨gb255,3,none⟩ = some (.int .i64 0):=(blk_cell BK255.out 3).trans rfl;have hcz94_4 : w92.cell? ⟨gb255,4,none⟩ = some (.int .i64 0):=(blk_cell BK255.out 4).trans rfl;have hcz94_5 : w92.cell? ⟨gb255,5,none⟩ = some (.int .i64 0):=(blk_cell BK255.out 5).trans rfl;have hfz94_0:=sJ BK255.out 0;have hfz94_1:=sJ BK255.out 1;have hfz94_2:=sJ BK255.out 2;have hfz94_3:=sJ BK255.out 3;have hfz94_4:=sJ BK255.out 4;have hfz94_5:=sJ BK255.out 5))
                 have n0_ : Aside0 (Kd.R (Kd.int .u8) 5 ((((((w92.setCell ⟨gb255,0,none⟩ (.int .i64 ((rd_T77 l0_3 x7_2).f0))).setCell ⟨gb255,1,none⟩ (.int .i64 ((rd_T77 l0_3 x7_2).f1))).setCell ⟨gb255,2,none⟩ (.int .i64 ((rd_T77 l0_3 x7_2).f2.f0))).setCell ⟨gb255,3,none⟩ (.int .i64 ((rd_T77 l0_3 x7_2).f2.f1))).setCell ⟨gb255,4,none⟩ (.int .i64 ((rd_T77 l0_3 x7_2).f2.f2))).setCell ⟨gb255,5,none⟩ (.int .i64 ((rd_T77 l0_3 x7_2).f2.f3))) w.heap.size (fun _ => True) u3 x3_2):=⟨by (with_reducible repeat (first|apply qd|apply qe|apply qf));exact qn (Kd.R_far (p:=⟨gb255,5,none⟩) (Kd.R_far (p:=⟨gb255,4,none⟩) (Kd.R_far (p:=⟨gb255,3,none⟩) (Kd.R_far (p:=⟨gb255,2,none⟩) (Kd.R_far (p:=⟨gb255,1,none⟩) (Kd.R_far (p:=⟨gb255,0,none⟩) (Kd.R_types HO_3.out BK255.out (by decide)) (fun _ hk => hk.2) (.int .i64 ((rd_T77 l0_3 x7_2).f0))) (fun _ hk => hk.2) (.int .i64 ((rd_T77 l0_3 x7_2).f1))) (fun _ hk => hk.2) (.int .i64 ((rd_T77 l0_3 x7_2).f2.f0))) (fun _ hk => hk.2) (.int .i64 ((rd_T77 l0_3 x7_2).f2.f1))) (fun _ hk => hk.2) (.int .i64 ((rd_T77 l0_3 x7_2).f2.f2))) (fun _ hk => hk.2) (.int .i64 ((rd_T77 l0_3 x7_2).f2.f3))) (fun _ hk => trivial)⟩
                 have n1_ : Aside0 (((((((w92.setCell ⟨gb255,0,none⟩ (.int .i64 ((rd_T77 l0_3 x7_2).f0))).setCell ⟨gb255,1,none⟩ (.int .i64 ((rd_T77 l0_3 x7_2).f1))).setCell ⟨gb255,2,none⟩ (.int .i64 ((rd_T77 l0_3 x7_2).f2.f0))).setCell ⟨gb255,3,none⟩ (.int .i64 ((rd_T77 l0_3 x7_2).f2.f1))).setCell ⟨gb255,4,none⟩ (.int .i64 ((rd_T77 l0_3 x7_2).f2.f2))).setCell ⟨gb255,5,none⟩ (.int .i64 ((rd_T77 l0_3 x7_2).f2.f3))).heap[gb183]? = some (.cells #[.int .i64 a0_0,.int .i64 a0_1,.slice A0_2 l0_2.length c0_2,.slice (some ad254) l0_3.length c0_3] 31 (0,0))):=⟨by (with_reducible repeat (first|apply qa|apply qb|apply qc));refine blk_far ?_ NB183_255.out _;(with_reducible repeat (first|apply qa|apply qb|apply qc));refine blk_far ?_ NB183_255.out _;(with_reducible repeat (first|apply qa|apply qb|apply qc));refine blk_far ?_ NB183_255.out _;(with_reducible repeat (first|apply qa|apply qb|apply qc));refine blk_far ?_ NB183_255.out _;(with_reducible repeat (first|apply qa|apply qb|apply qc));refine blk_far ?_ NB183_255.out _;(with_reducible repeat (first|apply qa|apply qb|apply qc));refine blk_far ?_ NB183_255.out _;(with_reducible repeat (first|apply qa|apply qb|apply qc));exact BK183.out⟩
                 have n2_ : Aside0 (((((((w92.setCell ⟨gb255,0,none⟩ (.int .i64 ((rd_T77 l0_3 x7_2).f0))).setCell ⟨gb255,1,none⟩ (.int .i64 ((rd_T77 l0_3 x7_2).f1))).setCell ⟨gb255,2,none⟩ (.int .i64 ((rd_T77 l0_3 x7_2).f2.f0))).setCell ⟨gb255,3,none⟩ (.int .i64 ((rd_T77 l0_3 x7_2).f2.f1))).setCell ⟨gb255,4,none⟩ (.int .i64 ((rd_T77 l0_3 x7_2).f2.f2))).setCell ⟨gb255,5,none⟩ (.int .i64 ((rd_T77 l0_3 x7_2).f2.f3))).heap[gb255]? = some (.cells #[.int .i64 ((rd_T77 l0_3 x7_2).f0),.int .i64 ((rd_T77 l0_3 x7_2).f1),.int .i64 ((rd_T77 l0_3 x7_2).f2.f0),.int .i64 ((rd_T77 l0_3 x7_2).f2.f1),.int .i64 ((rd_T77 l0_3 x7_2).f2.f2),.int .i64 ((rd_T77 l0_3 x7_2).f2.f3)] 77 (0,0))):=⟨by (with_reducible repeat (first|apply qa|apply qb|apply qc));refine blk_put (cs:=#[.int .i64 ((rd_T77 l0_3 x7_2).f0),.int .i64 ((rd_T77 l0_3 x7_2).f1),.int .i64 ((rd_T77 l0_3 x7_2).f2.f0),.int .i64 ((rd_T77 l0_3 x7_2).f2.f1),.int .i64 ((rd_T77 l0_3 x7_2).f2.f2),.int .i64 0]) ?_ 5 _ rfl;(with_reducible repeat (first|apply qa|apply qb|apply qc));refine blk_put (cs:=#[.int .i64 ((rd_T77 l0_3 x7_2).f0),.int .i64 ((rd_T77 l0_3 x7_2).f1),.int .i64 ((rd_T77 l0_3 x7_2).f2.f0),.int .i64 ((rd_T77 l0_3 x7_2).f2.f1),.int .i64 0,.int .i64 0]) ?_ 4 _ rfl;(with_reducible repeat (first|apply qa|apply qb|apply qc));refine blk_put (cs:=#[.int .i64 ((rd_T77 l0_3 x7_2).f0),.int .i64 ((rd_T77 l0_3 x7_2).f1),.int .i64 ((rd_T77 l0_3 x7_2).f2.f0),.int .i64 0,.int .i64 0,.int .i64 0]) ?_ 3 _ rfl;(with_reducible repeat (first|apply qa|apply qb|apply qc));refine blk_put (cs:=#[.int .i64 ((rd_T77 l0_3 x7_2).f0),.int .i64 ((rd_T77 l0_3 x7_2).f1),.int .i64 0,.int .i64 0,.int .i64 0,.int .i64 0]) ?_ 2 _ rfl;(with_reducible repeat (first|apply qa|apply qb|apply qc));refine blk_put (cs:=#[.int .i64 ((rd_T77 l0_3 x7_2).f0),.int .i64 0,.int .i64 0,.int .i64 0,.int .i64 0,.int .i64 0]) ?_ 1 _ rfl;(with_reducible repeat (first|apply qa|apply qb|apply qc));refine blk_put (cs:=#[.int .i64 0,.int .i64 0,.int .i64 0,.int .i64 0,.int .i64 0,.int .i64 0]) ?_ 0 _ rfl;(with_reducible repeat (first|apply qa|apply qb|apply qc));exact BK255.out⟩
                 have n3_ : Aside0 (Below w.heap.size w ((((((w92.setCell ⟨gb255,0,none⟩ (.int .i64 ((rd_T77 l0_3 x7_2).f0))).setCell ⟨gb255,1,none⟩ (.int .i64 ((rd_T77 l0_3 x7_2).f1))).setCell ⟨gb255,2,none⟩ (.int .i64 ((rd_T77 l0_3 x7_2).f2.f0))).setCell ⟨gb255,3,none⟩ (.int .i64 ((rd_T77 l0_3 x7_2).f2.f1))).setCell ⟨gb255,4,none⟩ (.int .i64 ((rd_T77 l0_3 x7_2).f2.f2))).setCell ⟨gb255,5,none⟩ (.int .i64 ((rd_T77 l0_3 x7_2).f2.f3)))):=⟨by repeat (first|(with_reducible first|exact HB.out|apply qg|apply qh|apply qi|refine qj ?_ GE183.out|refine qj ?_ GE255.out)|exact HB.out)⟩
                 (try clear HO_3)
                 (try clear BK183)
                 (try clear BK255)
                 (try clear HB)
                 generalize ((((((w92.setCell ⟨gb255,0,none⟩ (.int .i64 ((rd_T77 l0_3 x7_2).f0))).setCell ⟨gb255,1,none⟩ (.int .i64 ((rd_T77 l0_3 x7_2).f1))).setCell ⟨gb255,2,none⟩ (.int .i64 ((rd_T77 l0_3 x7_2).f2.f0))).setCell ⟨gb255,3,none⟩ (.int .i64 ((rd_T77 l0_3 x7_2).f2.f1))).setCell ⟨gb255,4,none⟩ (.int .i64 ((rd_T77 l0_3 x7_2).f2.f2))).setCell ⟨gb255,5,none⟩ (.int .i64 ((rd_T77 l0_3 x7_2).f2.f3))) = w95 at n0_ n1_ n2_ n3_ ⊢
                 have HO_3:=n0_
                 have BK183:=n1_
                 have BK255:=n2_
                 have HB:=n3_
                 clear n0_ n1_ n2_ n3_
                 have n0_:=qk (qf HO_3.out)
                 have n1_:=qk (qb BK183.out)
                 have n2_:=qk (qb BK255.out)
                 have n3_:=qk (qi HB.out)
                 clear HO_3
                 clear BK183
                 clear BK255
                 clear HB
                 have HO_3:=n0_
                 have BK183:=n1_
                 have BK255:=n2_
                 have HB:=n3_
                 clear n0_ n1_ n2_ n3_
                 refine start_ (n:=11) (S:=fun w' => w'.cell? ⟨gb255,0,none⟩ = some (.int .i64 ((rd_T77 l0_3 x7_2).f0)) ∧ w'.cell? ⟨gb255,1,none⟩ = some (.int .i64 ((rd_T77 l0_3 x7_2).f1)) ∧ w'.cell? ⟨gb255,2,none⟩ = some (.int .i64 ((rd_T77 l0_3 x7_2).f2.f0)) ∧ w'.cell? ⟨gb255,3,none⟩ = some (.int .i64 ((rd_T77 l0_3 x7_2).f2.f1)) ∧ w'.cell? ⟨gb255,4,none⟩ = some (.int .i64 ((rd_T77 l0_3 x7_2).f2.f2)) ∧ w'.cell? ⟨gb255,5,none⟩ = some (.int .i64 ((rd_T77 l0_3 x7_2).f2.f3))) (ds:=[]) #[false,false,false,false,false,false,false,false,false,false,false] (by kernel_rfl) rfl rfl ⟨(blk_cell BK255.out 0).trans rfl,(blk_cell BK255.out 1).trans rfl,(blk_cell BK255.out 2).trans rfl,(blk_cell BK255.out 3).trans rfl,(blk_cell BK255.out 4).trans rfl,(blk_cell BK255.out 5).trans rfl⟩ (fun hHeld => ?_);refine with_tabW spec_l05Bytes.tab19 spec_l05Bytes.bits19 (fun HT_ HW_ => ?_)
                 generalize w95.drew = w96 at HO_3 BK183 BK255 HB hHeld ⊢
                 refine pure_ (i:=0) (N:=some 110) (v:=?_) (a':=?_) #[true,false,false,false,false,false,false,false,false,false,false] rfl rfl (any_of HT_.out (by kernel_rfl)) (fun _ _ _ h => h) (Or.inl ⟨by rfl,?_⟩) ?_ ?_
                 rotate_left
                 ·
                  intro w'
                  go_simp
                  with_reducible rfl
                 rotate_left
                 ·
                  simp only [Act.put,sA,sB,sC,i64_w,i32_w]
                  rfl
                 refine pure_ (i:=1) (N:=some 111) (v:=?_) (a':=?_) #[true,true,false,false,false,false,false,false,false,false,false] rfl rfl (any_of HT_.out (by kernel_rfl)) (fun _ _ _ h => h) (Or.inl ⟨by rfl,?_⟩) ?_ ?_
                 rotate_left
                 ·
                  intro w'
                  go_simp
                  with_reducible rfl
                 rotate_left
                 ·
                  simp only [Act.put,sA,sB,sC,i64_w,i32_w]
                  rfl
                 refine pure_ (i:=6) (N:=some 116) (v:=?_) (a':=?_) #[true,true,false,false,false,false,true,false,false,false,false] rfl rfl (any_of HT_.out (by kernel_rfl)) (fun _ _ _ h => h) (Or.inl ⟨by rfl,?_⟩) ?_ ?_
                 rotate_left
                 ·
                  intro w'
                  go_simp
                  with_reducible rfl
                 rotate_left
                 ·
                  simp only [Act.put,sA,sB,sC,i64_w,i32_w]
                  rfl
                 refine take_ (i:=2) (N:=some 112) (v:=?_) (a':=?_) #[true,true,true,false,false,false,true,false,false,false,false] rfl rfl (take_ofW HT_.out HW_.out (by kernel_rfl)) (fun _ _ _ h => h) (Or.inl ⟨by rfl,?_⟩) hHeld ?_ ?_
                 rotate_left
                 ·
                  rintro w' ⟨s0,s1,s2,s3,s4,s5⟩
                  go_simp
                  with_reducible rfl
                 rotate_left
                 ·
                  simp only [Act.put,sA,sB,sC,i64_w,i32_w]
                  rfl
                 refine pure_ (i:=3) (N:=some 113) (v:=?_) (a':=?_) #[true,true,true,true,false,false,true,false,false,false,false] rfl rfl (any_of HT_.out (by kernel_rfl)) (fun _ _ _ h => h) (Or.inl ⟨by rfl,?_⟩) ?_ ?_
                 rotate_left
                 ·
                  intro w'
                  go_simp
                  with_reducible rfl
                 rotate_left
                 ·
                  simp only [Act.put,sA,sB,sC,i64_w,i32_w]
                  rfl
                 refine take_ (i:=7) (N:=some 117) (v:=?_) (a':=?_) #[true,true,true,true,false,false,true,true,false,false,false] rfl rfl (take_ofW HT_.out HW_.out (by kernel_rfl)) (fun _ _ _ h => h) (Or.inl ⟨by rfl,?_⟩) hHeld ?_ ?_
                 rotate_left
                 ·
                  rintro w' ⟨s0,s1,s2,s3,s4,s5⟩
                  go_simp
                  with_reducible rfl
                 rotate_left
                 ·
                  simp only [Act.put,sA,sB,sC,i64_w,i32_w]
                  rfl
                 refine one_ (i:=4) (N:=some 114) #[true,true,true,true,true,false,true,true,false,false,false] rfl rfl (one_of HT_.out (by kernel_rfl)) (by decide) (fun K hK => ?_)
                 refine Kd.R_lit_step (Kd.int .u8) _ 5 ?hg (N:=114) ?hd (xs:=([((rd_T77 l0_3 x7_2).f0) % 256] : List Int)) (inner:=[.int .u8 (((rd_T77 l0_3 x7_2).f0) % 256)]) (ok:=fun _ => True) (okp:=fun _ => True) ?hr ?hp (fun _ hk => hk) trivial (Below.refl _ _) (Nat.le_refl _) (by simp) ?_;(case hd => rfl);(case hg => rfl);(case hr => first|(go_simp;done)|(go_simp;rfl));(case hp => exact (Reps.one (show Kd.M (Kd.int .u8) _ _ _ (((rd_T77 l0_3 x7_2).f0) % 256) [.int .u8 (((rd_T77 l0_3 x7_2).f0) % 256)] from rfl) (Reps.none _ _)))
                 intro v257 w97 ho98 hb hg_ hnew_
                 clear hg_ hnew_
                 (first|rw [← Ny256.out] at ho98|(simp only [Int.reduceToNat] at ho98;rw [← Ny256.out] at ho98))
                 have n0_:=qk (Kd.R_elder' (by (with_reducible repeat (first|apply qd|apply qe|apply qf));exact HO_3.out) (Kd.R_base ho98) hb)
                 have n1_:=qk (Kd.R_lower (Kd.R_new' ho98 (Kd.R_lt (by (with_reducible repeat (first|apply qd|apply qe|apply qf));exact HO_3.out))) (qm (by repeat (first|(with_reducible first|exact HB.out|apply qg|apply qh|apply qi|refine qj ?_ GE183.out|refine qj ?_ GE255.out)|exact HB.out))))
                 have n2_:=qk (ql (g:=gb183) (o:=.cells #[.int .i64 a0_0,.int .i64 a0_1,.slice A0_2 l0_2.length c0_2,.slice (some ad254) l0_3.length c0_3] 31 (0,0)) (by (with_reducible repeat (first|apply qa|apply qb|apply qc));exact BK183.out) hb)
                 have n3_:=qk (ql (g:=gb255) (o:=.cells #[.int .i64 ((rd_T77 l0_3 x7_2).f0),.int .i64 ((rd_T77 l0_3 x7_2).f1),.int .i64 ((rd_T77 l0_3 x7_2).f2.f0),.int .i64 ((rd_T77 l0_3 x7_2).f2.f1),.int .i64 ((rd_T77 l0_3 x7_2).f2.f2),.int .i64 ((rd_T77 l0_3 x7_2).f2.f3)] 77 (0,0)) (by (with_reducible repeat (first|apply qa|apply qb|apply qc));exact BK255.out) hb)
                 have n4_:=qk (sN (by repeat (first|(with_reducible first|exact HB.out|apply qg|apply qh|apply qi|refine qj ?_ GE183.out|refine qj ?_ GE255.out)|exact HB.out)) hb)
                 clear HO_3
                 clear BK183
                 clear BK255
                 clear HB
                 have HO_3:=n0_
                 have HO258:=n1_
                 have BK183:=n2_
                 have BK255:=n3_
                 have HB:=n4_
                 clear n0_ n1_ n2_ n3_ n4_
                 clear hb ho98
                 obtain ⟨Ao100,co100,eo100⟩:=Kd.R_slice HO258.out
                 (first|subst eo100|(injection eo100 with f1_ f2_ f3_;have f4_:=f1_.symm;have f5_:=f3_.symm;clear f1_ f2_ f3_;subst f4_;subst f5_))
                 refine hK.out _ _ ⟨(blk_cell BK255.out 0).trans rfl,(blk_cell BK255.out 1).trans rfl,(blk_cell BK255.out 2).trans rfl,(blk_cell BK255.out 3).trans rfl,(blk_cell BK255.out 4).trans rfl,(blk_cell BK255.out 5).trans rfl⟩ (fun hHeld => ?_)
                 clear hK K
                 refine norm_ (a':=?_) ?_ ?_
                 rotate_left
                 ·
                  show Act.put _ (some 114) _ = _
                  simp only [Act.put,sA,sB,sC,i64_w,i32_w]
                  rfl
                 refine one_ (i:=5) (N:=some 115) #[true,true,true,true,true,true,true,true,false,false,false] rfl rfl (one_of HT_.out (by kernel_rfl)) (by decide) (fun K hK => ?_)
                 refine Kd.R_append_rows_step (Kd.int .u8) (w0:=w) w.heap.size (by rfl) (.tmp 110) (.tmp 114) 38 5 (.int .u8 0) 1 rfl Try.underlying38 info5 rfl (by decide) (by omega) u3 x3_2 y256 _ _ _ (fun k_ => some k_ ≠ (.slice Ao100 y256.length co100 : Value).ownBlock) (fun _ => False) rfl rfl ?aO ?aR (fun _ _ h => h) (fun _ h => h.elim) ?aF ?aB ?aS ?aL ?_
                 (case aR => repeat (first|exact (Kd.R_reads' HO258.out).2.2|(with_reducible refine Kd.C_alloc ?_ _)|(with_reducible refine Kd.C_drewN ?_ _)|(with_reducible refine Kd.C_drew ?_)))
                 (case aB => exact (by repeat (first|(with_reducible first|exact HB.out|apply qg|apply qh|apply qi|refine qj ?_ GE183.out|refine qj ?_ GE255.out)|exact HB.out)))
                 (case aF => exact (fun k_ hk => Kd.fresh' (Kd.R_lt (by (with_reducible repeat (first|apply qd|apply qe|apply qf));exact HO258.out)) k_ hk))
                 (case aO => exact (by (with_reducible repeat (first|apply qd|apply qe|apply qf));exact qn HO_3.out (fun _ hk => hk.2)))
                 (case aS => exact (qm (by repeat (first|(with_reducible first|exact HB.out|apply qg|apply qh|apply qi|refine qj ?_ GE183.out|refine qj ?_ GE255.out)|exact HB.out))))
                 (case aL => have:=LMc81.out;omega)
                 intro v260 w99 ho hb hg hat
                 rw [← Ny259.out] at ho
                 have n0_:=qk (blk_grown (g:=gb183) (o:=.cells #[.int .i64 a0_0,.int .i64 a0_1,.slice A0_2 l0_2.length c0_2,.slice (some ad254) l0_3.length c0_3] 31 (0,0)) (by (with_reducible repeat (first|apply qa|apply qb|apply qc));exact BK183.out) hg (Kd.R_ne HO_3.out BK183.out (by decide)))
                 have n1_:=qk (blk_grown (g:=gb255) (o:=.cells #[.int .i64 ((rd_T77 l0_3 x7_2).f0),.int .i64 ((rd_T77 l0_3 x7_2).f1),.int .i64 ((rd_T77 l0_3 x7_2).f2.f0),.int .i64 ((rd_T77 l0_3 x7_2).f2.f1),.int .i64 ((rd_T77 l0_3 x7_2).f2.f2),.int .i64 ((rd_T77 l0_3 x7_2).f2.f3)] 77 (0,0)) (by (with_reducible repeat (first|apply qa|apply qb|apply qc));exact BK255.out) hg (Kd.R_ne HO_3.out BK255.out (by decide)))
                 have n2_:=qk (Kd.R_after (ok:=(fun _ => True)) (by (with_reducible repeat (first|apply qd|apply qe|apply qf));exact HO258.out) hg hat)
                 have n3_:=qk (hb)
                 have n4_:=qk (ho)
                 clear BK183
                 clear BK255
                 clear HO258
                 clear HB
                 clear HO_3
                 have BK183:=n0_
                 have BK255:=n1_
                 have HO258:=n2_
                 have HB:=n3_
                 have HO261:=n4_
                 clear n0_ n1_ n2_ n3_ n4_
                 clear ho hb hg hat
                 refine hK.out _ _ ⟨(blk_cell BK255.out 0).trans rfl,(blk_cell BK255.out 1).trans rfl,(blk_cell BK255.out 2).trans rfl,(blk_cell BK255.out 3).trans rfl,(blk_cell BK255.out 4).trans rfl,(blk_cell BK255.out 5).trans rfl⟩ (fun hHeld => ?_)
                 clear hK K
                 refine norm_ (a':=?_) ?_ ?_
                 rotate_left
                 ·
                  show Act.put _ (some 115) _ = _
                  simp only [Act.put,sA,sB,sC,i64_w,i32_w]
                  rfl
                 refine one_ (i:=8) (N:=some 118) #[true,true,true,true,true,true,true,true,true,false,false] rfl rfl (one_of HT_.out (by kernel_rfl)) (by decide) (fun K hK => ?_)
                 refine goes_ Try.func79 (by kernel_rfl) rfl #[.int .i64 ((rd_T77 l0_3 x7_2).f1),.int .i64 2] (by rfl) rfl rfl (by (try simp only [sE,sH,sI]);first|done|rfl|(simp only [sG,sF];rfl)) ?_
                 with_reducible refine (spec_l02Number.calls k2 ((rd_T77 l0_3 x7_2).f1) 2 t262 _ A82.out).mono ?_
                 rintro e w101 ⟨v263,rfl,ho0,hb⟩
                 refine ⟨_,rfl,?_⟩
                 have n0_:=qk (Kd.R_elder' (by (with_reducible repeat (first|apply qd|apply qe|apply qf));exact HO258.out) (Kd.R_base ho0) hb)
                 have n1_:=qk (Kd.R_elder' (by (with_reducible repeat (first|apply qd|apply qe|apply qf));exact HO261.out) (Kd.R_base ho0) hb)
                 have n2_:=qk (Kd.R_lower (Kd.R_new' (Kd.R_new' ho0 (Kd.R_lt (by (with_reducible repeat (first|apply qd|apply qe|apply qf));exact HO258.out))) (Kd.R_lt (by (with_reducible repeat (first|apply qd|apply qe|apply qf));exact HO261.out))) (qm (by repeat (first|(with_reducible first|exact HB.out|apply qg|apply qh|apply qi|refine qj ?_ GE183.out|refine qj ?_ GE255.out)|exact HB.out))))
                 have n3_:=qk (ql (g:=gb183) (o:=.cells #[.int .i64 a0_0,.int .i64 a0_1,.slice A0_2 l0_2.length c0_2,.slice (some ad254) l0_3.length c0_3] 31 (0,0)) (by (with_reducible repeat (first|apply qa|apply qb|apply qc));exact BK183.out) hb)
                 have n4_:=qk (ql (g:=gb255) (o:=.cells #[.int .i64 ((rd_T77 l0_3 x7_2).f0),.int .i64 ((rd_T77 l0_3 x7_2).f1),.int .i64 ((rd_T77 l0_3 x7_2).f2.f0),.int .i64 ((rd_T77 l0_3 x7_2).f2.f1),.int .i64 ((rd_T77 l0_3 x7_2).f2.f2),.int .i64 ((rd_T77 l0_3 x7_2).f2.f3)] 77 (0,0)) (by (with_reducible repeat (first|apply qa|apply qb|apply qc));exact BK255.out) hb)
                 have n5_:=qk (sN (by repeat (first|(with_reducible first|exact HB.out|apply qg|apply qh|apply qi|refine qj ?_ GE183.out|refine qj ?_ GE255.out)|exact HB.out)) hb)
                 clear HO258
                 clear HO261
                 clear BK183
                 clear BK255
                 clear HB
                 have HO258:=n0_
                 have HO261:=n1_
                 have HO264:=n2_
                 have BK183:=n3_
                 have BK255:=n4_
                 have HB:=n5_
                 clear n0_ n1_ n2_ n3_ n4_ n5_
                 (try clear hb)
                 (try clear hb2)
                 (try clear hk)
                 (try clear hi)
                 (try clear ho0)
                 obtain ⟨Ao103,co103,eo103⟩:=Kd.R_slice HO264.out
                 (first|subst eo103|(injection eo103 with f1_ f2_ f3_;have f4_:=f1_.symm;have f5_:=f3_.symm;clear f1_ f2_ f3_;subst f4_;subst f5_))
                 refine hK.out _ _ ⟨(blk_cell BK255.out 0).trans rfl,(blk_cell BK255.out 1).trans rfl,(blk_cell BK255.out 2).trans rfl,(blk_cell BK255.out 3).trans rfl,(blk_cell BK255.out 4).trans rfl,(blk_cell BK255.out 5).trans rfl⟩ (fun hHeld => ?_)
                 clear hK K
                 refine norm_ (a':=?_) ?_ ?_
                 rotate_left
                 ·
                  show Act.put _ (some 118) _ = _
                  simp only [Act.put,sA,sB,sC,i64_w,i32_w]
                  rfl
                 refine one_ (i:=9) (N:=some 119) #[true,true,true,true,true,true,true,true,true,true,false] rfl rfl (one_of HT_.out (by kernel_rfl)) (by decide) (fun K hK => ?_)
                 refine Kd.R_append_rows_step (Kd.int .u8) (w0:=w) w.heap.size (by rfl) (.tmp 115) (.tmp 118) 38 5 (.int .u8 0) 1 rfl Try.underlying38 info5 rfl (by decide) (by omega) v260 y259 t262 _ _ _ (fun k_ => some k_ ≠ (.slice Ao100 y256.length co100 : Value).ownBlock ∧ some k_ ≠ (.slice Ao103 t262.length co103 : Value).ownBlock) (fun _ => False) rfl rfl ?aO ?aR (fun _ _ h => h) (fun _ h => h.elim) ?aF ?aB ?aS ?aL ?_
                 (case aR => repeat (first|exact (Kd.R_reads' HO264.out).2.2|(with_reducible refine Kd.C_alloc ?_ _)|(with_reducible refine Kd.C_drewN ?_ _)|(with_reducible refine Kd.C_drew ?_)))
                 (case aB => exact (by repeat (first|(with_reducible first|exact HB.out|apply qg|apply qh|apply qi|refine qj ?_ GE183.out|refine qj ?_ GE255.out)|exact HB.out)))
                 (case aF => exact (fun k_ hk => ⟨Kd.fresh' (Kd.R_lt (by (with_reducible repeat (first|apply qd|apply qe|apply qf));exact HO258.out)) k_ hk,Kd.fresh' (Kd.R_lt (by (with_reducible repeat (first|apply qd|apply qe|apply qf));exact HO264.out)) k_ hk⟩))
                 (case aO => exact (by (with_reducible repeat (first|apply qd|apply qe|apply qf));exact HO261.out))
                 (case aS => exact (qm (by repeat (first|(with_reducible first|exact HB.out|apply qg|apply qh|apply qi|refine qj ?_ GE183.out|refine qj ?_ GE255.out)|exact HB.out))))
                 (case aL => have:=LMc83.out;omega)
                 intro v266 w102 ho hb hg hat
                 rw [← Ny265.out] at ho
                 have n0_:=qk (blk_grown (g:=gb183) (o:=.cells #[.int .i64 a0_0,.int .i64 a0_1,.slice A0_2 l0_2.length c0_2,.slice (some ad254) l0_3.length c0_3] 31 (0,0)) (by (with_reducible repeat (first|apply qa|apply qb|apply qc));exact BK183.out) hg (Kd.R_ne HO261.out BK183.out (by decide)))
                 have n1_:=qk (blk_grown (g:=gb255) (o:=.cells #[.int .i64 ((rd_T77 l0_3 x7_2).f0),.int .i64 ((rd_T77 l0_3 x7_2).f1),.int .i64 ((rd_T77 l0_3 x7_2).f2.f0),.int .i64 ((rd_T77 l0_3 x7_2).f2.f1),.int .i64 ((rd_T77 l0_3 x7_2).f2.f2),.int .i64 ((rd_T77 l0_3 x7_2).f2.f3)] 77 (0,0)) (by (with_reducible repeat (first|apply qa|apply qb|apply qc));exact BK255.out) hg (Kd.R_ne HO261.out BK255.out (by decide)))
                 have n2_:=qk (Kd.R_after (ok:=(fun k_ => some k_ ≠ (.slice Ao103 t262.length co103 : Value).ownBlock)) (by (with_reducible repeat (first|apply qd|apply qe|apply qf));exact qn HO258.out (fun _ hk => ⟨hk.2,hk.1.2⟩)) hg hat)
                 have n3_:=qk (Kd.R_after (ok:=(fun k_ => some k_ ≠ (.slice Ao100 y256.length co100 : Value).ownBlock)) (by (with_reducible repeat (first|apply qd|apply qe|apply qf));exact qn HO264.out (fun _ hk => ⟨hk.1.2,hk.2⟩)) hg hat)
                 have n4_:=qk (hb)
                 have n5_:=qk (ho)
                 clear BK183
                 clear BK255
                 clear HO258
                 clear HO264
                 clear HB
                 clear HO261
                 have BK183:=n0_
                 have BK255:=n1_
                 have HO258:=n2_
                 have HO264:=n3_
                 have HB:=n4_
                 have HO267:=n5_
                 clear n0_ n1_ n2_ n3_ n4_ n5_
                 clear ho hb hg hat
                 refine hK.out _ _ ⟨(blk_cell BK255.out 0).trans rfl,(blk_cell BK255.out 1).trans rfl,(blk_cell BK255.out 2).trans rfl,(blk_cell BK255.out 3).trans rfl,(blk_cell BK255.out 4).trans rfl,(blk_cell BK255.out 5).trans rfl⟩ (fun hHeld => ?_)
                 clear hK K
                 refine norm_ (a':=?_) ?_ ?_
                 rotate_left
                 ·
                  show Act.put _ (some 119) _ = _
                  simp only [Act.put,sA,sB,sC,i64_w,i32_w]
                  rfl
                 refine pure_ (i:=10) (N:=some 3) (v:=?_) (a':=?_) #[true,true,true,true,true,true,true,true,true,true,true] rfl rfl (any_of HT_.out (by kernel_rfl)) (fun _ _ _ h => h) (Or.inl ⟨by rfl,?_⟩) ?_ ?_
                 rotate_left
                 ·
                  intro w'
                  go_simp
                  with_reducible rfl
                 rotate_left
                 ·
                  simp only [Act.put,sA,sB,sC,i64_w,i32_w]
                  rfl
                 refine done_ (done_of HT_.out (by kernel_rfl)) ?_
                 try go_wp2
                 have n0_:=qk (qf HO258.out)
                 have n1_:=qk (qf HO264.out)
                 have n2_:=qk (qf HO267.out)
                 have n3_:=qk (qb BK183.out)
                 have n4_:=qk (qb BK255.out)
                 have n5_:=qk (qi HB.out)
                 clear HO258
                 clear HO264
                 clear HO267
                 clear BK183
                 clear BK255
                 clear HB
                 have HO258:=n0_
                 have HO264:=n1_
                 have HO267:=n2_
                 have BK183:=n3_
                 have BK255:=n4_
                 have HB:=n5_
                 clear n0_ n1_ n2_ n3_ n4_ n5_
                 refine start_ (n:=13) (S:=fun w' => w'.cell? ⟨gb255,0,none⟩ = some (.int .i64 ((rd_T77 l0_3 x7_2).f0)) ∧ w'.cell? ⟨gb255,1,none⟩ = some (.int .i64 ((rd_T77 l0_3 x7_2).f1)) ∧ w'.cell? ⟨gb255,2,none⟩ = some (.int .i64 ((rd_T77 l0_3 x7_2).f2.f0)) ∧ w'.cell? ⟨gb255,3,none⟩ = some (.int .i64 ((rd_T77 l0_3 x7_2).f2.f1)) ∧ w'.cell? ⟨gb255,4,none⟩ = some (.int .i64 ((rd_T77 l0_3 x7_2).f2.f2)) ∧ w'.cell? ⟨gb255,5,none⟩ = some (.int .i64 ((rd_T77 l0_3 x7_2).f2.f3))) (ds:=[]) #[false,false,false,false,false,false,false,false,false,false,false,false,false] (by kernel_rfl) rfl rfl ⟨(blk_cell BK255.out 0).trans rfl,(blk_cell BK255.out 1).trans rfl,(blk_cell BK255.out 2).trans rfl,(blk_cell BK255.out 3).trans rfl,(blk_cell BK255.out 4).trans rfl,(blk_cell BK255.out 5).trans rfl⟩ (fun hHeld => ?_);refine with_tabW spec_l05Bytes.tab20 spec_l05Bytes.bits20 (fun HT_ HW_ => ?_)
                 generalize w102.drew = w104 at HO258 HO264 HO267 BK183 BK255 HB hHeld ⊢
                 refine pure_ (i:=0) (N:=some 120) (v:=?_) (a':=?_) #[true,false,false,false,false,false,false,false,false,false,false,false,false] rfl rfl (any_of HT_.out (by kernel_rfl)) (fun _ _ _ h => h) (Or.inl ⟨by rfl,?_⟩) ?_ ?_
                 rotate_left
                 ·
                  intro w'
                  go_simp
                  with_reducible rfl
                 rotate_left
                 ·
                  simp only [Act.put,sA,sB,sC,i64_w,i32_w]
                  rfl
                 refine pure_ (i:=1) (N:=some 121) (v:=?_) (a':=?_) #[true,true,false,false,false,false,false,false,false,false,false,false,false] rfl rfl (any_of HT_.out (by kernel_rfl)) (fun _ _ _ h => h) (Or.inl ⟨by rfl,?_⟩) ?_ ?_
                 rotate_left
                 ·
                  intro w'
                  go_simp
                  with_reducible rfl
                 rotate_left
                 ·
                  simp only [Act.put,sA,sB,sC,i64_w,i32_w]
                  rfl
                 refine pure_ (i:=2) (N:=some 122) (v:=?_) (a':=?_) #[true,true,true,false,false,false,false,false,false,false,false,false,false] rfl rfl (any_of HT_.out (by kernel_rfl)) (fun _ _ _ h => h) (Or.inl ⟨by rfl,?_⟩) ?_ ?_
                 rotate_left
                 ·
                  intro w'
                  go_simp
                  with_reducible rfl
                 rotate_left
                 ·
                  simp only [Act.put,sA,sB,sC,i64_w,i32_w]
                  rfl
                 refine pure_ (i:=7) (N:=some 127) (v:=?_) (a':=?_) #[true,true,true,false,false,false,false,true,false,false,false,false,false] rfl rfl (any_of HT_.out (by kernel_rfl)) (fun _ _ _ h => h) (Or.inl ⟨by rfl,?_⟩) ?_ ?_
                 rotate_left
                 ·
                  intro w'
                  go_simp
                  with_reducible rfl
                 rotate_left
                 ·
                  simp only [Act.put,sA,sB,sC,i64_w,i32_w]
                  rfl
                 refine pure_ (i:=8) (N:=some 128) (v:=?_) (a':=?_) #[true,true,true,false,false,false,false,true,true,false,false,false,false] rfl rfl (any_of HT_.out (by kernel_rfl)) (fun _ _ _ h => h) (Or.inl ⟨by rfl,?_⟩) ?_ ?_
                 rotate_left
                 ·
                  intro w'
                  go_simp
                  with_reducible rfl
                 rotate_left
                 ·
                  simp only [Act.put,sA,sB,sC,i64_w,i32_w]
                  rfl
                 refine take_ (i:=3) (N:=some 123) (v:=?_) (a':=?_) #[true,true,true,true,false,false,false,true,true,false,false,false,false] rfl rfl (take_ofW HT_.out HW_.out (by kernel_rfl)) (fun _ _ _ h => h) (Or.inl ⟨by rfl,?_⟩) hHeld ?_ ?_
                 rotate_left
                 ·
                  rintro w' ⟨s0,s1,s2,s3,s4,s5⟩
                  go_simp
                  with_reducible rfl
                 rotate_left
                 ·
                  simp only [Act.put,sA,sB,sC,i64_w,i32_w]
                  rfl
                 refine pure_ (i:=4) (N:=some 124) (v:=?_) (a':=?_) #[true,true,true,true,true,false,false,true,true,false,false,false,false] rfl rfl (any_of HT_.out (by kernel_rfl)) (fun _ _ _ h => h) (Or.inl ⟨by rfl,?_⟩) ?_ ?_
                 rotate_left
                 ·
                  intro w'
                  go_simp
                  with_reducible rfl
                 rotate_left
                 ·
                  simp only [Act.put,sA,sB,sC,i64_w,i32_w]
                  rfl
                 refine take_ (i:=9) (N:=some 129) (v:=?_) (a':=?_) #[true,true,true,true,true,false,false,true,true,true,false,false,false] rfl rfl (take_ofW HT_.out HW_.out (by kernel_rfl)) (fun _ _ _ h => h) (Or.inl ⟨by rfl,?_⟩) hHeld ?_ ?_
                 rotate_left
                 ·
                  rintro w' ⟨s0,s1,s2,s3,s4,s5⟩
                  go_simp
                  with_reducible rfl
                 rotate_left
                 ·
                  simp only [Act.put,sA,sB,sC,i64_w,i32_w]
                  rfl
                 refine one_ (i:=5) (N:=some 125) #[true,true,true,true,true,true,false,true,true,true,false,false,false] rfl rfl (one_of HT_.out (by kernel_rfl)) (by decide) (fun K hK => ?_)
                 refine Kd.R_lit_step (Kd.int .u8) _ 5 ?hg (N:=125) ?hd (xs:=([((rd_T77 l0_3 x7_2).f2.f0) % 256] : List Int)) (inner:=[.int .u8 (((rd_T77 l0_3 x7_2).f2.f0) % 256)]) (ok:=fun _ => True) (okp:=fun _ => True) ?hr ?hp (fun _ hk => hk) trivial (Below.refl _ _) (Nat.le_refl _) (by simp) ?_;(case hd => rfl);(case hg => rfl);(case hr => first|(go_simp;done)|(go_simp;rfl));(case hp => exact (Reps.one (show Kd.M (Kd.int .u8) _ _ _ (((rd_T77 l0_3 x7_2).f2.f0) % 256) [.int .u8 (((rd_T77 l0_3 x7_2).f2.f0) % 256)] from rfl) (Reps.none _ _)))
                 intro v269 w105 ho106 hb hg_ hnew_
                 clear hg_ hnew_
                 (first|rw [← Ny268.out] at ho106|(simp only [Int.reduceToNat] at ho106;rw [← Ny268.out] at ho106))
                 have n0_:=qk (Kd.R_elder' (by (with_reducible repeat (first|apply qd|apply qe|apply qf));exact HO258.out) (Kd.R_base ho106) hb)
                 have n1_:=qk (Kd.R_elder' (by (with_reducible repeat (first|apply qd|apply qe|apply qf));exact HO264.out) (Kd.R_base ho106) hb)
                 have n2_:=qk (Kd.R_elder' (by (with_reducible repeat (first|apply qd|apply qe|apply qf));exact HO267.out) (Kd.R_base ho106) hb)
                 have n3_:=qk (Kd.R_lower (Kd.R_new' (Kd.R_new' (Kd.R_new' ho106 (Kd.R_lt (by (with_reducible repeat (first|apply qd|apply qe|apply qf));exact HO258.out))) (Kd.R_lt (by (with_reducible repeat (first|apply qd|apply qe|apply qf));exact HO264.out))) (Kd.R_lt (by (with_reducible repeat (first|apply qd|apply qe|apply qf));exact HO267.out))) (qm (by repeat (first|(with_reducible first|exact HB.out|apply qg|apply qh|apply qi|refine qj ?_ GE183.out|refine qj ?_ GE255.out)|exact HB.out))))
                 have n4_:=qk (ql (g:=gb183) (o:=.cells #[.int .i64 a0_0,.int .i64 a0_1,.slice A0_2 l0_2.length c0_2,.slice (some ad254) l0_3.length c0_3] 31 (0,0)) (by (with_reducible repeat (first|apply qa|apply qb|apply qc));exact BK183.out) hb)
                 have n5_:=qk (ql (g:=gb255) (o:=.cells #[.int .i64 ((rd_T77 l0_3 x7_2).f0),.int .i64 ((rd_T77 l0_3 x7_2).f1),.int .i64 ((rd_T77 l0_3 x7_2).f2.f0),.int .i64 ((rd_T77 l0_3 x7_2).f2.f1),.int .i64 ((rd_T77 l0_3 x7_2).f2.f2),.int .i64 ((rd_T77 l0_3 x7_2).f2.f3)] 77 (0,0)) (by (with_reducible repeat (first|apply qa|apply qb|apply qc));exact BK255.out) hb)
                 have n6_:=qk (sN (by repeat (first|(with_reducible first|exact HB.out|apply qg|apply qh|apply qi|refine qj ?_ GE183.out|refine qj ?_ GE255.out)|exact HB.out)) hb)
                 clear HO258
                 clear HO264
                 clear HO267
                 clear BK183
                 clear BK255
                 clear HB
                 have HO258:=n0_
                 have HO264:=n1_
                 have HO267:=n2_
                 have HO270:=n3_
                 have BK183:=n4_
                 have BK255:=n5_
                 have HB:=n6_
                 clear n0_ n1_ n2_ n3_ n4_ n5_ n6_
                 clear hb ho106
                 obtain ⟨Ao108,co108,eo108⟩:=Kd.R_slice HO270.out
                 (first|subst eo108|(injection eo108 with f1_ f2_ f3_;have f4_:=f1_.symm;have f5_:=f3_.symm;clear f1_ f2_ f3_;subst f4_;subst f5_))
                 refine hK.out _ _ ⟨(blk_cell BK255.out 0).trans rfl,(blk_cell BK255.out 1).trans rfl,(blk_cell BK255.out 2).trans rfl,(blk_cell BK255.out 3).trans rfl,(blk_cell BK255.out 4).trans rfl,(blk_cell BK255.out 5).trans rfl⟩ (fun hHeld => ?_)
                 clear hK K
                 refine norm_ (a':=?_) ?_ ?_
                 rotate_left
                 ·
                  show Act.put _ (some 125) _ = _
                  simp only [Act.put,sA,sB,sC,i64_w,i32_w]
                  rfl
                 refine one_ (i:=6) (N:=some 126) #[true,true,true,true,true,true,true,true,true,true,false,false,false] rfl rfl (one_of HT_.out (by kernel_rfl)) (by decide) (fun K hK => ?_)
                 refine Kd.R_append_rows_step (Kd.int .u8) (w0:=w) w.heap.size (by rfl) (.tmp 120) (.tmp 125) 38 5 (.int .u8 0) 1 rfl Try.underlying38 info5 rfl (by decide) (by omega) v266 y265 y268 _ _ _ (fun k_ => some k_ ≠ (.slice Ao100 y256.length co100 : Value).ownBlock ∧ some k_ ≠ (.slice Ao103 t262.length co103 : Value).ownBlock ∧ some k_ ≠ (.slice Ao108 y268.length co108 : Value).ownBlock) (fun _ => False) rfl rfl ?aO ?aR (fun _ _ h => h) (fun _ h => h.elim) ?aF ?aB ?aS ?aL ?_
                 (case aR => repeat (first|exact (Kd.R_reads' HO270.out).2.2|(with_reducible refine Kd.C_alloc ?_ _)|(with_reducible refine Kd.C_drewN ?_ _)|(with_reducible refine Kd.C_drew ?_)))
                 (case aB => exact (by repeat (first|(with_reducible first|exact HB.out|apply qg|apply qh|apply qi|refine qj ?_ GE183.out|refine qj ?_ GE255.out)|exact HB.out)))
                 (case aF => exact (fun k_ hk => ⟨Kd.fresh' (Kd.R_lt (by (with_reducible repeat (first|apply qd|apply qe|apply qf));exact HO258.out)) k_ hk,Kd.fresh' (Kd.R_lt (by (with_reducible repeat (first|apply qd|apply qe|apply qf));exact HO264.out)) k_ hk,Kd.fresh' (Kd.R_lt (by (with_reducible repeat (first|apply qd|apply qe|apply qf));exact HO270.out)) k_ hk⟩))
                 (case aO => exact (by (with_reducible repeat (first|apply qd|apply qe|apply qf));exact qn HO267.out (fun _ hk => ⟨hk.1.1,⟨hk.1.2,hk.2⟩⟩)))
                 (case aS => exact (qm (by repeat (first|(with_reducible first|exact HB.out|apply qg|apply qh|apply qi|refine qj ?_ GE183.out|refine qj ?_ GE255.out)|exact HB.out))))
                 (case aL => have:=LMc84.out;omega)
                 intro v272 w107 ho hb hg hat
                 rw [← Ny271.out] at ho
                 have n0_:=qk (blk_grown (g:=gb183) (o:=.cells #[.int .i64 a0_0,.int .i64 a0_1,.slice A0_2 l0_2.length c0_2,.slice (some ad254) l0_3.length c0_3] 31 (0,0)) (by (with_reducible repeat (first|apply qa|apply qb|apply qc));exact BK183.out) hg (Kd.R_ne HO267.out BK183.out (by decide)))
                 have n1_:=qk (blk_grown (g:=gb255) (o:=.cells #[.int .i64 ((rd_T77 l0_3 x7_2).f0),.int .i64 ((rd_T77 l0_3 x7_2).f1),.int .i64 ((rd_T77 l0_3 x7_2).f2.f0),.int .i64 ((rd_T77 l0_3 x7_2).f2.f1),.int .i64 ((rd_T77 l0_3 x7_2).f2.f2),.int .i64 ((rd_T77 l0_3 x7_2).f2.f3)] 77 (0,0)) (by (with_reducible repeat (first|apply qa|apply qb|apply qc));exact BK255.out) hg (Kd.R_ne HO267.out BK255.out (by decide)))
                 have n2_:=qk (Kd.R_after (ok:=(fun k_ => some k_ ≠ (.slice Ao103 t262.length co103 : Value).ownBlock ∧ some k_ ≠ (.slice Ao108 y268.length co108 : Value).ownBlock)) (by (with_reducible repeat (first|apply qd|apply qe|apply qf));exact qn HO258.out (fun _ hk => ⟨⟨hk.1.1,hk.2⟩,hk.1.2⟩)) hg hat)
                 have n3_:=qk (Kd.R_after (ok:=(fun k_ => some k_ ≠ (.slice Ao100 y256.length co100 : Value).ownBlock ∧ some k_ ≠ (.slice Ao108 y268.length co108 : Value).ownBlock)) (by (with_reducible repeat (first|apply qd|apply qe|apply qf));exact qn HO264.out (fun _ hk => ⟨⟨hk.1.1,hk.2⟩,hk.1.2⟩)) hg hat)
                 have n4_:=qk (Kd.R_after (ok:=(fun k_ => some k_ ≠ (.slice Ao100 y256.length co100 : Value).ownBlock ∧ some k_ ≠ (.slice Ao103 t262.length co103 : Value).ownBlock)) (by (with_reducible repeat (first|apply qd|apply qe|apply qf));exact qn HO270.out (fun _ hk => ⟨⟨hk.1.1.2,hk.1.2⟩,hk.2⟩)) hg hat)
                 have n5_:=qk (hb)
                 have n6_:=qk (ho)
                 clear BK183
                 clear BK255
                 clear HO258
                 clear HO264
                 clear HO270
                 clear HB
                 clear HO267
                 have BK183:=n0_
                 have BK255:=n1_
                 have HO258:=n2_
                 have HO264:=n3_
                 have HO270:=n4_
                 have HB:=n5_
                 have HO273:=n6_
                 clear n0_ n1_ n2_ n3_ n4_ n5_ n6_
                 clear ho hb hg hat
                 refine hK.out _ _ ⟨(blk_cell BK255.out 0).trans rfl,(blk_cell BK255.out 1).trans rfl,(blk_cell BK255.out 2).trans rfl,(blk_cell BK255.out 3).trans rfl,(blk_cell BK255.out 4).trans rfl,(blk_cell BK255.out 5).trans rfl⟩ (fun hHeld => ?_)
                 clear hK K
                 refine norm_ (a':=?_) ?_ ?_
                 rotate_left
                 ·
                  show Act.put _ (some 126) _ = _
                  simp only [Act.put,sA,sB,sC,i64_w,i32_w]
                  rfl
                 refine one_ (i:=10) (N:=some 130) #[true,true,true,true,true,true,true,true,true,true,true,false,false] rfl rfl (one_of HT_.out (by kernel_rfl)) (by decide) (fun K hK => ?_)
                 refine goes_ Try.func79 (by kernel_rfl) rfl #[.int .i64 ((rd_T77 l0_3 x7_2).f2.f1),.int .i64 3] (by rfl) rfl rfl (by (try simp only [sE,sH,sI]);first|done|rfl|(simp only [sG,sF];rfl)) ?_
                 with_reducible refine (spec_l02Number.calls k2 ((rd_T77 l0_3 x7_2).f2.f1) 3 t274 _ A85.out).mono ?_
                 rintro e w109 ⟨v275,rfl,ho0,hb⟩
                 refine ⟨_,rfl,?_⟩
                 have n0_:=qk (Kd.R_elder' (by (with_reducible repeat (first|apply qd|apply qe|apply qf));exact HO258.out) (Kd.R_base ho0) hb)
                 have n1_:=qk (Kd.R_elder' (by (with_reducible repeat (first|apply qd|apply qe|apply qf));exact HO264.out) (Kd.R_base ho0) hb)
                 have n2_:=qk (Kd.R_elder' (by (with_reducible repeat (first|apply qd|apply qe|apply qf));exact HO270.out) (Kd.R_base ho0) hb)
                 have n3_:=qk (Kd.R_elder' (by (with_reducible repeat (first|apply qd|apply qe|apply qf));exact HO273.out) (Kd.R_base ho0) hb)
                 have n4_:=qk (Kd.R_lower (Kd.R_new' (Kd.R_new' (Kd.R_new' (Kd.R_new' ho0 (Kd.R_lt (by (with_reducible repeat (first|apply qd|apply qe|apply qf));exact HO258.out))) (Kd.R_lt (by (with_reducible repeat (first|apply qd|apply qe|apply qf));exact HO264.out))) (Kd.R_lt (by (with_reducible repeat (first|apply qd|apply qe|apply qf));exact HO270.out))) (Kd.R_lt (by (with_reducible repeat (first|apply qd|apply qe|apply qf));exact HO273.out))) (qm (by repeat (first|(with_reducible first|exact HB.out|apply qg|apply qh|apply qi|refine qj ?_ GE183.out|refine qj ?_ GE255.out)|exact HB.out))))
                 have n5_:=qk (ql (g:=gb183) (o:=.cells #[.int .i64 a0_0,.int .i64 a0_1,.slice A0_2 l0_2.length c0_2,.slice (some ad254) l0_3.length c0_3] 31 (0,0)) (by (with_reducible repeat (first|apply qa|apply qb|apply qc));exact BK183.out) hb)
                 have n6_:=qk (ql (g:=gb255) (o:=.cells #[.int .i64 ((rd_T77 l0_3 x7_2).f0),.int .i64 ((rd_T77 l0_3 x7_2).f1),.int .i64 ((rd_T77 l0_3 x7_2).f2.f0),.int .i64 ((rd_T77 l0_3 x7_2).f2.f1),.int .i64 ((rd_T77 l0_3 x7_2).f2.f2),.int .i64 ((rd_T77 l0_3 x7_2).f2.f3)] 77 (0,0)) (by (with_reducible repeat (first|apply qa|apply qb|apply qc));exact BK255.out) hb)
                 have n7_:=qk (sN (by repeat (first|(with_reducible first|exact HB.out|apply qg|apply qh|apply qi|refine qj ?_ GE183.out|refine qj ?_ GE255.out)|exact HB.out)) hb)
                 clear HO258
                 clear HO264
                 clear HO270
                 clear HO273
                 clear BK183
                 clear BK255
                 clear HB
                 have HO258:=n0_
                 have HO264:=n1_
                 have HO270:=n2_
                 have HO273:=n3_
                 have HO276:=n4_
                 have BK183:=n5_
                 have BK255:=n6_
                 have HB:=n7_
                 clear n0_ n1_ n2_ n3_ n4_ n5_ n6_ n7_
                 (try clear hb)
                 (try clear hb2)
                 (try clear hk)
                 (try clear hi)
                 (try clear ho0)
                 obtain ⟨Ao111,co111,eo111⟩:=Kd.R_slice HO276.out
                 (first|subst eo111|(injection eo111 with f1_ f2_ f3_;have f4_:=f1_.symm;have f5_:=f3_.symm;clear f1_ f2_ f3_;subst f4_;subst f5_))
                 refine hK.out _ _ ⟨(blk_cell BK255.out 0).trans rfl,(blk_cell BK255.out 1).trans rfl,(blk_cell BK255.out 2).trans rfl,(blk_cell BK255.out 3).trans rfl,(blk_cell BK255.out 4).trans rfl,(blk_cell BK255.out 5).trans rfl⟩ (fun hHeld => ?_)
                 clear hK K
                 refine norm_ (a':=?_) ?_ ?_
                 rotate_left
                 ·
                  show Act.put _ (some 130) _ = _
                  simp only [Act.put,sA,sB,sC,i64_w,i32_w]
                  rfl
                 refine one_ (i:=11) (N:=some 131) #[true,true,true,true,true,true,true,true,true,true,true,true,false] rfl rfl (one_of HT_.out (by kernel_rfl)) (by decide) (fun K hK => ?_)
                 refine Kd.R_append_rows_step (Kd.int .u8) (w0:=w) w.heap.size (by rfl) (.tmp 126) (.tmp 130) 38 5 (.int .u8 0) 1 rfl Try.underlying38 info5 rfl (by decide) (by omega) v272 y271 t274 _ _ _ (fun k_ => some k_ ≠ (.slice Ao100 y256.length co100 : Value).ownBlock ∧ some k_ ≠ (.slice Ao103 t262.length co103 : Value).ownBlock ∧ some k_ ≠ (.slice Ao108 y268.length co108 : Value).ownBlock ∧ some k_ ≠ (.slice Ao111 t274.length co111 : Value).ownBlock) (fun _ => False) rfl rfl ?aO ?aR (fun _ _ h => h) (fun _ h => h.elim) ?aF ?aB ?aS ?aL ?_
                 (case aR => repeat (first|exact (Kd.R_reads' HO276.out).2.2|(with_reducible refine Kd.C_alloc ?_ _)|(with_reducible refine Kd.C_drewN ?_ _)|(with_reducible refine Kd.C_drew ?_)))
                 (case aB => exact (by repeat (first|(with_reducible first|exact HB.out|apply qg|apply qh|apply qi|refine qj ?_ GE183.out|refine qj ?_ GE255.out)|exact HB.out)))
                 (case aF => exact (fun k_ hk => ⟨Kd.fresh' (Kd.R_lt (by (with_reducible repeat (first|apply qd|apply qe|apply qf));exact HO258.out)) k_ hk,Kd.fresh' (Kd.R_lt (by (with_reducible repeat (first|apply qd|apply qe|apply qf));exact HO264.out)) k_ hk,Kd.fresh' (Kd.R_lt (by (with_reducible repeat (first|apply qd|apply qe|apply qf));exact HO270.out)) k_ hk,Kd.fresh' (Kd.R_lt (by (with_reducible repeat (first|apply qd|apply qe|apply qf));exact HO276.out)) k_ hk⟩))
                 (case aO => exact (by (with_reducible repeat (first|apply qd|apply qe|apply qf));exact qn HO273.out (fun _ hk => ⟨hk.1.1,⟨hk.1.2.1,⟨hk.1.2.2,hk.2⟩⟩⟩)))
                 (case aS => exact (qm (by repeat (first|(with_reducible first|exact HB.out|apply qg|apply qh|apply qi|refine qj ?_ GE183.out|refine qj ?_ GE255.out)|exact HB.out))))
                 (case aL => have:=LMc86.out;omega)
                 intro v278 w110 ho hb hg hat
                 rw [← Ny277.out] at ho
                 have n0_:=qk (blk_grown (g:=gb183) (o:=.cells #[.int .i64 a0_0,.int .i64 a0_1,.slice A0_2 l0_2.length c0_2,.slice (some ad254) l0_3.length c0_3] 31 (0,0)) (by (with_reducible repeat (first|apply qa|apply qb|apply qc));exact BK183.out) hg (Kd.R_ne HO273.out BK183.out (by decide)))
                 have n1_:=qk (blk_grown (g:=gb255) (o:=.cells #[.int .i64 ((rd_T77 l0_3 x7_2).f0),.int .i64 ((rd_T77 l0_3 x7_2).f1),.int .i64 ((rd_T77 l0_3 x7_2).f2.f0),.int .i64 ((rd_T77 l0_3 x7_2).f2.f1),.int .i64 ((rd_T77 l0_3 x7_2).f2.f2),.int .i64 ((rd_T77 l0_3 x7_2).f2.f3)] 77 (0,0)) (by (with_reducible repeat (first|apply qa|apply qb|apply qc));exact BK255.out) hg (Kd.R_ne HO273.out BK255.out (by decide)))
                 have n2_:=qk (Kd.R_after (ok:=(fun k_ => some k_ ≠ (.slice Ao103 t262.length co103 : Value).ownBlock ∧ some k_ ≠ (.slice Ao108 y268.length co108 : Value).ownBlock ∧ some k_ ≠ (.slice Ao111 t274.length co111 : Value).ownBlock)) (by (with_reducible repeat (first|apply qd|apply qe|apply qf));exact qn HO258.out (fun _ hk => ⟨⟨hk.1.1.1,⟨hk.1.1.2,hk.2⟩⟩,hk.1.2⟩)) hg hat)
                 have n3_:=qk (Kd.R_after (ok:=(fun k_ => some k_ ≠ (.slice Ao100 y256.length co100 : Value).ownBlock ∧ some k_ ≠ (.slice Ao108 y268.length co108 : Value).ownBlock ∧ some k_ ≠ (.slice Ao111 t274.length co111 : Value).ownBlock)) (by (with_reducible repeat (first|apply qd|apply qe|apply qf));exact qn HO264.out (fun _ hk => ⟨⟨hk.1.1.1,⟨hk.1.1.2,hk.2⟩⟩,hk.1.2⟩)) hg hat)
                 have n4_:=qk (Kd.R_after (ok:=(fun k_ => some k_ ≠ (.slice Ao100 y256.length co100 : Value).ownBlock ∧ some k_ ≠ (.slice Ao103 t262.length co103 : Value).ownBlock ∧ some k_ ≠ (.slice Ao111 t274.length co111 : Value).ownBlock)) (by (with_reducible repeat (first|apply qd|apply qe|apply qf));exact qn HO270.out (fun _ hk => ⟨⟨hk.1.1.1,⟨hk.1.1.2,hk.2⟩⟩,hk.1.2⟩)) hg hat)
                 have n5_:=qk (Kd.R_after (ok:=(fun k_ => some k_ ≠ (.slice Ao100 y256.length co100 : Value).ownBlock ∧ some k_ ≠ (.slice Ao103 t262.length co103 : Value).ownBlock ∧ some k_ ≠ (.slice Ao108 y268.length co108 : Value).ownBlock)) (by (with_reducible repeat (first|apply qd|apply qe|apply qf));exact qn HO276.out (fun _ hk => ⟨⟨hk.1.1.1.2,⟨hk.1.1.2,hk.1.2⟩⟩,hk.2⟩)) hg hat)
                 have n6_:=qk (hb)
                 have n7_:=qk (ho)
                 clear BK183
                 clear BK255
                 clear HO258
                 clear HO264
                 clear HO270
                 clear HO276
                 clear HB
                 clear HO273
                 have BK183:=n0_
                 have BK255:=n1_
                 have HO258:=n2_
                 have HO264:=n3_
                 have HO270:=n4_
                 have HO276:=n5_
                 have HB:=n6_
                 have HO279:=n7_
                 clear n0_ n1_ n2_ n3_ n4_ n5_ n6_ n7_
                 clear ho hb hg hat
                 refine hK.out _ _ ⟨(blk_cell BK255.out 0).trans rfl,(blk_cell BK255.out 1).trans rfl,(blk_cell BK255.out 2).trans rfl,(blk_cell BK255.out 3).trans rfl,(blk_cell BK255.out 4).trans rfl,(blk_cell BK255.out 5).trans rfl⟩ (fun hHeld => ?_)
                 clear hK K
                 refine norm_ (a':=?_) ?_ ?_
                 rotate_left
                 ·
                  show Act.put _ (some 131) _ = _
                  simp only [Act.put,sA,sB,sC,i64_w,i32_w]
                  rfl
                 refine pure_ (i:=12) (N:=some 3) (v:=?_) (a':=?_) #[true,true,true,true,true,true,true,true,true,true,true,true,true] rfl rfl (any_of HT_.out (by kernel_rfl)) (fun _ _ _ h => h) (Or.inl ⟨by rfl,?_⟩) ?_ ?_
                 rotate_left
                 ·
                  intro w'
                  go_simp
                  with_reducible rfl
                 rotate_left
                 ·
                  simp only [Act.put,sA,sB,sC,i64_w,i32_w]
                  rfl
                 refine done_ (done_of HT_.out (by kernel_rfl)) ?_
                 try go_wp2
                 have n0_:=qk (qf HO258.out)
                 have n1_:=qk (qf HO264.out)
                 have n2_:=qk (qf HO270.out)
                 have n3_:=qk (qf HO276.out)
                 have n4_:=qk (qf HO279.out)
                 have n5_:=qk (qb BK183.out)
                 have n6_:=qk (qb BK255.out)
                 have n7_:=qk (qi HB.out)
                 clear HO258
                 clear HO264
                 clear HO270
                 clear HO276
                 clear HO279
                 clear BK183
                 clear BK255
                 clear HB
                 have HO258:=n0_
                 have HO264:=n1_
                 have HO270:=n2_
                 have HO276:=n3_
                 have HO279:=n4_
                 have BK183:=n5_
                 have BK255:=n6_
                 have HB:=n7_
                 clear n0_ n1_ n2_ n3_ n4_ n5_ n6_ n7_
                 refine start_ (n:=13) (S:=fun w' => w'.cell? ⟨gb255,0,none⟩ = some (.int .i64 ((rd_T77 l0_3 x7_2).f0)) ∧ w'.cell? ⟨gb255,1,none⟩ = some (.int .i64 ((rd_T77 l0_3 x7_2).f1)) ∧ w'.cell? ⟨gb255,2,none⟩ = some (.int .i64 ((rd_T77 l0_3 x7_2).f2.f0)) ∧ w'.cell? ⟨gb255,3,none⟩ = some (.int .i64 ((rd_T77 l0_3 x7_2).f2.f1)) ∧ w'.cell? ⟨gb255,4,none⟩ = some (.int .i64 ((rd_T77 l0_3 x7_2).f2.f2)) ∧ w'.cell? ⟨gb255,5,none⟩ = some (.int .i64 ((rd_T77 l0_3 x7_2).f2.f3))) (ds:=[]) #[false,false,false,false,false,false,false,false,false,false,false,false,false] (by kernel_rfl) rfl rfl ⟨(blk_cell BK255.out 0).trans rfl,(blk_cell BK255.out 1).trans rfl,(blk_cell BK255.out 2).trans rfl,(blk_cell BK255.out 3).trans rfl,(blk_cell BK255.out 4).trans rfl,(blk_cell BK255.out 5).trans rfl⟩ (fun hHeld => ?_);refine with_tabW spec_l05Bytes.tab21 spec_l05Bytes.bits21 (fun HT_ HW_ => ?_)
                 generalize w110.drew = w112 at HO258 HO264 HO270 HO276 HO279 BK183 BK255 HB hHeld ⊢
                 refine pure_ (i:=0) (N:=some 132) (v:=?_) (a':=?_) #[true,false,false,false,false,false,false,false,false,false,false,false,false] rfl rfl (any_of HT_.out (by kernel_rfl)) (fun _ _ _ h => h) (Or.inl ⟨by rfl,?_⟩) ?_ ?_
                 rotate_left
                 ·
                  intro w'
                  go_simp
                  with_reducible rfl
                 rotate_left
                 ·
                  simp only [Act.put,sA,sB,sC,i64_w,i32_w]
                  rfl
                 refine pure_ (i:=1) (N:=some 133) (v:=?_) (a':=?_) #[true,true,false,false,false,false,false,false,false,false,false,false,false] rfl rfl (any_of HT_.out (by kernel_rfl)) (fun _ _ _ h => h) (Or.inl ⟨by rfl,?_⟩) ?_ ?_
                 rotate_left
                 ·
                  intro w'
                  go_simp
                  with_reducible rfl
                 rotate_left
                 ·
                  simp only [Act.put,sA,sB,sC,i64_w,i32_w]
                  rfl
                 refine pure_ (i:=2) (N:=some 134) (v:=?_) (a':=?_) #[true,true,true,false,false,false,false,false,false,false,false,false,false] rfl rfl (any_of HT_.out (by kernel_rfl)) (fun _ _ _ h => h) (Or.inl ⟨by rfl,?_⟩) ?_ ?_
                 rotate_left
                 ·
                  intro w'
                  go_simp
                  with_reducible rfl
                 rotate_left
                 ·
                  simp only [Act.put,sA,sB,sC,i64_w,i32_w]
                  rfl
                 refine pure_ (i:=7) (N:=some 139) (v:=?_) (a':=?_) #[true,true,true,false,false,false,false,true,false,false,false,false,false] rfl rfl (any_of HT_.out (by kernel_rfl)) (fun _ _ _ h => h) (Or.inl ⟨by rfl,?_⟩) ?_ ?_
                 rotate_left
                 ·
                  intro w'
                  go_simp
                  with_reducible rfl
                 rotate_left
                 ·
                  simp only [Act.put,sA,sB,sC,i64_w,i32_w]
                  rfl
                 refine pure_ (i:=8) (N:=some 140) (v:=?_) (a':=?_) #[true,true,true,false,false,false,false,true,true,false,false,false,false] rfl rfl (any_of HT_.out (by kernel_rfl)) (fun _ _ _ h => h) (Or.inl ⟨by rfl,?_⟩) ?_ ?_
                 rotate_left
                 ·
                  intro w'
                  go_simp
                  with_reducible rfl
                 rotate_left
                 ·
                  simp only [Act.put,sA,sB,sC,i64_w,i32_w]
                  rfl
                 refine take_ (i:=3) (N:=some 135) (v:=?_) (a':=?_) #[true,true,true,true,false,false,false,true,true,false,false,false,false] rfl rfl (take_ofW HT_.out HW_.out (by kernel_rfl)) (fun _ _ _ h => h) (Or.inl ⟨by rfl,?_⟩) hHeld ?_ ?_
                 rotate_left
                 ·
                  rintro w' ⟨s0,s1,s2,s3,s4,s5⟩
                  go_simp
                  with_reducible rfl
                 rotate_left
                 ·
                  simp only [Act.put,sA,sB,sC,i64_w,i32_w]
                  rfl
                 refine pure_ (i:=4) (N:=some 136) (v:=?_) (a':=?_) #[true,true,true,true,true,false,false,true,true,false,false,false,false] rfl rfl (any_of HT_.out (by kernel_rfl)) (fun _ _ _ h => h) (Or.inl ⟨by rfl,?_⟩) ?_ ?_
                 rotate_left
                 ·
                  intro w'
                  go_simp
                  with_reducible rfl
                 rotate_left
                 ·
                  simp only [Act.put,sA,sB,sC,i64_w,i32_w]
                  rfl
                 refine take_ (i:=9) (N:=some 141) (v:=?_) (a':=?_) #[true,true,true,true,true,false,false,true,true,true,false,false,false] rfl rfl (take_ofW HT_.out HW_.out (by kernel_rfl)) (fun _ _ _ h => h) (Or.inl ⟨by rfl,?_⟩) hHeld ?_ ?_
                 rotate_left
                 ·
                  rintro w' ⟨s0,s1,s2,s3,s4,s5⟩
                  go_simp
                  with_reducible rfl
                 rotate_left
                 ·
                  simp only [Act.put,sA,sB,sC,i64_w,i32_w]
                  rfl
                 refine one_ (i:=5) (N:=some 137) #[true,true,true,true,true,true,false,true,true,true,false,false,false] rfl rfl (one_of HT_.out (by kernel_rfl)) (by decide) (fun K hK => ?_)
                 refine goes_ Try.func79 (by kernel_rfl) rfl #[.int .i64 (wrap64 (((rd_T77 l0_3 x7_2).f2.f2) + 1)),.int .i64 2] (by rfl) rfl rfl (by (try simp only [sE,sH,sI]);first|done|rfl|(simp only [sG,sF];rfl)) ?_
                 with_reducible refine (spec_l02Number.calls k2 (wrap64 (((rd_T77 l0_3 x7_2).f2.f2) + 1)) 2 t280 _ A87.out).mono ?_
                 rintro e w113 ⟨v281,rfl,ho0,hb⟩
                 refine ⟨_,rfl,?_⟩
                 have n0_:=qk (Kd.R_elder' (by (with_reducible repeat (first|apply qd|apply qe|apply qf));exact HO258.out) (Kd.R_base ho0) hb)
                 have n1_:=qk (Kd.R_elder' (by (with_reducible repeat (first|apply qd|apply qe|apply qf));exact HO264.out) (Kd.R_base ho0) hb)
                 have n2_:=qk (Kd.R_elder' (by (with_reducible repeat (first|apply qd|apply qe|apply qf));exact HO270.out) (Kd.R_base ho0) hb)
                 have n3_:=qk (Kd.R_elder' (by (with_reducible repeat (first|apply qd|apply qe|apply qf));exact HO276.out) (Kd.R_base ho0) hb)
                 have n4_:=qk (Kd.R_elder' (by (with_reducible repeat (first|apply qd|apply qe|apply qf));exact HO279.out) (Kd.R_base ho0) hb)
                 have n5_:=qk (Kd.R_lower (Kd.R_new' (Kd.R_new' (Kd.R_new' (Kd.R_new' (Kd.R_new' ho0 (Kd.R_lt (by (with_reducible repeat (first|apply qd|apply qe|apply qf));exact HO258.out))) (Kd.R_lt (by (with_reducible repeat (first|apply qd|apply qe|apply qf));exact HO264.out))) (Kd.R_lt (by (with_reducible repeat (first|apply qd|apply qe|apply qf));exact HO270.out))) (Kd.R_lt (by (with_reducible repeat (first|apply qd|apply qe|apply qf));exact HO276.out))) (Kd.R_lt (by (with_reducible repeat (first|apply qd|apply qe|apply qf));exact HO279.out))) (qm (by repeat (first|(with_reducible first|exact HB.out|apply qg|apply qh|apply qi|refine qj ?_ GE183.out|refine qj ?_ GE255.out)|exact HB.out))))
                 have n6_:=qk (ql (g:=gb183) (o:=.cells #[.int .i64 a0_0,.int .i64 a0_1,.slice A0_2 l0_2.length c0_2,.slice (some ad254) l0_3.length c0_3] 31 (0,0)) (by (with_reducible repeat (first|apply qa|apply qb|apply qc));exact BK183.out) hb)
                 have n7_:=qk (ql (g:=gb255) (o:=.cells #[.int .i64 ((rd_T77 l0_3 x7_2).f0),.int .i64 ((rd_T77 l0_3 x7_2).f1),.int .i64 ((rd_T77 l0_3 x7_2).f2.f0),.int .i64 ((rd_T77 l0_3 x7_2).f2.f1),.int .i64 ((rd_T77 l0_3 x7_2).f2.f2),.int .i64 ((rd_T77 l0_3 x7_2).f2.f3)] 77 (0,0)) (by (with_reducible repeat (first|apply qa|apply qb|apply qc));exact BK255.out) hb)
                 have n8_:=qk (sN (by repeat (first|(with_reducible first|exact HB.out|apply qg|apply qh|apply qi|refine qj ?_ GE183.out|refine qj ?_ GE255.out)|exact HB.out)) hb)
                 clear HO258
                 clear HO264
                 clear HO270
                 clear HO276
                 clear HO279
                 clear BK183
                 clear BK255
                 clear HB
                 have HO258:=n0_
                 have HO264:=n1_
                 have HO270:=n2_
                 have HO276:=n3_
                 have HO279:=n4_
                 have HO282:=n5_
                 have BK183:=n6_
                 have BK255:=n7_
                 have HB:=n8_
                 clear n0_ n1_ n2_ n3_ n4_ n5_ n6_ n7_ n8_
                 (try clear hb)
                 (try clear hb2)
                 (try clear hk)
                 (try clear hi)
                 (try clear ho0)
                 obtain ⟨Ao115,co115,eo115⟩:=Kd.R_slice HO282.out
                 (first|subst eo115|(injection eo115 with f1_ f2_ f3_;have f4_:=f1_.symm;have f5_:=f3_.symm;clear f1_ f2_ f3_;subst f4_;subst f5_))
                 refine hK.out _ _ ⟨(blk_cell BK255.out 0).trans rfl,(blk_cell BK255.out 1).trans rfl,(blk_cell BK255.out 2).trans rfl,(blk_cell BK255.out 3).trans rfl,(blk_cell BK255.out 4).trans rfl,(blk_cell BK255.out 5).trans rfl⟩ (fun hHeld => ?_)
                 clear hK K
                 refine norm_ (a':=?_) ?_ ?_
                 rotate_left
                 ·
                  show Act.put _ (some 137) _ = _
                  simp only [Act.put,sA,sB,sC,i64_w,i32_w]
                  rfl
                 refine one_ (i:=6) (N:=some 138) #[true,true,true,true,true,true,true,true,true,true,false,false,false] rfl rfl (one_of HT_.out (by kernel_rfl)) (by decide) (fun K hK => ?_)
                 refine Kd.R_append_rows_step (Kd.int .u8) (w0:=w) w.heap.size (by rfl) (.tmp 132) (.tmp 137) 38 5 (.int .u8 0) 1 rfl Try.underlying38 info5 rfl (by decide) (by omega) v278 y277 t280 _ _ _ (fun k_ => some k_ ≠ (.slice Ao100 y256.length co100 : Value).ownBlock ∧ some k_ ≠ (.slice Ao103 t262.length co103 : Value).ownBlock ∧ some k_ ≠ (.slice Ao108 y268.length co108 : Value).ownBlock ∧ some k_ ≠ (.slice Ao111 t274.length co111 : Value).ownBlock ∧ some k_ ≠ (.slice Ao115 t280.length co115 : Value).ownBlock) (fun _ => False) rfl rfl ?aO ?aR (fun _ _ h => h) (fun _ h => h.elim) ?aF ?aB ?aS ?aL ?_
                 (case aR => repeat (first|exact (Kd.R_reads' HO282.out).2.2|(with_reducible refine Kd.C_alloc ?_ _)|(with_reducible refine Kd.C_drewN ?_ _)|(with_reducible refine Kd.C_drew ?_)))
                 (case aB => exact (by repeat (first|(with_reducible first|exact HB.out|apply qg|apply qh|apply qi|refine qj ?_ GE183.out|refine qj ?_ GE255.out)|exact HB.out)))
                 (case aF => exact (fun k_ hk => ⟨Kd.fresh' (Kd.R_lt (by (with_reducible repeat (first|apply qd|apply qe|apply qf));exact HO258.out)) k_ hk,Kd.fresh' (Kd.R_lt (by (with_reducible repeat (first|apply qd|apply qe|apply qf));exact HO264.out)) k_ hk,Kd.fresh' (Kd.R_lt (by (with_reducible repeat (first|apply qd|apply qe|apply qf));exact HO270.out)) k_ hk,Kd.fresh' (Kd.R_lt (by (with_reducible repeat (first|apply qd|apply qe|apply qf));exact HO276.out)) k_ hk,Kd.fresh' (Kd.R_lt (by (with_reducible repeat (first|apply qd|apply qe|apply qf));exact HO282.out)) k_ hk⟩))
                 (case aO => exact (by (with_reducible repeat (first|apply qd|apply qe|apply qf));exact qn HO279.out (fun _ hk => ⟨hk.1.1,⟨hk.1.2.1,⟨hk.1.2.2.1,⟨hk.1.2.2.2,hk.2⟩⟩⟩⟩)))
                 (case aS => exact (qm (by repeat (first|(with_reducible first|exact HB.out|apply qg|apply qh|apply qi|refine qj ?_ GE183.out|refine qj ?_ GE255.out)|exact HB.out))))
                 (case aL => have:=LMc88.out;omega)
                 intro v284 w114 ho hb hg hat
                 rw [← Ny283.out] at ho
                 have n0_:=qk (blk_grown (g:=gb183) (o:=.cells #[.int .i64 a0_0,.int .i64 a0_1,.slice A0_2 l0_2.length c0_2,.slice (some ad254) l0_3.length c0_3] 31 (0,0)) (by (with_reducible repeat (first|apply qa|apply qb|apply qc));exact BK183.out) hg (Kd.R_ne HO279.out BK183.out (by decide)))
                 have n1_:=qk (blk_grown (g:=gb255) (o:=.cells #[.int .i64 ((rd_T77 l0_3 x7_2).f0),.int .i64 ((rd_T77 l0_3 x7_2).f1),.int .i64 ((rd_T77 l0_3 x7_2).f2.f0),.int .i64 ((rd_T77 l0_3 x7_2).f2.f1),.int .i64 ((rd_T77 l0_3 x7_2).f2.f2),.int .i64 ((rd_T77 l0_3 x7_2).f2.f3)] 77 (0,0)) (by (with_reducible repeat (first|apply qa|apply qb|apply qc));exact BK255.out) hg (Kd.R_ne HO279.out BK255.out (by decide)))
                 have n2_:=qk (Kd.R_after (ok:=(fun k_ => some k_ ≠ (.slice Ao103 t262.length co103 : Value).ownBlock ∧ some k_ ≠ (.slice Ao108 y268.length co108 : Value).ownBlock ∧ some k_ ≠ (.slice Ao111 t274.length co111 : Value).ownBlock ∧ some k_ ≠ (.slice Ao115 t280.length co115 : Value).ownBlock)) (by (with_reducible repeat (first|apply qd|apply qe|apply qf));exact qn HO258.out (fun _ hk => ⟨⟨hk.1.1.1,⟨hk.1.1.2.1,⟨hk.1.1.2.2,hk.2⟩⟩⟩,hk.1.2⟩)) hg hat)
                 have n3_:=qk (Kd.R_after (ok:=(fun k_ => some k_ ≠ (.slice Ao100 y256.length co100 : Value).ownBlock ∧ some k_ ≠ (.slice Ao108 y268.length co108 : Value).ownBlock ∧ some k_ ≠ (.slice Ao111 t274.length co111 : Value).ownBlock ∧ some k_ ≠ (.slice Ao115 t280.length co115 : Value).ownBlock)) (by (with_reducible repeat (first|apply qd|apply qe|apply qf));exact qn HO264.out (fun _ hk => ⟨⟨hk.1.1.1,⟨hk.1.1.2.1,⟨hk.1.1.2.2,hk.2⟩⟩⟩,hk.1.2⟩)) hg hat)
                 have n4_:=qk (Kd.R_after (ok:=(fun k_ => some k_ ≠ (.slice Ao100 y256.length co100 : Value).ownBlock ∧ some k_ ≠ (.slice Ao103 t262.length co103 : Value).ownBlock ∧ some k_ ≠ (.slice Ao111 t274.length co111 : Value).ownBlock ∧ some k_ ≠ (.slice Ao115 t280.length co115 : Value).ownBlock)) (by (with_reducible repeat (first|apply qd|apply qe|apply qf));exact qn HO270.out (fun _ hk => ⟨⟨hk.1.1.1,⟨hk.1.1.2.1,⟨hk.1.1.2.2,hk.2⟩⟩⟩,hk.1.2⟩)) hg hat)
                 have n5_:=qk (Kd.R_after (ok:=(fun k_ => some k_ ≠ (.slice Ao100 y256.length co100 : Value).ownBlock ∧ some k_ ≠ (.slice Ao103 t262.length co103 : Value).ownBlock ∧ some k_ ≠ (.slice Ao108 y268.length co108 : Value).ownBlock ∧ some k_ ≠ (.slice Ao115 t280.length co115 : Value).ownBlock)) (by (with_reducible repeat (first|apply qd|apply qe|apply qf));exact qn HO276.out (fun _ hk => ⟨⟨hk.1.1.1,⟨hk.1.1.2.1,⟨hk.1.1.2.2,hk.2⟩⟩⟩,hk.1.2⟩)) hg hat)
                 have n6_:=qk (Kd.R_after (ok:=(fun k_ => some k_ ≠ (.slice Ao100 y256.length co100 : Value).ownBlock ∧ some k_ ≠ (.slice Ao103 t262.length co103 : Value).ownBlock ∧ some k_ ≠ (.slice Ao108 y268.length co108 : Value).ownBlock ∧ some k_ ≠ (.slice Ao111 t274.length co111 : Value).ownBlock)) (by (with_reducible repeat (first|apply qd|apply qe|apply qf));exact qn HO282.out (fun _ hk => ⟨⟨hk.1.1.1.1.2,⟨hk.1.1.1.2,⟨hk.1.1.2,hk.1.2⟩⟩⟩,hk.2⟩)) hg hat)
                 have n7_:=qk (hb)
                 have n8_:=qk (ho)
                 clear BK183
                 clear BK255
                 clear HO258
                 clear HO264
                 clear HO270
                 clear HO276
                 clear HO282
                 clear HB
                 clear HO279
                 have BK183:=n0_
                 have BK255:=n1_
                 have HO258:=n2_
                 have HO264:=n3_
                 have HO270:=n4_
                 have HO276:=n5_
                 have HO282:=n6_
                 have HB:=n7_
                 have HO285:=n8_
                 clear n0_ n1_ n2_ n3_ n4_ n5_ n6_ n7_ n8_
                 clear ho hb hg hat
                 refine hK.out _ _ ⟨(blk_cell BK255.out 0).trans rfl,(blk_cell BK255.out 1).trans rfl,(blk_cell BK255.out 2).trans rfl,(blk_cell BK255.out 3).trans rfl,(blk_cell BK255.out 4).trans rfl,(blk_cell BK255.out 5).trans rfl⟩ (fun hHeld => ?_)
                 clear hK K
                 refine norm_ (a':=?_) ?_ ?_
                 rotate_left
                 ·
                  show Act.put _ (some 138) _ = _
                  simp only [Act.put,sA,sB,sC,i64_w,i32_w]
                  rfl
                 refine one_ (i:=10) (N:=some 142) #[true,true,true,true,true,true,true,true,true,true,true,false,false] rfl rfl (one_of HT_.out (by kernel_rfl)) (by decide) (fun K hK => ?_)
                 refine goes_ Try.func79 (by kernel_rfl) rfl #[.int .i64 ((rd_T77 l0_3 x7_2).f2.f3),.int .i64 4] (by rfl) rfl rfl (by (try simp only [sE,sH,sI]);first|done|rfl|(simp only [sG,sF];rfl)) ?_
                 with_reducible refine (spec_l02Number.calls k2 ((rd_T77 l0_3 x7_2).f2.f3) 4 t286 _ A89.out).mono ?_
                 rintro e w116 ⟨v287,rfl,ho0,hb⟩
                 refine ⟨_,rfl,?_⟩
                 have n0_:=qk (Kd.R_elder' (by (with_reducible repeat (first|apply qd|apply qe|apply qf));exact HO258.out) (Kd.R_base ho0) hb)
                 have n1_:=qk (Kd.R_elder' (by (with_reducible repeat (first|apply qd|apply qe|apply qf));exact HO264.out) (Kd.R_base ho0) hb)
                 have n2_:=qk (Kd.R_elder' (by (with_reducible repeat (first|apply qd|apply qe|apply qf));exact HO270.out) (Kd.R_base ho0) hb)
                 have n3_:=qk (Kd.R_elder' (by (with_reducible repeat (first|apply qd|apply qe|apply qf));exact HO276.out) (Kd.R_base ho0) hb)
                 have n4_:=qk (Kd.R_elder' (by (with_reducible repeat (first|apply qd|apply qe|apply qf));exact HO282.out) (Kd.R_base ho0) hb)
                 have n5_:=qk (Kd.R_elder' (by (with_reducible repeat (first|apply qd|apply qe|apply qf));exact HO285.out) (Kd.R_base ho0) hb)
                 have n6_:=qk (Kd.R_lower (Kd.R_new' (Kd.R_new' (Kd.R_new' (Kd.R_new' (Kd.R_new' (Kd.R_new' ho0 (Kd.R_lt (by (with_reducible repeat (first|apply qd|apply qe|apply qf));exact HO258.out))) (Kd.R_lt (by (with_reducible repeat (first|apply qd|apply qe|apply qf));exact HO264.out))) (Kd.R_lt (by (with_reducible repeat (first|apply qd|apply qe|apply qf));exact HO270.out))) (Kd.R_lt (by (with_reducible repeat (first|apply qd|apply qe|apply qf));exact HO276.out))) (Kd.R_lt (by (with_reducible repeat (first|apply qd|apply qe|apply qf));exact HO282.out))) (Kd.R_lt (by (with_reducible repeat (first|apply qd|apply qe|apply qf));exact HO285.out))) (qm (by repeat (first|(with_reducible first|exact HB.out|apply qg|apply qh|apply qi|refine qj ?_ GE183.out|refine qj ?_ GE255.out)|exact HB.out))))
                 have n7_:=qk (ql (g:=gb183) (o:=.cells #[.int .i64 a0_0,.int .i64 a0_1,.slice A0_2 l0_2.length c0_2,.slice (some ad254) l0_3.length c0_3] 31 (0,0)) (by (with_reducible repeat (first|apply qa|apply qb|apply qc));exact BK183.out) hb)
                 have n8_:=qk (ql (g:=gb255) (o:=.cells #[.int .i64 ((rd_T77 l0_3 x7_2).f0),.int .i64 ((rd_T77 l0_3 x7_2).f1),.int .i64 ((rd_T77 l0_3 x7_2).f2.f0),.int .i64 ((rd_T77 l0_3 x7_2).f2.f1),.int .i64 ((rd_T77 l0_3 x7_2).f2.f2),.int .i64 ((rd_T77 l0_3 x7_2).f2.f3)] 77 (0,0)) (by (with_reducible repeat (first|apply qa|apply qb|apply qc));exact BK255.out) hb)
                 have n9_:=qk (sN (by repeat (first|(with_reducible first|exact HB.out|apply qg|apply qh|apply qi|refine qj ?_ GE183.out|refine qj ?_ GE255.out)|exact HB.out)) hb)
                 clear HO258
                 clear HO264
                 clear HO270
                 clear HO276
                 clear HO282
                 clear HO285
                 clear BK183
                 clear BK255
                 clear HB
                 have HO258:=n0_
                 have HO264:=n1_
                 have HO270:=n2_
                 have HO276:=n3_
                 have HO282:=n4_
                 have HO285:=n5_
                 have HO288:=n6_
                 have BK183:=n7_
                 have BK255:=n8_
                 have HB:=n9_
                 clear n0_ n1_ n2_ n3_ n4_ n5_ n6_ n7_ n8_ n9_
                 (try clear hb)
                 (try clear hb2)
                 (try clear hk)
                 (try clear hi)
                 (try clear ho0)
                 obtain ⟨Ao118,co118,eo118⟩:=Kd.R_slice HO288.out
                 (first|subst eo118|(injection eo118 with f1_ f2_ f3_;have f4_:=f1_.symm;have f5_:=f3_.symm;clear f1_ f2_ f3_;subst f4_;subst f5_))
                 refine hK.out _ _ ⟨(blk_cell BK255.out 0).trans rfl,(blk_cell BK255.out 1).trans rfl,(blk_cell BK255.out 2).trans rfl,(blk_cell BK255.out 3).trans rfl,(blk_cell BK255.out 4).trans rfl,(blk_cell BK255.out 5).trans rfl⟩ (fun hHeld => ?_)
                 clear hK K
                 refine norm_ (a':=?_) ?_ ?_
                 rotate_left
                 ·
                  show Act.put _ (some 142) _ = _
                  simp only [Act.put,sA,sB,sC,i64_w,i32_w]
                  rfl
                 refine one_ (i:=11) (N:=some 143) #[true,true,true,true,true,true,true,true,true,true,true,true,false] rfl rfl (one_of HT_.out (by kernel_rfl)) (by decide) (fun K hK => ?_)
                 refine Kd.R_append_rows_step (Kd.int .u8) (w0:=w) w.heap.size (by rfl) (.tmp 138) (.tmp 142) 38 5 (.int .u8 0) 1 rfl Try.underlying38 info5 rfl (by decide) (by omega) v284 y283 t286 _ _ _ (fun k_ => some k_ ≠ (.slice Ao100 y256.length co100 : Value).ownBlock ∧ some k_ ≠ (.slice Ao103 t262.length co103 : Value).ownBlock ∧ some k_ ≠ (.slice Ao108 y268.length co108 : Value).ownBlock ∧ some k_ ≠ (.slice Ao111 t274.length co111 : Value).ownBlock ∧ some k_ ≠ (.slice Ao115 t280.length co115 : Value).ownBlock ∧ some k_ ≠ (.slice Ao118 t286.length co118 : Value).ownBlock) (fun _ => False) rfl rfl ?aO ?aR (fun _ _ h => h) (fun _ h => h.elim) ?aF ?aB ?aS ?aL ?_
                 (case aR => repeat (first|exact (Kd.R_reads' HO288.out).2.2|(with_reducible refine Kd.C_alloc ?_ _)|(with_reducible refine Kd.C_drewN ?_ _)|(with_reducible refine Kd.C_drew ?_)))
                 (case aB => exact (by repeat (first|(with_reducible first|exact HB.out|apply qg|apply qh|apply qi|refine qj ?_ GE183.out|refine qj ?_ GE255.out)|exact HB.out)))
                 (case aF => exact (fun k_ hk => ⟨Kd.fresh' (Kd.R_lt (by (with_reducible repeat (first|apply qd|apply qe|apply qf));exact HO258.out)) k_ hk,Kd.fresh' (Kd.R_lt (by (with_reducible repeat (first|apply qd|apply qe|apply qf));exact HO264.out)) k_ hk,Kd.fresh' (Kd.R_lt (by (with_reducible repeat (first|apply qd|apply qe|apply qf));exact HO270.out)) k_ hk,Kd.fresh' (Kd.R_lt (by (with_reducible repeat (first|apply qd|apply qe|apply qf));exact HO276.out)) k_ hk,Kd.fresh' (Kd.R_lt (by (with_reducible repeat (first|apply qd|apply qe|apply qf));exact HO282.out)) k_ hk,Kd.fresh' (Kd.R_lt (by (with_reducible repeat (first|apply qd|apply qe|apply qf));exact HO288.out)) k_ hk⟩))
                 (case aO => exact (by (with_reducible repeat (first|apply qd|apply qe|apply qf));exact qn HO285.out (fun _ hk => ⟨hk.1.1,⟨hk.1.2.1,⟨hk.1.2.2.1,⟨hk.1.2.2.2.1,⟨hk.1.2.2.2.2,hk.2⟩⟩⟩⟩⟩)))
                 (case aS => exact (qm (by repeat (first|(with_reducible first|exact HB.out|apply qg|apply qh|apply qi|refine qj ?_ GE183.out|refine qj ?_ GE255.out)|exact HB.out))))
                 (case aL => have:=LMc90.out;omega)
                 intro v290 w117 ho hb hg hat
                 rw [← Ny289.out] at ho
                 have n0_:=qk (blk_grown (g:=gb183) (o:=.cells #[.int .i64 a0_0,.int .i64 a0_1,.slice A0_2 l0_2.length c0_2,.slice (some ad254) l0_3.length c0_3] 31 (0,0)) (by (with_reducible repeat (first|apply qa|apply qb|apply qc));exact BK183.out) hg (Kd.R_ne HO285.out BK183.out (by decide)))
                 have n1_:=qk (blk_grown (g:=gb255) (o:=.cells #[.int .i64 ((rd_T77 l0_3 x7_2).f0),.int .i64 ((rd_T77 l0_3 x7_2).f1),.int .i64 ((rd_T77 l0_3 x7_2).f2.f0),.int .i64 ((rd_T77 l0_3 x7_2).f2.f1),.int .i64 ((rd_T77 l0_3 x7_2).f2.f2),.int .i64 ((rd_T77 l0_3 x7_2).f2.f3)] 77 (0,0)) (by (with_reducible repeat (first|apply qa|apply qb|apply qc));exact BK255.out) hg (Kd.R_ne HO285.out BK255.out (by decide)))
                 have n2_:=qk (Kd.R_after (ok:=(fun k_ => some k_ ≠ (.slice Ao103 t262.length co103 : Value).ownBlock ∧ some k_ ≠ (.slice Ao108 y268.length co108 : Value).ownBlock ∧ some k_ ≠ (.slice Ao111 t274.length co111 : Value).ownBlock ∧ some k_ ≠ (.slice Ao115 t280.length co115 : Value).ownBlock ∧ some k_ ≠ (.slice Ao118 t286.length co118 : Value).ownBlock)) (by (with_reducible repeat (first|apply qd|apply qe|apply qf));exact qn HO258.out (fun _ hk => ⟨⟨hk.1.1.1,⟨hk.1.1.2.1,⟨hk.1.1.2.2.1,⟨hk.1.1.2.2.2,hk.2⟩⟩⟩⟩,hk.1.2⟩)) hg hat)
                 have n3_:=qk (Kd.R_after (ok:=(fun k_ => some k_ ≠ (.slice Ao100 y256.length co100 : Value).ownBlock ∧ some k_ ≠ (.slice Ao108 y268.length co108 : Value).ownBlock ∧ some k_ ≠ (.slice Ao111 t274.length co111 : Value).ownBlock ∧ some k_ ≠ (.slice Ao115 t280.length co115 : Value).ownBlock ∧ some k_ ≠ (.slice Ao118 t286.length co118 : Value).ownBlock)) (by (with_reducible repeat (first|apply qd|apply qe|apply qf));exact qn HO264.out (fun _ hk => ⟨⟨hk.1.1.1,⟨hk.1.1.2.1,⟨hk.1.1.2.2.1,⟨hk.1.1.2.2.2,hk.2⟩⟩⟩⟩,hk.1.2⟩)) hg hat)
                 have n4_:=qk (Kd.R_after (ok:=(fun k_ => some k_ ≠ (.slice Ao100 y256.length co100 : Value).ownBlock ∧ some k_ ≠ (.slice Ao103 t262.length co103 : Value).ownBlock ∧ some k_ ≠ (.slice Ao111 t274.length co111 : Value).ownBlock ∧ some k_ ≠ (.slice Ao115 t280.length co115 : Value).ownBlock ∧ some k_ ≠ (.slice Ao118 t286.length co118 : Value).ownBlock)) (by (with_reducible repeat (first|apply qd|apply qe|apply qf));exact qn HO270.out (fun _ hk => ⟨⟨hk.1.1.1,⟨hk.1.1.2.1,⟨hk.1.1.2.2.1,⟨hk.1.1.2.2.2,hk.2⟩⟩⟩⟩,hk.1.2⟩)) hg hat)
                 have n5_:=qk (Kd.R_after (ok:=(fun k_ => some k_ ≠ (.slice Ao100 y256.length co100 : Value).ownBlock ∧ some k_ ≠ (.slice Ao103 t262.length co103 : Value).ownBlock ∧ some k_ ≠ (.slice Ao108 y268.length co108 : Value).ownBlock ∧ some k_ ≠ (.slice Ao115 t280.length co115 : Value).ownBlock ∧ some k_ ≠ (.slice Ao118 t286.length co118 : Value).ownBlock)) (by (with_reducible repeat (first|apply qd|apply qe|apply qf));exact qn HO276.out (fun _ hk => ⟨⟨hk.1.1.1,⟨hk.1.1.2.1,⟨hk.1.1.2.2.1,⟨hk.1.1.2.2.2,hk.2⟩⟩⟩⟩,hk.1.2⟩)) hg hat)
                 have n6_:=qk (Kd.R_after (ok:=(fun k_ => some k_ ≠ (.slice Ao100 y256.length co100 : Value).ownBlock ∧ some k_ ≠ (.slice Ao103 t262.length co103 : Value).ownBlock ∧ some k_ ≠ (.slice Ao108 y268.length co108 : Value).ownBlock ∧ some k_ ≠ (.slice Ao111 t274.length co111 : Value).ownBlock ∧ some k_ ≠ (.slice Ao118 t286.length co118 : Value).ownBlock)) (by (with_reducible repeat (first|apply qd|apply qe|apply qf));exact qn HO282.out (fun _ hk => ⟨⟨hk.1.1.1,⟨hk.1.1.2.1,⟨hk.1.1.2.2.1,⟨hk.1.1.2.2.2,hk.2⟩⟩⟩⟩,hk.1.2⟩)) hg hat)
                 have n7_:=qk (Kd.R_after (ok:=(fun k_ => some k_ ≠ (.slice Ao100 y256.length co100 : Value).ownBlock ∧ some k_ ≠ (.slice Ao103 t262.length co103 : Value).ownBlock ∧ some k_ ≠ (.slice Ao108 y268.length co108 : Value).ownBlock ∧ some k_ ≠ (.slice Ao111 t274.length co111 : Value).ownBlock ∧ some k_ ≠ (.slice Ao115 t280.length co115 : Value).ownBlock)) (by (with_reducible repeat (first|apply qd|apply qe|apply qf));exact qn HO288.out (fun _ hk => ⟨⟨hk.1.1.1.1.1.2,⟨hk.1.1.1.1.2,⟨hk.1.1.1.2,⟨hk.1.1.2,hk.1.2⟩⟩⟩⟩,hk.2⟩)) hg hat)
                 have n8_:=qk (hb)
                 have n9_:=qk (ho)
                 clear BK183
                 clear BK255
                 clear HO258
                 clear HO264
                 clear HO270
                 clear HO276
                 clear HO282
                 clear HO288
                 clear HB
                 clear HO285
                 have BK183:=n0_
                 have BK255:=n1_
                 have HO258:=n2_
                 have HO264:=n3_
                 have HO270:=n4_
                 have HO276:=n5_
                 have HO282:=n6_
                 have HO288:=n7_
                 have HB:=n8_
                 have HO291:=n9_
                 clear n0_ n1_ n2_ n3_ n4_ n5_ n6_ n7_ n8_ n9_
                 clear ho hb hg hat
                 refine hK.out _ _ ⟨(blk_cell BK255.out 0).trans rfl,(blk_cell BK255.out 1).trans rfl,(blk_cell BK255.out 2).trans rfl,(blk_cell BK255.out 3).trans rfl,(blk_cell BK255.out 4).trans rfl,(blk_cell BK255.out 5).trans rfl⟩ (fun hHeld => ?_)
                 clear hK K
                 refine norm_ (a':=?_) ?_ ?_
                 rotate_left
                 ·
                  show Act.put _ (some 143) _ = _
                  simp only [Act.put,sA,sB,sC,i64_w,i32_w]
                  rfl
                 refine pure_ (i:=12) (N:=some 3) (v:=?_) (a':=?_) #[true,true,true,true,true,true,true,true,true,true,true,true,true] rfl rfl (any_of HT_.out (by kernel_rfl)) (fun _ _ _ h => h) (Or.inl ⟨by rfl,?_⟩) ?_ ?_
                 rotate_left
                 ·
                  intro w'
                  go_simp
                  with_reducible rfl
                 rotate_left
                 ·
                  simp only [Act.put,sA,sB,sC,i64_w,i32_w]
                  rfl
                 refine done_ (done_of HT_.out (by kernel_rfl)) ?_
                 try go_wp2
                 go_roundg k2
                 case measure => have:=HK1.out;have:=HK2.out;omega
                 case rel => exact ⟨(y289),(wrap64 (x7_2 + 1)),(by first|rfl|(simp;done)|(simp [*];done)),H',⟨by have:=HK1.out;have:=HK2.out;omega⟩,⟨by (with_reducible repeat (first|apply qd|apply qe|apply qf));exact qn HO291.out (fun _ hk => trivial)⟩,⟨by (with_reducible repeat (first|apply qa|apply qb|apply qc));exact BK183.out⟩,⟨by repeat (first|(with_reducible first|exact HB.out|apply qg|apply qh|apply qi|refine qj ?_ GE183.out|refine qj ?_ GE255.out)|exact HB.out)⟩⟩
                ·
                 rw [if_neg c90] at H
                 exact absurd H (by simp)
               ·
                rw [if_neg c88] at H
                exact absurd H (by simp)
              ·
               rw [if_neg c86] at H
               exact absurd H (by simp)
             ·
              rw [if_neg c84] at H
              exact absurd H (by simp)
            ·
             rw [if_neg c83] at H
             exact absurd H (by simp)
           ·
            rw [if_neg c81] at H
            exact absurd H (by simp)
          ·
           rw [if_neg c80] at H
           exact absurd H (by simp)
         ·
          rw [if_neg c79] at H
          have c79b0 : decide (x7_2 < (l0_3.length : Int)) = false:=decide_eq_false c79
          clear c79
          obtain rfl:=sO H
          have hcz119_0 : wr.cell? ⟨gb183,0,none⟩ = some (.int .i64 a0_0):=(blk_cell BK183.out 0).trans rfl
          have hcz119_1 : wr.cell? ⟨gb183,1,none⟩ = some (.int .i64 a0_1):=(blk_cell BK183.out 1).trans rfl
          have hcz119_2 : wr.cell? ⟨gb183,2,none⟩ = some (.slice A0_2 l0_2.length c0_2):=(blk_cell BK183.out 2).trans rfl
          have hcz119_3 : wr.cell? ⟨gb183,3,none⟩ = some (.slice A0_3 l0_3.length c0_3):=(blk_cell BK183.out 3).trans rfl
          have hfz119_0:=sJ BK183.out 0
          have hfz119_1:=sJ BK183.out 1
          have hfz119_2:=sJ BK183.out 2
          have hfz119_3:=sJ BK183.out 3
          go_wp2
          go_ret
          exact ⟨_,by first|rfl|(simp [errW_none,errW_some] <;> rfl)|(simp [*,errW_none,errW_some] <;> rfl),by (with_reducible repeat (first|apply qd|apply qe|apply qf));exact HO_3.out,by repeat (first|(with_reducible first|exact HB.out|apply qg|apply qh|apply qi|refine qj ?_ GE183.out)|exact HB.out)⟩
      ·
       rw [if_neg c73] at H
       exact absurd H (by simp)
  ·
   rw [if_neg c5] at H
   exact absurd H (by simp)
 ·
  rw [if_neg c4] at H
  exact absurd H (by simp)

end Go.Proofs.Ytjkanhjapddhnaa.PFnExactTableBytes
