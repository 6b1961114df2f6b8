-- squeezed
-- aliased
import Derived.Test.YtjkanhjapddhnaaPFnExactRunRequestsx0
namespace Go.Proofs.Ytjkanhjapddhnaa.PFnExactRunRequests
open Go.RowKit Go.Proofs.YtjkanhjapddhnaaV.PrintWords Go.Proofs.YtjkanhjapddhnaaV.PrintLast Go.Proofs.YtjkanhjapddhnaaV.PrintMore
attribute [local go_sem] max2_int min2_int max_two min_two max_three min_three max_four min_four u8_wm u32_wm   -- for this text's walks alone
set_option linter.unusedVariables false
set_option linter.unusedSimpArgs false
theorem qa4 : type_of% @blk_drewN:=@blk_drewN
theorem qb4 : type_of% @blk_drew:=@blk_drew
theorem qc4 : type_of% @blk_alloc:=@blk_alloc
theorem qd4 : type_of% @Kd.R_alloc:=@Kd.R_alloc
theorem qe4 : type_of% @Kd.R_drewN:=@Kd.R_drewN
theorem qf4 : type_of% @Kd.R_drew:=@Kd.R_drew
theorem qg4 : type_of% @below_alloc:=@below_alloc
theorem qh4 : type_of% @pw_below_drewN:=@pw_below_drewN
theorem qi4 : type_of% @below_drew1:=@below_drew1
theorem qj4 : type_of% @below_set:=@below_set
theorem qk4 : type_of% @Aside0.mk:=@Aside0.mk
theorem ql4 : type_of% @blk_below:=@blk_below
theorem qm4 : type_of% @below_size:=@below_size
def spec_l05Own.l0 : Nat → Int → Int → Int → List (S70) → List (S77) → Int → Int → List (S70) → List (S77) → Option (Int × Int × (List (S70)) × (List (S77)))
 | 0,_,_,_,_,_,_,_,_,_ => none
 | k + 1,x4,x154000,x154001,x154002,x154003,x165000,x165001,x165002,x165003 => if x4 < (x154002.length : Int) then (if 0 ≤ x4 then ((some (([] : List (S73)) : List (S73))).bind fun y167 => (if y167.length + ((rd_T70 x154002 x4).f4).length < 8796093022208 then (if x165002.length < 2199023255552 then (spec_l05Own.l0 k (wrap64 (x4 + 1)) x154000 x154001 x154002 x154003 x165000 x165001 (x165002 ++ [(⟨(rd_T70 x154002 x4).f0,(rd_T70 x154002 x4).f1,(rd_T70 x154002 x4).f2,(rd_T70 x154002 x4).f3,(y167 ++ ((rd_T70 x154002 x4).f4))⟩ : S70)]) x165003) else (none)) else (none))) else (none)) else (some (x165000,x165001,x165002,x165003))
def spec_l05Own.f (k : Nat) (a0_0 : Int) (a0_1 : Int) (l0_2 : List (S70)) (l0_3 : List (S77)) : Option (Int × Int × (List (S70)) × (List (S77))):=(some (([] : List (S77)) : List (S77))).bind fun y158 => (if y158.length + l0_3.length < 2932031007402 then (spec_l05Own.l0 k 0 a0_0 a0_1 l0_2 l0_3 a0_0 a0_1 (([] : List (S70))) (y158 ++ l0_3)) else (none))
def spec_l05Own.T1 : Bool × List (List Nat × List Nat):=(true,[([],[]),([0],[0]),([],[]),([2],[2]),([],[]),([],[]),([],[]),([6],[6]),([5,7],[5,7]),([1,3,4,8],[1,3,4,8]),([],[]),([10,9,8,0,1,2,3,4,5,6,7,8,9,10],[9,10])])
def spec_l05Own.B1 : List Nat:=[0,1,0,4,0,0,0,64,224,511,0,2047]
theorem spec_l05Own.tab1 : rtab .any (opsOf Try.f65 1) = spec_l05Own.T1:=by kernel_rfl
theorem spec_l05Own.bits1 : waitsOk spec_l05Own.T1.2 spec_l05Own.B1 = true:=by kernel_rfl
set_option maxHeartbeats 8000000 in
set_option maxRecDepth 100000 in
theorem spec_l05Own.calls (k : Nat) (a0_0 : Int) (a0_1 : Int) (A0_2 : Option Addr) (c0_2 : Nat) (l0_2 : List (S70)) (A0_3 : Option Addr) (c0_3 : Nat) (l0_3 : List (S77)) (r1 : Int) (r2 : Int) (r3 : List (S70)) (r4 : List (S77)) (w : World) (hr0_2 : Kd.C k70 w A0_2 l0_2.length l0_2) (hc0_2 : l0_2.length ≤ c0_2) (hr0_3 : Kd.C k77 w A0_3 l0_3.length l0_3) (hc0_3 : l0_3.length ≤ c0_3) (h : spec_l05Own.f k a0_0 a0_1 l0_2 l0_3 = some (r1,r2,r3,r4)) :
  Calls Try.prog 65 #[.agg #[.int .i64 a0_0,.int .i64 a0_1,.slice A0_2 l0_2.length c0_2,.slice A0_3 l0_3.length c0_3]] w fun e w' => ∃ v2_ v3_ : Value,e = .returned (.agg #[.int .i64 r1,.int .i64 r2,v2_,v3_]) ∧ Kd.S k70 70 w' w.heap.size (fun _ => True) v2_ r3 ∧ Kd.R k77 77 w' w.heap.size (fun _ => True) v3_ r4 ∧ Below w.heap.size w w':=by
 have hu31:=Try.underlying31
 have hu70:=Try.underlying70
 have HR0_2:=qk4 hr0_2
 have HC0_2:=qk4 hc0_2
 clear hr0_2 hc0_2
 have HR0_3:=qk4 hr0_3
 have HC0_3:=qk4 hc0_3
 clear hr0_3 hc0_3
 have HB:=qk4 (Below.refl w.heap.size w)
 have H : ((some (([] : List (S77)) : List (S77))).bind fun y158 => (if y158.length + l0_3.length < 2932031007402 then (spec_l05Own.l0 k 0 a0_0 a0_1 l0_2 l0_3 a0_0 a0_1 (([] : List (S70))) (y158 ++ l0_3)) else (none))) = some (r1,r2,r3,r4):=h
 clear h
 obtain ⟨y155,hy155⟩ : ∃ y_ : List (S70),y_ = (([] : List (S70))):=⟨_,rfl⟩
 replace H : ((some (([] : List (S77)) : List (S77))).bind fun y158 => (if y158.length + l0_3.length < 2932031007402 then (spec_l05Own.l0 k 0 a0_0 a0_1 l0_2 l0_3 a0_0 a0_1 y155 (y158 ++ l0_3)) else (none))) = some (r1,r2,r3,r4):=by first|(rw [hy155];with_reducible exact H)|(have H2_:=(Option.bind_some _ _).symm.trans H;rw [hy155];with_reducible exact H2_)|(have H2_:=(Option.bind_some _ _).symm.trans H;with_reducible exact H2_)|with_reducible exact H|(rw [hy155];exact H)|exact H
 have Ny155:=qk4 hy155
 clear hy155
 obtain ⟨y158,hy158⟩ : ∃ y_ : List (S77),y_ = (([] : List (S77))):=⟨_,rfl⟩
 replace H : (if y158.length + l0_3.length < 2932031007402 then (spec_l05Own.l0 k 0 a0_0 a0_1 l0_2 l0_3 a0_0 a0_1 y155 (y158 ++ l0_3)) else (none)) = some (r1,r2,r3,r4):=by first|(rw [hy158];with_reducible exact H)|(have H2_:=(Option.bind_some _ _).symm.trans H;rw [hy158];with_reducible exact H2_)|(have H2_:=(Option.bind_some _ _).symm.trans H;with_reducible exact H2_)|with_reducible exact H|(rw [hy158];exact H)|exact H
 have Ny158:=qk4 hy158
 clear hy158
 by_cases c2 : y158.length + l0_3.length < 2932031007402
 ·
  rw [if_pos c2] at H
  have LMc2:=qk4 c2
  clear c2
  obtain ⟨y161,hy161⟩ : ∃ y_ : List (S77),y_ = (y158 ++ l0_3):=⟨_,rfl⟩
  replace H : (spec_l05Own.l0 k 0 a0_0 a0_1 l0_2 l0_3 a0_0 a0_1 y155 y161) = some (r1,r2,r3,r4):=by first|(rw [hy161];with_reducible exact H)|(have H2_:=(Option.bind_some _ _).symm.trans H;rw [hy161];with_reducible exact H2_)|(have H2_:=(Option.bind_some _ _).symm.trans H;with_reducible exact H2_)|with_reducible exact H|(rw [hy161];exact H)|exact H
  have Ny161:=qk4 hy161
  clear hy161
  have H':=qk4 H
  clear H
  go_enter Try.func65,Try.ntmps65
  try go_wp2_with (first|((with_reducible refine gate_dst (N:=1) rfl ?_);refine box_event ?hg (N:=1) ?hd (cs:=#[.int .i64 a0_0,.int .i64 a0_1,.slice A0_2 l0_2.length c0_2,.slice A0_3 l0_3.length c0_3]) (t:=31) ?hr ?_;(case hd => rfl);(case hg => rfl);(case hr => first|(go_simp;done)|(go_simp;rfl));intro gb153 hg w3 hbox hb;have n0_:=qk4 (sN (by repeat (first|(with_reducible first|exact HB.out|apply qg4|apply qh4|apply qi4)|exact HB.out)) hb);have n1_:=qk4 (hbox);have n2_:=qk4 ((by rw [hg];exact (qm4 (by repeat (first|(with_reducible first|exact HB.out|apply qg4|apply qh4|apply qi4)|exact HB.out))) : w.heap.size ≤ gb153));have n3_:=qk4 ((by rw [hg];exact (qm4 (by repeat (first|(with_reducible first|exact HB.out|apply qg4|apply qh4|apply qi4)|exact HB.out))) : w.heap.size ≤ gb153));clear HB;have HB:=n0_;have BK153:=n1_;have GW153:=n2_;have GE153:=n3_;clear n0_ n1_ n2_ n3_;clear hb hbox hg)|((with_reducible refine gate_dst (N:=2) rfl ?_);refine box_event ?hg (N:=2) ?hd (cs:=#[.int .i64 0,.int .i64 0,.slice none 0 0,.slice none 0 0]) (t:=31) ?hr ?_;(case hd => rfl);(case hg => rfl);(case hr => first|(go_simp;done)|(go_simp;rfl));intro gb154 hg w4 hbox hb;have n0_:=qk4 (ql4 (g:=gb153) (o:=.cells #[.int .i64 a0_0,.int .i64 a0_1,.slice A0_2 l0_2.length c0_2,.slice A0_3 l0_3.length c0_3] 31 (0,0)) (by (with_reducible repeat (first|apply qa4|apply qb4|apply qc4));exact BK153.out) hb);have n1_:=qk4 (sN (by repeat (first|(with_reducible first|exact HB.out|apply qg4|apply qh4|apply qi4|refine qj4 ?_ GE153.out)|exact HB.out)) hb);have n2_:=qk4 (hbox);have n3_:=qk4 ((by rw [hg];exact (qm4 (by repeat (first|(with_reducible first|exact HB.out|apply qg4|apply qh4|apply qi4|refine qj4 ?_ GE153.out)|exact HB.out))) : w.heap.size ≤ gb154));have n4_:=qk4 ((by rw [hg];exact (qm4 (by repeat (first|(with_reducible first|exact HB.out|apply qg4|apply qh4|apply qi4|refine qj4 ?_ GE153.out)|exact HB.out))) : w.heap.size ≤ gb154));have n5_:=qk4 ((by rw [hg];exact Nat.ne_of_lt (blk_lt (g:=gb153) (o:=.cells #[.int .i64 a0_0,.int .i64 a0_1,.slice A0_2 l0_2.length c0_2,.slice A0_3 l0_3.length c0_3] 31 (0,0)) (by (with_reducible repeat (first|apply qa4|apply qb4|apply qc4));exact BK153.out)) : gb153 ≠ gb154));have n6_:=qk4 ((by rw [hg];exact Nat.ne_of_gt (blk_lt (g:=gb153) (o:=.cells #[.int .i64 a0_0,.int .i64 a0_1,.slice A0_2 l0_2.length c0_2,.slice A0_3 l0_3.length c0_3] 31 (0,0)) (by (with_reducible repeat (first|apply qa4|apply qb4|apply qc4));exact BK153.out)) : gb154 ≠ gb153));clear BK153;clear HB;have BK153:=n0_;have HB:=n1_;have BK154:=n2_;have GW154:=n3_;have GE154:=n4_;have NB153_154:=n5_;have NB154_153:=n6_;clear n0_ n1_ n2_ n3_ n4_ n5_ n6_;clear hb hbox hg))
  have n0_:=qk4 (qb4 BK153.out)
  have n1_:=qk4 (qb4 BK154.out)
  have n2_:=qk4 (qi4 HB.out)
  clear BK153
  clear BK154
  clear HB
  have BK153:=n0_
  have BK154:=n1_
  have HB:=n2_
  clear n0_ n1_ n2_
  refine start_ (n:=12) (S:=fun w' => w'.cell? ⟨gb153,0,none⟩ = some (.int .i64 a0_0) ∧ w'.cell? ⟨gb153,1,none⟩ = some (.int .i64 a0_1) ∧ w'.cell? ⟨gb153,2,none⟩ = some (.slice A0_2 l0_2.length c0_2) ∧ w'.cell? ⟨gb153,3,none⟩ = some (.slice A0_3 l0_3.length c0_3)) (ds:=[]) #[false,false,false,false,false,false,false,false,false,false,false,false] (by kernel_rfl) rfl rfl ⟨(blk_cell BK153.out 0).trans rfl,(blk_cell BK153.out 1).trans rfl,(blk_cell BK153.out 2).trans rfl,(blk_cell BK153.out 3).trans rfl⟩ (fun hHeld => ?_);refine with_tabW spec_l05Own.tab1 spec_l05Own.bits1 (fun HT_ HW_ => ?_)
  generalize w4.drew = w5 at BK153 BK154 HB hHeld ⊢
  refine pure_ (i:=0) (N:=some 6) (v:=?_) (a':=?_) #[true,false,false,false,false,false,false,false,false,false,false,false] rfl rfl (any_of HT_.out (by kernel_rfl)) (fun _ _ _ h => h) (Or.inl ⟨by rfl,?_⟩) ?_ ?_
  rotate_left
  ·
   intro w'
   go_simp
   with_reducible rfl
  rotate_left
  ·
   simp only [Act.put,sA,sB,sC,i64_w,i32_w]
   rfl
  refine pure_ (i:=2) (N:=some 8) (v:=?_) (a':=?_) #[true,false,true,false,false,false,false,false,false,false,false,false] rfl rfl (any_of HT_.out (by kernel_rfl)) (fun _ _ _ h => h) (Or.inl ⟨by rfl,?_⟩) ?_ ?_
  rotate_left
  ·
   intro w'
   go_simp
   with_reducible rfl
  rotate_left
  ·
   simp only [Act.put,sA,sB,sC,i64_w,i32_w]
   rfl
  refine pure_ (i:=6) (N:=some 12) (v:=?_) (a':=?_) #[true,false,true,false,false,false,true,false,false,false,false,false] rfl rfl (any_of HT_.out (by kernel_rfl)) (fun _ _ _ h => h) (Or.inl ⟨by rfl,?_⟩) ?_ ?_
  rotate_left
  ·
   intro w'
   go_simp
   with_reducible rfl
  rotate_left
  ·
   simp only [Act.put,sA,sB,sC,i64_w,i32_w]
   rfl
  refine take_ (i:=1) (N:=some 7) (v:=?_) (a':=?_) #[true,true,true,false,false,false,true,false,false,false,false,false] rfl rfl (take_ofW HT_.out HW_.out (by kernel_rfl)) (fun _ _ _ h => h) (Or.inl ⟨by rfl,?_⟩) hHeld ?_ ?_
  rotate_left
  ·
   rintro w' ⟨s0,s1,s2,s3⟩
   go_simp
   with_reducible rfl
  rotate_left
  ·
   simp only [Act.put,sA,sB,sC,i64_w,i32_w]
   rfl
  refine take_ (i:=3) (N:=some 9) (v:=?_) (a':=?_) #[true,true,true,true,false,false,true,false,false,false,false,false] rfl rfl (take_ofW HT_.out HW_.out (by kernel_rfl)) (fun _ _ _ h => h) (Or.inl ⟨by rfl,?_⟩) hHeld ?_ ?_
  rotate_left
  ·
   rintro w' ⟨s0,s1,s2,s3⟩
   go_simp
   with_reducible rfl
  rotate_left
  ·
   simp only [Act.put,sA,sB,sC,i64_w,i32_w]
   rfl
  refine take_ (i:=7) (N:=some 13) (v:=?_) (a':=?_) #[true,true,true,true,false,false,true,true,false,false,false,false] rfl rfl (take_ofW HT_.out HW_.out (by kernel_rfl)) (fun _ _ _ h => h) (Or.inl ⟨by rfl,?_⟩) hHeld ?_ ?_
  rotate_left
  ·
   rintro w' ⟨s0,s1,s2,s3⟩
   go_simp
   with_reducible rfl
  rotate_left
  ·
   simp only [Act.put,sA,sB,sC,i64_w,i32_w]
   rfl
  refine join_ (σ:=Value × Value × Value × Nat) 1 #[true,true,true,true,true,true,true,true,true,true,true,false] (fun s_ => [(10,s_.1),(11,s_.2.1),(14,s_.2.2.1),(3,.pointer (some ⟨s_.2.2.2,0,none⟩)),(15,.agg #[.int .i64 a0_0,.int .i64 a0_1,s_.1,s_.2.2.1])]) (fun s_ w' => (w'.cell? ⟨gb153,0,none⟩ = some (.int .i64 a0_0) ∧ w'.cell? ⟨gb153,1,none⟩ = some (.int .i64 a0_1) ∧ w'.cell? ⟨gb153,2,none⟩ = some (.slice A0_2 l0_2.length c0_2) ∧ w'.cell? ⟨gb153,3,none⟩ = some (.slice A0_3 l0_3.length c0_3)) ∧ (Kd.S k70 70 w' w.heap.size (fun _ => True) s_.1 y155) ∧ (Kd.R k77 77 w' w.heap.size (fun _ => True) s_.2.2.1 y161) ∧ (w'.heap[gb153]? = some (.cells #[.int .i64 a0_0,.int .i64 a0_1,.slice A0_2 l0_2.length c0_2,.slice A0_3 l0_3.length c0_3] 31 (0,0))) ∧ (w'.heap[gb154]? = some (.cells #[.int .i64 0,.int .i64 0,.slice none 0 0,.slice none 0 0] 31 (0,0))) ∧ (w'.heap[s_.2.2.2]? = some (.cells #[.int .i64 0,.int .i64 0,.slice none 0 0,.slice none 0 0] 31 (0,0))) ∧ (w.heap.size ≤ s_.2.2.2) ∧ (w.heap.size ≤ s_.2.2.2) ∧ (gb153 ≠ s_.2.2.2) ∧ (s_.2.2.2 ≠ gb153) ∧ (gb154 ≠ s_.2.2.2) ∧ (s_.2.2.2 ≠ gb154) ∧ (Below w.heap.size w w')) ?_ ?_
  rotate_left
  ·
   intro hJ4_5_8_10
   refine join_ (σ:=Value × Value × Value) 2 #[true,true,true,true,true,true,true,true,true,true,false,false] (fun s_ => [(10,s_.1),(11,s_.2.1),(14,s_.2.2),(15,.agg #[.int .i64 a0_0,.int .i64 a0_1,s_.1,s_.2.2])]) (fun s_ w' => (w'.cell? ⟨gb153,0,none⟩ = some (.int .i64 a0_0) ∧ w'.cell? ⟨gb153,1,none⟩ = some (.int .i64 a0_1) ∧ w'.cell? ⟨gb153,2,none⟩ = some (.slice A0_2 l0_2.length c0_2) ∧ w'.cell? ⟨gb153,3,none⟩ = some (.slice A0_3 l0_3.length c0_3)) ∧ (Kd.S k70 70 w' w.heap.size (fun _ => True) s_.1 y155) ∧ (Kd.R k77 77 w' w.heap.size (fun _ => True) s_.2.2 y161) ∧ (w'.heap[gb153]? = some (.cells #[.int .i64 a0_0,.int .i64 a0_1,.slice A0_2 l0_2.length c0_2,.slice A0_3 l0_3.length c0_3] 31 (0,0))) ∧ (w'.heap[gb154]? = some (.cells #[.int .i64 0,.int .i64 0,.slice none 0 0,.slice none 0 0] 31 (0,0))) ∧ (Below w.heap.size w w')) ?_ ?_
   rotate_left
   ·
    intro hJ4_5_8
    refine join_ (σ:=Value × Value × Nat) 3 #[true,true,true,true,true,true,true,true,false,false,true,false] (fun s_ => [(10,s_.1),(11,s_.2.1),(3,.pointer (some ⟨s_.2.2,0,none⟩))]) (fun s_ w' => (w'.cell? ⟨gb153,0,none⟩ = some (.int .i64 a0_0) ∧ w'.cell? ⟨gb153,1,none⟩ = some (.int .i64 a0_1) ∧ w'.cell? ⟨gb153,2,none⟩ = some (.slice A0_2 l0_2.length c0_2) ∧ w'.cell? ⟨gb153,3,none⟩ = some (.slice A0_3 l0_3.length c0_3)) ∧ (Kd.S k70 70 w' w.heap.size (fun _ => True) s_.1 y155) ∧ (Kd.R k77 77 w' w.heap.size (fun _ => True) s_.2.1 y158) ∧ (w'.heap[gb153]? = some (.cells #[.int .i64 a0_0,.int .i64 a0_1,.slice A0_2 l0_2.length c0_2,.slice A0_3 l0_3.length c0_3] 31 (0,0))) ∧ (w'.heap[gb154]? = some (.cells #[.int .i64 0,.int .i64 0,.slice none 0 0,.slice none 0 0] 31 (0,0))) ∧ (w'.heap[s_.2.2]? = some (.cells #[.int .i64 0,.int .i64 0,.slice none 0 0,.slice none 0 0] 31 (0,0))) ∧ (w.heap.size ≤ s_.2.2) ∧ (w.heap.size ≤ s_.2.2) ∧ (gb153 ≠ s_.2.2) ∧ (s_.2.2 ≠ gb153) ∧ (gb154 ≠ s_.2.2) ∧ (s_.2.2 ≠ gb154) ∧ (Below w.heap.size w w')) ?_ ?_
    rotate_left
    ·
     intro hJ4_5_10
     refine join_ (σ:=Value × Value × Nat) 3 #[true,true,true,true,false,true,true,true,true,false,true,false] (fun s_ => [(11,s_.1),(14,s_.2.1),(3,.pointer (some ⟨s_.2.2,0,none⟩))]) (fun s_ w' => (w'.cell? ⟨gb153,0,none⟩ = some (.int .i64 a0_0) ∧ w'.cell? ⟨gb153,1,none⟩ = some (.int .i64 a0_1) ∧ w'.cell? ⟨gb153,2,none⟩ = some (.slice A0_2 l0_2.length c0_2) ∧ w'.cell? ⟨gb153,3,none⟩ = some (.slice A0_3 l0_3.length c0_3)) ∧ (Kd.R k77 77 w' w.heap.size (fun _ => True) s_.2.1 y161) ∧ (w'.heap[gb153]? = some (.cells #[.int .i64 a0_0,.int .i64 a0_1,.slice A0_2 l0_2.length c0_2,.slice A0_3 l0_3.length c0_3] 31 (0,0))) ∧ (w'.heap[gb154]? = some (.cells #[.int .i64 0,.int .i64 0,.slice none 0 0,.slice none 0 0] 31 (0,0))) ∧ (w'.heap[s_.2.2]? = some (.cells #[.int .i64 0,.int .i64 0,.slice none 0 0,.slice none 0 0] 31 (0,0))) ∧ (w.heap.size ≤ s_.2.2) ∧ (w.heap.size ≤ s_.2.2) ∧ (gb153 ≠ s_.2.2) ∧ (s_.2.2 ≠ gb153) ∧ (gb154 ≠ s_.2.2) ∧ (s_.2.2 ≠ gb154) ∧ (Below w.heap.size w w')) ?_ ?_
     rotate_left
     ·
      intro hJ5_8_10
      refine join_ (σ:=Value × Value) 4 #[true,true,true,true,true,true,true,true,false,false,false,false] (fun s_ => [(10,s_.1),(11,s_.2)]) (fun s_ w' => (w'.cell? ⟨gb153,0,none⟩ = some (.int .i64 a0_0) ∧ w'.cell? ⟨gb153,1,none⟩ = some (.int .i64 a0_1) ∧ w'.cell? ⟨gb153,2,none⟩ = some (.slice A0_2 l0_2.length c0_2) ∧ w'.cell? ⟨gb153,3,none⟩ = some (.slice A0_3 l0_3.length c0_3)) ∧ (Kd.S k70 70 w' w.heap.size (fun _ => True) s_.1 y155) ∧ (Kd.R k77 77 w' w.heap.size (fun _ => True) s_.2 y158) ∧ (w'.heap[gb153]? = some (.cells #[.int .i64 a0_0,.int .i64 a0_1,.slice A0_2 l0_2.length c0_2,.slice A0_3 l0_3.length c0_3] 31 (0,0))) ∧ (w'.heap[gb154]? = some (.cells #[.int .i64 0,.int .i64 0,.slice none 0 0,.slice none 0 0] 31 (0,0))) ∧ (Below w.heap.size w w')) ?_ ?_
      rotate_left
      ·
       intro hJ4_5
       refine join_ (σ:=Value × Nat) 4 #[true,true,true,true,true,false,true,true,false,false,true,false] (fun s_ => [(10,s_.1),(3,.pointer (some ⟨s_.2,0,none⟩))]) (fun s_ w' => (w'.cell? ⟨gb153,0,none⟩ = some (.int .i64 a0_0) ∧ w'.cell? ⟨gb153,1,none⟩ = some (.int .i64 a0_1) ∧ w'.cell? ⟨gb153,2,none⟩ = some (.slice A0_2 l0_2.length c0_2) ∧ w'.cell? ⟨gb153,3,none⟩ = some (.slice A0_3 l0_3.length c0_3)) ∧ (Kd.S k70 70 w' w.heap.size (fun _ => True) s_.1 y155) ∧ (w'.heap[gb153]? = some (.cells #[.int .i64 a0_0,.int .i64 a0_1,.slice A0_2 l0_2.length c0_2,.slice A0_3 l0_3.length c0_3] 31 (0,0))) ∧ (w'.heap[gb154]? = some (.cells #[.int .i64 0,.int .i64 0,.slice none 0 0,.slice none 0 0] 31 (0,0))) ∧ (w'.heap[s_.2]? = some (.cells #[.int .i64 0,.int .i64 0,.slice none 0 0,.slice none 0 0] 31 (0,0))) ∧ (w.heap.size ≤ s_.2) ∧ (w.heap.size ≤ s_.2) ∧ (gb153 ≠ s_.2) ∧ (s_.2 ≠ gb153) ∧ (gb154 ≠ s_.2) ∧ (s_.2 ≠ gb154) ∧ (Below w.heap.size w w')) ?_ ?_
       rotate_left
       ·
        intro hJ4_10
        refine join_ (σ:=Value × Value) 4 #[true,true,true,true,false,true,true,true,true,false,false,false] (fun s_ => [(11,s_.1),(14,s_.2)]) (fun s_ w' => (w'.cell? ⟨gb153,0,none⟩ = some (.int .i64 a0_0) ∧ w'.cell? ⟨gb153,1,none⟩ = some (.int .i64 a0_1) ∧ w'.cell? ⟨gb153,2,none⟩ = some (.slice A0_2 l0_2.length c0_2) ∧ w'.cell? ⟨gb153,3,none⟩ = some (.slice A0_3 l0_3.length c0_3)) ∧ (Kd.R k77 77 w' w.heap.size (fun _ => True) s_.2 y161) ∧ (w'.heap[gb153]? = some (.cells #[.int .i64 a0_0,.int .i64 a0_1,.slice A0_2 l0_2.length c0_2,.slice A0_3 l0_3.length c0_3] 31 (0,0))) ∧ (w'.heap[gb154]? = some (.cells #[.int .i64 0,.int .i64 0,.slice none 0 0,.slice none 0 0] 31 (0,0))) ∧ (Below w.heap.size w w')) ?_ ?_
        rotate_left
        ·
         intro hJ5_8
         refine join_ (σ:=Value × Nat) 4 #[true,true,true,true,false,true,true,true,false,false,true,false] (fun s_ => [(11,s_.1),(3,.pointer (some ⟨s_.2,0,none⟩))]) (fun s_ w' => (w'.cell? ⟨gb153,0,none⟩ = some (.int .i64 a0_0) ∧ w'.cell? ⟨gb153,1,none⟩ = some (.int .i64 a0_1) ∧ w'.cell? ⟨gb153,2,none⟩ = some (.slice A0_2 l0_2.length c0_2) ∧ w'.cell? ⟨gb153,3,none⟩ = some (.slice A0_3 l0_3.length c0_3)) ∧ (Kd.R k77 77 w' w.heap.size (fun _ => True) s_.1 y158) ∧ (w'.heap[gb153]? = some (.cells #[.int .i64 a0_0,.int .i64 a0_1,.slice A0_2 l0_2.length c0_2,.slice A0_3 l0_3.length c0_3] 31 (0,0))) ∧ (w'.heap[gb154]? = some (.cells #[.int .i64 0,.int .i64 0,.slice none 0 0,.slice none 0 0] 31 (0,0))) ∧ (w'.heap[s_.2]? = some (.cells #[.int .i64 0,.int .i64 0,.slice none 0 0,.slice none 0 0] 31 (0,0))) ∧ (w.heap.size ≤ s_.2) ∧ (w.heap.size ≤ s_.2) ∧ (gb153 ≠ s_.2) ∧ (s_.2 ≠ gb153) ∧ (gb154 ≠ s_.2) ∧ (s_.2 ≠ gb154) ∧ (Below w.heap.size w w')) ?_ ?_
         rotate_left
         ·
          intro hJ5_10
          refine join_ (σ:=Value) 5 #[true,true,true,true,true,false,true,true,false,false,false,false] (fun s_ => [(10,s_)]) (fun s_ w' => (w'.cell? ⟨gb153,0,none⟩ = some (.int .i64 a0_0) ∧ w'.cell? ⟨gb153,1,none⟩ = some (.int .i64 a0_1) ∧ w'.cell? ⟨gb153,2,none⟩ = some (.slice A0_2 l0_2.length c0_2) ∧ w'.cell? ⟨gb153,3,none⟩ = some (.slice A0_3 l0_3.length c0_3)) ∧ (Kd.S k70 70 w' w.heap.size (fun _ => True) s_ y155) ∧ (w'.heap[gb153]? = some (.cells #[.int .i64 a0_0,.int .i64 a0_1,.slice A0_2 l0_2.length c0_2,.slice A0_3 l0_3.length c0_3] 31 (0,0))) ∧ (w'.heap[gb154]? = some (.cells #[.int .i64 0,.int .i64 0,.slice none 0 0,.slice none 0 0] 31 (0,0))) ∧ (Below w.heap.size w w')) ?_ ?_
          rotate_left
          ·
           intro hJ4
           refine join_ (σ:=Value) 5 #[true,true,true,true,false,true,true,true,false,false,false,false] (fun s_ => [(11,s_)]) (fun s_ w' => (w'.cell? ⟨gb153,0,none⟩ = some (.int .i64 a0_0) ∧ w'.cell? ⟨gb153,1,none⟩ = some (.int .i64 a0_1) ∧ w'.cell? ⟨gb153,2,none⟩ = some (.slice A0_2 l0_2.length c0_2) ∧ w'.cell? ⟨gb153,3,none⟩ = some (.slice A0_3 l0_3.length c0_3)) ∧ (Kd.R k77 77 w' w.heap.size (fun _ => True) s_ y158) ∧ (w'.heap[gb153]? = some (.cells #[.int .i64 a0_0,.int .i64 a0_1,.slice A0_2 l0_2.length c0_2,.slice A0_3 l0_3.length c0_3] 31 (0,0))) ∧ (w'.heap[gb154]? = some (.cells #[.int .i64 0,.int .i64 0,.slice none 0 0,.slice none 0 0] 31 (0,0))) ∧ (Below w.heap.size w w')) ?_ ?_
           rotate_left
           ·
            intro hJ5
            refine join_ (σ:=Nat) 5 #[true,true,true,true,false,false,true,true,false,false,true,false] (fun s_ => [(3,.pointer (some ⟨s_,0,none⟩))]) (fun s_ w' => (w'.cell? ⟨gb153,0,none⟩ = some (.int .i64 a0_0) ∧ w'.cell? ⟨gb153,1,none⟩ = some (.int .i64 a0_1) ∧ w'.cell? ⟨gb153,2,none⟩ = some (.slice A0_2 l0_2.length c0_2) ∧ w'.cell? ⟨gb153,3,none⟩ = some (.slice A0_3 l0_3.length c0_3)) ∧ (w'.heap[gb153]? = some (.cells #[.int .i64 a0_0,.int .i64 a0_1,.slice A0_2 l0_2.length c0_2,.slice A0_3 l0_3.length c0_3] 31 (0,0))) ∧ (w'.heap[gb154]? = some (.cells #[.int .i64 0,.int .i64 0,.slice none 0 0,.slice none 0 0] 31 (0,0))) ∧ (w'.heap[s_]? = some (.cells #[.int .i64 0,.int .i64 0,.slice none 0 0,.slice none 0 0] 31 (0,0))) ∧ (w.heap.size ≤ s_) ∧ (w.heap.size ≤ s_) ∧ (gb153 ≠ s_) ∧ (s_ ≠ gb153) ∧ (gb154 ≠ s_) ∧ (s_ ≠ gb154) ∧ (Below w.heap.size w w')) ?_ ?_
            rotate_left
            ·
             intro hJ10
             refine three_ (i:=4) (j:=5) (k:=10) (Ni:=some 10) (Nj:=some 11) (Nk:=some 3) #[true,true,true,true,true,false,true,true,false,false,false,false] #[true,true,true,true,false,true,true,true,false,false,false,false] #[true,true,true,true,false,false,true,true,false,false,true,false] rfl rfl rfl rfl rfl rfl (three_of HT_.out (by kernel_rfl)) (by decide) (by decide) (by decide) (fun K hK => ?_) (fun K hK => ?_) (fun K hK => ?_)
             ·
              skip
              refine Kd.S_lit_step k70 _ 70 ?hg (N:=10) ?hd (xs:=([] : List (S70))) (inner:=[]) (ok:=fun _ => True) (okp:=fun _ => True) ?hr ?hp (fun _ hk => hk) trivial (Below.refl _ _) (Nat.le_refl _) (by simp) ?_;(case hd => rfl);(case hg => rfl);(case hr => first|(go_simp;done)|(go_simp;rfl));(case hp => exact (Reps.none _ _))
              intro v156 w6 ho7 hb hg_ hnew_
              clear hg_ hnew_
              (first|rw [← Ny155.out] at ho7|(simp only [Int.reduceToNat] at ho7;rw [← Ny155.out] at ho7))
              have n0_:=qk4 (Kd.S_lower ho7 (qm4 (by repeat (first|(with_reducible first|exact HB.out|apply qg4|apply qh4|apply qi4|refine qj4 ?_ GE153.out|refine qj4 ?_ GE154.out)|exact HB.out))))
              have n1_:=qk4 (ql4 (g:=gb153) (o:=.cells #[.int .i64 a0_0,.int .i64 a0_1,.slice A0_2 l0_2.length c0_2,.slice A0_3 l0_3.length c0_3] 31 (0,0)) (by (with_reducible repeat (first|apply qa4|apply qb4|apply qc4));exact BK153.out) hb)
              have n2_:=qk4 (ql4 (g:=gb154) (o:=.cells #[.int .i64 0,.int .i64 0,.slice none 0 0,.slice none 0 0] 31 (0,0)) (by (with_reducible repeat (first|apply qa4|apply qb4|apply qc4));exact BK154.out) hb)
              have n3_:=qk4 (sN (by repeat (first|(with_reducible first|exact HB.out|apply qg4|apply qh4|apply qi4|refine qj4 ?_ GE153.out|refine qj4 ?_ GE154.out)|exact HB.out)) hb)
              clear BK153
              clear BK154
              clear HB
              have HO157:=n0_
              have BK153:=n1_
              have BK154:=n2_
              have HB:=n3_
              clear n0_ n1_ n2_ n3_
              clear hb ho7
              refine hK.out _ _ ⟨(blk_cell BK153.out 0).trans rfl,(blk_cell BK153.out 1).trans rfl,(blk_cell BK153.out 2).trans rfl,(blk_cell BK153.out 3).trans rfl⟩ (fun hHeld => ?_)
              clear hK K
              refine norm_ (a':=?_) ?_ ?_
              rotate_left
              ·
               show Act.put _ (some 10) _ = _
               simp only [Act.put,sA,sB,sC,i64_w,i32_w]
               rfl
              exact norm_ (by first|(simp only [putAll,Act.put,sA,sB,sC];done)|(simp only [putAll,Act.put,sA,sB,sC];rfl)) (hJ4 (v156) _ ⟨hHeld,(by (with_reducible repeat (first|apply Kd.S_alloc|apply Kd.S_drewN|apply Kd.S_drew));exact HO157.out),(by (with_reducible repeat (first|apply qa4|apply qb4|apply qc4));exact BK153.out),(by (with_reducible repeat (first|apply qa4|apply qb4|apply qc4));exact BK154.out),(by repeat (first|(with_reducible first|exact HB.out|apply qg4|apply qh4|apply qi4|refine qj4 ?_ GE153.out|refine qj4 ?_ GE154.out)|exact HB.out))⟩)
             ·
              skip
              refine Kd.R_lit_step k77 _ 77 ?hg (N:=11) ?hd (xs:=([] : List (S77))) (inner:=[]) (ok:=fun _ => True) (okp:=fun _ => True) ?hr ?hp (fun _ hk => hk) trivial (Below.refl _ _) (Nat.le_refl _) (by simp) ?_;(case hd => rfl);(case hg => rfl);(case hr => first|(go_simp;done)|(go_simp;rfl));(case hp => exact (Reps.none _ _))
              intro v159 w6 ho7 hb hg_ hnew_
              clear hg_ hnew_
              (first|rw [← Ny158.out] at ho7|(simp only [Int.reduceToNat] at ho7;rw [← Ny158.out] at ho7))
              have n0_:=qk4 (Kd.R_lower ho7 (qm4 (by repeat (first|(with_reducible first|exact HB.out|apply qg4|apply qh4|apply qi4|refine qj4 ?_ GE153.out|refine qj4 ?_ GE154.out)|exact HB.out))))
              have n1_:=qk4 (ql4 (g:=gb153) (o:=.cells #[.int .i64 a0_0,.int .i64 a0_1,.slice A0_2 l0_2.length c0_2,.slice A0_3 l0_3.length c0_3] 31 (0,0)) (by (with_reducible repeat (first|apply qa4|apply qb4|apply qc4));exact BK153.out) hb)
              have n2_:=qk4 (ql4 (g:=gb154) (o:=.cells #[.int .i64 0,.int .i64 0,.slice none 0 0,.slice none 0 0] 31 (0,0)) (by (with_reducible repeat (first|apply qa4|apply qb4|apply qc4));exact BK154.out) hb)
              have n3_:=qk4 (sN (by repeat (first|(with_reducible first|exact HB.out|apply qg4|apply qh4|apply qi4|refine qj4 ?_ GE153.out|refine qj4 ?_ GE154.out)|exact HB.out)) hb)
              clear BK153
              clear BK154
              clear HB
              have HO160:=n0_
              have BK153:=n1_
              have BK154:=n2_
              have HB:=n3_
              clear n0_ n1_ n2_ n3_
              clear hb ho7
              refine hK.out _ _ ⟨(blk_cell BK153.out 0).trans rfl,(blk_cell BK153.out 1).trans rfl,(blk_cell BK153.out 2).trans rfl,(blk_cell BK153.out 3).trans rfl⟩ (fun hHeld => ?_)
              clear hK K
              refine norm_ (a':=?_) ?_ ?_
              rotate_left
              ·
               show Act.put _ (some 11) _ = _
               simp only [Act.put,sA,sB,sC,i64_w,i32_w]
               rfl
              exact norm_ (by first|(simp only [putAll,Act.put,sA,sB,sC];done)|(simp only [putAll,Act.put,sA,sB,sC];rfl)) (hJ5 (v159) _ ⟨hHeld,(by (with_reducible repeat (first|apply qd4|apply qe4|apply qf4));exact HO160.out),(by (with_reducible repeat (first|apply qa4|apply qb4|apply qc4));exact BK153.out),(by (with_reducible repeat (first|apply qa4|apply qb4|apply qc4));exact BK154.out),(by repeat (first|(with_reducible first|exact HB.out|apply qg4|apply qh4|apply qi4|refine qj4 ?_ GE153.out|refine qj4 ?_ GE154.out)|exact HB.out))⟩)
             ·
              skip
              refine box_step ?hg (N:=3) ?hd (cs:=#[.int .i64 0,.int .i64 0,.slice none 0 0,.slice none 0 0]) (t:=31) ?hr ?_;(case hd => rfl);(case hg => rfl);(case hr => first|(go_simp;done)|(go_simp;rfl))
              intro gb164 hg w6 hbox hb
              have n0_:=qk4 (ql4 (g:=gb153) (o:=.cells #[.int .i64 a0_0,.int .i64 a0_1,.slice A0_2 l0_2.length c0_2,.slice A0_3 l0_3.length c0_3] 31 (0,0)) (by (with_reducible repeat (first|apply qa4|apply qb4|apply qc4));exact BK153.out) hb)
              have n1_:=qk4 (ql4 (g:=gb154) (o:=.cells #[.int .i64 0,.int .i64 0,.slice none 0 0,.slice none 0 0] 31 (0,0)) (by (with_reducible repeat (first|apply qa4|apply qb4|apply qc4));exact BK154.out) hb)
              have n2_:=qk4 (sN (by repeat (first|(with_reducible first|exact HB.out|apply qg4|apply qh4|apply qi4|refine qj4 ?_ GE153.out|refine qj4 ?_ GE154.out)|exact HB.out)) hb)
              have n3_:=qk4 (hbox)
              have n4_:=qk4 ((by rw [hg];exact (qm4 (by repeat (first|(with_reducible first|exact HB.out|apply qg4|apply qh4|apply qi4|refine qj4 ?_ GE153.out|refine qj4 ?_ GE154.out)|exact HB.out))) : w.heap.size ≤ gb164))
              have n5_:=qk4 ((by rw [hg];exact (qm4 (by repeat (first|(with_reducible first|exact HB.out|apply qg4|apply qh4|apply qi4|refine qj4 ?_ GE153.out|refine qj4 ?_ GE154.out)|exact HB.out))) : w.heap.size ≤ gb164))
              have n6_:=qk4 ((by rw [hg];exact Nat.ne_of_lt (blk_lt (g:=gb153) (o:=.cells #[.int .i64 a0_0,.int .i64 a0_1,.slice A0_2 l0_2.length c0_2,.slice A0_3 l0_3.length c0_3] 31 (0,0)) (by (with_reducible repeat (first|apply qa4|apply qb4|apply qc4));exact BK153.out)) : gb153 ≠ gb164))
              have n7_:=qk4 ((by rw [hg];exact Nat.ne_of_gt (blk_lt (g:=gb153) (o:=.cells #[.int .i64 a0_0,.int .i64 a0_1,.slice A0_2 l0_2.length c0_2,.slice A0_3 l0_3.length c0_3] 31 (0,0)) (by (with_reducible repeat (first|apply qa4|apply qb4|apply qc4));exact BK153.out)) : gb164 ≠ gb153))
              have n8_:=qk4 ((by rw [hg];exact Nat.ne_of_lt (blk_lt (g:=gb154) (o:=.cells #[.int .i64 0,.int .i64 0,.slice none 0 0,.slice none 0 0] 31 (0,0)) (by (with_reducible repeat (first|apply qa4|apply qb4|apply qc4));exact BK154.out)) : gb154 ≠ gb164))
              have n9_:=qk4 ((by rw [hg];exact Nat.ne_of_gt (blk_lt (g:=gb154) (o:=.cells #[.int .i64 0,.int .i64 0,.slice none 0 0,.slice none 0 0] 31 (0,0)) (by (with_reducible repeat (first|apply qa4|apply qb4|apply qc4));exact BK154.out)) : gb164 ≠ gb154))
              clear BK153
              clear BK154
              clear HB
              have BK153:=n0_
              have BK154:=n1_
              have HB:=n2_
              have BK164:=n3_
              have GW164:=n4_
              have GE164:=n5_
              have NB153_164:=n6_
              have NB164_153:=n7_
              have NB154_164:=n8_
              have NB164_154:=n9_
              clear n0_ n1_ n2_ n3_ n4_ n5_ n6_ n7_ n8_ n9_
              clear hb hbox hg
              refine hK.out _ _ ⟨(blk_cell BK153.out 0).trans rfl,(blk_cell BK153.out 1).trans rfl,(blk_cell BK153.out 2).trans rfl,(blk_cell BK153.out 3).trans rfl⟩ (fun hHeld => ?_)
              clear hK K
              refine norm_ (a':=?_) ?_ ?_
              rotate_left
              ·
               show Act.put _ (some 3) _ = _
               simp only [Act.put,sA,sB,sC,i64_w,i32_w]
               rfl
              exact norm_ (by first|(simp only [putAll,Act.put,sA,sB,sC];done)|(simp only [putAll,Act.put,sA,sB,sC];rfl)) (hJ10 (gb164) _ ⟨hHeld,(by (with_reducible repeat (first|apply qa4|apply qb4|apply qc4));exact BK153.out),(by (with_reducible repeat (first|apply qa4|apply qb4|apply qc4));exact BK154.out),(by (with_reducible repeat (first|apply qa4|apply qb4|apply qc4));exact BK164.out),GW164.out,GE164.out,NB153_164.out,NB164_153.out,NB154_164.out,NB164_154.out,(by repeat (first|(with_reducible first|exact HB.out|apply qg4|apply qh4|apply qi4|refine qj4 ?_ GE153.out|refine qj4 ?_ GE154.out|refine qj4 ?_ GE164.out)|exact HB.out))⟩)
            ·
             skip
             rintro gb164 w7 ⟨hS_,h0_,h1_,h2_,h3_,h4_,h5_,h6_,h7_,h8_,h9_⟩
             have n0_ : Aside0 (w7.heap[gb153]? = some (.cells #[.int .i64 a0_0,.int .i64 a0_1,.slice A0_2 l0_2.length c0_2,.slice A0_3 l0_3.length c0_3] 31 (0,0))):=⟨h0_⟩
             have n1_ : Aside0 (w7.heap[gb154]? = some (.cells #[.int .i64 0,.int .i64 0,.slice none 0 0,.slice none 0 0] 31 (0,0))):=⟨h1_⟩
             have n2_ : Aside0 (w7.heap[gb164]? = some (.cells #[.int .i64 0,.int .i64 0,.slice none 0 0,.slice none 0 0] 31 (0,0))):=⟨h2_⟩
             have n3_ : Aside0 (w.heap.size ≤ gb164):=⟨h3_⟩
             have n4_ : Aside0 (w.heap.size ≤ gb164):=⟨h4_⟩
             have n5_ : Aside0 (gb153 ≠ gb164):=⟨h5_⟩
             have n6_ : Aside0 (gb164 ≠ gb153):=⟨h6_⟩
             have n7_ : Aside0 (gb154 ≠ gb164):=⟨h7_⟩
             have n8_ : Aside0 (gb164 ≠ gb154):=⟨h8_⟩
             have n9_ : Aside0 (Below w.heap.size w w7):=⟨h9_⟩
             clear BK153
             clear BK154
             clear HB
             clear h0_ h1_ h2_ h3_ h4_ h5_ h6_ h7_ h8_ h9_
             have BK153:=n0_
             have BK154:=n1_
             have BK164:=n2_
             have GW164:=n3_
             have GE164:=n4_
             have NB153_164:=n5_
             have NB164_153:=n6_
             have NB154_164:=n7_
             have NB164_154:=n8_
             have HB:=n9_
             clear n0_ n1_ n2_ n3_ n4_ n5_ n6_ n7_ n8_ n9_
             have hHeld : w7.cell? ⟨gb153,0,none⟩ = some (.int .i64 a0_0) ∧ w7.cell? ⟨gb153,1,none⟩ = some (.int .i64 a0_1) ∧ w7.cell? ⟨gb153,2,none⟩ = some (.slice A0_2 l0_2.length c0_2) ∧ w7.cell? ⟨gb153,3,none⟩ = some (.slice A0_3 l0_3.length c0_3):=hS_
             refine norm_ (a':=?_) ?_ ?_
             rotate_left
             ·
              simp only [putAll,Act.put,sA,sB,sC]
              rfl
             refine two_ (i:=4) (j:=5) (Ni:=some 10) (Nj:=some 11) #[true,true,true,true,true,false,true,true,false,false,true,false] #[true,true,true,true,false,true,true,true,false,false,true,false] rfl rfl rfl rfl (two_of HT_.out (by kernel_rfl)) (by decide) (by decide) (fun K hK => ?_) (fun K hK => ?_)
             ·
              skip
              refine Kd.S_lit_step k70 _ 70 ?hg (N:=10) ?hd (xs:=([] : List (S70))) (inner:=[]) (ok:=fun _ => True) (okp:=fun _ => True) ?hr ?hp (fun _ hk => hk) trivial (Below.refl _ _) (Nat.le_refl _) (by simp) ?_;(case hd => rfl);(case hg => rfl);(case hr => first|(go_simp;done)|(go_simp;rfl));(case hp => exact (Reps.none _ _))
              intro v156 w8 ho9 hb hg_ hnew_
              clear hg_ hnew_
              (first|rw [← Ny155.out] at ho9|(simp only [Int.reduceToNat] at ho9;rw [← Ny155.out] at ho9))
              have n0_:=qk4 (Kd.S_lower ho9 (qm4 (by repeat (first|(with_reducible first|exact HB.out|apply qg4|apply qh4|apply qi4|refine qj4 ?_ GE153.out|refine qj4 ?_ GE154.out|refine qj4 ?_ GE164.out)|exact HB.out))))
              have n1_:=qk4 (ql4 (g:=gb153) (o:=.cells #[.int .i64 a0_0,.int .i64 a0_1,.slice A0_2 l0_2.length c0_2,.slice A0_3 l0_3.length c0_3] 31 (0,0)) (by (with_reducible repeat (first|apply qa4|apply qb4|apply qc4));exact BK153.out) hb)
              have n2_:=qk4 (ql4 (g:=gb154) (o:=.cells #[.int .i64 0,.int .i64 0,.slice none 0 0,.slice none 0 0] 31 (0,0)) (by (with_reducible repeat (first|apply qa4|apply qb4|apply qc4));exact BK154.out) hb)
              have n3_:=qk4 (ql4 (g:=gb164) (o:=.cells #[.int .i64 0,.int .i64 0,.slice none 0 0,.slice none 0 0] 31 (0,0)) (by (with_reducible repeat (first|apply qa4|apply qb4|apply qc4));exact BK164.out) hb)
              have n4_:=qk4 (sN (by repeat (first|(with_reducible first|exact HB.out|apply qg4|apply qh4|apply qi4|refine qj4 ?_ GE153.out|refine qj4 ?_ GE154.out|refine qj4 ?_ GE164.out)|exact HB.out)) hb)
              clear BK153
              clear BK154
              clear BK164
              clear HB
              have HO157:=n0_
              have BK153:=n1_
              have BK154:=n2_
              have BK164:=n3_
              have HB:=n4_
              clear n0_ n1_ n2_ n3_ n4_
              clear hb ho9
              refine hK.out _ _ ⟨(blk_cell BK153.out 0).trans rfl,(blk_cell BK153.out 1).trans rfl,(blk_cell BK153.out 2).trans rfl,(blk_cell BK153.out 3).trans rfl⟩ (fun hHeld => ?_)
              clear hK K
              refine norm_ (a':=?_) ?_ ?_
              rotate_left
              ·
               show Act.put _ (some 10) _ = _
               simp only [Act.put,sA,sB,sC,i64_w,i32_w]
               rfl
              exact norm_ (by first|(simp only [putAll,Act.put,sA,sB,sC];done)|(simp only [putAll,Act.put,sA,sB,sC];rfl)) (hJ4_10 (v156,gb164) _ ⟨hHeld,(by (with_reducible repeat (first|apply Kd.S_alloc|apply Kd.S_drewN|apply Kd.S_drew));exact HO157.out),(by (with_reducible repeat (first|apply qa4|apply qb4|apply qc4));exact BK153.out),(by (with_reducible repeat (first|apply qa4|apply qb4|apply qc4));exact BK154.out),(by (with_reducible repeat (first|apply qa4|apply qb4|apply qc4));exact BK164.out),GW164.out,GE164.out,NB153_164.out,NB164_153.out,NB154_164.out,NB164_154.out,(by repeat (first|(with_reducible first|exact HB.out|apply qg4|apply qh4|apply qi4|refine qj4 ?_ GE153.out|refine qj4 ?_ GE154.out|refine qj4 ?_ GE164.out)|exact HB.out))⟩)
             ·
              skip
              refine Kd.R_lit_step k77 _ 77 ?hg (N:=11) ?hd (xs:=([] : List (S77))) (inner:=[]) (ok:=fun _ => True) (okp:=fun _ => True) ?hr ?hp (fun _ hk => hk) trivial (Below.refl _ _) (Nat.le_refl _) (by simp) ?_;(case hd => rfl);(case hg => rfl);(case hr => first|(go_simp;done)|(go_simp;rfl));(case hp => exact (Reps.none _ _))
              intro v159 w8 ho9 hb hg_ hnew_
              clear hg_ hnew_
              (first|rw [← Ny158.out] at ho9|(simp only [Int.reduceToNat] at ho9;rw [← Ny158.out] at ho9))
              have n0_:=qk4 (Kd.R_lower ho9 (qm4 (by repeat (first|(with_reducible first|exact HB.out|apply qg4|apply qh4|apply qi4|refine qj4 ?_ GE153.out|refine qj4 ?_ GE154.out|refine qj4 ?_ GE164.out)|exact HB.out))))
              have n1_:=qk4 (ql4 (g:=gb153) (o:=.cells #[.int .i64 a0_0,.int .i64 a0_1,.slice A0_2 l0_2.length c0_2,.slice A0_3 l0_3.length c0_3] 31 (0,0)) (by (with_reducible repeat (first|apply qa4|apply qb4|apply qc4));exact BK153.out) hb)
              have n2_:=qk4 (ql4 (g:=gb154) (o:=.cells #[.int .i64 0,.int .i64 0,.slice none 0 0,.slice none 0 0] 31 (0,0)) (by (with_reducible repeat (first|apply qa4|apply qb4|apply qc4));exact BK154.out) hb)
              have n3_:=qk4 (ql4 (g:=gb164) (o:=.cells #[.int .i64 0,.int .i64 0,.slice none 0 0,.slice none 0 0] 31 (0,0)) (by (with_reducible repeat (first|apply qa4|apply qb4|apply qc4));exact BK164.out) hb)
              have n4_:=qk4 (sN (by repeat (first|(with_reducible first|exact HB.out|apply qg4|apply qh4|apply qi4|refine qj4 ?_ GE153.out|refine qj4 ?_ GE154.out|refine qj4 ?_ GE164.out)|exact HB.out)) hb)
              clear BK153
              clear BK154
              clear BK164
              clear HB
              have HO160:=n0_
              have BK153:=n1_
              have BK154:=n2_
              have BK164:=n3_
              have HB:=n4_
              clear n0_ n1_ n2_ n3_ n4_
              clear hb ho9
              refine hK.out _ _ ⟨(blk_cell BK153.out 0).trans rfl,(blk_cell BK153.out 1).trans rfl,(blk_cell BK153.out 2).trans rfl,(blk_cell BK153.out 3).trans rfl⟩ (fun hHeld => ?_)
              clear hK K
              refine norm_ (a':=?_) ?_ ?_
              rotate_left
              ·
               show Act.put _ (some 11) _ = _
               simp only [Act.put,sA,sB,sC,i64_w,i32_w]
               rfl
              exact norm_ (by first|(simp only [putAll,Act.put,sA,sB,sC];done)|(simp only [putAll,Act.put,sA,sB,sC];rfl)) (hJ5_10 (v159,gb164) _ ⟨hHeld,(by (with_reducible repeat (first|apply qd4|apply qe4|apply qf4));exact HO160.out),(by (with_reducible repeat (first|apply qa4|apply qb4|apply qc4));exact BK153.out),(by (with_reducible repeat (first|apply qa4|apply qb4|apply qc4));exact BK154.out),(by (with_reducible repeat (first|apply qa4|apply qb4|apply qc4));exact BK164.out),GW164.out,GE164.out,NB153_164.out,NB164_153.out,NB154_164.out,NB164_154.out,(by repeat (first|(with_reducible first|exact HB.out|apply qg4|apply qh4|apply qi4|refine qj4 ?_ GE153.out|refine qj4 ?_ GE154.out|refine qj4 ?_ GE164.out)|exact HB.out))⟩)
           ·
            skip
            rintro v159 w8 ⟨hS_,h0_,h1_,h2_,h3_⟩
            have n0_ : Aside0 (Kd.R k77 77 w8 w.heap.size (fun _ => True) v159 y158):=⟨h0_⟩
            have n1_ : Aside0 (w8.heap[gb153]? = some (.cells #[.int .i64 a0_0,.int .i64 a0_1,.slice A0_2 l0_2.length c0_2,.slice A0_3 l0_3.length c0_3] 31 (0,0))):=⟨h1_⟩
            have n2_ : Aside0 (w8.heap[gb154]? = some (.cells #[.int .i64 0,.int .i64 0,.slice none 0 0,.slice none 0 0] 31 (0,0))):=⟨h2_⟩
            have n3_ : Aside0 (Below w.heap.size w w8):=⟨h3_⟩
            clear BK153
            clear BK154
            clear HB
            clear h0_ h1_ h2_ h3_
            have HO160:=n0_
            have BK153:=n1_
            have BK154:=n2_
            have HB:=n3_
            clear n0_ n1_ n2_ n3_
            have hHeld : w8.cell? ⟨gb153,0,none⟩ = some (.int .i64 a0_0) ∧ w8.cell? ⟨gb153,1,none⟩ = some (.int .i64 a0_1) ∧ w8.cell? ⟨gb153,2,none⟩ = some (.slice A0_2 l0_2.length c0_2) ∧ w8.cell? ⟨gb153,3,none⟩ = some (.slice A0_3 l0_3.length c0_3):=hS_
            refine norm_ (a':=?_) ?_ ?_
            rotate_left
            ·
             simp only [putAll,Act.put,sA,sB,sC]
             rfl
            refine three_ (i:=4) (j:=8) (k:=10) (Ni:=some 10) (Nj:=some 14) (Nk:=some 3) #[true,true,true,true,true,true,true,true,false,false,false,false] #[true,true,true,true,false,true,true,true,true,false,false,false] #[true,true,true,true,false,true,true,true,false,false,true,false] rfl rfl rfl rfl rfl rfl (three_of HT_.out (by kernel_rfl)) (by decide) (by decide) (by decide) (fun K hK => ?_) (fun K hK => ?_) (fun K hK => ?_)
            ·
             skip
             refine Kd.S_lit_step k70 _ 70 ?hg (N:=10) ?hd (xs:=([] : List (S70))) (inner:=[]) (ok:=fun _ => True) (okp:=fun _ => True) ?hr ?hp (fun _ hk => hk) trivial (Below.refl _ _) (Nat.le_refl _) (by simp) ?_;(case hd => rfl);(case hg => rfl);(case hr => first|(go_simp;done)|(go_simp;rfl));(case hp => exact (Reps.none _ _))
             intro v156 w9 ho10 hb hg_ hnew_
             clear hg_ hnew_
             (first|rw [← Ny155.out] at ho10|(simp only [Int.reduceToNat] at ho10;rw [← Ny155.out] at ho10))
             have n0_:=qk4 (Kd.R_below (by (with_reducible repeat (first|apply qd4|apply qe4|apply qf4));exact HO160.out) hb)
             have n1_:=qk4 (Kd.S_lower ho10 (qm4 (by repeat (first|(with_reducible first|exact HB.out|apply qg4|apply qh4|apply qi4|refine qj4 ?_ GE153.out|refine qj4 ?_ GE154.out)|exact HB.out))))
             have n2_:=qk4 (ql4 (g:=gb153) (o:=.cells #[.int .i64 a0_0,.int .i64 a0_1,.slice A0_2 l0_2.length c0_2,.slice A0_3 l0_3.length c0_3] 31 (0,0)) (by (with_reducible repeat (first|apply qa4|apply qb4|apply qc4));exact BK153.out) hb)
             have n3_:=qk4 (ql4 (g:=gb154) (o:=.cells #[.int .i64 0,.int .i64 0,.slice none 0 0,.slice none 0 0] 31 (0,0)) (by (with_reducible repeat (first|apply qa4|apply qb4|apply qc4));exact BK154.out) hb)
             have n4_:=qk4 (sN (by repeat (first|(with_reducible first|exact HB.out|apply qg4|apply qh4|apply qi4|refine qj4 ?_ GE153.out|refine qj4 ?_ GE154.out)|exact HB.out)) hb)
             clear HO160
             clear BK153
             clear BK154
             clear HB
             have HO160:=n0_
             have HO157:=n1_
             have BK153:=n2_
             have BK154:=n3_
             have HB:=n4_
             clear n0_ n1_ n2_ n3_ n4_
             clear hb ho10
             refine hK.out _ _ ⟨(blk_cell BK153.out 0).trans rfl,(blk_cell BK153.out 1).trans rfl,(blk_cell BK153.out 2).trans rfl,(blk_cell BK153.out 3).trans rfl⟩ (fun hHeld => ?_)
             clear hK K
             refine norm_ (a':=?_) ?_ ?_
             rotate_left
             ·
              show Act.put _ (some 10) _ = _
              simp only [Act.put,sA,sB,sC,i64_w,i32_w]
              rfl
             exact norm_ (by first|(simp only [putAll,Act.put,sA,sB,sC];done)|(simp only [putAll,Act.put,sA,sB,sC];rfl)) (hJ4_5 (v156,v159) _ ⟨hHeld,(by (with_reducible repeat (first|apply Kd.S_alloc|apply Kd.S_drewN|apply Kd.S_drew));exact HO157.out),(by (with_reducible repeat (first|apply qd4|apply qe4|apply qf4));exact HO160.out),(by (with_reducible repeat (first|apply qa4|apply qb4|apply qc4));exact BK153.out),(by (with_reducible repeat (first|apply qa4|apply qb4|apply qc4));exact BK154.out),(by repeat (first|(with_reducible first|exact HB.out|apply qg4|apply qh4|apply qi4|refine qj4 ?_ GE153.out|refine qj4 ?_ GE154.out)|exact HB.out))⟩)
            ·
             skip
             refine Kd.R_append_rows_step k77 (w0:=w) w.heap.size (by rfl) (.tmp 11) (.tmp 13) 29 77 (.agg #[(.int .i64 0),(.int .i64 0),(.int .i64 0),(.int .i64 0),(.int .i64 0),(.int .i64 0)]) 48 rfl Try.underlying29 info77 rfl (by decide) (by omega) v159 y158 l0_3 _ _ _ (fun _ => True) (fun _ => False) rfl rfl ?aO ?aR (fun _ _ h => h) (fun _ h => h.elim) ?aF ?aB ?aS ?aL ?_
             (case aR => repeat (first|exact (Kd.C_below HR0_3.out HB.out)|(with_reducible refine Kd.C_alloc ?_ _)|(with_reducible refine Kd.C_drewN ?_ _)|(with_reducible refine Kd.C_drew ?_)))
             (case aB => exact (by repeat (first|(with_reducible first|exact HB.out|apply qg4|apply qh4|apply qi4|refine qj4 ?_ GE153.out|refine qj4 ?_ GE154.out)|exact HB.out)))
             (case aF => exact (fun _ _ => trivial))
             (case aO => exact (by (with_reducible repeat (first|apply qd4|apply qe4|apply qf4));exact HO160.out))
             (case aS => exact (qm4 (by repeat (first|(with_reducible first|exact HB.out|apply qg4|apply qh4|apply qi4|refine qj4 ?_ GE153.out|refine qj4 ?_ GE154.out)|exact HB.out))))
             (case aL => have:=LMc2.out;omega)
             intro v162 w9 ho hb hg hat
             rw [← Ny161.out] at ho
             have n0_:=qk4 (blk_grown (g:=gb153) (o:=.cells #[.int .i64 a0_0,.int .i64 a0_1,.slice A0_2 l0_2.length c0_2,.slice A0_3 l0_3.length c0_3] 31 (0,0)) (by (with_reducible repeat (first|apply qa4|apply qb4|apply qc4));exact BK153.out) hg (Kd.R_ne HO160.out BK153.out (by decide)))
             have n1_:=qk4 (blk_grown (g:=gb154) (o:=.cells #[.int .i64 0,.int .i64 0,.slice none 0 0,.slice none 0 0] 31 (0,0)) (by (with_reducible repeat (first|apply qa4|apply qb4|apply qc4));exact BK154.out) hg (Kd.R_ne HO160.out BK154.out (by decide)))
             have n2_:=qk4 (hb)
             have n3_:=qk4 (ho)
             clear BK153
             clear BK154
             clear HB
             clear HO160
             have BK153:=n0_
             have BK154:=n1_
             have HB:=n2_
             have HO163:=n3_
             clear n0_ n1_ n2_ n3_
             clear ho hb hg hat
             refine hK.out _ _ ⟨(blk_cell BK153.out 0).trans rfl,(blk_cell BK153.out 1).trans rfl,(blk_cell BK153.out 2).trans rfl,(blk_cell BK153.out 3).trans rfl⟩ (fun hHeld => ?_)
             clear hK K
             refine norm_ (a':=?_) ?_ ?_
             rotate_left
             ·
              show Act.put _ (some 14) _ = _
              simp only [Act.put,sA,sB,sC,i64_w,i32_w]
              rfl
             exact norm_ (by first|(simp only [putAll,Act.put,sA,sB,sC];done)|(simp only [putAll,Act.put,sA,sB,sC];rfl)) (hJ5_8 (v159,v162) _ ⟨hHeld,(by (with_reducible repeat (first|apply qd4|apply qe4|apply qf4));exact HO163.out),(by (with_reducible repeat (first|apply qa4|apply qb4|apply qc4));exact BK153.out),(by (with_reducible repeat (first|apply qa4|apply qb4|apply qc4));exact BK154.out),(by repeat (first|(with_reducible first|exact HB.out|apply qg4|apply qh4|apply qi4|refine qj4 ?_ GE153.out|refine qj4 ?_ GE154.out)|exact HB.out))⟩)
            ·
             skip
             refine box_step ?hg (N:=3) ?hd (cs:=#[.int .i64 0,.int .i64 0,.slice none 0 0,.slice none 0 0]) (t:=31) ?hr ?_;(case hd => rfl);(case hg => rfl);(case hr => first|(go_simp;done)|(go_simp;rfl))
             intro gb164 hg w9 hbox hb
             have n0_:=qk4 (Kd.R_below (by (with_reducible repeat (first|apply qd4|apply qe4|apply qf4));exact HO160.out) hb)
             have n1_:=qk4 (ql4 (g:=gb153) (o:=.cells #[.int .i64 a0_0,.int .i64 a0_1,.slice A0_2 l0_2.length c0_2,.slice A0_3 l0_3.length c0_3] 31 (0,0)) (by (with_reducible repeat (first|apply qa4|apply qb4|apply qc4));exact BK153.out) hb)
             have n2_:=qk4 (ql4 (g:=gb154) (o:=.cells #[.int .i64 0,.int .i64 0,.slice none 0 0,.slice none 0 0] 31 (0,0)) (by (with_reducible repeat (first|apply qa4|apply qb4|apply qc4));exact BK154.out) hb)
             have n3_:=qk4 (sN (by repeat (first|(with_reducible first|exact HB.out|apply qg4|apply qh4|apply qi4|refine qj4 ?_ GE153.out|refine qj4 ?_ GE154.out)|exact HB.out)) hb)
             have n4_:=qk4 (hbox)
             have n5_:=qk4 ((by rw [hg];exact (qm4 (by repeat (first|(with_reducible first|exact HB.out|apply qg4|apply qh4|apply qi4|refine qj4 ?_ GE153.out|refine qj4 ?_ GE154.out)|exact HB.out))) : w.heap.size ≤ gb164))
             have n6_:=qk4 ((by rw [hg];exact (qm4 (by repeat (first|(with_reducible first|exact HB.out|apply qg4|apply qh4|apply qi4|refine qj4 ?_ GE153.out|refine qj4 ?_ GE154.out)|exact HB.out))) : w.heap.size ≤ gb164))
             have n7_:=qk4 ((by rw [hg];exact Nat.ne_of_lt (blk_lt (g:=gb153) (o:=.cells #[.int .i64 a0_0,.int .i64 a0_1,.slice A0_2 l0_2.length c0_2,.slice A0_3 l0_3.length c0_3] 31 (0,0)) (by (with_reducible repeat (first|apply qa4|apply qb4|apply qc4));exact BK153.out)) : gb153 ≠ gb164))
             have n8_:=qk4 ((by rw [hg];exact Nat.ne_of_gt (blk_lt (g:=gb153) (o:=.cells #[.int .i64 a0_0,.int .i64 a0_1,.slice A0_2 l0_2.length c0_2,.slice A0_3 l0_3.length c0_3] 31 (0,0)) (by (with_reducible repeat (first|apply qa4|apply qb4|apply qc4));exact BK153.out)) : gb164 ≠ gb153))
             have n9_:=qk4 ((by rw [hg];exact Nat.ne_of_lt (blk_lt (g:=gb154) (o:=.cells #[.int .i64 0,.int .i64 0,.slice none 0 0,.slice none 0 0] 31 (0,0)) (by (with_reducible repeat (first|apply qa4|apply qb4|apply qc4));exact BK154.out)) : gb154 ≠ gb164))
             have n10_:=qk4 ((by rw [hg];exact Nat.ne_of_gt (blk_lt (g:=gb154) (o:=.cells #[.int .i64 0,.int .i64 0,.slice none 0 0,.slice none 0 0] 31 (0,0)) (by (with_reducible repeat (first|apply qa4|apply qb4|apply qc4));exact BK154.out)) : gb164 ≠ gb154))
             clear HO160
             clear BK153
             clear BK154
             clear HB
             have HO160:=n0_
             have BK153:=n1_
             have BK154:=n2_
             have HB:=n3_
             have BK164:=n4_
             have GW164:=n5_
             have GE164:=n6_
             have NB153_164:=n7_
             have NB164_153:=n8_
             have NB154_164:=n9_
             have NB164_154:=n10_
             clear n0_ n1_ n2_ n3_ n4_ n5_ n6_ n7_ n8_ n9_ n10_
             clear hb hbox hg
             refine hK.out _ _ ⟨(blk_cell BK153.out 0).trans rfl,(blk_cell BK153.out 1).trans rfl,(blk_cell BK153.out 2).trans rfl,(blk_cell BK153.out 3).trans rfl⟩ (fun hHeld => ?_)
             clear hK K
             refine norm_ (a':=?_) ?_ ?_
             rotate_left
             ·
              show Act.put _ (some 3) _ = _
              simp only [Act.put,sA,sB,sC,i64_w,i32_w]
              rfl
             exact norm_ (by first|(simp only [putAll,Act.put,sA,sB,sC];done)|(simp only [putAll,Act.put,sA,sB,sC];rfl)) (hJ5_10 (v159,gb164) _ ⟨hHeld,(by (with_reducible repeat (first|apply qd4|apply qe4|apply qf4));exact HO160.out),(by (with_reducible repeat (first|apply qa4|apply qb4|apply qc4));exact BK153.out),(by (with_reducible repeat (first|apply qa4|apply qb4|apply qc4));exact BK154.out),(by (with_reducible repeat (first|apply qa4|apply qb4|apply qc4));exact BK164.out),GW164.out,GE164.out,NB153_164.out,NB164_153.out,NB154_164.out,NB164_154.out,(by repeat (first|(with_reducible first|exact HB.out|apply qg4|apply qh4|apply qi4|refine qj4 ?_ GE153.out|refine qj4 ?_ GE154.out|refine qj4 ?_ GE164.out)|exact HB.out))⟩)
          ·
           skip
           rintro v156 w8 ⟨hS_,h0_,h1_,h2_,h3_⟩
           have n0_ : Aside0 (Kd.S k70 70 w8 w.heap.size (fun _ => True) v156 y155):=⟨h0_⟩
           have n1_ : Aside0 (w8.heap[gb153]? = some (.cells #[.int .i64 a0_0,.int .i64 a0_1,.slice A0_2 l0_2.length c0_2,.slice A0_3 l0_3.length c0_3] 31 (0,0))):=⟨h1_⟩
           have n2_ : Aside0 (w8.heap[gb154]? = some (.cells #[.int .i64 0,.int .i64 0,.slice none 0 0,.slice none 0 0] 31 (0,0))):=⟨h2_⟩
           have n3_ : Aside0 (Below w.heap.size w w8):=⟨h3_⟩
           clear BK153
           clear BK154
           clear HB
           clear h0_ h1_ h2_ h3_
           have HO157:=n0_
           have BK153:=n1_
           have BK154:=n2_
           have HB:=n3_
           clear n0_ n1_ n2_ n3_
           have hHeld : w8.cell? ⟨gb153,0,none⟩ = some (.int .i64 a0_0) ∧ w8.cell? ⟨gb153,1,none⟩ = some (.int .i64 a0_1) ∧ w8.cell? ⟨gb153,2,none⟩ = some (.slice A0_2 l0_2.length c0_2) ∧ w8.cell? ⟨gb153,3,none⟩ = some (.slice A0_3 l0_3.length c0_3):=hS_
           refine norm_ (a':=?_) ?_ ?_
           rotate_left
           ·
            simp only [putAll,Act.put,sA,sB,sC]
            rfl
           refine two_ (i:=5) (j:=10) (Ni:=some 11) (Nj:=some 3) #[true,true,true,true,true,true,true,true,false,false,false,false] #[true,true,true,true,true,false,true,true,false,false,true,false] rfl rfl rfl rfl (two_of HT_.out (by kernel_rfl)) (by decide) (by decide) (fun K hK => ?_) (fun K hK => ?_)
           ·
            skip
            refine Kd.R_lit_step k77 _ 77 ?hg (N:=11) ?hd (xs:=([] : List (S77))) (inner:=[]) (ok:=fun _ => True) (okp:=fun _ => True) ?hr ?hp (fun _ hk => hk) trivial (Below.refl _ _) (Nat.le_refl _) (by simp) ?_;(case hd => rfl);(case hg => rfl);(case hr => first|(go_simp;done)|(go_simp;rfl));(case hp => exact (Reps.none _ _))
            intro v159 w9 ho10 hb hg_ hnew_
            clear hg_ hnew_
            (first|rw [← Ny158.out] at ho10|(simp only [Int.reduceToNat] at ho10;rw [← Ny158.out] at ho10))
            have n0_:=qk4 (Kd.S_below (by (with_reducible repeat (first|apply Kd.S_alloc|apply Kd.S_drewN|apply Kd.S_drew));exact HO157.out) hb)
            have n1_:=qk4 (Kd.R_lower ho10 (qm4 (by repeat (first|(with_reducible first|exact HB.out|apply qg4|apply qh4|apply qi4|refine qj4 ?_ GE153.out|refine qj4 ?_ GE154.out)|exact HB.out))))
            have n2_:=qk4 (ql4 (g:=gb153) (o:=.cells #[.int .i64 a0_0,.int .i64 a0_1,.slice A0_2 l0_2.length c0_2,.slice A0_3 l0_3.length c0_3] 31 (0,0)) (by (with_reducible repeat (first|apply qa4|apply qb4|apply qc4));exact BK153.out) hb)
            have n3_:=qk4 (ql4 (g:=gb154) (o:=.cells #[.int .i64 0,.int .i64 0,.slice none 0 0,.slice none 0 0] 31 (0,0)) (by (with_reducible repeat (first|apply qa4|apply qb4|apply qc4));exact BK154.out) hb)
            have n4_:=qk4 (sN (by repeat (first|(with_reducible first|exact HB.out|apply qg4|apply qh4|apply qi4|refine qj4 ?_ GE153.out|refine qj4 ?_ GE154.out)|exact HB.out)) hb)
            clear HO157
            clear BK153
            clear BK154
            clear HB
            have HO157:=n0_
            have HO160:=n1_
            have BK153:=n2_
            have BK154:=n3_
            have HB:=n4_
            clear n0_ n1_ n2_ n3_ n4_
            clear hb ho10
            refine hK.out _ _ ⟨(blk_cell BK153.out 0).trans rfl,(blk_cell BK153.out 1).trans rfl,(blk_cell BK153.out 2).trans rfl,(blk_cell BK153.out 3).trans rfl⟩ (fun hHeld => ?_)
            clear hK K
            refine norm_ (a':=?_) ?_ ?_
            rotate_left
            ·
             show Act.put _ (some 11) _ = _
             simp only [Act.put,sA,sB,sC,i64_w,i32_w]
             rfl
            exact norm_ (by first|(simp only [putAll,Act.put,sA,sB,sC];done)|(simp only [putAll,Act.put,sA,sB,sC];rfl)) (hJ4_5 (v156,v159) _ ⟨hHeld,(by (with_reducible repeat (first|apply Kd.S_alloc|apply Kd.S_drewN|apply Kd.S_drew));exact HO157.out),(by (with_reducible repeat (first|apply qd4|apply qe4|apply qf4));exact HO160.out),(by (with_reducible repeat (first|apply qa4|apply qb4|apply qc4));exact BK153.out),(by (with_reducible repeat (first|apply qa4|apply qb4|apply qc4));exact BK154.out),(by repeat (first|(with_reducible first|exact HB.out|apply qg4|apply qh4|apply qi4|refine qj4 ?_ GE153.out|refine qj4 ?_ GE154.out)|exact HB.out))⟩)
           ·
            skip
            refine box_step ?hg (N:=3) ?hd (cs:=#[.int .i64 0,.int .i64 0,.slice none 0 0,.slice none 0 0]) (t:=31) ?hr ?_;(case hd => rfl);(case hg => rfl);(case hr => first|(go_simp;done)|(go_simp;rfl))
            intro gb164 hg w9 hbox hb
            have n0_:=qk4 (Kd.S_below (by (with_reducible repeat (first|apply Kd.S_alloc|apply Kd.S_drewN|apply Kd.S_drew));exact HO157.out) hb)
            have n1_:=qk4 (ql4 (g:=gb153) (o:=.cells #[.int .i64 a0_0,.int .i64 a0_1,.slice A0_2 l0_2.length c0_2,.slice A0_3 l0_3.length c0_3] 31 (0,0)) (by (with_reducible repeat (first|apply qa4|apply qb4|apply qc4));exact BK153.out) hb)
            have n2_:=qk4 (ql4 (g:=gb154) (o:=.cells #[.int .i64 0,.int .i64 0,.slice none 0 0,.slice none 0 0] 31 (0,0)) (by (with_reducible repeat (first|apply qa4|apply qb4|apply qc4));exact BK154.out) hb)
            have n3_:=qk4 (sN (by repeat (first|(with_reducible first|exact HB.out|apply qg4|apply qh4|apply qi4|refine qj4 ?_ GE153.out|refine qj4 ?_ GE154.out)|exact HB.out)) hb)
            have n4_:=qk4 (hbox)
            have n5_:=qk4 ((by rw [hg];exact (qm4 (by repeat (first|(with_reducible first|exact HB.out|apply qg4|apply qh4|apply qi4|refine qj4 ?_ GE153.out|refine qj4 ?_ GE154.out)|exact HB.out))) : w.heap.size ≤ gb164))
            have n6_:=qk4 ((by rw [hg];exact (qm4 (by repeat (first|(with_reducible first|exact HB.out|apply qg4|apply qh4|apply qi4|refine qj4 ?_ GE153.out|refine qj4 ?_ GE154.out)|exact HB.out))) : w.heap.size ≤ gb164))
            have n7_:=qk4 ((by rw [hg];exact Nat.ne_of_lt (blk_lt (g:=gb153) (o:=.cells #[.int .i64 a0_0,.int .i64 a0_1,.slice A0_2 l0_2.length c0_2,.slice A0_3 l0_3.length c0_3] 31 (0,0)) (by (with_reducible repeat (first|apply qa4|apply qb4|apply qc4));exact BK153.out)) : gb153 ≠ gb164))
            have n8_:=qk4 ((by rw [hg];exact Nat.ne_of_gt (blk_lt (g:=gb153) (o:=.cells #[.int .i64 a0_0,.int .i64 a0_1,.slice A0_2 l0_2.length c0_2,.slice A0_3 l0_3.length c0_3] 31 (0,0)) (by (with_reducible repeat (first|apply qa4|apply qb4|apply qc4));exact BK153.out)) : gb164 ≠ gb153))
            have n9_:=qk4 ((by rw [hg];exact Nat.ne_of_lt (blk_lt (g:=gb154) (o:=.cells #[.int .i64 0,.int .i64 0,.slice none 0 0,.slice none 0 0] 31 (0,0)) (by (with_reducible repeat (first|apply qa4|apply qb4|apply qc4));exact BK154.out)) : gb154 ≠ gb164))
            have n10_:=qk4 ((by rw [hg];exact Nat.ne_of_gt (blk_lt (g:=gb154) (o:=.cells #[.int .i64 0,.int .i64 0,.slice none 0 0,.slice none 0 0] 31 (0,0)) (by (with_reducible repeat (first|apply qa4|apply qb4|apply qc4));exact BK154.out)) : gb164 ≠ gb154))
            clear HO157
            clear BK153
            clear BK154
            clear HB
            have HO157:=n0_
            have BK153:=n1_
            have BK154:=n2_
            have HB:=n3_
            have BK164:=n4_
            have GW164:=n5_
            have GE164:=n6_
            have NB153_164:=n7_
            have NB164_153:=n8_
            have NB154_164:=n9_
            have NB164_154:=n10_
            clear n0_ n1_ n2_ n3_ n4_ n5_ n6_ n7_ n8_ n9_ n10_
            clear hb hbox hg
            refine hK.out _ _ ⟨(blk_cell BK153.out 0).trans rfl,(blk_cell BK153.out 1).trans rfl,(blk_cell BK153.out 2).trans rfl,(blk_cell BK153.out 3).trans rfl⟩ (fun hHeld => ?_)
            clear hK K
            refine norm_ (a':=?_) ?_ ?_
            rotate_left
            ·
             show Act.put _ (some 3) _ = _
             simp only [Act.put,sA,sB,sC,i64_w,i32_w]
             rfl
            exact norm_ (by first|(simp only [putAll,Act.put,sA,sB,sC];done)|(simp only [putAll,Act.put,sA,sB,sC];rfl)) (hJ4_10 (v156,gb164) _ ⟨hHeld,(by (with_reducible repeat (first|apply Kd.S_alloc|apply Kd.S_drewN|apply Kd.S_drew));exact HO157.out),(by (with_reducible repeat (first|apply qa4|apply qb4|apply qc4));exact BK153.out),(by (with_reducible repeat (first|apply qa4|apply qb4|apply qc4));exact BK154.out),(by (with_reducible repeat (first|apply qa4|apply qb4|apply qc4));exact BK164.out),GW164.out,GE164.out,NB153_164.out,NB164_153.out,NB154_164.out,NB164_154.out,(by repeat (first|(with_reducible first|exact HB.out|apply qg4|apply qh4|apply qi4|refine qj4 ?_ GE153.out|refine qj4 ?_ GE154.out|refine qj4 ?_ GE164.out)|exact HB.out))⟩)
         ·
          skip
          rintro ⟨v159,gb164⟩ w9 ⟨hS_,h0_,h1_,h2_,h3_,h4_,h5_,h6_,h7_,h8_,h9_,h10_⟩
          have n0_ : Aside0 (Kd.R k77 77 w9 w.heap.size (fun _ => True) v159 y158):=⟨h0_⟩
          have n1_ : Aside0 (w9.heap[gb153]? = some (.cells #[.int .i64 a0_0,.int .i64 a0_1,.slice A0_2 l0_2.length c0_2,.slice A0_3 l0_3.length c0_3] 31 (0,0))):=⟨h1_⟩
          have n2_ : Aside0 (w9.heap[gb154]? = some (.cells #[.int .i64 0,.int .i64 0,.slice none 0 0,.slice none 0 0] 31 (0,0))):=⟨h2_⟩
          have n3_ : Aside0 (w9.heap[gb164]? = some (.cells #[.int .i64 0,.int .i64 0,.slice none 0 0,.slice none 0 0] 31 (0,0))):=⟨h3_⟩
          have n4_ : Aside0 (w.heap.size ≤ gb164):=⟨h4_⟩
          have n5_ : Aside0 (w.heap.size ≤ gb164):=⟨h5_⟩
          have n6_ : Aside0 (gb153 ≠ gb164):=⟨h6_⟩
          have n7_ : Aside0 (gb164 ≠ gb153):=⟨h7_⟩
          have n8_ : Aside0 (gb154 ≠ gb164):=⟨h8_⟩
          have n9_ : Aside0 (gb164 ≠ gb154):=⟨h9_⟩
          have n10_ : Aside0 (Below w.heap.size w w9):=⟨h10_⟩
          clear BK153
          clear BK154
          clear HB
          clear h0_ h1_ h2_ h3_ h4_ h5_ h6_ h7_ h8_ h9_ h10_
          have HO160:=n0_
          have BK153:=n1_
          have BK154:=n2_
          have BK164:=n3_
          have GW164:=n4_
          have GE164:=n5_
          have NB153_164:=n6_
          have NB164_153:=n7_
          have NB154_164:=n8_
          have NB164_154:=n9_
          have HB:=n10_
          clear n0_ n1_ n2_ n3_ n4_ n5_ n6_ n7_ n8_ n9_ n10_
          have hHeld : w9.cell? ⟨gb153,0,none⟩ = some (.int .i64 a0_0) ∧ w9.cell? ⟨gb153,1,none⟩ = some (.int .i64 a0_1) ∧ w9.cell? ⟨gb153,2,none⟩ = some (.slice A0_2 l0_2.length c0_2) ∧ w9.cell? ⟨gb153,3,none⟩ = some (.slice A0_3 l0_3.length c0_3):=hS_
          refine norm_ (a':=?_) ?_ ?_
          rotate_left
          ·
           simp only [putAll,Act.put,sA,sB,sC]
           rfl
          refine two_ (i:=4) (j:=8) (Ni:=some 10) (Nj:=some 14) #[true,true,true,true,true,true,true,true,false,false,true,false] #[true,true,true,true,false,true,true,true,true,false,true,false] rfl rfl rfl rfl (two_of HT_.out (by kernel_rfl)) (by decide) (by decide) (fun K hK => ?_) (fun K hK => ?_)
          ·
           skip
           refine Kd.S_lit_step k70 _ 70 ?hg (N:=10) ?hd (xs:=([] : List (S70))) (inner:=[]) (ok:=fun _ => True) (okp:=fun _ => True) ?hr ?hp (fun _ hk => hk) trivial (Below.refl _ _) (Nat.le_refl _) (by simp) ?_;(case hd => rfl);(case hg => rfl);(case hr => first|(go_simp;done)|(go_simp;rfl));(case hp => exact (Reps.none _ _))
           intro v156 w10 ho11 hb hg_ hnew_
           clear hg_ hnew_
           (first|rw [← Ny155.out] at ho11|(simp only [Int.reduceToNat] at ho11;rw [← Ny155.out] at ho11))
           have n0_:=qk4 (Kd.R_below (by (with_reducible repeat (first|apply qd4|apply qe4|apply qf4));exact HO160.out) hb)
           have n1_:=qk4 (Kd.S_lower ho11 (qm4 (by repeat (first|(with_reducible first|exact HB.out|apply qg4|apply qh4|apply qi4|refine qj4 ?_ GE153.out|refine qj4 ?_ GE154.out|refine qj4 ?_ GE164.out)|exact HB.out))))
           have n2_:=qk4 (ql4 (g:=gb153) (o:=.cells #[.int .i64 a0_0,.int .i64 a0_1,.slice A0_2 l0_2.length c0_2,.slice A0_3 l0_3.length c0_3] 31 (0,0)) (by (with_reducible repeat (first|apply qa4|apply qb4|apply qc4));exact BK153.out) hb)
           have n3_:=qk4 (ql4 (g:=gb154) (o:=.cells #[.int .i64 0,.int .i64 0,.slice none 0 0,.slice none 0 0] 31 (0,0)) (by (with_reducible repeat (first|apply qa4|apply qb4|apply qc4));exact BK154.out) hb)
           have n4_:=qk4 (ql4 (g:=gb164) (o:=.cells #[.int .i64 0,.int .i64 0,.slice none 0 0,.slice none 0 0] 31 (0,0)) (by (with_reducible repeat (first|apply qa4|apply qb4|apply qc4));exact BK164.out) hb)
           have n5_:=qk4 (sN (by repeat (first|(with_reducible first|exact HB.out|apply qg4|apply qh4|apply qi4|refine qj4 ?_ GE153.out|refine qj4 ?_ GE154.out|refine qj4 ?_ GE164.out)|exact HB.out)) hb)
           clear HO160
           clear BK153
           clear BK154
           clear BK164
           clear HB
           have HO160:=n0_
           have HO157:=n1_
           have BK153:=n2_
           have BK154:=n3_
           have BK164:=n4_
           have HB:=n5_
           clear n0_ n1_ n2_ n3_ n4_ n5_
           clear hb ho11
           refine hK.out _ _ ⟨(blk_cell BK153.out 0).trans rfl,(blk_cell BK153.out 1).trans rfl,(blk_cell BK153.out 2).trans rfl,(blk_cell BK153.out 3).trans rfl⟩ (fun hHeld => ?_)
           clear hK K
           refine norm_ (a':=?_) ?_ ?_
           rotate_left
           ·
            show Act.put _ (some 10) _ = _
            simp only [Act.put,sA,sB,sC,i64_w,i32_w]
            rfl
           exact norm_ (by first|(simp only [putAll,Act.put,sA,sB,sC];done)|(simp only [putAll,Act.put,sA,sB,sC];rfl)) (hJ4_5_10 (v156,v159,gb164) _ ⟨hHeld,(by (with_reducible repeat (first|apply Kd.S_alloc|apply Kd.S_drewN|apply Kd.S_drew));exact HO157.out),(by (with_reducible repeat (first|apply qd4|apply qe4|apply qf4));exact HO160.out),(by (with_reducible repeat (first|apply qa4|apply qb4|apply qc4));exact BK153.out),(by (with_reducible repeat (first|apply qa4|apply qb4|apply qc4));exact BK154.out),(by (with_reducible repeat (first|apply qa4|apply qb4|apply qc4));exact BK164.out),GW164.out,GE164.out,NB153_164.out,NB164_153.out,NB154_164.out,NB164_154.out,(by repeat (first|(with_reducible first|exact HB.out|apply qg4|apply qh4|apply qi4|refine qj4 ?_ GE153.out|refine qj4 ?_ GE154.out|refine qj4 ?_ GE164.out)|exact HB.out))⟩)
          ·
           skip
           refine Kd.R_append_rows_step k77 (w0:=w) w.heap.size (by rfl) (.tmp 11) (.tmp 13) 29 77 (.agg #[(.int .i64 0),(.int .i64 0),(.int .i64 0),(.int .i64 0),(.int .i64 0),(.int .i64 0)]) 48 rfl Try.underlying29 info77 rfl (by decide) (by omega) v159 y158 l0_3 _ _ _ (fun _ => True) (fun _ => False) rfl rfl ?aO ?aR (fun _ _ h => h) (fun _ h => h.elim) ?aF ?aB ?aS ?aL ?_
           (case aR => repeat (first|exact (Kd.C_below HR0_3.out HB.out)|(with_reducible refine Kd.C_alloc ?_ _)|(with_reducible refine Kd.C_drewN ?_ _)|(with_reducible refine Kd.C_drew ?_)))
           (case aB => exact (by repeat (first|(with_reducible first|exact HB.out|apply qg4|apply qh4|apply qi4|refine qj4 ?_ GE153.out|refine qj4 ?_ GE154.out|refine qj4 ?_ GE164.out)|exact HB.out)))
           (case aF => exact (fun _ _ => trivial))
           (case aO => exact (by (with_reducible repeat (first|apply qd4|apply qe4|apply qf4));exact HO160.out))
           (case aS => exact (qm4 (by repeat (first|(with_reducible first|exact HB.out|apply qg4|apply qh4|apply qi4|refine qj4 ?_ GE153.out|refine qj4 ?_ GE154.out|refine qj4 ?_ GE164.out)|exact HB.out))))
           (case aL => have:=LMc2.out;omega)
           intro v162 w10 ho hb hg hat
           rw [← Ny161.out] at ho
           have n0_:=qk4 (blk_grown (g:=gb153) (o:=.cells #[.int .i64 a0_0,.int .i64 a0_1,.slice A0_2 l0_2.length c0_2,.slice A0_3 l0_3.length c0_3] 31 (0,0)) (by (with_reducible repeat (first|apply qa4|apply qb4|apply qc4));exact BK153.out) hg (Kd.R_ne HO160.out BK153.out (by decide)))
           have n1_:=qk4 (blk_grown (g:=gb154) (o:=.cells #[.int .i64 0,.int .i64 0,.slice none 0 0,.slice none 0 0] 31 (0,0)) (by (with_reducible repeat (first|apply qa4|apply qb4|apply qc4));exact BK154.out) hg (Kd.R_ne HO160.out BK154.out (by decide)))
           have n2_:=qk4 (blk_grown (g:=gb164) (o:=.cells #[.int .i64 0,.int .i64 0,.slice none 0 0,.slice none 0 0] 31 (0,0)) (by (with_reducible repeat (first|apply qa4|apply qb4|apply qc4));exact BK164.out) hg (Kd.R_ne HO160.out BK164.out (by decide)))
           have n3_:=qk4 (hb)
           have n4_:=qk4 (ho)
           clear BK153
           clear BK154
           clear BK164
           clear HB
           clear HO160
           have BK153:=n0_
           have BK154:=n1_
           have BK164:=n2_
           have HB:=n3_
           have HO163:=n4_
           clear n0_ n1_ n2_ n3_ n4_
           clear ho hb hg hat
           refine hK.out _ _ ⟨(blk_cell BK153.out 0).trans rfl,(blk_cell BK153.out 1).trans rfl,(blk_cell BK153.out 2).trans rfl,(blk_cell BK153.out 3).trans rfl⟩ (fun hHeld => ?_)
           clear hK K
           refine norm_ (a':=?_) ?_ ?_
           rotate_left
           ·
            show Act.put _ (some 14) _ = _
            simp only [Act.put,sA,sB,sC,i64_w,i32_w]
            rfl
           exact norm_ (by first|(simp only [putAll,Act.put,sA,sB,sC];done)|(simp only [putAll,Act.put,sA,sB,sC];rfl)) (hJ5_8_10 (v159,v162,gb164) _ ⟨hHeld,(by (with_reducible repeat (first|apply qd4|apply qe4|apply qf4));exact HO163.out),(by (with_reducible repeat (first|apply qa4|apply qb4|apply qc4));exact BK153.out),(by (with_reducible repeat (first|apply qa4|apply qb4|apply qc4));exact BK154.out),(by (with_reducible repeat (first|apply qa4|apply qb4|apply qc4));exact BK164.out),GW164.out,GE164.out,NB153_164.out,NB164_153.out,NB154_164.out,NB164_154.out,(by repeat (first|(with_reducible first|exact HB.out|apply qg4|apply qh4|apply qi4|refine qj4 ?_ GE153.out|refine qj4 ?_ GE154.out|refine qj4 ?_ GE164.out)|exact HB.out))⟩)
        ·
         skip
         rintro ⟨v159,v162⟩ w9 ⟨hS_,h0_,h1_,h2_,h3_⟩
         have n0_ : Aside0 (Kd.R k77 77 w9 w.heap.size (fun _ => True) v162 y161):=⟨h0_⟩
         have n1_ : Aside0 (w9.heap[gb153]? = some (.cells #[.int .i64 a0_0,.int .i64 a0_1,.slice A0_2 l0_2.length c0_2,.slice A0_3 l0_3.length c0_3] 31 (0,0))):=⟨h1_⟩
         have n2_ : Aside0 (w9.heap[gb154]? = some (.cells #[.int .i64 0,.int .i64 0,.slice none 0 0,.slice none 0 0] 31 (0,0))):=⟨h2_⟩
         have n3_ : Aside0 (Below w.heap.size w w9):=⟨h3_⟩
         clear BK153
         clear BK154
         clear HB
         clear h0_ h1_ h2_ h3_
         have HO163:=n0_
         have BK153:=n1_
         have BK154:=n2_
         have HB:=n3_
         clear n0_ n1_ n2_ n3_
         have hHeld : w9.cell? ⟨gb153,0,none⟩ = some (.int .i64 a0_0) ∧ w9.cell? ⟨gb153,1,none⟩ = some (.int .i64 a0_1) ∧ w9.cell? ⟨gb153,2,none⟩ = some (.slice A0_2 l0_2.length c0_2) ∧ w9.cell? ⟨gb153,3,none⟩ = some (.slice A0_3 l0_3.length c0_3):=hS_
         refine norm_ (a':=?_) ?_ ?_
         rotate_left
         ·
          simp only [putAll,Act.put,sA,sB,sC]
          rfl
         refine two_ (i:=4) (j:=10) (Ni:=some 10) (Nj:=some 3) #[true,true,true,true,true,true,true,true,true,false,false,false] #[true,true,true,true,false,true,true,true,true,false,true,false] rfl rfl rfl rfl (two_of HT_.out (by kernel_rfl)) (by decide) (by decide) (fun K hK => ?_) (fun K hK => ?_)
         ·
          skip
          refine Kd.S_lit_step k70 _ 70 ?hg (N:=10) ?hd (xs:=([] : List (S70))) (inner:=[]) (ok:=fun _ => True) (okp:=fun _ => True) ?hr ?hp (fun _ hk => hk) trivial (Below.refl _ _) (Nat.le_refl _) (by simp) ?_;(case hd => rfl);(case hg => rfl);(case hr => first|(go_simp;done)|(go_simp;rfl));(case hp => exact (Reps.none _ _))
          intro v156 w10 ho11 hb hg_ hnew_
          clear hg_ hnew_
          (first|rw [← Ny155.out] at ho11|(simp only [Int.reduceToNat] at ho11;rw [← Ny155.out] at ho11))
          have n0_:=qk4 (Kd.R_below (by (with_reducible repeat (first|apply qd4|apply qe4|apply qf4));exact HO163.out) hb)
          have n1_:=qk4 (Kd.S_lower ho11 (qm4 (by repeat (first|(with_reducible first|exact HB.out|apply qg4|apply qh4|apply qi4|refine qj4 ?_ GE153.out|refine qj4 ?_ GE154.out)|exact HB.out))))
          have n2_:=qk4 (ql4 (g:=gb153) (o:=.cells #[.int .i64 a0_0,.int .i64 a0_1,.slice A0_2 l0_2.length c0_2,.slice A0_3 l0_3.length c0_3] 31 (0,0)) (by (with_reducible repeat (first|apply qa4|apply qb4|apply qc4));exact BK153.out) hb)
          have n3_:=qk4 (ql4 (g:=gb154) (o:=.cells #[.int .i64 0,.int .i64 0,.slice none 0 0,.slice none 0 0] 31 (0,0)) (by (with_reducible repeat (first|apply qa4|apply qb4|apply qc4));exact BK154.out) hb)
          have n4_:=qk4 (sN (by repeat (first|(with_reducible first|exact HB.out|apply qg4|apply qh4|apply qi4|refine qj4 ?_ GE153.out|refine qj4 ?_ GE154.out)|exact HB.out)) hb)
          clear HO163
          clear BK153
          clear BK154
          clear HB
          have HO163:=n0_
          have HO157:=n1_
          have BK153:=n2_
          have BK154:=n3_
          have HB:=n4_
          clear n0_ n1_ n2_ n3_ n4_
          clear hb ho11
          obtain ⟨Ao12,co12,eo12⟩:=Kd.R_slice HO163.out
          (first|subst eo12|(injection eo12 with f1_ f2_ f3_;have f4_:=f1_.symm;have f5_:=f3_.symm;clear f1_ f2_ f3_;subst f4_;subst f5_))
          obtain ⟨Ao13,co13,eo13⟩:=Kd.S_slice HO157.out
          (first|subst eo13|(injection eo13 with f1_ f2_ f3_;have f4_:=f1_.symm;have f5_:=f3_.symm;clear f1_ f2_ f3_;subst f4_;subst f5_))
          refine hK.out _ _ ⟨(blk_cell BK153.out 0).trans rfl,(blk_cell BK153.out 1).trans rfl,(blk_cell BK153.out 2).trans rfl,(blk_cell BK153.out 3).trans rfl⟩ (fun hHeld => ?_)
          clear hK K
          refine norm_ (a':=?_) ?_ ?_
          rotate_left
          ·
           show Act.put _ (some 10) _ = _
           simp only [Act.put,sA,sB,sC,i64_w,i32_w]
           rfl
          refine pure_ (i:=9) (N:=some 15) (v:=?_) (a':=?_) #[true,true,true,true,true,true,true,true,true,true,false,false] rfl rfl (any_of HT_.out (by kernel_rfl)) (fun _ _ _ h => h) (Or.inl ⟨by rfl,?_⟩) ?_ ?_
          rotate_left
          ·
           intro w'
           go_simp
           with_reducible rfl
          rotate_left
          ·
           simp only [Act.put,sA,sB,sC,i64_w,i32_w]
           rfl
          exact norm_ (by first|(simp only [putAll,Act.put,sA,sB,sC];done)|(simp only [putAll,Act.put,sA,sB,sC];rfl)) (hJ4_5_8 (.slice Ao13 y155.length co13,v159,.slice Ao12 y161.length co12) _ ⟨hHeld,(by (with_reducible repeat (first|apply Kd.S_alloc|apply Kd.S_drewN|apply Kd.S_drew));exact HO157.out),(by (with_reducible repeat (first|apply qd4|apply qe4|apply qf4));exact HO163.out),(by (with_reducible repeat (first|apply qa4|apply qb4|apply qc4));exact BK153.out),(by (with_reducible repeat (first|apply qa4|apply qb4|apply qc4));exact BK154.out),(by repeat (first|(with_reducible first|exact HB.out|apply qg4|apply qh4|apply qi4|refine qj4 ?_ GE153.out|refine qj4 ?_ GE154.out)|exact HB.out))⟩)
         ·
          skip
          refine box_step ?hg (N:=3) ?hd (cs:=#[.int .i64 0,.int .i64 0,.slice none 0 0,.slice none 0 0]) (t:=31) ?hr ?_;(case hd => rfl);(case hg => rfl);(case hr => first|(go_simp;done)|(go_simp;rfl))
          intro gb164 hg w10 hbox hb
          have n0_:=qk4 (Kd.R_below (by (with_reducible repeat (first|apply qd4|apply qe4|apply qf4));exact HO163.out) hb)
          have n1_:=qk4 (ql4 (g:=gb153) (o:=.cells #[.int .i64 a0_0,.int .i64 a0_1,.slice A0_2 l0_2.length c0_2,.slice A0_3 l0_3.length c0_3] 31 (0,0)) (by (with_reducible repeat (first|apply qa4|apply qb4|apply qc4));exact BK153.out) hb)
          have n2_:=qk4 (ql4 (g:=gb154) (o:=.cells #[.int .i64 0,.int .i64 0,.slice none 0 0,.slice none 0 0] 31 (0,0)) (by (with_reducible repeat (first|apply qa4|apply qb4|apply qc4));exact BK154.out) hb)
          have n3_:=qk4 (sN (by repeat (first|(with_reducible first|exact HB.out|apply qg4|apply qh4|apply qi4|refine qj4 ?_ GE153.out|refine qj4 ?_ GE154.out)|exact HB.out)) hb)
          have n4_:=qk4 (hbox)
          have n5_:=qk4 ((by rw [hg];exact (qm4 (by repeat (first|(with_reducible first|exact HB.out|apply qg4|apply qh4|apply qi4|refine qj4 ?_ GE153.out|refine qj4 ?_ GE154.out)|exact HB.out))) : w.heap.size ≤ gb164))
          have n6_:=qk4 ((by rw [hg];exact (qm4 (by repeat (first|(with_reducible first|exact HB.out|apply qg4|apply qh4|apply qi4|refine qj4 ?_ GE153.out|refine qj4 ?_ GE154.out)|exact HB.out))) : w.heap.size ≤ gb164))
          have n7_:=qk4 ((by rw [hg];exact Nat.ne_of_lt (blk_lt (g:=gb153) (o:=.cells #[.int .i64 a0_0,.int .i64 a0_1,.slice A0_2 l0_2.length c0_2,.slice A0_3 l0_3.length c0_3] 31 (0,0)) (by (with_reducible repeat (first|apply qa4|apply qb4|apply qc4));exact BK153.out)) : gb153 ≠ gb164))
          have n8_:=qk4 ((by rw [hg];exact Nat.ne_of_gt (blk_lt (g:=gb153) (o:=.cells #[.int .i64 a0_0,.int .i64 a0_1,.slice A0_2 l0_2.length c0_2,.slice A0_3 l0_3.length c0_3] 31 (0,0)) (by (with_reducible repeat (first|apply qa4|apply qb4|apply qc4));exact BK153.out)) : gb164 ≠ gb153))
          have n9_:=qk4 ((by rw [hg];exact Nat.ne_of_lt (blk_lt (g:=gb154) (o:=.cells #[.int .i64 0,.int .i64 0,.slice none 0 0,.slice none 0 0] 31 (0,0)) (by (with_reducible repeat (first|apply qa4|apply qb4|apply qc4));exact BK154.out)) : gb154 ≠ gb164))
          have n10_:=qk4 ((by rw [hg];exact Nat.ne_of_gt (blk_lt (g:=gb154) (o:=.cells #[.int .i64 0,.int .i64 0,.slice none 0 0,.slice none 0 0] 31 (0,0)) (by (with_reducible repeat (first|apply qa4|apply qb4|apply qc4));exact BK154.out)) : gb164 ≠ gb154))
          clear HO163
          clear BK153
          clear BK154
          clear HB
          have HO163:=n0_
          have BK153:=n1_
          have BK154:=n2_
          have HB:=n3_
          have BK164:=n4_
          have GW164:=n5_
          have GE164:=n6_
          have NB153_164:=n7_
          have NB164_153:=n8_
          have NB154_164:=n9_
          have NB164_154:=n10_
          clear n0_ n1_ n2_ n3_ n4_ n5_ n6_ n7_ n8_ n9_ n10_
          clear hb hbox hg
          refine hK.out _ _ ⟨(blk_cell BK153.out 0).trans rfl,(blk_cell BK153.out 1).trans rfl,(blk_cell BK153.out 2).trans rfl,(blk_cell BK153.out 3).trans rfl⟩ (fun hHeld => ?_)
          clear hK K
          refine norm_ (a':=?_) ?_ ?_
          rotate_left
          ·
           show Act.put _ (some 3) _ = _
           simp only [Act.put,sA,sB,sC,i64_w,i32_w]
           rfl
          exact norm_ (by first|(simp only [putAll,Act.put,sA,sB,sC];done)|(simp only [putAll,Act.put,sA,sB,sC];rfl)) (hJ5_8_10 (v159,v162,gb164) _ ⟨hHeld,(by (with_reducible repeat (first|apply qd4|apply qe4|apply qf4));exact HO163.out),(by (with_reducible repeat (first|apply qa4|apply qb4|apply qc4));exact BK153.out),(by (with_reducible repeat (first|apply qa4|apply qb4|apply qc4));exact BK154.out),(by (with_reducible repeat (first|apply qa4|apply qb4|apply qc4));exact BK164.out),GW164.out,GE164.out,NB153_164.out,NB164_153.out,NB154_164.out,NB164_154.out,(by repeat (first|(with_reducible first|exact HB.out|apply qg4|apply qh4|apply qi4|refine qj4 ?_ GE153.out|refine qj4 ?_ GE154.out|refine qj4 ?_ GE164.out)|exact HB.out))⟩)
       ·
        skip
        rintro ⟨v156,gb164⟩ w9 ⟨hS_,h0_,h1_,h2_,h3_,h4_,h5_,h6_,h7_,h8_,h9_,h10_⟩
        have n0_ : Aside0 (Kd.S k70 70 w9 w.heap.size (fun _ => True) v156 y155):=⟨h0_⟩
        have n1_ : Aside0 (w9.heap[gb153]? = some (.cells #[.int .i64 a0_0,.int .i64 a0_1,.slice A0_2 l0_2.length c0_2,.slice A0_3 l0_3.length c0_3] 31 (0,0))):=⟨h1_⟩
        have n2_ : Aside0 (w9.heap[gb154]? = some (.cells #[.int .i64 0,.int .i64 0,.slice none 0 0,.slice none 0 0] 31 (0,0))):=⟨h2_⟩
        have n3_ : Aside0 (w9.heap[gb164]? = some (.cells #[.int .i64 0,.int .i64 0,.slice none 0 0,.slice none 0 0] 31 (0,0))):=⟨h3_⟩
        have n4_ : Aside0 (w.heap.size ≤ gb164):=⟨h4_⟩
        have n5_ : Aside0 (w.heap.size ≤ gb164):=⟨h5_⟩
        have n6_ : Aside0 (gb153 ≠ gb164):=⟨h6_⟩
        have n7_ : Aside0 (gb164 ≠ gb153):=⟨h7_⟩
        have n8_ : Aside0 (gb154 ≠ gb164):=⟨h8_⟩
        have n9_ : Aside0 (gb164 ≠ gb154):=⟨h9_⟩
        have n10_ : Aside0 (Below w.heap.size w w9):=⟨h10_⟩
        clear BK153
        clear BK154
        clear HB
        clear h0_ h1_ h2_ h3_ h4_ h5_ h6_ h7_ h8_ h9_ h10_
        have HO157:=n0_
        have BK153:=n1_
        have BK154:=n2_
        have BK164:=n3_
        have GW164:=n4_
        have GE164:=n5_
        have NB153_164:=n6_
        have NB164_153:=n7_
        have NB154_164:=n8_
        have NB164_154:=n9_
        have HB:=n10_
        clear n0_ n1_ n2_ n3_ n4_ n5_ n6_ n7_ n8_ n9_ n10_
        have hHeld : w9.cell? ⟨gb153,0,none⟩ = some (.int .i64 a0_0) ∧ w9.cell? ⟨gb153,1,none⟩ = some (.int .i64 a0_1) ∧ w9.cell? ⟨gb153,2,none⟩ = some (.slice A0_2 l0_2.length c0_2) ∧ w9.cell? ⟨gb153,3,none⟩ = some (.slice A0_3 l0_3.length c0_3):=hS_
        refine norm_ (a':=?_) ?_ ?_
        rotate_left
        ·
         simp only [putAll,Act.put,sA,sB,sC]
         rfl
        refine one_ (i:=5) (N:=some 11) #[true,true,true,true,true,true,true,true,false,false,true,false] rfl rfl (one_of HT_.out (by kernel_rfl)) (by decide) (fun K hK => ?_)
        refine Kd.R_lit_step k77 _ 77 ?hg (N:=11) ?hd (xs:=([] : List (S77))) (inner:=[]) (ok:=fun _ => True) (okp:=fun _ => True) ?hr ?hp (fun _ hk => hk) trivial (Below.refl _ _) (Nat.le_refl _) (by simp) ?_;(case hd => rfl);(case hg => rfl);(case hr => first|(go_simp;done)|(go_simp;rfl));(case hp => exact (Reps.none _ _))
        intro v159 w10 ho11 hb hg_ hnew_
        clear hg_ hnew_
        (first|rw [← Ny158.out] at ho11|(simp only [Int.reduceToNat] at ho11;rw [← Ny158.out] at ho11))
        have n0_:=qk4 (Kd.S_below (by (with_reducible repeat (first|apply Kd.S_alloc|apply Kd.S_drewN|apply Kd.S_drew));exact HO157.out) hb)
        have n1_:=qk4 (Kd.R_lower ho11 (qm4 (by repeat (first|(with_reducible first|exact HB.out|apply qg4|apply qh4|apply qi4|refine qj4 ?_ GE153.out|refine qj4 ?_ GE154.out|refine qj4 ?_ GE164.out)|exact HB.out))))
        have n2_:=qk4 (ql4 (g:=gb153) (o:=.cells #[.int .i64 a0_0,.int .i64 a0_1,.slice A0_2 l0_2.length c0_2,.slice A0_3 l0_3.length c0_3] 31 (0,0)) (by (with_reducible repeat (first|apply qa4|apply qb4|apply qc4));exact BK153.out) hb)
        have n3_:=qk4 (ql4 (g:=gb154) (o:=.cells #[.int .i64 0,.int .i64 0,.slice none 0 0,.slice none 0 0] 31 (0,0)) (by (with_reducible repeat (first|apply qa4|apply qb4|apply qc4));exact BK154.out) hb)
        have n4_:=qk4 (ql4 (g:=gb164) (o:=.cells #[.int .i64 0,.int .i64 0,.slice none 0 0,.slice none 0 0] 31 (0,0)) (by (with_reducible repeat (first|apply qa4|apply qb4|apply qc4));exact BK164.out) hb)
        have n5_:=qk4 (sN (by repeat (first|(with_reducible first|exact HB.out|apply qg4|apply qh4|apply qi4|refine qj4 ?_ GE153.out|refine qj4 ?_ GE154.out|refine qj4 ?_ GE164.out)|exact HB.out)) hb)
        clear HO157
        clear BK153
        clear BK154
        clear BK164
        clear HB
        have HO157:=n0_
        have HO160:=n1_
        have BK153:=n2_
        have BK154:=n3_
        have BK164:=n4_
        have HB:=n5_
        clear n0_ n1_ n2_ n3_ n4_ n5_
        clear hb ho11
        refine hK.out _ _ ⟨(blk_cell BK153.out 0).trans rfl,(blk_cell BK153.out 1).trans rfl,(blk_cell BK153.out 2).trans rfl,(blk_cell BK153.out 3).trans rfl⟩ (fun hHeld => ?_)
        clear hK K
        refine norm_ (a':=?_) ?_ ?_
        rotate_left
        ·
         show Act.put _ (some 11) _ = _
         simp only [Act.put,sA,sB,sC,i64_w,i32_w]
         rfl
        exact norm_ (by first|(simp only [putAll,Act.put,sA,sB,sC];done)|(simp only [putAll,Act.put,sA,sB,sC];rfl)) (hJ4_5_10 (v156,v159,gb164) _ ⟨hHeld,(by (with_reducible repeat (first|apply Kd.S_alloc|apply Kd.S_drewN|apply Kd.S_drew));exact HO157.out),(by (with_reducible repeat (first|apply qd4|apply qe4|apply qf4));exact HO160.out),(by (with_reducible repeat (first|apply qa4|apply qb4|apply qc4));exact BK153.out),(by (with_reducible repeat (first|apply qa4|apply qb4|apply qc4));exact BK154.out),(by (with_reducible repeat (first|apply qa4|apply qb4|apply qc4));exact BK164.out),GW164.out,GE164.out,NB153_164.out,NB164_153.out,NB154_164.out,NB164_154.out,(by repeat (first|(with_reducible first|exact HB.out|apply qg4|apply qh4|apply qi4|refine qj4 ?_ GE153.out|refine qj4 ?_ GE154.out|refine qj4 ?_ GE164.out)|exact HB.out))⟩)
      ·
       skip
       rintro ⟨v156,v159⟩ w10 ⟨hS_,h0_,h1_,h2_,h3_,h4_⟩
       have n0_ : Aside0 (Kd.S k70 70 w10 w.heap.size (fun _ => True) v156 y155):=⟨h0_⟩
       have n1_ : Aside0 (Kd.R k77 77 w10 w.heap.size (fun _ => True) v159 y158):=⟨h1_⟩
       have n2_ : Aside0 (w10.heap[gb153]? = some (.cells #[.int .i64 a0_0,.int .i64 a0_1,.slice A0_2 l0_2.length c0_2,.slice A0_3 l0_3.length c0_3] 31 (0,0))):=⟨h2_⟩
       have n3_ : Aside0 (w10.heap[gb154]? = some (.cells #[.int .i64 0,.int .i64 0,.slice none 0 0,.slice none 0 0] 31 (0,0))):=⟨h3_⟩
       have n4_ : Aside0 (Below w.heap.size w w10):=⟨h4_⟩
       clear BK153
       clear BK154
       clear HB
       clear h0_ h1_ h2_ h3_ h4_
       have HO157:=n0_
       have HO160:=n1_
       have BK153:=n2_
       have BK154:=n3_
       have HB:=n4_
       clear n0_ n1_ n2_ n3_ n4_
       have hHeld : w10.cell? ⟨gb153,0,none⟩ = some (.int .i64 a0_0) ∧ w10.cell? ⟨gb153,1,none⟩ = some (.int .i64 a0_1) ∧ w10.cell? ⟨gb153,2,none⟩ = some (.slice A0_2 l0_2.length c0_2) ∧ w10.cell? ⟨gb153,3,none⟩ = some (.slice A0_3 l0_3.length c0_3):=hS_
       refine norm_ (a':=?_) ?_ ?_
       rotate_left
       ·
        simp only [putAll,Act.put,sA,sB,sC]
        rfl
       refine two_ (i:=8) (j:=10) (Ni:=some 14) (Nj:=some 3) #[true,true,true,true,true,true,true,true,true,false,false,false] #[true,true,true,true,true,true,true,true,false,false,true,false] rfl rfl rfl rfl (two_of HT_.out (by kernel_rfl)) (by decide) (by decide) (fun K hK => ?_) (fun K hK => ?_)
       ·
        skip
        refine Kd.R_append_rows_step k77 (w0:=w) w.heap.size (by rfl) (.tmp 11) (.tmp 13) 29 77 (.agg #[(.int .i64 0),(.int .i64 0),(.int .i64 0),(.int .i64 0),(.int .i64 0),(.int .i64 0)]) 48 rfl Try.underlying29 info77 rfl (by decide) (by omega) v159 y158 l0_3 _ _ _ (fun _ => True) (fun _ => False) rfl rfl ?aO ?aR (fun _ _ h => h) (fun _ h => h.elim) ?aF ?aB ?aS ?aL ?_
        (case aR => repeat (first|exact (Kd.C_below HR0_3.out HB.out)|(with_reducible refine Kd.C_alloc ?_ _)|(with_reducible refine Kd.C_drewN ?_ _)|(with_reducible refine Kd.C_drew ?_)))
        (case aB => exact (by repeat (first|(with_reducible first|exact HB.out|apply qg4|apply qh4|apply qi4|refine qj4 ?_ GE153.out|refine qj4 ?_ GE154.out)|exact HB.out)))
        (case aF => exact (fun _ _ => trivial))
        (case aO => exact (by (with_reducible repeat (first|apply qd4|apply qe4|apply qf4));exact HO160.out))
        (case aS => exact (qm4 (by repeat (first|(with_reducible first|exact HB.out|apply qg4|apply qh4|apply qi4|refine qj4 ?_ GE153.out|refine qj4 ?_ GE154.out)|exact HB.out))))
        (case aL => have:=LMc2.out;omega)
        intro v162 w11 ho hb hg hat
        rw [← Ny161.out] at ho
        have n0_:=qk4 (blk_grown (g:=gb153) (o:=.cells #[.int .i64 a0_0,.int .i64 a0_1,.slice A0_2 l0_2.length c0_2,.slice A0_3 l0_3.length c0_3] 31 (0,0)) (by (with_reducible repeat (first|apply qa4|apply qb4|apply qc4));exact BK153.out) hg (Kd.R_ne HO160.out BK153.out (by decide)))
        have n1_:=qk4 (blk_grown (g:=gb154) (o:=.cells #[.int .i64 0,.int .i64 0,.slice none 0 0,.slice none 0 0] 31 (0,0)) (by (with_reducible repeat (first|apply qa4|apply qb4|apply qc4));exact BK154.out) hg (Kd.R_ne HO160.out BK154.out (by decide)))
        have n2_:=qk4 (Kd.S_over' (by (with_reducible repeat (first|apply Kd.S_alloc|apply Kd.S_drewN|apply Kd.S_drew));exact HO157.out) (Kd.R_typed (by (with_reducible repeat (first|apply qd4|apply qe4|apply qf4));exact HO160.out)) (by decide) hg)
        have n3_:=qk4 (hb)
        have n4_:=qk4 (ho)
        clear BK153
        clear BK154
        clear HO157
        clear HB
        clear HO160
        have BK153:=n0_
        have BK154:=n1_
        have HO157:=n2_
        have HB:=n3_
        have HO163:=n4_
        clear n0_ n1_ n2_ n3_ n4_
        clear ho hb hg hat
        obtain ⟨Ao12,co12,eo12⟩:=Kd.R_slice HO163.out
        (first|subst eo12|(injection eo12 with f1_ f2_ f3_;have f4_:=f1_.symm;have f5_:=f3_.symm;clear f1_ f2_ f3_;subst f4_;subst f5_))
        obtain ⟨Ao13,co13,eo13⟩:=Kd.S_slice HO157.out
        (first|subst eo13|(injection eo13 with f1_ f2_ f3_;have f4_:=f1_.symm;have f5_:=f3_.symm;clear f1_ f2_ f3_;subst f4_;subst f5_))
        refine hK.out _ _ ⟨(blk_cell BK153.out 0).trans rfl,(blk_cell BK153.out 1).trans rfl,(blk_cell BK153.out 2).trans rfl,(blk_cell BK153.out 3).trans rfl⟩ (fun hHeld => ?_)
        clear hK K
        refine norm_ (a':=?_) ?_ ?_
        rotate_left
        ·
         show Act.put _ (some 14) _ = _
         simp only [Act.put,sA,sB,sC,i64_w,i32_w]
         rfl
        refine pure_ (i:=9) (N:=some 15) (v:=?_) (a':=?_) #[true,true,true,true,true,true,true,true,true,true,false,false] rfl rfl (any_of HT_.out (by kernel_rfl)) (fun _ _ _ h => h) (Or.inl ⟨by rfl,?_⟩) ?_ ?_
        rotate_left
        ·
         intro w'
         go_simp
         with_reducible rfl
        rotate_left
        ·
         simp only [Act.put,sA,sB,sC,i64_w,i32_w]
         rfl
        exact norm_ (by first|(simp only [putAll,Act.put,sA,sB,sC];done)|(simp only [putAll,Act.put,sA,sB,sC];rfl)) (hJ4_5_8 (.slice Ao13 y155.length co13,v159,.slice Ao12 y161.length co12) _ ⟨hHeld,(by (with_reducible repeat (first|apply Kd.S_alloc|apply Kd.S_drewN|apply Kd.S_drew));exact HO157.out),(by (with_reducible repeat (first|apply qd4|apply qe4|apply qf4));exact HO163.out),(by (with_reducible repeat (first|apply qa4|apply qb4|apply qc4));exact BK153.out),(by (with_reducible repeat (first|apply qa4|apply qb4|apply qc4));exact BK154.out),(by repeat (first|(with_reducible first|exact HB.out|apply qg4|apply qh4|apply qi4|refine qj4 ?_ GE153.out|refine qj4 ?_ GE154.out)|exact HB.out))⟩)
       ·
        skip
        refine box_step ?hg (N:=3) ?hd (cs:=#[.int .i64 0,.int .i64 0,.slice none 0 0,.slice none 0 0]) (t:=31) ?hr ?_;(case hd => rfl);(case hg => rfl);(case hr => first|(go_simp;done)|(go_simp;rfl))
        intro gb164 hg w11 hbox hb
        have n0_:=qk4 (Kd.S_below (by (with_reducible repeat (first|apply Kd.S_alloc|apply Kd.S_drewN|apply Kd.S_drew));exact HO157.out) hb)
        have n1_:=qk4 (Kd.R_below (by (with_reducible repeat (first|apply qd4|apply qe4|apply qf4));exact HO160.out) hb)
        have n2_:=qk4 (ql4 (g:=gb153) (o:=.cells #[.int .i64 a0_0,.int .i64 a0_1,.slice A0_2 l0_2.length c0_2,.slice A0_3 l0_3.length c0_3] 31 (0,0)) (by (with_reducible repeat (first|apply qa4|apply qb4|apply qc4));exact BK153.out) hb)
        have n3_:=qk4 (ql4 (g:=gb154) (o:=.cells #[.int .i64 0,.int .i64 0,.slice none 0 0,.slice none 0 0] 31 (0,0)) (by (with_reducible repeat (first|apply qa4|apply qb4|apply qc4));exact BK154.out) hb)
        have n4_:=qk4 (sN (by repeat (first|(with_reducible first|exact HB.out|apply qg4|apply qh4|apply qi4|refine qj4 ?_ GE153.out|refine qj4 ?_ GE154.out)|exact HB.out)) hb)
        have n5_:=qk4 (hbox)
        have n6_:=qk4 ((by rw [hg];exact (qm4 (by repeat (first|(with_reducible first|exact HB.out|apply qg4|apply qh4|apply qi4|refine qj4 ?_ GE153.out|refine qj4 ?_ GE154.out)|exact HB.out))) : w.heap.size ≤ gb164))
        have n7_:=qk4 ((by rw [hg];exact (qm4 (by repeat (first|(with_reducible first|exact HB.out|apply qg4|apply qh4|apply qi4|refine qj4 ?_ GE153.out|refine qj4 ?_ GE154.out)|exact HB.out))) : w.heap.size ≤ gb164))
        have n8_:=qk4 ((by rw [hg];exact Nat.ne_of_lt (blk_lt (g:=gb153) (o:=.cells #[.int .i64 a0_0,.int .i64 a0_1,.slice A0_2 l0_2.length c0_2,.slice A0_3 l0_3.length c0_3] 31 (0,0)) (by (with_reducible repeat (first|apply qa4|apply qb4|apply qc4));exact BK153.out)) : gb153 ≠ gb164))
        have n9_:=qk4 ((by rw [hg];exact Nat.ne_of_gt (blk_lt (g:=gb153) (o:=.cells #[.int .i64 a0_0,.int .i64 a0_1,.slice A0_2 l0_2.length c0_2,.slice A0_3 l0_3.length c0_3] 31 (0,0)) (by (with_reducible repeat (first|apply qa4|apply qb4|apply qc4));exact BK153.out)) : gb164 ≠ gb153))
        have n10_:=qk4 ((by rw [hg];exact Nat.ne_of_lt (blk_lt (g:=gb154) (o:=.cells #[.int .i64 0,.int .i64 0,.slice none 0 0,.slice none 0 0] 31 (0,0)) (by (with_reducible repeat (first|apply qa4|apply qb4|apply qc4));exact BK154.out)) : gb154 ≠ gb164))
        have n11_:=qk4 ((by rw [hg];exact Nat.ne_of_gt (blk_lt (g:=gb154) (o:=.cells #[.int .i64 0,.int .i64 0,.slice none 0 0,.slice none 0 0] 31 (0,0)) (by (with_reducible repeat (first|apply qa4|apply qb4|apply qc4));exact BK154.out)) : gb164 ≠ gb154))
        clear HO157
        clear HO160
        clear BK153
        clear BK154
        clear HB
        have HO157:=n0_
        have HO160:=n1_
        have BK153:=n2_
        have BK154:=n3_
        have HB:=n4_
        have BK164:=n5_
        have GW164:=n6_
        have GE164:=n7_
        have NB153_164:=n8_
        have NB164_153:=n9_
        have NB154_164:=n10_
        have NB164_154:=n11_
        clear n0_ n1_ n2_ n3_ n4_ n5_ n6_ n7_ n8_ n9_ n10_ n11_
        clear hb hbox hg
        refine hK.out _ _ ⟨(blk_cell BK153.out 0).trans rfl,(blk_cell BK153.out 1).trans rfl,(blk_cell BK153.out 2).trans rfl,(blk_cell BK153.out 3).trans rfl⟩ (fun hHeld => ?_)
        clear hK K
        refine norm_ (a':=?_) ?_ ?_
        rotate_left
        ·
         show Act.put _ (some 3) _ = _
         simp only [Act.put,sA,sB,sC,i64_w,i32_w]
         rfl
        exact norm_ (by first|(simp only [putAll,Act.put,sA,sB,sC];done)|(simp only [putAll,Act.put,sA,sB,sC];rfl)) (hJ4_5_10 (v156,v159,gb164) _ ⟨hHeld,(by (with_reducible repeat (first|apply Kd.S_alloc|apply Kd.S_drewN|apply Kd.S_drew));exact HO157.out),(by (with_reducible repeat (first|apply qd4|apply qe4|apply qf4));exact HO160.out),(by (with_reducible repeat (first|apply qa4|apply qb4|apply qc4));exact BK153.out),(by (with_reducible repeat (first|apply qa4|apply qb4|apply qc4));exact BK154.out),(by (with_reducible repeat (first|apply qa4|apply qb4|apply qc4));exact BK164.out),GW164.out,GE164.out,NB153_164.out,NB164_153.out,NB154_164.out,NB164_154.out,(by repeat (first|(with_reducible first|exact HB.out|apply qg4|apply qh4|apply qi4|refine qj4 ?_ GE153.out|refine qj4 ?_ GE154.out|refine qj4 ?_ GE164.out)|exact HB.out))⟩)
     ·
      skip
      rintro ⟨v159,v162,gb164⟩ w10 ⟨hS_,h0_,h1_,h2_,h3_,h4_,h5_,h6_,h7_,h8_,h9_,h10_⟩
      have n0_ : Aside0 (Kd.R k77 77 w10 w.heap.size (fun _ => True) v162 y161):=⟨h0_⟩
      have n1_ : Aside0 (w10.heap[gb153]? = some (.cells #[.int .i64 a0_0,.int .i64 a0_1,.slice A0_2 l0_2.length c0_2,.slice A0_3 l0_3.length c0_3] 31 (0,0))):=⟨h1_⟩
      have n2_ : Aside0 (w10.heap[gb154]? = some (.cells #[.int .i64 0,.int .i64 0,.slice none 0 0,.slice none 0 0] 31 (0,0))):=⟨h2_⟩
      have n3_ : Aside0 (w10.heap[gb164]? = some (.cells #[.int .i64 0,.int .i64 0,.slice none 0 0,.slice none 0 0] 31 (0,0))):=⟨h3_⟩
      have n4_ : Aside0 (w.heap.size ≤ gb164):=⟨h4_⟩
      have n5_ : Aside0 (w.heap.size ≤ gb164):=⟨h5_⟩
      have n6_ : Aside0 (gb153 ≠ gb164):=⟨h6_⟩
      have n7_ : Aside0 (gb164 ≠ gb153):=⟨h7_⟩
      have n8_ : Aside0 (gb154 ≠ gb164):=⟨h8_⟩
      have n9_ : Aside0 (gb164 ≠ gb154):=⟨h9_⟩
      have n10_ : Aside0 (Below w.heap.size w w10):=⟨h10_⟩
      clear BK153
      clear BK154
      clear HB
      clear h0_ h1_ h2_ h3_ h4_ h5_ h6_ h7_ h8_ h9_ h10_
      have HO163:=n0_
      have BK153:=n1_
      have BK154:=n2_
      have BK164:=n3_
      have GW164:=n4_
      have GE164:=n5_
      have NB153_164:=n6_
      have NB164_153:=n7_
      have NB154_164:=n8_
      have NB164_154:=n9_
      have HB:=n10_
      clear n0_ n1_ n2_ n3_ n4_ n5_ n6_ n7_ n8_ n9_ n10_
      have hHeld : w10.cell? ⟨gb153,0,none⟩ = some (.int .i64 a0_0) ∧ w10.cell? ⟨gb153,1,none⟩ = some (.int .i64 a0_1) ∧ w10.cell? ⟨gb153,2,none⟩ = some (.slice A0_2 l0_2.length c0_2) ∧ w10.cell? ⟨gb153,3,none⟩ = some (.slice A0_3 l0_3.length c0_3):=hS_
      refine norm_ (a':=?_) ?_ ?_
      rotate_left
      ·
       simp only [putAll,Act.put,sA,sB,sC]
       rfl
      refine one_ (i:=4) (N:=some 10) #[true,true,true,true,true,true,true,true,true,false,true,false] rfl rfl (one_of HT_.out (by kernel_rfl)) (by decide) (fun K hK => ?_)
      refine Kd.S_lit_step k70 _ 70 ?hg (N:=10) ?hd (xs:=([] : List (S70))) (inner:=[]) (ok:=fun _ => True) (okp:=fun _ => True) ?hr ?hp (fun _ hk => hk) trivial (Below.refl _ _) (Nat.le_refl _) (by simp) ?_;(case hd => rfl);(case hg => rfl);(case hr => first|(go_simp;done)|(go_simp;rfl));(case hp => exact (Reps.none _ _))
      intro v156 w11 ho12 hb hg_ hnew_
      clear hg_ hnew_
      (first|rw [← Ny155.out] at ho12|(simp only [Int.reduceToNat] at ho12;rw [← Ny155.out] at ho12))
      have n0_:=qk4 (Kd.R_below (by (with_reducible repeat (first|apply qd4|apply qe4|apply qf4));exact HO163.out) hb)
      have n1_:=qk4 (Kd.S_lower ho12 (qm4 (by repeat (first|(with_reducible first|exact HB.out|apply qg4|apply qh4|apply qi4|refine qj4 ?_ GE153.out|refine qj4 ?_ GE154.out|refine qj4 ?_ GE164.out)|exact HB.out))))
      have n2_:=qk4 (ql4 (g:=gb153) (o:=.cells #[.int .i64 a0_0,.int .i64 a0_1,.slice A0_2 l0_2.length c0_2,.slice A0_3 l0_3.length c0_3] 31 (0,0)) (by (with_reducible repeat (first|apply qa4|apply qb4|apply qc4));exact BK153.out) hb)
      have n3_:=qk4 (ql4 (g:=gb154) (o:=.cells #[.int .i64 0,.int .i64 0,.slice none 0 0,.slice none 0 0] 31 (0,0)) (by (with_reducible repeat (first|apply qa4|apply qb4|apply qc4));exact BK154.out) hb)
      have n4_:=qk4 (ql4 (g:=gb164) (o:=.cells #[.int .i64 0,.int .i64 0,.slice none 0 0,.slice none 0 0] 31 (0,0)) (by (with_reducible repeat (first|apply qa4|apply qb4|apply qc4));exact BK164.out) hb)
      have n5_:=qk4 (sN (by repeat (first|(with_reducible first|exact HB.out|apply qg4|apply qh4|apply qi4|refine qj4 ?_ GE153.out|refine qj4 ?_ GE154.out|refine qj4 ?_ GE164.out)|exact HB.out)) hb)
      clear HO163
      clear BK153
      clear BK154
      clear BK164
      clear HB
      have HO163:=n0_
      have HO157:=n1_
      have BK153:=n2_
      have BK154:=n3_
      have BK164:=n4_
      have HB:=n5_
      clear n0_ n1_ n2_ n3_ n4_ n5_
      clear hb ho12
      obtain ⟨Ao13,co13,eo13⟩:=Kd.R_slice HO163.out
      (first|subst eo13|(injection eo13 with f1_ f2_ f3_;have f4_:=f1_.symm;have f5_:=f3_.symm;clear f1_ f2_ f3_;subst f4_;subst f5_))
      obtain ⟨Ao14,co14,eo14⟩:=Kd.S_slice HO157.out
      (first|subst eo14|(injection eo14 with f1_ f2_ f3_;have f4_:=f1_.symm;have f5_:=f3_.symm;clear f1_ f2_ f3_;subst f4_;subst f5_))
      refine hK.out _ _ ⟨(blk_cell BK153.out 0).trans rfl,(blk_cell BK153.out 1).trans rfl,(blk_cell BK153.out 2).trans rfl,(blk_cell BK153.out 3).trans rfl⟩ (fun hHeld => ?_)
      clear hK K
      refine norm_ (a':=?_) ?_ ?_
      rotate_left
      ·
       show Act.put _ (some 10) _ = _
       simp only [Act.put,sA,sB,sC,i64_w,i32_w]
       rfl
      refine pure_ (i:=9) (N:=some 15) (v:=?_) (a':=?_) #[true,true,true,true,true,true,true,true,true,true,true,false] rfl rfl (any_of HT_.out (by kernel_rfl)) (fun _ _ _ h => h) (Or.inl ⟨by rfl,?_⟩) ?_ ?_
      rotate_left
      ·
       intro w'
       go_simp
       with_reducible rfl
      rotate_left
      ·
       simp only [Act.put,sA,sB,sC,i64_w,i32_w]
       rfl
      exact norm_ (by first|(simp only [putAll,Act.put,sA,sB,sC];done)|(simp only [putAll,Act.put,sA,sB,sC];rfl)) (hJ4_5_8_10 (.slice Ao14 y155.length co14,v159,.slice Ao13 y161.length co13,gb164) _ ⟨hHeld,(by (with_reducible repeat (first|apply Kd.S_alloc|apply Kd.S_drewN|apply Kd.S_drew));exact HO157.out),(by (with_reducible repeat (first|apply qd4|apply qe4|apply qf4));exact HO163.out),(by (with_reducible repeat (first|apply qa4|apply qb4|apply qc4));exact BK153.out),(by (with_reducible repeat (first|apply qa4|apply qb4|apply qc4));exact BK154.out),(by (with_reducible repeat (first|apply qa4|apply qb4|apply qc4));exact BK164.out),GW164.out,GE164.out,NB153_164.out,NB164_153.out,NB154_164.out,NB164_154.out,(by repeat (first|(with_reducible first|exact HB.out|apply qg4|apply qh4|apply qi4|refine qj4 ?_ GE153.out|refine qj4 ?_ GE154.out|refine qj4 ?_ GE164.out)|exact HB.out))⟩)
    ·
     skip
     rintro ⟨v156,v159,gb164⟩ w11 ⟨hS_,h0_,h1_,h2_,h3_,h4_,h5_,h6_,h7_,h8_,h9_,h10_,h11_⟩
     have n0_ : Aside0 (Kd.S k70 70 w11 w.heap.size (fun _ => True) v156 y155):=⟨h0_⟩
     have n1_ : Aside0 (Kd.R k77 77 w11 w.heap.size (fun _ => True) v159 y158):=⟨h1_⟩
     have n2_ : Aside0 (w11.heap[gb153]? = some (.cells #[.int .i64 a0_0,.int .i64 a0_1,.slice A0_2 l0_2.length c0_2,.slice A0_3 l0_3.length c0_3] 31 (0,0))):=⟨h2_⟩
     have n3_ : Aside0 (w11.heap[gb154]? = some (.cells #[.int .i64 0,.int .i64 0,.slice none 0 0,.slice none 0 0] 31 (0,0))):=⟨h3_⟩
     have n4_ : Aside0 (w11.heap[gb164]? = some (.cells #[.int .i64 0,.int .i64 0,.slice none 0 0,.slice none 0 0] 31 (0,0))):=⟨h4_⟩
     have n5_ : Aside0 (w.heap.size ≤ gb164):=⟨h5_⟩
     have n6_ : Aside0 (w.heap.size ≤ gb164):=⟨h6_⟩
     have n7_ : Aside0 (gb153 ≠ gb164):=⟨h7_⟩
     have n8_ : Aside0 (gb164 ≠ gb153):=⟨h8_⟩
     have n9_ : Aside0 (gb154 ≠ gb164):=⟨h9_⟩
     have n10_ : Aside0 (gb164 ≠ gb154):=⟨h10_⟩
     have n11_ : Aside0 (Below w.heap.size w w11):=⟨h11_⟩
     clear BK153
     clear BK154
     clear HB
     clear h0_ h1_ h2_ h3_ h4_ h5_ h6_ h7_ h8_ h9_ h10_ h11_
     have HO157:=n0_
     have HO160:=n1_
     have BK153:=n2_
     have BK154:=n3_
     have BK164:=n4_
     have GW164:=n5_
     have GE164:=n6_
     have NB153_164:=n7_
     have NB164_153:=n8_
     have NB154_164:=n9_
     have NB164_154:=n10_
     have HB:=n11_
     clear n0_ n1_ n2_ n3_ n4_ n5_ n6_ n7_ n8_ n9_ n10_ n11_
     have hHeld : w11.cell? ⟨gb153,0,none⟩ = some (.int .i64 a0_0) ∧ w11.cell? ⟨gb153,1,none⟩ = some (.int .i64 a0_1) ∧ w11.cell? ⟨gb153,2,none⟩ = some (.slice A0_2 l0_2.length c0_2) ∧ w11.cell? ⟨gb153,3,none⟩ = some (.slice A0_3 l0_3.length c0_3):=hS_
     refine norm_ (a':=?_) ?_ ?_
     rotate_left
     ·
      simp only [putAll,Act.put,sA,sB,sC]
      rfl
     refine one_ (i:=8) (N:=some 14) #[true,true,true,true,true,true,true,true,true,false,true,false] rfl rfl (one_of HT_.out (by kernel_rfl)) (by decide) (fun K hK => ?_)
     refine Kd.R_append_rows_step k77 (w0:=w) w.heap.size (by rfl) (.tmp 11) (.tmp 13) 29 77 (.agg #[(.int .i64 0),(.int .i64 0),(.int .i64 0),(.int .i64 0),(.int .i64 0),(.int .i64 0)]) 48 rfl Try.underlying29 info77 rfl (by decide) (by omega) v159 y158 l0_3 _ _ _ (fun _ => True) (fun _ => False) rfl rfl ?aO ?aR (fun _ _ h => h) (fun _ h => h.elim) ?aF ?aB ?aS ?aL ?_
     (case aR => repeat (first|exact (Kd.C_below HR0_3.out HB.out)|(with_reducible refine Kd.C_alloc ?_ _)|(with_reducible refine Kd.C_drewN ?_ _)|(with_reducible refine Kd.C_drew ?_)))
     (case aB => exact (by repeat (first|(with_reducible first|exact HB.out|apply qg4|apply qh4|apply qi4|refine qj4 ?_ GE153.out|refine qj4 ?_ GE154.out|refine qj4 ?_ GE164.out)|exact HB.out)))
     (case aF => exact (fun _ _ => trivial))
     (case aO => exact (by (with_reducible repeat (first|apply qd4|apply qe4|apply qf4));exact HO160.out))
     (case aS => exact (qm4 (by repeat (first|(with_reducible first|exact HB.out|apply qg4|apply qh4|apply qi4|refine qj4 ?_ GE153.out|refine qj4 ?_ GE154.out|refine qj4 ?_ GE164.out)|exact HB.out))))
     (case aL => have:=LMc2.out;omega)
     intro v162 w12 ho hb hg hat
     rw [← Ny161.out] at ho
     have n0_:=qk4 (blk_grown (g:=gb153) (o:=.cells #[.int .i64 a0_0,.int .i64 a0_1,.slice A0_2 l0_2.length c0_2,.slice A0_3 l0_3.length c0_3] 31 (0,0)) (by (with_reducible repeat (first|apply qa4|apply qb4|apply qc4));exact BK153.out) hg (Kd.R_ne HO160.out BK153.out (by decide)))
     have n1_:=qk4 (blk_grown (g:=gb154) (o:=.cells #[.int .i64 0,.int .i64 0,.slice none 0 0,.slice none 0 0] 31 (0,0)) (by (with_reducible repeat (first|apply qa4|apply qb4|apply qc4));exact BK154.out) hg (Kd.R_ne HO160.out BK154.out (by decide)))
     have n2_:=qk4 (Kd.S_over' (by (with_reducible repeat (first|apply Kd.S_alloc|apply Kd.S_drewN|apply Kd.S_drew));exact HO157.out) (Kd.R_typed (by (with_reducible repeat (first|apply qd4|apply qe4|apply qf4));exact HO160.out)) (by decide) hg)
     have n3_:=qk4 (blk_grown (g:=gb164) (o:=.cells #[.int .i64 0,.int .i64 0,.slice none 0 0,.slice none 0 0] 31 (0,0)) (by (with_reducible repeat (first|apply qa4|apply qb4|apply qc4));exact BK164.out) hg (Kd.R_ne HO160.out BK164.out (by decide)))
     have n4_:=qk4 (hb)
     have n5_:=qk4 (ho)
     clear BK153
     clear BK154
     clear HO157
     clear BK164
     clear HB
     clear HO160
     have BK153:=n0_
     have BK154:=n1_
     have HO157:=n2_
     have BK164:=n3_
     have HB:=n4_
     have HO163:=n5_
     clear n0_ n1_ n2_ n3_ n4_ n5_
     clear ho hb hg hat
     obtain ⟨Ao13,co13,eo13⟩:=Kd.R_slice HO163.out
     (first|subst eo13|(injection eo13 with f1_ f2_ f3_;have f4_:=f1_.symm;have f5_:=f3_.symm;clear f1_ f2_ f3_;subst f4_;subst f5_))
     obtain ⟨Ao14,co14,eo14⟩:=Kd.S_slice HO157.out
     (first|subst eo14|(injection eo14 with f1_ f2_ f3_;have f4_:=f1_.symm;have f5_:=f3_.symm;clear f1_ f2_ f3_;subst f4_;subst f5_))
     refine hK.out _ _ ⟨(blk_cell BK153.out 0).trans rfl,(blk_cell BK153.out 1).trans rfl,(blk_cell BK153.out 2).trans rfl,(blk_cell BK153.out 3).trans rfl⟩ (fun hHeld => ?_)
     clear hK K
     refine norm_ (a':=?_) ?_ ?_
     rotate_left
     ·
      show Act.put _ (some 14) _ = _
      simp only [Act.put,sA,sB,sC,i64_w,i32_w]
      rfl
     refine pure_ (i:=9) (N:=some 15) (v:=?_) (a':=?_) #[true,true,true,true,true,true,true,true,true,true,true,false] rfl rfl (any_of HT_.out (by kernel_rfl)) (fun _ _ _ h => h) (Or.inl ⟨by rfl,?_⟩) ?_ ?_
     rotate_left
     ·
      intro w'
      go_simp
      with_reducible rfl
     rotate_left
     ·
      simp only [Act.put,sA,sB,sC,i64_w,i32_w]
      rfl
     exact norm_ (by first|(simp only [putAll,Act.put,sA,sB,sC];done)|(simp only [putAll,Act.put,sA,sB,sC];rfl)) (hJ4_5_8_10 (.slice Ao14 y155.length co14,v159,.slice Ao13 y161.length co13,gb164) _ ⟨hHeld,(by (with_reducible repeat (first|apply Kd.S_alloc|apply Kd.S_drewN|apply Kd.S_drew));exact HO157.out),(by (with_reducible repeat (first|apply qd4|apply qe4|apply qf4));exact HO163.out),(by (with_reducible repeat (first|apply qa4|apply qb4|apply qc4));exact BK153.out),(by (with_reducible repeat (first|apply qa4|apply qb4|apply qc4));exact BK154.out),(by (with_reducible repeat (first|apply qa4|apply qb4|apply qc4));exact BK164.out),GW164.out,GE164.out,NB153_164.out,NB164_153.out,NB154_164.out,NB164_154.out,(by repeat (first|(with_reducible first|exact HB.out|apply qg4|apply qh4|apply qi4|refine qj4 ?_ GE153.out|refine qj4 ?_ GE154.out|refine qj4 ?_ GE164.out)|exact HB.out))⟩)
   ·
    skip
    rintro ⟨v156,v159,v162⟩ w13 ⟨hS_,h0_,h1_,h2_,h3_,h4_⟩
    have n0_ : Aside0 (Kd.S k70 70 w13 w.heap.size (fun _ => True) v156 y155):=⟨h0_⟩
    have n1_ : Aside0 (Kd.R k77 77 w13 w.heap.size (fun _ => True) v162 y161):=⟨h1_⟩
    have n2_ : Aside0 (w13.heap[gb153]? = some (.cells #[.int .i64 a0_0,.int .i64 a0_1,.slice A0_2 l0_2.length c0_2,.slice A0_3 l0_3.length c0_3] 31 (0,0))):=⟨h2_⟩
    have n3_ : Aside0 (w13.heap[gb154]? = some (.cells #[.int .i64 0,.int .i64 0,.slice none 0 0,.slice none 0 0] 31 (0,0))):=⟨h3_⟩
    have n4_ : Aside0 (Below w.heap.size w w13):=⟨h4_⟩
    clear BK153
    clear BK154
    clear HB
    clear h0_ h1_ h2_ h3_ h4_
    have HO157:=n0_
    have HO163:=n1_
    have BK153:=n2_
    have BK154:=n3_
    have HB:=n4_
    clear n0_ n1_ n2_ n3_ n4_
    have hHeld : w13.cell? ⟨gb153,0,none⟩ = some (.int .i64 a0_0) ∧ w13.cell? ⟨gb153,1,none⟩ = some (.int .i64 a0_1) ∧ w13.cell? ⟨gb153,2,none⟩ = some (.slice A0_2 l0_2.length c0_2) ∧ w13.cell? ⟨gb153,3,none⟩ = some (.slice A0_3 l0_3.length c0_3):=hS_
    obtain ⟨Ao14,co14,eo14⟩:=Kd.R_slice HO163.out
    (first|subst eo14|(injection eo14 with f1_ f2_ f3_;have f4_:=f1_.symm;have f5_:=f3_.symm;clear f1_ f2_ f3_;subst f4_;subst f5_))
    obtain ⟨Ao15,co15,eo15⟩:=Kd.S_slice HO157.out
    (first|subst eo15|(injection eo15 with f1_ f2_ f3_;have f4_:=f1_.symm;have f5_:=f3_.symm;clear f1_ f2_ f3_;subst f4_;subst f5_))
    refine norm_ (a':=?_) ?_ ?_
    rotate_left
    ·
     simp only [putAll,Act.put,sA,sB,sC]
     rfl
    refine one_ (i:=10) (N:=some 3) #[true,true,true,true,true,true,true,true,true,true,true,false] rfl rfl (one_of HT_.out (by kernel_rfl)) (by decide) (fun K hK => ?_)
    refine box_step ?hg (N:=3) ?hd (cs:=#[.int .i64 0,.int .i64 0,.slice none 0 0,.slice none 0 0]) (t:=31) ?hr ?_;(case hd => rfl);(case hg => rfl);(case hr => first|(go_simp;done)|(go_simp;rfl))
    intro gb164 hg w16 hbox hb
    have n0_:=qk4 (Kd.S_below (by (with_reducible repeat (first|apply Kd.S_alloc|apply Kd.S_drewN|apply Kd.S_drew));exact HO157.out) hb)
    have n1_:=qk4 (Kd.R_below (by (with_reducible repeat (first|apply qd4|apply qe4|apply qf4));exact HO163.out) hb)
    have n2_:=qk4 (ql4 (g:=gb153) (o:=.cells #[.int .i64 a0_0,.int .i64 a0_1,.slice A0_2 l0_2.length c0_2,.slice A0_3 l0_3.length c0_3] 31 (0,0)) (by (with_reducible repeat (first|apply qa4|apply qb4|apply qc4));exact BK153.out) hb)
    have n3_:=qk4 (ql4 (g:=gb154) (o:=.cells #[.int .i64 0,.int .i64 0,.slice none 0 0,.slice none 0 0] 31 (0,0)) (by (with_reducible repeat (first|apply qa4|apply qb4|apply qc4));exact BK154.out) hb)
    have n4_:=qk4 (sN (by repeat (first|(with_reducible first|exact HB.out|apply qg4|apply qh4|apply qi4|refine qj4 ?_ GE153.out|refine qj4 ?_ GE154.out)|exact HB.out)) hb)
    have n5_:=qk4 (hbox)
    have n6_:=qk4 ((by rw [hg];exact (qm4 (by repeat (first|(with_reducible first|exact HB.out|apply qg4|apply qh4|apply qi4|refine qj4 ?_ GE153.out|refine qj4 ?_ GE154.out)|exact HB.out))) : w.heap.size ≤ gb164))
    have n7_:=qk4 ((by rw [hg];exact (qm4 (by repeat (first|(with_reducible first|exact HB.out|apply qg4|apply qh4|apply qi4|refine qj4 ?_ GE153.out|refine qj4 ?_ GE154.out)|exact HB.out))) : w.heap.size ≤ gb164))
    have n8_:=qk4 ((by rw [hg];exact Nat.ne_of_lt (blk_lt (g:=gb153) (o:=.cells #[.int .i64 a0_0,.int .i64 a0_1,.slice A0_2 l0_2.length c0_2,.slice A0_3 l0_3.length c0_3] 31 (0,0)) (by (with_reducible repeat (first|apply qa4|apply qb4|apply qc4));exact BK153.out)) : gb153 ≠ gb164))
    have n9_:=qk4 ((by rw [hg];exact Nat.ne_of_gt (blk_lt (g:=gb153) (o:=.cells #[.int .i64 a0_0,.int .i64 a0_1,.slice A0_2 l0_2.length c0_2,.slice A0_3 l0_3.length c0_3] 31 (0,0)) (by (with_reducible repeat (first|apply qa4|apply qb4|apply qc4));exact BK153.out)) : gb164 ≠ gb153))
    have n10_:=qk4 ((by rw [hg];exact Nat.ne_of_lt (blk_lt (g:=gb154) (o:=.cells #[.int .i64 0,.int .i64 0,.slice none 0 0,.slice none 0 0] 31 (0,0)) (by (with_reducible repeat (first|apply qa4|apply qb4|apply qc4));exact BK154.out)) : gb154 ≠ gb164))
    have n11_:=qk4 ((by rw [hg];exact Nat.ne_of_gt (blk_lt (g:=gb154) (o:=.cells #[.int .i64 0,.int .i64 0,.slice none 0 0,.slice none 0 0] 31 (0,0)) (by (with_reducible repeat (first|apply qa4|apply qb4|apply qc4));exact BK154.out)) : gb164 ≠ gb154))
    clear HO157
    clear HO163
    clear BK153
    clear BK154
    clear HB
    have HO157:=n0_
    have HO163:=n1_
    have BK153:=n2_
    have BK154:=n3_
    have HB:=n4_
    have BK164:=n5_
    have GW164:=n6_
    have GE164:=n7_
    have NB153_164:=n8_
    have NB164_153:=n9_
    have NB154_164:=n10_
    have NB164_154:=n11_
    clear n0_ n1_ n2_ n3_ n4_ n5_ n6_ n7_ n8_ n9_ n10_ n11_
    clear hb hbox hg
    refine hK.out _ _ ⟨(blk_cell BK153.out 0).trans rfl,(blk_cell BK153.out 1).trans rfl,(blk_cell BK153.out 2).trans rfl,(blk_cell BK153.out 3).trans rfl⟩ (fun hHeld => ?_)
    clear hK K
    refine norm_ (a':=?_) ?_ ?_
    rotate_left
    ·
     show Act.put _ (some 3) _ = _
     simp only [Act.put,sA,sB,sC,i64_w,i32_w]
     rfl
    exact norm_ (by first|(simp only [putAll,Act.put,sA,sB,sC];done)|(simp only [putAll,Act.put,sA,sB,sC];rfl)) (hJ4_5_8_10 (.slice Ao15 y155.length co15,v159,.slice Ao14 y161.length co14,gb164) _ ⟨hHeld,(by (with_reducible repeat (first|apply Kd.S_alloc|apply Kd.S_drewN|apply Kd.S_drew));exact HO157.out),(by (with_reducible repeat (first|apply qd4|apply qe4|apply qf4));exact HO163.out),(by (with_reducible repeat (first|apply qa4|apply qb4|apply qc4));exact BK153.out),(by (with_reducible repeat (first|apply qa4|apply qb4|apply qc4));exact BK154.out),(by (with_reducible repeat (first|apply qa4|apply qb4|apply qc4));exact BK164.out),GW164.out,GE164.out,NB153_164.out,NB164_153.out,NB154_164.out,NB164_154.out,(by repeat (first|(with_reducible first|exact HB.out|apply qg4|apply qh4|apply qi4|refine qj4 ?_ GE153.out|refine qj4 ?_ GE154.out|refine qj4 ?_ GE164.out)|exact HB.out))⟩)
  rintro ⟨v156,v159,v162,gb164⟩ w14 ⟨hS_,h0_,h1_,h2_,h3_,h4_,h5_,h6_,h7_,h8_,h9_,h10_,h11_⟩
  have n0_ : Aside0 (Kd.S k70 70 w14 w.heap.size (fun _ => True) v156 y155):=⟨h0_⟩
  have n1_ : Aside0 (Kd.R k77 77 w14 w.heap.size (fun _ => True) v162 y161):=⟨h1_⟩
  have n2_ : Aside0 (w14.heap[gb153]? = some (.cells #[.int .i64 a0_0,.int .i64 a0_1,.slice A0_2 l0_2.length c0_2,.slice A0_3 l0_3.length c0_3] 31 (0,0))):=⟨h2_⟩
  have n3_ : Aside0 (w14.heap[gb154]? = some (.cells #[.int .i64 0,.int .i64 0,.slice none 0 0,.slice none 0 0] 31 (0,0))):=⟨h3_⟩
  have n4_ : Aside0 (w14.heap[gb164]? = some (.cells #[.int .i64 0,.int .i64 0,.slice none 0 0,.slice none 0 0] 31 (0,0))):=⟨h4_⟩
  have n5_ : Aside0 (w.heap.size ≤ gb164):=⟨h5_⟩
  have n6_ : Aside0 (w.heap.size ≤ gb164):=⟨h6_⟩
  have n7_ : Aside0 (gb153 ≠ gb164):=⟨h7_⟩
  have n8_ : Aside0 (gb164 ≠ gb153):=⟨h8_⟩
  have n9_ : Aside0 (gb154 ≠ gb164):=⟨h9_⟩
  have n10_ : Aside0 (gb164 ≠ gb154):=⟨h10_⟩
  have n11_ : Aside0 (Below w.heap.size w w14):=⟨h11_⟩
  clear BK153
  clear BK154
  clear HB
  clear h0_ h1_ h2_ h3_ h4_ h5_ h6_ h7_ h8_ h9_ h10_ h11_
  have HO157:=n0_
  have HO163:=n1_
  have BK153:=n2_
  have BK154:=n3_
  have BK164:=n4_
  have GW164:=n5_
  have GE164:=n6_
  have NB153_164:=n7_
  have NB164_153:=n8_
  have NB154_164:=n9_
  have NB164_154:=n10_
  have HB:=n11_
  clear n0_ n1_ n2_ n3_ n4_ n5_ n6_ n7_ n8_ n9_ n10_ n11_
  have hHeld : w14.cell? ⟨gb153,0,none⟩ = some (.int .i64 a0_0) ∧ w14.cell? ⟨gb153,1,none⟩ = some (.int .i64 a0_1) ∧ w14.cell? ⟨gb153,2,none⟩ = some (.slice A0_2 l0_2.length c0_2) ∧ w14.cell? ⟨gb153,3,none⟩ = some (.slice A0_3 l0_3.length c0_3):=hS_
  obtain ⟨Ao15,co15,eo15⟩:=Kd.R_slice HO163.out
  (first|subst eo15|(injection eo15 with f1_ f2_ f3_;have f4_:=f1_.symm;have f5_:=f3_.symm;clear f1_ f2_ f3_;subst f4_;subst f5_))
  obtain ⟨Ao16,co16,eo16⟩:=Kd.S_slice HO157.out
  (first|subst eo16|(injection eo16 with f1_ f2_ f3_;have f4_:=f1_.symm;have f5_:=f3_.symm;clear f1_ f2_ f3_;subst f4_;subst f5_))
  refine norm_ (a':=?_) ?_ ?_
  rotate_left
  ·
   simp only [putAll,Act.put,sA,sB,sC]
   rfl
  refine one_ (i:=11) (N:=none) #[true,true,true,true,true,true,true,true,true,true,true,true] rfl rfl (one_of HT_.out (by kernel_rfl)) (by decide) (fun K hK => ?_)
  have hs17 : w14.cell? ⟨gb164,0,none⟩ = some (.int .i64 0):=(blk_cell BK164.out 0).trans rfl
  have hfs17:=sJ BK164.out 0
  have hns17_0:=NB153_164.out
  have hns17_1:=NB154_164.out
  have hms17_0:=NB164_153.out
  have hms17_1:=NB164_154.out
  have hs18 : w14.cell? ⟨gb164,1,none⟩ = some (.int .i64 0):=(blk_cell BK164.out 1).trans rfl
  have hfs18:=sJ BK164.out 1
  have hns18_0:=NB153_164.out
  have hns18_1:=NB154_164.out
  have hms18_0:=NB164_153.out
  have hms18_1:=NB164_154.out
  have hs19 : w14.cell? ⟨gb164,2,none⟩ = some (.slice none 0 0):=(blk_cell BK164.out 2).trans rfl
  have hfs19:=sJ BK164.out 2
  have hns19_0:=NB153_164.out
  have hns19_1:=NB154_164.out
  have hms19_0:=NB164_153.out
  have hms19_1:=NB164_154.out
  have hs20 : w14.cell? ⟨gb164,3,none⟩ = some (.slice none 0 0):=(blk_cell BK164.out 3).trans rfl
  have hfs20:=sJ BK164.out 3
  have hns20_0:=NB153_164.out
  have hns20_1:=NB154_164.out
  have hms20_0:=NB164_153.out
  have hms20_1:=NB164_154.out
  refine skip_ (w1:=?_) (by rfl) rfl ?_ ?_
  rotate_left
  ·
   go_simp
   rfl
  refine hK.out _ _ ⟨((cell_far (p:=⟨gb164,_,none⟩) NB153_164.out _).trans (((cell_far (p:=⟨gb164,_,none⟩) NB153_164.out _).trans (((cell_far (p:=⟨gb164,_,none⟩) NB153_164.out _).trans (((cell_far (p:=⟨gb164,_,none⟩) NB153_164.out _).trans (hHeld.1)))))))),((cell_far (p:=⟨gb164,_,none⟩) NB153_164.out _).trans (((cell_far (p:=⟨gb164,_,none⟩) NB153_164.out _).trans (((cell_far (p:=⟨gb164,_,none⟩) NB153_164.out _).trans (((cell_far (p:=⟨gb164,_,none⟩) NB153_164.out _).trans (hHeld.2.1)))))))),((cell_far (p:=⟨gb164,_,none⟩) NB153_164.out _).trans (((cell_far (p:=⟨gb164,_,none⟩) NB153_164.out _).trans (((cell_far (p:=⟨gb164,_,none⟩) NB153_164.out _).trans (((cell_far (p:=⟨gb164,_,none⟩) NB153_164.out _).trans (hHeld.2.2.1)))))))),((cell_far (p:=⟨gb164,_,none⟩) NB153_164.out _).trans (((cell_far (p:=⟨gb164,_,none⟩) NB153_164.out _).trans (((cell_far (p:=⟨gb164,_,none⟩) NB153_164.out _).trans (((cell_far (p:=⟨gb164,_,none⟩) NB153_164.out _).trans (hHeld.2.2.2))))))))⟩ (fun hHeld => ?_)
  clear hK K
  refine done_ (done_of HT_.out (by kernel_rfl)) ?_
  try go_wp2
  go_loopg [4] k (fun kq v4 w' => ∃ (x4_1 : Int) (x165002_1 : List (S70)) (u165002 : Value),v4 = .int .i64 x4_1 ∧ Aside0 (spec_l05Own.l0 kq x4_1 a0_0 a0_1 l0_2 l0_3 a0_0 a0_1 x165002_1 y161 = some (r1,r2,r3,r4)) ∧ Aside0 (kq ≤ k) ∧ Aside0 (Kd.S k70 70 w' w.heap.size (fun _ => True) u165002 x165002_1) ∧ Aside0 (Kd.R k77 77 w' w.heap.size (fun _ => True) (.slice Ao15 y161.length co15) y161) ∧ Aside0 (w'.heap[gb153]? = some (.cells #[.int .i64 a0_0,.int .i64 a0_1,(.slice A0_2 l0_2.length c0_2),(.slice A0_3 l0_3.length c0_3)] 31 (0,0))) ∧ Aside0 (w'.heap[gb154]? = some (.cells #[.int .i64 0,.int .i64 0,(.slice none 0 0),(.slice none 0 0)] 31 (0,0))) ∧ Aside0 (w'.heap[gb164]? = some (.cells #[.int .i64 a0_0,.int .i64 a0_1,u165002,(.slice Ao15 y161.length co15)] 31 (0,0))) ∧ Aside0 (Below w.heap.size w w'))
  case atStart => exact ⟨(0),(y155),(.slice Ao16 y155.length co16),(by first|rfl|(simp;done)|(simp [*];done)),H',⟨Nat.le_refl _⟩,⟨by (with_reducible repeat (first|apply Kd.S_alloc|apply Kd.S_drewN|apply Kd.S_drew));exact Kd.S_mono (Kd.S_far (p:=⟨gb164,3,none⟩) (Kd.S_far (p:=⟨gb164,2,none⟩) (Kd.S_far (p:=⟨gb164,1,none⟩) (Kd.S_far (p:=⟨gb164,0,none⟩) (Kd.S_types HO157.out BK164.out (by decide)) (fun _ hk => hk.2) (.int .i64 a0_0)) (fun _ hk => hk.2) (.int .i64 a0_1)) (fun _ hk => hk.2) (.slice Ao16 y155.length co16)) (fun _ hk => hk.2) (.slice Ao15 y161.length co15)) (fun _ hk => trivial)⟩,⟨by (with_reducible repeat (first|apply qd4|apply qe4|apply qf4));exact Kd.R_mono (Kd.R_far (p:=⟨gb164,3,none⟩) (Kd.R_far (p:=⟨gb164,2,none⟩) (Kd.R_far (p:=⟨gb164,1,none⟩) (Kd.R_far (p:=⟨gb164,0,none⟩) (Kd.R_types HO163.out BK164.out (by decide)) (fun _ hk => hk.2) (.int .i64 a0_0)) (fun _ hk => hk.2) (.int .i64 a0_1)) (fun _ hk => hk.2) (.slice Ao16 y155.length co16)) (fun _ hk => hk.2) (.slice Ao15 y161.length co15)) (fun _ hk => trivial)⟩,⟨by (with_reducible repeat (first|apply qa4|apply qb4|apply qc4));refine blk_far ?_ NB153_164.out _;(with_reducible repeat (first|apply qa4|apply qb4|apply qc4));refine blk_far ?_ NB153_164.out _;(with_reducible repeat (first|apply qa4|apply qb4|apply qc4));refine blk_far ?_ NB153_164.out _;(with_reducible repeat (first|apply qa4|apply qb4|apply qc4));refine blk_far ?_ NB153_164.out _;(with_reducible repeat (first|apply qa4|apply qb4|apply qc4));exact BK153.out⟩,⟨by (with_reducible repeat (first|apply qa4|apply qb4|apply qc4));refine blk_far ?_ NB154_164.out _;(with_reducible repeat (first|apply qa4|apply qb4|apply qc4));refine blk_far ?_ NB154_164.out _;(with_reducible repeat (first|apply qa4|apply qb4|apply qc4));refine blk_far ?_ NB154_164.out _;(with_reducible repeat (first|apply qa4|apply qb4|apply qc4));refine blk_far ?_ NB154_164.out _;(with_reducible repeat (first|apply qa4|apply qb4|apply qc4));exact BK154.out⟩,⟨by (with_reducible repeat (first|apply qa4|apply qb4|apply qc4));refine blk_put (cs:=#[.int .i64 a0_0,.int .i64 a0_1,.slice Ao16 y155.length co16,.slice none 0 0]) ?_ 3 _ rfl;(with_reducible repeat (first|apply qa4|apply qb4|apply qc4));refine blk_put (cs:=#[.int .i64 a0_0,.int .i64 a0_1,.slice none 0 0,.slice none 0 0]) ?_ 2 _ rfl;(with_reducible repeat (first|apply qa4|apply qb4|apply qc4));refine blk_put (cs:=#[.int .i64 a0_0,.int .i64 0,.slice none 0 0,.slice none 0 0]) ?_ 1 _ rfl;(with_reducible repeat (first|apply qa4|apply qb4|apply qc4));refine blk_put (cs:=#[.int .i64 0,.int .i64 0,.slice none 0 0,.slice none 0 0]) ?_ 0 _ rfl;(with_reducible repeat (first|apply qa4|apply qb4|apply qc4));exact BK164.out⟩,⟨by repeat (first|(with_reducible first|exact HB.out|apply qg4|apply qh4|apply qi4|refine qj4 ?_ GE153.out|refine qj4 ?_ GE154.out|refine qj4 ?_ GE164.out)|exact HB.out)⟩⟩
  case round =>
   clear H'
   try clear c2
   try clear p2
   obtain ⟨x4_1,x165002_1,u165002,rfl,HA,HK1,HO_165002,HO_165003,BK153,BK154,BK164,HB⟩:=hrel
   cases gk with
   | zero => exact absurd HA.out (by simp [spec_l05Own.l0])
   | succ k1 =>
    have H:=HA.out
    clear HA
    simp only [spec_l05Own.l0] at H
    by_cases c21 : x4_1 < (l0_2.length : Int)
    ·
     rw [if_pos c21] at H
     have c21b0 : decide (x4_1 < (l0_2.length : Int)) = true:=decide_eq_true c21
     clear c21
     by_cases c22 : 0 ≤ x4_1
     ·
      rw [if_pos c22] at H
      have c22b0 : decide (0 ≤ x4_1) = true:=decide_eq_true c22
      clear c22
      obtain ⟨y167,hy167⟩ : ∃ y_ : List (S73),y_ = (([] : List (S73))):=⟨_,rfl⟩
      replace H : (if y167.length + ((rd_T70 l0_2 x4_1).f4).length < 8796093022208 then (if x165002_1.length < 2199023255552 then (spec_l05Own.l0 k1 (wrap64 (x4_1 + 1)) a0_0 a0_1 l0_2 l0_3 a0_0 a0_1 (x165002_1 ++ [(⟨(rd_T70 l0_2 x4_1).f0,(rd_T70 l0_2 x4_1).f1,(rd_T70 l0_2 x4_1).f2,(rd_T70 l0_2 x4_1).f3,(y167 ++ ((rd_T70 l0_2 x4_1).f4))⟩ : S70)]) y161) else (none)) else (none)) = some (r1,r2,r3,r4):=by first|(rw [hy167];with_reducible exact H)|(have H2_:=(Option.bind_some _ _).symm.trans H;rw [hy167];with_reducible exact H2_)|(have H2_:=(Option.bind_some _ _).symm.trans H;with_reducible exact H2_)|with_reducible exact H|(rw [hy167];exact H)|exact H
      have Ny167:=qk4 hy167
      clear hy167
      by_cases c23 : y167.length + ((rd_T70 l0_2 x4_1).f4).length < 8796093022208
      ·
       rw [if_pos c23] at H
       have LMc23:=qk4 c23
       clear c23
       obtain ⟨y170,hy170⟩ : ∃ y_ : List (S73),y_ = (y167 ++ ((rd_T70 l0_2 x4_1).f4)):=⟨_,rfl⟩
       replace H : (if x165002_1.length < 2199023255552 then (spec_l05Own.l0 k1 (wrap64 (x4_1 + 1)) a0_0 a0_1 l0_2 l0_3 a0_0 a0_1 (x165002_1 ++ [(⟨(rd_T70 l0_2 x4_1).f0,(rd_T70 l0_2 x4_1).f1,(rd_T70 l0_2 x4_1).f2,(rd_T70 l0_2 x4_1).f3,y170⟩ : S70)]) y161) else (none)) = some (r1,r2,r3,r4):=by first|(rw [hy170];with_reducible exact H)|(have H2_:=(Option.bind_some _ _).symm.trans H;rw [hy170];with_reducible exact H2_)|(have H2_:=(Option.bind_some _ _).symm.trans H;with_reducible exact H2_)|with_reducible exact H|(rw [hy170];exact H)|exact H
       have Ny170:=qk4 hy170
       clear hy170
       by_cases c24 : x165002_1.length < 2199023255552
       ·
        rw [if_pos c24] at H
        have LMc24:=qk4 c24
        clear c24
        obtain ⟨y173,hy173⟩ : ∃ y_ : List (S70),y_ = (x165002_1 ++ [(⟨(rd_T70 l0_2 x4_1).f0,(rd_T70 l0_2 x4_1).f1,(rd_T70 l0_2 x4_1).f2,(rd_T70 l0_2 x4_1).f3,y170⟩ : S70)]):=⟨_,rfl⟩
        replace H : (spec_l05Own.l0 k1 (wrap64 (x4_1 + 1)) a0_0 a0_1 l0_2 l0_3 a0_0 a0_1 y173 y161) = some (r1,r2,r3,r4):=by first|(rw [hy173];with_reducible exact H)|(have H2_:=(Option.bind_some _ _).symm.trans H;rw [hy173];with_reducible exact H2_)|(have H2_:=(Option.bind_some _ _).symm.trans H;with_reducible exact H2_)|with_reducible exact H|(rw [hy173];exact H)|exact H
        have Ny173:=qk4 hy173
        clear hy173
        have H':=qk4 H
        clear H
        have hnb25:=NB153_154.out
        have hnc25:=NB154_153.out
        have hnb26:=NB153_164.out
        have hnc26:=NB164_153.out
        have hcz27_0 : wr.cell? ⟨gb153,0,none⟩ = some (.int .i64 a0_0):=(blk_cell BK153.out 0).trans rfl
        have hcz27_1 : wr.cell? ⟨gb153,1,none⟩ = some (.int .i64 a0_1):=(blk_cell BK153.out 1).trans rfl
        have hcz27_2 : wr.cell? ⟨gb153,2,none⟩ = some (.slice A0_2 l0_2.length c0_2):=(blk_cell BK153.out 2).trans rfl
        have hcz27_3 : wr.cell? ⟨gb153,3,none⟩ = some (.slice A0_3 l0_3.length c0_3):=(blk_cell BK153.out 3).trans rfl
        have hfz27_0:=sJ BK153.out 0
        have hfz27_1:=sJ BK153.out 1
        have hfz27_2:=sJ BK153.out 2
        have hfz27_3:=sJ BK153.out 3
        have p165 : 0 ≤ (x4_1 : Int):=sM (by first|(with_reducible assumption)|assumption)
        have q165 : x4_1 < (l0_2.length : Int):=sM (by first|(with_reducible assumption)|assumption)
        obtain ⟨ad165,A165_4,c165_4,e165,hx165_0,hx165_1,hx165_2,hx165_3,hx165_4,hl165_4,hi165_4⟩:=at_T70 HR0_2.out x4_1 p165 q165
        cases e165
        replace hx165_0:=(HB.out.cell (sD w _ hx165_0)).trans hx165_0
        replace hx165_1:=(HB.out.cell (sD w _ hx165_1)).trans hx165_1
        replace hx165_2:=(HB.out.cell (sD w _ hx165_2)).trans hx165_2
        replace hx165_3:=(HB.out.cell (sD w _ hx165_3)).trans hx165_3
        replace hx165_4:=(HB.out.cell (sD w _ hx165_4)).trans hx165_4
        have HR165_4:=qk4 hi165_4
        have HC165_4:=qk4 hl165_4
        clear hi165_4 hl165_4
        replace p165:=eq_true p165
        replace q165:=eq_true q165
        go_wp2_with (first|((with_reducible refine gate_dst (N:=5) rfl ?_);refine box_event ?hg (N:=5) ?hd (cs:=#[.string (⟨#[]⟩ : ByteArray),.int .i64 0,.int .i64 0,.int .i64 0,.slice none 0 0]) (t:=70) ?hr ?_;(case hd => rfl);(case hg => rfl);(case hr => first|(go_simp;done)|(go_simp;rfl));intro gb166 hg w28 hbox hb;have n0_:=qk4 (Kd.S_below (Kd.S_elderB (by (with_reducible repeat (first|apply Kd.S_alloc|apply Kd.S_drewN|apply Kd.S_drew));exact HO_165002.out) gb166 (Nat.le_of_eq hg.symm)) hb);have n1_:=qk4 (Kd.R_below (by (with_reducible repeat (first|apply qd4|apply qe4|apply qf4));exact HO_165003.out) hb);have n2_:=qk4 (ql4 (g:=gb153) (o:=.cells #[.int .i64 a0_0,.int .i64 a0_1,.slice (some ad165) l0_2.length c0_2,.slice A0_3 l0_3.length c0_3] 31 (0,0)) (by (with_reducible repeat (first|apply qa4|apply qb4|apply qc4));exact BK153.out) hb);have n3_:=qk4 (ql4 (g:=gb154) (o:=.cells #[.int .i64 0,.int .i64 0,.slice none 0 0,.slice none 0 0] 31 (0,0)) (by (with_reducible repeat (first|apply qa4|apply qb4|apply qc4));exact BK154.out) hb);have n4_:=qk4 (ql4 (g:=gb164) (o:=.cells #[.int .i64 a0_0,.int .i64 a0_1,u165002,.slice Ao15 y161.length co15] 31 (0,0)) (by (with_reducible repeat (first|apply qa4|apply qb4|apply qc4));exact BK164.out) hb);have n5_:=qk4 (sN (by repeat (first|(with_reducible first|exact HB.out|apply qg4|apply qh4|apply qi4|refine qj4 ?_ GE153.out|refine qj4 ?_ GE154.out|refine qj4 ?_ GE164.out)|exact HB.out)) hb);have n6_:=qk4 (hbox);have n7_:=qk4 ((by rw [hg];exact (qm4 (by repeat (first|(with_reducible first|exact HB.out|apply qg4|apply qh4|apply qi4|refine qj4 ?_ GE153.out|refine qj4 ?_ GE154.out|refine qj4 ?_ GE164.out)|exact HB.out))) : w.heap.size ≤ gb166));have n8_:=qk4 ((by rw [hg];exact (qm4 (by repeat (first|(with_reducible first|exact HB.out|apply qg4|apply qh4|apply qi4|refine qj4 ?_ GE153.out|refine qj4 ?_ GE154.out|refine qj4 ?_ GE164.out)|exact HB.out))) : w.heap.size ≤ gb166));have n9_:=qk4 ((by rw [hg];exact Nat.ne_of_lt (blk_lt (g:=gb153) (o:=.cells #[.int .i64 a0_0,.int .i64 a0_1,.slice (some ad165) l0_2.length c0_2,.slice A0_3 l0_3.length c0_3] 31 (0,0)) (by (with_reducible repeat (first|apply qa4|apply qb4|apply qc4));exact BK153.out)) : gb153 ≠ gb166));have n10_:=qk4 ((by rw [hg];exact Nat.ne_of_gt (blk_lt (g:=gb153) (o:=.cells #[.int .i64 a0_0,.int .i64 a0_1,.slice (some ad165) l0_2.length c0_2,.slice A0_3 l0_3.length c0_3] 31 (0,0)) (by (with_reducible repeat (first|apply qa4|apply qb4|apply qc4));exact BK153.out)) : gb166 ≠ gb153));have n11_:=qk4 ((by rw [hg];exact Nat.ne_of_lt (blk_lt (g:=gb154) (o:=.cells #[.int .i64 0,.int .i64 0,.slice none 0 0,.slice none 0 0] 31 (0,0)) (by (with_reducible repeat (first|apply qa4|apply qb4|apply qc4));exact BK154.out)) : gb154 ≠ gb166));have n12_:=qk4 ((by rw [hg];exact Nat.ne_of_gt (blk_lt (g:=gb154) (o:=.cells #[.int .i64 0,.int .i64 0,.slice none 0 0,.slice none 0 0] 31 (0,0)) (by (with_reducible repeat (first|apply qa4|apply qb4|apply qc4));exact BK154.out)) : gb166 ≠ gb154));have n13_:=qk4 ((by rw [hg];exact Nat.ne_of_lt (blk_lt (g:=gb164) (o:=.cells #[.int .i64 a0_0,.int .i64 a0_1,u165002,.slice Ao15 y161.length co15] 31 (0,0)) (by (with_reducible repeat (first|apply qa4|apply qb4|apply qc4));exact BK164.out)) : gb164 ≠ gb166));have n14_:=qk4 ((by rw [hg];exact Nat.ne_of_gt (blk_lt (g:=gb164) (o:=.cells #[.int .i64 a0_0,.int .i64 a0_1,u165002,.slice Ao15 y161.length co15] 31 (0,0)) (by (with_reducible repeat (first|apply qa4|apply qb4|apply qc4));exact BK164.out)) : gb166 ≠ gb164));clear HO_165002;clear HO_165003;clear BK153;clear BK154;clear BK164;clear HB;have HO_165002:=n0_;have HO_165003:=n1_;have BK153:=n2_;have BK154:=n3_;have BK164:=n4_;have HB:=n5_;have BK166:=n6_;have GW166:=n7_;have GE166:=n8_;have NB153_166:=n9_;have NB166_153:=n10_;have NB154_166:=n11_;have NB166_154:=n12_;have NB164_166:=n13_;have NB166_164:=n14_;clear n0_ n1_ n2_ n3_ n4_ n5_ n6_ n7_ n8_ n9_ n10_ n11_ n12_ n13_ n14_;clear hb hbox hg;have hnb29:=NB166_153.out;have hnc29:=NB153_166.out;have hnb30:=NB166_154.out;have hnc30:=NB154_166.out;have hnb31:=NB166_164.out;have hnc31:=NB164_166.out;have hcz32_0 : w28.cell? ⟨gb166,0,none⟩ = some (.string (⟨#[]⟩ : ByteArray)):=(blk_cell BK166.out 0).trans rfl;have hcz32_1 : w28.cell? ⟨gb166,1,none⟩ = some (.int .i64 0):=(blk_cell BK166.out 1).trans rfl;have hcz32_2 : w28.cell? ⟨gb166,2,none⟩ = some (.int .i64 0):=(blk_cell BK166.out 2).trans rfl;have hcz32_3 : w28.cell? ⟨gb166,3,none⟩ = some (.int .i64 0):=(blk_cell BK166.out 3).trans rfl;have hcz32_4 : w28.cell? ⟨gb166,4,none⟩ = some (.slice none 0 0):=(blk_cell BK166.out 4).trans rfl;have hfz32_0:=sJ BK166.out 0;have hfz32_1:=sJ BK166.out 1;have hfz32_2:=sJ BK166.out 2;have hfz32_3:=sJ BK166.out 3;have hfz32_4:=sJ BK166.out 4)|((with_reducible refine gate_dst (N:=28) rfl ?_);refine Kd.R_lit k73 _ 73 ?hg (N:=28) ?hd (xs:=([] : List (S73))) (inner:=[]) (ok:=fun _ => True) (okp:=fun _ => True) ?hr ?hp (fun _ hk => hk) trivial (Below.refl _ _) (Nat.le_refl _) (by simp) ?_;(case hd => rfl);(case hg => rfl);(case hr => first|(go_simp;done)|(go_simp;rfl));(case hp => exact (Reps.none _ _));intro v168 w33 ho34 hb hg_ hnew_;clear hg_ hnew_;(first|rw [← Ny167.out] at ho34|(simp only [Int.reduceToNat] at ho34;rw [← Ny167.out] at ho34));have n0_:=qk4 (Kd.S_elder' (by (with_reducible repeat (first|apply Kd.S_alloc|apply Kd.S_drewN|apply Kd.S_drew));exact (Kd.S_mono (Kd.S_far (p:=⟨gb166,4,none⟩) (Kd.S_far (p:=⟨gb166,3,none⟩) (Kd.S_far (p:=⟨gb166,2,none⟩) (Kd.S_far (p:=⟨gb166,1,none⟩) (Kd.S_far (p:=⟨gb166,0,none⟩) (Kd.S_mono HO_165002.out (fun k_ hk => (⟨hk,hk.2⟩ : _ ∧ k_ ≠ gb166))) (fun _ hk => hk.2) (.string ((rd_T70 l0_2 x4_1).f0))) (fun _ hk => hk.2) (.int .i64 ((rd_T70 l0_2 x4_1).f1))) (fun _ hk => hk.2) (.int .i64 ((rd_T70 l0_2 x4_1).f2))) (fun _ hk => hk.2) (.int .i64 ((rd_T70 l0_2 x4_1).f3))) (fun _ hk => hk.2) (.slice A165_4 ((rd_T70 l0_2 x4_1).f4).length c165_4)) (fun _ h_ => h_.1))) (Kd.R_base ho34) hb);have n1_:=qk4 (Kd.R_below (by (with_reducible repeat (first|apply qd4|apply qe4|apply qf4));exact (Kd.R_mono (Kd.R_far (p:=⟨gb166,4,none⟩) (Kd.R_far (p:=⟨gb166,3,none⟩) (Kd.R_far (p:=⟨gb166,2,none⟩) (Kd.R_far (p:=⟨gb166,1,none⟩) (Kd.R_far (p:=⟨gb166,0,none⟩) (Kd.R_types HO_165003.out BK166.out (by decide)) (fun _ hk => hk.2) (.string ((rd_T70 l0_2 x4_1).f0))) (fun _ hk => hk.2) (.int .i64 ((rd_T70 l0_2 x4_1).f1))) (fun _ hk => hk.2) (.int .i64 ((rd_T70 l0_2 x4_1).f2))) (fun _ hk => hk.2) (.int .i64 ((rd_T70 l0_2 x4_1).f3))) (fun _ hk => hk.2) (.slice A165_4 ((rd_T70 l0_2 x4_1).f4).length c165_4)) (fun _ h_ => h_.1))) hb);have n2_:=qk4 (Kd.R_lower ho34 (qm4 (by repeat (first|(with_reducible first|exact HB.out|apply qg4|apply qh4|apply qi4|refine qj4 ?_ GE153.out|refine qj4 ?_ GE154.out|refine qj4 ?_ GE164.out|refine qj4 ?_ GE166.out)|exact HB.out))));have n3_:=qk4 (ql4 (g:=gb153) (o:=.cells #[.int .i64 a0_0,.int .i64 a0_1,.slice (some ad165) l0_2.length c0_2,.slice A0_3 l0_3.length c0_3] 31 (0,0)) (by (with_reducible repeat (first|apply qa4|apply qb4|apply qc4));refine blk_far ?_ NB153_166.out _;(with_reducible repeat (first|apply qa4|apply qb4|apply qc4));refine blk_far ?_ NB153_166.out _;(with_reducible repeat (first|apply qa4|apply qb4|apply qc4));refine blk_far ?_ NB153_166.out _;(with_reducible repeat (first|apply qa4|apply qb4|apply qc4));refine blk_far ?_ NB153_166.out _;(with_reducible repeat (first|apply qa4|apply qb4|apply qc4));refine blk_far ?_ NB153_166.out _;(with_reducible repeat (first|apply qa4|apply qb4|apply qc4));exact BK153.out) hb);have n4_:=qk4 (ql4 (g:=gb154) (o:=.cells #[.int .i64 0,.int .i64 0,.slice none 0 0,.slice none 0 0] 31 (0,0)) (by (with_reducible repeat (first|apply qa4|apply qb4|apply qc4));refine blk_far ?_ NB154_166.out _;(with_reducible repeat (first|apply qa4|apply qb4|apply qc4));refine blk_far ?_ NB154_166.out _;(with_reducible repeat (first|apply qa4|apply qb4|apply qc4));refine blk_far ?_ NB154_166.out _;(with_reducible repeat (first|apply qa4|apply qb4|apply qc4));refine blk_far ?_ NB154_166.out _;(with_reducible repeat (first|apply qa4|apply qb4|apply qc4));refine blk_far ?_ NB154_166.out _;(with_reducible repeat (first|apply qa4|apply qb4|apply qc4));exact BK154.out) hb);have n5_:=qk4 (ql4 (g:=gb164) (o:=.cells #[.int .i64 a0_0,.int .i64 a0_1,u165002,.slice Ao15 y161.length co15] 31 (0,0)) (by (with_reducible repeat (first|apply qa4|apply qb4|apply qc4));refine blk_far ?_ NB164_166.out _;(with_reducible repeat (first|apply qa4|apply qb4|apply qc4));refine blk_far ?_ NB164_166.out _;(with_reducible repeat (first|apply qa4|apply qb4|apply qc4));refine blk_far ?_ NB164_166.out _;(with_reducible repeat (first|apply qa4|apply qb4|apply qc4));refine blk_far ?_ NB164_166.out _;(with_reducible repeat (first|apply qa4|apply qb4|apply qc4));refine blk_far ?_ NB164_166.out _;(with_reducible repeat (first|apply qa4|apply qb4|apply qc4));exact BK164.out) hb);have n6_:=qk4 (ql4 (g:=gb166) (o:=.cells #[.string ((rd_T70 l0_2 x4_1).f0),.int .i64 ((rd_T70 l0_2 x4_1).f1),.int .i64 ((rd_T70 l0_2 x4_1).f2),.int .i64 ((rd_T70 l0_2 x4_1).f3),.slice A165_4 ((rd_T70 l0_2 x4_1).f4).length c165_4] 70 (0,0)) (by (with_reducible repeat (first|apply qa4|apply qb4|apply qc4));refine blk_put (cs:=#[.string ((rd_T70 l0_2 x4_1).f0),.int .i64 ((rd_T70 l0_2 x4_1).f1),.int .i64 ((rd_T70 l0_2 x4_1).f2),.int .i64 ((rd_T70 l0_2 x4_1).f3),.slice none 0 0]) ?_ 4 _ rfl;(with_reducible repeat (first|apply qa4|apply qb4|apply qc4));refine blk_put (cs:=#[.string ((rd_T70 l0_2 x4_1).f0),.int .i64 ((rd_T70 l0_2 x4_1).f1),.int .i64 ((rd_T70 l0_2 x4_1).f2),.int .i64 0,.slice none 0 0]) ?_ 3 _ rfl;(with_reducible repeat (first|apply qa4|apply qb4|apply qc4));refine blk_put (cs:=#[.string ((rd_T70 l0_2 x4_1).f0),.int .i64 ((rd_T70 l0_2 x4_1).f1),.int .i64 0,.int .i64 0,.slice none 0 0]) ?_ 2 _ rfl;(with_reducible repeat (first|apply qa4|apply qb4|apply qc4));refine blk_put (cs:=#[.string ((rd_T70 l0_2 x4_1).f0),.int .i64 0,.int .i64 0,.int .i64 0,.slice none 0 0]) ?_ 1 _ rfl;(with_reducible repeat (first|apply qa4|apply qb4|apply qc4));refine blk_put (cs:=#[.string (⟨#[]⟩ : ByteArray),.int .i64 0,.int .i64 0,.int .i64 0,.slice none 0 0]) ?_ 0 _ rfl;(with_reducible repeat (first|apply qa4|apply qb4|apply qc4));exact BK166.out) hb);have n7_:=qk4 (sN (by repeat (first|(with_reducible first|exact HB.out|apply qg4|apply qh4|apply qi4|refine qj4 ?_ GE153.out|refine qj4 ?_ GE154.out|refine qj4 ?_ GE164.out|refine qj4 ?_ GE166.out)|exact HB.out)) hb);clear HO_165002;clear HO_165003;clear BK153;clear BK154;clear BK164;clear BK166;clear HB;have HO_165002:=n0_;have HO_165003:=n1_;have HO169:=n2_;have BK153:=n3_;have BK154:=n4_;have BK164:=n5_;have BK166:=n6_;have HB:=n7_;clear n0_ n1_ n2_ n3_ n4_ n5_ n6_ n7_;clear hb ho34;have hcz35_0 : w33.cell? ⟨gb166,0,none⟩ = some (.string ((rd_T70 l0_2 x4_1).f0)):=(blk_cell BK166.out 0).trans rfl;have hcz35_1 : w33.cell? ⟨gb166,1,none⟩ = some (.int .i64 ((rd_T70 l0_2 x4_1).f1)):=(blk_cell BK166.out 1).trans rfl;have hcz35_2 : w33.cell? ⟨gb166,2,none⟩ = some (.int .i64 ((rd_T70 l0_2 x4_1).f2)):=(blk_cell BK166.out 2).trans rfl;have hcz35_3 : w33.cell? ⟨gb166,3,none⟩ = some (.int .i64 ((rd_T70 l0_2 x4_1).f3)):=(blk_cell BK166.out 3).trans rfl;have hcz35_4 : w33.cell? ⟨gb166,4,none⟩ = some (.slice A165_4 ((rd_T70 l0_2 x4_1).f4).length c165_4):=(blk_cell BK166.out 4).trans rfl;have hfz35_0:=sJ BK166.out 0;have hfz35_1:=sJ BK166.out 1;have hfz35_2:=sJ BK166.out 2;have hfz35_3:=sJ BK166.out 3;have hfz35_4:=sJ BK166.out 4)|((with_reducible refine gate_builtin (b:=.append) (xs:=#[.tmp 28,.tmp 30]) rfl ?_);at_builtin;refine Kd.R_append_rows k73 (w0:=w) w.heap.size rfl (.tmp 28) (.tmp 30) 68 73 (.agg #[(.int .i64 0),(.int .i64 0)]) 16 rfl Try.underlying68 info73 rfl (by decide) (by omega) v168 y167 ((rd_T70 l0_2 x4_1).f4) _ _ _ (fun _ => True) (fun _ => False) rfl rfl ?aO ?aR (fun _ _ h => h) (fun _ h => h.elim) ?aF ?aB ?aS ?aL ?_;(case aR => repeat (first|exact (Kd.C_below HR165_4.out HB.out)|(with_reducible refine Kd.C_alloc ?_ _)|(with_reducible refine Kd.C_drewN ?_ _)|(with_reducible refine Kd.C_drew ?_)));(case aB => exact (by repeat (first|(with_reducible first|exact HB.out|apply qg4|apply qh4|apply qi4|refine qj4 ?_ GE153.out|refine qj4 ?_ GE154.out|refine qj4 ?_ GE164.out|refine qj4 ?_ GE166.out)|exact HB.out)));(case aF => exact (fun _ _ => trivial));(case aO => exact (by (with_reducible repeat (first|apply qd4|apply qe4|apply qf4));exact HO169.out));(case aS => exact (qm4 (by repeat (first|(with_reducible first|exact HB.out|apply qg4|apply qh4|apply qi4|refine qj4 ?_ GE153.out|refine qj4 ?_ GE154.out|refine qj4 ?_ GE164.out|refine qj4 ?_ GE166.out)|exact HB.out))));(case aL => have:=LMc23.out;omega);intro v171 w36 ho hb hg hat;rw [← Ny170.out] at ho;have n0_:=qk4 (Kd.S_after (ok:=(fun k_ => k_ ≠ gb166)) (by (with_reducible repeat (first|apply Kd.S_alloc|apply Kd.S_drewN|apply Kd.S_drew));exact Kd.S_mono HO_165002.out (fun _ hk => ⟨hk.1.2,hk.2⟩)) hg hat);have n1_:=qk4 (Kd.R_over' (by (with_reducible repeat (first|apply qd4|apply qe4|apply qf4));exact HO_165003.out) (Kd.R_typed (by (with_reducible repeat (first|apply qd4|apply qe4|apply qf4));exact HO169.out)) (by decide) hg);have n2_:=qk4 (blk_grown (g:=gb153) (o:=.cells #[.int .i64 a0_0,.int .i64 a0_1,.slice (some ad165) l0_2.length c0_2,.slice A0_3 l0_3.length c0_3] 31 (0,0)) (by (with_reducible repeat (first|apply qa4|apply qb4|apply qc4));exact BK153.out) hg (Kd.R_ne HO169.out BK153.out (by decide)));have n3_:=qk4 (blk_grown (g:=gb154) (o:=.cells #[.int .i64 0,.int .i64 0,.slice none 0 0,.slice none 0 0] 31 (0,0)) (by (with_reducible repeat (first|apply qa4|apply qb4|apply qc4));exact BK154.out) hg (Kd.R_ne HO169.out BK154.out (by decide)));have n4_:=qk4 (blk_grown (g:=gb164) (o:=.cells #[.int .i64 a0_0,.int .i64 a0_1,u165002,.slice Ao15 y161.length co15] 31 (0,0)) (by (with_reducible repeat (first|apply qa4|apply qb4|apply qc4));exact BK164.out) hg (Kd.R_ne HO169.out BK164.out (by decide)));have n5_:=qk4 (blk_grown (g:=gb166) (o:=.cells #[.string ((rd_T70 l0_2 x4_1).f0),.int .i64 ((rd_T70 l0_2 x4_1).f1),.int .i64 ((rd_T70 l0_2 x4_1).f2),.int .i64 ((rd_T70 l0_2 x4_1).f3),.slice A165_4 ((rd_T70 l0_2 x4_1).f4).length c165_4] 70 (0,0)) (by (with_reducible repeat (first|apply qa4|apply qb4|apply qc4));exact BK166.out) hg (Kd.R_ne HO169.out BK166.out (by decide)));have n6_:=qk4 (hb);have n7_:=qk4 (ho);clear HO_165002;clear HO_165003;clear BK153;clear BK154;clear BK164;clear BK166;clear HB;clear HO169;have HO_165002:=n0_;have HO_165003:=n1_;have BK153:=n2_;have BK154:=n3_;have BK164:=n4_;have BK166:=n5_;have HB:=n6_;have HO172:=n7_;clear n0_ n1_ n2_ n3_ n4_ n5_ n6_ n7_;clear ho hb hg hat;obtain ⟨Ao37,co37,eo37⟩:=Kd.R_slice HO172.out;subst eo37;have hcz38_0 : w36.cell? ⟨gb166,0,none⟩ = some (.string ((rd_T70 l0_2 x4_1).f0)):=(blk_cell BK166.out 0).trans rfl;have hcz38_1 : w36.cell? ⟨gb166,1,none⟩ = some (.int .i64 ((rd_T70 l0_2 x4_1).f1)):=(blk_cell BK166.out 1).trans rfl;have hcz38_2 : w36.cell? ⟨gb166,2,none⟩ = some (.int .i64 ((rd_T70 l0_2 x4_1).f2)):=(blk_cell BK166.out 2).trans rfl;have hcz38_3 : w36.cell? ⟨gb166,3,none⟩ = some (.int .i64 ((rd_T70 l0_2 x4_1).f3)):=(blk_cell BK166.out 3).trans rfl;have hcz38_4 : w36.cell? ⟨gb166,4,none⟩ = some (.slice A165_4 ((rd_T70 l0_2 x4_1).f4).length c165_4):=(blk_cell BK166.out 4).trans rfl;have hfz38_0:=sJ BK166.out 0;have hfz38_1:=sJ BK166.out 1;have hfz38_2:=sJ BK166.out 2;have hfz38_3:=sJ BK166.out 3;have hfz38_4:=sJ BK166.out 4)|((with_reducible refine gate_store (t:=68) (p:=32) rfl ?_);refine store_event (t:=68) (p:=32) (v:=?vo_w39) (w1:=(w36.setCell ⟨gb166,4,none⟩ (.slice Ao37 y170.length co37))) ?hg ?ho ?hn ?hr ?_;(case ho => rfl);(case hg => rfl);(case hn => rfl);(case hr => first|(go_simp;done)|(go_simp;rfl));intro w39 hw;have n0_ : Aside0 (Kd.S k70 70 w39 w.heap.size (fun k_ => some k_ ≠ (.slice Ao37 y170.length co37 : Value).ownBlock ∧ k_ ≠ gb166) u165002 x165002_1):=⟨(by rw [hw];exact (by (with_reducible repeat (first|apply Kd.S_alloc|apply Kd.S_drewN|apply Kd.S_drew));exact Kd.S_mono (Kd.S_far (p:=⟨gb166,4,none⟩) (Kd.S_mono HO_165002.out (fun k_ hk => (⟨hk,hk.1⟩ : _ ∧ k_ ≠ gb166))) (fun _ hk => hk.2) (.slice Ao37 y170.length co37)) (fun _ hk => ⟨hk.1.2,hk.1.1⟩)))⟩;have n1_ : Aside0 (Kd.R k77 77 w39 w.heap.size (fun _ => True) (.slice Ao15 y161.length co15) y161):=⟨(by rw [hw];exact (by (with_reducible repeat (first|apply qd4|apply qe4|apply qf4));exact Kd.R_mono (Kd.R_far (p:=⟨gb166,4,none⟩) (Kd.R_types HO_165003.out BK166.out (by decide)) (fun _ hk => hk.2) (.slice Ao37 y170.length co37)) (fun _ hk => trivial)))⟩;have n2_ : Aside0 (Kd.R k73 73 w39 w.heap.size (fun _ => True) (.slice Ao37 y170.length co37) y170):=⟨(by rw [hw];exact (by (with_reducible repeat (first|apply qd4|apply qe4|apply qf4));exact Kd.R_mono (Kd.R_far (p:=⟨gb166,4,none⟩) (Kd.R_types HO172.out BK166.out (by decide)) (fun _ hk => hk.2) (.slice Ao37 y170.length co37)) (fun _ hk => trivial)))⟩;have n3_ : Aside0 (w39.heap[gb153]? = some (.cells #[.int .i64 a0_0,.int .i64 a0_1,.slice (some ad165) l0_2.length c0_2,.slice A0_3 l0_3.length c0_3] 31 (0,0))):=⟨(by rw [hw];exact (by (with_reducible repeat (first|apply qa4|apply qb4|apply qc4));refine blk_far ?_ NB153_166.out _;(with_reducible repeat (first|apply qa4|apply qb4|apply qc4));exact BK153.out))⟩;have n4_ : Aside0 (w39.heap[gb154]? = some (.cells #[.int .i64 0,.int .i64 0,.slice none 0 0,.slice none 0 0] 31 (0,0))):=⟨(by rw [hw];exact (by (with_reducible repeat (first|apply qa4|apply qb4|apply qc4));refine blk_far ?_ NB154_166.out _;(with_reducible repeat (first|apply qa4|apply qb4|apply qc4));exact BK154.out))⟩;have n5_ : Aside0 (w39.heap[gb164]? = some (.cells #[.int .i64 a0_0,.int .i64 a0_1,u165002,.slice Ao15 y161.length co15] 31 (0,0))):=⟨(by rw [hw];exact (by (with_reducible repeat (first|apply qa4|apply qb4|apply qc4));refine blk_far ?_ NB164_166.out _;(with_reducible repeat (first|apply qa4|apply qb4|apply qc4));exact BK164.out))⟩;have n6_ : Aside0 (w39.heap[gb166]? = some (.cells #[.string ((rd_T70 l0_2 x4_1).f0),.int .i64 ((rd_T70 l0_2 x4_1).f1),.int .i64 ((rd_T70 l0_2 x4_1).f2),.int .i64 ((rd_T70 l0_2 x4_1).f3),.slice Ao37 y170.length co37] 70 (0,0))):=⟨(by rw [hw];exact (by (with_reducible repeat (first|apply qa4|apply qb4|apply qc4));refine blk_put (cs:=#[.string ((rd_T70 l0_2 x4_1).f0),.int .i64 ((rd_T70 l0_2 x4_1).f1),.int .i64 ((rd_T70 l0_2 x4_1).f2),.int .i64 ((rd_T70 l0_2 x4_1).f3),.slice A165_4 ((rd_T70 l0_2 x4_1).f4).length c165_4]) ?_ 4 _ rfl;(with_reducible repeat (first|apply qa4|apply qb4|apply qc4));exact BK166.out))⟩;have n7_ : Aside0 (Below w.heap.size w w39):=⟨(by rw [hw];exact (by repeat (first|(with_reducible first|exact HB.out|apply qg4|apply qh4|apply qi4|refine qj4 ?_ GE153.out|refine qj4 ?_ GE154.out|refine qj4 ?_ GE164.out|refine qj4 ?_ GE166.out)|exact HB.out)))⟩;clear hw;clear HO_165002;clear HO_165003;clear HO172;clear BK153;clear BK154;clear BK164;clear BK166;clear HB;have HO_165002:=n0_;have HO_165003:=n1_;have HO172:=n2_;have BK153:=n3_;have BK154:=n4_;have BK164:=n5_;have BK166:=n6_;have HB:=n7_;clear n0_ n1_ n2_ n3_ n4_ n5_ n6_ n7_;have hnb40:=NB164_154.out;have hnc40:=NB154_164.out;have hcz41_0 : w39.cell? ⟨gb164,0,none⟩ = some (.int .i64 a0_0):=(blk_cell BK164.out 0).trans rfl;have hcz41_1 : w39.cell? ⟨gb164,1,none⟩ = some (.int .i64 a0_1):=(blk_cell BK164.out 1).trans rfl;have hcz41_2 : w39.cell? ⟨gb164,2,none⟩ = some (u165002):=(blk_cell BK164.out 2).trans rfl;have hcz41_3 : w39.cell? ⟨gb164,3,none⟩ = some (.slice Ao15 y161.length co15):=(blk_cell BK164.out 3).trans rfl;have hfz41_0:=sJ BK164.out 0;have hfz41_1:=sJ BK164.out 1;have hfz41_2:=sJ BK164.out 2;have hfz41_3:=sJ BK164.out 3;have hcz42_0 : w39.cell? ⟨gb166,0,none⟩ = some (.string ((rd_T70 l0_2 x4_1).f0)):=(blk_cell BK166.out 0).trans rfl;have hcz42_1 : w39.cell? ⟨gb166,1,none⟩ = some (.int .i64 ((rd_T70 l0_2 x4_1).f1)):=(blk_cell BK166.out 1).trans rfl;have hcz42_2 : w39.cell? ⟨gb166,2,none⟩ = some (.int .i64 ((rd_T70 l0_2 x4_1).f2)):=(blk_cell BK166.out 2).trans rfl;have hcz42_3 : w39.cell? ⟨gb166,3,none⟩ = some (.int .i64 ((rd_T70 l0_2 x4_1).f3)):=(blk_cell BK166.out 3).trans rfl;have hcz42_4 : w39.cell? ⟨gb166,4,none⟩ = some (.slice Ao37 y170.length co37):=(blk_cell BK166.out 4).trans rfl;have hfz42_0:=sJ BK166.out 0;have hfz42_1:=sJ BK166.out 1;have hfz42_2:=sJ BK166.out 2;have hfz42_3:=sJ BK166.out 3;have hfz42_4:=sJ BK166.out 4)|((with_reducible refine gate_builtin (b:=.append) (xs:=#[.tmp 34,.tmp 36]) rfl ?_);at_builtin;refine Kd.S_append k70 (w0:=w) w.heap.size rfl (.tmp 34) (.tmp 36) 28 70 (.agg #[(.string ⟨#[]⟩),(.int .i64 0),(.int .i64 0),(.int .i64 0),(.slice none 0 0)]) 64 rfl Try.underlying28 info70 rfl (by decide) (by omega) u165002 x165002_1 (⟨(rd_T70 l0_2 x4_1).f0,(rd_T70 l0_2 x4_1).f1,(rd_T70 l0_2 x4_1).f2,(rd_T70 l0_2 x4_1).f3,y170⟩ : S70) [.string ((rd_T70 l0_2 x4_1).f0),.int .i64 ((rd_T70 l0_2 x4_1).f1),.int .i64 ((rd_T70 l0_2 x4_1).f2),.int .i64 ((rd_T70 l0_2 x4_1).f3),.slice Ao37 y170.length co37] (fun k_ => k_ ≠ gb166) (fun k_ => some k_ = (.slice Ao37 y170.length co37 : Value).ownBlock) rfl rfl ?aP (fun k_ hk_ => ((Kd.R_mono (ok':=fun k_ => ((fun k_ => k_ ≠ gb166)) k_ ∧ some k_ ≠ (u165002 : Value).ownBlock) (Kd.R_types (Kd.R_apart' (HO172.out) (Kd.S_typed HO_165002.out) (by decide)) BK166.out (by decide)) (fun k_ hk => ⟨hk.2,hk.1.2⟩))).1 k_ hk_.symm) ?aF ?aO ?aB ?aS ?aL ?_;(case aP => exact k70_mkM _ _ _ (⟨(rd_T70 l0_2 x4_1).f0,(rd_T70 l0_2 x4_1).f1,(rd_T70 l0_2 x4_1).f2,(rd_T70 l0_2 x4_1).f3,y170⟩ : S70) (Kd.R_mono (Kd.R_tight rfl (Kd.R_mono (ok':=fun k_ => ((fun k_ => k_ ≠ gb166)) k_ ∧ some k_ ≠ (u165002 : Value).ownBlock) (Kd.R_types (Kd.R_apart' (HO172.out) (Kd.S_typed HO_165002.out) (by decide)) BK166.out (by decide)) (fun k_ hk => ⟨hk.2,hk.1.2⟩))) (fun _ h_ => h_)));(case aB => exact (by repeat (first|(with_reducible first|exact HB.out|apply qg4|apply qh4|apply qi4|refine qj4 ?_ GE153.out|refine qj4 ?_ GE154.out|refine qj4 ?_ GE164.out|refine qj4 ?_ GE166.out)|exact HB.out)));(case aF => exact (fun k_ hk => Kd.freshB (g:=gb166) (o:=.cells #[.string ((rd_T70 l0_2 x4_1).f0),.int .i64 ((rd_T70 l0_2 x4_1).f1),.int .i64 ((rd_T70 l0_2 x4_1).f2),.int .i64 ((rd_T70 l0_2 x4_1).f3),.slice Ao37 y170.length co37] 70 (0,0)) (by (with_reducible repeat (first|apply qa4|apply qb4|apply qc4));exact BK166.out) k_ hk));(case aO => exact (by (with_reducible repeat (first|apply Kd.S_alloc|apply Kd.S_drewN|apply Kd.S_drew));exact Kd.S_mono HO_165002.out (fun k_ hk => ⟨hk.2,fun e_ => hk.1 e_⟩)));(case aS => exact (qm4 (by repeat (first|(with_reducible first|exact HB.out|apply qg4|apply qh4|apply qi4|refine qj4 ?_ GE153.out|refine qj4 ?_ GE154.out|refine qj4 ?_ GE164.out|refine qj4 ?_ GE166.out)|exact HB.out))));(case aL => have:=LMc24.out;omega);intro v174 w43 ho hb hg hat;rw [← Ny173.out] at ho;have n0_:=qk4 (Kd.R_over' (by (with_reducible repeat (first|apply qd4|apply qe4|apply qf4));exact HO_165003.out) (Kd.S_typed (by (with_reducible repeat (first|apply Kd.S_alloc|apply Kd.S_drewN|apply Kd.S_drew));exact HO_165002.out)) (by decide) hg);have n1_:=qk4 (blk_grown (g:=gb153) (o:=.cells #[.int .i64 a0_0,.int .i64 a0_1,.slice (some ad165) l0_2.length c0_2,.slice A0_3 l0_3.length c0_3] 31 (0,0)) (by (with_reducible repeat (first|apply qa4|apply qb4|apply qc4));exact BK153.out) hg (Kd.S_ne HO_165002.out BK153.out (by decide)));have n2_:=qk4 (blk_grown (g:=gb154) (o:=.cells #[.int .i64 0,.int .i64 0,.slice none 0 0,.slice none 0 0] 31 (0,0)) (by (with_reducible repeat (first|apply qa4|apply qb4|apply qc4));exact BK154.out) hg (Kd.S_ne HO_165002.out BK154.out (by decide)));have n3_:=qk4 (blk_grown (g:=gb164) (o:=.cells #[.int .i64 a0_0,.int .i64 a0_1,u165002,.slice Ao15 y161.length co15] 31 (0,0)) (by (with_reducible repeat (first|apply qa4|apply qb4|apply qc4));exact BK164.out) hg (Kd.S_ne HO_165002.out BK164.out (by decide)));have n4_:=qk4 (blk_grown (g:=gb166) (o:=.cells #[.string ((rd_T70 l0_2 x4_1).f0),.int .i64 ((rd_T70 l0_2 x4_1).f1),.int .i64 ((rd_T70 l0_2 x4_1).f2),.int .i64 ((rd_T70 l0_2 x4_1).f3),.slice Ao37 y170.length co37] 70 (0,0)) (by (with_reducible repeat (first|apply qa4|apply qb4|apply qc4));exact BK166.out) hg (Kd.S_away HO_165002.out (fun _ hk => hk.2)));have n5_:=qk4 (hb);have n6_:=qk4 (ho);clear HO_165003;clear BK153;clear BK154;clear BK164;clear BK166;clear HB;clear HO_165002;clear HO172;have HO_165003:=n0_;have BK153:=n1_;have BK154:=n2_;have BK164:=n3_;have BK166:=n4_;have HB:=n5_;have HO175:=n6_;clear n0_ n1_ n2_ n3_ n4_ n5_ n6_;clear ho hb hg hat;obtain ⟨Ao44,co44,eo44⟩:=Kd.S_slice HO175.out;subst eo44;have hcz45_0 : w43.cell? ⟨gb164,0,none⟩ = some (.int .i64 a0_0):=(blk_cell BK164.out 0).trans rfl;have hcz45_1 : w43.cell? ⟨gb164,1,none⟩ = some (.int .i64 a0_1):=(blk_cell BK164.out 1).trans rfl;have hcz45_2 : w43.cell? ⟨gb164,2,none⟩ = some (u165002):=(blk_cell BK164.out 2).trans rfl;have hcz45_3 : w43.cell? ⟨gb164,3,none⟩ = some (.slice Ao15 y161.length co15):=(blk_cell BK164.out 3).trans rfl;have hfz45_0:=sJ BK164.out 0;have hfz45_1:=sJ BK164.out 1;have hfz45_2:=sJ BK164.out 2;have hfz45_3:=sJ BK164.out 3))
        go_roundg k1
        case measure => have:=HK1.out;omega
        case rel => exact ⟨(wrap64 (x4_1 + 1)),(y173),(.slice Ao44 y173.length co44),(by first|rfl|(simp;done)|(simp [*];done)),H',⟨by have:=HK1.out;omega⟩,⟨by (with_reducible repeat (first|apply Kd.S_alloc|apply Kd.S_drewN|apply Kd.S_drew));exact Kd.S_mono (Kd.S_far (p:=⟨gb164,2,none⟩) (Kd.S_types HO175.out BK164.out (by decide)) (fun _ hk => hk.2) (.slice Ao44 y173.length co44)) (fun _ hk => trivial)⟩,⟨by (with_reducible repeat (first|apply qd4|apply qe4|apply qf4));exact Kd.R_mono (Kd.R_far (p:=⟨gb164,2,none⟩) (Kd.R_types HO_165003.out BK164.out (by decide)) (fun _ hk => hk.2) (.slice Ao44 y173.length co44)) (fun _ hk => trivial)⟩,⟨by (with_reducible repeat (first|apply qa4|apply qb4|apply qc4));refine blk_far ?_ NB153_164.out _;(with_reducible repeat (first|apply qa4|apply qb4|apply qc4));exact BK153.out⟩,⟨by (with_reducible repeat (first|apply qa4|apply qb4|apply qc4));refine blk_far ?_ NB154_164.out _;(with_reducible repeat (first|apply qa4|apply qb4|apply qc4));exact BK154.out⟩,⟨by (with_reducible repeat (first|apply qa4|apply qb4|apply qc4));refine blk_put (cs:=#[.int .i64 a0_0,.int .i64 a0_1,u165002,.slice Ao15 y161.length co15]) ?_ 2 _ rfl;(with_reducible repeat (first|apply qa4|apply qb4|apply qc4));exact BK164.out⟩,⟨by repeat (first|(with_reducible first|exact HB.out|apply qg4|apply qh4|apply qi4|refine qj4 ?_ GE153.out|refine qj4 ?_ GE154.out|refine qj4 ?_ GE164.out|refine qj4 ?_ GE166.out)|exact HB.out)⟩⟩
       ·
        rw [if_neg c24] at H
        exact absurd H (by simp)
      ·
       rw [if_neg c23] at H
       exact absurd H (by simp)
     ·
      rw [if_neg c22] at H
      exact absurd H (by simp)
    ·
     rw [if_neg c21] at H
     have c21b0 : decide (x4_1 < (l0_2.length : Int)) = false:=decide_eq_false c21
     clear c21
     simp only [Option.some.injEq,Prod.mk.injEq] at H
     obtain ⟨rfl,rfl,rfl,rfl⟩:=H
     have hnb46:=NB153_154.out
     have hnc46:=NB154_153.out
     have hnb47:=NB153_164.out
     have hnc47:=NB164_153.out
     have hcz48_0 : wr.cell? ⟨gb153,0,none⟩ = some (.int .i64 a0_0):=(blk_cell BK153.out 0).trans rfl
     have hcz48_1 : wr.cell? ⟨gb153,1,none⟩ = some (.int .i64 a0_1):=(blk_cell BK153.out 1).trans rfl
     have hcz48_2 : wr.cell? ⟨gb153,2,none⟩ = some (.slice A0_2 l0_2.length c0_2):=(blk_cell BK153.out 2).trans rfl
     have hcz48_3 : wr.cell? ⟨gb153,3,none⟩ = some (.slice A0_3 l0_3.length c0_3):=(blk_cell BK153.out 3).trans rfl
     have hfz48_0:=sJ BK153.out 0
     have hfz48_1:=sJ BK153.out 1
     have hfz48_2:=sJ BK153.out 2
     have hfz48_3:=sJ BK153.out 3
     have hnb49:=NB164_154.out
     have hnc49:=NB154_164.out
     have hcz50_0 : wr.cell? ⟨gb164,0,none⟩ = some (.int .i64 a0_0):=(blk_cell BK164.out 0).trans rfl
     have hcz50_1 : wr.cell? ⟨gb164,1,none⟩ = some (.int .i64 a0_1):=(blk_cell BK164.out 1).trans rfl
     have hcz50_2 : wr.cell? ⟨gb164,2,none⟩ = some (u165002):=(blk_cell BK164.out 2).trans rfl
     have hcz50_3 : wr.cell? ⟨gb164,3,none⟩ = some (.slice Ao15 y161.length co15):=(blk_cell BK164.out 3).trans rfl
     have hfz50_0:=sJ BK164.out 0
     have hfz50_1:=sJ BK164.out 1
     have hfz50_2:=sJ BK164.out 2
     have hfz50_3:=sJ BK164.out 3
     have hcz51_0 : wr.cell? ⟨gb154,0,none⟩ = some (.int .i64 0):=(blk_cell BK154.out 0).trans rfl
     have hcz51_1 : wr.cell? ⟨gb154,1,none⟩ = some (.int .i64 0):=(blk_cell BK154.out 1).trans rfl
     have hcz51_2 : wr.cell? ⟨gb154,2,none⟩ = some (.slice none 0 0):=(blk_cell BK154.out 2).trans rfl
     have hcz51_3 : wr.cell? ⟨gb154,3,none⟩ = some (.slice none 0 0):=(blk_cell BK154.out 3).trans rfl
     have hfz51_0:=sJ BK154.out 0
     have hfz51_1:=sJ BK154.out 1
     have hfz51_2:=sJ BK154.out 2
     have hfz51_3:=sJ BK154.out 3
     obtain ⟨Ao52,co52,eo52⟩:=Kd.S_slice HO_165002.out
     subst eo52
     go_wp2
     refine bodyPost_ret (results_cell_row rfl _ _ gb154 31 #[.int .i64 a0_0,.int .i64 a0_1,.slice Ao52 x165002_1.length co52,.slice Ao15 y161.length co15] (0,0) _ rfl (by (with_reducible repeat (first|apply qa4|apply qb4|apply qc4));refine blk_put (cs:=#[.int .i64 a0_0,.int .i64 a0_1,.slice Ao52 x165002_1.length co52,.slice none 0 0]) ?_ 3 _ rfl;(with_reducible repeat (first|apply qa4|apply qb4|apply qc4));refine blk_put (cs:=#[.int .i64 a0_0,.int .i64 a0_1,.slice none 0 0,.slice none 0 0]) ?_ 2 _ rfl;(with_reducible repeat (first|apply qa4|apply qb4|apply qc4));refine blk_put (cs:=#[.int .i64 a0_0,.int .i64 0,.slice none 0 0,.slice none 0 0]) ?_ 1 _ rfl;(with_reducible repeat (first|apply qa4|apply qb4|apply qc4));refine blk_put (cs:=#[.int .i64 0,.int .i64 0,.slice none 0 0,.slice none 0 0]) ?_ 0 _ rfl;(with_reducible repeat (first|apply qa4|apply qb4|apply qc4));exact BK154.out) Try.underlying31 rfl (by kernel_rfl)) rfl ?_
     exact ⟨_,_,by first|rfl|(simp [errW_none,errW_some] <;> rfl)|(simp [*,errW_none,errW_some] <;> rfl),by (with_reducible repeat (first|apply Kd.S_alloc|apply Kd.S_drewN|apply Kd.S_drew));exact Kd.S_mono (Kd.S_far (p:=⟨gb154,3,none⟩) (Kd.S_far (p:=⟨gb154,2,none⟩) (Kd.S_far (p:=⟨gb154,1,none⟩) (Kd.S_far (p:=⟨gb154,0,none⟩) (Kd.S_types HO_165002.out BK154.out (by decide)) (fun _ hk => hk.2) (.int .i64 a0_0)) (fun _ hk => hk.2) (.int .i64 a0_1)) (fun _ hk => hk.2) (.slice Ao52 x165002_1.length co52)) (fun _ hk => hk.2) (.slice Ao15 y161.length co15)) (fun _ hk => trivial),by (with_reducible repeat (first|apply qd4|apply qe4|apply qf4));exact Kd.R_mono (Kd.R_far (p:=⟨gb154,3,none⟩) (Kd.R_far (p:=⟨gb154,2,none⟩) (Kd.R_far (p:=⟨gb154,1,none⟩) (Kd.R_far (p:=⟨gb154,0,none⟩) (Kd.R_types HO_165003.out BK154.out (by decide)) (fun _ hk => hk.2) (.int .i64 a0_0)) (fun _ hk => hk.2) (.int .i64 a0_1)) (fun _ hk => hk.2) (.slice Ao52 x165002_1.length co52)) (fun _ hk => hk.2) (.slice Ao15 y161.length co15)) (fun _ hk => trivial),by repeat (first|(with_reducible first|exact HB.out|apply qg4|apply qh4|apply qi4|refine qj4 ?_ GE153.out|refine qj4 ?_ GE154.out|refine qj4 ?_ GE164.out)|exact HB.out)⟩
 ·
  rw [if_neg c2] at H
  exact absurd H (by simp)
end Go.Proofs.Ytjkanhjapddhnaa.PFnExactRunRequests
