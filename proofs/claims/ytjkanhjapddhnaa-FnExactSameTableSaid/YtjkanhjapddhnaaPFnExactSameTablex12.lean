-- laid by this session's program myprint.py over the kit's printer
-- squeezed
-- aliased
import Derived.Test.YtjkanhjapddhnaaPFnExactSameTablex0
import Derived.Test.YtjkanhjapddhnaaPFnExactSameTablex10
import Derived.Test.YtjkanhjapddhnaaPFnExactSameTablex11
namespace Go.Proofs.Ytjkanhjapddhnaa.PFnExactSameTable
open Go.RowKit Go.Proofs.YtjkanhjapddhnaaV.PrintWords Go.Proofs.YtjkanhjapddhnaaV.PrintLast Go.Proofs.YtjkanhjapddhnaaV.PrintMore
attribute [local go_sem] max2_int min2_int max_two min_two max_three min_three max_four min_four u8_wm u32_wm   -- for this text's walks alone
set_option linter.unusedVariables false
set_option linter.unusedSimpArgs false

/-! ### impl_tableText: function 52 -/
theorem qa12 : type_of% @blk_drewN:=@blk_drewN
theorem qb12 : type_of% @blk_drew:=@blk_drew
theorem qc12 : type_of% @blk_alloc:=@blk_alloc
theorem qd12 : type_of% @below_alloc:=@below_alloc
theorem qe12 : type_of% @pw_below_drewN:=@pw_below_drewN
theorem qf12 : type_of% @below_drew1:=@below_drew1
theorem qg12 : type_of% @below_set:=@below_set
theorem qh12 : type_of% @Aside0.mk:=@Aside0.mk
theorem qi12 : type_of% @blk_below:=@blk_below
mutual
def impl_tableText.l0 : Nat → ByteArray → List (S70) → Int → Int → Int → Int → List (S70) → List (S77) → Option (ByteArray)
 | 0,_,_,_,_,_,_,_,_ => none
 | k + 1,x3,x23,x24,x25,x343000,x343001,x343002,x343003 => if x25 < x24 then (if 0 ≤ x25 then (if x25 < (x23.length : Int) then ((impl_number.f k (((rd_T70 x23 x25).f0).size : Int) 1).bind fun t348 => (if t348.size + ((rd_T70 x23 x25).f0).size ≤ 9223372036854775807 then ((impl_number.f k ((rd_T70 x23 x25).f1) 3).bind fun t349 => (if (t348 ++ ((rd_T70 x23 x25).f0)).size + t349.size ≤ 9223372036854775807 then ((impl_number.f k (wrap64 (((rd_T70 x23 x25).f2) + 1)) 2).bind fun t350 => (if ((t348 ++ ((rd_T70 x23 x25).f0)) ++ t349).size + t350.size ≤ 9223372036854775807 then ((impl_number.f k ((rd_T70 x23 x25).f3) 4).bind fun t351 => (if (((t348 ++ ((rd_T70 x23 x25).f0)) ++ t349) ++ t350).size + t351.size ≤ 9223372036854775807 then ((impl_number.f k (((rd_T70 x23 x25).f4).length : Int) 1).bind fun t352 => (if ((((t348 ++ ((rd_T70 x23 x25).f0)) ++ t349) ++ t350) ++ t351).size + t352.size ≤ 9223372036854775807 then (if x3.size + (((((t348 ++ ((rd_T70 x23 x25).f0)) ++ t349) ++ t350) ++ t351) ++ t352).size ≤ 9223372036854775807 then (impl_tableText.l1 k (x3 ++ (((((t348 ++ ((rd_T70 x23 x25).f0)) ++ t349) ++ t350) ++ t351) ++ t352)) x23 x24 x25 ((rd_T70 x23 x25).f4) (((rd_T70 x23 x25).f4).length : Int) 0 x343000 x343001 x343002 x343003) else (none)) else (none))) else (none))) else (none))) else (none))) else (none))) else (none)) else (none)) else ((impl_number.f k (x343003.length : Int) 1).bind fun t357 => (if x3.size + t357.size ≤ 9223372036854775807 then (impl_tableText.l2 k (x3 ++ t357) x343003 (x343003.length : Int) 0) else (none)))
def impl_tableText.l1 : Nat → ByteArray → List (S70) → Int → Int → List (S73) → Int → Int → Int → Int → List (S70) → List (S77) → Option (ByteArray)
 | 0,_,_,_,_,_,_,_,_,_,_,_ => none
 | k + 1,x3,x23,x24,x25,x57,x58,x59,x343000,x343001,x343002,x343003 => if x59 < x58 then (if 0 ≤ x59 then (if x59 < (x57.length : Int) then ((impl_number.f k ((rd_T73 x57 x59).f0) 1).bind fun t355 => ((impl_number.f k ((rd_T73 x57 x59).f1) 2).bind fun t356 => (if t355.size + t356.size ≤ 9223372036854775807 then (if x3.size + (t355 ++ t356).size ≤ 9223372036854775807 then (impl_tableText.l1 k (x3 ++ (t355 ++ t356)) x23 x24 x25 x57 x58 (wrap64 (x59 + 1)) x343000 x343001 x343002 x343003) else (none)) else (none)))) else (none)) else (none)) else (impl_tableText.l0 k x3 x23 x24 (wrap64 (x25 + 1)) x343000 x343001 x343002 x343003)
def impl_tableText.l2 : Nat → ByteArray → List (S77) → Int → Int → Option (ByteArray)
 | 0,_,_,_,_ => none
 | k + 1,x3,x81,x82,x83 => if x83 < x82 then (if 0 ≤ x83 then (if x83 < (x81.length : Int) then ((impl_number.f k ((rd_T77 x81 x83).f0) 1).bind fun t360 => ((impl_number.f k ((rd_T77 x81 x83).f1) 2).bind fun t361 => (if t360.size + t361.size ≤ 9223372036854775807 then ((impl_answerText.f k ((rd_T77 x81 x83).f2.f0) ((rd_T77 x81 x83).f2.f1) ((rd_T77 x81 x83).f2.f2) ((rd_T77 x81 x83).f2.f3)).bind fun t362 => (if (t360 ++ t361).size + t362.size ≤ 9223372036854775807 then (if x3.size + ((t360 ++ t361) ++ t362).size ≤ 9223372036854775807 then (impl_tableText.l2 k (x3 ++ ((t360 ++ t361) ++ t362)) x81 x82 (wrap64 (x83 + 1))) else (none)) else (none))) else (none)))) else (none)) else (none)) else (some x3)
end
def impl_tableText.f (k : Nat) (a0_0 : Int) (a0_1 : Int) (l0_2 : List (S70)) (l0_3 : List (S77)) : Option (ByteArray):=(impl_number.f k a0_0 4).bind fun t343 => ((impl_number.f k a0_1 3).bind fun t344 => (if t343.size + t344.size ≤ 9223372036854775807 then ((impl_number.f k (l0_2.length : Int) 1).bind fun t345 => (if (t343 ++ t344).size + t345.size ≤ 9223372036854775807 then (impl_tableText.l0 k ((t343 ++ t344) ++ t345) l0_2 (l0_2.length : Int) 0 a0_0 a0_1 l0_2 l0_3) else (none))) else (none)))
def impl_tableText.T1 : Bool × List (List Nat × List Nat):=(true,[([],[]),([0],[0]),([1],[1]),([],[]),([3],[3]),([4,2],[4]),([2,5],[2,5]),([],[]),([7],[7]),([8],[8]),([9,5],[9]),([6,10],[6,10]),([11,10,0,1,2,3,4,5,6,7,8,9,10,11],[11])])
def impl_tableText.B1 : List Nat:=[0,1,3,0,8,31,63,0,128,384,959,2047,4095]
theorem impl_tableText.tab1 : rtab .any (opsOf Try.f52 1) = impl_tableText.T1:=by kernel_rfl
theorem impl_tableText.bits1 : waitsOk impl_tableText.T1.2 impl_tableText.B1 = true:=by kernel_rfl
def impl_tableText.T5 : Bool × List (List Nat × List Nat):=(true,[([],[]),([],[]),([1],[1]),([2],[2]),([3],[3]),([],[]),([5],[5]),([4,6],[4,6]),([],[]),([8],[8]),([9,4],[9]),([7,10],[7,10]),([],[]),([12],[12]),([13],[13]),([14,10],[14]),([11,15],[11,15]),([],[]),([17],[17]),([18,15],[18]),([16,19],[16,19]),([],[]),([21],[21]),([22],[22]),([23,19],[23]),([20,24],[20,24]),([0,25],[0,25]),([26,24,0,1,2,3,4,5,6,7,8,9,10,11,12,13,14,15,16,17,18,19,20,21,22,23,24,25,26],[0,26])])
def impl_tableText.B5 : List Nat:=[0,0,2,6,14,0,32,126,0,256,798,2046,0,4096,12288,30494,65534,0,131072,456478,1048574,0,2097152,6291456,15660830,33554430,67108863,134217727]
theorem impl_tableText.tab5 : rtab .any (opsOf Try.f52 5) = impl_tableText.T5:=by kernel_rfl
theorem impl_tableText.bits5 : waitsOk impl_tableText.T5.2 impl_tableText.B5 = true:=by kernel_rfl
def impl_tableText.T9 : Bool × List (List Nat × List Nat):=(true,[([],[]),([],[]),([1],[1]),([2],[2]),([],[]),([4],[4]),([5,3],[5]),([3,6],[3,6]),([0,7],[0,7]),([8,6,0,1,2,3,4,5,6,7,8],[0,8])])
def impl_tableText.B9 : List Nat:=[0,0,2,6,0,16,62,126,255,511]
theorem impl_tableText.tab9 : rtab .any (opsOf Try.f52 9) = impl_tableText.T9:=by kernel_rfl
theorem impl_tableText.bits9 : waitsOk impl_tableText.T9.2 impl_tableText.B9 = true:=by kernel_rfl
def impl_tableText.T16 : Bool × List (List Nat × List Nat):=(true,[([],[]),([],[]),([1],[1]),([2],[2]),([],[]),([4],[4]),([5,3],[5]),([3,6],[3,6]),([],[]),([8],[8]),([9,6],[9]),([7,10],[7,10]),([0,11],[0,11]),([12,10,0,1,2,3,4,5,6,7,8,9,10,11,12],[0,12])])
def impl_tableText.B16 : List Nat:=[0,0,2,6,0,16,62,126,0,256,894,2046,4095,8191]
theorem impl_tableText.tab16 : rtab .any (opsOf Try.f52 16) = impl_tableText.T16:=by kernel_rfl
theorem impl_tableText.bits16 : waitsOk impl_tableText.T16.2 impl_tableText.B16 = true:=by kernel_rfl
set_option maxHeartbeats 8000000 in
set_option maxRecDepth 100000 in
theorem impl_tableText.calls (k : Nat) (a0_0 : Int) (a0_1 : Int) (A0_2 : Option Addr) (c0_2 : Nat) (l0_2 : List (S70)) (A0_3 : Option Addr) (c0_3 : Nat) (l0_3 : List (S77)) (r : ByteArray) (w : World) (hr0_2 : Kd.C k70 w A0_2 l0_2.length l0_2) (hc0_2 : l0_2.length ≤ c0_2) (hr0_3 : Kd.C k77 w A0_3 l0_3.length l0_3) (hc0_3 : l0_3.length ≤ c0_3) (h : impl_tableText.f k a0_0 a0_1 l0_2 l0_3 = some r) :
  Calls Try.prog 52 #[.agg #[.int .i64 a0_0,.int .i64 a0_1,.slice A0_2 l0_2.length c0_2,.slice A0_3 l0_3.length c0_3]] w fun e w' => e = .returned (.string r) ∧ Below w.heap.size w w':=by
 have hu31:=Try.underlying31
 have hu70:=Try.underlying70
 have hu73:=Try.underlying73
 have hu77:=Try.underlying77
 have hu75:=Try.underlying75
 have HR0_2:=qh12 hr0_2
 have HC0_2:=qh12 hc0_2
 clear hr0_2 hc0_2
 have HR0_3:=qh12 hr0_3
 have HC0_3:=qh12 hc0_3
 clear hr0_3 hc0_3
 have HB:=qh12 (Below.refl w.heap.size w)
 have H : ((impl_number.f k a0_0 4).bind fun t343 => ((impl_number.f k a0_1 3).bind fun t344 => (if t343.size + t344.size ≤ 9223372036854775807 then ((impl_number.f k (l0_2.length : Int) 1).bind fun t345 => (if (t343 ++ t344).size + t345.size ≤ 9223372036854775807 then (impl_tableText.l0 k ((t343 ++ t344) ++ t345) l0_2 (l0_2.length : Int) 0 a0_0 a0_1 l0_2 l0_3) else (none))) else (none)))) = some r:=h
 clear h
 replace H:=Option.bind_eq_some_iff.mp H
 obtain ⟨t343,A20,H⟩:=H
 replace H : ((impl_number.f k a0_1 3).bind fun t344 => (if t343.size + t344.size ≤ 9223372036854775807 then ((impl_number.f k (l0_2.length : Int) 1).bind fun t345 => (if (t343 ++ t344).size + t345.size ≤ 9223372036854775807 then (impl_tableText.l0 k ((t343 ++ t344) ++ t345) l0_2 (l0_2.length : Int) 0 a0_0 a0_1 l0_2 l0_3) else (none))) else (none))) = some r:=H
 have A2:=qh12 A20
 clear A20
 replace H:=Option.bind_eq_some_iff.mp H
 obtain ⟨t344,A30,H⟩:=H
 replace H : (if t343.size + t344.size ≤ 9223372036854775807 then ((impl_number.f k (l0_2.length : Int) 1).bind fun t345 => (if (t343 ++ t344).size + t345.size ≤ 9223372036854775807 then (impl_tableText.l0 k ((t343 ++ t344) ++ t345) l0_2 (l0_2.length : Int) 0 a0_0 a0_1 l0_2 l0_3) else (none))) else (none)) = some r:=H
 have A3:=qh12 A30
 clear A30
 by_cases c4 : t343.size + t344.size ≤ 9223372036854775807
 ·
  rw [if_pos c4] at H
  have c4b0:=eq_true c4
  have c4b1 : decide (t343.size + t344.size ≤ 9223372036854775807) = true:=decide_eq_true c4
  try have c4b2 : (9223372036854775807 < t343.size + t344.size) = False:=eq_false (Nat.not_lt.2 c4)
  replace H:=Option.bind_eq_some_iff.mp H
  obtain ⟨t345,A50,H⟩:=H
  replace H : (if (t343 ++ t344).size + t345.size ≤ 9223372036854775807 then (impl_tableText.l0 k ((t343 ++ t344) ++ t345) l0_2 (l0_2.length : Int) 0 a0_0 a0_1 l0_2 l0_3) else (none)) = some r:=H
  have A5:=qh12 A50
  clear A50
  by_cases c6 : (t343 ++ t344).size + t345.size ≤ 9223372036854775807
  ·
   rw [if_pos c6] at H
   have c6b0:=eq_true c6
   have c6b1 : decide ((t343 ++ t344).size + t345.size ≤ 9223372036854775807) = true:=decide_eq_true c6
   try have c6b2 : (9223372036854775807 < (t343 ++ t344).size + t345.size) = False:=eq_false (Nat.not_lt.2 c6)
   (try (have c6b3:=c6;simp only [ByteArray.size_append] at c6b3;have c6b4:=eq_false (Nat.not_lt.2 c6b3)))
   have H':=qh12 H
   clear H
   go_enter Try.func52,Try.ntmps52
   try go_wp2_with (first|((with_reducible refine gate_dst (N:=1) rfl ?_);refine box_event ?hg (N:=1) ?hd (cs:=#[.int .i64 a0_0,.int .i64 a0_1,.slice A0_2 l0_2.length c0_2,.slice A0_3 l0_3.length c0_3]) (t:=31) ?hr ?_;(case hd => rfl);(case hg => rfl);(case hr => first|(go_simp;done)|(go_simp;rfl));intro gb342 hg w7 hbox hb;have n0_:=qh12 (sN (by repeat (first|(with_reducible first|exact HB.out|apply qd12|apply qe12|apply qf12)|exact HB.out)) hb);have n1_:=qh12 (hbox);have n2_:=qh12 ((by rw [hg];exact (below_size (by repeat (first|(with_reducible first|exact HB.out|apply qd12|apply qe12|apply qf12)|exact HB.out))) : w.heap.size ≤ gb342));have n3_:=qh12 ((by rw [hg];exact (below_size (by repeat (first|(with_reducible first|exact HB.out|apply qd12|apply qe12|apply qf12)|exact HB.out))) : w.heap.size ≤ gb342));clear HB;have HB:=n0_;have BK342:=n1_;have GW342:=n2_;have GE342:=n3_;clear n0_ n1_ n2_ n3_;clear hb hbox hg))
   have n0_:=qh12 (qb12 BK342.out)
   have n1_:=qh12 (qf12 HB.out)
   clear BK342
   clear HB
   have BK342:=n0_
   have HB:=n1_
   clear n0_ n1_
   refine start_ (n:=13) (S:=fun w' => w'.cell? ⟨gb342,0,none⟩ = some (.int .i64 a0_0) ∧ w'.cell? ⟨gb342,1,none⟩ = some (.int .i64 a0_1) ∧ w'.cell? ⟨gb342,2,none⟩ = some (.slice A0_2 l0_2.length c0_2) ∧ w'.cell? ⟨gb342,3,none⟩ = some (.slice A0_3 l0_3.length c0_3)) (ds:=[]) #[false,false,false,false,false,false,false,false,false,false,false,false,false] (by kernel_rfl) rfl rfl ⟨(blk_cell BK342.out 0).trans rfl,(blk_cell BK342.out 1).trans rfl,(blk_cell BK342.out 2).trans rfl,(blk_cell BK342.out 3).trans rfl⟩ (fun hHeld => ?_);refine with_tabW impl_tableText.tab1 impl_tableText.bits1 (fun HT_ HW_ => ?_)
   generalize w7.drew = w8 at BK342 HB hHeld ⊢
   refine pure_ (i:=0) (N:=some 10) (v:=?_) (a':=?_) #[true,false,false,false,false,false,false,false,false,false,false,false,false] rfl rfl (any_of HT_.out (by kernel_rfl)) (fun _ _ _ h => h) (Or.inl ⟨by rfl,?_⟩) ?_ ?_
   rotate_left
   ·
    intro w'
    go_simp
    with_reducible rfl
   rotate_left
   ·
    simp only [Act.put,sA,sB,sC,i64_w,i32_w]
    rfl
   refine pure_ (i:=3) (N:=some 13) (v:=?_) (a':=?_) #[true,false,false,true,false,false,false,false,false,false,false,false,false] rfl rfl (any_of HT_.out (by kernel_rfl)) (fun _ _ _ h => h) (Or.inl ⟨by rfl,?_⟩) ?_ ?_
   rotate_left
   ·
    intro w'
    go_simp
    with_reducible rfl
   rotate_left
   ·
    simp only [Act.put,sA,sB,sC,i64_w,i32_w]
    rfl
   refine pure_ (i:=7) (N:=some 17) (v:=?_) (a':=?_) #[true,false,false,true,false,false,false,true,false,false,false,false,false] rfl rfl (any_of HT_.out (by kernel_rfl)) (fun _ _ _ h => h) (Or.inl ⟨by rfl,?_⟩) ?_ ?_
   rotate_left
   ·
    intro w'
    go_simp
    with_reducible rfl
   rotate_left
   ·
    simp only [Act.put,sA,sB,sC,i64_w,i32_w]
    rfl
   refine take_ (i:=1) (N:=some 11) (v:=?_) (a':=?_) #[true,true,false,true,false,false,false,true,false,false,false,false,false] rfl rfl (take_ofW HT_.out HW_.out (by kernel_rfl)) (fun _ _ _ h => h) (Or.inl ⟨by rfl,?_⟩) hHeld ?_ ?_
   rotate_left
   ·
    rintro w' ⟨s0,s1,s2,s3⟩
    go_simp
    with_reducible rfl
   rotate_left
   ·
    simp only [Act.put,sA,sB,sC,i64_w,i32_w]
    rfl
   refine take_ (i:=4) (N:=some 14) (v:=?_) (a':=?_) #[true,true,false,true,true,false,false,true,false,false,false,false,false] rfl rfl (take_ofW HT_.out HW_.out (by kernel_rfl)) (fun _ _ _ h => h) (Or.inl ⟨by rfl,?_⟩) hHeld ?_ ?_
   rotate_left
   ·
    rintro w' ⟨s0,s1,s2,s3⟩
    go_simp
    with_reducible rfl
   rotate_left
   ·
    simp only [Act.put,sA,sB,sC,i64_w,i32_w]
    rfl
   refine take_ (i:=8) (N:=some 18) (v:=?_) (a':=?_) #[true,true,false,true,true,false,false,true,true,false,false,false,false] rfl rfl (take_ofW HT_.out HW_.out (by kernel_rfl)) (fun _ _ _ h => h) (Or.inl ⟨by rfl,?_⟩) hHeld ?_ ?_
   rotate_left
   ·
    rintro w' ⟨s0,s1,s2,s3⟩
    go_simp
    with_reducible rfl
   rotate_left
   ·
    simp only [Act.put,sA,sB,sC,i64_w,i32_w]
    rfl
   refine pure_ (i:=9) (N:=some 19) (v:=?_) (a':=?_) #[true,true,false,true,true,false,false,true,true,true,false,false,false] rfl rfl (any_of HT_.out (by kernel_rfl)) (fun _ _ _ h => h) (Or.inl ⟨by rfl,?_⟩) ?_ ?_
   rotate_left
   ·
    intro w'
    go_simp
    with_reducible rfl
   rotate_left
   ·
    simp only [Act.put,sA,sB,sC,i64_w,i32_w]
    rfl
   refine one_ (i:=2) (N:=some 12) #[true,true,true,true,true,false,false,true,true,true,false,false,false] rfl rfl (one_of HT_.out (by kernel_rfl)) (by decide) (fun K hK => ?_)
   refine goes_ Try.func80 (by kernel_rfl) rfl #[.int .i64 a0_0,.int .i64 4] (by rfl) rfl rfl (by (try simp only [sE,sH,sI]);first|done|rfl|(simp only [sG,sF];rfl)) ?_
   with_reducible refine (impl_number.calls k a0_0 4 t343 _ A2.out).mono ?_
   rintro e w9 ⟨rfl,hb⟩
   refine ⟨_,rfl,?_⟩
   have n0_:=qh12 (qi12 (g:=gb342) (o:=.cells #[.int .i64 a0_0,.int .i64 a0_1,.slice A0_2 l0_2.length c0_2,.slice A0_3 l0_3.length c0_3] 31 (0,0)) (by (with_reducible repeat (first|apply qa12|apply qb12|apply qc12));exact BK342.out) hb)
   have n1_:=qh12 (sN (by repeat (first|(with_reducible first|exact HB.out|apply qd12|apply qe12|apply qf12|refine qg12 ?_ GE342.out)|exact HB.out)) hb)
   clear BK342
   clear HB
   have BK342:=n0_
   have HB:=n1_
   clear n0_ n1_
   (try clear hb)
   (try clear hb2)
   (try clear hk)
   (try clear hi)
   refine hK.out _ _ ⟨(blk_cell BK342.out 0).trans rfl,(blk_cell BK342.out 1).trans rfl,(blk_cell BK342.out 2).trans rfl,(blk_cell BK342.out 3).trans rfl⟩ (fun hHeld => ?_)
   clear hK K
   refine norm_ (a':=?_) ?_ ?_
   rotate_left
   ·
    show Act.put _ (some 12) _ = _
    simp only [Act.put,sA,sB,sC,i64_w,i32_w]
    rfl
   refine one_ (i:=5) (N:=some 15) #[true,true,true,true,true,true,false,true,true,true,false,false,false] rfl rfl (one_of HT_.out (by kernel_rfl)) (by decide) (fun K hK => ?_)
   refine goes_ Try.func80 (by kernel_rfl) rfl #[.int .i64 a0_1,.int .i64 3] (by rfl) rfl rfl (by (try simp only [sE,sH,sI]);first|done|rfl|(simp only [sG,sF];rfl)) ?_
   with_reducible refine (impl_number.calls k a0_1 3 t344 _ A3.out).mono ?_
   rintro e w10 ⟨rfl,hb⟩
   refine ⟨_,rfl,?_⟩
   have n0_:=qh12 (qi12 (g:=gb342) (o:=.cells #[.int .i64 a0_0,.int .i64 a0_1,.slice A0_2 l0_2.length c0_2,.slice A0_3 l0_3.length c0_3] 31 (0,0)) (by (with_reducible repeat (first|apply qa12|apply qb12|apply qc12));exact BK342.out) hb)
   have n1_:=qh12 (sN (by repeat (first|(with_reducible first|exact HB.out|apply qd12|apply qe12|apply qf12|refine qg12 ?_ GE342.out)|exact HB.out)) hb)
   clear BK342
   clear HB
   have BK342:=n0_
   have HB:=n1_
   clear n0_ n1_
   (try clear hb)
   (try clear hb2)
   (try clear hk)
   (try clear hi)
   refine hK.out _ _ ⟨(blk_cell BK342.out 0).trans rfl,(blk_cell BK342.out 1).trans rfl,(blk_cell BK342.out 2).trans rfl,(blk_cell BK342.out 3).trans rfl⟩ (fun hHeld => ?_)
   clear hK K
   refine norm_ (a':=?_) ?_ ?_
   rotate_left
   ·
    show Act.put _ (some 15) _ = _
    simp only [Act.put,sA,sB,sC,i64_w,i32_w]
    rfl
   refine pure_ (i:=6) (N:=some 16) (v:=?_) (a':=?_) #[true,true,true,true,true,true,true,true,true,true,false,false,false] rfl rfl (any_of HT_.out (by kernel_rfl)) (fun _ _ _ h => h) (Or.inl ⟨by rfl,?_⟩) ?_ ?_
   rotate_left
   ·
    intro w'
    go_simp
    with_reducible rfl
   rotate_left
   ·
    simp only [Act.put,sA,sB,sC,i64_w,i32_w]
    rfl
   refine one_ (i:=10) (N:=some 20) #[true,true,true,true,true,true,true,true,true,true,true,false,false] rfl rfl (one_of HT_.out (by kernel_rfl)) (by decide) (fun K hK => ?_)
   refine goes_ Try.func80 (by kernel_rfl) rfl #[.int .i64 (l0_2.length : Int),.int .i64 1] (by rfl) rfl rfl (by (try simp only [sE,sH,sI]);first|done|rfl|(simp only [sG,sF];rfl)) ?_
   with_reducible refine (impl_number.calls k (l0_2.length : Int) 1 t345 _ A5.out).mono ?_
   rintro e w11 ⟨rfl,hb⟩
   refine ⟨_,rfl,?_⟩
   have n0_:=qh12 (qi12 (g:=gb342) (o:=.cells #[.int .i64 a0_0,.int .i64 a0_1,.slice A0_2 l0_2.length c0_2,.slice A0_3 l0_3.length c0_3] 31 (0,0)) (by (with_reducible repeat (first|apply qa12|apply qb12|apply qc12));exact BK342.out) hb)
   have n1_:=qh12 (sN (by repeat (first|(with_reducible first|exact HB.out|apply qd12|apply qe12|apply qf12|refine qg12 ?_ GE342.out)|exact HB.out)) hb)
   clear BK342
   clear HB
   have BK342:=n0_
   have HB:=n1_
   clear n0_ n1_
   (try clear hb)
   (try clear hb2)
   (try clear hk)
   (try clear hi)
   refine hK.out _ _ ⟨(blk_cell BK342.out 0).trans rfl,(blk_cell BK342.out 1).trans rfl,(blk_cell BK342.out 2).trans rfl,(blk_cell BK342.out 3).trans rfl⟩ (fun hHeld => ?_)
   clear hK K
   refine norm_ (a':=?_) ?_ ?_
   rotate_left
   ·
    show Act.put _ (some 20) _ = _
    simp only [Act.put,sA,sB,sC,i64_w,i32_w]
    rfl
   refine pure_ (i:=11) (N:=some 21) (v:=?_) (a':=?_) #[true,true,true,true,true,true,true,true,true,true,true,true,false] rfl rfl (any_of HT_.out (by kernel_rfl)) (fun _ _ _ h => h) (Or.inl ⟨by rfl,?_⟩) ?_ ?_
   rotate_left
   ·
    intro w'
    go_simp
    with_reducible rfl
   rotate_left
   ·
    simp only [Act.put,sA,sB,sC,i64_w,i32_w]
    rfl
   refine pure_ (i:=12) (N:=some 3) (v:=?_) (a':=?_) #[true,true,true,true,true,true,true,true,true,true,true,true,true] rfl rfl (any_of HT_.out (by kernel_rfl)) (fun _ _ _ h => h) (Or.inl ⟨by rfl,?_⟩) ?_ ?_
   rotate_left
   ·
    intro w'
    go_simp
    with_reducible rfl
   rotate_left
   ·
    simp only [Act.put,sA,sB,sC,i64_w,i32_w]
    rfl
   refine done_ (done_of HT_.out (by kernel_rfl)) ?_
   have hcz12_0 : w11.cell? ⟨gb342,0,none⟩ = some (.int .i64 a0_0):=(blk_cell BK342.out 0).trans rfl
   have hcz12_1 : w11.cell? ⟨gb342,1,none⟩ = some (.int .i64 a0_1):=(blk_cell BK342.out 1).trans rfl
   have hcz12_2 : w11.cell? ⟨gb342,2,none⟩ = some (.slice A0_2 l0_2.length c0_2):=(blk_cell BK342.out 2).trans rfl
   have hcz12_3 : w11.cell? ⟨gb342,3,none⟩ = some (.slice A0_3 l0_3.length c0_3):=(blk_cell BK342.out 3).trans rfl
   have hfz12_0:=sJ BK342.out 0
   have hfz12_1:=sJ BK342.out 1
   have hfz12_2:=sJ BK342.out 2
   have hfz12_3:=sJ BK342.out 3
   try go_wp2
   go_loopg [3,25] k (fun kq v3 v25 w' => ∃ (x3_1 : ByteArray) (x25_1 : Int),v3 = .string x3_1 ∧ v25 = .int .i64 x25_1 ∧ Aside0 (impl_tableText.l0 kq x3_1 l0_2 (l0_2.length : Int) x25_1 a0_0 a0_1 l0_2 l0_3 = some r) ∧ Aside0 (kq ≤ k) ∧ Aside0 (w'.heap[gb342]? = some (.cells #[.int .i64 a0_0,.int .i64 a0_1,(.slice A0_2 l0_2.length c0_2),(.slice A0_3 l0_3.length c0_3)] 31 (0,0))) ∧ Aside0 (Below w.heap.size w w'))
   case atStart => exact ⟨((t343 ++ t344) ++ t345),(0),(by first|rfl|(simp;done)|(simp [*];done)),(by first|rfl|(simp;done)|(simp [*];done)),H',⟨Nat.le_refl _⟩,⟨by (with_reducible repeat (first|apply qa12|apply qb12|apply qc12));exact BK342.out⟩,⟨by repeat (first|(with_reducible first|exact HB.out|apply qd12|apply qe12|apply qf12|refine qg12 ?_ GE342.out)|exact HB.out)⟩⟩
   case round =>
    clear H'
    try clear p2
    try clear c4
    try clear c4b0
    try clear c4b1
    try clear c4b2
    try clear c5
    try clear c6
    try clear c6b0
    try clear c6b1
    try clear c6b2
    try clear c8
    try clear hcz12_0
    try clear hcz12_1
    try clear hcz12_2
    try clear hcz12_3
    try clear hfz12_0
    try clear hfz12_1
    try clear hfz12_2
    try clear hfz12_3
    obtain ⟨x3_1,x25_1,rfl,rfl,HA,HK1,BK342,HB⟩:=hrel
    cases gk with
    | zero => exact absurd HA.out (by simp [impl_tableText.l0])
    | succ k1 =>
     have H:=HA.out
     clear HA
     simp only [impl_tableText.l0] at H
     by_cases c13 : x25_1 < (l0_2.length : Int)
     ·
      rw [if_pos c13] at H
      have c13b0 : decide (x25_1 < (l0_2.length : Int)) = true:=decide_eq_true c13
      clear c13
      by_cases c14 : 0 ≤ x25_1
      ·
       rw [if_pos c14] at H
       have c14b0 : decide (0 ≤ x25_1) = true:=decide_eq_true c14
       clear c14
       by_cases c15 : x25_1 < (l0_2.length : Int)
       ·
        rw [if_pos c15] at H
        have c15b0 : decide (x25_1 < (l0_2.length : Int)) = true:=decide_eq_true c15
        clear c15
        replace H:=Option.bind_eq_some_iff.mp H
        obtain ⟨t348,A160,H⟩:=H
        replace H : (if t348.size + ((rd_T70 l0_2 x25_1).f0).size ≤ 9223372036854775807 then ((impl_number.f k1 ((rd_T70 l0_2 x25_1).f1) 3).bind fun t349 => (if (t348 ++ ((rd_T70 l0_2 x25_1).f0)).size + t349.size ≤ 9223372036854775807 then ((impl_number.f k1 (wrap64 (((rd_T70 l0_2 x25_1).f2) + 1)) 2).bind fun t350 => (if ((t348 ++ ((rd_T70 l0_2 x25_1).f0)) ++ t349).size + t350.size ≤ 9223372036854775807 then ((impl_number.f k1 ((rd_T70 l0_2 x25_1).f3) 4).bind fun t351 => (if (((t348 ++ ((rd_T70 l0_2 x25_1).f0)) ++ t349) ++ t350).size + t351.size ≤ 9223372036854775807 then ((impl_number.f k1 (((rd_T70 l0_2 x25_1).f4).length : Int) 1).bind fun t352 => (if ((((t348 ++ ((rd_T70 l0_2 x25_1).f0)) ++ t349) ++ t350) ++ t351).size + t352.size ≤ 9223372036854775807 then (if x3_1.size + (((((t348 ++ ((rd_T70 l0_2 x25_1).f0)) ++ t349) ++ t350) ++ t351) ++ t352).size ≤ 9223372036854775807 then (impl_tableText.l1 k1 (x3_1 ++ (((((t348 ++ ((rd_T70 l0_2 x25_1).f0)) ++ t349) ++ t350) ++ t351) ++ t352)) l0_2 (l0_2.length : Int) x25_1 ((rd_T70 l0_2 x25_1).f4) (((rd_T70 l0_2 x25_1).f4).length : Int) 0 a0_0 a0_1 l0_2 l0_3) else (none)) else (none))) else (none))) else (none))) else (none))) else (none)) = some r:=H
        have A16:=qh12 A160
        clear A160
        by_cases c17 : t348.size + ((rd_T70 l0_2 x25_1).f0).size ≤ 9223372036854775807
        ·
         rw [if_pos c17] at H
         have c17b0:=eq_true c17
         have c17b1 : decide (t348.size + ((rd_T70 l0_2 x25_1).f0).size ≤ 9223372036854775807) = true:=decide_eq_true c17
         try have c17b2 : (9223372036854775807 < t348.size + ((rd_T70 l0_2 x25_1).f0).size) = False:=eq_false (Nat.not_lt.2 c17)
         replace H:=Option.bind_eq_some_iff.mp H
         obtain ⟨t349,A180,H⟩:=H
         replace H : (if (t348 ++ ((rd_T70 l0_2 x25_1).f0)).size + t349.size ≤ 9223372036854775807 then ((impl_number.f k1 (wrap64 (((rd_T70 l0_2 x25_1).f2) + 1)) 2).bind fun t350 => (if ((t348 ++ ((rd_T70 l0_2 x25_1).f0)) ++ t349).size + t350.size ≤ 9223372036854775807 then ((impl_number.f k1 ((rd_T70 l0_2 x25_1).f3) 4).bind fun t351 => (if (((t348 ++ ((rd_T70 l0_2 x25_1).f0)) ++ t349) ++ t350).size + t351.size ≤ 9223372036854775807 then ((impl_number.f k1 (((rd_T70 l0_2 x25_1).f4).length : Int) 1).bind fun t352 => (if ((((t348 ++ ((rd_T70 l0_2 x25_1).f0)) ++ t349) ++ t350) ++ t351).size + t352.size ≤ 9223372036854775807 then (if x3_1.size + (((((t348 ++ ((rd_T70 l0_2 x25_1).f0)) ++ t349) ++ t350) ++ t351) ++ t352).size ≤ 9223372036854775807 then (impl_tableText.l1 k1 (x3_1 ++ (((((t348 ++ ((rd_T70 l0_2 x25_1).f0)) ++ t349) ++ t350) ++ t351) ++ t352)) l0_2 (l0_2.length : Int) x25_1 ((rd_T70 l0_2 x25_1).f4) (((rd_T70 l0_2 x25_1).f4).length : Int) 0 a0_0 a0_1 l0_2 l0_3) else (none)) else (none))) else (none))) else (none))) else (none)) = some r:=H
         have A18:=qh12 A180
         clear A180
         by_cases c19 : (t348 ++ ((rd_T70 l0_2 x25_1).f0)).size + t349.size ≤ 9223372036854775807
         ·
          rw [if_pos c19] at H
          have c19b0:=eq_true c19
          have c19b1 : decide ((t348 ++ ((rd_T70 l0_2 x25_1).f0)).size + t349.size ≤ 9223372036854775807) = true:=decide_eq_true c19
          try have c19b2 : (9223372036854775807 < (t348 ++ ((rd_T70 l0_2 x25_1).f0)).size + t349.size) = False:=eq_false (Nat.not_lt.2 c19)
          (try (have c19b3:=c19;simp only [ByteArray.size_append] at c19b3;have c19b4:=eq_false (Nat.not_lt.2 c19b3)))
          replace H:=Option.bind_eq_some_iff.mp H
          obtain ⟨t350,A200,H⟩:=H
          replace H : (if ((t348 ++ ((rd_T70 l0_2 x25_1).f0)) ++ t349).size + t350.size ≤ 9223372036854775807 then ((impl_number.f k1 ((rd_T70 l0_2 x25_1).f3) 4).bind fun t351 => (if (((t348 ++ ((rd_T70 l0_2 x25_1).f0)) ++ t349) ++ t350).size + t351.size ≤ 9223372036854775807 then ((impl_number.f k1 (((rd_T70 l0_2 x25_1).f4).length : Int) 1).bind fun t352 => (if ((((t348 ++ ((rd_T70 l0_2 x25_1).f0)) ++ t349) ++ t350) ++ t351).size + t352.size ≤ 9223372036854775807 then (if x3_1.size + (((((t348 ++ ((rd_T70 l0_2 x25_1).f0)) ++ t349) ++ t350) ++ t351) ++ t352).size ≤ 9223372036854775807 then (impl_tableText.l1 k1 (x3_1 ++ (((((t348 ++ ((rd_T70 l0_2 x25_1).f0)) ++ t349) ++ t350) ++ t351) ++ t352)) l0_2 (l0_2.length : Int) x25_1 ((rd_T70 l0_2 x25_1).f4) (((rd_T70 l0_2 x25_1).f4).length : Int) 0 a0_0 a0_1 l0_2 l0_3) else (none)) else (none))) else (none))) else (none)) = some r:=H
          have A20:=qh12 A200
          clear A200
          by_cases c21 : ((t348 ++ ((rd_T70 l0_2 x25_1).f0)) ++ t349).size + t350.size ≤ 9223372036854775807
          ·
           rw [if_pos c21] at H
           have c21b0:=eq_true c21
           have c21b1 : decide (((t348 ++ ((rd_T70 l0_2 x25_1).f0)) ++ t349).size + t350.size ≤ 9223372036854775807) = true:=decide_eq_true c21
           try have c21b2 : (9223372036854775807 < ((t348 ++ ((rd_T70 l0_2 x25_1).f0)) ++ t349).size + t350.size) = False:=eq_false (Nat.not_lt.2 c21)
           (try (have c21b3:=c21;simp only [ByteArray.size_append] at c21b3;have c21b4:=eq_false (Nat.not_lt.2 c21b3)))
           replace H:=Option.bind_eq_some_iff.mp H
           obtain ⟨t351,A220,H⟩:=H
           replace H : (if (((t348 ++ ((rd_T70 l0_2 x25_1).f0)) ++ t349) ++ t350).size + t351.size ≤ 9223372036854775807 then ((impl_number.f k1 (((rd_T70 l0_2 x25_1).f4).length : Int) 1).bind fun t352 => (if ((((t348 ++ ((rd_T70 l0_2 x25_1).f0)) ++ t349) ++ t350) ++ t351).size + t352.size ≤ 9223372036854775807 then (if x3_1.size + (((((t348 ++ ((rd_T70 l0_2 x25_1).f0)) ++ t349) ++ t350) ++ t351) ++ t352).size ≤ 9223372036854775807 then (impl_tableText.l1 k1 (x3_1 ++ (((((t348 ++ ((rd_T70 l0_2 x25_1).f0)) ++ t349) ++ t350) ++ t351) ++ t352)) l0_2 (l0_2.length : Int) x25_1 ((rd_T70 l0_2 x25_1).f4) (((rd_T70 l0_2 x25_1).f4).length : Int) 0 a0_0 a0_1 l0_2 l0_3) else (none)) else (none))) else (none)) = some r:=H
           have A22:=qh12 A220
           clear A220
           by_cases c23 : (((t348 ++ ((rd_T70 l0_2 x25_1).f0)) ++ t349) ++ t350).size + t351.size ≤ 9223372036854775807
           ·
            rw [if_pos c23] at H
            have c23b0:=eq_true c23
            have c23b1 : decide ((((t348 ++ ((rd_T70 l0_2 x25_1).f0)) ++ t349) ++ t350).size + t351.size ≤ 9223372036854775807) = true:=decide_eq_true c23
            try have c23b2 : (9223372036854775807 < (((t348 ++ ((rd_T70 l0_2 x25_1).f0)) ++ t349) ++ t350).size + t351.size) = False:=eq_false (Nat.not_lt.2 c23)
            (try (have c23b3:=c23;simp only [ByteArray.size_append] at c23b3;have c23b4:=eq_false (Nat.not_lt.2 c23b3)))
            replace H:=Option.bind_eq_some_iff.mp H
            obtain ⟨t352,A240,H⟩:=H
            replace H : (if ((((t348 ++ ((rd_T70 l0_2 x25_1).f0)) ++ t349) ++ t350) ++ t351).size + t352.size ≤ 9223372036854775807 then (if x3_1.size + (((((t348 ++ ((rd_T70 l0_2 x25_1).f0)) ++ t349) ++ t350) ++ t351) ++ t352).size ≤ 9223372036854775807 then (impl_tableText.l1 k1 (x3_1 ++ (((((t348 ++ ((rd_T70 l0_2 x25_1).f0)) ++ t349) ++ t350) ++ t351) ++ t352)) l0_2 (l0_2.length : Int) x25_1 ((rd_T70 l0_2 x25_1).f4) (((rd_T70 l0_2 x25_1).f4).length : Int) 0 a0_0 a0_1 l0_2 l0_3) else (none)) else (none)) = some r:=H
            have A24:=qh12 A240
            clear A240
            by_cases c25 : ((((t348 ++ ((rd_T70 l0_2 x25_1).f0)) ++ t349) ++ t350) ++ t351).size + t352.size ≤ 9223372036854775807
            ·
             rw [if_pos c25] at H
             have c25b0:=eq_true c25
             have c25b1 : decide (((((t348 ++ ((rd_T70 l0_2 x25_1).f0)) ++ t349) ++ t350) ++ t351).size + t352.size ≤ 9223372036854775807) = true:=decide_eq_true c25
             try have c25b2 : (9223372036854775807 < ((((t348 ++ ((rd_T70 l0_2 x25_1).f0)) ++ t349) ++ t350) ++ t351).size + t352.size) = False:=eq_false (Nat.not_lt.2 c25)
             (try (have c25b3:=c25;simp only [ByteArray.size_append] at c25b3;have c25b4:=eq_false (Nat.not_lt.2 c25b3)))
             by_cases c26 : x3_1.size + (((((t348 ++ ((rd_T70 l0_2 x25_1).f0)) ++ t349) ++ t350) ++ t351) ++ t352).size ≤ 9223372036854775807
             ·
              rw [if_pos c26] at H
              have c26b0:=eq_true c26
              have c26b1 : decide (x3_1.size + (((((t348 ++ ((rd_T70 l0_2 x25_1).f0)) ++ t349) ++ t350) ++ t351) ++ t352).size ≤ 9223372036854775807) = true:=decide_eq_true c26
              try have c26b2 : (9223372036854775807 < x3_1.size + (((((t348 ++ ((rd_T70 l0_2 x25_1).f0)) ++ t349) ++ t350) ++ t351) ++ t352).size) = False:=eq_false (Nat.not_lt.2 c26)
              (try (have c26b3:=c26;simp only [ByteArray.size_append] at c26b3;have c26b4:=eq_false (Nat.not_lt.2 c26b3)))
              have H':=qh12 H
              clear H
              have p346 : 0 ≤ (x25_1 : Int):=sM (by first|(with_reducible assumption)|assumption)
              have q346 : x25_1 < (l0_2.length : Int):=sM (by first|(with_reducible assumption)|assumption)
              obtain ⟨ad346,A346_4,c346_4,e346,hx346_0,hx346_1,hx346_2,hx346_3,hx346_4,hl346_4,hi346_4⟩:=at_T70 HR0_2.out x25_1 p346 q346
              cases e346
              replace hx346_0:=(HB.out.cell (sD w _ hx346_0)).trans hx346_0
              replace hx346_1:=(HB.out.cell (sD w _ hx346_1)).trans hx346_1
              replace hx346_2:=(HB.out.cell (sD w _ hx346_2)).trans hx346_2
              replace hx346_3:=(HB.out.cell (sD w _ hx346_3)).trans hx346_3
              replace hx346_4:=(HB.out.cell (sD w _ hx346_4)).trans hx346_4
              have HR346_4:=qh12 hi346_4
              have HC346_4:=qh12 hl346_4
              clear hi346_4 hl346_4
              replace p346:=eq_true p346
              replace q346:=eq_true q346
              try go_wp2_with (first|((with_reducible refine gate_dst (N:=5) rfl ?_);refine box_event ?hg (N:=5) ?hd (cs:=#[.string (⟨#[]⟩ : ByteArray),.int .i64 0,.int .i64 0,.int .i64 0,.slice none 0 0]) (t:=70) ?hr ?_;(case hd => rfl);(case hg => rfl);(case hr => first|(go_simp;done)|(go_simp;rfl));intro gb347 hg w27 hbox hb;have n0_:=qh12 (qi12 (g:=gb342) (o:=.cells #[.int .i64 a0_0,.int .i64 a0_1,.slice (some ad346) l0_2.length c0_2,.slice A0_3 l0_3.length c0_3] 31 (0,0)) (by (with_reducible repeat (first|apply qa12|apply qb12|apply qc12));exact BK342.out) hb);have n1_:=qh12 (sN (by repeat (first|(with_reducible first|exact HB.out|apply qd12|apply qe12|apply qf12|refine qg12 ?_ GE342.out)|exact HB.out)) hb);have n2_:=qh12 (hbox);have n3_:=qh12 ((by rw [hg];exact (below_size (by repeat (first|(with_reducible first|exact HB.out|apply qd12|apply qe12|apply qf12|refine qg12 ?_ GE342.out)|exact HB.out))) : w.heap.size ≤ gb347));have n4_:=qh12 ((by rw [hg];exact (below_size (by repeat (first|(with_reducible first|exact HB.out|apply qd12|apply qe12|apply qf12|refine qg12 ?_ GE342.out)|exact HB.out))) : w.heap.size ≤ gb347));have n5_:=qh12 ((by rw [hg];exact Nat.ne_of_lt (blk_lt (g:=gb342) (o:=.cells #[.int .i64 a0_0,.int .i64 a0_1,.slice (some ad346) l0_2.length c0_2,.slice A0_3 l0_3.length c0_3] 31 (0,0)) (by (with_reducible repeat (first|apply qa12|apply qb12|apply qc12));exact BK342.out)) : gb342 ≠ gb347));have n6_:=qh12 ((by rw [hg];exact Nat.ne_of_gt (blk_lt (g:=gb342) (o:=.cells #[.int .i64 a0_0,.int .i64 a0_1,.slice (some ad346) l0_2.length c0_2,.slice A0_3 l0_3.length c0_3] 31 (0,0)) (by (with_reducible repeat (first|apply qa12|apply qb12|apply qc12));exact BK342.out)) : gb347 ≠ gb342));clear BK342;clear HB;have BK342:=n0_;have HB:=n1_;have BK347:=n2_;have GW347:=n3_;have GE347:=n4_;have NB342_347:=n5_;have NB347_342:=n6_;clear n0_ n1_ n2_ n3_ n4_ n5_ n6_;clear hb hbox hg;have hnb28:=NB347_342.out;have hnc28:=NB342_347.out;have hcz29_0 : w27.cell? ⟨gb347,0,none⟩ = some (.string (⟨#[]⟩ : ByteArray)):=(blk_cell BK347.out 0).trans rfl;have hcz29_1 : w27.cell? ⟨gb347,1,none⟩ = some (.int .i64 0):=(blk_cell BK347.out 1).trans rfl;have hcz29_2 : w27.cell? ⟨gb347,2,none⟩ = some (.int .i64 0):=(blk_cell BK347.out 2).trans rfl;have hcz29_3 : w27.cell? ⟨gb347,3,none⟩ = some (.int .i64 0):=(blk_cell BK347.out 3).trans rfl;have hcz29_4 : w27.cell? ⟨gb347,4,none⟩ = some (.slice none 0 0):=(blk_cell BK347.out 4).trans rfl;have hfz29_0:=sJ BK347.out 0;have hfz29_1:=sJ BK347.out 1;have hfz29_2:=sJ BK347.out 2;have hfz29_3:=sJ BK347.out 3;have hfz29_4:=sJ BK347.out 4))
              have n0_ : Aside0 ((((((w27.setCell ⟨gb347,0,none⟩ (.string ((rd_T70 l0_2 x25_1).f0))).setCell ⟨gb347,1,none⟩ (.int .i64 ((rd_T70 l0_2 x25_1).f1))).setCell ⟨gb347,2,none⟩ (.int .i64 ((rd_T70 l0_2 x25_1).f2))).setCell ⟨gb347,3,none⟩ (.int .i64 ((rd_T70 l0_2 x25_1).f3))).setCell ⟨gb347,4,none⟩ (.slice A346_4 ((rd_T70 l0_2 x25_1).f4).length c346_4)).heap[gb342]? = some (.cells #[.int .i64 a0_0,.int .i64 a0_1,.slice (some ad346) l0_2.length c0_2,.slice A0_3 l0_3.length c0_3] 31 (0,0))):=⟨by (with_reducible repeat (first|apply qa12|apply qb12|apply qc12));refine blk_far ?_ NB342_347.out _;(with_reducible repeat (first|apply qa12|apply qb12|apply qc12));refine blk_far ?_ NB342_347.out _;(with_reducible repeat (first|apply qa12|apply qb12|apply qc12));refine blk_far ?_ NB342_347.out _;(with_reducible repeat (first|apply qa12|apply qb12|apply qc12));refine blk_far ?_ NB342_347.out _;(with_reducible repeat (first|apply qa12|apply qb12|apply qc12));refine blk_far ?_ NB342_347.out _;(with_reducible repeat (first|apply qa12|apply qb12|apply qc12));exact BK342.out⟩
              have n1_ : Aside0 ((((((w27.setCell ⟨gb347,0,none⟩ (.string ((rd_T70 l0_2 x25_1).f0))).setCell ⟨gb347,1,none⟩ (.int .i64 ((rd_T70 l0_2 x25_1).f1))).setCell ⟨gb347,2,none⟩ (.int .i64 ((rd_T70 l0_2 x25_1).f2))).setCell ⟨gb347,3,none⟩ (.int .i64 ((rd_T70 l0_2 x25_1).f3))).setCell ⟨gb347,4,none⟩ (.slice A346_4 ((rd_T70 l0_2 x25_1).f4).length c346_4)).heap[gb347]? = some (.cells #[.string ((rd_T70 l0_2 x25_1).f0),.int .i64 ((rd_T70 l0_2 x25_1).f1),.int .i64 ((rd_T70 l0_2 x25_1).f2),.int .i64 ((rd_T70 l0_2 x25_1).f3),.slice A346_4 ((rd_T70 l0_2 x25_1).f4).length c346_4] 70 (0,0))):=⟨by (with_reducible repeat (first|apply qa12|apply qb12|apply qc12));refine blk_put (cs:=#[.string ((rd_T70 l0_2 x25_1).f0),.int .i64 ((rd_T70 l0_2 x25_1).f1),.int .i64 ((rd_T70 l0_2 x25_1).f2),.int .i64 ((rd_T70 l0_2 x25_1).f3),.slice none 0 0]) ?_ 4 _ rfl;(with_reducible repeat (first|apply qa12|apply qb12|apply qc12));refine blk_put (cs:=#[.string ((rd_T70 l0_2 x25_1).f0),.int .i64 ((rd_T70 l0_2 x25_1).f1),.int .i64 ((rd_T70 l0_2 x25_1).f2),.int .i64 0,.slice none 0 0]) ?_ 3 _ rfl;(with_reducible repeat (first|apply qa12|apply qb12|apply qc12));refine blk_put (cs:=#[.string ((rd_T70 l0_2 x25_1).f0),.int .i64 ((rd_T70 l0_2 x25_1).f1),.int .i64 0,.int .i64 0,.slice none 0 0]) ?_ 2 _ rfl;(with_reducible repeat (first|apply qa12|apply qb12|apply qc12));refine blk_put (cs:=#[.string ((rd_T70 l0_2 x25_1).f0),.int .i64 0,.int .i64 0,.int .i64 0,.slice none 0 0]) ?_ 1 _ rfl;(with_reducible repeat (first|apply qa12|apply qb12|apply qc12));refine blk_put (cs:=#[.string (⟨#[]⟩ : ByteArray),.int .i64 0,.int .i64 0,.int .i64 0,.slice none 0 0]) ?_ 0 _ rfl;(with_reducible repeat (first|apply qa12|apply qb12|apply qc12));exact BK347.out⟩
              have n2_ : Aside0 (Below w.heap.size w (((((w27.setCell ⟨gb347,0,none⟩ (.string ((rd_T70 l0_2 x25_1).f0))).setCell ⟨gb347,1,none⟩ (.int .i64 ((rd_T70 l0_2 x25_1).f1))).setCell ⟨gb347,2,none⟩ (.int .i64 ((rd_T70 l0_2 x25_1).f2))).setCell ⟨gb347,3,none⟩ (.int .i64 ((rd_T70 l0_2 x25_1).f3))).setCell ⟨gb347,4,none⟩ (.slice A346_4 ((rd_T70 l0_2 x25_1).f4).length c346_4))):=⟨by repeat (first|(with_reducible first|exact HB.out|apply qd12|apply qe12|apply qf12|refine qg12 ?_ GE342.out|refine qg12 ?_ GE347.out)|exact HB.out)⟩
              (try clear BK342)
              (try clear BK347)
              (try clear HB)
              generalize (((((w27.setCell ⟨gb347,0,none⟩ (.string ((rd_T70 l0_2 x25_1).f0))).setCell ⟨gb347,1,none⟩ (.int .i64 ((rd_T70 l0_2 x25_1).f1))).setCell ⟨gb347,2,none⟩ (.int .i64 ((rd_T70 l0_2 x25_1).f2))).setCell ⟨gb347,3,none⟩ (.int .i64 ((rd_T70 l0_2 x25_1).f3))).setCell ⟨gb347,4,none⟩ (.slice A346_4 ((rd_T70 l0_2 x25_1).f4).length c346_4)) = w30 at n0_ n1_ n2_ ⊢
              have BK342:=n0_
              have BK347:=n1_
              have HB:=n2_
              clear n0_ n1_ n2_
              have n0_:=qh12 (qb12 BK342.out)
              have n1_:=qh12 (qb12 BK347.out)
              have n2_:=qh12 (qf12 HB.out)
              clear BK342
              clear BK347
              clear HB
              have BK342:=n0_
              have BK347:=n1_
              have HB:=n2_
              clear n0_ n1_ n2_
              refine start_ (n:=28) (S:=fun w' => w'.cell? ⟨gb347,0,none⟩ = some (.string ((rd_T70 l0_2 x25_1).f0)) ∧ w'.cell? ⟨gb347,1,none⟩ = some (.int .i64 ((rd_T70 l0_2 x25_1).f1)) ∧ w'.cell? ⟨gb347,2,none⟩ = some (.int .i64 ((rd_T70 l0_2 x25_1).f2)) ∧ w'.cell? ⟨gb347,3,none⟩ = some (.int .i64 ((rd_T70 l0_2 x25_1).f3)) ∧ w'.cell? ⟨gb347,4,none⟩ = some (.slice A346_4 ((rd_T70 l0_2 x25_1).f4).length c346_4)) (ds:=[]) #[false,false,false,false,false,false,false,false,false,false,false,false,false,false,false,false,false,false,false,false,false,false,false,false,false,false,false,false] (by kernel_rfl) rfl rfl ⟨(blk_cell BK347.out 0).trans rfl,(blk_cell BK347.out 1).trans rfl,(blk_cell BK347.out 2).trans rfl,(blk_cell BK347.out 3).trans rfl,(blk_cell BK347.out 4).trans rfl⟩ (fun hHeld => ?_);refine with_tabW impl_tableText.tab5 impl_tableText.bits5 (fun HT_ HW_ => ?_)
              generalize w30.drew = w31 at BK342 BK347 HB hHeld ⊢
              refine pure_ (i:=0) (N:=some 29) (v:=?_) (a':=?_) #[true,false,false,false,false,false,false,false,false,false,false,false,false,false,false,false,false,false,false,false,false,false,false,false,false,false,false,false] rfl rfl (any_of HT_.out (by kernel_rfl)) (fun _ _ _ h => h) (Or.inl ⟨by rfl,?_⟩) ?_ ?_
              rotate_left
              ·
               intro w'
               go_simp
               with_reducible rfl
              rotate_left
              ·
               simp only [Act.put,sA,sB,sC,i64_w,i32_w]
               rfl
              refine pure_ (i:=1) (N:=some 30) (v:=?_) (a':=?_) #[true,true,false,false,false,false,false,false,false,false,false,false,false,false,false,false,false,false,false,false,false,false,false,false,false,false,false,false] rfl rfl (any_of HT_.out (by kernel_rfl)) (fun _ _ _ h => h) (Or.inl ⟨by rfl,?_⟩) ?_ ?_
              rotate_left
              ·
               intro w'
               go_simp
               with_reducible rfl
              rotate_left
              ·
               simp only [Act.put,sA,sB,sC,i64_w,i32_w]
               rfl
              refine pure_ (i:=5) (N:=some 34) (v:=?_) (a':=?_) #[true,true,false,false,false,true,false,false,false,false,false,false,false,false,false,false,false,false,false,false,false,false,false,false,false,false,false,false] rfl rfl (any_of HT_.out (by kernel_rfl)) (fun _ _ _ h => h) (Or.inl ⟨by rfl,?_⟩) ?_ ?_
              rotate_left
              ·
               intro w'
               go_simp
               with_reducible rfl
              rotate_left
              ·
               simp only [Act.put,sA,sB,sC,i64_w,i32_w]
               rfl
              refine pure_ (i:=8) (N:=some 37) (v:=?_) (a':=?_) #[true,true,false,false,false,true,false,false,true,false,false,false,false,false,false,false,false,false,false,false,false,false,false,false,false,false,false,false] rfl rfl (any_of HT_.out (by kernel_rfl)) (fun _ _ _ h => h) (Or.inl ⟨by rfl,?_⟩) ?_ ?_
              rotate_left
              ·
               intro w'
               go_simp
               with_reducible rfl
              rotate_left
              ·
               simp only [Act.put,sA,sB,sC,i64_w,i32_w]
               rfl
              refine pure_ (i:=12) (N:=some 41) (v:=?_) (a':=?_) #[true,true,false,false,false,true,false,false,true,false,false,false,true,false,false,false,false,false,false,false,false,false,false,false,false,false,false,false] rfl rfl (any_of HT_.out (by kernel_rfl)) (fun _ _ _ h => h) (Or.inl ⟨by rfl,?_⟩) ?_ ?_
              rotate_left
              ·
               intro w'
               go_simp
               with_reducible rfl
              rotate_left
              ·
               simp only [Act.put,sA,sB,sC,i64_w,i32_w]
               rfl
              refine pure_ (i:=17) (N:=some 46) (v:=?_) (a':=?_) #[true,true,false,false,false,true,false,false,true,false,false,false,true,false,false,false,false,true,false,false,false,false,false,false,false,false,false,false] rfl rfl (any_of HT_.out (by kernel_rfl)) (fun _ _ _ h => h) (Or.inl ⟨by rfl,?_⟩) ?_ ?_
              rotate_left
              ·
               intro w'
               go_simp
               with_reducible rfl
              rotate_left
              ·
               simp only [Act.put,sA,sB,sC,i64_w,i32_w]
               rfl
              refine pure_ (i:=21) (N:=some 50) (v:=?_) (a':=?_) #[true,true,false,false,false,true,false,false,true,false,false,false,true,false,false,false,false,true,false,false,false,true,false,false,false,false,false,false] rfl rfl (any_of HT_.out (by kernel_rfl)) (fun _ _ _ h => h) (Or.inl ⟨by rfl,?_⟩) ?_ ?_
              rotate_left
              ·
               intro w'
               go_simp
               with_reducible rfl
              rotate_left
              ·
               simp only [Act.put,sA,sB,sC,i64_w,i32_w]
               rfl
              refine take_ (i:=2) (N:=some 31) (v:=?_) (a':=?_) #[true,true,true,false,false,true,false,false,true,false,false,false,true,false,false,false,false,true,false,false,false,true,false,false,false,false,false,false] rfl rfl (take_ofW HT_.out HW_.out (by kernel_rfl)) (fun _ _ _ h => h) (Or.inl ⟨by rfl,?_⟩) hHeld ?_ ?_
              rotate_left
              ·
               rintro w' ⟨s0,s1,s2,s3,s4⟩
               go_simp
               with_reducible rfl
              rotate_left
              ·
               simp only [Act.put,sA,sB,sC,i64_w,i32_w]
               rfl
              refine pure_ (i:=3) (N:=some 32) (v:=?_) (a':=?_) #[true,true,true,true,false,true,false,false,true,false,false,false,true,false,false,false,false,true,false,false,false,true,false,false,false,false,false,false] rfl rfl (any_of HT_.out (by kernel_rfl)) (fun _ _ _ h => h) (Or.inl ⟨by rfl,?_⟩) ?_ ?_
              rotate_left
              ·
               intro w'
               go_simp
               with_reducible rfl
              rotate_left
              ·
               simp only [Act.put,sA,sB,sC,i64_w,i32_w]
               rfl
              refine take_ (i:=6) (N:=some 35) (v:=?_) (a':=?_) #[true,true,true,true,false,true,true,false,true,false,false,false,true,false,false,false,false,true,false,false,false,true,false,false,false,false,false,false] rfl rfl (take_ofW HT_.out HW_.out (by kernel_rfl)) (fun _ _ _ h => h) (Or.inl ⟨by rfl,?_⟩) hHeld ?_ ?_
              rotate_left
              ·
               rintro w' ⟨s0,s1,s2,s3,s4⟩
               go_simp
               with_reducible rfl
              rotate_left
              ·
               simp only [Act.put,sA,sB,sC,i64_w,i32_w]
               rfl
              refine take_ (i:=9) (N:=some 38) (v:=?_) (a':=?_) #[true,true,true,true,false,true,true,false,true,true,false,false,true,false,false,false,false,true,false,false,false,true,false,false,false,false,false,false] rfl rfl (take_ofW HT_.out HW_.out (by kernel_rfl)) (fun _ _ _ h => h) (Or.inl ⟨by rfl,?_⟩) hHeld ?_ ?_
              rotate_left
              ·
               rintro w' ⟨s0,s1,s2,s3,s4⟩
               go_simp
               with_reducible rfl
              rotate_left
              ·
               simp only [Act.put,sA,sB,sC,i64_w,i32_w]
               rfl
              refine take_ (i:=13) (N:=some 42) (v:=?_) (a':=?_) #[true,true,true,true,false,true,true,false,true,true,false,false,true,true,false,false,false,true,false,false,false,true,false,false,false,false,false,false] rfl rfl (take_ofW HT_.out HW_.out (by kernel_rfl)) (fun _ _ _ h => h) (Or.inl ⟨by rfl,?_⟩) hHeld ?_ ?_
              rotate_left
              ·
               rintro w' ⟨s0,s1,s2,s3,s4⟩
               go_simp
               with_reducible rfl
              rotate_left
              ·
               simp only [Act.put,sA,sB,sC,i64_w,i32_w]
               rfl
              refine pure_ (i:=14) (N:=some 43) (v:=?_) (a':=?_) #[true,true,true,true,false,true,true,false,true,true,false,false,true,true,true,false,false,true,false,false,false,true,false,false,false,false,false,false] rfl rfl (any_of HT_.out (by kernel_rfl)) (fun _ _ _ h => h) (Or.inl ⟨by rfl,?_⟩) ?_ ?_
              rotate_left
              ·
               intro w'
               go_simp
               with_reducible rfl
              rotate_left
              ·
               simp only [Act.put,sA,sB,sC,i64_w,i32_w]
               rfl
              refine take_ (i:=18) (N:=some 47) (v:=?_) (a':=?_) #[true,true,true,true,false,true,true,false,true,true,false,false,true,true,true,false,false,true,true,false,false,true,false,false,false,false,false,false] rfl rfl (take_ofW HT_.out HW_.out (by kernel_rfl)) (fun _ _ _ h => h) (Or.inl ⟨by rfl,?_⟩) hHeld ?_ ?_
              rotate_left
              ·
               rintro w' ⟨s0,s1,s2,s3,s4⟩
               go_simp
               with_reducible rfl
              rotate_left
              ·
               simp only [Act.put,sA,sB,sC,i64_w,i32_w]
               rfl
              refine take_ (i:=22) (N:=some 51) (v:=?_) (a':=?_) #[true,true,true,true,false,true,true,false,true,true,false,false,true,true,true,false,false,true,true,false,false,true,true,false,false,false,false,false] rfl rfl (take_ofW HT_.out HW_.out (by kernel_rfl)) (fun _ _ _ h => h) (Or.inl ⟨by rfl,?_⟩) hHeld ?_ ?_
              rotate_left
              ·
               rintro w' ⟨s0,s1,s2,s3,s4⟩
               go_simp
               with_reducible rfl
              rotate_left
              ·
               simp only [Act.put,sA,sB,sC,i64_w,i32_w]
               rfl
              refine pure_ (i:=23) (N:=some 52) (v:=?_) (a':=?_) #[true,true,true,true,false,true,true,false,true,true,false,false,true,true,true,false,false,true,true,false,false,true,true,true,false,false,false,false] rfl rfl (any_of HT_.out (by kernel_rfl)) (fun _ _ _ h => h) (Or.inl ⟨by rfl,?_⟩) ?_ ?_
              rotate_left
              ·
               intro w'
               go_simp
               with_reducible rfl
              rotate_left
              ·
               simp only [Act.put,sA,sB,sC,i64_w,i32_w]
               rfl
              refine one_ (i:=4) (N:=some 33) #[true,true,true,true,true,true,true,false,true,true,false,false,true,true,true,false,false,true,true,false,false,true,true,true,false,false,false,false] rfl rfl (one_of HT_.out (by kernel_rfl)) (by decide) (fun K hK => ?_)
              refine goes_ Try.func80 (by kernel_rfl) rfl #[.int .i64 (((rd_T70 l0_2 x25_1).f0).size : Int),.int .i64 1] (by rfl) rfl rfl (by (try simp only [sE,sH,sI]);first|done|rfl|(simp only [sG,sF];rfl)) ?_
              with_reducible refine (impl_number.calls k1 (((rd_T70 l0_2 x25_1).f0).size : Int) 1 t348 _ A16.out).mono ?_
              rintro e w32 ⟨rfl,hb⟩
              refine ⟨_,rfl,?_⟩
              have n0_:=qh12 (qi12 (g:=gb342) (o:=.cells #[.int .i64 a0_0,.int .i64 a0_1,.slice (some ad346) l0_2.length c0_2,.slice A0_3 l0_3.length c0_3] 31 (0,0)) (by (with_reducible repeat (first|apply qa12|apply qb12|apply qc12));exact BK342.out) hb)
              have n1_:=qh12 (qi12 (g:=gb347) (o:=.cells #[.string ((rd_T70 l0_2 x25_1).f0),.int .i64 ((rd_T70 l0_2 x25_1).f1),.int .i64 ((rd_T70 l0_2 x25_1).f2),.int .i64 ((rd_T70 l0_2 x25_1).f3),.slice A346_4 ((rd_T70 l0_2 x25_1).f4).length c346_4] 70 (0,0)) (by (with_reducible repeat (first|apply qa12|apply qb12|apply qc12));exact BK347.out) hb)
              have n2_:=qh12 (sN (by repeat (first|(with_reducible first|exact HB.out|apply qd12|apply qe12|apply qf12|refine qg12 ?_ GE342.out|refine qg12 ?_ GE347.out)|exact HB.out)) hb)
              clear BK342
              clear BK347
              clear HB
              have BK342:=n0_
              have BK347:=n1_
              have HB:=n2_
              clear n0_ n1_ n2_
              (try clear hb)
              (try clear hb2)
              (try clear hk)
              (try clear hi)
              refine hK.out _ _ ⟨(blk_cell BK347.out 0).trans rfl,(blk_cell BK347.out 1).trans rfl,(blk_cell BK347.out 2).trans rfl,(blk_cell BK347.out 3).trans rfl,(blk_cell BK347.out 4).trans rfl⟩ (fun hHeld => ?_)
              clear hK K
              refine norm_ (a':=?_) ?_ ?_
              rotate_left
              ·
               show Act.put _ (some 33) _ = _
               simp only [Act.put,sA,sB,sC,i64_w,i32_w]
               rfl
              refine pure_ (i:=7) (N:=some 36) (v:=?_) (a':=?_) #[true,true,true,true,true,true,true,true,true,true,false,false,true,true,true,false,false,true,true,false,false,true,true,true,false,false,false,false] rfl rfl (any_of HT_.out (by kernel_rfl)) (fun _ _ _ h => h) (Or.inl ⟨by rfl,?_⟩) ?_ ?_
              rotate_left
              ·
               intro w'
               go_simp
               with_reducible rfl
              rotate_left
              ·
               simp only [Act.put,sA,sB,sC,i64_w,i32_w]
               rfl
              refine one_ (i:=10) (N:=some 39) #[true,true,true,true,true,true,true,true,true,true,true,false,true,true,true,false,false,true,true,false,false,true,true,true,false,false,false,false] rfl rfl (one_of HT_.out (by kernel_rfl)) (by decide) (fun K hK => ?_)
              refine goes_ Try.func80 (by kernel_rfl) rfl #[.int .i64 ((rd_T70 l0_2 x25_1).f1),.int .i64 3] (by rfl) rfl rfl (by (try simp only [sE,sH,sI]);first|done|rfl|(simp only [sG,sF];rfl)) ?_
              with_reducible refine (impl_number.calls k1 ((rd_T70 l0_2 x25_1).f1) 3 t349 _ A18.out).mono ?_
              rintro e w33 ⟨rfl,hb⟩
              refine ⟨_,rfl,?_⟩
              have n0_:=qh12 (qi12 (g:=gb342) (o:=.cells #[.int .i64 a0_0,.int .i64 a0_1,.slice (some ad346) l0_2.length c0_2,.slice A0_3 l0_3.length c0_3] 31 (0,0)) (by (with_reducible repeat (first|apply qa12|apply qb12|apply qc12));exact BK342.out) hb)
              have n1_:=qh12 (qi12 (g:=gb347) (o:=.cells #[.string ((rd_T70 l0_2 x25_1).f0),.int .i64 ((rd_T70 l0_2 x25_1).f1),.int .i64 ((rd_T70 l0_2 x25_1).f2),.int .i64 ((rd_T70 l0_2 x25_1).f3),.slice A346_4 ((rd_T70 l0_2 x25_1).f4).length c346_4] 70 (0,0)) (by (with_reducible repeat (first|apply qa12|apply qb12|apply qc12));exact BK347.out) hb)
              have n2_:=qh12 (sN (by repeat (first|(with_reducible first|exact HB.out|apply qd12|apply qe12|apply qf12|refine qg12 ?_ GE342.out|refine qg12 ?_ GE347.out)|exact HB.out)) hb)
              clear BK342
              clear BK347
              clear HB
              have BK342:=n0_
              have BK347:=n1_
              have HB:=n2_
              clear n0_ n1_ n2_
              (try clear hb)
              (try clear hb2)
              (try clear hk)
              (try clear hi)
              refine hK.out _ _ ⟨(blk_cell BK347.out 0).trans rfl,(blk_cell BK347.out 1).trans rfl,(blk_cell BK347.out 2).trans rfl,(blk_cell BK347.out 3).trans rfl,(blk_cell BK347.out 4).trans rfl⟩ (fun hHeld => ?_)
              clear hK K
              refine norm_ (a':=?_) ?_ ?_
              rotate_left
              ·
               show Act.put _ (some 39) _ = _
               simp only [Act.put,sA,sB,sC,i64_w,i32_w]
               rfl
              refine pure_ (i:=11) (N:=some 40) (v:=?_) (a':=?_) #[true,true,true,true,true,true,true,true,true,true,true,true,true,true,true,false,false,true,true,false,false,true,true,true,false,false,false,false] rfl rfl (any_of HT_.out (by kernel_rfl)) (fun _ _ _ h => h) (Or.inl ⟨by rfl,?_⟩) ?_ ?_
              rotate_left
              ·
               intro w'
               go_simp
               with_reducible rfl
              rotate_left
              ·
               simp only [Act.put,sA,sB,sC,i64_w,i32_w]
               rfl
              refine one_ (i:=15) (N:=some 44) #[true,true,true,true,true,true,true,true,true,true,true,true,true,true,true,true,false,true,true,false,false,true,true,true,false,false,false,false] rfl rfl (one_of HT_.out (by kernel_rfl)) (by decide) (fun K hK => ?_)
              refine goes_ Try.func80 (by kernel_rfl) rfl #[.int .i64 (wrap64 (((rd_T70 l0_2 x25_1).f2) + 1)),.int .i64 2] (by rfl) rfl rfl (by (try simp only [sE,sH,sI]);first|done|rfl|(simp only [sG,sF];rfl)) ?_
              with_reducible refine (impl_number.calls k1 (wrap64 (((rd_T70 l0_2 x25_1).f2) + 1)) 2 t350 _ A20.out).mono ?_
              rintro e w34 ⟨rfl,hb⟩
              refine ⟨_,rfl,?_⟩
              have n0_:=qh12 (qi12 (g:=gb342) (o:=.cells #[.int .i64 a0_0,.int .i64 a0_1,.slice (some ad346) l0_2.length c0_2,.slice A0_3 l0_3.length c0_3] 31 (0,0)) (by (with_reducible repeat (first|apply qa12|apply qb12|apply qc12));exact BK342.out) hb)
              have n1_:=qh12 (qi12 (g:=gb347) (o:=.cells #[.string ((rd_T70 l0_2 x25_1).f0),.int .i64 ((rd_T70 l0_2 x25_1).f1),.int .i64 ((rd_T70 l0_2 x25_1).f2),.int .i64 ((rd_T70 l0_2 x25_1).f3),.slice A346_4 ((rd_T70 l0_2 x25_1).f4).length c346_4] 70 (0,0)) (by (with_reducible repeat (first|apply qa12|apply qb12|apply qc12));exact BK347.out) hb)
              have n2_:=qh12 (sN (by repeat (first|(with_reducible first|exact HB.out|apply qd12|apply qe12|apply qf12|refine qg12 ?_ GE342.out|refine qg12 ?_ GE347.out)|exact HB.out)) hb)
              clear BK342
              clear BK347
              clear HB
              have BK342:=n0_
              have BK347:=n1_
              have HB:=n2_
              clear n0_ n1_ n2_
              (try clear hb)
              (try clear hb2)
              (try clear hk)
              (try clear hi)
              refine hK.out _ _ ⟨(blk_cell BK347.out 0).trans rfl,(blk_cell BK347.out 1).trans rfl,(blk_cell BK347.out 2).trans rfl,(blk_cell BK347.out 3).trans rfl,(blk_cell BK347.out 4).trans rfl⟩ (fun hHeld => ?_)
              clear hK K
              refine norm_ (a':=?_) ?_ ?_
              rotate_left
              ·
               show Act.put _ (some 44) _ = _
               simp only [Act.put,sA,sB,sC,i64_w,i32_w]
               rfl
              refine pure_ (i:=16) (N:=some 45) (v:=?_) (a':=?_) #[true,true,true,true,true,true,true,true,true,true,true,true,true,true,true,true,true,true,true,false,false,true,true,true,false,false,false,false] rfl rfl (any_of HT_.out (by kernel_rfl)) (fun _ _ _ h => h) (Or.inl ⟨by rfl,?_⟩) ?_ ?_
              rotate_left
              ·
               intro w'
               go_simp
               with_reducible rfl
              rotate_left
              ·
               simp only [Act.put,sA,sB,sC,i64_w,i32_w]
               rfl
              refine one_ (i:=19) (N:=some 48) #[true,true,true,true,true,true,true,true,true,true,true,true,true,true,true,true,true,true,true,true,false,true,true,true,false,false,false,false] rfl rfl (one_of HT_.out (by kernel_rfl)) (by decide) (fun K hK => ?_)
              refine goes_ Try.func80 (by kernel_rfl) rfl #[.int .i64 ((rd_T70 l0_2 x25_1).f3),.int .i64 4] (by rfl) rfl rfl (by (try simp only [sE,sH,sI]);first|done|rfl|(simp only [sG,sF];rfl)) ?_
              with_reducible refine (impl_number.calls k1 ((rd_T70 l0_2 x25_1).f3) 4 t351 _ A22.out).mono ?_
              rintro e w35 ⟨rfl,hb⟩
              refine ⟨_,rfl,?_⟩
              have n0_:=qh12 (qi12 (g:=gb342) (o:=.cells #[.int .i64 a0_0,.int .i64 a0_1,.slice (some ad346) l0_2.length c0_2,.slice A0_3 l0_3.length c0_3] 31 (0,0)) (by (with_reducible repeat (first|apply qa12|apply qb12|apply qc12));exact BK342.out) hb)
              have n1_:=qh12 (qi12 (g:=gb347) (o:=.cells #[.string ((rd_T70 l0_2 x25_1).f0),.int .i64 ((rd_T70 l0_2 x25_1).f1),.int .i64 ((rd_T70 l0_2 x25_1).f2),.int .i64 ((rd_T70 l0_2 x25_1).f3),.slice A346_4 ((rd_T70 l0_2 x25_1).f4).length c346_4] 70 (0,0)) (by (with_reducible repeat (first|apply qa12|apply qb12|apply qc12));exact BK347.out) hb)
              have n2_:=qh12 (sN (by repeat (first|(with_reducible first|exact HB.out|apply qd12|apply qe12|apply qf12|refine qg12 ?_ GE342.out|refine qg12 ?_ GE347.out)|exact HB.out)) hb)
              clear BK342
              clear BK347
              clear HB
              have BK342:=n0_
              have BK347:=n1_
              have HB:=n2_
              clear n0_ n1_ n2_
              (try clear hb)
              (try clear hb2)
              (try clear hk)
              (try clear hi)
              refine hK.out _ _ ⟨(blk_cell BK347.out 0).trans rfl,(blk_cell BK347.out 1).trans rfl,(blk_cell BK347.out 2).trans rfl,(blk_cell BK347.out 3).trans rfl,(blk_cell BK347.out 4).trans rfl⟩ (fun hHeld => ?_)
              clear hK K
              refine norm_ (a':=?_) ?_ ?_
              rotate_left
              ·
               show Act.put _ (some 48) _ = _
               simp only [Act.put,sA,sB,sC,i64_w,i32_w]
               rfl
              refine pure_ (i:=20) (N:=some 49) (v:=?_) (a':=?_) #[true,true,true,true,true,true,true,true,true,true,true,true,true,true,true,true,true,true,true,true,true,true,true,true,false,false,false,false] rfl rfl (any_of HT_.out (by kernel_rfl)) (fun _ _ _ h => h) (Or.inl ⟨by rfl,?_⟩) ?_ ?_
              rotate_left
              ·
               intro w'
               go_simp
               with_reducible rfl
              rotate_left
              ·
               simp only [Act.put,sA,sB,sC,i64_w,i32_w]
               rfl
              refine one_ (i:=24) (N:=some 53) #[true,true,true,true,true,true,true,true,true,true,true,true,true,true,true,true,true,true,true,true,true,true,true,true,true,false,false,false] rfl rfl (one_of HT_.out (by kernel_rfl)) (by decide) (fun K hK => ?_)
              refine goes_ Try.func80 (by kernel_rfl) rfl #[.int .i64 (((rd_T70 l0_2 x25_1).f4).length : Int),.int .i64 1] (by rfl) rfl rfl (by (try simp only [sE,sH,sI]);first|done|rfl|(simp only [sG,sF];rfl)) ?_
              with_reducible refine (impl_number.calls k1 (((rd_T70 l0_2 x25_1).f4).length : Int) 1 t352 _ A24.out).mono ?_
              rintro e w36 ⟨rfl,hb⟩
              refine ⟨_,rfl,?_⟩
              have n0_:=qh12 (qi12 (g:=gb342) (o:=.cells #[.int .i64 a0_0,.int .i64 a0_1,.slice (some ad346) l0_2.length c0_2,.slice A0_3 l0_3.length c0_3] 31 (0,0)) (by (with_reducible repeat (first|apply qa12|apply qb12|apply qc12));exact BK342.out) hb)
              have n1_:=qh12 (qi12 (g:=gb347) (o:=.cells #[.string ((rd_T70 l0_2 x25_1).f0),.int .i64 ((rd_T70 l0_2 x25_1).f1),.int .i64 ((rd_T70 l0_2 x25_1).f2),.int .i64 ((rd_T70 l0_2 x25_1).f3),.slice A346_4 ((rd_T70 l0_2 x25_1).f4).length c346_4] 70 (0,0)) (by (with_reducible repeat (first|apply qa12|apply qb12|apply qc12));exact BK347.out) hb)
              have n2_:=qh12 (sN (by repeat (first|(with_reducible first|exact HB.out|apply qd12|apply qe12|apply qf12|refine qg12 ?_ GE342.out|refine qg12 ?_ GE347.out)|exact HB.out)) hb)
              clear BK342
              clear BK347
              clear HB
              have BK342:=n0_
              have BK347:=n1_
              have HB:=n2_
              clear n0_ n1_ n2_
              (try clear hb)
              (try clear hb2)
              (try clear hk)
              (try clear hi)
              refine hK.out _ _ ⟨(blk_cell BK347.out 0).trans rfl,(blk_cell BK347.out 1).trans rfl,(blk_cell BK347.out 2).trans rfl,(blk_cell BK347.out 3).trans rfl,(blk_cell BK347.out 4).trans rfl⟩ (fun hHeld => ?_)
              clear hK K
              refine norm_ (a':=?_) ?_ ?_
              rotate_left
              ·
               show Act.put _ (some 53) _ = _
               simp only [Act.put,sA,sB,sC,i64_w,i32_w]
               rfl
              refine pure_ (i:=25) (N:=some 54) (v:=?_) (a':=?_) #[true,true,true,true,true,true,true,true,true,true,true,true,true,true,true,true,true,true,true,true,true,true,true,true,true,true,false,false] rfl rfl (any_of HT_.out (by kernel_rfl)) (fun _ _ _ h => h) (Or.inl ⟨by rfl,?_⟩) ?_ ?_
              rotate_left
              ·
               intro w'
               go_simp
               with_reducible rfl
              rotate_left
              ·
               simp only [Act.put,sA,sB,sC,i64_w,i32_w]
               rfl
              refine pure_ (i:=26) (N:=some 55) (v:=?_) (a':=?_) #[true,true,true,true,true,true,true,true,true,true,true,true,true,true,true,true,true,true,true,true,true,true,true,true,true,true,true,false] rfl rfl (any_of HT_.out (by kernel_rfl)) (fun _ _ _ h => h) (Or.inl ⟨by rfl,?_⟩) ?_ ?_
              rotate_left
              ·
               intro w'
               go_simp
               with_reducible rfl
              rotate_left
              ·
               simp only [Act.put,sA,sB,sC,i64_w,i32_w]
               rfl
              refine pure_ (i:=27) (N:=some 3) (v:=?_) (a':=?_) #[true,true,true,true,true,true,true,true,true,true,true,true,true,true,true,true,true,true,true,true,true,true,true,true,true,true,true,true] rfl rfl (any_of HT_.out (by kernel_rfl)) (fun _ _ _ h => h) (Or.inl ⟨by rfl,?_⟩) ?_ ?_
              rotate_left
              ·
               intro w'
               go_simp
               with_reducible rfl
              rotate_left
              ·
               simp only [Act.put,sA,sB,sC,i64_w,i32_w]
               rfl
              refine done_ (done_of HT_.out (by kernel_rfl)) ?_
              have hcz37_0 : w36.cell? ⟨gb347,0,none⟩ = some (.string ((rd_T70 l0_2 x25_1).f0)):=(blk_cell BK347.out 0).trans rfl
              have hcz37_1 : w36.cell? ⟨gb347,1,none⟩ = some (.int .i64 ((rd_T70 l0_2 x25_1).f1)):=(blk_cell BK347.out 1).trans rfl
              have hcz37_2 : w36.cell? ⟨gb347,2,none⟩ = some (.int .i64 ((rd_T70 l0_2 x25_1).f2)):=(blk_cell BK347.out 2).trans rfl
              have hcz37_3 : w36.cell? ⟨gb347,3,none⟩ = some (.int .i64 ((rd_T70 l0_2 x25_1).f3)):=(blk_cell BK347.out 3).trans rfl
              have hcz37_4 : w36.cell? ⟨gb347,4,none⟩ = some (.slice A346_4 ((rd_T70 l0_2 x25_1).f4).length c346_4):=(blk_cell BK347.out 4).trans rfl
              have hfz37_0:=sJ BK347.out 0
              have hfz37_1:=sJ BK347.out 1
              have hfz37_2:=sJ BK347.out 2
              have hfz37_3:=sJ BK347.out 3
              have hfz37_4:=sJ BK347.out 4
              try go_wp2
              go_loopg [3,59] k1 (fun kq v3 v59 w' => ∃ (x3_2 : ByteArray) (x59_2 : Int),v3 = .string x3_2 ∧ v59 = .int .i64 x59_2 ∧ Aside0 (impl_tableText.l1 kq x3_2 l0_2 (l0_2.length : Int) x25_1 ((rd_T70 l0_2 x25_1).f4) (((rd_T70 l0_2 x25_1).f4).length : Int) x59_2 a0_0 a0_1 l0_2 l0_3 = some r) ∧ Aside0 (kq ≤ k1) ∧ Aside0 (w'.heap[gb342]? = some (.cells #[.int .i64 a0_0,.int .i64 a0_1,(.slice (some ad346) l0_2.length c0_2),(.slice A0_3 l0_3.length c0_3)] 31 (0,0))) ∧ Aside0 (w'.heap[gb347]? = some (.cells #[.string ((rd_T70 l0_2 x25_1).f0),.int .i64 ((rd_T70 l0_2 x25_1).f1),.int .i64 ((rd_T70 l0_2 x25_1).f2),.int .i64 ((rd_T70 l0_2 x25_1).f3),(.slice A346_4 ((rd_T70 l0_2 x25_1).f4).length c346_4)] 70 (0,0))) ∧ Aside0 (Below w.heap.size w w'))
              case atStart => exact ⟨(x3_1 ++ (((((t348 ++ ((rd_T70 l0_2 x25_1).f0)) ++ t349) ++ t350) ++ t351) ++ t352)),(0),(by first|rfl|(simp;done)|(simp [*];done)),(by first|rfl|(simp;done)|(simp [*];done)),H',⟨Nat.le_refl _⟩,⟨by (with_reducible repeat (first|apply qa12|apply qb12|apply qc12));exact BK342.out⟩,⟨by (with_reducible repeat (first|apply qa12|apply qb12|apply qc12));exact BK347.out⟩,⟨by repeat (first|(with_reducible first|exact HB.out|apply qd12|apply qe12|apply qf12|refine qg12 ?_ GE342.out|refine qg12 ?_ GE347.out)|exact HB.out)⟩⟩
              case round =>
               clear H'
               try clear c1
               try clear c2
               try clear p2
               try clear c3
               try clear p3
               try clear q3
               try clear hx3
               try clear c4
               try clear c4b0
               try clear c4b1
               try clear c4b2
               try clear c5
               try clear c6
               try clear c6b0
               try clear c6b1
               try clear c6b2
               try clear p6
               try clear c8
               try clear c13
               try clear c13b0
               try clear c14
               try clear c14b0
               try clear c15
               try clear c15b0
               try clear c17
               try clear c17b0
               try clear c17b1
               try clear c17b2
               try clear c19
               try clear c19b0
               try clear c19b1
               try clear c19b2
               try clear c21
               try clear c21b0
               try clear c21b1
               try clear c21b2
               try clear c23
               try clear c23b0
               try clear c23b1
               try clear c23b2
               try clear c25
               try clear c25b0
               try clear c25b1
               try clear c25b2
               try clear c26
               try clear c26b0
               try clear c26b1
               try clear c26b2
               try clear c28
               try clear c34
               try clear p34
               try clear q34
               try clear hx34
               try clear hcz12_0
               try clear hcz12_1
               try clear hcz12_2
               try clear hcz12_3
               try clear hcz29_0
               try clear hcz29_1
               try clear hcz29_2
               try clear hcz29_3
               try clear hcz29_4
               try clear hcz37_0
               try clear hcz37_1
               try clear hcz37_2
               try clear hcz37_3
               try clear hcz37_4
               try clear hfz12_0
               try clear hfz12_1
               try clear hfz12_2
               try clear hfz12_3
               try clear hfz29_0
               try clear hfz29_1
               try clear hfz29_2
               try clear hfz29_3
               try clear hfz29_4
               try clear hfz37_0
               try clear hfz37_1
               try clear hfz37_2
               try clear hfz37_3
               try clear hfz37_4
               try clear hx346_0
               try clear hx346_1
               try clear hx346_2
               try clear hx346_3
               try clear hx346_4
               try clear p2
               try clear p346
               try clear q346
               obtain ⟨x3_2,x59_2,rfl,rfl,HA,HK2,BK342,BK347,HB⟩:=hrel
               cases gk with
               | zero => exact absurd HA.out (by simp [impl_tableText.l1])
               | succ k2 =>
                have H:=HA.out
                clear HA
                simp only [impl_tableText.l1] at H
                by_cases c38 : x59_2 < (((rd_T70 l0_2 x25_1).f4).length : Int)
                ·
                 rw [if_pos c38] at H
                 have c38b0 : decide (x59_2 < (((rd_T70 l0_2 x25_1).f4).length : Int)) = true:=decide_eq_true c38
                 clear c38
                 by_cases c39 : 0 ≤ x59_2
                 ·
                  rw [if_pos c39] at H
                  have c39b0 : decide (0 ≤ x59_2) = true:=decide_eq_true c39
                  clear c39
                  by_cases c40 : x59_2 < (((rd_T70 l0_2 x25_1).f4).length : Int)
                  ·
                   rw [if_pos c40] at H
                   have c40b0 : decide (x59_2 < (((rd_T70 l0_2 x25_1).f4).length : Int)) = true:=decide_eq_true c40
                   clear c40
                   replace H:=Option.bind_eq_some_iff.mp H
                   obtain ⟨t355,A410,H⟩:=H
                   replace H : ((impl_number.f k2 ((rd_T73 ((rd_T70 l0_2 x25_1).f4) x59_2).f1) 2).bind fun t356 => (if t355.size + t356.size ≤ 9223372036854775807 then (if x3_2.size + (t355 ++ t356).size ≤ 9223372036854775807 then (impl_tableText.l1 k2 (x3_2 ++ (t355 ++ t356)) l0_2 (l0_2.length : Int) x25_1 ((rd_T70 l0_2 x25_1).f4) (((rd_T70 l0_2 x25_1).f4).length : Int) (wrap64 (x59_2 + 1)) a0_0 a0_1 l0_2 l0_3) else (none)) else (none))) = some r:=H
                   have A41:=qh12 A410
                   clear A410
                   replace H:=Option.bind_eq_some_iff.mp H
                   obtain ⟨t356,A420,H⟩:=H
                   replace H : (if t355.size + t356.size ≤ 9223372036854775807 then (if x3_2.size + (t355 ++ t356).size ≤ 9223372036854775807 then (impl_tableText.l1 k2 (x3_2 ++ (t355 ++ t356)) l0_2 (l0_2.length : Int) x25_1 ((rd_T70 l0_2 x25_1).f4) (((rd_T70 l0_2 x25_1).f4).length : Int) (wrap64 (x59_2 + 1)) a0_0 a0_1 l0_2 l0_3) else (none)) else (none)) = some r:=H
                   have A42:=qh12 A420
                   clear A420
                   by_cases c43 : t355.size + t356.size ≤ 9223372036854775807
                   ·
                    rw [if_pos c43] at H
                    have c43b0:=eq_true c43
                    have c43b1 : decide (t355.size + t356.size ≤ 9223372036854775807) = true:=decide_eq_true c43
                    try have c43b2 : (9223372036854775807 < t355.size + t356.size) = False:=eq_false (Nat.not_lt.2 c43)
                    by_cases c44 : x3_2.size + (t355 ++ t356).size ≤ 9223372036854775807
                    ·
                     rw [if_pos c44] at H
                     have c44b0:=eq_true c44
                     have c44b1 : decide (x3_2.size + (t355 ++ t356).size ≤ 9223372036854775807) = true:=decide_eq_true c44
                     try have c44b2 : (9223372036854775807 < x3_2.size + (t355 ++ t356).size) = False:=eq_false (Nat.not_lt.2 c44)
                     (try (have c44b3:=c44;simp only [ByteArray.size_append] at c44b3;have c44b4:=eq_false (Nat.not_lt.2 c44b3)))
                     have H':=qh12 H
                     clear H
                     have p353 : 0 ≤ (x59_2 : Int):=sM (by first|(with_reducible assumption)|assumption)
                     have q353 : x59_2 < (((rd_T70 l0_2 x25_1).f4).length : Int):=sM (by first|(with_reducible assumption)|assumption)
                     obtain ⟨ad353,e353,hx353_0,hx353_1⟩:=at_T73 HR346_4.out x59_2 p353 q353
                     cases e353
                     replace hx353_0:=(HB.out.cell (sD w _ hx353_0)).trans hx353_0
                     replace hx353_1:=(HB.out.cell (sD w _ hx353_1)).trans hx353_1
                     replace p353:=eq_true p353
                     replace q353:=eq_true q353
                     try go_wp2_with (first|((with_reducible refine gate_dst (N:=7) rfl ?_);refine box_event ?hg (N:=7) ?hd (cs:=#[.int .i64 0,.int .i64 0]) (t:=73) ?hr ?_;(case hd => rfl);(case hg => rfl);(case hr => first|(go_simp;done)|(go_simp;rfl));intro gb354 hg w45 hbox hb;have n0_:=qh12 (qi12 (g:=gb342) (o:=.cells #[.int .i64 a0_0,.int .i64 a0_1,.slice (some ad346) l0_2.length c0_2,.slice A0_3 l0_3.length c0_3] 31 (0,0)) (by (with_reducible repeat (first|apply qa12|apply qb12|apply qc12));exact BK342.out) hb);have n1_:=qh12 (qi12 (g:=gb347) (o:=.cells #[.string ((rd_T70 l0_2 x25_1).f0),.int .i64 ((rd_T70 l0_2 x25_1).f1),.int .i64 ((rd_T70 l0_2 x25_1).f2),.int .i64 ((rd_T70 l0_2 x25_1).f3),.slice (some ad353) ((rd_T70 l0_2 x25_1).f4).length c346_4] 70 (0,0)) (by (with_reducible repeat (first|apply qa12|apply qb12|apply qc12));exact BK347.out) hb);have n2_:=qh12 (sN (by repeat (first|(with_reducible first|exact HB.out|apply qd12|apply qe12|apply qf12|refine qg12 ?_ GE342.out|refine qg12 ?_ GE347.out)|exact HB.out)) hb);have n3_:=qh12 (hbox);have n4_:=qh12 ((by rw [hg];exact (below_size (by repeat (first|(with_reducible first|exact HB.out|apply qd12|apply qe12|apply qf12|refine qg12 ?_ GE342.out|refine qg12 ?_ GE347.out)|exact HB.out))) : w.heap.size ≤ gb354));have n5_:=qh12 ((by rw [hg];exact (below_size (by repeat (first|(with_reducible first|exact HB.out|apply qd12|apply qe12|apply qf12|refine qg12 ?_ GE342.out|refine qg12 ?_ GE347.out)|exact HB.out))) : w.heap.size ≤ gb354));have n6_:=qh12 ((by rw [hg];exact Nat.ne_of_lt (blk_lt (g:=gb342) (o:=.cells #[.int .i64 a0_0,.int .i64 a0_1,.slice (some ad346) l0_2.length c0_2,.slice A0_3 l0_3.length c0_3] 31 (0,0)) (by (with_reducible repeat (first|apply qa12|apply qb12|apply qc12));exact BK342.out)) : gb342 ≠ gb354));have n7_:=qh12 ((by rw [hg];exact Nat.ne_of_gt (blk_lt (g:=gb342) (o:=.cells #[.int .i64 a0_0,.int .i64 a0_1,.slice (some ad346) l0_2.length c0_2,.slice A0_3 l0_3.length c0_3] 31 (0,0)) (by (with_reducible repeat (first|apply qa12|apply qb12|apply qc12));exact BK342.out)) : gb354 ≠ gb342));have n8_:=qh12 ((by rw [hg];exact Nat.ne_of_lt (blk_lt (g:=gb347) (o:=.cells #[.string ((rd_T70 l0_2 x25_1).f0),.int .i64 ((rd_T70 l0_2 x25_1).f1),.int .i64 ((rd_T70 l0_2 x25_1).f2),.int .i64 ((rd_T70 l0_2 x25_1).f3),.slice (some ad353) ((rd_T70 l0_2 x25_1).f4).length c346_4] 70 (0,0)) (by (with_reducible repeat (first|apply qa12|apply qb12|apply qc12));exact BK347.out)) : gb347 ≠ gb354));have n9_:=qh12 ((by rw [hg];exact Nat.ne_of_gt (blk_lt (g:=gb347) (o:=.cells #[.string ((rd_T70 l0_2 x25_1).f0),.int .i64 ((rd_T70 l0_2 x25_1).f1),.int .i64 ((rd_T70 l0_2 x25_1).f2),.int .i64 ((rd_T70 l0_2 x25_1).f3),.slice (some ad353) ((rd_T70 l0_2 x25_1).f4).length c346_4] 70 (0,0)) (by (with_reducible repeat (first|apply qa12|apply qb12|apply qc12));exact BK347.out)) : gb354 ≠ gb347));clear BK342;clear BK347;clear HB;have BK342:=n0_;have BK347:=n1_;have HB:=n2_;have BK354:=n3_;have GW354:=n4_;have GE354:=n5_;have NB342_354:=n6_;have NB354_342:=n7_;have NB347_354:=n8_;have NB354_347:=n9_;clear n0_ n1_ n2_ n3_ n4_ n5_ n6_ n7_ n8_ n9_;clear hb hbox hg;have hnb46:=NB354_342.out;have hnc46:=NB342_354.out;have hnb47:=NB354_347.out;have hnc47:=NB347_354.out;have hcz48_0 : w45.cell? ⟨gb354,0,none⟩ = some (.int .i64 0):=(blk_cell BK354.out 0).trans rfl;have hcz48_1 : w45.cell? ⟨gb354,1,none⟩ = some (.int .i64 0):=(blk_cell BK354.out 1).trans rfl;have hfz48_0:=sJ BK354.out 0;have hfz48_1:=sJ BK354.out 1))
                     have n0_ : Aside0 (((w45.setCell ⟨gb354,0,none⟩ (.int .i64 ((rd_T73 ((rd_T70 l0_2 x25_1).f4) x59_2).f0))).setCell ⟨gb354,1,none⟩ (.int .i64 ((rd_T73 ((rd_T70 l0_2 x25_1).f4) x59_2).f1))).heap[gb342]? = some (.cells #[.int .i64 a0_0,.int .i64 a0_1,.slice (some ad346) l0_2.length c0_2,.slice A0_3 l0_3.length c0_3] 31 (0,0))):=⟨by (with_reducible repeat (first|apply qa12|apply qb12|apply qc12));refine blk_far ?_ NB342_354.out _;(with_reducible repeat (first|apply qa12|apply qb12|apply qc12));refine blk_far ?_ NB342_354.out _;(with_reducible repeat (first|apply qa12|apply qb12|apply qc12));exact BK342.out⟩
                     have n1_ : Aside0 (((w45.setCell ⟨gb354,0,none⟩ (.int .i64 ((rd_T73 ((rd_T70 l0_2 x25_1).f4) x59_2).f0))).setCell ⟨gb354,1,none⟩ (.int .i64 ((rd_T73 ((rd_T70 l0_2 x25_1).f4) x59_2).f1))).heap[gb347]? = some (.cells #[.string ((rd_T70 l0_2 x25_1).f0),.int .i64 ((rd_T70 l0_2 x25_1).f1),.int .i64 ((rd_T70 l0_2 x25_1).f2),.int .i64 ((rd_T70 l0_2 x25_1).f3),.slice (some ad353) ((rd_T70 l0_2 x25_1).f4).length c346_4] 70 (0,0))):=⟨by (with_reducible repeat (first|apply qa12|apply qb12|apply qc12));refine blk_far ?_ NB347_354.out _;(with_reducible repeat (first|apply qa12|apply qb12|apply qc12));refine blk_far ?_ NB347_354.out _;(with_reducible repeat (first|apply qa12|apply qb12|apply qc12));exact BK347.out⟩
                     have n2_ : Aside0 (((w45.setCell ⟨gb354,0,none⟩ (.int .i64 ((rd_T73 ((rd_T70 l0_2 x25_1).f4) x59_2).f0))).setCell ⟨gb354,1,none⟩ (.int .i64 ((rd_T73 ((rd_T70 l0_2 x25_1).f4) x59_2).f1))).heap[gb354]? = some (.cells #[.int .i64 ((rd_T73 ((rd_T70 l0_2 x25_1).f4) x59_2).f0),.int .i64 ((rd_T73 ((rd_T70 l0_2 x25_1).f4) x59_2).f1)] 73 (0,0))):=⟨by (with_reducible repeat (first|apply qa12|apply qb12|apply qc12));refine blk_put (cs:=#[.int .i64 ((rd_T73 ((rd_T70 l0_2 x25_1).f4) x59_2).f0),.int .i64 0]) ?_ 1 _ rfl;(with_reducible repeat (first|apply qa12|apply qb12|apply qc12));refine blk_put (cs:=#[.int .i64 0,.int .i64 0]) ?_ 0 _ rfl;(with_reducible repeat (first|apply qa12|apply qb12|apply qc12));exact BK354.out⟩
                     have n3_ : Aside0 (Below w.heap.size w ((w45.setCell ⟨gb354,0,none⟩ (.int .i64 ((rd_T73 ((rd_T70 l0_2 x25_1).f4) x59_2).f0))).setCell ⟨gb354,1,none⟩ (.int .i64 ((rd_T73 ((rd_T70 l0_2 x25_1).f4) x59_2).f1)))):=⟨by repeat (first|(with_reducible first|exact HB.out|apply qd12|apply qe12|apply qf12|refine qg12 ?_ GE342.out|refine qg12 ?_ GE347.out|refine qg12 ?_ GE354.out)|exact HB.out)⟩
                     (try clear BK342)
                     (try clear BK347)
                     (try clear BK354)
                     (try clear HB)
                     generalize ((w45.setCell ⟨gb354,0,none⟩ (.int .i64 ((rd_T73 ((rd_T70 l0_2 x25_1).f4) x59_2).f0))).setCell ⟨gb354,1,none⟩ (.int .i64 ((rd_T73 ((rd_T70 l0_2 x25_1).f4) x59_2).f1))) = w49 at n0_ n1_ n2_ n3_ ⊢
                     have BK342:=n0_
                     have BK347:=n1_
                     have BK354:=n2_
                     have HB:=n3_
                     clear n0_ n1_ n2_ n3_
                     have n0_:=qh12 (qb12 BK342.out)
                     have n1_:=qh12 (qb12 BK347.out)
                     have n2_:=qh12 (qb12 BK354.out)
                     have n3_:=qh12 (qf12 HB.out)
                     clear BK342
                     clear BK347
                     clear BK354
                     clear HB
                     have BK342:=n0_
                     have BK347:=n1_
                     have BK354:=n2_
                     have HB:=n3_
                     clear n0_ n1_ n2_ n3_
                     refine start_ (n:=10) (S:=fun w' => w'.cell? ⟨gb354,0,none⟩ = some (.int .i64 ((rd_T73 ((rd_T70 l0_2 x25_1).f4) x59_2).f0)) ∧ w'.cell? ⟨gb354,1,none⟩ = some (.int .i64 ((rd_T73 ((rd_T70 l0_2 x25_1).f4) x59_2).f1))) (ds:=[]) #[false,false,false,false,false,false,false,false,false,false] (by kernel_rfl) rfl rfl ⟨(blk_cell BK354.out 0).trans rfl,(blk_cell BK354.out 1).trans rfl⟩ (fun hHeld => ?_);refine with_tabW impl_tableText.tab9 impl_tableText.bits9 (fun HT_ HW_ => ?_)
                     generalize w49.drew = w50 at BK342 BK347 BK354 HB hHeld ⊢
                     refine pure_ (i:=0) (N:=some 63) (v:=?_) (a':=?_) #[true,false,false,false,false,false,false,false,false,false] rfl rfl (any_of HT_.out (by kernel_rfl)) (fun _ _ _ h => h) (Or.inl ⟨by rfl,?_⟩) ?_ ?_
                     rotate_left
                     ·
                      intro w'
                      go_simp
                      with_reducible rfl
                     rotate_left
                     ·
                      simp only [Act.put,sA,sB,sC,i64_w,i32_w]
                      rfl
                     refine pure_ (i:=1) (N:=some 64) (v:=?_) (a':=?_) #[true,true,false,false,false,false,false,false,false,false] rfl rfl (any_of HT_.out (by kernel_rfl)) (fun _ _ _ h => h) (Or.inl ⟨by rfl,?_⟩) ?_ ?_
                     rotate_left
                     ·
                      intro w'
                      go_simp
                      with_reducible rfl
                     rotate_left
                     ·
                      simp only [Act.put,sA,sB,sC,i64_w,i32_w]
                      rfl
                     refine pure_ (i:=4) (N:=some 67) (v:=?_) (a':=?_) #[true,true,false,false,true,false,false,false,false,false] rfl rfl (any_of HT_.out (by kernel_rfl)) (fun _ _ _ h => h) (Or.inl ⟨by rfl,?_⟩) ?_ ?_
                     rotate_left
                     ·
                      intro w'
                      go_simp
                      with_reducible rfl
                     rotate_left
                     ·
                      simp only [Act.put,sA,sB,sC,i64_w,i32_w]
                      rfl
                     refine take_ (i:=2) (N:=some 65) (v:=?_) (a':=?_) #[true,true,true,false,true,false,false,false,false,false] rfl rfl (take_ofW HT_.out HW_.out (by kernel_rfl)) (fun _ _ _ h => h) (Or.inl ⟨by rfl,?_⟩) hHeld ?_ ?_
                     rotate_left
                     ·
                      rintro w' ⟨s0,s1⟩
                      go_simp
                      with_reducible rfl
                     rotate_left
                     ·
                      simp only [Act.put,sA,sB,sC,i64_w,i32_w]
                      rfl
                     refine take_ (i:=5) (N:=some 68) (v:=?_) (a':=?_) #[true,true,true,false,true,true,false,false,false,false] rfl rfl (take_ofW HT_.out HW_.out (by kernel_rfl)) (fun _ _ _ h => h) (Or.inl ⟨by rfl,?_⟩) hHeld ?_ ?_
                     rotate_left
                     ·
                      rintro w' ⟨s0,s1⟩
                      go_simp
                      with_reducible rfl
                     rotate_left
                     ·
                      simp only [Act.put,sA,sB,sC,i64_w,i32_w]
                      rfl
                     refine one_ (i:=3) (N:=some 66) #[true,true,true,true,true,true,false,false,false,false] rfl rfl (one_of HT_.out (by kernel_rfl)) (by decide) (fun K hK => ?_)
                     refine goes_ Try.func80 (by kernel_rfl) rfl #[.int .i64 ((rd_T73 ((rd_T70 l0_2 x25_1).f4) x59_2).f0),.int .i64 1] (by rfl) rfl rfl (by (try simp only [sE,sH,sI]);first|done|rfl|(simp only [sG,sF];rfl)) ?_
                     with_reducible refine (impl_number.calls k2 ((rd_T73 ((rd_T70 l0_2 x25_1).f4) x59_2).f0) 1 t355 _ A41.out).mono ?_
                     rintro e w51 ⟨rfl,hb⟩
                     refine ⟨_,rfl,?_⟩
                     have n0_:=qh12 (qi12 (g:=gb342) (o:=.cells #[.int .i64 a0_0,.int .i64 a0_1,.slice (some ad346) l0_2.length c0_2,.slice A0_3 l0_3.length c0_3] 31 (0,0)) (by (with_reducible repeat (first|apply qa12|apply qb12|apply qc12));exact BK342.out) hb)
                     have n1_:=qh12 (qi12 (g:=gb347) (o:=.cells #[.string ((rd_T70 l0_2 x25_1).f0),.int .i64 ((rd_T70 l0_2 x25_1).f1),.int .i64 ((rd_T70 l0_2 x25_1).f2),.int .i64 ((rd_T70 l0_2 x25_1).f3),.slice (some ad353) ((rd_T70 l0_2 x25_1).f4).length c346_4] 70 (0,0)) (by (with_reducible repeat (first|apply qa12|apply qb12|apply qc12));exact BK347.out) hb)
                     have n2_:=qh12 (qi12 (g:=gb354) (o:=.cells #[.int .i64 ((rd_T73 ((rd_T70 l0_2 x25_1).f4) x59_2).f0),.int .i64 ((rd_T73 ((rd_T70 l0_2 x25_1).f4) x59_2).f1)] 73 (0,0)) (by (with_reducible repeat (first|apply qa12|apply qb12|apply qc12));exact BK354.out) hb)
                     have n3_:=qh12 (sN (by repeat (first|(with_reducible first|exact HB.out|apply qd12|apply qe12|apply qf12|refine qg12 ?_ GE342.out|refine qg12 ?_ GE347.out|refine qg12 ?_ GE354.out)|exact HB.out)) hb)
                     clear BK342
                     clear BK347
                     clear BK354
                     clear HB
                     have BK342:=n0_
                     have BK347:=n1_
                     have BK354:=n2_
                     have HB:=n3_
                     clear n0_ n1_ n2_ n3_
                     (try clear hb)
                     (try clear hb2)
                     (try clear hk)
                     (try clear hi)
                     refine hK.out _ _ ⟨(blk_cell BK354.out 0).trans rfl,(blk_cell BK354.out 1).trans rfl⟩ (fun hHeld => ?_)
                     clear hK K
                     refine norm_ (a':=?_) ?_ ?_
                     rotate_left
                     ·
                      show Act.put _ (some 66) _ = _
                      simp only [Act.put,sA,sB,sC,i64_w,i32_w]
                      rfl
                     refine one_ (i:=6) (N:=some 69) #[true,true,true,true,true,true,true,false,false,false] rfl rfl (one_of HT_.out (by kernel_rfl)) (by decide) (fun K hK => ?_)
                     refine goes_ Try.func80 (by kernel_rfl) rfl #[.int .i64 ((rd_T73 ((rd_T70 l0_2 x25_1).f4) x59_2).f1),.int .i64 2] (by rfl) rfl rfl (by (try simp only [sE,sH,sI]);first|done|rfl|(simp only [sG,sF];rfl)) ?_
                     with_reducible refine (impl_number.calls k2 ((rd_T73 ((rd_T70 l0_2 x25_1).f4) x59_2).f1) 2 t356 _ A42.out).mono ?_
                     rintro e w52 ⟨rfl,hb⟩
                     refine ⟨_,rfl,?_⟩
                     have n0_:=qh12 (qi12 (g:=gb342) (o:=.cells #[.int .i64 a0_0,.int .i64 a0_1,.slice (some ad346) l0_2.length c0_2,.slice A0_3 l0_3.length c0_3] 31 (0,0)) (by (with_reducible repeat (first|apply qa12|apply qb12|apply qc12));exact BK342.out) hb)
                     have n1_:=qh12 (qi12 (g:=gb347) (o:=.cells #[.string ((rd_T70 l0_2 x25_1).f0),.int .i64 ((rd_T70 l0_2 x25_1).f1),.int .i64 ((rd_T70 l0_2 x25_1).f2),.int .i64 ((rd_T70 l0_2 x25_1).f3),.slice (some ad353) ((rd_T70 l0_2 x25_1).f4).length c346_4] 70 (0,0)) (by (with_reducible repeat (first|apply qa12|apply qb12|apply qc12));exact BK347.out) hb)
                     have n2_:=qh12 (qi12 (g:=gb354) (o:=.cells #[.int .i64 ((rd_T73 ((rd_T70 l0_2 x25_1).f4) x59_2).f0),.int .i64 ((rd_T73 ((rd_T70 l0_2 x25_1).f4) x59_2).f1)] 73 (0,0)) (by (with_reducible repeat (first|apply qa12|apply qb12|apply qc12));exact BK354.out) hb)
                     have n3_:=qh12 (sN (by repeat (first|(with_reducible first|exact HB.out|apply qd12|apply qe12|apply qf12|refine qg12 ?_ GE342.out|refine qg12 ?_ GE347.out|refine qg12 ?_ GE354.out)|exact HB.out)) hb)
                     clear BK342
                     clear BK347
                     clear BK354
                     clear HB
                     have BK342:=n0_
                     have BK347:=n1_
                     have BK354:=n2_
                     have HB:=n3_
                     clear n0_ n1_ n2_ n3_
                     (try clear hb)
                     (try clear hb2)
                     (try clear hk)
                     (try clear hi)
                     refine hK.out _ _ ⟨(blk_cell BK354.out 0).trans rfl,(blk_cell BK354.out 1).trans rfl⟩ (fun hHeld => ?_)
                     clear hK K
                     refine norm_ (a':=?_) ?_ ?_
                     rotate_left
                     ·
                      show Act.put _ (some 69) _ = _
                      simp only [Act.put,sA,sB,sC,i64_w,i32_w]
                      rfl
                     refine pure_ (i:=7) (N:=some 70) (v:=?_) (a':=?_) #[true,true,true,true,true,true,true,true,false,false] rfl rfl (any_of HT_.out (by kernel_rfl)) (fun _ _ _ h => h) (Or.inl ⟨by rfl,?_⟩) ?_ ?_
                     rotate_left
                     ·
                      intro w'
                      go_simp
                      with_reducible rfl
                     rotate_left
                     ·
                      simp only [Act.put,sA,sB,sC,i64_w,i32_w]
                      rfl
                     refine pure_ (i:=8) (N:=some 71) (v:=?_) (a':=?_) #[true,true,true,true,true,true,true,true,true,false] rfl rfl (any_of HT_.out (by kernel_rfl)) (fun _ _ _ h => h) (Or.inl ⟨by rfl,?_⟩) ?_ ?_
                     rotate_left
                     ·
                      intro w'
                      go_simp
                      with_reducible rfl
                     rotate_left
                     ·
                      simp only [Act.put,sA,sB,sC,i64_w,i32_w]
                      rfl
                     refine pure_ (i:=9) (N:=some 3) (v:=?_) (a':=?_) #[true,true,true,true,true,true,true,true,true,true] rfl rfl (any_of HT_.out (by kernel_rfl)) (fun _ _ _ h => h) (Or.inl ⟨by rfl,?_⟩) ?_ ?_
                     rotate_left
                     ·
                      intro w'
                      go_simp
                      with_reducible rfl
                     rotate_left
                     ·
                      simp only [Act.put,sA,sB,sC,i64_w,i32_w]
                      rfl
                     refine done_ (done_of HT_.out (by kernel_rfl)) ?_
                     try go_wp2
                     go_roundg k2
                     case measure => have:=HK1.out;have:=HK2.out;omega
                     case rel => exact ⟨(x3_2 ++ (t355 ++ t356)),(wrap64 (x59_2 + 1)),(by first|rfl|(simp;done)|(simp [*];done)),(by first|rfl|(simp;done)|(simp [*];done)),H',⟨by have:=HK1.out;have:=HK2.out;omega⟩,⟨by (with_reducible repeat (first|apply qa12|apply qb12|apply qc12));exact BK342.out⟩,⟨by (with_reducible repeat (first|apply qa12|apply qb12|apply qc12));exact BK347.out⟩,⟨by repeat (first|(with_reducible first|exact HB.out|apply qd12|apply qe12|apply qf12|refine qg12 ?_ GE342.out|refine qg12 ?_ GE347.out|refine qg12 ?_ GE354.out)|exact HB.out)⟩⟩
                    ·
                     rw [if_neg c44] at H
                     exact absurd H (by simp)
                   ·
                    rw [if_neg c43] at H
                    exact absurd H (by simp)
                  ·
                   rw [if_neg c40] at H
                   exact absurd H (by simp)
                 ·
                  rw [if_neg c39] at H
                  exact absurd H (by simp)
                ·
                 rw [if_neg c38] at H
                 have c38b0 : decide (x59_2 < (((rd_T70 l0_2 x25_1).f4).length : Int)) = false:=decide_eq_false c38
                 clear c38
                 have H':=qh12 H
                 clear H
                 go_wp2
                 go_roundg k2
                 case measure => have:=HK1.out;have:=HK2.out;omega
                 case rel => exact ⟨(x3_2),(wrap64 (x25_1 + 1)),(by first|rfl|(simp;done)|(simp [*];done)),(by first|rfl|(simp;done)|(simp [*];done)),H',⟨by have:=HK1.out;have:=HK2.out;omega⟩,⟨by (with_reducible repeat (first|apply qa12|apply qb12|apply qc12));exact BK342.out⟩,⟨by repeat (first|(with_reducible first|exact HB.out|apply qd12|apply qe12|apply qf12|refine qg12 ?_ GE342.out|refine qg12 ?_ GE347.out)|exact HB.out)⟩⟩
             ·
              rw [if_neg c26] at H
              exact absurd H (by simp)
            ·
             rw [if_neg c25] at H
             exact absurd H (by simp)
           ·
            rw [if_neg c23] at H
            exact absurd H (by simp)
          ·
           rw [if_neg c21] at H
           exact absurd H (by simp)
         ·
          rw [if_neg c19] at H
          exact absurd H (by simp)
        ·
         rw [if_neg c17] at H
         exact absurd H (by simp)
       ·
        rw [if_neg c15] at H
        exact absurd H (by simp)
      ·
       rw [if_neg c14] at H
       exact absurd H (by simp)
     ·
      rw [if_neg c13] at H
      have c13b0 : decide (x25_1 < (l0_2.length : Int)) = false:=decide_eq_false c13
      clear c13
      replace H:=Option.bind_eq_some_iff.mp H
      obtain ⟨t357,A530,H⟩:=H
      replace H : (if x3_1.size + t357.size ≤ 9223372036854775807 then (impl_tableText.l2 k1 (x3_1 ++ t357) l0_3 (l0_3.length : Int) 0) else (none)) = some r:=H
      have A53:=qh12 A530
      clear A530
      by_cases c54 : x3_1.size + t357.size ≤ 9223372036854775807
      ·
       rw [if_pos c54] at H
       have c54b0:=eq_true c54
       have c54b1 : decide (x3_1.size + t357.size ≤ 9223372036854775807) = true:=decide_eq_true c54
       try have c54b2 : (9223372036854775807 < x3_1.size + t357.size) = False:=eq_false (Nat.not_lt.2 c54)
       have H':=qh12 H
       clear H
       have hcz55_0 : wr.cell? ⟨gb342,0,none⟩ = some (.int .i64 a0_0):=(blk_cell BK342.out 0).trans rfl
       have hcz55_1 : wr.cell? ⟨gb342,1,none⟩ = some (.int .i64 a0_1):=(blk_cell BK342.out 1).trans rfl
       have hcz55_2 : wr.cell? ⟨gb342,2,none⟩ = some (.slice A0_2 l0_2.length c0_2):=(blk_cell BK342.out 2).trans rfl
       have hcz55_3 : wr.cell? ⟨gb342,3,none⟩ = some (.slice A0_3 l0_3.length c0_3):=(blk_cell BK342.out 3).trans rfl
       have hfz55_0:=sJ BK342.out 0
       have hfz55_1:=sJ BK342.out 1
       have hfz55_2:=sJ BK342.out 2
       have hfz55_3:=sJ BK342.out 3
       go_wp2_with (first|((with_reducible refine gate_callee (f:=80) rfl ?_);refine goesL_ (some 78) rfl rfl Try.func80 (by kernel_rfl) rfl #[.int .i64 (l0_3.length : Int),.int .i64 1] rfl (by (try simp only [sE,sH,sI]);first|done|rfl|(simp only [sG,sF];rfl)) ?_;(with_reducible refine (impl_number.calls k1 (l0_3.length : Int) 1 t357 _ A53.out).mono ?_);rintro e w56 ⟨rfl,hb⟩;refine ⟨_,rfl,?_⟩;have n0_:=qh12 (qi12 (g:=gb342) (o:=.cells #[.int .i64 a0_0,.int .i64 a0_1,.slice A0_2 l0_2.length c0_2,.slice A0_3 l0_3.length c0_3] 31 (0,0)) (by (with_reducible repeat (first|apply qa12|apply qb12|apply qc12));exact BK342.out) hb);have n1_:=qh12 (sN (by repeat (first|(with_reducible first|exact HB.out|apply qd12|apply qe12|apply qf12|refine qg12 ?_ GE342.out)|exact HB.out)) hb);clear BK342;clear HB;have BK342:=n0_;have HB:=n1_;clear n0_ n1_;(try clear hb);(try clear hb2);(try clear hk);(try clear hi);have hcz57_0 : w56.cell? ⟨gb342,0,none⟩ = some (.int .i64 a0_0):=(blk_cell BK342.out 0).trans rfl;have hcz57_1 : w56.cell? ⟨gb342,1,none⟩ = some (.int .i64 a0_1):=(blk_cell BK342.out 1).trans rfl;have hcz57_2 : w56.cell? ⟨gb342,2,none⟩ = some (.slice A0_2 l0_2.length c0_2):=(blk_cell BK342.out 2).trans rfl;have hcz57_3 : w56.cell? ⟨gb342,3,none⟩ = some (.slice A0_3 l0_3.length c0_3):=(blk_cell BK342.out 3).trans rfl;have hfz57_0:=sJ BK342.out 0;have hfz57_1:=sJ BK342.out 1;have hfz57_2:=sJ BK342.out 2;have hfz57_3:=sJ BK342.out 3))
       go_loopg [3,83] k1 (fun kq v3 v83 w' => ∃ (x3_2 : ByteArray) (x83_2 : Int),v3 = .string x3_2 ∧ v83 = .int .i64 x83_2 ∧ Aside0 (impl_tableText.l2 kq x3_2 l0_3 (l0_3.length : Int) x83_2 = some r) ∧ Aside0 (kq ≤ k1) ∧ Aside0 (w'.heap[gb342]? = some (.cells #[.int .i64 a0_0,.int .i64 a0_1,(.slice A0_2 l0_2.length c0_2),(.slice A0_3 l0_3.length c0_3)] 31 (0,0))) ∧ Aside0 (Below w.heap.size w w'))
       case atStart => exact ⟨(x3_1 ++ t357),(0),(by first|rfl|(simp;done)|(simp [*];done)),(by first|rfl|(simp;done)|(simp [*];done)),H',⟨Nat.le_refl _⟩,⟨by (with_reducible repeat (first|apply qa12|apply qb12|apply qc12));exact BK342.out⟩,⟨by repeat (first|(with_reducible first|exact HB.out|apply qd12|apply qe12|apply qf12|refine qg12 ?_ GE342.out)|exact HB.out)⟩⟩
       case round =>
        clear H'
        try clear c1
        try clear c2
        try clear p2
        try clear c3
        try clear p3
        try clear q3
        try clear hx3
        try clear c4
        try clear c4b0
        try clear c4b1
        try clear c4b2
        try clear c5
        try clear c6
        try clear c6b0
        try clear c6b1
        try clear c6b2
        try clear p6
        try clear c8
        try clear c13
        try clear c13b0
        try clear c14
        try clear c14b0
        try clear c15
        try clear c15b0
        try clear c17
        try clear c17b0
        try clear c17b1
        try clear c17b2
        try clear c19
        try clear c19b0
        try clear c19b1
        try clear c19b2
        try clear c21
        try clear c21b0
        try clear c21b1
        try clear c21b2
        try clear c23
        try clear c23b0
        try clear c23b1
        try clear c23b2
        try clear c25
        try clear c25b0
        try clear c25b1
        try clear c25b2
        try clear c26
        try clear c26b0
        try clear c26b1
        try clear c26b2
        try clear c28
        try clear c34
        try clear p34
        try clear q34
        try clear hx34
        try clear p35
        try clear q35
        try clear hx35
        try clear c38
        try clear c38b0
        try clear c39
        try clear c39b0
        try clear c40
        try clear c40b0
        try clear c43
        try clear c43b0
        try clear c43b1
        try clear c43b2
        try clear c44
        try clear c44b0
        try clear c44b1
        try clear c44b2
        try clear c46
        try clear c47
        try clear c54
        try clear c54b0
        try clear c54b1
        try clear c54b2
        try clear hcz12_0
        try clear hcz12_1
        try clear hcz12_2
        try clear hcz12_3
        try clear hcz29_0
        try clear hcz29_1
        try clear hcz29_2
        try clear hcz29_3
        try clear hcz29_4
        try clear hcz37_0
        try clear hcz37_1
        try clear hcz37_2
        try clear hcz37_3
        try clear hcz37_4
        try clear hcz48_0
        try clear hcz48_1
        try clear hcz55_0
        try clear hcz55_1
        try clear hcz55_2
        try clear hcz55_3
        try clear hcz57_0
        try clear hcz57_1
        try clear hcz57_2
        try clear hcz57_3
        try clear hfz12_0
        try clear hfz12_1
        try clear hfz12_2
        try clear hfz12_3
        try clear hfz29_0
        try clear hfz29_1
        try clear hfz29_2
        try clear hfz29_3
        try clear hfz29_4
        try clear hfz37_0
        try clear hfz37_1
        try clear hfz37_2
        try clear hfz37_3
        try clear hfz37_4
        try clear hfz48_0
        try clear hfz48_1
        try clear hfz55_0
        try clear hfz55_1
        try clear hfz55_2
        try clear hfz55_3
        try clear hfz57_0
        try clear hfz57_1
        try clear hfz57_2
        try clear hfz57_3
        try clear hx346_0
        try clear hx346_1
        try clear hx346_2
        try clear hx346_3
        try clear hx346_4
        try clear hx353_0
        try clear hx353_1
        try clear p2
        try clear p3
        try clear p34
        try clear p346
        try clear p353
        try clear p6
        try clear q3
        try clear q34
        try clear q346
        try clear q353
        obtain ⟨x3_2,x83_2,rfl,rfl,HA,HK2,BK342,HB⟩:=hrel
        cases gk with
        | zero => exact absurd HA.out (by simp [impl_tableText.l2])
        | succ k2 =>
         have H:=HA.out
         clear HA
         simp only [impl_tableText.l2] at H
         by_cases c58 : x83_2 < (l0_3.length : Int)
         ·
          rw [if_pos c58] at H
          have c58b0 : decide (x83_2 < (l0_3.length : Int)) = true:=decide_eq_true c58
          clear c58
          by_cases c59 : 0 ≤ x83_2
          ·
           rw [if_pos c59] at H
           have c59b0 : decide (0 ≤ x83_2) = true:=decide_eq_true c59
           clear c59
           by_cases c60 : x83_2 < (l0_3.length : Int)
           ·
            rw [if_pos c60] at H
            have c60b0 : decide (x83_2 < (l0_3.length : Int)) = true:=decide_eq_true c60
            clear c60
            replace H:=Option.bind_eq_some_iff.mp H
            obtain ⟨t360,A610,H⟩:=H
            replace H : ((impl_number.f k2 ((rd_T77 l0_3 x83_2).f1) 2).bind fun t361 => (if t360.size + t361.size ≤ 9223372036854775807 then ((impl_answerText.f k2 ((rd_T77 l0_3 x83_2).f2.f0) ((rd_T77 l0_3 x83_2).f2.f1) ((rd_T77 l0_3 x83_2).f2.f2) ((rd_T77 l0_3 x83_2).f2.f3)).bind fun t362 => (if (t360 ++ t361).size + t362.size ≤ 9223372036854775807 then (if x3_2.size + ((t360 ++ t361) ++ t362).size ≤ 9223372036854775807 then (impl_tableText.l2 k2 (x3_2 ++ ((t360 ++ t361) ++ t362)) l0_3 (l0_3.length : Int) (wrap64 (x83_2 + 1))) else (none)) else (none))) else (none))) = some r:=H
            have A61:=qh12 A610
            clear A610
            replace H:=Option.bind_eq_some_iff.mp H
            obtain ⟨t361,A620,H⟩:=H
            replace H : (if t360.size + t361.size ≤ 9223372036854775807 then ((impl_answerText.f k2 ((rd_T77 l0_3 x83_2).f2.f0) ((rd_T77 l0_3 x83_2).f2.f1) ((rd_T77 l0_3 x83_2).f2.f2) ((rd_T77 l0_3 x83_2).f2.f3)).bind fun t362 => (if (t360 ++ t361).size + t362.size ≤ 9223372036854775807 then (if x3_2.size + ((t360 ++ t361) ++ t362).size ≤ 9223372036854775807 then (impl_tableText.l2 k2 (x3_2 ++ ((t360 ++ t361) ++ t362)) l0_3 (l0_3.length : Int) (wrap64 (x83_2 + 1))) else (none)) else (none))) else (none)) = some r:=H
            have A62:=qh12 A620
            clear A620
            by_cases c63 : t360.size + t361.size ≤ 9223372036854775807
            ·
             rw [if_pos c63] at H
             have c63b0:=eq_true c63
             have c63b1 : decide (t360.size + t361.size ≤ 9223372036854775807) = true:=decide_eq_true c63
             try have c63b2 : (9223372036854775807 < t360.size + t361.size) = False:=eq_false (Nat.not_lt.2 c63)
             replace H:=Option.bind_eq_some_iff.mp H
             obtain ⟨t362,A640,H⟩:=H
             replace H : (if (t360 ++ t361).size + t362.size ≤ 9223372036854775807 then (if x3_2.size + ((t360 ++ t361) ++ t362).size ≤ 9223372036854775807 then (impl_tableText.l2 k2 (x3_2 ++ ((t360 ++ t361) ++ t362)) l0_3 (l0_3.length : Int) (wrap64 (x83_2 + 1))) else (none)) else (none)) = some r:=H
             have A64:=qh12 A640
             clear A640
             by_cases c65 : (t360 ++ t361).size + t362.size ≤ 9223372036854775807
             ·
              rw [if_pos c65] at H
              have c65b0:=eq_true c65
              have c65b1 : decide ((t360 ++ t361).size + t362.size ≤ 9223372036854775807) = true:=decide_eq_true c65
              try have c65b2 : (9223372036854775807 < (t360 ++ t361).size + t362.size) = False:=eq_false (Nat.not_lt.2 c65)
              (try (have c65b3:=c65;simp only [ByteArray.size_append] at c65b3;have c65b4:=eq_false (Nat.not_lt.2 c65b3)))
              by_cases c66 : x3_2.size + ((t360 ++ t361) ++ t362).size ≤ 9223372036854775807
              ·
               rw [if_pos c66] at H
               have c66b0:=eq_true c66
               have c66b1 : decide (x3_2.size + ((t360 ++ t361) ++ t362).size ≤ 9223372036854775807) = true:=decide_eq_true c66
               try have c66b2 : (9223372036854775807 < x3_2.size + ((t360 ++ t361) ++ t362).size) = False:=eq_false (Nat.not_lt.2 c66)
               (try (have c66b3:=c66;simp only [ByteArray.size_append] at c66b3;have c66b4:=eq_false (Nat.not_lt.2 c66b3)))
               have H':=qh12 H
               clear H
               have p358 : 0 ≤ (x83_2 : Int):=sM (by first|(with_reducible assumption)|assumption)
               have q358 : x83_2 < (l0_3.length : Int):=sM (by first|(with_reducible assumption)|assumption)
               obtain ⟨ad358,e358,hx358_0,hx358_1,hx358_2,hx358_3,hx358_4,hx358_5⟩:=at_T77 HR0_3.out x83_2 p358 q358
               cases e358
               replace hx358_0:=(HB.out.cell (sD w _ hx358_0)).trans hx358_0
               replace hx358_1:=(HB.out.cell (sD w _ hx358_1)).trans hx358_1
               replace hx358_2:=(HB.out.cell (sD w _ hx358_2)).trans hx358_2
               replace hx358_3:=(HB.out.cell (sD w _ hx358_3)).trans hx358_3
               replace hx358_4:=(HB.out.cell (sD w _ hx358_4)).trans hx358_4
               replace hx358_5:=(HB.out.cell (sD w _ hx358_5)).trans hx358_5
               replace p358:=eq_true p358
               replace q358:=eq_true q358
               try go_wp2_with (first|((with_reducible refine gate_dst (N:=9) rfl ?_);refine box_event ?hg (N:=9) ?hd (cs:=#[.int .i64 0,.int .i64 0,.int .i64 0,.int .i64 0,.int .i64 0,.int .i64 0]) (t:=77) ?hr ?_;(case hd => rfl);(case hg => rfl);(case hr => first|(go_simp;done)|(go_simp;rfl));intro gb359 hg w67 hbox hb;have n0_:=qh12 (qi12 (g:=gb342) (o:=.cells #[.int .i64 a0_0,.int .i64 a0_1,.slice A0_2 l0_2.length c0_2,.slice (some ad358) l0_3.length c0_3] 31 (0,0)) (by (with_reducible repeat (first|apply qa12|apply qb12|apply qc12));exact BK342.out) hb);have n1_:=qh12 (sN (by repeat (first|(with_reducible first|exact HB.out|apply qd12|apply qe12|apply qf12|refine qg12 ?_ GE342.out)|exact HB.out)) hb);have n2_:=qh12 (hbox);have n3_:=qh12 ((by rw [hg];exact (below_size (by repeat (first|(with_reducible first|exact HB.out|apply qd12|apply qe12|apply qf12|refine qg12 ?_ GE342.out)|exact HB.out))) : w.heap.size ≤ gb359));have n4_:=qh12 ((by rw [hg];exact (below_size (by repeat (first|(with_reducible first|exact HB.out|apply qd12|apply qe12|apply qf12|refine qg12 ?_ GE342.out)|exact HB.out))) : w.heap.size ≤ gb359));have n5_:=qh12 ((by rw [hg];exact Nat.ne_of_lt (blk_lt (g:=gb342) (o:=.cells #[.int .i64 a0_0,.int .i64 a0_1,.slice A0_2 l0_2.length c0_2,.slice (some ad358) l0_3.length c0_3] 31 (0,0)) (by (with_reducible repeat (first|apply qa12|apply qb12|apply qc12));exact BK342.out)) : gb342 ≠ gb359));have n6_:=qh12 ((by rw [hg];exact Nat.ne_of_gt (blk_lt (g:=gb342) (o:=.cells #[.int .i64 a0_0,.int .i64 a0_1,.slice A0_2 l0_2.length c0_2,.slice (some ad358) l0_3.length c0_3] 31 (0,0)) (by (with_reducible repeat (first|apply qa12|apply qb12|apply qc12));exact BK342.out)) : gb359 ≠ gb342));clear BK342;clear HB;have BK342:=n0_;have HB:=n1_;have BK359:=n2_;have GW359:=n3_;have GE359:=n4_;have NB342_359:=n5_;have NB359_342:=n6_;clear n0_ n1_ n2_ n3_ n4_ n5_ n6_;clear hb hbox hg;have hnb68:=NB359_342.out;have hnc68:=NB342_359.out;have hcz69_0 : w67.cell? ⟨gb359,0,none⟩ = some (.int .i64 0):=(blk_cell BK359.out 0).trans rfl;have hcz69_1 : w67.cell? ⟨gb359,1,none⟩ = some (.int .i64 0):=(blk_cell BK359.out 1).trans rfl;have hcz69_2 : w67.cell? ⟨gb359,2,none⟩ = some (.int .i64 0):=(blk_cell BK359.out 2).trans rfl;have hcz69_3 : w67.cell? ⟨gb359,3,none⟩ = some (.int .i64 0):=(blk_cell BK359.out 3).trans rfl;have hcz69_4 : w67.cell? ⟨gb359,4,none⟩ = some (.int .i64 0):=(blk_cell BK359.out 4).trans rfl;have hcz69_5 : w67.cell? ⟨gb359,5,none⟩ = some (.int .i64 0):=(blk_cell BK359.out 5).trans rfl;have hfz69_0:=sJ BK359.out 0;have hfz69_1:=sJ BK359.out 1;have hfz69_2:=sJ BK359.out 2;have hfz69_3:=sJ BK359.out 3;have hfz69_4:=sJ BK359.out 4;have hfz69_5:=sJ BK359.out 5))
               have n0_ : Aside0 (((((((w67.setCell ⟨gb359,0,none⟩ (.int .i64 ((rd_T77 l0_3 x83_2).f0))).setCell ⟨gb359,1,none⟩ (.int .i64 ((rd_T77 l0_3 x83_2).f1))).setCell ⟨gb359,2,none⟩ (.int .i64 ((rd_T77 l0_3 x83_2).f2.f0))).setCell ⟨gb359,3,none⟩ (.int .i64 ((rd_T77 l0_3 x83_2).f2.f1))).setCell ⟨gb359,4,none⟩ (.int .i64 ((rd_T77 l0_3 x83_2).f2.f2))).setCell ⟨gb359,5,none⟩ (.int .i64 ((rd_T77 l0_3 x83_2).f2.f3))).heap[gb342]? = some (.cells #[.int .i64 a0_0,.int .i64 a0_1,.slice A0_2 l0_2.length c0_2,.slice (some ad358) l0_3.length c0_3] 31 (0,0))):=⟨by (with_reducible repeat (first|apply qa12|apply qb12|apply qc12));refine blk_far ?_ NB342_359.out _;(with_reducible repeat (first|apply qa12|apply qb12|apply qc12));refine blk_far ?_ NB342_359.out _;(with_reducible repeat (first|apply qa12|apply qb12|apply qc12));refine blk_far ?_ NB342_359.out _;(with_reducible repeat (first|apply qa12|apply qb12|apply qc12));refine blk_far ?_ NB342_359.out _;(with_reducible repeat (first|apply qa12|apply qb12|apply qc12));refine blk_far ?_ NB342_359.out _;(with_reducible repeat (first|apply qa12|apply qb12|apply qc12));refine blk_far ?_ NB342_359.out _;(with_reducible repeat (first|apply qa12|apply qb12|apply qc12));exact BK342.out⟩
               have n1_ : Aside0 (((((((w67.setCell ⟨gb359,0,none⟩ (.int .i64 ((rd_T77 l0_3 x83_2).f0))).setCell ⟨gb359,1,none⟩ (.int .i64 ((rd_T77 l0_3 x83_2).f1))).setCell ⟨gb359,2,none⟩ (.int .i64 ((rd_T77 l0_3 x83_2).f2.f0))).setCell ⟨gb359,3,none⟩ (.int .i64 ((rd_T77 l0_3 x83_2).f2.f1))).setCell ⟨gb359,4,none⟩ (.int .i64 ((rd_T77 l0_3 x83_2).f2.f2))).setCell ⟨gb359,5,none⟩ (.int .i64 ((rd_T77 l0_3 x83_2).f2.f3))).heap[gb359]? = some (.cells #[.int .i64 ((rd_T77 l0_3 x83_2).f0),.int .i64 ((rd_T77 l0_3 x83_2).f1),.int .i64 ((rd_T77 l0_3 x83_2).f2.f0),.int .i64 ((rd_T77 l0_3 x83_2).f2.f1),.int .i64 ((rd_T77 l0_3 x83_2).f2.f2),.int .i64 ((rd_T77 l0_3 x83_2).f2.f3)] 77 (0,0))):=⟨by (with_reducible repeat (first|apply qa12|apply qb12|apply qc12));refine blk_put (cs:=#[.int .i64 ((rd_T77 l0_3 x83_2).f0),.int .i64 ((rd_T77 l0_3 x83_2).f1),.int .i64 ((rd_T77 l0_3 x83_2).f2.f0),.int .i64 ((rd_T77 l0_3 x83_2).f2.f1),.int .i64 ((rd_T77 l0_3 x83_2).f2.f2),.int .i64 0]) ?_ 5 _ rfl;(with_reducible repeat (first|apply qa12|apply qb12|apply qc12));refine blk_put (cs:=#[.int .i64 ((rd_T77 l0_3 x83_2).f0),.int .i64 ((rd_T77 l0_3 x83_2).f1),.int .i64 ((rd_T77 l0_3 x83_2).f2.f0),.int .i64 ((rd_T77 l0_3 x83_2).f2.f1),.int .i64 0,.int .i64 0]) ?_ 4 _ rfl;(with_reducible repeat (first|apply qa12|apply qb12|apply qc12));refine blk_put (cs:=#[.int .i64 ((rd_T77 l0_3 x83_2).f0),.int .i64 ((rd_T77 l0_3 x83_2).f1),.int .i64 ((rd_T77 l0_3 x83_2).f2.f0),.int .i64 0,.int .i64 0,.int .i64 0]) ?_ 3 _ rfl;(with_reducible repeat (first|apply qa12|apply qb12|apply qc12));refine blk_put (cs:=#[.int .i64 ((rd_T77 l0_3 x83_2).f0),.int .i64 ((rd_T77 l0_3 x83_2).f1),.int .i64 0,.int .i64 0,.int .i64 0,.int .i64 0]) ?_ 2 _ rfl;(with_reducible repeat (first|apply qa12|apply qb12|apply qc12));refine blk_put (cs:=#[.int .i64 ((rd_T77 l0_3 x83_2).f0),.int .i64 0,.int .i64 0,.int .i64 0,.int .i64 0,.int .i64 0]) ?_ 1 _ rfl;(with_reducible repeat (first|apply qa12|apply qb12|apply qc12));refine blk_put (cs:=#[.int .i64 0,.int .i64 0,.int .i64 0,.int .i64 0,.int .i64 0,.int .i64 0]) ?_ 0 _ rfl;(with_reducible repeat (first|apply qa12|apply qb12|apply qc12));exact BK359.out⟩
               have n2_ : Aside0 (Below w.heap.size w ((((((w67.setCell ⟨gb359,0,none⟩ (.int .i64 ((rd_T77 l0_3 x83_2).f0))).setCell ⟨gb359,1,none⟩ (.int .i64 ((rd_T77 l0_3 x83_2).f1))).setCell ⟨gb359,2,none⟩ (.int .i64 ((rd_T77 l0_3 x83_2).f2.f0))).setCell ⟨gb359,3,none⟩ (.int .i64 ((rd_T77 l0_3 x83_2).f2.f1))).setCell ⟨gb359,4,none⟩ (.int .i64 ((rd_T77 l0_3 x83_2).f2.f2))).setCell ⟨gb359,5,none⟩ (.int .i64 ((rd_T77 l0_3 x83_2).f2.f3)))):=⟨by repeat (first|(with_reducible first|exact HB.out|apply qd12|apply qe12|apply qf12|refine qg12 ?_ GE342.out|refine qg12 ?_ GE359.out)|exact HB.out)⟩
               (try clear BK342)
               (try clear BK359)
               (try clear HB)
               generalize ((((((w67.setCell ⟨gb359,0,none⟩ (.int .i64 ((rd_T77 l0_3 x83_2).f0))).setCell ⟨gb359,1,none⟩ (.int .i64 ((rd_T77 l0_3 x83_2).f1))).setCell ⟨gb359,2,none⟩ (.int .i64 ((rd_T77 l0_3 x83_2).f2.f0))).setCell ⟨gb359,3,none⟩ (.int .i64 ((rd_T77 l0_3 x83_2).f2.f1))).setCell ⟨gb359,4,none⟩ (.int .i64 ((rd_T77 l0_3 x83_2).f2.f2))).setCell ⟨gb359,5,none⟩ (.int .i64 ((rd_T77 l0_3 x83_2).f2.f3))) = w70 at n0_ n1_ n2_ ⊢
               have BK342:=n0_
               have BK359:=n1_
               have HB:=n2_
               clear n0_ n1_ n2_
               have n0_:=qh12 (qb12 BK342.out)
               have n1_:=qh12 (qb12 BK359.out)
               have n2_:=qh12 (qf12 HB.out)
               clear BK342
               clear BK359
               clear HB
               have BK342:=n0_
               have BK359:=n1_
               have HB:=n2_
               clear n0_ n1_ n2_
               refine start_ (n:=14) (S:=fun w' => w'.cell? ⟨gb359,0,none⟩ = some (.int .i64 ((rd_T77 l0_3 x83_2).f0)) ∧ w'.cell? ⟨gb359,1,none⟩ = some (.int .i64 ((rd_T77 l0_3 x83_2).f1)) ∧ w'.cell? ⟨gb359,2,none⟩ = some (.int .i64 ((rd_T77 l0_3 x83_2).f2.f0)) ∧ w'.cell? ⟨gb359,3,none⟩ = some (.int .i64 ((rd_T77 l0_3 x83_2).f2.f1)) ∧ w'.cell? ⟨gb359,4,none⟩ = some (.int .i64 ((rd_T77 l0_3 x83_2).f2.f2)) ∧ w'.cell? ⟨gb359,5,none⟩ = some (.int .i64 ((rd_T77 l0_3 x83_2).f2.f3))) (ds:=[]) #[false,false,false,false,false,false,false,false,false,false,false,false,false,false] (by kernel_rfl) rfl rfl ⟨(blk_cell BK359.out 0).trans rfl,(blk_cell BK359.out 1).trans rfl,(blk_cell BK359.out 2).trans rfl,(blk_cell BK359.out 3).trans rfl,(blk_cell BK359.out 4).trans rfl,(blk_cell BK359.out 5).trans rfl⟩ (fun hHeld => ?_);refine with_tabW impl_tableText.tab16 impl_tableText.bits16 (fun HT_ HW_ => ?_)
               generalize w70.drew = w71 at BK342 BK359 HB hHeld ⊢
               refine pure_ (i:=0) (N:=some 87) (v:=?_) (a':=?_) #[true,false,false,false,false,false,false,false,false,false,false,false,false,false] rfl rfl (any_of HT_.out (by kernel_rfl)) (fun _ _ _ h => h) (Or.inl ⟨by rfl,?_⟩) ?_ ?_
               rotate_left
               ·
                intro w'
                go_simp
                with_reducible rfl
               rotate_left
               ·
                simp only [Act.put,sA,sB,sC,i64_w,i32_w]
                rfl
               refine pure_ (i:=1) (N:=some 88) (v:=?_) (a':=?_) #[true,true,false,false,false,false,false,false,false,false,false,false,false,false] rfl rfl (any_of HT_.out (by kernel_rfl)) (fun _ _ _ h => h) (Or.inl ⟨by rfl,?_⟩) ?_ ?_
               rotate_left
               ·
                intro w'
                go_simp
                with_reducible rfl
               rotate_left
               ·
                simp only [Act.put,sA,sB,sC,i64_w,i32_w]
                rfl
               refine pure_ (i:=4) (N:=some 91) (v:=?_) (a':=?_) #[true,true,false,false,true,false,false,false,false,false,false,false,false,false] rfl rfl (any_of HT_.out (by kernel_rfl)) (fun _ _ _ h => h) (Or.inl ⟨by rfl,?_⟩) ?_ ?_
               rotate_left
               ·
                intro w'
                go_simp
                with_reducible rfl
               rotate_left
               ·
                simp only [Act.put,sA,sB,sC,i64_w,i32_w]
                rfl
               refine pure_ (i:=8) (N:=some 95) (v:=?_) (a':=?_) #[true,true,false,false,true,false,false,false,true,false,false,false,false,false] rfl rfl (any_of HT_.out (by kernel_rfl)) (fun _ _ _ h => h) (Or.inl ⟨by rfl,?_⟩) ?_ ?_
               rotate_left
               ·
                intro w'
                go_simp
                with_reducible rfl
               rotate_left
               ·
                simp only [Act.put,sA,sB,sC,i64_w,i32_w]
                rfl
               refine take_ (i:=2) (N:=some 89) (v:=?_) (a':=?_) #[true,true,true,false,true,false,false,false,true,false,false,false,false,false] rfl rfl (take_ofW HT_.out HW_.out (by kernel_rfl)) (fun _ _ _ h => h) (Or.inl ⟨by rfl,?_⟩) hHeld ?_ ?_
               rotate_left
               ·
                rintro w' ⟨s0,s1,s2,s3,s4,s5⟩
                go_simp
                with_reducible rfl
               rotate_left
               ·
                simp only [Act.put,sA,sB,sC,i64_w,i32_w]
                rfl
               refine take_ (i:=5) (N:=some 92) (v:=?_) (a':=?_) #[true,true,true,false,true,true,false,false,true,false,false,false,false,false] rfl rfl (take_ofW HT_.out HW_.out (by kernel_rfl)) (fun _ _ _ h => h) (Or.inl ⟨by rfl,?_⟩) hHeld ?_ ?_
               rotate_left
               ·
                rintro w' ⟨s0,s1,s2,s3,s4,s5⟩
                go_simp
                with_reducible rfl
               rotate_left
               ·
                simp only [Act.put,sA,sB,sC,i64_w,i32_w]
                rfl
               refine take_ (i:=9) (N:=some 96) (v:=?_) (a':=?_) #[true,true,true,false,true,true,false,false,true,true,false,false,false,false] rfl rfl (take_ofW HT_.out HW_.out (by kernel_rfl)) (fun _ _ _ h => h) (Or.inl ⟨by rfl,?_⟩) hHeld ?_ ?_
               rotate_left
               ·
                rintro w' ⟨s0,s1,s2,s3,s4,s5⟩
                go_simp
                with_reducible rfl
               rotate_left
               ·
                simp only [Act.put,sA,sB,sC,i64_w,i32_w]
                rfl
               refine one_ (i:=3) (N:=some 90) #[true,true,true,true,true,true,false,false,true,true,false,false,false,false] rfl rfl (one_of HT_.out (by kernel_rfl)) (by decide) (fun K hK => ?_)
               refine goes_ Try.func80 (by kernel_rfl) rfl #[.int .i64 ((rd_T77 l0_3 x83_2).f0),.int .i64 1] (by rfl) rfl rfl (by (try simp only [sE,sH,sI]);first|done|rfl|(simp only [sG,sF];rfl)) ?_
               with_reducible refine (impl_number.calls k2 ((rd_T77 l0_3 x83_2).f0) 1 t360 _ A61.out).mono ?_
               rintro e w72 ⟨rfl,hb⟩
               refine ⟨_,rfl,?_⟩
               have n0_:=qh12 (qi12 (g:=gb342) (o:=.cells #[.int .i64 a0_0,.int .i64 a0_1,.slice A0_2 l0_2.length c0_2,.slice (some ad358) l0_3.length c0_3] 31 (0,0)) (by (with_reducible repeat (first|apply qa12|apply qb12|apply qc12));exact BK342.out) hb)
               have n1_:=qh12 (qi12 (g:=gb359) (o:=.cells #[.int .i64 ((rd_T77 l0_3 x83_2).f0),.int .i64 ((rd_T77 l0_3 x83_2).f1),.int .i64 ((rd_T77 l0_3 x83_2).f2.f0),.int .i64 ((rd_T77 l0_3 x83_2).f2.f1),.int .i64 ((rd_T77 l0_3 x83_2).f2.f2),.int .i64 ((rd_T77 l0_3 x83_2).f2.f3)] 77 (0,0)) (by (with_reducible repeat (first|apply qa12|apply qb12|apply qc12));exact BK359.out) hb)
               have n2_:=qh12 (sN (by repeat (first|(with_reducible first|exact HB.out|apply qd12|apply qe12|apply qf12|refine qg12 ?_ GE342.out|refine qg12 ?_ GE359.out)|exact HB.out)) hb)
               clear BK342
               clear BK359
               clear HB
               have BK342:=n0_
               have BK359:=n1_
               have HB:=n2_
               clear n0_ n1_ n2_
               (try clear hb)
               (try clear hb2)
               (try clear hk)
               (try clear hi)
               refine hK.out _ _ ⟨(blk_cell BK359.out 0).trans rfl,(blk_cell BK359.out 1).trans rfl,(blk_cell BK359.out 2).trans rfl,(blk_cell BK359.out 3).trans rfl,(blk_cell BK359.out 4).trans rfl,(blk_cell BK359.out 5).trans rfl⟩ (fun hHeld => ?_)
               clear hK K
               refine norm_ (a':=?_) ?_ ?_
               rotate_left
               ·
                show Act.put _ (some 90) _ = _
                simp only [Act.put,sA,sB,sC,i64_w,i32_w]
                rfl
               refine one_ (i:=6) (N:=some 93) #[true,true,true,true,true,true,true,false,true,true,false,false,false,false] rfl rfl (one_of HT_.out (by kernel_rfl)) (by decide) (fun K hK => ?_)
               refine goes_ Try.func80 (by kernel_rfl) rfl #[.int .i64 ((rd_T77 l0_3 x83_2).f1),.int .i64 2] (by rfl) rfl rfl (by (try simp only [sE,sH,sI]);first|done|rfl|(simp only [sG,sF];rfl)) ?_
               with_reducible refine (impl_number.calls k2 ((rd_T77 l0_3 x83_2).f1) 2 t361 _ A62.out).mono ?_
               rintro e w73 ⟨rfl,hb⟩
               refine ⟨_,rfl,?_⟩
               have n0_:=qh12 (qi12 (g:=gb342) (o:=.cells #[.int .i64 a0_0,.int .i64 a0_1,.slice A0_2 l0_2.length c0_2,.slice (some ad358) l0_3.length c0_3] 31 (0,0)) (by (with_reducible repeat (first|apply qa12|apply qb12|apply qc12));exact BK342.out) hb)
               have n1_:=qh12 (qi12 (g:=gb359) (o:=.cells #[.int .i64 ((rd_T77 l0_3 x83_2).f0),.int .i64 ((rd_T77 l0_3 x83_2).f1),.int .i64 ((rd_T77 l0_3 x83_2).f2.f0),.int .i64 ((rd_T77 l0_3 x83_2).f2.f1),.int .i64 ((rd_T77 l0_3 x83_2).f2.f2),.int .i64 ((rd_T77 l0_3 x83_2).f2.f3)] 77 (0,0)) (by (with_reducible repeat (first|apply qa12|apply qb12|apply qc12));exact BK359.out) hb)
               have n2_:=qh12 (sN (by repeat (first|(with_reducible first|exact HB.out|apply qd12|apply qe12|apply qf12|refine qg12 ?_ GE342.out|refine qg12 ?_ GE359.out)|exact HB.out)) hb)
               clear BK342
               clear BK359
               clear HB
               have BK342:=n0_
               have BK359:=n1_
               have HB:=n2_
               clear n0_ n1_ n2_
               (try clear hb)
               (try clear hb2)
               (try clear hk)
               (try clear hi)
               refine hK.out _ _ ⟨(blk_cell BK359.out 0).trans rfl,(blk_cell BK359.out 1).trans rfl,(blk_cell BK359.out 2).trans rfl,(blk_cell BK359.out 3).trans rfl,(blk_cell BK359.out 4).trans rfl,(blk_cell BK359.out 5).trans rfl⟩ (fun hHeld => ?_)
               clear hK K
               refine norm_ (a':=?_) ?_ ?_
               rotate_left
               ·
                show Act.put _ (some 93) _ = _
                simp only [Act.put,sA,sB,sC,i64_w,i32_w]
                rfl
               refine pure_ (i:=7) (N:=some 94) (v:=?_) (a':=?_) #[true,true,true,true,true,true,true,true,true,true,false,false,false,false] rfl rfl (any_of HT_.out (by kernel_rfl)) (fun _ _ _ h => h) (Or.inl ⟨by rfl,?_⟩) ?_ ?_
               rotate_left
               ·
                intro w'
                go_simp
                with_reducible rfl
               rotate_left
               ·
                simp only [Act.put,sA,sB,sC,i64_w,i32_w]
                rfl
               refine one_ (i:=10) (N:=some 97) #[true,true,true,true,true,true,true,true,true,true,true,false,false,false] rfl rfl (one_of HT_.out (by kernel_rfl)) (by decide) (fun K hK => ?_)
               refine goes_ Try.func81 (by kernel_rfl) rfl #[.agg #[.int .i64 ((rd_T77 l0_3 x83_2).f2.f0),.int .i64 ((rd_T77 l0_3 x83_2).f2.f1),.int .i64 ((rd_T77 l0_3 x83_2).f2.f2),.int .i64 ((rd_T77 l0_3 x83_2).f2.f3)]] (by rfl) rfl rfl (by (try simp only [sE,sH,sI]);first|done|rfl|(simp only [sG,sF];rfl)) ?_
               with_reducible refine (impl_answerText.calls k2 ((rd_T77 l0_3 x83_2).f2.f0) ((rd_T77 l0_3 x83_2).f2.f1) ((rd_T77 l0_3 x83_2).f2.f2) ((rd_T77 l0_3 x83_2).f2.f3) t362 _ A64.out).mono ?_
               rintro e w74 ⟨rfl,hb⟩
               refine ⟨_,rfl,?_⟩
               have n0_:=qh12 (qi12 (g:=gb342) (o:=.cells #[.int .i64 a0_0,.int .i64 a0_1,.slice A0_2 l0_2.length c0_2,.slice (some ad358) l0_3.length c0_3] 31 (0,0)) (by (with_reducible repeat (first|apply qa12|apply qb12|apply qc12));exact BK342.out) hb)
               have n1_:=qh12 (qi12 (g:=gb359) (o:=.cells #[.int .i64 ((rd_T77 l0_3 x83_2).f0),.int .i64 ((rd_T77 l0_3 x83_2).f1),.int .i64 ((rd_T77 l0_3 x83_2).f2.f0),.int .i64 ((rd_T77 l0_3 x83_2).f2.f1),.int .i64 ((rd_T77 l0_3 x83_2).f2.f2),.int .i64 ((rd_T77 l0_3 x83_2).f2.f3)] 77 (0,0)) (by (with_reducible repeat (first|apply qa12|apply qb12|apply qc12));exact BK359.out) hb)
               have n2_:=qh12 (sN (by repeat (first|(with_reducible first|exact HB.out|apply qd12|apply qe12|apply qf12|refine qg12 ?_ GE342.out|refine qg12 ?_ GE359.out)|exact HB.out)) hb)
               clear BK342
               clear BK359
               clear HB
               have BK342:=n0_
               have BK359:=n1_
               have HB:=n2_
               clear n0_ n1_ n2_
               (try clear hb)
               (try clear hb2)
               (try clear hk)
               (try clear hi)
               refine hK.out _ _ ⟨(blk_cell BK359.out 0).trans rfl,(blk_cell BK359.out 1).trans rfl,(blk_cell BK359.out 2).trans rfl,(blk_cell BK359.out 3).trans rfl,(blk_cell BK359.out 4).trans rfl,(blk_cell BK359.out 5).trans rfl⟩ (fun hHeld => ?_)
               clear hK K
               refine norm_ (a':=?_) ?_ ?_
               rotate_left
               ·
                show Act.put _ (some 97) _ = _
                simp only [Act.put,sA,sB,sC,i64_w,i32_w]
                rfl
               refine pure_ (i:=11) (N:=some 98) (v:=?_) (a':=?_) #[true,true,true,true,true,true,true,true,true,true,true,true,false,false] rfl rfl (any_of HT_.out (by kernel_rfl)) (fun _ _ _ h => h) (Or.inl ⟨by rfl,?_⟩) ?_ ?_
               rotate_left
               ·
                intro w'
                go_simp
                with_reducible rfl
               rotate_left
               ·
                simp only [Act.put,sA,sB,sC,i64_w,i32_w]
                rfl
               refine pure_ (i:=12) (N:=some 99) (v:=?_) (a':=?_) #[true,true,true,true,true,true,true,true,true,true,true,true,true,false] rfl rfl (any_of HT_.out (by kernel_rfl)) (fun _ _ _ h => h) (Or.inl ⟨by rfl,?_⟩) ?_ ?_
               rotate_left
               ·
                intro w'
                go_simp
                with_reducible rfl
               rotate_left
               ·
                simp only [Act.put,sA,sB,sC,i64_w,i32_w]
                rfl
               refine pure_ (i:=13) (N:=some 3) (v:=?_) (a':=?_) #[true,true,true,true,true,true,true,true,true,true,true,true,true,true] rfl rfl (any_of HT_.out (by kernel_rfl)) (fun _ _ _ h => h) (Or.inl ⟨by rfl,?_⟩) ?_ ?_
               rotate_left
               ·
                intro w'
                go_simp
                with_reducible rfl
               rotate_left
               ·
                simp only [Act.put,sA,sB,sC,i64_w,i32_w]
                rfl
               refine done_ (done_of HT_.out (by kernel_rfl)) ?_
               try go_wp2
               go_roundg k2
               case measure => have:=HK1.out;have:=HK2.out;omega
               case rel => exact ⟨(x3_2 ++ ((t360 ++ t361) ++ t362)),(wrap64 (x83_2 + 1)),(by first|rfl|(simp;done)|(simp [*];done)),(by first|rfl|(simp;done)|(simp [*];done)),H',⟨by have:=HK1.out;have:=HK2.out;omega⟩,⟨by (with_reducible repeat (first|apply qa12|apply qb12|apply qc12));exact BK342.out⟩,⟨by repeat (first|(with_reducible first|exact HB.out|apply qd12|apply qe12|apply qf12|refine qg12 ?_ GE342.out|refine qg12 ?_ GE359.out)|exact HB.out)⟩⟩
              ·
               rw [if_neg c66] at H
               exact absurd H (by simp)
             ·
              rw [if_neg c65] at H
              exact absurd H (by simp)
            ·
             rw [if_neg c63] at H
             exact absurd H (by simp)
           ·
            rw [if_neg c60] at H
            exact absurd H (by simp)
          ·
           rw [if_neg c59] at H
           exact absurd H (by simp)
         ·
          rw [if_neg c58] at H
          have c58b0 : decide (x83_2 < (l0_3.length : Int)) = false:=decide_eq_false c58
          clear c58
          obtain rfl:=sO H
          go_wp2
          go_ret
          exact ⟨by first|rfl|(simp [errW_none,errW_some] <;> rfl)|(simp [*,errW_none,errW_some] <;> rfl),by repeat (first|(with_reducible first|exact HB.out|apply qd12|apply qe12|apply qf12|refine qg12 ?_ GE342.out)|exact HB.out)⟩
      ·
       rw [if_neg c54] at H
       exact absurd H (by simp)
  ·
   rw [if_neg c6] at H
   exact absurd H (by simp)
 ·
  rw [if_neg c4] at H
  exact absurd H (by simp)

end Go.Proofs.Ytjkanhjapddhnaa.PFnExactSameTable
