-- laid by this session's program myprint.py over the kit's printer
-- squeezed
-- aliased
import Derived.Test.YtjkanhjapddhnaaDoorPFnExactTableDigestx0
import Derived.Test.YtjkanhjapddhnaaDoorPFnExactTableDigestx7
import Derived.Test.YtjkanhjapddhnaaDoorPFnExactTableDigestx8
namespace Go.Proofs.YtjkanhjapddhnaaDoor.PFnExactTableDigest
open Go.RowKit Go.Proofs.YtjkanhjapddhnaaDoorV.PrintWords Go.Proofs.YtjkanhjapddhnaaDoorV.PrintLast Go.Proofs.YtjkanhjapddhnaaDoorV.PrintMore
attribute [local go_sem] max2_int min2_int max_two min_two max_three min_three max_four min_four u8_wm u32_wm   -- for this text's walks alone
set_option linter.unusedVariables false
set_option linter.unusedSimpArgs false

/-! ### impl_tableText: function 18 -/
theorem qa9 : type_of% @blk_drewN:=@blk_drewN
theorem qb9 : type_of% @blk_drew:=@blk_drew
theorem qc9 : type_of% @blk_alloc:=@blk_alloc
theorem qd9 : type_of% @below_alloc:=@below_alloc
theorem qe9 : type_of% @pw_below_drewN:=@pw_below_drewN
theorem qf9 : type_of% @below_drew1:=@below_drew1
theorem qg9 : type_of% @below_set:=@below_set
theorem qh9 : type_of% @Aside0.mk:=@Aside0.mk
theorem qi9 : type_of% @blk_below:=@blk_below
mutual
def impl_tableText.l0 : Nat → ByteArray → List (S55) → Int → Int → Int → Int → List (S55) → List (S62) → Option (ByteArray)
 | 0,_,_,_,_,_,_,_,_ => none
 | k + 1,x3,x23,x24,x25,x322000,x322001,x322002,x322003 => if x25 < x24 then (if 0 ≤ x25 then (if x25 < (x23.length : Int) then ((impl_number.f k (((rd_T55 x23 x25).f0).size : Int) 1).bind fun t327 => (if t327.size + ((rd_T55 x23 x25).f0).size ≤ 9223372036854775807 then ((impl_number.f k ((rd_T55 x23 x25).f1) 3).bind fun t328 => (if (t327 ++ ((rd_T55 x23 x25).f0)).size + t328.size ≤ 9223372036854775807 then ((impl_number.f k (wrap64 (((rd_T55 x23 x25).f2) + 1)) 2).bind fun t329 => (if ((t327 ++ ((rd_T55 x23 x25).f0)) ++ t328).size + t329.size ≤ 9223372036854775807 then ((impl_number.f k ((rd_T55 x23 x25).f3) 4).bind fun t330 => (if (((t327 ++ ((rd_T55 x23 x25).f0)) ++ t328) ++ t329).size + t330.size ≤ 9223372036854775807 then ((impl_number.f k (((rd_T55 x23 x25).f4).length : Int) 1).bind fun t331 => (if ((((t327 ++ ((rd_T55 x23 x25).f0)) ++ t328) ++ t329) ++ t330).size + t331.size ≤ 9223372036854775807 then (if x3.size + (((((t327 ++ ((rd_T55 x23 x25).f0)) ++ t328) ++ t329) ++ t330) ++ t331).size ≤ 9223372036854775807 then (impl_tableText.l1 k (x3 ++ (((((t327 ++ ((rd_T55 x23 x25).f0)) ++ t328) ++ t329) ++ t330) ++ t331)) x23 x24 x25 ((rd_T55 x23 x25).f4) (((rd_T55 x23 x25).f4).length : Int) 0 x322000 x322001 x322002 x322003) else (none)) else (none))) else (none))) else (none))) else (none))) else (none))) else (none)) else (none)) else ((impl_number.f k (x322003.length : Int) 1).bind fun t336 => (if x3.size + t336.size ≤ 9223372036854775807 then (impl_tableText.l2 k (x3 ++ t336) x322003 (x322003.length : Int) 0) else (none)))
def impl_tableText.l1 : Nat → ByteArray → List (S55) → Int → Int → List (S58) → Int → Int → Int → Int → List (S55) → List (S62) → Option (ByteArray)
 | 0,_,_,_,_,_,_,_,_,_,_,_ => none
 | k + 1,x3,x23,x24,x25,x57,x58,x59,x322000,x322001,x322002,x322003 => if x59 < x58 then (if 0 ≤ x59 then (if x59 < (x57.length : Int) then ((impl_number.f k ((rd_T58 x57 x59).f0) 1).bind fun t334 => ((impl_number.f k ((rd_T58 x57 x59).f1) 2).bind fun t335 => (if t334.size + t335.size ≤ 9223372036854775807 then (if x3.size + (t334 ++ t335).size ≤ 9223372036854775807 then (impl_tableText.l1 k (x3 ++ (t334 ++ t335)) x23 x24 x25 x57 x58 (wrap64 (x59 + 1)) x322000 x322001 x322002 x322003) else (none)) else (none)))) else (none)) else (none)) else (impl_tableText.l0 k x3 x23 x24 (wrap64 (x25 + 1)) x322000 x322001 x322002 x322003)
def impl_tableText.l2 : Nat → ByteArray → List (S62) → Int → Int → Option (ByteArray)
 | 0,_,_,_,_ => none
 | k + 1,x3,x81,x82,x83 => if x83 < x82 then (if 0 ≤ x83 then (if x83 < (x81.length : Int) then ((impl_number.f k ((rd_T62 x81 x83).f0) 1).bind fun t339 => ((impl_number.f k ((rd_T62 x81 x83).f1) 2).bind fun t340 => (if t339.size + t340.size ≤ 9223372036854775807 then ((impl_answerText.f k ((rd_T62 x81 x83).f2.f0) ((rd_T62 x81 x83).f2.f1) ((rd_T62 x81 x83).f2.f2) ((rd_T62 x81 x83).f2.f3)).bind fun t341 => (if (t339 ++ t340).size + t341.size ≤ 9223372036854775807 then (if x3.size + ((t339 ++ t340) ++ t341).size ≤ 9223372036854775807 then (impl_tableText.l2 k (x3 ++ ((t339 ++ t340) ++ t341)) x81 x82 (wrap64 (x83 + 1))) else (none)) else (none))) else (none)))) else (none)) else (none)) else (some x3)
end
def impl_tableText.f (k : Nat) (a0_0 : Int) (a0_1 : Int) (l0_2 : List (S55)) (l0_3 : List (S62)) : Option (ByteArray):=(impl_number.f k a0_0 4).bind fun t322 => ((impl_number.f k a0_1 3).bind fun t323 => (if t322.size + t323.size ≤ 9223372036854775807 then ((impl_number.f k (l0_2.length : Int) 1).bind fun t324 => (if (t322 ++ t323).size + t324.size ≤ 9223372036854775807 then (impl_tableText.l0 k ((t322 ++ t323) ++ t324) l0_2 (l0_2.length : Int) 0 a0_0 a0_1 l0_2 l0_3) else (none))) else (none)))
def impl_tableText.T1 : Bool × List (List Nat × List Nat):=(true,[([],[]),([0],[0]),([1],[1]),([],[]),([3],[3]),([4,2],[4]),([2,5],[2,5]),([],[]),([7],[7]),([8],[8]),([9,5],[9]),([6,10],[6,10]),([11,10,0,1,2,3,4,5,6,7,8,9,10,11],[11])])
def impl_tableText.B1 : List Nat:=[0,1,3,0,8,31,63,0,128,384,959,2047,4095]
theorem impl_tableText.tab1 : rtab .any (opsOf Tryd.f18 1) = impl_tableText.T1:=by kernel_rfl
theorem impl_tableText.bits1 : waitsOk impl_tableText.T1.2 impl_tableText.B1 = true:=by kernel_rfl
def impl_tableText.T5 : Bool × List (List Nat × List Nat):=(true,[([],[]),([],[]),([1],[1]),([2],[2]),([3],[3]),([],[]),([5],[5]),([4,6],[4,6]),([],[]),([8],[8]),([9,4],[9]),([7,10],[7,10]),([],[]),([12],[12]),([13],[13]),([14,10],[14]),([11,15],[11,15]),([],[]),([17],[17]),([18,15],[18]),([16,19],[16,19]),([],[]),([21],[21]),([22],[22]),([23,19],[23]),([20,24],[20,24]),([0,25],[0,25]),([26,24,0,1,2,3,4,5,6,7,8,9,10,11,12,13,14,15,16,17,18,19,20,21,22,23,24,25,26],[0,26])])
def impl_tableText.B5 : List Nat:=[0,0,2,6,14,0,32,126,0,256,798,2046,0,4096,12288,30494,65534,0,131072,456478,1048574,0,2097152,6291456,15660830,33554430,67108863,134217727]
theorem impl_tableText.tab5 : rtab .any (opsOf Tryd.f18 5) = impl_tableText.T5:=by kernel_rfl
theorem impl_tableText.bits5 : waitsOk impl_tableText.T5.2 impl_tableText.B5 = true:=by kernel_rfl
def impl_tableText.T9 : Bool × List (List Nat × List Nat):=(true,[([],[]),([],[]),([1],[1]),([2],[2]),([],[]),([4],[4]),([5,3],[5]),([3,6],[3,6]),([0,7],[0,7]),([8,6,0,1,2,3,4,5,6,7,8],[0,8])])
def impl_tableText.B9 : List Nat:=[0,0,2,6,0,16,62,126,255,511]
theorem impl_tableText.tab9 : rtab .any (opsOf Tryd.f18 9) = impl_tableText.T9:=by kernel_rfl
theorem impl_tableText.bits9 : waitsOk impl_tableText.T9.2 impl_tableText.B9 = true:=by kernel_rfl
def impl_tableText.T16 : Bool × List (List Nat × List Nat):=(true,[([],[]),([],[]),([1],[1]),([2],[2]),([],[]),([4],[4]),([5,3],[5]),([3,6],[3,6]),([],[]),([8],[8]),([9,6],[9]),([7,10],[7,10]),([0,11],[0,11]),([12,10,0,1,2,3,4,5,6,7,8,9,10,11,12],[0,12])])
def impl_tableText.B16 : List Nat:=[0,0,2,6,0,16,62,126,0,256,894,2046,4095,8191]
theorem impl_tableText.tab16 : rtab .any (opsOf Tryd.f18 16) = impl_tableText.T16:=by kernel_rfl
theorem impl_tableText.bits16 : waitsOk impl_tableText.T16.2 impl_tableText.B16 = true:=by kernel_rfl
set_option maxHeartbeats 8000000 in
set_option maxRecDepth 100000 in
theorem impl_tableText.calls (k : Nat) (a0_0 : Int) (a0_1 : Int) (A0_2 : Option Addr) (c0_2 : Nat) (l0_2 : List (S55)) (A0_3 : Option Addr) (c0_3 : Nat) (l0_3 : List (S62)) (r : ByteArray) (w : World) (hr0_2 : Kd.C k55 w A0_2 l0_2.length l0_2) (hc0_2 : l0_2.length ≤ c0_2) (hr0_3 : Kd.C k62 w A0_3 l0_3.length l0_3) (hc0_3 : l0_3.length ≤ c0_3) (h : impl_tableText.f k a0_0 a0_1 l0_2 l0_3 = some r) :
  Calls Tryd.prog 18 #[.agg #[.int .i64 a0_0,.int .i64 a0_1,.slice A0_2 l0_2.length c0_2,.slice A0_3 l0_3.length c0_3]] w fun e w' => e = .returned (.string r) ∧ Below w.heap.size w w':=by
 have hu32:=Tryd.underlying32
 have hu55:=Tryd.underlying55
 have hu58:=Tryd.underlying58
 have hu62:=Tryd.underlying62
 have hu60:=Tryd.underlying60
 have HR0_2:=qh9 hr0_2
 have HC0_2:=qh9 hc0_2
 clear hr0_2 hc0_2
 have HR0_3:=qh9 hr0_3
 have HC0_3:=qh9 hc0_3
 clear hr0_3 hc0_3
 have HB:=qh9 (Below.refl w.heap.size w)
 have H : ((impl_number.f k a0_0 4).bind fun t322 => ((impl_number.f k a0_1 3).bind fun t323 => (if t322.size + t323.size ≤ 9223372036854775807 then ((impl_number.f k (l0_2.length : Int) 1).bind fun t324 => (if (t322 ++ t323).size + t324.size ≤ 9223372036854775807 then (impl_tableText.l0 k ((t322 ++ t323) ++ t324) l0_2 (l0_2.length : Int) 0 a0_0 a0_1 l0_2 l0_3) else (none))) else (none)))) = some r:=h
 clear h
 replace H:=Option.bind_eq_some_iff.mp H
 obtain ⟨t322,A20,H⟩:=H
 replace H : ((impl_number.f k a0_1 3).bind fun t323 => (if t322.size + t323.size ≤ 9223372036854775807 then ((impl_number.f k (l0_2.length : Int) 1).bind fun t324 => (if (t322 ++ t323).size + t324.size ≤ 9223372036854775807 then (impl_tableText.l0 k ((t322 ++ t323) ++ t324) l0_2 (l0_2.length : Int) 0 a0_0 a0_1 l0_2 l0_3) else (none))) else (none))) = some r:=H
 have A2:=qh9 A20
 clear A20
 replace H:=Option.bind_eq_some_iff.mp H
 obtain ⟨t323,A30,H⟩:=H
 replace H : (if t322.size + t323.size ≤ 9223372036854775807 then ((impl_number.f k (l0_2.length : Int) 1).bind fun t324 => (if (t322 ++ t323).size + t324.size ≤ 9223372036854775807 then (impl_tableText.l0 k ((t322 ++ t323) ++ t324) l0_2 (l0_2.length : Int) 0 a0_0 a0_1 l0_2 l0_3) else (none))) else (none)) = some r:=H
 have A3:=qh9 A30
 clear A30
 by_cases c4 : t322.size + t323.size ≤ 9223372036854775807
 ·
  rw [if_pos c4] at H
  have c4b0:=eq_true c4
  have c4b1 : decide (t322.size + t323.size ≤ 9223372036854775807) = true:=decide_eq_true c4
  try have c4b2 : (9223372036854775807 < t322.size + t323.size) = False:=eq_false (Nat.not_lt.2 c4)
  replace H:=Option.bind_eq_some_iff.mp H
  obtain ⟨t324,A50,H⟩:=H
  replace H : (if (t322 ++ t323).size + t324.size ≤ 9223372036854775807 then (impl_tableText.l0 k ((t322 ++ t323) ++ t324) l0_2 (l0_2.length : Int) 0 a0_0 a0_1 l0_2 l0_3) else (none)) = some r:=H
  have A5:=qh9 A50
  clear A50
  by_cases c6 : (t322 ++ t323).size + t324.size ≤ 9223372036854775807
  ·
   rw [if_pos c6] at H
   have c6b0:=eq_true c6
   have c6b1 : decide ((t322 ++ t323).size + t324.size ≤ 9223372036854775807) = true:=decide_eq_true c6
   try have c6b2 : (9223372036854775807 < (t322 ++ t323).size + t324.size) = False:=eq_false (Nat.not_lt.2 c6)
   (try (have c6b3:=c6;simp only [ByteArray.size_append] at c6b3;have c6b4:=eq_false (Nat.not_lt.2 c6b3)))
   have H':=qh9 H
   clear H
   go_enter Tryd.func18,Tryd.ntmps18
   try go_wp2_with (first|((with_reducible refine gate_dst (N:=1) rfl ?_);refine box_event ?hg (N:=1) ?hd (cs:=#[.int .i64 a0_0,.int .i64 a0_1,.slice A0_2 l0_2.length c0_2,.slice A0_3 l0_3.length c0_3]) (t:=32) ?hr ?_;(case hd => rfl);(case hg => rfl);(case hr => first|(go_simp;done)|(go_simp;rfl));intro gb321 hg w7 hbox hb;have n0_:=qh9 (sN (by repeat (first|(with_reducible first|exact HB.out|apply qd9|apply qe9|apply qf9)|exact HB.out)) hb);have n1_:=qh9 (hbox);have n2_:=qh9 ((by rw [hg];exact (below_size (by repeat (first|(with_reducible first|exact HB.out|apply qd9|apply qe9|apply qf9)|exact HB.out))) : w.heap.size ≤ gb321));have n3_:=qh9 ((by rw [hg];exact (below_size (by repeat (first|(with_reducible first|exact HB.out|apply qd9|apply qe9|apply qf9)|exact HB.out))) : w.heap.size ≤ gb321));clear HB;have HB:=n0_;have BK321:=n1_;have GW321:=n2_;have GE321:=n3_;clear n0_ n1_ n2_ n3_;clear hb hbox hg))
   have n0_:=qh9 (qb9 BK321.out)
   have n1_:=qh9 (qf9 HB.out)
   clear BK321
   clear HB
   have BK321:=n0_
   have HB:=n1_
   clear n0_ n1_
   refine start_ (n:=13) (S:=fun w' => w'.cell? ⟨gb321,0,none⟩ = some (.int .i64 a0_0) ∧ w'.cell? ⟨gb321,1,none⟩ = some (.int .i64 a0_1) ∧ w'.cell? ⟨gb321,2,none⟩ = some (.slice A0_2 l0_2.length c0_2) ∧ w'.cell? ⟨gb321,3,none⟩ = some (.slice A0_3 l0_3.length c0_3)) (ds:=[]) #[false,false,false,false,false,false,false,false,false,false,false,false,false] (by kernel_rfl) rfl rfl ⟨(blk_cell BK321.out 0).trans rfl,(blk_cell BK321.out 1).trans rfl,(blk_cell BK321.out 2).trans rfl,(blk_cell BK321.out 3).trans rfl⟩ (fun hHeld => ?_);refine with_tabW impl_tableText.tab1 impl_tableText.bits1 (fun HT_ HW_ => ?_)
   generalize w7.drew = w8 at BK321 HB hHeld ⊢
   refine pure_ (i:=0) (N:=some 10) (v:=?_) (a':=?_) #[true,false,false,false,false,false,false,false,false,false,false,false,false] rfl rfl (any_of HT_.out (by kernel_rfl)) (fun _ _ _ h => h) (Or.inl ⟨by rfl,?_⟩) ?_ ?_
   rotate_left
   ·
    intro w'
    go_simp
    with_reducible rfl
   rotate_left
   ·
    simp only [Act.put,sA,sB,sC,i64_w,i32_w]
    rfl
   refine pure_ (i:=3) (N:=some 13) (v:=?_) (a':=?_) #[true,false,false,true,false,false,false,false,false,false,false,false,false] rfl rfl (any_of HT_.out (by kernel_rfl)) (fun _ _ _ h => h) (Or.inl ⟨by rfl,?_⟩) ?_ ?_
   rotate_left
   ·
    intro w'
    go_simp
    with_reducible rfl
   rotate_left
   ·
    simp only [Act.put,sA,sB,sC,i64_w,i32_w]
    rfl
   refine pure_ (i:=7) (N:=some 17) (v:=?_) (a':=?_) #[true,false,false,true,false,false,false,true,false,false,false,false,false] rfl rfl (any_of HT_.out (by kernel_rfl)) (fun _ _ _ h => h) (Or.inl ⟨by rfl,?_⟩) ?_ ?_
   rotate_left
   ·
    intro w'
    go_simp
    with_reducible rfl
   rotate_left
   ·
    simp only [Act.put,sA,sB,sC,i64_w,i32_w]
    rfl
   refine take_ (i:=1) (N:=some 11) (v:=?_) (a':=?_) #[true,true,false,true,false,false,false,true,false,false,false,false,false] rfl rfl (take_ofW HT_.out HW_.out (by kernel_rfl)) (fun _ _ _ h => h) (Or.inl ⟨by rfl,?_⟩) hHeld ?_ ?_
   rotate_left
   ·
    rintro w' ⟨s0,s1,s2,s3⟩
    go_simp
    with_reducible rfl
   rotate_left
   ·
    simp only [Act.put,sA,sB,sC,i64_w,i32_w]
    rfl
   refine take_ (i:=4) (N:=some 14) (v:=?_) (a':=?_) #[true,true,false,true,true,false,false,true,false,false,false,false,false] rfl rfl (take_ofW HT_.out HW_.out (by kernel_rfl)) (fun _ _ _ h => h) (Or.inl ⟨by rfl,?_⟩) hHeld ?_ ?_
   rotate_left
   ·
    rintro w' ⟨s0,s1,s2,s3⟩
    go_simp
    with_reducible rfl
   rotate_left
   ·
    simp only [Act.put,sA,sB,sC,i64_w,i32_w]
    rfl
   refine take_ (i:=8) (N:=some 18) (v:=?_) (a':=?_) #[true,true,false,true,true,false,false,true,true,false,false,false,false] rfl rfl (take_ofW HT_.out HW_.out (by kernel_rfl)) (fun _ _ _ h => h) (Or.inl ⟨by rfl,?_⟩) hHeld ?_ ?_
   rotate_left
   ·
    rintro w' ⟨s0,s1,s2,s3⟩
    go_simp
    with_reducible rfl
   rotate_left
   ·
    simp only [Act.put,sA,sB,sC,i64_w,i32_w]
    rfl
   refine pure_ (i:=9) (N:=some 19) (v:=?_) (a':=?_) #[true,true,false,true,true,false,false,true,true,true,false,false,false] rfl rfl (any_of HT_.out (by kernel_rfl)) (fun _ _ _ h => h) (Or.inl ⟨by rfl,?_⟩) ?_ ?_
   rotate_left
   ·
    intro w'
    go_simp
    with_reducible rfl
   rotate_left
   ·
    simp only [Act.put,sA,sB,sC,i64_w,i32_w]
    rfl
   refine one_ (i:=2) (N:=some 12) #[true,true,true,true,true,false,false,true,true,true,false,false,false] rfl rfl (one_of HT_.out (by kernel_rfl)) (by decide) (fun K hK => ?_)
   refine goes_ Tryd.func33 (by kernel_rfl) rfl #[.int .i64 a0_0,.int .i64 4] (by rfl) rfl rfl (by (try simp only [sE,sH,sI]);first|done|rfl|(simp only [sG,sF];rfl)) ?_
   with_reducible refine (impl_number.calls k a0_0 4 t322 _ A2.out).mono ?_
   rintro e w9 ⟨rfl,hb⟩
   refine ⟨_,rfl,?_⟩
   have n0_:=qh9 (qi9 (g:=gb321) (o:=.cells #[.int .i64 a0_0,.int .i64 a0_1,.slice A0_2 l0_2.length c0_2,.slice A0_3 l0_3.length c0_3] 32 (0,0)) (by (with_reducible repeat (first|apply qa9|apply qb9|apply qc9));exact BK321.out) hb)
   have n1_:=qh9 (sN (by repeat (first|(with_reducible first|exact HB.out|apply qd9|apply qe9|apply qf9|refine qg9 ?_ GE321.out)|exact HB.out)) hb)
   clear BK321
   clear HB
   have BK321:=n0_
   have HB:=n1_
   clear n0_ n1_
   (try clear hb)
   (try clear hb2)
   (try clear hk)
   (try clear hi)
   refine hK.out _ _ ⟨(blk_cell BK321.out 0).trans rfl,(blk_cell BK321.out 1).trans rfl,(blk_cell BK321.out 2).trans rfl,(blk_cell BK321.out 3).trans rfl⟩ (fun hHeld => ?_)
   clear hK K
   refine norm_ (a':=?_) ?_ ?_
   rotate_left
   ·
    show Act.put _ (some 12) _ = _
    simp only [Act.put,sA,sB,sC,i64_w,i32_w]
    rfl
   refine one_ (i:=5) (N:=some 15) #[true,true,true,true,true,true,false,true,true,true,false,false,false] rfl rfl (one_of HT_.out (by kernel_rfl)) (by decide) (fun K hK => ?_)
   refine goes_ Tryd.func33 (by kernel_rfl) rfl #[.int .i64 a0_1,.int .i64 3] (by rfl) rfl rfl (by (try simp only [sE,sH,sI]);first|done|rfl|(simp only [sG,sF];rfl)) ?_
   with_reducible refine (impl_number.calls k a0_1 3 t323 _ A3.out).mono ?_
   rintro e w10 ⟨rfl,hb⟩
   refine ⟨_,rfl,?_⟩
   have n0_:=qh9 (qi9 (g:=gb321) (o:=.cells #[.int .i64 a0_0,.int .i64 a0_1,.slice A0_2 l0_2.length c0_2,.slice A0_3 l0_3.length c0_3] 32 (0,0)) (by (with_reducible repeat (first|apply qa9|apply qb9|apply qc9));exact BK321.out) hb)
   have n1_:=qh9 (sN (by repeat (first|(with_reducible first|exact HB.out|apply qd9|apply qe9|apply qf9|refine qg9 ?_ GE321.out)|exact HB.out)) hb)
   clear BK321
   clear HB
   have BK321:=n0_
   have HB:=n1_
   clear n0_ n1_
   (try clear hb)
   (try clear hb2)
   (try clear hk)
   (try clear hi)
   refine hK.out _ _ ⟨(blk_cell BK321.out 0).trans rfl,(blk_cell BK321.out 1).trans rfl,(blk_cell BK321.out 2).trans rfl,(blk_cell BK321.out 3).trans rfl⟩ (fun hHeld => ?_)
   clear hK K
   refine norm_ (a':=?_) ?_ ?_
   rotate_left
   ·
    show Act.put _ (some 15) _ = _
    simp only [Act.put,sA,sB,sC,i64_w,i32_w]
    rfl
   refine pure_ (i:=6) (N:=some 16) (v:=?_) (a':=?_) #[true,true,true,true,true,true,true,true,true,true,false,false,false] rfl rfl (any_of HT_.out (by kernel_rfl)) (fun _ _ _ h => h) (Or.inl ⟨by rfl,?_⟩) ?_ ?_
   rotate_left
   ·
    intro w'
    go_simp
    with_reducible rfl
   rotate_left
   ·
    simp only [Act.put,sA,sB,sC,i64_w,i32_w]
    rfl
   refine one_ (i:=10) (N:=some 20) #[true,true,true,true,true,true,true,true,true,true,true,false,false] rfl rfl (one_of HT_.out (by kernel_rfl)) (by decide) (fun K hK => ?_)
   refine goes_ Tryd.func33 (by kernel_rfl) rfl #[.int .i64 (l0_2.length : Int),.int .i64 1] (by rfl) rfl rfl (by (try simp only [sE,sH,sI]);first|done|rfl|(simp only [sG,sF];rfl)) ?_
   with_reducible refine (impl_number.calls k (l0_2.length : Int) 1 t324 _ A5.out).mono ?_
   rintro e w11 ⟨rfl,hb⟩
   refine ⟨_,rfl,?_⟩
   have n0_:=qh9 (qi9 (g:=gb321) (o:=.cells #[.int .i64 a0_0,.int .i64 a0_1,.slice A0_2 l0_2.length c0_2,.slice A0_3 l0_3.length c0_3] 32 (0,0)) (by (with_reducible repeat (first|apply qa9|apply qb9|apply qc9));exact BK321.out) hb)
   have n1_:=qh9 (sN (by repeat (first|(with_reducible first|exact HB.out|apply qd9|apply qe9|apply qf9|refine qg9 ?_ GE321.out)|exact HB.out)) hb)
   clear BK321
   clear HB
   have BK321:=n0_
   have HB:=n1_
   clear n0_ n1_
   (try clear hb)
   (try clear hb2)
   (try clear hk)
   (try clear hi)
   refine hK.out _ _ ⟨(blk_cell BK321.out 0).trans rfl,(blk_cell BK321.out 1).trans rfl,(blk_cell BK321.out 2).trans rfl,(blk_cell BK321.out 3).trans rfl⟩ (fun hHeld => ?_)
   clear hK K
   refine norm_ (a':=?_) ?_ ?_
   rotate_left
   ·
    show Act.put _ (some 20) _ = _
    simp only [Act.put,sA,sB,sC,i64_w,i32_w]
    rfl
   refine pure_ (i:=11) (N:=some 21) (v:=?_) (a':=?_) #[true,true,true,true,true,true,true,true,true,true,true,true,false] rfl rfl (any_of HT_.out (by kernel_rfl)) (fun _ _ _ h => h) (Or.inl ⟨by rfl,?_⟩) ?_ ?_
   rotate_left
   ·
    intro w'
    go_simp
    with_reducible rfl
   rotate_left
   ·
    simp only [Act.put,sA,sB,sC,i64_w,i32_w]
    rfl
   refine pure_ (i:=12) (N:=some 3) (v:=?_) (a':=?_) #[true,true,true,true,true,true,true,true,true,true,true,true,true] rfl rfl (any_of HT_.out (by kernel_rfl)) (fun _ _ _ h => h) (Or.inl ⟨by rfl,?_⟩) ?_ ?_
   rotate_left
   ·
    intro w'
    go_simp
    with_reducible rfl
   rotate_left
   ·
    simp only [Act.put,sA,sB,sC,i64_w,i32_w]
    rfl
   refine done_ (done_of HT_.out (by kernel_rfl)) ?_
   have hcz12_0 : w11.cell? ⟨gb321,0,none⟩ = some (.int .i64 a0_0):=(blk_cell BK321.out 0).trans rfl
   have hcz12_1 : w11.cell? ⟨gb321,1,none⟩ = some (.int .i64 a0_1):=(blk_cell BK321.out 1).trans rfl
   have hcz12_2 : w11.cell? ⟨gb321,2,none⟩ = some (.slice A0_2 l0_2.length c0_2):=(blk_cell BK321.out 2).trans rfl
   have hcz12_3 : w11.cell? ⟨gb321,3,none⟩ = some (.slice A0_3 l0_3.length c0_3):=(blk_cell BK321.out 3).trans rfl
   have hfz12_0:=sJ BK321.out 0
   have hfz12_1:=sJ BK321.out 1
   have hfz12_2:=sJ BK321.out 2
   have hfz12_3:=sJ BK321.out 3
   try go_wp2
   go_loopg [3,25] k (fun kq v3 v25 w' => ∃ (x3_1 : ByteArray) (x25_1 : Int),v3 = .string x3_1 ∧ v25 = .int .i64 x25_1 ∧ Aside0 (impl_tableText.l0 kq x3_1 l0_2 (l0_2.length : Int) x25_1 a0_0 a0_1 l0_2 l0_3 = some r) ∧ Aside0 (kq ≤ k) ∧ Aside0 (w'.heap[gb321]? = some (.cells #[.int .i64 a0_0,.int .i64 a0_1,(.slice A0_2 l0_2.length c0_2),(.slice A0_3 l0_3.length c0_3)] 32 (0,0))) ∧ Aside0 (Below w.heap.size w w'))
   case atStart => exact ⟨((t322 ++ t323) ++ t324),(0),(by first|rfl|(simp;done)|(simp [*];done)),(by first|rfl|(simp;done)|(simp [*];done)),H',⟨Nat.le_refl _⟩,⟨by (with_reducible repeat (first|apply qa9|apply qb9|apply qc9));exact BK321.out⟩,⟨by repeat (first|(with_reducible first|exact HB.out|apply qd9|apply qe9|apply qf9|refine qg9 ?_ GE321.out)|exact HB.out)⟩⟩
   case round =>
    clear H'
    try clear c1
    try clear p2
    try clear c3
    try clear c4
    try clear c4b0
    try clear c4b1
    try clear c4b2
    try clear c6
    try clear c6b0
    try clear c6b1
    try clear c6b2
    try clear hcz12_0
    try clear hcz12_1
    try clear hcz12_2
    try clear hcz12_3
    try clear hfz12_0
    try clear hfz12_1
    try clear hfz12_2
    try clear hfz12_3
    obtain ⟨x3_1,x25_1,rfl,rfl,HA,HK1,BK321,HB⟩:=hrel
    cases gk with
    | zero => exact absurd HA.out (by simp [impl_tableText.l0])
    | succ k1 =>
     have H:=HA.out
     clear HA
     simp only [impl_tableText.l0] at H
     by_cases c13 : x25_1 < (l0_2.length : Int)
     ·
      rw [if_pos c13] at H
      have c13b0 : decide (x25_1 < (l0_2.length : Int)) = true:=decide_eq_true c13
      clear c13
      by_cases c14 : 0 ≤ x25_1
      ·
       rw [if_pos c14] at H
       have c14b0 : decide (0 ≤ x25_1) = true:=decide_eq_true c14
       clear c14
       by_cases c15 : x25_1 < (l0_2.length : Int)
       ·
        rw [if_pos c15] at H
        have c15b0 : decide (x25_1 < (l0_2.length : Int)) = true:=decide_eq_true c15
        clear c15
        replace H:=Option.bind_eq_some_iff.mp H
        obtain ⟨t327,A160,H⟩:=H
        replace H : (if t327.size + ((rd_T55 l0_2 x25_1).f0).size ≤ 9223372036854775807 then ((impl_number.f k1 ((rd_T55 l0_2 x25_1).f1) 3).bind fun t328 => (if (t327 ++ ((rd_T55 l0_2 x25_1).f0)).size + t328.size ≤ 9223372036854775807 then ((impl_number.f k1 (wrap64 (((rd_T55 l0_2 x25_1).f2) + 1)) 2).bind fun t329 => (if ((t327 ++ ((rd_T55 l0_2 x25_1).f0)) ++ t328).size + t329.size ≤ 9223372036854775807 then ((impl_number.f k1 ((rd_T55 l0_2 x25_1).f3) 4).bind fun t330 => (if (((t327 ++ ((rd_T55 l0_2 x25_1).f0)) ++ t328) ++ t329).size + t330.size ≤ 9223372036854775807 then ((impl_number.f k1 (((rd_T55 l0_2 x25_1).f4).length : Int) 1).bind fun t331 => (if ((((t327 ++ ((rd_T55 l0_2 x25_1).f0)) ++ t328) ++ t329) ++ t330).size + t331.size ≤ 9223372036854775807 then (if x3_1.size + (((((t327 ++ ((rd_T55 l0_2 x25_1).f0)) ++ t328) ++ t329) ++ t330) ++ t331).size ≤ 9223372036854775807 then (impl_tableText.l1 k1 (x3_1 ++ (((((t327 ++ ((rd_T55 l0_2 x25_1).f0)) ++ t328) ++ t329) ++ t330) ++ t331)) l0_2 (l0_2.length : Int) x25_1 ((rd_T55 l0_2 x25_1).f4) (((rd_T55 l0_2 x25_1).f4).length : Int) 0 a0_0 a0_1 l0_2 l0_3) else (none)) else (none))) else (none))) else (none))) else (none))) else (none)) = some r:=H
        have A16:=qh9 A160
        clear A160
        by_cases c17 : t327.size + ((rd_T55 l0_2 x25_1).f0).size ≤ 9223372036854775807
        ·
         rw [if_pos c17] at H
         have c17b0:=eq_true c17
         have c17b1 : decide (t327.size + ((rd_T55 l0_2 x25_1).f0).size ≤ 9223372036854775807) = true:=decide_eq_true c17
         try have c17b2 : (9223372036854775807 < t327.size + ((rd_T55 l0_2 x25_1).f0).size) = False:=eq_false (Nat.not_lt.2 c17)
         replace H:=Option.bind_eq_some_iff.mp H
         obtain ⟨t328,A180,H⟩:=H
         replace H : (if (t327 ++ ((rd_T55 l0_2 x25_1).f0)).size + t328.size ≤ 9223372036854775807 then ((impl_number.f k1 (wrap64 (((rd_T55 l0_2 x25_1).f2) + 1)) 2).bind fun t329 => (if ((t327 ++ ((rd_T55 l0_2 x25_1).f0)) ++ t328).size + t329.size ≤ 9223372036854775807 then ((impl_number.f k1 ((rd_T55 l0_2 x25_1).f3) 4).bind fun t330 => (if (((t327 ++ ((rd_T55 l0_2 x25_1).f0)) ++ t328) ++ t329).size + t330.size ≤ 9223372036854775807 then ((impl_number.f k1 (((rd_T55 l0_2 x25_1).f4).length : Int) 1).bind fun t331 => (if ((((t327 ++ ((rd_T55 l0_2 x25_1).f0)) ++ t328) ++ t329) ++ t330).size + t331.size ≤ 9223372036854775807 then (if x3_1.size + (((((t327 ++ ((rd_T55 l0_2 x25_1).f0)) ++ t328) ++ t329) ++ t330) ++ t331).size ≤ 9223372036854775807 then (impl_tableText.l1 k1 (x3_1 ++ (((((t327 ++ ((rd_T55 l0_2 x25_1).f0)) ++ t328) ++ t329) ++ t330) ++ t331)) l0_2 (l0_2.length : Int) x25_1 ((rd_T55 l0_2 x25_1).f4) (((rd_T55 l0_2 x25_1).f4).length : Int) 0 a0_0 a0_1 l0_2 l0_3) else (none)) else (none))) else (none))) else (none))) else (none)) = some r:=H
         have A18:=qh9 A180
         clear A180
         by_cases c19 : (t327 ++ ((rd_T55 l0_2 x25_1).f0)).size + t328.size ≤ 9223372036854775807
         ·
          rw [if_pos c19] at H
          have c19b0:=eq_true c19
          have c19b1 : decide ((t327 ++ ((rd_T55 l0_2 x25_1).f0)).size + t328.size ≤ 9223372036854775807) = true:=decide_eq_true c19
          try have c19b2 : (9223372036854775807 < (t327 ++ ((rd_T55 l0_2 x25_1).f0)).size + t328.size) = False:=eq_false (Nat.not_lt.2 c19)
          (try (have c19b3:=c19;simp only [ByteArray.size_append] at c19b3;have c19b4:=eq_false (Nat.not_lt.2 c19b3)))
          replace H:=Option.bind_eq_some_iff.mp H
          obtain ⟨t329,A200,H⟩:=H
          replace H : (if ((t327 ++ ((rd_T55 l0_2 x25_1).f0)) ++ t328).size + t329.size ≤ 9223372036854775807 then ((impl_number.f k1 ((rd_T55 l0_2 x25_1).f3) 4).bind fun t330 => (if (((t327 ++ ((rd_T55 l0_2 x25_1).f0)) ++ t328) ++ t329).size + t330.size ≤ 9223372036854775807 then ((impl_number.f k1 (((rd_T55 l0_2 x25_1).f4).length : Int) 1).bind fun t331 => (if ((((t327 ++ ((rd_T55 l0_2 x25_1).f0)) ++ t328) ++ t329) ++ t330).size + t331.size ≤ 9223372036854775807 then (if x3_1.size + (((((t327 ++ ((rd_T55 l0_2 x25_1).f0)) ++ t328) ++ t329) ++ t330) ++ t331).size ≤ 9223372036854775807 then (impl_tableText.l1 k1 (x3_1 ++ (((((t327 ++ ((rd_T55 l0_2 x25_1).f0)) ++ t328) ++ t329) ++ t330) ++ t331)) l0_2 (l0_2.length : Int) x25_1 ((rd_T55 l0_2 x25_1).f4) (((rd_T55 l0_2 x25_1).f4).length : Int) 0 a0_0 a0_1 l0_2 l0_3) else (none)) else (none))) else (none))) else (none)) = some r:=H
          have A20:=qh9 A200
          clear A200
          by_cases c21 : ((t327 ++ ((rd_T55 l0_2 x25_1).f0)) ++ t328).size + t329.size ≤ 9223372036854775807
          ·
           rw [if_pos c21] at H
           have c21b0:=eq_true c21
           have c21b1 : decide (((t327 ++ ((rd_T55 l0_2 x25_1).f0)) ++ t328).size + t329.size ≤ 9223372036854775807) = true:=decide_eq_true c21
           try have c21b2 : (9223372036854775807 < ((t327 ++ ((rd_T55 l0_2 x25_1).f0)) ++ t328).size + t329.size) = False:=eq_false (Nat.not_lt.2 c21)
           (try (have c21b3:=c21;simp only [ByteArray.size_append] at c21b3;have c21b4:=eq_false (Nat.not_lt.2 c21b3)))
           replace H:=Option.bind_eq_some_iff.mp H
           obtain ⟨t330,A220,H⟩:=H
           replace H : (if (((t327 ++ ((rd_T55 l0_2 x25_1).f0)) ++ t328) ++ t329).size + t330.size ≤ 9223372036854775807 then ((impl_number.f k1 (((rd_T55 l0_2 x25_1).f4).length : Int) 1).bind fun t331 => (if ((((t327 ++ ((rd_T55 l0_2 x25_1).f0)) ++ t328) ++ t329) ++ t330).size + t331.size ≤ 9223372036854775807 then (if x3_1.size + (((((t327 ++ ((rd_T55 l0_2 x25_1).f0)) ++ t328) ++ t329) ++ t330) ++ t331).size ≤ 9223372036854775807 then (impl_tableText.l1 k1 (x3_1 ++ (((((t327 ++ ((rd_T55 l0_2 x25_1).f0)) ++ t328) ++ t329) ++ t330) ++ t331)) l0_2 (l0_2.length : Int) x25_1 ((rd_T55 l0_2 x25_1).f4) (((rd_T55 l0_2 x25_1).f4).length : Int) 0 a0_0 a0_1 l0_2 l0_3) else (none)) else (none))) else (none)) = some r:=H
           have A22:=qh9 A220
           clear A220
           by_cases c23 : (((t327 ++ ((rd_T55 l0_2 x25_1).f0)) ++ t328) ++ t329).size + t330.size ≤ 9223372036854775807
           ·
            rw [if_pos c23] at H
            have c23b0:=eq_true c23
            have c23b1 : decide ((((t327 ++ ((rd_T55 l0_2 x25_1).f0)) ++ t328) ++ t329).size + t330.size ≤ 9223372036854775807) = true:=decide_eq_true c23
            try have c23b2 : (9223372036854775807 < (((t327 ++ ((rd_T55 l0_2 x25_1).f0)) ++ t328) ++ t329).size + t330.size) = False:=eq_false (Nat.not_lt.2 c23)
            (try (have c23b3:=c23;simp only [ByteArray.size_append] at c23b3;have c23b4:=eq_false (Nat.not_lt.2 c23b3)))
            replace H:=Option.bind_eq_some_iff.mp H
            obtain ⟨t331,A240,H⟩:=H
            replace H : (if ((((t327 ++ ((rd_T55 l0_2 x25_1).f0)) ++ t328) ++ t329) ++ t330).size + t331.size ≤ 9223372036854775807 then (if x3_1.size + (((((t327 ++ ((rd_T55 l0_2 x25_1).f0)) ++ t328) ++ t329) ++ t330) ++ t331).size ≤ 9223372036854775807 then (impl_tableText.l1 k1 (x3_1 ++ (((((t327 ++ ((rd_T55 l0_2 x25_1).f0)) ++ t328) ++ t329) ++ t330) ++ t331)) l0_2 (l0_2.length : Int) x25_1 ((rd_T55 l0_2 x25_1).f4) (((rd_T55 l0_2 x25_1).f4).length : Int) 0 a0_0 a0_1 l0_2 l0_3) else (none)) else (none)) = some r:=H
            have A24:=qh9 A240
            clear A240
            by_cases c25 : ((((t327 ++ ((rd_T55 l0_2 x25_1).f0)) ++ t328) ++ t329) ++ t330).size + t331.size ≤ 9223372036854775807
            ·
             rw [if_pos c25] at H
             have c25b0:=eq_true c25
             have c25b1 : decide (((((t327 ++ ((rd_T55 l0_2 x25_1).f0)) ++ t328) ++ t329) ++ t330).size + t331.size ≤ 9223372036854775807) = true:=decide_eq_true c25
             try have c25b2 : (9223372036854775807 < ((((t327 ++ ((rd_T55 l0_2 x25_1).f0)) ++ t328) ++ t329) ++ t330).size + t331.size) = False:=eq_false (Nat.not_lt.2 c25)
             (try (have c25b3:=c25;simp only [ByteArray.size_append] at c25b3;have c25b4:=eq_false (Nat.not_lt.2 c25b3)))
             by_cases c26 : x3_1.size + (((((t327 ++ ((rd_T55 l0_2 x25_1).f0)) ++ t328) ++ t329) ++ t330) ++ t331).size ≤ 9223372036854775807
             ·
              rw [if_pos c26] at H
              have c26b0:=eq_true c26
              have c26b1 : decide (x3_1.size + (((((t327 ++ ((rd_T55 l0_2 x25_1).f0)) ++ t328) ++ t329) ++ t330) ++ t331).size ≤ 9223372036854775807) = true:=decide_eq_true c26
              try have c26b2 : (9223372036854775807 < x3_1.size + (((((t327 ++ ((rd_T55 l0_2 x25_1).f0)) ++ t328) ++ t329) ++ t330) ++ t331).size) = False:=eq_false (Nat.not_lt.2 c26)
              (try (have c26b3:=c26;simp only [ByteArray.size_append] at c26b3;have c26b4:=eq_false (Nat.not_lt.2 c26b3)))
              have H':=qh9 H
              clear H
              have p325 : 0 ≤ (x25_1 : Int):=sM (by first|(with_reducible assumption)|assumption)
              have q325 : x25_1 < (l0_2.length : Int):=sM (by first|(with_reducible assumption)|assumption)
              obtain ⟨ad325,A325_4,c325_4,e325,hx325_0,hx325_1,hx325_2,hx325_3,hx325_4,hl325_4,hi325_4⟩:=at_T55 HR0_2.out x25_1 p325 q325
              cases e325
              replace hx325_0:=(HB.out.cell (sD w _ hx325_0)).trans hx325_0
              replace hx325_1:=(HB.out.cell (sD w _ hx325_1)).trans hx325_1
              replace hx325_2:=(HB.out.cell (sD w _ hx325_2)).trans hx325_2
              replace hx325_3:=(HB.out.cell (sD w _ hx325_3)).trans hx325_3
              replace hx325_4:=(HB.out.cell (sD w _ hx325_4)).trans hx325_4
              have HR325_4:=qh9 hi325_4
              have HC325_4:=qh9 hl325_4
              clear hi325_4 hl325_4
              replace p325:=eq_true p325
              replace q325:=eq_true q325
              try go_wp2_with (first|((with_reducible refine gate_dst (N:=5) rfl ?_);refine box_event ?hg (N:=5) ?hd (cs:=#[.string (⟨#[]⟩ : ByteArray),.int .i64 0,.int .i64 0,.int .i64 0,.slice none 0 0]) (t:=55) ?hr ?_;(case hd => rfl);(case hg => rfl);(case hr => first|(go_simp;done)|(go_simp;rfl));intro gb326 hg w27 hbox hb;have n0_:=qh9 (qi9 (g:=gb321) (o:=.cells #[.int .i64 a0_0,.int .i64 a0_1,.slice (some ad325) l0_2.length c0_2,.slice A0_3 l0_3.length c0_3] 32 (0,0)) (by (with_reducible repeat (first|apply qa9|apply qb9|apply qc9));exact BK321.out) hb);have n1_:=qh9 (sN (by repeat (first|(with_reducible first|exact HB.out|apply qd9|apply qe9|apply qf9|refine qg9 ?_ GE321.out)|exact HB.out)) hb);have n2_:=qh9 (hbox);have n3_:=qh9 ((by rw [hg];exact (below_size (by repeat (first|(with_reducible first|exact HB.out|apply qd9|apply qe9|apply qf9|refine qg9 ?_ GE321.out)|exact HB.out))) : w.heap.size ≤ gb326));have n4_:=qh9 ((by rw [hg];exact (below_size (by repeat (first|(with_reducible first|exact HB.out|apply qd9|apply qe9|apply qf9|refine qg9 ?_ GE321.out)|exact HB.out))) : w.heap.size ≤ gb326));have n5_:=qh9 ((by rw [hg];exact Nat.ne_of_lt (blk_lt (g:=gb321) (o:=.cells #[.int .i64 a0_0,.int .i64 a0_1,.slice (some ad325) l0_2.length c0_2,.slice A0_3 l0_3.length c0_3] 32 (0,0)) (by (with_reducible repeat (first|apply qa9|apply qb9|apply qc9));exact BK321.out)) : gb321 ≠ gb326));have n6_:=qh9 ((by rw [hg];exact Nat.ne_of_gt (blk_lt (g:=gb321) (o:=.cells #[.int .i64 a0_0,.int .i64 a0_1,.slice (some ad325) l0_2.length c0_2,.slice A0_3 l0_3.length c0_3] 32 (0,0)) (by (with_reducible repeat (first|apply qa9|apply qb9|apply qc9));exact BK321.out)) : gb326 ≠ gb321));clear BK321;clear HB;have BK321:=n0_;have HB:=n1_;have BK326:=n2_;have GW326:=n3_;have GE326:=n4_;have NB321_326:=n5_;have NB326_321:=n6_;clear n0_ n1_ n2_ n3_ n4_ n5_ n6_;clear hb hbox hg;have hnb28:=NB326_321.out;have hnc28:=NB321_326.out;have hcz29_0 : w27.cell? ⟨gb326,0,none⟩ = some (.string (⟨#[]⟩ : ByteArray)):=(blk_cell BK326.out 0).trans rfl;have hcz29_1 : w27.cell? ⟨gb326,1,none⟩ = some (.int .i64 0):=(blk_cell BK326.out 1).trans rfl;have hcz29_2 : w27.cell? ⟨gb326,2,none⟩ = some (.int .i64 0):=(blk_cell BK326.out 2).trans rfl;have hcz29_3 : w27.cell? ⟨gb326,3,none⟩ = some (.int .i64 0):=(blk_cell BK326.out 3).trans rfl;have hcz29_4 : w27.cell? ⟨gb326,4,none⟩ = some (.slice none 0 0):=(blk_cell BK326.out 4).trans rfl;have hfz29_0:=sJ BK326.out 0;have hfz29_1:=sJ BK326.out 1;have hfz29_2:=sJ BK326.out 2;have hfz29_3:=sJ BK326.out 3;have hfz29_4:=sJ BK326.out 4))
              have n0_ : Aside0 ((((((w27.setCell ⟨gb326,0,none⟩ (.string ((rd_T55 l0_2 x25_1).f0))).setCell ⟨gb326,1,none⟩ (.int .i64 ((rd_T55 l0_2 x25_1).f1))).setCell ⟨gb326,2,none⟩ (.int .i64 ((rd_T55 l0_2 x25_1).f2))).setCell ⟨gb326,3,none⟩ (.int .i64 ((rd_T55 l0_2 x25_1).f3))).setCell ⟨gb326,4,none⟩ (.slice A325_4 ((rd_T55 l0_2 x25_1).f4).length c325_4)).heap[gb321]? = some (.cells #[.int .i64 a0_0,.int .i64 a0_1,.slice (some ad325) l0_2.length c0_2,.slice A0_3 l0_3.length c0_3] 32 (0,0))):=⟨by (with_reducible repeat (first|apply qa9|apply qb9|apply qc9));refine blk_far ?_ NB321_326.out _;(with_reducible repeat (first|apply qa9|apply qb9|apply qc9));refine blk_far ?_ NB321_326.out _;(with_reducible repeat (first|apply qa9|apply qb9|apply qc9));refine blk_far ?_ NB321_326.out _;(with_reducible repeat (first|apply qa9|apply qb9|apply qc9));refine blk_far ?_ NB321_326.out _;(with_reducible repeat (first|apply qa9|apply qb9|apply qc9));refine blk_far ?_ NB321_326.out _;(with_reducible repeat (first|apply qa9|apply qb9|apply qc9));exact BK321.out⟩
              have n1_ : Aside0 ((((((w27.setCell ⟨gb326,0,none⟩ (.string ((rd_T55 l0_2 x25_1).f0))).setCell ⟨gb326,1,none⟩ (.int .i64 ((rd_T55 l0_2 x25_1).f1))).setCell ⟨gb326,2,none⟩ (.int .i64 ((rd_T55 l0_2 x25_1).f2))).setCell ⟨gb326,3,none⟩ (.int .i64 ((rd_T55 l0_2 x25_1).f3))).setCell ⟨gb326,4,none⟩ (.slice A325_4 ((rd_T55 l0_2 x25_1).f4).length c325_4)).heap[gb326]? = some (.cells #[.string ((rd_T55 l0_2 x25_1).f0),.int .i64 ((rd_T55 l0_2 x25_1).f1),.int .i64 ((rd_T55 l0_2 x25_1).f2),.int .i64 ((rd_T55 l0_2 x25_1).f3),.slice A325_4 ((rd_T55 l0_2 x25_1).f4).length c325_4] 55 (0,0))):=⟨by (with_reducible repeat (first|apply qa9|apply qb9|apply qc9));refine blk_put (cs:=#[.string ((rd_T55 l0_2 x25_1).f0),.int .i64 ((rd_T55 l0_2 x25_1).f1),.int .i64 ((rd_T55 l0_2 x25_1).f2),.int .i64 ((rd_T55 l0_2 x25_1).f3),.slice none 0 0]) ?_ 4 _ rfl;(with_reducible repeat (first|apply qa9|apply qb9|apply qc9));refine blk_put (cs:=#[.string ((rd_T55 l0_2 x25_1).f0),.int .i64 ((rd_T55 l0_2 x25_1).f1),.int .i64 ((rd_T55 l0_2 x25_1).f2),.int .i64 0,.slice none 0 0]) ?_ 3 _ rfl;(with_reducible repeat (first|apply qa9|apply qb9|apply qc9));refine blk_put (cs:=#[.string ((rd_T55 l0_2 x25_1).f0),.int .i64 ((rd_T55 l0_2 x25_1).f1),.int .i64 0,.int .i64 0,.slice none 0 0]) ?_ 2 _ rfl;(with_reducible repeat (first|apply qa9|apply qb9|apply qc9));refine blk_put (cs:=#[.string ((rd_T55 l0_2 x25_1).f0),.int .i64 0,.int .i64 0,.int .i64 0,.slice none 0 0]) ?_ 1 _ rfl;(with_reducible repeat (first|apply qa9|apply qb9|apply qc9));refine blk_put (cs:=#[.string (⟨#[]⟩ : ByteArray),.int .i64 0,.int .i64 0,.int .i64 0,.slice none 0 0]) ?_ 0 _ rfl;(with_reducible repeat (first|apply qa9|apply qb9|apply qc9));exact BK326.out⟩
              have n2_ : Aside0 (Below w.heap.size w (((((w27.setCell ⟨gb326,0,none⟩ (.string ((rd_T55 l0_2 x25_1).f0))).setCell ⟨gb326,1,none⟩ (.int .i64 ((rd_T55 l0_2 x25_1).f1))).setCell ⟨gb326,2,none⟩ (.int .i64 ((rd_T55 l0_2 x25_1).f2))).setCell ⟨gb326,3,none⟩ (.int .i64 ((rd_T55 l0_2 x25_1).f3))).setCell ⟨gb326,4,none⟩ (.slice A325_4 ((rd_T55 l0_2 x25_1).f4).length c325_4))):=⟨by repeat (first|(with_reducible first|exact HB.out|apply qd9|apply qe9|apply qf9|refine qg9 ?_ GE321.out|refine qg9 ?_ GE326.out)|exact HB.out)⟩
              (try clear BK321)
              (try clear BK326)
              (try clear HB)
              generalize (((((w27.setCell ⟨gb326,0,none⟩ (.string ((rd_T55 l0_2 x25_1).f0))).setCell ⟨gb326,1,none⟩ (.int .i64 ((rd_T55 l0_2 x25_1).f1))).setCell ⟨gb326,2,none⟩ (.int .i64 ((rd_T55 l0_2 x25_1).f2))).setCell ⟨gb326,3,none⟩ (.int .i64 ((rd_T55 l0_2 x25_1).f3))).setCell ⟨gb326,4,none⟩ (.slice A325_4 ((rd_T55 l0_2 x25_1).f4).length c325_4)) = w30 at n0_ n1_ n2_ ⊢
              have BK321:=n0_
              have BK326:=n1_
              have HB:=n2_
              clear n0_ n1_ n2_
              have n0_:=qh9 (qb9 BK321.out)
              have n1_:=qh9 (qb9 BK326.out)
              have n2_:=qh9 (qf9 HB.out)
              clear BK321
              clear BK326
              clear HB
              have BK321:=n0_
              have BK326:=n1_
              have HB:=n2_
              clear n0_ n1_ n2_
              refine start_ (n:=28) (S:=fun w' => w'.cell? ⟨gb326,0,none⟩ = some (.string ((rd_T55 l0_2 x25_1).f0)) ∧ w'.cell? ⟨gb326,1,none⟩ = some (.int .i64 ((rd_T55 l0_2 x25_1).f1)) ∧ w'.cell? ⟨gb326,2,none⟩ = some (.int .i64 ((rd_T55 l0_2 x25_1).f2)) ∧ w'.cell? ⟨gb326,3,none⟩ = some (.int .i64 ((rd_T55 l0_2 x25_1).f3)) ∧ w'.cell? ⟨gb326,4,none⟩ = some (.slice A325_4 ((rd_T55 l0_2 x25_1).f4).length c325_4)) (ds:=[]) #[false,false,false,false,false,false,false,false,false,false,false,false,false,false,false,false,false,false,false,false,false,false,false,false,false,false,false,false] (by kernel_rfl) rfl rfl ⟨(blk_cell BK326.out 0).trans rfl,(blk_cell BK326.out 1).trans rfl,(blk_cell BK326.out 2).trans rfl,(blk_cell BK326.out 3).trans rfl,(blk_cell BK326.out 4).trans rfl⟩ (fun hHeld => ?_);refine with_tabW impl_tableText.tab5 impl_tableText.bits5 (fun HT_ HW_ => ?_)
              generalize w30.drew = w31 at BK321 BK326 HB hHeld ⊢
              refine pure_ (i:=0) (N:=some 29) (v:=?_) (a':=?_) #[true,false,false,false,false,false,false,false,false,false,false,false,false,false,false,false,false,false,false,false,false,false,false,false,false,false,false,false] rfl rfl (any_of HT_.out (by kernel_rfl)) (fun _ _ _ h => h) (Or.inl ⟨by rfl,?_⟩) ?_ ?_
              rotate_left
              ·
               intro w'
               go_simp
               with_reducible rfl
              rotate_left
              ·
               simp only [Act.put,sA,sB,sC,i64_w,i32_w]
               rfl
              refine pure_ (i:=1) (N:=some 30) (v:=?_) (a':=?_) #[true,true,false,false,false,false,false,false,false,false,false,false,false,false,false,false,false,false,false,false,false,false,false,false,false,false,false,false] rfl rfl (any_of HT_.out (by kernel_rfl)) (fun _ _ _ h => h) (Or.inl ⟨by rfl,?_⟩) ?_ ?_
              rotate_left
              ·
               intro w'
               go_simp
               with_reducible rfl
              rotate_left
              ·
               simp only [Act.put,sA,sB,sC,i64_w,i32_w]
               rfl
              refine pure_ (i:=5) (N:=some 34) (v:=?_) (a':=?_) #[true,true,false,false,false,true,false,false,false,false,false,false,false,false,false,false,false,false,false,false,false,false,false,false,false,false,false,false] rfl rfl (any_of HT_.out (by kernel_rfl)) (fun _ _ _ h => h) (Or.inl ⟨by rfl,?_⟩) ?_ ?_
              rotate_left
              ·
               intro w'
               go_simp
               with_reducible rfl
              rotate_left
              ·
               simp only [Act.put,sA,sB,sC,i64_w,i32_w]
               rfl
              refine pure_ (i:=8) (N:=some 37) (v:=?_) (a':=?_) #[true,true,false,false,false,true,false,false,true,false,false,false,false,false,false,false,false,false,false,false,false,false,false,false,false,false,false,false] rfl rfl (any_of HT_.out (by kernel_rfl)) (fun _ _ _ h => h) (Or.inl ⟨by rfl,?_⟩) ?_ ?_
              rotate_left
              ·
               intro w'
               go_simp
               with_reducible rfl
              rotate_left
              ·
               simp only [Act.put,sA,sB,sC,i64_w,i32_w]
               rfl
              refine pure_ (i:=12) (N:=some 41) (v:=?_) (a':=?_) #[true,true,false,false,false,true,false,false,true,false,false,false,true,false,false,false,false,false,false,false,false,false,false,false,false,false,false,false] rfl rfl (any_of HT_.out (by kernel_rfl)) (fun _ _ _ h => h) (Or.inl ⟨by rfl,?_⟩) ?_ ?_
              rotate_left
              ·
               intro w'
               go_simp
               with_reducible rfl
              rotate_left
              ·
               simp only [Act.put,sA,sB,sC,i64_w,i32_w]
               rfl
              refine pure_ (i:=17) (N:=some 46) (v:=?_) (a':=?_) #[true,true,false,false,false,true,false,false,true,false,false,false,true,false,false,false,false,true,false,false,false,false,false,false,false,false,false,false] rfl rfl (any_of HT_.out (by kernel_rfl)) (fun _ _ _ h => h) (Or.inl ⟨by rfl,?_⟩) ?_ ?_
              rotate_left
              ·
               intro w'
               go_simp
               with_reducible rfl
              rotate_left
              ·
               simp only [Act.put,sA,sB,sC,i64_w,i32_w]
               rfl
              refine pure_ (i:=21) (N:=some 50) (v:=?_) (a':=?_) #[true,true,false,false,false,true,false,false,true,false,false,false,true,false,false,false,false,true,false,false,false,true,false,false,false,false,false,false] rfl rfl (any_of HT_.out (by kernel_rfl)) (fun _ _ _ h => h) (Or.inl ⟨by rfl,?_⟩) ?_ ?_
              rotate_left
              ·
               intro w'
               go_simp
               with_reducible rfl
              rotate_left
              ·
               simp only [Act.put,sA,sB,sC,i64_w,i32_w]
               rfl
              refine take_ (i:=2) (N:=some 31) (v:=?_) (a':=?_) #[true,true,true,false,false,true,false,false,true,false,false,false,true,false,false,false,false,true,false,false,false,true,false,false,false,false,false,false] rfl rfl (take_ofW HT_.out HW_.out (by kernel_rfl)) (fun _ _ _ h => h) (Or.inl ⟨by rfl,?_⟩) hHeld ?_ ?_
              rotate_left
              ·
               rintro w' ⟨s0,s1,s2,s3,s4⟩
               go_simp
               with_reducible rfl
              rotate_left
              ·
               simp only [Act.put,sA,sB,sC,i64_w,i32_w]
               rfl
              refine pure_ (i:=3) (N:=some 32) (v:=?_) (a':=?_) #[true,true,true,true,false,true,false,false,true,false,false,false,true,false,false,false,false,true,false,false,false,true,false,false,false,false,false,false] rfl rfl (any_of HT_.out (by kernel_rfl)) (fun _ _ _ h => h) (Or.inl ⟨by rfl,?_⟩) ?_ ?_
              rotate_left
              ·
               intro w'
               go_simp
               with_reducible rfl
              rotate_left
              ·
               simp only [Act.put,sA,sB,sC,i64_w,i32_w]
               rfl
              refine take_ (i:=6) (N:=some 35) (v:=?_) (a':=?_) #[true,true,true,true,false,true,true,false,true,false,false,false,true,false,false,false,false,true,false,false,false,true,false,false,false,false,false,false] rfl rfl (take_ofW HT_.out HW_.out (by kernel_rfl)) (fun _ _ _ h => h) (Or.inl ⟨by rfl,?_⟩) hHeld ?_ ?_
              rotate_left
              ·
               rintro w' ⟨s0,s1,s2,s3,s4⟩
               go_simp
               with_reducible rfl
              rotate_left
              ·
               simp only [Act.put,sA,sB,sC,i64_w,i32_w]
               rfl
              refine take_ (i:=9) (N:=some 38) (v:=?_) (a':=?_) #[true,true,true,true,false,true,true,false,true,true,false,false,true,false,false,false,false,true,false,false,false,true,false,false,false,false,false,false] rfl rfl (take_ofW HT_.out HW_.out (by kernel_rfl)) (fun _ _ _ h => h) (Or.inl ⟨by rfl,?_⟩) hHeld ?_ ?_
              rotate_left
              ·
               rintro w' ⟨s0,s1,s2,s3,s4⟩
               go_simp
               with_reducible rfl
              rotate_left
              ·
               simp only [Act.put,sA,sB,sC,i64_w,i32_w]
               rfl
              refine take_ (i:=13) (N:=some 42) (v:=?_) (a':=?_) #[true,true,true,true,false,true,true,false,true,true,false,false,true,true,false,false,false,true,false,false,false,true,false,false,false,false,false,false] rfl rfl (take_ofW HT_.out HW_.out (by kernel_rfl)) (fun _ _ _ h => h) (Or.inl ⟨by rfl,?_⟩) hHeld ?_ ?_
              rotate_left
              ·
               rintro w' ⟨s0,s1,s2,s3,s4⟩
               go_simp
               with_reducible rfl
              rotate_left
              ·
               simp only [Act.put,sA,sB,sC,i64_w,i32_w]
               rfl
              refine pure_ (i:=14) (N:=some 43) (v:=?_) (a':=?_) #[true,true,true,true,false,true,true,false,true,true,false,false,true,true,true,false,false,true,false,false,false,true,false,false,false,false,false,false] rfl rfl (any_of HT_.out (by kernel_rfl)) (fun _ _ _ h => h) (Or.inl ⟨by rfl,?_⟩) ?_ ?_
              rotate_left
              ·
               intro w'
               go_simp
               with_reducible rfl
              rotate_left
              ·
               simp only [Act.put,sA,sB,sC,i64_w,i32_w]
               rfl
              refine take_ (i:=18) (N:=some 47) (v:=?_) (a':=?_) #[true,true,true,true,false,true,true,false,true,true,false,false,true,true,true,false,false,true,true,false,false,true,false,false,false,false,false,false] rfl rfl (take_ofW HT_.out HW_.out (by kernel_rfl)) (fun _ _ _ h => h) (Or.inl ⟨by rfl,?_⟩) hHeld ?_ ?_
              rotate_left
              ·
               rintro w' ⟨s0,s1,s2,s3,s4⟩
               go_simp
               with_reducible rfl
              rotate_left
              ·
               simp only [Act.put,sA,sB,sC,i64_w,i32_w]
               rfl
              refine take_ (i:=22) (N:=some 51) (v:=?_) (a':=?_) #[true,true,true,true,false,true,true,false,true,true,false,false,true,true,true,false,false,true,true,false,false,true,true,false,false,false,false,false] rfl rfl (take_ofW HT_.out HW_.out (by kernel_rfl)) (fun _ _ _ h => h) (Or.inl ⟨by rfl,?_⟩) hHeld ?_ ?_
              rotate_left
              ·
               rintro w' ⟨s0,s1,s2,s3,s4⟩
               go_simp
               with_reducible rfl
              rotate_left
              ·
               simp only [Act.put,sA,sB,sC,i64_w,i32_w]
               rfl
              refine pure_ (i:=23) (N:=some 52) (v:=?_) (a':=?_) #[true,true,true,true,false,true,true,false,true,true,false,false,true,true,true,false,false,true,true,false,false,true,true,true,false,false,false,false] rfl rfl (any_of HT_.out (by kernel_rfl)) (fun _ _ _ h => h) (Or.inl ⟨by rfl,?_⟩) ?_ ?_
              rotate_left
              ·
               intro w'
               go_simp
               with_reducible rfl
              rotate_left
              ·
               simp only [Act.put,sA,sB,sC,i64_w,i32_w]
               rfl
              refine one_ (i:=4) (N:=some 33) #[true,true,true,true,true,true,true,false,true,true,false,false,true,true,true,false,false,true,true,false,false,true,true,true,false,false,false,false] rfl rfl (one_of HT_.out (by kernel_rfl)) (by decide) (fun K hK => ?_)
              refine goes_ Tryd.func33 (by kernel_rfl) rfl #[.int .i64 (((rd_T55 l0_2 x25_1).f0).size : Int),.int .i64 1] (by rfl) rfl rfl (by (try simp only [sE,sH,sI]);first|done|rfl|(simp only [sG,sF];rfl)) ?_
              with_reducible refine (impl_number.calls k1 (((rd_T55 l0_2 x25_1).f0).size : Int) 1 t327 _ A16.out).mono ?_
              rintro e w32 ⟨rfl,hb⟩
              refine ⟨_,rfl,?_⟩
              have n0_:=qh9 (qi9 (g:=gb321) (o:=.cells #[.int .i64 a0_0,.int .i64 a0_1,.slice (some ad325) l0_2.length c0_2,.slice A0_3 l0_3.length c0_3] 32 (0,0)) (by (with_reducible repeat (first|apply qa9|apply qb9|apply qc9));exact BK321.out) hb)
              have n1_:=qh9 (qi9 (g:=gb326) (o:=.cells #[.string ((rd_T55 l0_2 x25_1).f0),.int .i64 ((rd_T55 l0_2 x25_1).f1),.int .i64 ((rd_T55 l0_2 x25_1).f2),.int .i64 ((rd_T55 l0_2 x25_1).f3),.slice A325_4 ((rd_T55 l0_2 x25_1).f4).length c325_4] 55 (0,0)) (by (with_reducible repeat (first|apply qa9|apply qb9|apply qc9));exact BK326.out) hb)
              have n2_:=qh9 (sN (by repeat (first|(with_reducible first|exact HB.out|apply qd9|apply qe9|apply qf9|refine qg9 ?_ GE321.out|refine qg9 ?_ GE326.out)|exact HB.out)) hb)
              clear BK321
              clear BK326
              clear HB
              have BK321:=n0_
              have BK326:=n1_
              have HB:=n2_
              clear n0_ n1_ n2_
              (try clear hb)
              (try clear hb2)
              (try clear hk)
              (try clear hi)
              refine hK.out _ _ ⟨(blk_cell BK326.out 0).trans rfl,(blk_cell BK326.out 1).trans rfl,(blk_cell BK326.out 2).trans rfl,(blk_cell BK326.out 3).trans rfl,(blk_cell BK326.out 4).trans rfl⟩ (fun hHeld => ?_)
              clear hK K
              refine norm_ (a':=?_) ?_ ?_
              rotate_left
              ·
               show Act.put _ (some 33) _ = _
               simp only [Act.put,sA,sB,sC,i64_w,i32_w]
               rfl
              refine pure_ (i:=7) (N:=some 36) (v:=?_) (a':=?_) #[true,true,true,true,true,true,true,true,true,true,false,false,true,true,true,false,false,true,true,false,false,true,true,true,false,false,false,false] rfl rfl (any_of HT_.out (by kernel_rfl)) (fun _ _ _ h => h) (Or.inl ⟨by rfl,?_⟩) ?_ ?_
              rotate_left
              ·
               intro w'
               go_simp
               with_reducible rfl
              rotate_left
              ·
               simp only [Act.put,sA,sB,sC,i64_w,i32_w]
               rfl
              refine one_ (i:=10) (N:=some 39) #[true,true,true,true,true,true,true,true,true,true,true,false,true,true,true,false,false,true,true,false,false,true,true,true,false,false,false,false] rfl rfl (one_of HT_.out (by kernel_rfl)) (by decide) (fun K hK => ?_)
              refine goes_ Tryd.func33 (by kernel_rfl) rfl #[.int .i64 ((rd_T55 l0_2 x25_1).f1),.int .i64 3] (by rfl) rfl rfl (by (try simp only [sE,sH,sI]);first|done|rfl|(simp only [sG,sF];rfl)) ?_
              with_reducible refine (impl_number.calls k1 ((rd_T55 l0_2 x25_1).f1) 3 t328 _ A18.out).mono ?_
              rintro e w33 ⟨rfl,hb⟩
              refine ⟨_,rfl,?_⟩
              have n0_:=qh9 (qi9 (g:=gb321) (o:=.cells #[.int .i64 a0_0,.int .i64 a0_1,.slice (some ad325) l0_2.length c0_2,.slice A0_3 l0_3.length c0_3] 32 (0,0)) (by (with_reducible repeat (first|apply qa9|apply qb9|apply qc9));exact BK321.out) hb)
              have n1_:=qh9 (qi9 (g:=gb326) (o:=.cells #[.string ((rd_T55 l0_2 x25_1).f0),.int .i64 ((rd_T55 l0_2 x25_1).f1),.int .i64 ((rd_T55 l0_2 x25_1).f2),.int .i64 ((rd_T55 l0_2 x25_1).f3),.slice A325_4 ((rd_T55 l0_2 x25_1).f4).length c325_4] 55 (0,0)) (by (with_reducible repeat (first|apply qa9|apply qb9|apply qc9));exact BK326.out) hb)
              have n2_:=qh9 (sN (by repeat (first|(with_reducible first|exact HB.out|apply qd9|apply qe9|apply qf9|refine qg9 ?_ GE321.out|refine qg9 ?_ GE326.out)|exact HB.out)) hb)
              clear BK321
              clear BK326
              clear HB
              have BK321:=n0_
              have BK326:=n1_
              have HB:=n2_
              clear n0_ n1_ n2_
              (try clear hb)
              (try clear hb2)
              (try clear hk)
              (try clear hi)
              refine hK.out _ _ ⟨(blk_cell BK326.out 0).trans rfl,(blk_cell BK326.out 1).trans rfl,(blk_cell BK326.out 2).trans rfl,(blk_cell BK326.out 3).trans rfl,(blk_cell BK326.out 4).trans rfl⟩ (fun hHeld => ?_)
              clear hK K
              refine norm_ (a':=?_) ?_ ?_
              rotate_left
              ·
               show Act.put _ (some 39) _ = _
               simp only [Act.put,sA,sB,sC,i64_w,i32_w]
               rfl
              refine pure_ (i:=11) (N:=some 40) (v:=?_) (a':=?_) #[true,true,true,true,true,true,true,true,true,true,true,true,true,true,true,false,false,true,true,false,false,true,true,true,false,false,false,false] rfl rfl (any_of HT_.out (by kernel_rfl)) (fun _ _ _ h => h) (Or.inl ⟨by rfl,?_⟩) ?_ ?_
              rotate_left
              ·
               intro w'
               go_simp
               with_reducible rfl
              rotate_left
              ·
               simp only [Act.put,sA,sB,sC,i64_w,i32_w]
               rfl
              refine one_ (i:=15) (N:=some 44) #[true,true,true,true,true,true,true,true,true,true,true,true,true,true,true,true,false,true,true,false,false,true,true,true,false,false,false,false] rfl rfl (one_of HT_.out (by kernel_rfl)) (by decide) (fun K hK => ?_)
              refine goes_ Tryd.func33 (by kernel_rfl) rfl #[.int .i64 (wrap64 (((rd_T55 l0_2 x25_1).f2) + 1)),.int .i64 2] (by rfl) rfl rfl (by (try simp only [sE,sH,sI]);first|done|rfl|(simp only [sG,sF];rfl)) ?_
              with_reducible refine (impl_number.calls k1 (wrap64 (((rd_T55 l0_2 x25_1).f2) + 1)) 2 t329 _ A20.out).mono ?_
              rintro e w34 ⟨rfl,hb⟩
              refine ⟨_,rfl,?_⟩
              have n0_:=qh9 (qi9 (g:=gb321) (o:=.cells #[.int .i64 a0_0,.int .i64 a0_1,.slice (some ad325) l0_2.length c0_2,.slice A0_3 l0_3.length c0_3] 32 (0,0)) (by (with_reducible repeat (first|apply qa9|apply qb9|apply qc9));exact BK321.out) hb)
              have n1_:=qh9 (qi9 (g:=gb326) (o:=.cells #[.string ((rd_T55 l0_2 x25_1).f0),.int .i64 ((rd_T55 l0_2 x25_1).f1),.int .i64 ((rd_T55 l0_2 x25_1).f2),.int .i64 ((rd_T55 l0_2 x25_1).f3),.slice A325_4 ((rd_T55 l0_2 x25_1).f4).length c325_4] 55 (0,0)) (by (with_reducible repeat (first|apply qa9|apply qb9|apply qc9));exact BK326.out) hb)
              have n2_:=qh9 (sN (by repeat (first|(with_reducible first|exact HB.out|apply qd9|apply qe9|apply qf9|refine qg9 ?_ GE321.out|refine qg9 ?_ GE326.out)|exact HB.out)) hb)
              clear BK321
              clear BK326
              clear HB
              have BK321:=n0_
              have BK326:=n1_
              have HB:=n2_
              clear n0_ n1_ n2_
              (try clear hb)
              (try clear hb2)
              (try clear hk)
              (try clear hi)
              refine hK.out _ _ ⟨(blk_cell BK326.out 0).trans rfl,(blk_cell BK326.out 1).trans rfl,(blk_cell BK326.out 2).trans rfl,(blk_cell BK326.out 3).trans rfl,(blk_cell BK326.out 4).trans rfl⟩ (fun hHeld => ?_)
              clear hK K
              refine norm_ (a':=?_) ?_ ?_
              rotate_left
              ·
               show Act.put _ (some 44) _ = _
               simp only [Act.put,sA,sB,sC,i64_w,i32_w]
               rfl
              refine pure_ (i:=16) (N:=some 45) (v:=?_) (a':=?_) #[true,true,true,true,true,true,true,true,true,true,true,true,true,true,true,true,true,true,true,false,false,true,true,true,false,false,false,false] rfl rfl (any_of HT_.out (by kernel_rfl)) (fun _ _ _ h => h) (Or.inl ⟨by rfl,?_⟩) ?_ ?_
              rotate_left
              ·
               intro w'
               go_simp
               with_reducible rfl
              rotate_left
              ·
               simp only [Act.put,sA,sB,sC,i64_w,i32_w]
               rfl
              refine one_ (i:=19) (N:=some 48) #[true,true,true,true,true,true,true,true,true,true,true,true,true,true,true,true,true,true,true,true,false,true,true,true,false,false,false,false] rfl rfl (one_of HT_.out (by kernel_rfl)) (by decide) (fun K hK => ?_)
              refine goes_ Tryd.func33 (by kernel_rfl) rfl #[.int .i64 ((rd_T55 l0_2 x25_1).f3),.int .i64 4] (by rfl) rfl rfl (by (try simp only [sE,sH,sI]);first|done|rfl|(simp only [sG,sF];rfl)) ?_
              with_reducible refine (impl_number.calls k1 ((rd_T55 l0_2 x25_1).f3) 4 t330 _ A22.out).mono ?_
              rintro e w35 ⟨rfl,hb⟩
              refine ⟨_,rfl,?_⟩
              have n0_:=qh9 (qi9 (g:=gb321) (o:=.cells #[.int .i64 a0_0,.int .i64 a0_1,.slice (some ad325) l0_2.length c0_2,.slice A0_3 l0_3.length c0_3] 32 (0,0)) (by (with_reducible repeat (first|apply qa9|apply qb9|apply qc9));exact BK321.out) hb)
              have n1_:=qh9 (qi9 (g:=gb326) (o:=.cells #[.string ((rd_T55 l0_2 x25_1).f0),.int .i64 ((rd_T55 l0_2 x25_1).f1),.int .i64 ((rd_T55 l0_2 x25_1).f2),.int .i64 ((rd_T55 l0_2 x25_1).f3),.slice A325_4 ((rd_T55 l0_2 x25_1).f4).length c325_4] 55 (0,0)) (by (with_reducible repeat (first|apply qa9|apply qb9|apply qc9));exact BK326.out) hb)
              have n2_:=qh9 (sN (by repeat (first|(with_reducible first|exact HB.out|apply qd9|apply qe9|apply qf9|refine qg9 ?_ GE321.out|refine qg9 ?_ GE326.out)|exact HB.out)) hb)
              clear BK321
              clear BK326
              clear HB
              have BK321:=n0_
              have BK326:=n1_
              have HB:=n2_
              clear n0_ n1_ n2_
              (try clear hb)
              (try clear hb2)
              (try clear hk)
              (try clear hi)
              refine hK.out _ _ ⟨(blk_cell BK326.out 0).trans rfl,(blk_cell BK326.out 1).trans rfl,(blk_cell BK326.out 2).trans rfl,(blk_cell BK326.out 3).trans rfl,(blk_cell BK326.out 4).trans rfl⟩ (fun hHeld => ?_)
              clear hK K
              refine norm_ (a':=?_) ?_ ?_
              rotate_left
              ·
               show Act.put _ (some 48) _ = _
               simp only [Act.put,sA,sB,sC,i64_w,i32_w]
               rfl
              refine pure_ (i:=20) (N:=some 49) (v:=?_) (a':=?_) #[true,true,true,true,true,true,true,true,true,true,true,true,true,true,true,true,true,true,true,true,true,true,true,true,false,false,false,false] rfl rfl (any_of HT_.out (by kernel_rfl)) (fun _ _ _ h => h) (Or.inl ⟨by rfl,?_⟩) ?_ ?_
              rotate_left
              ·
               intro w'
               go_simp
               with_reducible rfl
              rotate_left
              ·
               simp only [Act.put,sA,sB,sC,i64_w,i32_w]
               rfl
              refine one_ (i:=24) (N:=some 53) #[true,true,true,true,true,true,true,true,true,true,true,true,true,true,true,true,true,true,true,true,true,true,true,true,true,false,false,false] rfl rfl (one_of HT_.out (by kernel_rfl)) (by decide) (fun K hK => ?_)
              refine goes_ Tryd.func33 (by kernel_rfl) rfl #[.int .i64 (((rd_T55 l0_2 x25_1).f4).length : Int),.int .i64 1] (by rfl) rfl rfl (by (try simp only [sE,sH,sI]);first|done|rfl|(simp only [sG,sF];rfl)) ?_
              with_reducible refine (impl_number.calls k1 (((rd_T55 l0_2 x25_1).f4).length : Int) 1 t331 _ A24.out).mono ?_
              rintro e w36 ⟨rfl,hb⟩
              refine ⟨_,rfl,?_⟩
              have n0_:=qh9 (qi9 (g:=gb321) (o:=.cells #[.int .i64 a0_0,.int .i64 a0_1,.slice (some ad325) l0_2.length c0_2,.slice A0_3 l0_3.length c0_3] 32 (0,0)) (by (with_reducible repeat (first|apply qa9|apply qb9|apply qc9));exact BK321.out) hb)
              have n1_:=qh9 (qi9 (g:=gb326) (o:=.cells #[.string ((rd_T55 l0_2 x25_1).f0),.int .i64 ((rd_T55 l0_2 x25_1).f1),.int .i64 ((rd_T55 l0_2 x25_1).f2),.int .i64 ((rd_T55 l0_2 x25_1).f3),.slice A325_4 ((rd_T55 l0_2 x25_1).f4).length c325_4] 55 (0,0)) (by (with_reducible repeat (first|apply qa9|apply qb9|apply qc9));exact BK326.out) hb)
              have n2_:=qh9 (sN (by repeat (first|(with_reducible first|exact HB.out|apply qd9|apply qe9|apply qf9|refine qg9 ?_ GE321.out|refine qg9 ?_ GE326.out)|exact HB.out)) hb)
              clear BK321
              clear BK326
              clear HB
              have BK321:=n0_
              have BK326:=n1_
              have HB:=n2_
              clear n0_ n1_ n2_
              (try clear hb)
              (try clear hb2)
              (try clear hk)
              (try clear hi)
              refine hK.out _ _ ⟨(blk_cell BK326.out 0).trans rfl,(blk_cell BK326.out 1).trans rfl,(blk_cell BK326.out 2).trans rfl,(blk_cell BK326.out 3).trans rfl,(blk_cell BK326.out 4).trans rfl⟩ (fun hHeld => ?_)
              clear hK K
              refine norm_ (a':=?_) ?_ ?_
              rotate_left
              ·
               show Act.put _ (some 53) _ = _
               simp only [Act.put,sA,sB,sC,i64_w,i32_w]
               rfl
              refine pure_ (i:=25) (N:=some 54) (v:=?_) (a':=?_) #[true,true,true,true,true,true,true,true,true,true,true,true,true,true,true,true,true,true,true,true,true,true,true,true,true,true,false,false] rfl rfl (any_of HT_.out (by kernel_rfl)) (fun _ _ _ h => h) (Or.inl ⟨by rfl,?_⟩) ?_ ?_
              rotate_left
              ·
               intro w'
               go_simp
               with_reducible rfl
              rotate_left
              ·
               simp only [Act.put,sA,sB,sC,i64_w,i32_w]
               rfl
              refine pure_ (i:=26) (N:=some 55) (v:=?_) (a':=?_) #[true,true,true,true,true,true,true,true,true,true,true,true,true,true,true,true,true,true,true,true,true,true,true,true,true,true,true,false] rfl rfl (any_of HT_.out (by kernel_rfl)) (fun _ _ _ h => h) (Or.inl ⟨by rfl,?_⟩) ?_ ?_
              rotate_left
              ·
               intro w'
               go_simp
               with_reducible rfl
              rotate_left
              ·
               simp only [Act.put,sA,sB,sC,i64_w,i32_w]
               rfl
              refine pure_ (i:=27) (N:=some 3) (v:=?_) (a':=?_) #[true,true,true,true,true,true,true,true,true,true,true,true,true,true,true,true,true,true,true,true,true,true,true,true,true,true,true,true] rfl rfl (any_of HT_.out (by kernel_rfl)) (fun _ _ _ h => h) (Or.inl ⟨by rfl,?_⟩) ?_ ?_
              rotate_left
              ·
               intro w'
               go_simp
               with_reducible rfl
              rotate_left
              ·
               simp only [Act.put,sA,sB,sC,i64_w,i32_w]
               rfl
              refine done_ (done_of HT_.out (by kernel_rfl)) ?_
              have hcz37_0 : w36.cell? ⟨gb326,0,none⟩ = some (.string ((rd_T55 l0_2 x25_1).f0)):=(blk_cell BK326.out 0).trans rfl
              have hcz37_1 : w36.cell? ⟨gb326,1,none⟩ = some (.int .i64 ((rd_T55 l0_2 x25_1).f1)):=(blk_cell BK326.out 1).trans rfl
              have hcz37_2 : w36.cell? ⟨gb326,2,none⟩ = some (.int .i64 ((rd_T55 l0_2 x25_1).f2)):=(blk_cell BK326.out 2).trans rfl
              have hcz37_3 : w36.cell? ⟨gb326,3,none⟩ = some (.int .i64 ((rd_T55 l0_2 x25_1).f3)):=(blk_cell BK326.out 3).trans rfl
              have hcz37_4 : w36.cell? ⟨gb326,4,none⟩ = some (.slice A325_4 ((rd_T55 l0_2 x25_1).f4).length c325_4):=(blk_cell BK326.out 4).trans rfl
              have hfz37_0:=sJ BK326.out 0
              have hfz37_1:=sJ BK326.out 1
              have hfz37_2:=sJ BK326.out 2
              have hfz37_3:=sJ BK326.out 3
              have hfz37_4:=sJ BK326.out 4
              try go_wp2
              go_loopg [3,59] k1 (fun kq v3 v59 w' => ∃ (x3_2 : ByteArray) (x59_2 : Int),v3 = .string x3_2 ∧ v59 = .int .i64 x59_2 ∧ Aside0 (impl_tableText.l1 kq x3_2 l0_2 (l0_2.length : Int) x25_1 ((rd_T55 l0_2 x25_1).f4) (((rd_T55 l0_2 x25_1).f4).length : Int) x59_2 a0_0 a0_1 l0_2 l0_3 = some r) ∧ Aside0 (kq ≤ k1) ∧ Aside0 (w'.heap[gb321]? = some (.cells #[.int .i64 a0_0,.int .i64 a0_1,(.slice (some ad325) l0_2.length c0_2),(.slice A0_3 l0_3.length c0_3)] 32 (0,0))) ∧ Aside0 (w'.heap[gb326]? = some (.cells #[.string ((rd_T55 l0_2 x25_1).f0),.int .i64 ((rd_T55 l0_2 x25_1).f1),.int .i64 ((rd_T55 l0_2 x25_1).f2),.int .i64 ((rd_T55 l0_2 x25_1).f3),(.slice A325_4 ((rd_T55 l0_2 x25_1).f4).length c325_4)] 55 (0,0))) ∧ Aside0 (Below w.heap.size w w'))
              case atStart => exact ⟨(x3_1 ++ (((((t327 ++ ((rd_T55 l0_2 x25_1).f0)) ++ t328) ++ t329) ++ t330) ++ t331)),(0),(by first|rfl|(simp;done)|(simp [*];done)),(by first|rfl|(simp;done)|(simp [*];done)),H',⟨Nat.le_refl _⟩,⟨by (with_reducible repeat (first|apply qa9|apply qb9|apply qc9));exact BK321.out⟩,⟨by (with_reducible repeat (first|apply qa9|apply qb9|apply qc9));exact BK326.out⟩,⟨by repeat (first|(with_reducible first|exact HB.out|apply qd9|apply qe9|apply qf9|refine qg9 ?_ GE321.out|refine qg9 ?_ GE326.out)|exact HB.out)⟩⟩
              case round =>
               clear H'
               try clear c1
               try clear c2
               try clear p2
               try clear c3
               try clear p3
               try clear q3
               try clear hx3
               try clear c4
               try clear c4b0
               try clear c4b1
               try clear c4b2
               try clear c6
               try clear c6b0
               try clear c6b1
               try clear c6b2
               try clear p6
               try clear c13
               try clear c13b0
               try clear c14
               try clear c14b0
               try clear c15
               try clear c15b0
               try clear c17
               try clear c17b0
               try clear c17b1
               try clear c17b2
               try clear c19
               try clear c19b0
               try clear c19b1
               try clear c19b2
               try clear c21
               try clear c21b0
               try clear c21b1
               try clear c21b2
               try clear c23
               try clear c23b0
               try clear c23b1
               try clear c23b2
               try clear c25
               try clear c25b0
               try clear c25b1
               try clear c25b2
               try clear c26
               try clear c26b0
               try clear c26b1
               try clear c26b2
               try clear c28
               try clear c32
               try clear p32
               try clear q32
               try clear hx32
               try clear c33
               try clear hcz12_0
               try clear hcz12_1
               try clear hcz12_2
               try clear hcz12_3
               try clear hcz29_0
               try clear hcz29_1
               try clear hcz29_2
               try clear hcz29_3
               try clear hcz29_4
               try clear hcz37_0
               try clear hcz37_1
               try clear hcz37_2
               try clear hcz37_3
               try clear hcz37_4
               try clear hfz12_0
               try clear hfz12_1
               try clear hfz12_2
               try clear hfz12_3
               try clear hfz29_0
               try clear hfz29_1
               try clear hfz29_2
               try clear hfz29_3
               try clear hfz29_4
               try clear hfz37_0
               try clear hfz37_1
               try clear hfz37_2
               try clear hfz37_3
               try clear hfz37_4
               try clear hx325_0
               try clear hx325_1
               try clear hx325_2
               try clear hx325_3
               try clear hx325_4
               try clear p2
               try clear p325
               try clear q325
               obtain ⟨x3_2,x59_2,rfl,rfl,HA,HK2,BK321,BK326,HB⟩:=hrel
               cases gk with
               | zero => exact absurd HA.out (by simp [impl_tableText.l1])
               | succ k2 =>
                have H:=HA.out
                clear HA
                simp only [impl_tableText.l1] at H
                by_cases c38 : x59_2 < (((rd_T55 l0_2 x25_1).f4).length : Int)
                ·
                 rw [if_pos c38] at H
                 have c38b0 : decide (x59_2 < (((rd_T55 l0_2 x25_1).f4).length : Int)) = true:=decide_eq_true c38
                 clear c38
                 by_cases c39 : 0 ≤ x59_2
                 ·
                  rw [if_pos c39] at H
                  have c39b0 : decide (0 ≤ x59_2) = true:=decide_eq_true c39
                  clear c39
                  by_cases c40 : x59_2 < (((rd_T55 l0_2 x25_1).f4).length : Int)
                  ·
                   rw [if_pos c40] at H
                   have c40b0 : decide (x59_2 < (((rd_T55 l0_2 x25_1).f4).length : Int)) = true:=decide_eq_true c40
                   clear c40
                   replace H:=Option.bind_eq_some_iff.mp H
                   obtain ⟨t334,A410,H⟩:=H
                   replace H : ((impl_number.f k2 ((rd_T58 ((rd_T55 l0_2 x25_1).f4) x59_2).f1) 2).bind fun t335 => (if t334.size + t335.size ≤ 9223372036854775807 then (if x3_2.size + (t334 ++ t335).size ≤ 9223372036854775807 then (impl_tableText.l1 k2 (x3_2 ++ (t334 ++ t335)) l0_2 (l0_2.length : Int) x25_1 ((rd_T55 l0_2 x25_1).f4) (((rd_T55 l0_2 x25_1).f4).length : Int) (wrap64 (x59_2 + 1)) a0_0 a0_1 l0_2 l0_3) else (none)) else (none))) = some r:=H
                   have A41:=qh9 A410
                   clear A410
                   replace H:=Option.bind_eq_some_iff.mp H
                   obtain ⟨t335,A420,H⟩:=H
                   replace H : (if t334.size + t335.size ≤ 9223372036854775807 then (if x3_2.size + (t334 ++ t335).size ≤ 9223372036854775807 then (impl_tableText.l1 k2 (x3_2 ++ (t334 ++ t335)) l0_2 (l0_2.length : Int) x25_1 ((rd_T55 l0_2 x25_1).f4) (((rd_T55 l0_2 x25_1).f4).length : Int) (wrap64 (x59_2 + 1)) a0_0 a0_1 l0_2 l0_3) else (none)) else (none)) = some r:=H
                   have A42:=qh9 A420
                   clear A420
                   by_cases c43 : t334.size + t335.size ≤ 9223372036854775807
                   ·
                    rw [if_pos c43] at H
                    have c43b0:=eq_true c43
                    have c43b1 : decide (t334.size + t335.size ≤ 9223372036854775807) = true:=decide_eq_true c43
                    try have c43b2 : (9223372036854775807 < t334.size + t335.size) = False:=eq_false (Nat.not_lt.2 c43)
                    by_cases c44 : x3_2.size + (t334 ++ t335).size ≤ 9223372036854775807
                    ·
                     rw [if_pos c44] at H
                     have c44b0:=eq_true c44
                     have c44b1 : decide (x3_2.size + (t334 ++ t335).size ≤ 9223372036854775807) = true:=decide_eq_true c44
                     try have c44b2 : (9223372036854775807 < x3_2.size + (t334 ++ t335).size) = False:=eq_false (Nat.not_lt.2 c44)
                     (try (have c44b3:=c44;simp only [ByteArray.size_append] at c44b3;have c44b4:=eq_false (Nat.not_lt.2 c44b3)))
                     have H':=qh9 H
                     clear H
                     have p332 : 0 ≤ (x59_2 : Int):=sM (by first|(with_reducible assumption)|assumption)
                     have q332 : x59_2 < (((rd_T55 l0_2 x25_1).f4).length : Int):=sM (by first|(with_reducible assumption)|assumption)
                     obtain ⟨ad332,e332,hx332_0,hx332_1⟩:=at_T58 HR325_4.out x59_2 p332 q332
                     cases e332
                     replace hx332_0:=(HB.out.cell (sD w _ hx332_0)).trans hx332_0
                     replace hx332_1:=(HB.out.cell (sD w _ hx332_1)).trans hx332_1
                     replace p332:=eq_true p332
                     replace q332:=eq_true q332
                     try go_wp2_with (first|((with_reducible refine gate_dst (N:=7) rfl ?_);refine box_event ?hg (N:=7) ?hd (cs:=#[.int .i64 0,.int .i64 0]) (t:=58) ?hr ?_;(case hd => rfl);(case hg => rfl);(case hr => first|(go_simp;done)|(go_simp;rfl));intro gb333 hg w45 hbox hb;have n0_:=qh9 (qi9 (g:=gb321) (o:=.cells #[.int .i64 a0_0,.int .i64 a0_1,.slice (some ad325) l0_2.length c0_2,.slice A0_3 l0_3.length c0_3] 32 (0,0)) (by (with_reducible repeat (first|apply qa9|apply qb9|apply qc9));exact BK321.out) hb);have n1_:=qh9 (qi9 (g:=gb326) (o:=.cells #[.string ((rd_T55 l0_2 x25_1).f0),.int .i64 ((rd_T55 l0_2 x25_1).f1),.int .i64 ((rd_T55 l0_2 x25_1).f2),.int .i64 ((rd_T55 l0_2 x25_1).f3),.slice (some ad332) ((rd_T55 l0_2 x25_1).f4).length c325_4] 55 (0,0)) (by (with_reducible repeat (first|apply qa9|apply qb9|apply qc9));exact BK326.out) hb);have n2_:=qh9 (sN (by repeat (first|(with_reducible first|exact HB.out|apply qd9|apply qe9|apply qf9|refine qg9 ?_ GE321.out|refine qg9 ?_ GE326.out)|exact HB.out)) hb);have n3_:=qh9 (hbox);have n4_:=qh9 ((by rw [hg];exact (below_size (by repeat (first|(with_reducible first|exact HB.out|apply qd9|apply qe9|apply qf9|refine qg9 ?_ GE321.out|refine qg9 ?_ GE326.out)|exact HB.out))) : w.heap.size ≤ gb333));have n5_:=qh9 ((by rw [hg];exact (below_size (by repeat (first|(with_reducible first|exact HB.out|apply qd9|apply qe9|apply qf9|refine qg9 ?_ GE321.out|refine qg9 ?_ GE326.out)|exact HB.out))) : w.heap.size ≤ gb333));have n6_:=qh9 ((by rw [hg];exact Nat.ne_of_lt (blk_lt (g:=gb321) (o:=.cells #[.int .i64 a0_0,.int .i64 a0_1,.slice (some ad325) l0_2.length c0_2,.slice A0_3 l0_3.length c0_3] 32 (0,0)) (by (with_reducible repeat (first|apply qa9|apply qb9|apply qc9));exact BK321.out)) : gb321 ≠ gb333));have n7_:=qh9 ((by rw [hg];exact Nat.ne_of_gt (blk_lt (g:=gb321) (o:=.cells #[.int .i64 a0_0,.int .i64 a0_1,.slice (some ad325) l0_2.length c0_2,.slice A0_3 l0_3.length c0_3] 32 (0,0)) (by (with_reducible repeat (first|apply qa9|apply qb9|apply qc9));exact BK321.out)) : gb333 ≠ gb321));have n8_:=qh9 ((by rw [hg];exact Nat.ne_of_lt (blk_lt (g:=gb326) (o:=.cells #[.string ((rd_T55 l0_2 x25_1).f0),.int .i64 ((rd_T55 l0_2 x25_1).f1),.int .i64 ((rd_T55 l0_2 x25_1).f2),.int .i64 ((rd_T55 l0_2 x25_1).f3),.slice (some ad332) ((rd_T55 l0_2 x25_1).f4).length c325_4] 55 (0,0)) (by (with_reducible repeat (first|apply qa9|apply qb9|apply qc9));exact BK326.out)) : gb326 ≠ gb333));have n9_:=qh9 ((by rw [hg];exact Nat.ne_of_gt (blk_lt (g:=gb326) (o:=.cells #[.string ((rd_T55 l0_2 x25_1).f0),.int .i64 ((rd_T55 l0_2 x25_1).f1),.int .i64 ((rd_T55 l0_2 x25_1).f2),.int .i64 ((rd_T55 l0_2 x25_1).f3),.slice (some ad332) ((rd_T55 l0_2 x25_1).f4).length c325_4] 55 (0,0)) (by (with_reducible repeat (first|apply qa9|apply qb9|apply qc9));exact BK326.out)) : gb333 ≠ gb326));clear BK321;clear BK326;clear HB;have BK321:=n0_;have BK326:=n1_;have HB:=n2_;have BK333:=n3_;have GW333:=n4_;have GE333:=n5_;have NB321_333:=n6_;have NB333_321:=n7_;have NB326_333:=n8_;have NB333_326:=n9_;clear n0_ n1_ n2_ n3_ n4_ n5_ n6_ n7_ n8_ n9_;clear hb hbox hg;have hnb46:=NB333_321.out;have hnc46:=NB321_333.out;have hnb47:=NB333_326.out;have hnc47:=NB326_333.out;have hcz48_0 : w45.cell? ⟨gb333,0,none⟩ = some (.int .i64 0):=(blk_cell BK333.out 0).trans rfl;have hcz48_1 : w45.cell? ⟨gb333,1,none⟩ = some (.int .i64 0):=(blk_cell BK333.out 1).trans rfl;have hfz48_0:=sJ BK333.out 0;have hfz48_1:=sJ BK333.out 1))
                     have n0_ : Aside0 (((w45.setCell ⟨gb333,0,none⟩ (.int .i64 ((rd_T58 ((rd_T55 l0_2 x25_1).f4) x59_2).f0))).setCell ⟨gb333,1,none⟩ (.int .i64 ((rd_T58 ((rd_T55 l0_2 x25_1).f4) x59_2).f1))).heap[gb321]? = some (.cells #[.int .i64 a0_0,.int .i64 a0_1,.slice (some ad325) l0_2.length c0_2,.slice A0_3 l0_3.length c0_3] 32 (0,0))):=⟨by (with_reducible repeat (first|apply qa9|apply qb9|apply qc9));refine blk_far ?_ NB321_333.out _;(with_reducible repeat (first|apply qa9|apply qb9|apply qc9));refine blk_far ?_ NB321_333.out _;(with_reducible repeat (first|apply qa9|apply qb9|apply qc9));exact BK321.out⟩
                     have n1_ : Aside0 (((w45.setCell ⟨gb333,0,none⟩ (.int .i64 ((rd_T58 ((rd_T55 l0_2 x25_1).f4) x59_2).f0))).setCell ⟨gb333,1,none⟩ (.int .i64 ((rd_T58 ((rd_T55 l0_2 x25_1).f4) x59_2).f1))).heap[gb326]? = some (.cells #[.string ((rd_T55 l0_2 x25_1).f0),.int .i64 ((rd_T55 l0_2 x25_1).f1),.int .i64 ((rd_T55 l0_2 x25_1).f2),.int .i64 ((rd_T55 l0_2 x25_1).f3),.slice (some ad332) ((rd_T55 l0_2 x25_1).f4).length c325_4] 55 (0,0))):=⟨by (with_reducible repeat (first|apply qa9|apply qb9|apply qc9));refine blk_far ?_ NB326_333.out _;(with_reducible repeat (first|apply qa9|apply qb9|apply qc9));refine blk_far ?_ NB326_333.out _;(with_reducible repeat (first|apply qa9|apply qb9|apply qc9));exact BK326.out⟩
                     have n2_ : Aside0 (((w45.setCell ⟨gb333,0,none⟩ (.int .i64 ((rd_T58 ((rd_T55 l0_2 x25_1).f4) x59_2).f0))).setCell ⟨gb333,1,none⟩ (.int .i64 ((rd_T58 ((rd_T55 l0_2 x25_1).f4) x59_2).f1))).heap[gb333]? = some (.cells #[.int .i64 ((rd_T58 ((rd_T55 l0_2 x25_1).f4) x59_2).f0),.int .i64 ((rd_T58 ((rd_T55 l0_2 x25_1).f4) x59_2).f1)] 58 (0,0))):=⟨by (with_reducible repeat (first|apply qa9|apply qb9|apply qc9));refine blk_put (cs:=#[.int .i64 ((rd_T58 ((rd_T55 l0_2 x25_1).f4) x59_2).f0),.int .i64 0]) ?_ 1 _ rfl;(with_reducible repeat (first|apply qa9|apply qb9|apply qc9));refine blk_put (cs:=#[.int .i64 0,.int .i64 0]) ?_ 0 _ rfl;(with_reducible repeat (first|apply qa9|apply qb9|apply qc9));exact BK333.out⟩
                     have n3_ : Aside0 (Below w.heap.size w ((w45.setCell ⟨gb333,0,none⟩ (.int .i64 ((rd_T58 ((rd_T55 l0_2 x25_1).f4) x59_2).f0))).setCell ⟨gb333,1,none⟩ (.int .i64 ((rd_T58 ((rd_T55 l0_2 x25_1).f4) x59_2).f1)))):=⟨by repeat (first|(with_reducible first|exact HB.out|apply qd9|apply qe9|apply qf9|refine qg9 ?_ GE321.out|refine qg9 ?_ GE326.out|refine qg9 ?_ GE333.out)|exact HB.out)⟩
                     (try clear BK321)
                     (try clear BK326)
                     (try clear BK333)
                     (try clear HB)
                     generalize ((w45.setCell ⟨gb333,0,none⟩ (.int .i64 ((rd_T58 ((rd_T55 l0_2 x25_1).f4) x59_2).f0))).setCell ⟨gb333,1,none⟩ (.int .i64 ((rd_T58 ((rd_T55 l0_2 x25_1).f4) x59_2).f1))) = w49 at n0_ n1_ n2_ n3_ ⊢
                     have BK321:=n0_
                     have BK326:=n1_
                     have BK333:=n2_
                     have HB:=n3_
                     clear n0_ n1_ n2_ n3_
                     have n0_:=qh9 (qb9 BK321.out)
                     have n1_:=qh9 (qb9 BK326.out)
                     have n2_:=qh9 (qb9 BK333.out)
                     have n3_:=qh9 (qf9 HB.out)
                     clear BK321
                     clear BK326
                     clear BK333
                     clear HB
                     have BK321:=n0_
                     have BK326:=n1_
                     have BK333:=n2_
                     have HB:=n3_
                     clear n0_ n1_ n2_ n3_
                     refine start_ (n:=10) (S:=fun w' => w'.cell? ⟨gb333,0,none⟩ = some (.int .i64 ((rd_T58 ((rd_T55 l0_2 x25_1).f4) x59_2).f0)) ∧ w'.cell? ⟨gb333,1,none⟩ = some (.int .i64 ((rd_T58 ((rd_T55 l0_2 x25_1).f4) x59_2).f1))) (ds:=[]) #[false,false,false,false,false,false,false,false,false,false] (by kernel_rfl) rfl rfl ⟨(blk_cell BK333.out 0).trans rfl,(blk_cell BK333.out 1).trans rfl⟩ (fun hHeld => ?_);refine with_tabW impl_tableText.tab9 impl_tableText.bits9 (fun HT_ HW_ => ?_)
                     generalize w49.drew = w50 at BK321 BK326 BK333 HB hHeld ⊢
                     refine pure_ (i:=0) (N:=some 63) (v:=?_) (a':=?_) #[true,false,false,false,false,false,false,false,false,false] rfl rfl (any_of HT_.out (by kernel_rfl)) (fun _ _ _ h => h) (Or.inl ⟨by rfl,?_⟩) ?_ ?_
                     rotate_left
                     ·
                      intro w'
                      go_simp
                      with_reducible rfl
                     rotate_left
                     ·
                      simp only [Act.put,sA,sB,sC,i64_w,i32_w]
                      rfl
                     refine pure_ (i:=1) (N:=some 64) (v:=?_) (a':=?_) #[true,true,false,false,false,false,false,false,false,false] rfl rfl (any_of HT_.out (by kernel_rfl)) (fun _ _ _ h => h) (Or.inl ⟨by rfl,?_⟩) ?_ ?_
                     rotate_left
                     ·
                      intro w'
                      go_simp
                      with_reducible rfl
                     rotate_left
                     ·
                      simp only [Act.put,sA,sB,sC,i64_w,i32_w]
                      rfl
                     refine pure_ (i:=4) (N:=some 67) (v:=?_) (a':=?_) #[true,true,false,false,true,false,false,false,false,false] rfl rfl (any_of HT_.out (by kernel_rfl)) (fun _ _ _ h => h) (Or.inl ⟨by rfl,?_⟩) ?_ ?_
                     rotate_left
                     ·
                      intro w'
                      go_simp
                      with_reducible rfl
                     rotate_left
                     ·
                      simp only [Act.put,sA,sB,sC,i64_w,i32_w]
                      rfl
                     refine take_ (i:=2) (N:=some 65) (v:=?_) (a':=?_) #[true,true,true,false,true,false,false,false,false,false] rfl rfl (take_ofW HT_.out HW_.out (by kernel_rfl)) (fun _ _ _ h => h) (Or.inl ⟨by rfl,?_⟩) hHeld ?_ ?_
                     rotate_left
                     ·
                      rintro w' ⟨s0,s1⟩
                      go_simp
                      with_reducible rfl
                     rotate_left
                     ·
                      simp only [Act.put,sA,sB,sC,i64_w,i32_w]
                      rfl
                     refine take_ (i:=5) (N:=some 68) (v:=?_) (a':=?_) #[true,true,true,false,true,true,false,false,false,false] rfl rfl (take_ofW HT_.out HW_.out (by kernel_rfl)) (fun _ _ _ h => h) (Or.inl ⟨by rfl,?_⟩) hHeld ?_ ?_
                     rotate_left
                     ·
                      rintro w' ⟨s0,s1⟩
                      go_simp
                      with_reducible rfl
                     rotate_left
                     ·
                      simp only [Act.put,sA,sB,sC,i64_w,i32_w]
                      rfl
                     refine one_ (i:=3) (N:=some 66) #[true,true,true,true,true,true,false,false,false,false] rfl rfl (one_of HT_.out (by kernel_rfl)) (by decide) (fun K hK => ?_)
                     refine goes_ Tryd.func33 (by kernel_rfl) rfl #[.int .i64 ((rd_T58 ((rd_T55 l0_2 x25_1).f4) x59_2).f0),.int .i64 1] (by rfl) rfl rfl (by (try simp only [sE,sH,sI]);first|done|rfl|(simp only [sG,sF];rfl)) ?_
                     with_reducible refine (impl_number.calls k2 ((rd_T58 ((rd_T55 l0_2 x25_1).f4) x59_2).f0) 1 t334 _ A41.out).mono ?_
                     rintro e w51 ⟨rfl,hb⟩
                     refine ⟨_,rfl,?_⟩
                     have n0_:=qh9 (qi9 (g:=gb321) (o:=.cells #[.int .i64 a0_0,.int .i64 a0_1,.slice (some ad325) l0_2.length c0_2,.slice A0_3 l0_3.length c0_3] 32 (0,0)) (by (with_reducible repeat (first|apply qa9|apply qb9|apply qc9));exact BK321.out) hb)
                     have n1_:=qh9 (qi9 (g:=gb326) (o:=.cells #[.string ((rd_T55 l0_2 x25_1).f0),.int .i64 ((rd_T55 l0_2 x25_1).f1),.int .i64 ((rd_T55 l0_2 x25_1).f2),.int .i64 ((rd_T55 l0_2 x25_1).f3),.slice (some ad332) ((rd_T55 l0_2 x25_1).f4).length c325_4] 55 (0,0)) (by (with_reducible repeat (first|apply qa9|apply qb9|apply qc9));exact BK326.out) hb)
                     have n2_:=qh9 (qi9 (g:=gb333) (o:=.cells #[.int .i64 ((rd_T58 ((rd_T55 l0_2 x25_1).f4) x59_2).f0),.int .i64 ((rd_T58 ((rd_T55 l0_2 x25_1).f4) x59_2).f1)] 58 (0,0)) (by (with_reducible repeat (first|apply qa9|apply qb9|apply qc9));exact BK333.out) hb)
                     have n3_:=qh9 (sN (by repeat (first|(with_reducible first|exact HB.out|apply qd9|apply qe9|apply qf9|refine qg9 ?_ GE321.out|refine qg9 ?_ GE326.out|refine qg9 ?_ GE333.out)|exact HB.out)) hb)
                     clear BK321
                     clear BK326
                     clear BK333
                     clear HB
                     have BK321:=n0_
                     have BK326:=n1_
                     have BK333:=n2_
                     have HB:=n3_
                     clear n0_ n1_ n2_ n3_
                     (try clear hb)
                     (try clear hb2)
                     (try clear hk)
                     (try clear hi)
                     refine hK.out _ _ ⟨(blk_cell BK333.out 0).trans rfl,(blk_cell BK333.out 1).trans rfl⟩ (fun hHeld => ?_)
                     clear hK K
                     refine norm_ (a':=?_) ?_ ?_
                     rotate_left
                     ·
                      show Act.put _ (some 66) _ = _
                      simp only [Act.put,sA,sB,sC,i64_w,i32_w]
                      rfl
                     refine one_ (i:=6) (N:=some 69) #[true,true,true,true,true,true,true,false,false,false] rfl rfl (one_of HT_.out (by kernel_rfl)) (by decide) (fun K hK => ?_)
                     refine goes_ Tryd.func33 (by kernel_rfl) rfl #[.int .i64 ((rd_T58 ((rd_T55 l0_2 x25_1).f4) x59_2).f1),.int .i64 2] (by rfl) rfl rfl (by (try simp only [sE,sH,sI]);first|done|rfl|(simp only [sG,sF];rfl)) ?_
                     with_reducible refine (impl_number.calls k2 ((rd_T58 ((rd_T55 l0_2 x25_1).f4) x59_2).f1) 2 t335 _ A42.out).mono ?_
                     rintro e w52 ⟨rfl,hb⟩
                     refine ⟨_,rfl,?_⟩
                     have n0_:=qh9 (qi9 (g:=gb321) (o:=.cells #[.int .i64 a0_0,.int .i64 a0_1,.slice (some ad325) l0_2.length c0_2,.slice A0_3 l0_3.length c0_3] 32 (0,0)) (by (with_reducible repeat (first|apply qa9|apply qb9|apply qc9));exact BK321.out) hb)
                     have n1_:=qh9 (qi9 (g:=gb326) (o:=.cells #[.string ((rd_T55 l0_2 x25_1).f0),.int .i64 ((rd_T55 l0_2 x25_1).f1),.int .i64 ((rd_T55 l0_2 x25_1).f2),.int .i64 ((rd_T55 l0_2 x25_1).f3),.slice (some ad332) ((rd_T55 l0_2 x25_1).f4).length c325_4] 55 (0,0)) (by (with_reducible repeat (first|apply qa9|apply qb9|apply qc9));exact BK326.out) hb)
                     have n2_:=qh9 (qi9 (g:=gb333) (o:=.cells #[.int .i64 ((rd_T58 ((rd_T55 l0_2 x25_1).f4) x59_2).f0),.int .i64 ((rd_T58 ((rd_T55 l0_2 x25_1).f4) x59_2).f1)] 58 (0,0)) (by (with_reducible repeat (first|apply qa9|apply qb9|apply qc9));exact BK333.out) hb)
                     have n3_:=qh9 (sN (by repeat (first|(with_reducible first|exact HB.out|apply qd9|apply qe9|apply qf9|refine qg9 ?_ GE321.out|refine qg9 ?_ GE326.out|refine qg9 ?_ GE333.out)|exact HB.out)) hb)
                     clear BK321
                     clear BK326
                     clear BK333
                     clear HB
                     have BK321:=n0_
                     have BK326:=n1_
                     have BK333:=n2_
                     have HB:=n3_
                     clear n0_ n1_ n2_ n3_
                     (try clear hb)
                     (try clear hb2)
                     (try clear hk)
                     (try clear hi)
                     refine hK.out _ _ ⟨(blk_cell BK333.out 0).trans rfl,(blk_cell BK333.out 1).trans rfl⟩ (fun hHeld => ?_)
                     clear hK K
                     refine norm_ (a':=?_) ?_ ?_
                     rotate_left
                     ·
                      show Act.put _ (some 69) _ = _
                      simp only [Act.put,sA,sB,sC,i64_w,i32_w]
                      rfl
                     refine pure_ (i:=7) (N:=some 70) (v:=?_) (a':=?_) #[true,true,true,true,true,true,true,true,false,false] rfl rfl (any_of HT_.out (by kernel_rfl)) (fun _ _ _ h => h) (Or.inl ⟨by rfl,?_⟩) ?_ ?_
                     rotate_left
                     ·
                      intro w'
                      go_simp
                      with_reducible rfl
                     rotate_left
                     ·
                      simp only [Act.put,sA,sB,sC,i64_w,i32_w]
                      rfl
                     refine pure_ (i:=8) (N:=some 71) (v:=?_) (a':=?_) #[true,true,true,true,true,true,true,true,true,false] rfl rfl (any_of HT_.out (by kernel_rfl)) (fun _ _ _ h => h) (Or.inl ⟨by rfl,?_⟩) ?_ ?_
                     rotate_left
                     ·
                      intro w'
                      go_simp
                      with_reducible rfl
                     rotate_left
                     ·
                      simp only [Act.put,sA,sB,sC,i64_w,i32_w]
                      rfl
                     refine pure_ (i:=9) (N:=some 3) (v:=?_) (a':=?_) #[true,true,true,true,true,true,true,true,true,true] rfl rfl (any_of HT_.out (by kernel_rfl)) (fun _ _ _ h => h) (Or.inl ⟨by rfl,?_⟩) ?_ ?_
                     rotate_left
                     ·
                      intro w'
                      go_simp
                      with_reducible rfl
                     rotate_left
                     ·
                      simp only [Act.put,sA,sB,sC,i64_w,i32_w]
                      rfl
                     refine done_ (done_of HT_.out (by kernel_rfl)) ?_
                     try go_wp2
                     go_roundg k2
                     case measure => have:=HK1.out;have:=HK2.out;omega
                     case rel => exact ⟨(x3_2 ++ (t334 ++ t335)),(wrap64 (x59_2 + 1)),(by first|rfl|(simp;done)|(simp [*];done)),(by first|rfl|(simp;done)|(simp [*];done)),H',⟨by have:=HK1.out;have:=HK2.out;omega⟩,⟨by (with_reducible repeat (first|apply qa9|apply qb9|apply qc9));exact BK321.out⟩,⟨by (with_reducible repeat (first|apply qa9|apply qb9|apply qc9));exact BK326.out⟩,⟨by repeat (first|(with_reducible first|exact HB.out|apply qd9|apply qe9|apply qf9|refine qg9 ?_ GE321.out|refine qg9 ?_ GE326.out|refine qg9 ?_ GE333.out)|exact HB.out)⟩⟩
                    ·
                     rw [if_neg c44] at H
                     exact absurd H (by simp)
                   ·
                    rw [if_neg c43] at H
                    exact absurd H (by simp)
                  ·
                   rw [if_neg c40] at H
                   exact absurd H (by simp)
                 ·
                  rw [if_neg c39] at H
                  exact absurd H (by simp)
                ·
                 rw [if_neg c38] at H
                 have c38b0 : decide (x59_2 < (((rd_T55 l0_2 x25_1).f4).length : Int)) = false:=decide_eq_false c38
                 clear c38
                 have H':=qh9 H
                 clear H
                 go_wp2
                 go_roundg k2
                 case measure => have:=HK1.out;have:=HK2.out;omega
                 case rel => exact ⟨(x3_2),(wrap64 (x25_1 + 1)),(by first|rfl|(simp;done)|(simp [*];done)),(by first|rfl|(simp;done)|(simp [*];done)),H',⟨by have:=HK1.out;have:=HK2.out;omega⟩,⟨by (with_reducible repeat (first|apply qa9|apply qb9|apply qc9));exact BK321.out⟩,⟨by repeat (first|(with_reducible first|exact HB.out|apply qd9|apply qe9|apply qf9|refine qg9 ?_ GE321.out|refine qg9 ?_ GE326.out)|exact HB.out)⟩⟩
             ·
              rw [if_neg c26] at H
              exact absurd H (by simp)
            ·
             rw [if_neg c25] at H
             exact absurd H (by simp)
           ·
            rw [if_neg c23] at H
            exact absurd H (by simp)
          ·
           rw [if_neg c21] at H
           exact absurd H (by simp)
         ·
          rw [if_neg c19] at H
          exact absurd H (by simp)
        ·
         rw [if_neg c17] at H
         exact absurd H (by simp)
       ·
        rw [if_neg c15] at H
        exact absurd H (by simp)
      ·
       rw [if_neg c14] at H
       exact absurd H (by simp)
     ·
      rw [if_neg c13] at H
      have c13b0 : decide (x25_1 < (l0_2.length : Int)) = false:=decide_eq_false c13
      clear c13
      replace H:=Option.bind_eq_some_iff.mp H
      obtain ⟨t336,A530,H⟩:=H
      replace H : (if x3_1.size + t336.size ≤ 9223372036854775807 then (impl_tableText.l2 k1 (x3_1 ++ t336) l0_3 (l0_3.length : Int) 0) else (none)) = some r:=H
      have A53:=qh9 A530
      clear A530
      by_cases c54 : x3_1.size + t336.size ≤ 9223372036854775807
      ·
       rw [if_pos c54] at H
       have c54b0:=eq_true c54
       have c54b1 : decide (x3_1.size + t336.size ≤ 9223372036854775807) = true:=decide_eq_true c54
       try have c54b2 : (9223372036854775807 < x3_1.size + t336.size) = False:=eq_false (Nat.not_lt.2 c54)
       have H':=qh9 H
       clear H
       have hcz55_0 : wr.cell? ⟨gb321,0,none⟩ = some (.int .i64 a0_0):=(blk_cell BK321.out 0).trans rfl
       have hcz55_1 : wr.cell? ⟨gb321,1,none⟩ = some (.int .i64 a0_1):=(blk_cell BK321.out 1).trans rfl
       have hcz55_2 : wr.cell? ⟨gb321,2,none⟩ = some (.slice A0_2 l0_2.length c0_2):=(blk_cell BK321.out 2).trans rfl
       have hcz55_3 : wr.cell? ⟨gb321,3,none⟩ = some (.slice A0_3 l0_3.length c0_3):=(blk_cell BK321.out 3).trans rfl
       have hfz55_0:=sJ BK321.out 0
       have hfz55_1:=sJ BK321.out 1
       have hfz55_2:=sJ BK321.out 2
       have hfz55_3:=sJ BK321.out 3
       go_wp2_with (first|((with_reducible refine gate_callee (f:=33) rfl ?_);refine goesL_ (some 78) rfl rfl Tryd.func33 (by kernel_rfl) rfl #[.int .i64 (l0_3.length : Int),.int .i64 1] rfl (by (try simp only [sE,sH,sI]);first|done|rfl|(simp only [sG,sF];rfl)) ?_;(with_reducible refine (impl_number.calls k1 (l0_3.length : Int) 1 t336 _ A53.out).mono ?_);rintro e w56 ⟨rfl,hb⟩;refine ⟨_,rfl,?_⟩;have n0_:=qh9 (qi9 (g:=gb321) (o:=.cells #[.int .i64 a0_0,.int .i64 a0_1,.slice A0_2 l0_2.length c0_2,.slice A0_3 l0_3.length c0_3] 32 (0,0)) (by (with_reducible repeat (first|apply qa9|apply qb9|apply qc9));exact BK321.out) hb);have n1_:=qh9 (sN (by repeat (first|(with_reducible first|exact HB.out|apply qd9|apply qe9|apply qf9|refine qg9 ?_ GE321.out)|exact HB.out)) hb);clear BK321;clear HB;have BK321:=n0_;have HB:=n1_;clear n0_ n1_;(try clear hb);(try clear hb2);(try clear hk);(try clear hi);have hcz57_0 : w56.cell? ⟨gb321,0,none⟩ = some (.int .i64 a0_0):=(blk_cell BK321.out 0).trans rfl;have hcz57_1 : w56.cell? ⟨gb321,1,none⟩ = some (.int .i64 a0_1):=(blk_cell BK321.out 1).trans rfl;have hcz57_2 : w56.cell? ⟨gb321,2,none⟩ = some (.slice A0_2 l0_2.length c0_2):=(blk_cell BK321.out 2).trans rfl;have hcz57_3 : w56.cell? ⟨gb321,3,none⟩ = some (.slice A0_3 l0_3.length c0_3):=(blk_cell BK321.out 3).trans rfl;have hfz57_0:=sJ BK321.out 0;have hfz57_1:=sJ BK321.out 1;have hfz57_2:=sJ BK321.out 2;have hfz57_3:=sJ BK321.out 3))
       go_loopg [3,83] k1 (fun kq v3 v83 w' => ∃ (x3_2 : ByteArray) (x83_2 : Int),v3 = .string x3_2 ∧ v83 = .int .i64 x83_2 ∧ Aside0 (impl_tableText.l2 kq x3_2 l0_3 (l0_3.length : Int) x83_2 = some r) ∧ Aside0 (kq ≤ k1) ∧ Aside0 (w'.heap[gb321]? = some (.cells #[.int .i64 a0_0,.int .i64 a0_1,(.slice A0_2 l0_2.length c0_2),(.slice A0_3 l0_3.length c0_3)] 32 (0,0))) ∧ Aside0 (Below w.heap.size w w'))
       case atStart => exact ⟨(x3_1 ++ t336),(0),(by first|rfl|(simp;done)|(simp [*];done)),(by first|rfl|(simp;done)|(simp [*];done)),H',⟨Nat.le_refl _⟩,⟨by (with_reducible repeat (first|apply qa9|apply qb9|apply qc9));exact BK321.out⟩,⟨by repeat (first|(with_reducible first|exact HB.out|apply qd9|apply qe9|apply qf9|refine qg9 ?_ GE321.out)|exact HB.out)⟩⟩
       case round =>
        clear H'
        try clear c1
        try clear c2
        try clear p2
        try clear c3
        try clear p3
        try clear q3
        try clear hx3
        try clear c4
        try clear c4b0
        try clear c4b1
        try clear c4b2
        try clear c5
        try clear c6
        try clear c6b0
        try clear c6b1
        try clear c6b2
        try clear p6
        try clear c13
        try clear c13b0
        try clear c14
        try clear c14b0
        try clear c15
        try clear c15b0
        try clear c17
        try clear c17b0
        try clear c17b1
        try clear c17b2
        try clear c19
        try clear c19b0
        try clear c19b1
        try clear c19b2
        try clear c21
        try clear c21b0
        try clear c21b1
        try clear c21b2
        try clear c23
        try clear c23b0
        try clear c23b1
        try clear c23b2
        try clear c25
        try clear c25b0
        try clear c25b1
        try clear c25b2
        try clear c26
        try clear c26b0
        try clear c26b1
        try clear c26b2
        try clear c28
        try clear c32
        try clear p32
        try clear q32
        try clear hx32
        try clear c33
        try clear p33
        try clear q33
        try clear hx33
        try clear c38
        try clear c38b0
        try clear c39
        try clear c39b0
        try clear c40
        try clear c40b0
        try clear c43
        try clear c43b0
        try clear c43b1
        try clear c43b2
        try clear c44
        try clear c44b0
        try clear c44b1
        try clear c44b2
        try clear c46
        try clear c47
        try clear c54
        try clear c54b0
        try clear c54b1
        try clear c54b2
        try clear hcz12_0
        try clear hcz12_1
        try clear hcz12_2
        try clear hcz12_3
        try clear hcz29_0
        try clear hcz29_1
        try clear hcz29_2
        try clear hcz29_3
        try clear hcz29_4
        try clear hcz37_0
        try clear hcz37_1
        try clear hcz37_2
        try clear hcz37_3
        try clear hcz37_4
        try clear hcz48_0
        try clear hcz48_1
        try clear hcz55_0
        try clear hcz55_1
        try clear hcz55_2
        try clear hcz55_3
        try clear hcz57_0
        try clear hcz57_1
        try clear hcz57_2
        try clear hcz57_3
        try clear hfz12_0
        try clear hfz12_1
        try clear hfz12_2
        try clear hfz12_3
        try clear hfz29_0
        try clear hfz29_1
        try clear hfz29_2
        try clear hfz29_3
        try clear hfz29_4
        try clear hfz37_0
        try clear hfz37_1
        try clear hfz37_2
        try clear hfz37_3
        try clear hfz37_4
        try clear hfz48_0
        try clear hfz48_1
        try clear hfz55_0
        try clear hfz55_1
        try clear hfz55_2
        try clear hfz55_3
        try clear hfz57_0
        try clear hfz57_1
        try clear hfz57_2
        try clear hfz57_3
        try clear hx325_0
        try clear hx325_1
        try clear hx325_2
        try clear hx325_3
        try clear hx325_4
        try clear hx332_0
        try clear hx332_1
        try clear p2
        try clear p3
        try clear p32
        try clear p325
        try clear p332
        try clear p6
        try clear q3
        try clear q32
        try clear q325
        try clear q332
        obtain ⟨x3_2,x83_2,rfl,rfl,HA,HK2,BK321,HB⟩:=hrel
        cases gk with
        | zero => exact absurd HA.out (by simp [impl_tableText.l2])
        | succ k2 =>
         have H:=HA.out
         clear HA
         simp only [impl_tableText.l2] at H
         by_cases c58 : x83_2 < (l0_3.length : Int)
         ·
          rw [if_pos c58] at H
          have c58b0 : decide (x83_2 < (l0_3.length : Int)) = true:=decide_eq_true c58
          clear c58
          by_cases c59 : 0 ≤ x83_2
          ·
           rw [if_pos c59] at H
           have c59b0 : decide (0 ≤ x83_2) = true:=decide_eq_true c59
           clear c59
           by_cases c60 : x83_2 < (l0_3.length : Int)
           ·
            rw [if_pos c60] at H
            have c60b0 : decide (x83_2 < (l0_3.length : Int)) = true:=decide_eq_true c60
            clear c60
            replace H:=Option.bind_eq_some_iff.mp H
            obtain ⟨t339,A610,H⟩:=H
            replace H : ((impl_number.f k2 ((rd_T62 l0_3 x83_2).f1) 2).bind fun t340 => (if t339.size + t340.size ≤ 9223372036854775807 then ((impl_answerText.f k2 ((rd_T62 l0_3 x83_2).f2.f0) ((rd_T62 l0_3 x83_2).f2.f1) ((rd_T62 l0_3 x83_2).f2.f2) ((rd_T62 l0_3 x83_2).f2.f3)).bind fun t341 => (if (t339 ++ t340).size + t341.size ≤ 9223372036854775807 then (if x3_2.size + ((t339 ++ t340) ++ t341).size ≤ 9223372036854775807 then (impl_tableText.l2 k2 (x3_2 ++ ((t339 ++ t340) ++ t341)) l0_3 (l0_3.length : Int) (wrap64 (x83_2 + 1))) else (none)) else (none))) else (none))) = some r:=H
            have A61:=qh9 A610
            clear A610
            replace H:=Option.bind_eq_some_iff.mp H
            obtain ⟨t340,A620,H⟩:=H
            replace H : (if t339.size + t340.size ≤ 9223372036854775807 then ((impl_answerText.f k2 ((rd_T62 l0_3 x83_2).f2.f0) ((rd_T62 l0_3 x83_2).f2.f1) ((rd_T62 l0_3 x83_2).f2.f2) ((rd_T62 l0_3 x83_2).f2.f3)).bind fun t341 => (if (t339 ++ t340).size + t341.size ≤ 9223372036854775807 then (if x3_2.size + ((t339 ++ t340) ++ t341).size ≤ 9223372036854775807 then (impl_tableText.l2 k2 (x3_2 ++ ((t339 ++ t340) ++ t341)) l0_3 (l0_3.length : Int) (wrap64 (x83_2 + 1))) else (none)) else (none))) else (none)) = some r:=H
            have A62:=qh9 A620
            clear A620
            by_cases c63 : t339.size + t340.size ≤ 9223372036854775807
            ·
             rw [if_pos c63] at H
             have c63b0:=eq_true c63
             have c63b1 : decide (t339.size + t340.size ≤ 9223372036854775807) = true:=decide_eq_true c63
             try have c63b2 : (9223372036854775807 < t339.size + t340.size) = False:=eq_false (Nat.not_lt.2 c63)
             replace H:=Option.bind_eq_some_iff.mp H
             obtain ⟨t341,A640,H⟩:=H
             replace H : (if (t339 ++ t340).size + t341.size ≤ 9223372036854775807 then (if x3_2.size + ((t339 ++ t340) ++ t341).size ≤ 9223372036854775807 then (impl_tableText.l2 k2 (x3_2 ++ ((t339 ++ t340) ++ t341)) l0_3 (l0_3.length : Int) (wrap64 (x83_2 + 1))) else (none)) else (none)) = some r:=H
             have A64:=qh9 A640
             clear A640
             by_cases c65 : (t339 ++ t340).size + t341.size ≤ 9223372036854775807
             ·
              rw [if_pos c65] at H
              have c65b0:=eq_true c65
              have c65b1 : decide ((t339 ++ t340).size + t341.size ≤ 9223372036854775807) = true:=decide_eq_true c65
              try have c65b2 : (9223372036854775807 < (t339 ++ t340).size + t341.size) = False:=eq_false (Nat.not_lt.2 c65)
              (try (have c65b3:=c65;simp only [ByteArray.size_append] at c65b3;have c65b4:=eq_false (Nat.not_lt.2 c65b3)))
              by_cases c66 : x3_2.size + ((t339 ++ t340) ++ t341).size ≤ 9223372036854775807
              ·
               rw [if_pos c66] at H
               have c66b0:=eq_true c66
               have c66b1 : decide (x3_2.size + ((t339 ++ t340) ++ t341).size ≤ 9223372036854775807) = true:=decide_eq_true c66
               try have c66b2 : (9223372036854775807 < x3_2.size + ((t339 ++ t340) ++ t341).size) = False:=eq_false (Nat.not_lt.2 c66)
               (try (have c66b3:=c66;simp only [ByteArray.size_append] at c66b3;have c66b4:=eq_false (Nat.not_lt.2 c66b3)))
               have H':=qh9 H
               clear H
               have p337 : 0 ≤ (x83_2 : Int):=sM (by first|(with_reducible assumption)|assumption)
               have q337 : x83_2 < (l0_3.length : Int):=sM (by first|(with_reducible assumption)|assumption)
               obtain ⟨ad337,e337,hx337_0,hx337_1,hx337_2,hx337_3,hx337_4,hx337_5⟩:=at_T62 HR0_3.out x83_2 p337 q337
               cases e337
               replace hx337_0:=(HB.out.cell (sD w _ hx337_0)).trans hx337_0
               replace hx337_1:=(HB.out.cell (sD w _ hx337_1)).trans hx337_1
               replace hx337_2:=(HB.out.cell (sD w _ hx337_2)).trans hx337_2
               replace hx337_3:=(HB.out.cell (sD w _ hx337_3)).trans hx337_3
               replace hx337_4:=(HB.out.cell (sD w _ hx337_4)).trans hx337_4
               replace hx337_5:=(HB.out.cell (sD w _ hx337_5)).trans hx337_5
               replace p337:=eq_true p337
               replace q337:=eq_true q337
               try go_wp2_with (first|((with_reducible refine gate_dst (N:=9) rfl ?_);refine box_event ?hg (N:=9) ?hd (cs:=#[.int .i64 0,.int .i64 0,.int .i64 0,.int .i64 0,.int .i64 0,.int .i64 0]) (t:=62) ?hr ?_;(case hd => rfl);(case hg => rfl);(case hr => first|(go_simp;done)|(go_simp;rfl));intro gb338 hg w67 hbox hb;have n0_:=qh9 (qi9 (g:=gb321) (o:=.cells #[.int .i64 a0_0,.int .i64 a0_1,.slice A0_2 l0_2.length c0_2,.slice (some ad337) l0_3.length c0_3] 32 (0,0)) (by (with_reducible repeat (first|apply qa9|apply qb9|apply qc9));exact BK321.out) hb);have n1_:=qh9 (sN (by repeat (first|(with_reducible first|exact HB.out|apply qd9|apply qe9|apply qf9|refine qg9 ?_ GE321.out)|exact HB.out)) hb);have n2_:=qh9 (hbox);have n3_:=qh9 ((by rw [hg];exact (below_size (by repeat (first|(with_reducible first|exact HB.out|apply qd9|apply qe9|apply qf9|refine qg9 ?_ GE321.out)|exact HB.out))) : w.heap.size ≤ gb338));have n4_:=qh9 ((by rw [hg];exact (below_size (by repeat (first|(with_reducible first|exact HB.out|apply qd9|apply qe9|apply qf9|refine qg9 ?_ GE321.out)|exact HB.out))) : w.heap.size ≤ gb338));have n5_:=qh9 ((by rw [hg];exact Nat.ne_of_lt (blk_lt (g:=gb321) (o:=.cells #[.int .i64 a0_0,.int .i64 a0_1,.slice A0_2 l0_2.length c0_2,.slice (some ad337) l0_3.length c0_3] 32 (0,0)) (by (with_reducible repeat (first|apply qa9|apply qb9|apply qc9));exact BK321.out)) : gb321 ≠ gb338));have n6_:=qh9 ((by rw [hg];exact Nat.ne_of_gt (blk_lt (g:=gb321) (o:=.cells #[.int .i64 a0_0,.int .i64 a0_1,.slice A0_2 l0_2.length c0_2,.slice (some ad337) l0_3.length c0_3] 32 (0,0)) (by (with_reducible repeat (first|apply qa9|apply qb9|apply qc9));exact BK321.out)) : gb338 ≠ gb321));clear BK321;clear HB;have BK321:=n0_;have HB:=n1_;have BK338:=n2_;have GW338:=n3_;have GE338:=n4_;have NB321_338:=n5_;have NB338_321:=n6_;clear n0_ n1_ n2_ n3_ n4_ n5_ n6_;clear hb hbox hg;have hnb68:=NB338_321.out;have hnc68:=NB321_338.out;have hcz69_0 : w67.cell? ⟨gb338,0,none⟩ = some (.int .i64 0):=(blk_cell BK338.out 0).trans rfl;have hcz69_1 : w67.cell? ⟨gb338,1,none⟩ = some (.int .i64 0):=(blk_cell BK338.out 1).trans rfl;have hcz69_2 : w67.cell? ⟨gb338,2,none⟩ = some (.int .i64 0):=(blk_cell BK338.out 2).trans rfl;have hcz69_3 : w67.cell? ⟨gb338,3,none⟩ = some (.int .i64 0):=(blk_cell BK338.out 3).trans rfl;have hcz69_4 : w67.cell? ⟨gb338,4,none⟩ = some (.int .i64 0):=(blk_cell BK338.out 4).trans rfl;have hcz69_5 : w67.cell? ⟨gb338,5,none⟩ = some (.int .i64 0):=(blk_cell BK338.out 5).trans rfl;have hfz69_0:=sJ BK338.out 0;have hfz69_1:=sJ BK338.out 1;have hfz69_2:=sJ BK338.out 2;have hfz69_3:=sJ BK338.out 3;have hfz69_4:=sJ BK338.out 4;have hfz69_5:=sJ BK338.out 5))
               have n0_ : Aside0 (((((((w67.setCell ⟨gb338,0,none⟩ (.int .i64 ((rd_T62 l0_3 x83_2).f0))).setCell ⟨gb338,1,none⟩ (.int .i64 ((rd_T62 l0_3 x83_2).f1))).setCell ⟨gb338,2,none⟩ (.int .i64 ((rd_T62 l0_3 x83_2).f2.f0))).setCell ⟨gb338,3,none⟩ (.int .i64 ((rd_T62 l0_3 x83_2).f2.f1))).setCell ⟨gb338,4,none⟩ (.int .i64 ((rd_T62 l0_3 x83_2).f2.f2))).setCell ⟨gb338,5,none⟩ (.int .i64 ((rd_T62 l0_3 x83_2).f2.f3))).heap[gb321]? = some (.cells #[.int .i64 a0_0,.int .i64 a0_1,.slice A0_2 l0_2.length c0_2,.slice (some ad337) l0_3.length c0_3] 32 (0,0))):=⟨by (with_reducible repeat (first|apply qa9|apply qb9|apply qc9));refine blk_far ?_ NB321_338.out _;(with_reducible repeat (first|apply qa9|apply qb9|apply qc9));refine blk_far ?_ NB321_338.out _;(with_reducible repeat (first|apply qa9|apply qb9|apply qc9));refine blk_far ?_ NB321_338.out _;(with_reducible repeat (first|apply qa9|apply qb9|apply qc9));refine blk_far ?_ NB321_338.out _;(with_reducible repeat (first|apply qa9|apply qb9|apply qc9));refine blk_far ?_ NB321_338.out _;(with_reducible repeat (first|apply qa9|apply qb9|apply qc9));refine blk_far ?_ NB321_338.out _;(with_reducible repeat (first|apply qa9|apply qb9|apply qc9));exact BK321.out⟩
               have n1_ : Aside0 (((((((w67.setCell ⟨gb338,0,none⟩ (.int .i64 ((rd_T62 l0_3 x83_2).f0))).setCell ⟨gb338,1,none⟩ (.int .i64 ((rd_T62 l0_3 x83_2).f1))).setCell ⟨gb338,2,none⟩ (.int .i64 ((rd_T62 l0_3 x83_2).f2.f0))).setCell ⟨gb338,3,none⟩ (.int .i64 ((rd_T62 l0_3 x83_2).f2.f1))).setCell ⟨gb338,4,none⟩ (.int .i64 ((rd_T62 l0_3 x83_2).f2.f2))).setCell ⟨gb338,5,none⟩ (.int .i64 ((rd_T62 l0_3 x83_2).f2.f3))).heap[gb338]? = some (.cells #[.int .i64 ((rd_T62 l0_3 x83_2).f0),.int .i64 ((rd_T62 l0_3 x83_2).f1),.int .i64 ((rd_T62 l0_3 x83_2).f2.f0),.int .i64 ((rd_T62 l0_3 x83_2).f2.f1),.int .i64 ((rd_T62 l0_3 x83_2).f2.f2),.int .i64 ((rd_T62 l0_3 x83_2).f2.f3)] 62 (0,0))):=⟨by (with_reducible repeat (first|apply qa9|apply qb9|apply qc9));refine blk_put (cs:=#[.int .i64 ((rd_T62 l0_3 x83_2).f0),.int .i64 ((rd_T62 l0_3 x83_2).f1),.int .i64 ((rd_T62 l0_3 x83_2).f2.f0),.int .i64 ((rd_T62 l0_3 x83_2).f2.f1),.int .i64 ((rd_T62 l0_3 x83_2).f2.f2),.int .i64 0]) ?_ 5 _ rfl;(with_reducible repeat (first|apply qa9|apply qb9|apply qc9));refine blk_put (cs:=#[.int .i64 ((rd_T62 l0_3 x83_2).f0),.int .i64 ((rd_T62 l0_3 x83_2).f1),.int .i64 ((rd_T62 l0_3 x83_2).f2.f0),.int .i64 ((rd_T62 l0_3 x83_2).f2.f1),.int .i64 0,.int .i64 0]) ?_ 4 _ rfl;(with_reducible repeat (first|apply qa9|apply qb9|apply qc9));refine blk_put (cs:=#[.int .i64 ((rd_T62 l0_3 x83_2).f0),.int .i64 ((rd_T62 l0_3 x83_2).f1),.int .i64 ((rd_T62 l0_3 x83_2).f2.f0),.int .i64 0,.int .i64 0,.int .i64 0]) ?_ 3 _ rfl;(with_reducible repeat (first|apply qa9|apply qb9|apply qc9));refine blk_put (cs:=#[.int .i64 ((rd_T62 l0_3 x83_2).f0),.int .i64 ((rd_T62 l0_3 x83_2).f1),.int .i64 0,.int .i64 0,.int .i64 0,.int .i64 0]) ?_ 2 _ rfl;(with_reducible repeat (first|apply qa9|apply qb9|apply qc9));refine blk_put (cs:=#[.int .i64 ((rd_T62 l0_3 x83_2).f0),.int .i64 0,.int .i64 0,.int .i64 0,.int .i64 0,.int .i64 0]) ?_ 1 _ rfl;(with_reducible repeat (first|apply qa9|apply qb9|apply qc9));refine blk_put (cs:=#[.int .i64 0,.int .i64 0,.int .i64 0,.int .i64 0,.int .i64 0,.int .i64 0]) ?_ 0 _ rfl;(with_reducible repeat (first|apply qa9|apply qb9|apply qc9));exact BK338.out⟩
               have n2_ : Aside0 (Below w.heap.size w ((((((w67.setCell ⟨gb338,0,none⟩ (.int .i64 ((rd_T62 l0_3 x83_2).f0))).setCell ⟨gb338,1,none⟩ (.int .i64 ((rd_T62 l0_3 x83_2).f1))).setCell ⟨gb338,2,none⟩ (.int .i64 ((rd_T62 l0_3 x83_2).f2.f0))).setCell ⟨gb338,3,none⟩ (.int .i64 ((rd_T62 l0_3 x83_2).f2.f1))).setCell ⟨gb338,4,none⟩ (.int .i64 ((rd_T62 l0_3 x83_2).f2.f2))).setCell ⟨gb338,5,none⟩ (.int .i64 ((rd_T62 l0_3 x83_2).f2.f3)))):=⟨by repeat (first|(with_reducible first|exact HB.out|apply qd9|apply qe9|apply qf9|refine qg9 ?_ GE321.out|refine qg9 ?_ GE338.out)|exact HB.out)⟩
               (try clear BK321)
               (try clear BK338)
               (try clear HB)
               generalize ((((((w67.setCell ⟨gb338,0,none⟩ (.int .i64 ((rd_T62 l0_3 x83_2).f0))).setCell ⟨gb338,1,none⟩ (.int .i64 ((rd_T62 l0_3 x83_2).f1))).setCell ⟨gb338,2,none⟩ (.int .i64 ((rd_T62 l0_3 x83_2).f2.f0))).setCell ⟨gb338,3,none⟩ (.int .i64 ((rd_T62 l0_3 x83_2).f2.f1))).setCell ⟨gb338,4,none⟩ (.int .i64 ((rd_T62 l0_3 x83_2).f2.f2))).setCell ⟨gb338,5,none⟩ (.int .i64 ((rd_T62 l0_3 x83_2).f2.f3))) = w70 at n0_ n1_ n2_ ⊢
               have BK321:=n0_
               have BK338:=n1_
               have HB:=n2_
               clear n0_ n1_ n2_
               have n0_:=qh9 (qb9 BK321.out)
               have n1_:=qh9 (qb9 BK338.out)
               have n2_:=qh9 (qf9 HB.out)
               clear BK321
               clear BK338
               clear HB
               have BK321:=n0_
               have BK338:=n1_
               have HB:=n2_
               clear n0_ n1_ n2_
               refine start_ (n:=14) (S:=fun w' => w'.cell? ⟨gb338,0,none⟩ = some (.int .i64 ((rd_T62 l0_3 x83_2).f0)) ∧ w'.cell? ⟨gb338,1,none⟩ = some (.int .i64 ((rd_T62 l0_3 x83_2).f1)) ∧ w'.cell? ⟨gb338,2,none⟩ = some (.int .i64 ((rd_T62 l0_3 x83_2).f2.f0)) ∧ w'.cell? ⟨gb338,3,none⟩ = some (.int .i64 ((rd_T62 l0_3 x83_2).f2.f1)) ∧ w'.cell? ⟨gb338,4,none⟩ = some (.int .i64 ((rd_T62 l0_3 x83_2).f2.f2)) ∧ w'.cell? ⟨gb338,5,none⟩ = some (.int .i64 ((rd_T62 l0_3 x83_2).f2.f3))) (ds:=[]) #[false,false,false,false,false,false,false,false,false,false,false,false,false,false] (by kernel_rfl) rfl rfl ⟨(blk_cell BK338.out 0).trans rfl,(blk_cell BK338.out 1).trans rfl,(blk_cell BK338.out 2).trans rfl,(blk_cell BK338.out 3).trans rfl,(blk_cell BK338.out 4).trans rfl,(blk_cell BK338.out 5).trans rfl⟩ (fun hHeld => ?_);refine with_tabW impl_tableText.tab16 impl_tableText.bits16 (fun HT_ HW_ => ?_)
               generalize w70.drew = w71 at BK321 BK338 HB hHeld ⊢
               refine pure_ (i:=0) (N:=some 87) (v:=?_) (a':=?_) #[true,false,false,false,false,false,false,false,false,false,false,false,false,false] rfl rfl (any_of HT_.out (by kernel_rfl)) (fun _ _ _ h => h) (Or.inl ⟨by rfl,?_⟩) ?_ ?_
               rotate_left
               ·
                intro w'
                go_simp
                with_reducible rfl
               rotate_left
               ·
                simp only [Act.put,sA,sB,sC,i64_w,i32_w]
                rfl
               refine pure_ (i:=1) (N:=some 88) (v:=?_) (a':=?_) #[true,true,false,false,false,false,false,false,false,false,false,false,false,false] rfl rfl (any_of HT_.out (by kernel_rfl)) (fun _ _ _ h => h) (Or.inl ⟨by rfl,?_⟩) ?_ ?_
               rotate_left
               ·
                intro w'
                go_simp
                with_reducible rfl
               rotate_left
               ·
                simp only [Act.put,sA,sB,sC,i64_w,i32_w]
                rfl
               refine pure_ (i:=4) (N:=some 91) (v:=?_) (a':=?_) #[true,true,false,false,true,false,false,false,false,false,false,false,false,false] rfl rfl (any_of HT_.out (by kernel_rfl)) (fun _ _ _ h => h) (Or.inl ⟨by rfl,?_⟩) ?_ ?_
               rotate_left
               ·
                intro w'
                go_simp
                with_reducible rfl
               rotate_left
               ·
                simp only [Act.put,sA,sB,sC,i64_w,i32_w]
                rfl
               refine pure_ (i:=8) (N:=some 95) (v:=?_) (a':=?_) #[true,true,false,false,true,false,false,false,true,false,false,false,false,false] rfl rfl (any_of HT_.out (by kernel_rfl)) (fun _ _ _ h => h) (Or.inl ⟨by rfl,?_⟩) ?_ ?_
               rotate_left
               ·
                intro w'
                go_simp
                with_reducible rfl
               rotate_left
               ·
                simp only [Act.put,sA,sB,sC,i64_w,i32_w]
                rfl
               refine take_ (i:=2) (N:=some 89) (v:=?_) (a':=?_) #[true,true,true,false,true,false,false,false,true,false,false,false,false,false] rfl rfl (take_ofW HT_.out HW_.out (by kernel_rfl)) (fun _ _ _ h => h) (Or.inl ⟨by rfl,?_⟩) hHeld ?_ ?_
               rotate_left
               ·
                rintro w' ⟨s0,s1,s2,s3,s4,s5⟩
                go_simp
                with_reducible rfl
               rotate_left
               ·
                simp only [Act.put,sA,sB,sC,i64_w,i32_w]
                rfl
               refine take_ (i:=5) (N:=some 92) (v:=?_) (a':=?_) #[true,true,true,false,true,true,false,false,true,false,false,false,false,false] rfl rfl (take_ofW HT_.out HW_.out (by kernel_rfl)) (fun _ _ _ h => h) (Or.inl ⟨by rfl,?_⟩) hHeld ?_ ?_
               rotate_left
               ·
                rintro w' ⟨s0,s1,s2,s3,s4,s5⟩
                go_simp
                with_reducible rfl
               rotate_left
               ·
                simp only [Act.put,sA,sB,sC,i64_w,i32_w]
                rfl
               refine take_ (i:=9) (N:=some 96) (v:=?_) (a':=?_) #[true,true,true,false,true,true,false,false,true,true,false,false,false,false] rfl rfl (take_ofW HT_.out HW_.out (by kernel_rfl)) (fun _ _ _ h => h) (Or.inl ⟨by rfl,?_⟩) hHeld ?_ ?_
               rotate_left
               ·
                rintro w' ⟨s0,s1,s2,s3,s4,s5⟩
                go_simp
                with_reducible rfl
               rotate_left
               ·
                simp only [Act.put,sA,sB,sC,i64_w,i32_w]
                rfl
               refine one_ (i:=3) (N:=some 90) #[true,true,true,true,true,true,false,false,true,true,false,false,false,false] rfl rfl (one_of HT_.out (by kernel_rfl)) (by decide) (fun K hK => ?_)
               refine goes_ Tryd.func33 (by kernel_rfl) rfl #[.int .i64 ((rd_T62 l0_3 x83_2).f0),.int .i64 1] (by rfl) rfl rfl (by (try simp only [sE,sH,sI]);first|done|rfl|(simp only [sG,sF];rfl)) ?_
               with_reducible refine (impl_number.calls k2 ((rd_T62 l0_3 x83_2).f0) 1 t339 _ A61.out).mono ?_
               rintro e w72 ⟨rfl,hb⟩
               refine ⟨_,rfl,?_⟩
               have n0_:=qh9 (qi9 (g:=gb321) (o:=.cells #[.int .i64 a0_0,.int .i64 a0_1,.slice A0_2 l0_2.length c0_2,.slice (some ad337) l0_3.length c0_3] 32 (0,0)) (by (with_reducible repeat (first|apply qa9|apply qb9|apply qc9));exact BK321.out) hb)
               have n1_:=qh9 (qi9 (g:=gb338) (o:=.cells #[.int .i64 ((rd_T62 l0_3 x83_2).f0),.int .i64 ((rd_T62 l0_3 x83_2).f1),.int .i64 ((rd_T62 l0_3 x83_2).f2.f0),.int .i64 ((rd_T62 l0_3 x83_2).f2.f1),.int .i64 ((rd_T62 l0_3 x83_2).f2.f2),.int .i64 ((rd_T62 l0_3 x83_2).f2.f3)] 62 (0,0)) (by (with_reducible repeat (first|apply qa9|apply qb9|apply qc9));exact BK338.out) hb)
               have n2_:=qh9 (sN (by repeat (first|(with_reducible first|exact HB.out|apply qd9|apply qe9|apply qf9|refine qg9 ?_ GE321.out|refine qg9 ?_ GE338.out)|exact HB.out)) hb)
               clear BK321
               clear BK338
               clear HB
               have BK321:=n0_
               have BK338:=n1_
               have HB:=n2_
               clear n0_ n1_ n2_
               (try clear hb)
               (try clear hb2)
               (try clear hk)
               (try clear hi)
               refine hK.out _ _ ⟨(blk_cell BK338.out 0).trans rfl,(blk_cell BK338.out 1).trans rfl,(blk_cell BK338.out 2).trans rfl,(blk_cell BK338.out 3).trans rfl,(blk_cell BK338.out 4).trans rfl,(blk_cell BK338.out 5).trans rfl⟩ (fun hHeld => ?_)
               clear hK K
               refine norm_ (a':=?_) ?_ ?_
               rotate_left
               ·
                show Act.put _ (some 90) _ = _
                simp only [Act.put,sA,sB,sC,i64_w,i32_w]
                rfl
               refine one_ (i:=6) (N:=some 93) #[true,true,true,true,true,true,true,false,true,true,false,false,false,false] rfl rfl (one_of HT_.out (by kernel_rfl)) (by decide) (fun K hK => ?_)
               refine goes_ Tryd.func33 (by kernel_rfl) rfl #[.int .i64 ((rd_T62 l0_3 x83_2).f1),.int .i64 2] (by rfl) rfl rfl (by (try simp only [sE,sH,sI]);first|done|rfl|(simp only [sG,sF];rfl)) ?_
               with_reducible refine (impl_number.calls k2 ((rd_T62 l0_3 x83_2).f1) 2 t340 _ A62.out).mono ?_
               rintro e w73 ⟨rfl,hb⟩
               refine ⟨_,rfl,?_⟩
               have n0_:=qh9 (qi9 (g:=gb321) (o:=.cells #[.int .i64 a0_0,.int .i64 a0_1,.slice A0_2 l0_2.length c0_2,.slice (some ad337) l0_3.length c0_3] 32 (0,0)) (by (with_reducible repeat (first|apply qa9|apply qb9|apply qc9));exact BK321.out) hb)
               have n1_:=qh9 (qi9 (g:=gb338) (o:=.cells #[.int .i64 ((rd_T62 l0_3 x83_2).f0),.int .i64 ((rd_T62 l0_3 x83_2).f1),.int .i64 ((rd_T62 l0_3 x83_2).f2.f0),.int .i64 ((rd_T62 l0_3 x83_2).f2.f1),.int .i64 ((rd_T62 l0_3 x83_2).f2.f2),.int .i64 ((rd_T62 l0_3 x83_2).f2.f3)] 62 (0,0)) (by (with_reducible repeat (first|apply qa9|apply qb9|apply qc9));exact BK338.out) hb)
               have n2_:=qh9 (sN (by repeat (first|(with_reducible first|exact HB.out|apply qd9|apply qe9|apply qf9|refine qg9 ?_ GE321.out|refine qg9 ?_ GE338.out)|exact HB.out)) hb)
               clear BK321
               clear BK338
               clear HB
               have BK321:=n0_
               have BK338:=n1_
               have HB:=n2_
               clear n0_ n1_ n2_
               (try clear hb)
               (try clear hb2)
               (try clear hk)
               (try clear hi)
               refine hK.out _ _ ⟨(blk_cell BK338.out 0).trans rfl,(blk_cell BK338.out 1).trans rfl,(blk_cell BK338.out 2).trans rfl,(blk_cell BK338.out 3).trans rfl,(blk_cell BK338.out 4).trans rfl,(blk_cell BK338.out 5).trans rfl⟩ (fun hHeld => ?_)
               clear hK K
               refine norm_ (a':=?_) ?_ ?_
               rotate_left
               ·
                show Act.put _ (some 93) _ = _
                simp only [Act.put,sA,sB,sC,i64_w,i32_w]
                rfl
               refine pure_ (i:=7) (N:=some 94) (v:=?_) (a':=?_) #[true,true,true,true,true,true,true,true,true,true,false,false,false,false] rfl rfl (any_of HT_.out (by kernel_rfl)) (fun _ _ _ h => h) (Or.inl ⟨by rfl,?_⟩) ?_ ?_
               rotate_left
               ·
                intro w'
                go_simp
                with_reducible rfl
               rotate_left
               ·
                simp only [Act.put,sA,sB,sC,i64_w,i32_w]
                rfl
               refine one_ (i:=10) (N:=some 97) #[true,true,true,true,true,true,true,true,true,true,true,false,false,false] rfl rfl (one_of HT_.out (by kernel_rfl)) (by decide) (fun K hK => ?_)
               refine goes_ Tryd.func35 (by kernel_rfl) rfl #[.agg #[.int .i64 ((rd_T62 l0_3 x83_2).f2.f0),.int .i64 ((rd_T62 l0_3 x83_2).f2.f1),.int .i64 ((rd_T62 l0_3 x83_2).f2.f2),.int .i64 ((rd_T62 l0_3 x83_2).f2.f3)]] (by rfl) rfl rfl (by (try simp only [sE,sH,sI]);first|done|rfl|(simp only [sG,sF];rfl)) ?_
               with_reducible refine (impl_answerText.calls k2 ((rd_T62 l0_3 x83_2).f2.f0) ((rd_T62 l0_3 x83_2).f2.f1) ((rd_T62 l0_3 x83_2).f2.f2) ((rd_T62 l0_3 x83_2).f2.f3) t341 _ A64.out).mono ?_
               rintro e w74 ⟨rfl,hb⟩
               refine ⟨_,rfl,?_⟩
               have n0_:=qh9 (qi9 (g:=gb321) (o:=.cells #[.int .i64 a0_0,.int .i64 a0_1,.slice A0_2 l0_2.length c0_2,.slice (some ad337) l0_3.length c0_3] 32 (0,0)) (by (with_reducible repeat (first|apply qa9|apply qb9|apply qc9));exact BK321.out) hb)
               have n1_:=qh9 (qi9 (g:=gb338) (o:=.cells #[.int .i64 ((rd_T62 l0_3 x83_2).f0),.int .i64 ((rd_T62 l0_3 x83_2).f1),.int .i64 ((rd_T62 l0_3 x83_2).f2.f0),.int .i64 ((rd_T62 l0_3 x83_2).f2.f1),.int .i64 ((rd_T62 l0_3 x83_2).f2.f2),.int .i64 ((rd_T62 l0_3 x83_2).f2.f3)] 62 (0,0)) (by (with_reducible repeat (first|apply qa9|apply qb9|apply qc9));exact BK338.out) hb)
               have n2_:=qh9 (sN (by repeat (first|(with_reducible first|exact HB.out|apply qd9|apply qe9|apply qf9|refine qg9 ?_ GE321.out|refine qg9 ?_ GE338.out)|exact HB.out)) hb)
               clear BK321
               clear BK338
               clear HB
               have BK321:=n0_
               have BK338:=n1_
               have HB:=n2_
               clear n0_ n1_ n2_
               (try clear hb)
               (try clear hb2)
               (try clear hk)
               (try clear hi)
               refine hK.out _ _ ⟨(blk_cell BK338.out 0).trans rfl,(blk_cell BK338.out 1).trans rfl,(blk_cell BK338.out 2).trans rfl,(blk_cell BK338.out 3).trans rfl,(blk_cell BK338.out 4).trans rfl,(blk_cell BK338.out 5).trans rfl⟩ (fun hHeld => ?_)
               clear hK K
               refine norm_ (a':=?_) ?_ ?_
               rotate_left
               ·
                show Act.put _ (some 97) _ = _
                simp only [Act.put,sA,sB,sC,i64_w,i32_w]
                rfl
               refine pure_ (i:=11) (N:=some 98) (v:=?_) (a':=?_) #[true,true,true,true,true,true,true,true,true,true,true,true,false,false] rfl rfl (any_of HT_.out (by kernel_rfl)) (fun _ _ _ h => h) (Or.inl ⟨by rfl,?_⟩) ?_ ?_
               rotate_left
               ·
                intro w'
                go_simp
                with_reducible rfl
               rotate_left
               ·
                simp only [Act.put,sA,sB,sC,i64_w,i32_w]
                rfl
               refine pure_ (i:=12) (N:=some 99) (v:=?_) (a':=?_) #[true,true,true,true,true,true,true,true,true,true,true,true,true,false] rfl rfl (any_of HT_.out (by kernel_rfl)) (fun _ _ _ h => h) (Or.inl ⟨by rfl,?_⟩) ?_ ?_
               rotate_left
               ·
                intro w'
                go_simp
                with_reducible rfl
               rotate_left
               ·
                simp only [Act.put,sA,sB,sC,i64_w,i32_w]
                rfl
               refine pure_ (i:=13) (N:=some 3) (v:=?_) (a':=?_) #[true,true,true,true,true,true,true,true,true,true,true,true,true,true] rfl rfl (any_of HT_.out (by kernel_rfl)) (fun _ _ _ h => h) (Or.inl ⟨by rfl,?_⟩) ?_ ?_
               rotate_left
               ·
                intro w'
                go_simp
                with_reducible rfl
               rotate_left
               ·
                simp only [Act.put,sA,sB,sC,i64_w,i32_w]
                rfl
               refine done_ (done_of HT_.out (by kernel_rfl)) ?_
               try go_wp2
               go_roundg k2
               case measure => have:=HK1.out;have:=HK2.out;omega
               case rel => exact ⟨(x3_2 ++ ((t339 ++ t340) ++ t341)),(wrap64 (x83_2 + 1)),(by first|rfl|(simp;done)|(simp [*];done)),(by first|rfl|(simp;done)|(simp [*];done)),H',⟨by have:=HK1.out;have:=HK2.out;omega⟩,⟨by (with_reducible repeat (first|apply qa9|apply qb9|apply qc9));exact BK321.out⟩,⟨by repeat (first|(with_reducible first|exact HB.out|apply qd9|apply qe9|apply qf9|refine qg9 ?_ GE321.out|refine qg9 ?_ GE338.out)|exact HB.out)⟩⟩
              ·
               rw [if_neg c66] at H
               exact absurd H (by simp)
             ·
              rw [if_neg c65] at H
              exact absurd H (by simp)
            ·
             rw [if_neg c63] at H
             exact absurd H (by simp)
           ·
            rw [if_neg c60] at H
            exact absurd H (by simp)
          ·
           rw [if_neg c59] at H
           exact absurd H (by simp)
         ·
          rw [if_neg c58] at H
          have c58b0 : decide (x83_2 < (l0_3.length : Int)) = false:=decide_eq_false c58
          clear c58
          obtain rfl:=sO H
          go_wp2
          go_ret
          exact ⟨by first|rfl|(simp [errW_none,errW_some] <;> rfl)|(simp [*,errW_none,errW_some] <;> rfl),by repeat (first|(with_reducible first|exact HB.out|apply qd9|apply qe9|apply qf9|refine qg9 ?_ GE321.out)|exact HB.out)⟩
      ·
       rw [if_neg c54] at H
       exact absurd H (by simp)
  ·
   rw [if_neg c6] at H
   exact absurd H (by simp)
 ·
  rw [if_neg c4] at H
  exact absurd H (by simp)

end Go.Proofs.YtjkanhjapddhnaaDoor.PFnExactTableDigest
