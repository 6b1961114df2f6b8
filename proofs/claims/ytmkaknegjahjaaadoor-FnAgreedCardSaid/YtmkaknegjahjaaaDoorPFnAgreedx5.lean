-- laid by this session's program myprint.py over the kit's printer
-- squeezed
-- aliased
import Derived.Test.YtmkaknegjahjaaaDoorPFnAgreedx0
import Derived.Test.YtmkaknegjahjaaaDoorPFnAgreedx1
import Derived.Test.YtmkaknegjahjaaaDoorPFnAgreedx3
import Derived.Test.YtmkaknegjahjaaaDoorPFnAgreedx4
namespace Go.Proofs.YtmkaknegjahjaaaDoor.PFnAgreed
open Go.RowKit Go.Proofs.YtmkaknegjahjaaaDoorV.PrintWords Go.Proofs.YtmkaknegjahjaaaDoorV.PrintLast Go.Proofs.YtmkaknegjahjaaaDoorV.PrintMore
attribute [local go_sem] max2_int min2_int max_two min_two max_three min_three max_four min_four u8_wm u32_wm   -- for this text's walks alone
set_option linter.unusedVariables false
set_option linter.unusedSimpArgs false

/-! ### impl_ReadingsTime: function 41 -/
theorem qa5 : type_of% @below_alloc:=@below_alloc
theorem qb5 : type_of% @pw_below_drewN:=@pw_below_drewN
theorem qc5 : type_of% @below_drew1:=@below_drew1
theorem qd5 : type_of% @Aside0.mk:=@Aside0.mk
def impl_ReadingsTime.f (k : Nat) (a0 : Int) (l1 : List (S72)) : Option (Int × Int):=(impl_Reading.f l1).bind fun t199 => (if t199 = true then (some (0,2)) else ((impl_areNodes.f a0).bind fun t200 => (if t200 = true then ((impl_readingsTime.f k a0 l1).bind fun bt201 => (if bt201.2 = true then (some (bt201.1,0)) else (some (0,12)))) else (some (0,4)))))
theorem impl_ReadingsTime.mono : ∀ a0 a1 k,LeO (impl_ReadingsTime.f k a0 a1) (impl_ReadingsTime.f (k + 1) a0 a1):=by
 intro a0 a1 k
 unfold impl_ReadingsTime.f
 repeat' first
   | (with_reducible exact impl_readingsTime.mono _ _ _)
   | (with_reducible exact LeO.refl _)
   | (with_reducible exact LeO.none _)
   | (with_reducible refine LeO.ite ?_ ?_)
   | (with_reducible refine LeO.bind ?_ (fun _ => ?_))
   | exact impl_readingsTime.mono _ _ _
   | exact LeO.none _
   | refine LeO.ite ?_ ?_
   | refine LeO.bind ?_ (fun _ => ?_)
set_option maxHeartbeats 8000000 in
set_option maxRecDepth 100000 in
theorem impl_ReadingsTime.calls (k : Nat) (a0 : Int) (A1 : Option Addr) (c1 : Nat) (l1 : List (S72)) (r1 : Int) (r2 : Int) (w : World) (hr1 : Kd.C k72 w A1 l1.length l1) (hc1 : l1.length ≤ c1) (hG_ : Go.Proofs.YtmkaknegjahjaaaDoor.Sha.GlobA w) (h : impl_ReadingsTime.f k a0 l1 = some (r1,r2)) :
  Calls Tryd.prog 41 #[.int .i64 a0,.slice A1 l1.length c1] w fun e w' => e = .returned (.tuple #[.int .i64 r1,.int .i64 r2]) ∧ Below w.heap.size w w':=by
 have HR1:=qd5 hr1
 have HC1:=qd5 hc1
 clear hr1 hc1
 have HB:=qd5 (Below.refl w.heap.size w)
 have H : ((impl_Reading.f l1).bind fun t199 => (if t199 = true then (some (0,2)) else ((impl_areNodes.f a0).bind fun t200 => (if t200 = true then ((impl_readingsTime.f k a0 l1).bind fun bt201 => (if bt201.2 = true then (some (bt201.1,0)) else (some (0,12)))) else (some (0,4)))))) = some (r1,r2):=h
 clear h
 replace H:=Option.bind_eq_some_iff.mp H
 obtain ⟨t199,A30,H⟩:=H
 replace H : (if t199 = true then (some (0,2)) else ((impl_areNodes.f a0).bind fun t200 => (if t200 = true then ((impl_readingsTime.f k a0 l1).bind fun bt201 => (if bt201.2 = true then (some (bt201.1,0)) else (some (0,12)))) else (some (0,4))))) = some (r1,r2):=H
 have A3:=qd5 A30
 clear A30
 by_cases c4 : t199 = true
 ·
  subst c4
  have H1 : (some (0,2)) = some (r1,r2):=by rw [if_pos rfl] at H;exact H
  clear H
  have H:=H1
  clear H1
  simp only [Option.some.injEq,Prod.mk.injEq] at H
  obtain ⟨rfl,rfl⟩:=H
  go_enter Tryd.func41,Tryd.ntmps41
  go_wp2_with (first|((with_reducible refine gate_callee (f:=92) rfl ?_);refine goesL_ (some 9) rfl rfl Tryd.func92 (by kernel_rfl) rfl #[.slice A1 l1.length c1] rfl (by (try simp only [List.map_toArray,List.map_cons,List.map_nil]);first|done|rfl|(simp only [List.length_drop,List.length_take];rfl)) ?_;(with_reducible refine (impl_Reading.calls _ _ l1 true _ ?side1 ?side2 A3.out).mono ?_);(case side1 => repeat (first|exact HR1.out|(with_reducible refine Kd.C_alloc ?_ _)|(with_reducible refine Kd.C_drewN ?_ _)|(with_reducible refine Kd.C_drew ?_)));(case side2 => exact HC1.out);rintro e w' ⟨rfl,⟨nd,rfl⟩⟩;refine ⟨_,rfl,?_⟩))
  go_ret2
  exact ⟨by first|rfl|(simp [errW_none,errW_some] <;> rfl)|(simp [*,errW_none,errW_some] <;> rfl),by repeat (first|(with_reducible first|exact HB.out|apply qa5|apply qb5|apply qc5)|exact HB.out)⟩
 ·
  replace c4:=Bool.eq_false_iff.mpr c4
  subst c4
  have H1 : ((impl_areNodes.f a0).bind fun t200 => (if t200 = true then ((impl_readingsTime.f k a0 l1).bind fun bt201 => (if bt201.2 = true then (some (bt201.1,0)) else (some (0,12)))) else (some (0,4)))) = some (r1,r2):=by rw [if_neg (show ¬ (false = true) by decide)] at H;exact H
  clear H
  have H:=H1
  clear H1
  replace H:=Option.bind_eq_some_iff.mp H
  obtain ⟨t200,A50,H⟩:=H
  replace H : (if t200 = true then ((impl_readingsTime.f k a0 l1).bind fun bt201 => (if bt201.2 = true then (some (bt201.1,0)) else (some (0,12)))) else (some (0,4))) = some (r1,r2):=H
  have A5:=qd5 A50
  clear A50
  by_cases c6 : t200 = true
  ·
   subst c6
   have H1 : ((impl_readingsTime.f k a0 l1).bind fun bt201 => (if bt201.2 = true then (some (bt201.1,0)) else (some (0,12)))) = some (r1,r2):=by rw [if_pos rfl] at H;exact H
   clear H
   have H:=H1
   clear H1
   replace H:=Option.bind_eq_some_iff.mp H
   obtain ⟨⟨t201,t202⟩,A70,H⟩:=H
   replace H : (if t202 = true then (some (t201,0)) else (some (0,12))) = some (r1,r2):=H
   have A7:=qd5 A70
   clear A70
   by_cases c8 : t202 = true
   ·
    subst c8
    have H1 : (some (t201,0)) = some (r1,r2):=by rw [if_pos rfl] at H;exact H
    clear H
    have H:=H1
    clear H1
    simp only [Option.some.injEq,Prod.mk.injEq] at H
    obtain ⟨rfl,rfl⟩:=H
    go_enter Tryd.func41,Tryd.ntmps41
    go_wp2_with (first|((with_reducible refine gate_callee (f:=92) rfl ?_);refine goesL_ (some 9) rfl rfl Tryd.func92 (by kernel_rfl) rfl #[.slice A1 l1.length c1] rfl (by (try simp only [List.map_toArray,List.map_cons,List.map_nil]);first|done|rfl|(simp only [List.length_drop,List.length_take];rfl)) ?_;(with_reducible refine (impl_Reading.calls _ _ l1 false _ ?side1 ?side2 A3.out).mono ?_);(case side1 => repeat (first|exact HR1.out|(with_reducible refine Kd.C_alloc ?_ _)|(with_reducible refine Kd.C_drewN ?_ _)|(with_reducible refine Kd.C_drew ?_)));(case side2 => exact HC1.out);rintro e w' ⟨rfl,⟨nd,rfl⟩⟩;refine ⟨_,rfl,?_⟩)|((with_reducible refine gate_callee (f:=93) rfl ?_);refine goesL_ (some 11) rfl rfl Tryd.func93 (by kernel_rfl) rfl #[.int .i64 a0] rfl (by (try simp only [List.map_toArray,List.map_cons,List.map_nil]);first|done|rfl|(simp only [List.length_drop,List.length_take];rfl)) ?_;(with_reducible refine (impl_areNodes.calls a0 true _ A5.out).mono ?_);rintro e w' ⟨rfl,⟨nd,rfl⟩⟩;refine ⟨_,rfl,?_⟩)|((with_reducible refine gate_callee (f:=94) rfl ?_);refine goesL_ (some 16) rfl rfl Tryd.func94 (by kernel_rfl) rfl #[.int .i64 a0,.slice A1 l1.length c1] rfl (by (try simp only [List.map_toArray,List.map_cons,List.map_nil]);first|done|rfl|(simp only [List.length_drop,List.length_take];rfl)) ?_;(with_reducible refine (impl_readingsTime.calls k a0 _ _ l1 t201 true _ ?side1 ?side2 ?side3 A7.out).mono ?_);(case side1 => repeat (first|exact HR1.out|(with_reducible refine Kd.C_alloc ?_ _)|(with_reducible refine Kd.C_drewN ?_ _)|(with_reducible refine Kd.C_drew ?_)));(case side2 => exact HC1.out);(case side3 => exact Go.Proofs.YtmkaknegjahjaaaDoor.Sha.glob_below hG_ (by repeat (first|(with_reducible first|exact HB.out|apply qa5|apply qb5|apply qc5)|exact HB.out)));rintro e w9 ⟨rfl,hb⟩;refine ⟨_,rfl,?_⟩;have n0_:=qd5 (below_step (by repeat (first|(with_reducible first|exact HB.out|apply qa5|apply qb5|apply qc5)|exact HB.out)) hb);clear HB;have HB:=n0_;clear n0_;(try clear hb);(try clear hb2);(try clear hk);(try clear hi)))
    go_ret2
    exact ⟨by first|rfl|(simp [errW_none,errW_some] <;> rfl)|(simp [*,errW_none,errW_some] <;> rfl),by repeat (first|(with_reducible first|exact HB.out|apply qa5|apply qb5|apply qc5)|exact HB.out)⟩
   ·
    replace c8:=Bool.eq_false_iff.mpr c8
    subst c8
    have H1 : (some (0,12)) = some (r1,r2):=by rw [if_neg (show ¬ (false = true) by decide)] at H;exact H
    clear H
    have H:=H1
    clear H1
    simp only [Option.some.injEq,Prod.mk.injEq] at H
    obtain ⟨rfl,rfl⟩:=H
    go_enter Tryd.func41,Tryd.ntmps41
    go_wp2_with (first|((with_reducible refine gate_callee (f:=92) rfl ?_);refine goesL_ (some 9) rfl rfl Tryd.func92 (by kernel_rfl) rfl #[.slice A1 l1.length c1] rfl (by (try simp only [List.map_toArray,List.map_cons,List.map_nil]);first|done|rfl|(simp only [List.length_drop,List.length_take];rfl)) ?_;(with_reducible refine (impl_Reading.calls _ _ l1 false _ ?side1 ?side2 A3.out).mono ?_);(case side1 => repeat (first|exact HR1.out|(with_reducible refine Kd.C_alloc ?_ _)|(with_reducible refine Kd.C_drewN ?_ _)|(with_reducible refine Kd.C_drew ?_)));(case side2 => exact HC1.out);rintro e w' ⟨rfl,⟨nd,rfl⟩⟩;refine ⟨_,rfl,?_⟩)|((with_reducible refine gate_callee (f:=93) rfl ?_);refine goesL_ (some 11) rfl rfl Tryd.func93 (by kernel_rfl) rfl #[.int .i64 a0] rfl (by (try simp only [List.map_toArray,List.map_cons,List.map_nil]);first|done|rfl|(simp only [List.length_drop,List.length_take];rfl)) ?_;(with_reducible refine (impl_areNodes.calls a0 true _ A5.out).mono ?_);rintro e w' ⟨rfl,⟨nd,rfl⟩⟩;refine ⟨_,rfl,?_⟩)|((with_reducible refine gate_callee (f:=94) rfl ?_);refine goesL_ (some 16) rfl rfl Tryd.func94 (by kernel_rfl) rfl #[.int .i64 a0,.slice A1 l1.length c1] rfl (by (try simp only [List.map_toArray,List.map_cons,List.map_nil]);first|done|rfl|(simp only [List.length_drop,List.length_take];rfl)) ?_;(with_reducible refine (impl_readingsTime.calls k a0 _ _ l1 t201 false _ ?side1 ?side2 ?side3 A7.out).mono ?_);(case side1 => repeat (first|exact HR1.out|(with_reducible refine Kd.C_alloc ?_ _)|(with_reducible refine Kd.C_drewN ?_ _)|(with_reducible refine Kd.C_drew ?_)));(case side2 => exact HC1.out);(case side3 => exact Go.Proofs.YtmkaknegjahjaaaDoor.Sha.glob_below hG_ (by repeat (first|(with_reducible first|exact HB.out|apply qa5|apply qb5|apply qc5)|exact HB.out)));rintro e w10 ⟨rfl,hb⟩;refine ⟨_,rfl,?_⟩;have n0_:=qd5 (below_step (by repeat (first|(with_reducible first|exact HB.out|apply qa5|apply qb5|apply qc5)|exact HB.out)) hb);clear HB;have HB:=n0_;clear n0_;(try clear hb);(try clear hb2);(try clear hk);(try clear hi)))
    go_ret2
    exact ⟨by first|rfl|(simp [errW_none,errW_some] <;> rfl)|(simp [*,errW_none,errW_some] <;> rfl),by repeat (first|(with_reducible first|exact HB.out|apply qa5|apply qb5|apply qc5)|exact HB.out)⟩
  ·
   replace c6:=Bool.eq_false_iff.mpr c6
   subst c6
   have H1 : (some (0,4)) = some (r1,r2):=by rw [if_neg (show ¬ (false = true) by decide)] at H;exact H
   clear H
   have H:=H1
   clear H1
   simp only [Option.some.injEq,Prod.mk.injEq] at H
   obtain ⟨rfl,rfl⟩:=H
   go_enter Tryd.func41,Tryd.ntmps41
   go_wp2_with (first|((with_reducible refine gate_callee (f:=92) rfl ?_);refine goesL_ (some 9) rfl rfl Tryd.func92 (by kernel_rfl) rfl #[.slice A1 l1.length c1] rfl (by (try simp only [List.map_toArray,List.map_cons,List.map_nil]);first|done|rfl|(simp only [List.length_drop,List.length_take];rfl)) ?_;(with_reducible refine (impl_Reading.calls _ _ l1 false _ ?side1 ?side2 A3.out).mono ?_);(case side1 => repeat (first|exact HR1.out|(with_reducible refine Kd.C_alloc ?_ _)|(with_reducible refine Kd.C_drewN ?_ _)|(with_reducible refine Kd.C_drew ?_)));(case side2 => exact HC1.out);rintro e w' ⟨rfl,⟨nd,rfl⟩⟩;refine ⟨_,rfl,?_⟩)|((with_reducible refine gate_callee (f:=93) rfl ?_);refine goesL_ (some 11) rfl rfl Tryd.func93 (by kernel_rfl) rfl #[.int .i64 a0] rfl (by (try simp only [List.map_toArray,List.map_cons,List.map_nil]);first|done|rfl|(simp only [List.length_drop,List.length_take];rfl)) ?_;(with_reducible refine (impl_areNodes.calls a0 false _ A5.out).mono ?_);rintro e w' ⟨rfl,⟨nd,rfl⟩⟩;refine ⟨_,rfl,?_⟩))
   go_ret2
   exact ⟨by first|rfl|(simp [errW_none,errW_some] <;> rfl)|(simp [*,errW_none,errW_some] <;> rfl),by repeat (first|(with_reducible first|exact HB.out|apply qa5|apply qb5|apply qc5)|exact HB.out)⟩

/-! ### impl_AgreedTime: function 44 -/
def impl_AgreedTime.f (k : Nat) (a0 : Int) (a1 : Int) (l2 : List (S72)) : Option (Int × Int):=(impl_ReadingsTime.f k a1 l2).bind fun bt203 => (if bt203.2 = 0 then (some (mx bt203.1 a0,0)) else (some (0,bt203.2)))
theorem impl_AgreedTime.mono : ∀ a0 a1 a2 k,LeO (impl_AgreedTime.f k a0 a1 a2) (impl_AgreedTime.f (k + 1) a0 a1 a2):=by
 intro a0 a1 a2 k
 unfold impl_AgreedTime.f
 repeat' first
   | (with_reducible exact impl_ReadingsTime.mono _ _ _)
   | (with_reducible exact LeO.refl _)
   | (with_reducible exact LeO.none _)
   | (with_reducible refine LeO.ite ?_ ?_)
   | (with_reducible refine LeO.bind ?_ (fun _ => ?_))
   | exact impl_ReadingsTime.mono _ _ _
   | exact LeO.none _
   | refine LeO.ite ?_ ?_
   | refine LeO.bind ?_ (fun _ => ?_)
set_option maxHeartbeats 8000000 in
set_option maxRecDepth 100000 in
theorem impl_AgreedTime.calls (k : Nat) (a0 : Int) (a1 : Int) (A2 : Option Addr) (c2 : Nat) (l2 : List (S72)) (r1 : Int) (r2 : Int) (w : World) (hr2 : Kd.C k72 w A2 l2.length l2) (hc2 : l2.length ≤ c2) (hG_ : Go.Proofs.YtmkaknegjahjaaaDoor.Sha.GlobA w) (h : impl_AgreedTime.f k a0 a1 l2 = some (r1,r2)) :
  Calls Tryd.prog 44 #[.int .i64 a0,.int .i64 a1,.slice A2 l2.length c2] w fun e w' => e = .returned (.tuple #[.int .i64 r1,.int .i64 r2]) ∧ Below w.heap.size w w':=by
 have HR2:=qd5 hr2
 have HC2:=qd5 hc2
 clear hr2 hc2
 have HB:=qd5 (Below.refl w.heap.size w)
 have H : ((impl_ReadingsTime.f k a1 l2).bind fun bt203 => (if bt203.2 = 0 then (some (mx bt203.1 a0,0)) else (some (0,bt203.2)))) = some (r1,r2):=h
 clear h
 replace H:=Option.bind_eq_some_iff.mp H
 obtain ⟨⟨t203,t204⟩,A40,H⟩:=H
 replace H : (if t204 = 0 then (some (mx t203 a0,0)) else (some (0,t204))) = some (r1,r2):=H
 have A4:=qd5 A40
 clear A40
 by_cases c5 : t204 = 0
 ·
  rw [if_pos c5] at H
  have c5b0 : (t204 == 0) = true:=beq_iff_eq.mpr c5
  have c5b1 : (t204 != 0) = false:=bne_eq_false_iff_eq.mpr c5
  clear c5
  obtain ⟨ji6,hji6⟩ : ∃ j_ : Int,(mx t203 a0) = j_:=⟨_,rfl⟩
  replace H : (some (ji6,0)) = some (r1,r2):=by first|(rw [hji6] at H;exact H)|(simp only [hji6] at H ⊢;exact H)
  (try rw [hji6] at A4)
  have hji6_ : (if t203 < a0 then a0 else t203) = ji6:=hji6
  simp only [Option.some.injEq,Prod.mk.injEq] at H
  obtain ⟨rfl,rfl⟩:=H
  go_enter Tryd.func44,Tryd.ntmps44
  go_wp2_with (first|((with_reducible refine gate_callee (f:=41) rfl ?_);refine goesL_ (some 13) rfl rfl Tryd.func41 (by kernel_rfl) rfl #[.int .i64 a1,.slice A2 l2.length c2] rfl (by (try simp only [List.map_toArray,List.map_cons,List.map_nil]);first|done|rfl|(simp only [List.length_drop,List.length_take];rfl)) ?_;(with_reducible refine (impl_ReadingsTime.calls k a1 _ _ l2 t203 t204 _ ?side1 ?side2 ?side3 A4.out).mono ?_);(case side1 => repeat (first|exact HR2.out|(with_reducible refine Kd.C_alloc ?_ _)|(with_reducible refine Kd.C_drewN ?_ _)|(with_reducible refine Kd.C_drew ?_)));(case side2 => exact HC2.out);(case side3 => exact Go.Proofs.YtmkaknegjahjaaaDoor.Sha.glob_below hG_ (by repeat (first|(with_reducible first|exact HB.out|apply qa5|apply qb5|apply qc5)|exact HB.out)));rintro e w7 ⟨rfl,hb⟩;refine ⟨_,rfl,?_⟩;have n0_:=qd5 (below_step (by repeat (first|(with_reducible first|exact HB.out|apply qa5|apply qb5|apply qc5)|exact HB.out)) hb);clear HB;have HB:=n0_;clear n0_;(try clear hb);(try clear hb2);(try clear hk);(try clear hi)))
  go_ret2
  exact ⟨by first|rfl|(simp [errW_none,errW_some] <;> rfl)|(simp only [← hji6];first|rfl|(simp [errW_none,errW_some] <;> rfl))|(simp [*,errW_none,errW_some] <;> rfl),by repeat (first|(with_reducible first|exact HB.out|apply qa5|apply qb5|apply qc5)|exact HB.out)⟩
 ·
  rw [if_neg c5] at H
  have c5b0 : (t204 == 0) = false:=beq_eq_false_iff_ne.mpr c5
  have c5b1 : (t204 != 0) = true:=bne_iff_ne.mpr c5
  simp only [Option.some.injEq,Prod.mk.injEq] at H
  obtain ⟨rfl,rfl⟩:=H
  go_enter Tryd.func44,Tryd.ntmps44
  go_wp2_with (first|((with_reducible refine gate_callee (f:=41) rfl ?_);refine goesL_ (some 13) rfl rfl Tryd.func41 (by kernel_rfl) rfl #[.int .i64 a1,.slice A2 l2.length c2] rfl (by (try simp only [List.map_toArray,List.map_cons,List.map_nil]);first|done|rfl|(simp only [List.length_drop,List.length_take];rfl)) ?_;(with_reducible refine (impl_ReadingsTime.calls k a1 _ _ l2 t203 t204 _ ?side1 ?side2 ?side3 A4.out).mono ?_);(case side1 => repeat (first|exact HR2.out|(with_reducible refine Kd.C_alloc ?_ _)|(with_reducible refine Kd.C_drewN ?_ _)|(with_reducible refine Kd.C_drew ?_)));(case side2 => exact HC2.out);(case side3 => exact Go.Proofs.YtmkaknegjahjaaaDoor.Sha.glob_below hG_ (by repeat (first|(with_reducible first|exact HB.out|apply qa5|apply qb5|apply qc5)|exact HB.out)));rintro e w8 ⟨rfl,hb⟩;refine ⟨_,rfl,?_⟩;have n0_:=qd5 (below_step (by repeat (first|(with_reducible first|exact HB.out|apply qa5|apply qb5|apply qc5)|exact HB.out)) hb);clear HB;have HB:=n0_;clear n0_;(try clear hb);(try clear hb2);(try clear hk);(try clear hi)))
  go_ret2
  exact ⟨by first|rfl|(simp [errW_none,errW_some] <;> rfl)|(simp [*,errW_none,errW_some] <;> rfl),by repeat (first|(with_reducible first|exact HB.out|apply qa5|apply qb5|apply qc5)|exact HB.out)⟩

/-! ### spec_ReadingsOf: function 46, given -/
/-- The readings that are drawn: i: the node, m: how many are still wanted, q: rounds at the most. -/
def drawnR (l : List Int) (nodes skip : Int) : Nat → Nat → Int → Int → Int → Option (List (S72))
 | _,0,_,_,_ => some []
 | 0,_ + 1,_,_,_ => none
 | q + 1,m + 1,i,a,s => if i = skip ∧ nodes > 1 then drawnR l nodes skip q (m + 1) (i + 1) a s else
  (spec_l04Reading.f 9 i ((Go.Proofs.YtmkaknegjahjaaaDoor.Src.byteF l a s).1 % 100)).bind fun t => (drawnR l nodes skip q m (i + 1) (Go.Proofs.YtmkaknegjahjaaaDoor.Src.byteF l a s).2.1 (Go.Proofs.YtmkaknegjahjaaaDoor.Src.byteF l a s).2.2).bind fun r => some (⟨i,(Go.Proofs.YtmkaknegjahjaaaDoor.Src.byteF l a s).1 % 100,t⟩ :: r)
def spec_ReadingsOf.f (l0 : List Int) (a1 : Int) : Option (List (S72)) :=
 if l0.length ≤ 1099511627776 ∧ (∀ x ∈ l0,0 ≤ x ∧ x ≤ 255) then
  (if a1 = 1 then drawnR l0 1 0 20 1 0 0 ((l0.length : Int) % 1000) else
   if a1 = 4 ∨ a1 = 7 then drawnR l0 a1 ((Go.Proofs.YtmkaknegjahjaaaDoor.Src.byteF l0 0 ((l0.length : Int) % 1000)).1 % a1) 20 (2 * ((a1 - 1) / 3) + 1).toNat 0 (Go.Proofs.YtmkaknegjahjaaaDoor.Src.byteF l0 0 ((l0.length : Int) % 1000)).2.1 (Go.Proofs.YtmkaknegjahjaaaDoor.Src.byteF l0 0 ((l0.length : Int) % 1000)).2.2 else none)
 else none
theorem kk_below {g : Nat} {w w1 w2 : World} (h : Go.Proofs.YtmkaknegjahjaaaDoor.Src.KK g w w1) (hb : Below w1.heap.size w1 w2) (hg : g < w.heap.size) : Go.Proofs.YtmkaknegjahjaaaDoor.Src.KK g w w2 :=
 ⟨fun base hbs => (h.1 base hbs).trans (hb.mono (by have:=h.2.1;omega)),⟨Nat.le_trans h.2.1 hb.size,fun k hk hne => (hb.block k (Nat.lt_of_lt_of_le hk h.2.1)).trans (h.2.2 k hk hne)⟩⟩
theorem drawnR_zero (l : List Int) (n sk : Int) (q : Nat) (i a s : Int) : drawnR l n sk q 0 i a s = some []:=by cases q <;> rfl
theorem next1_calls (g : Nat) (n : Int) (hn : n ≤ 1) (w : World) : Calls Tryd.prog 58 #[.pointer (some ⟨g,0,none⟩),.int .i64 n] w fun e w' => e = .returned (.int .i64 0) ∧ w' = w:=by
 have d1 : decide (n ≤ 1) = true:=decide_eq_true hn
 go_enter Tryd.func58,Tryd.ntmps58
 go_wp2
 go_ret
 exact ⟨rfl,rfl⟩
set_option maxHeartbeats 4000000 in
set_option maxRecDepth 100000 in
theorem readings_calls (g : Nat) (w0 w : World) (A0 : Option Addr) (c0 T : Nat) (l : List Int) (n : Int) (f : Nat) (hn : n = 3 * (f : Int) + 1) (hf : f ≤ 2) (sk a' s' : Int) (r : List (S72))
  (hnext : ∀ w1 : World,w1.heap[g]? = w.heap[g]? → Go.Proofs.YtmkaknegjahjaaaDoor.Src.KK g w w1 → Calls Tryd.prog 58 #[.pointer (some ⟨g,0,none⟩),.int .i64 n] w1 fun e w' => e = .returned (.int .i64 sk) ∧ w'.heap[g]? = some (.cells #[.slice A0 l.length c0,.int .i64 a',.int .i64 s'] T (0,0)) ∧ Go.Proofs.YtmkaknegjahjaaaDoor.Src.KK g w1 w')
  (hgw : g < w.heap.size) (a0 : 0 ≤ a') (a1 : a' ≤ 1000) (s0 : 0 ≤ s') (s1 : s' < 2147483648)
  (hr : Kd.C (Kd.int .u8) w0 A0 l.length l) (hw : Below w0.heap.size w0 w) (hg : w0.heap.size ≤ g) (hu : ∀ i : Int,0 ≤ rd l i ∧ rd l i ≤ 255) (hl : l.length ≤ 4611686018427387904)
  (h : drawnR l n sk 20 (2 * f + 1) 0 a' s' = some r) :
  Calls Tryd.prog 96 #[.pointer (some ⟨g,0,none⟩),.int .i64 n] w fun e w' => ∃ v,e = .returned v ∧ Kd.R k72 72 w' w.heap.size (fun k => w.heap.size ≤ k) v r ∧ Go.Proofs.YtmkaknegjahjaaaDoor.Src.KK g w w':=by
 subst hn
 have NC:=fun (w' : World) (a s m : Int) (hm : 1 < m) (hm2 : m ≤ 256) (hB' : w'.heap[g]? = some (.cells #[.slice A0 l.length c0,.int .i64 a,.int .i64 s] T (0,0))) (hK : Go.Proofs.YtmkaknegjahjaaaDoor.Src.KK g w w') (ha : 0 ≤ a) (ha2 : a ≤ 1000000) (hs : 0 ≤ s) (hs2 : s < 2147483648) =>
  Go.Proofs.YtmkaknegjahjaaaDoor.Src.next_calls g w0 w' A0 c0 T l a s m hm hm2 hB' hr (hw.trans (hK.1 _ hg)) hg hu ha ha2 hs hs2 hl
 have HNC:=qd5 NC
 have HNX:=qd5 hnext
 have HH:=qd5 h
 clear NC hnext hr hw h
 have f1 : IntKind.i64.wrap (3 * (f : Int) + 1 - 1) = 3 * (f : Int):=by rw [Go.Proofs.YtmkaknegjahjaaaDoor.Src.wr64 _ (by omega) (by omega)];omega
 have f1' : IntKind.i64.wrap (3 * (f : Int)) = 3 * (f : Int):=Go.Proofs.YtmkaknegjahjaaaDoor.Src.wr64 _ (by omega) (by omega)
 have f2 : Int.tdiv (3 * (f : Int)) 3 = (f : Int):=by rw [Int.tdiv_eq_ediv_of_nonneg (by omega)];omega
 have f3 : IntKind.i64.wrap (f : Int) = (f : Int):=Go.Proofs.YtmkaknegjahjaaaDoor.Src.wr64 _ (by omega) (by omega)
 have f4 : IntKind.i64.wrap (2 * (f : Int)) = 2 * (f : Int):=Go.Proofs.YtmkaknegjahjaaaDoor.Src.wr64 _ (by omega) (by omega)
 have f5 : IntKind.i64.wrap (2 * (f : Int) + 1) = 2 * (f : Int) + 1:=Go.Proofs.YtmkaknegjahjaaaDoor.Src.wr64 _ (by omega) (by omega)
 have info72 : (Tryd.prog.info? 72).map (fun i => (i.zero,i.size,i.bytes)) = some (some (.agg #[.int .i64 0,.int .i64 0,.string ⟨#[]⟩]),3,32):=by kernel_rfl
 go_enter Tryd.func96,Tryd.ntmps96
 have HI:=qd5 info72
 clear info72
 go_wp2_with (first|((with_reducible refine gate_dst (N:=13) rfl ?_);refine Go.Proofs.YtmkaknegjahjaaaDoor.Src.halt_ ?_))
 refine ⟨?_⟩
 refine Kd.R_lit k72 _ 72 ?hg (N:=13) ?hd (xs:=([] : List (S72))) (inner:=[]) (ok:=fun k => w.heap.size ≤ k) (okp:=fun _ => False) ?hr ?hp (fun _ hk => hk.elim) (Nat.le_refl _) (Below.refl _ _) (Nat.le_refl _) (by simp) ?_
 case hd => rfl
 case hg => rfl
 case hr => first|(go_simp;done)|(go_simp;rfl)
 case hp => exact (Reps.none _ _)
 intro v105 w3 ho4 hb hg_ hnew_
 have HO:=qd5 ho4
 have HK:=qd5 ((Go.Proofs.YtmkaknegjahjaaaDoor.Src.KK.refl g w).grown hg_ hgw (fun k e => by cases e))
 have HG:=qd5 hg_
 clear hg_ hnew_ ho4 hb
 go_wp2_with (first|(go_at_call 58;refine Go.Proofs.YtmkaknegjahjaaaDoor.Src.halt_ ?_))
 refine ⟨?_⟩
 refine (HNX.out _ (HG.out.block g hgw (by simp)) HK.out).mono ?_
 rintro e w4 ⟨rfl,hb4,hk4⟩
 have n0_:=qd5 (Kd.R_kept HO.out hk4.2 (fun k hk => by omega))
 have n1_:=qd5 (HK.out.trans hk4)
 have n2_:=qd5 hb4
 clear HO HK HG hb4 hk4 HNX
 have HO:=n0_
 have HK:=n1_
 have HB:=n2_
 clear n0_ n1_ n2_
 go_wp2
 go_loopw [6,8] (fun v6 v8 wr => ∃ (pre : List (S72)) (m q : Nat) (i a s : Int) (rr : List (S72)),v8 = .int .i64 i ∧ Aside0 (Kd.R k72 72 wr w.heap.size (fun k => w.heap.size ≤ k) v6 pre) ∧ Aside0 (wr.heap[g]? = some (.cells #[.slice A0 l.length c0,.int .i64 a,.int .i64 s] T (0,0))) ∧ Aside0 (Go.Proofs.YtmkaknegjahjaaaDoor.Src.KK g w wr) ∧ Aside0 (pre.length + m = 2 * f + 1 ∧ 0 ≤ i ∧ i + q = 20 ∧ 0 ≤ a ∧ a + q ≤ 2000 ∧ 0 ≤ s ∧ s < 2147483648) ∧ Aside0 (drawnR l (3 * (f : Int) + 1) sk q m i a s = some rr ∧ pre ++ rr = r)) (fun _ v8 _ => 20 - (intOf v8).toNat)
 case atStart => exact ⟨[],2 * f + 1,20,0,a',s',r,rfl,HO,HB,HK,⟨by simp,by omega,by omega,by omega,by omega,by omega,by omega⟩,⟨HH.out,rfl⟩⟩
 case round =>
  clear HO HK HB HH
  obtain ⟨pre,m,q,i,a,s,rr,rfl,HO,HB,HK,HN,HX⟩:=hrel
  obtain ⟨A6,c6,rfl⟩:=Kd.R_slice HO.out
  obtain ⟨b1,b2,b3,b4,b5,b6,b7⟩:=HN.out
  cases m with
  | zero =>
   have p1 : decide ((pre.length : Int) < 2 * (f : Int) + 1) = false:=decide_eq_false (by omega)
   have p2 : ((pre.length : Int) < 2 * (f : Int) + 1) = False:=eq_false (by omega)
   have hx:=HX.out
   rw [drawnR_zero] at hx
   obtain ⟨hx1,hx2⟩:=hx
   injection hx1 with hx1
   subst hx1
   rw [List.append_nil] at hx2
   subst hx2
   go_wp2
   go_ret
   exact ⟨_,rfl,HO.out,HK.out⟩
  | succ m =>
   have p1 : decide ((pre.length : Int) < 2 * (f : Int) + 1) = true:=decide_eq_true (by omega)
   have p2 : ((pre.length : Int) < 2 * (f : Int) + 1) = True:=eq_true (by omega)
   have q1 : IntKind.i64.wrap (i + 1) = i + 1:=Go.Proofs.YtmkaknegjahjaaaDoor.Src.wr64 _ (by omega) (by omega)
   obtain ⟨q,rfl⟩ : ∃ q',q = q' + 1:=by
    cases q with
    | zero => have:=HX.out.1;simp [drawnR] at this
    | succ q => exact ⟨q,rfl⟩
   by_cases hc : i = sk ∧ 3 * (f : Int) + 1 > 1
   ·
    have hx:=HX.out
    rw [drawnR,if_pos hc] at hx
    have HX2:=qd5 hx
    clear hx HX
    have e1 : (i == sk) = true:=by rw [hc.1];simp
    have e2 : decide (1 < 3 * (f : Int) + 1) = true:=decide_eq_true hc.2
    have e3 : (i = sk) = True:=eq_true hc.1
    have e4 : (1 < 3 * (f : Int) + 1) = True:=eq_true hc.2
    go_wp2
    refine ⟨⟨pre,m + 1,q,i + 1,a,s,rr,by rw [hc.1],HO,HB,HK,⟨b1,by omega,by omega,b4,by omega,b6,b7⟩,HX2⟩,by simp [intOf];omega⟩
   ·
    have hx:=HX.out
    rw [drawnR,if_neg hc] at hx
    obtain ⟨hx1,hx2⟩:=hx
    obtain ⟨tx,ht,hx3⟩:=Option.bind_eq_some_iff.mp hx1
    obtain ⟨r2,hr2,hx4⟩:=Option.bind_eq_some_iff.mp hx3
    injection hx4 with hx4
    have hbr:=Go.Proofs.YtmkaknegjahjaaaDoor.Src.byteF_range l a s hu
    have hba:=Go.Proofs.YtmkaknegjahjaaaDoor.Src.byteF_at l a s
    have hbs:=Go.Proofs.YtmkaknegjahjaaaDoor.Src.byteF_seed l a s ⟨b6,b7⟩
    have hcall:=HNC.out
    have NX:=HNC.out wr a s 100 (by decide) (by decide) HB.out HK.out b4 (by omega) b6 b7
    generalize Go.Proofs.YtmkaknegjahjaaaDoor.Src.byteF l a s = R2 at hbr hba hbs ht hr2 hx4 NX
    have z0 : 0 ≤ R2.1 % 100:=by omega
    have z1 : R2.1 % 100 < 100:=by omega
    generalize R2.1 % 100 = v at z0 z1 ht hx4 NX
    have HNX:=qd5 NX
    have HT:=qd5 ht
    have HX2:=qd5 (show drawnR l (3 * (f : Int) + 1) sk q m (i + 1) R2.2.1 R2.2.2 = some r2 ∧ (pre ++ [(⟨i,v,tx⟩ : S72)]) ++ r2 = r from ⟨hr2,by rw [List.append_assoc,← hx2,← hx4];rfl⟩)
    clear hx1 hx2 hx3 hx4 hr2 ht NX HX hcall
    have hs0 : w.heap.size ≤ wr.heap.size:=HK.out.2.1
    by_cases e1 : i = sk
    ·
     have e5 : ¬ (1 < 3 * (f : Int) + 1):=fun h => hc ⟨e1,h⟩
     have e2 : decide (1 < 3 * (f : Int) + 1) = false:=decide_eq_false e5
     have e4 : (1 < 3 * (f : Int) + 1) = False:=eq_false e5
     have e7 : (3 * (f : Int) + 1 ≤ 1) = True:=eq_true (by omega)
     have e8 : ¬ (0 < f):=by omega
     have e9 : ¬ (0 < (f : Int)):=by omega
     clear hc
     subst e1
     have e3 : (i == i) = true:=by simp
     go_wp2_with (first|(go_at_call 58;refine Go.Proofs.YtmkaknegjahjaaaDoor.Src.halt_ ?_))
     refine ⟨?_⟩
     refine HNX.out.mono ?_
     rintro e w5 ⟨rfl,hb5,hk5⟩
     have n0_:=qd5 (Kd.R_kept HO.out hk5.2 (fun k hk => by omega))
     have n1_:=qd5 (HK.out.trans hk5)
     have n2_:=qd5 hb5
     clear HO HK HB HNX hb5 hk5
     have HO:=n0_
     have HK:=n1_
     have HB:=n2_
     clear n0_ n1_ n2_
     go_wp2_with (first|(go_at_call 98;refine Go.Proofs.YtmkaknegjahjaaaDoor.Src.halt_ ?_))
     refine ⟨?_⟩
     refine (spec_l04Reading.calls 9 i v tx _ HT.out).mono ?_
     rintro e w6 ⟨rfl,hb6⟩
     have n0_:=qd5 (Kd.R_below HO.out hb6)
     have n1_:=qd5 (kk_below HK.out hb6 hgw)
     have n2_:=qd5 ((hb6.block g (blk_lt HB.out)).trans HB.out)
     clear HO HK HB hb6 HT
     have HO:=n0_
     have HK:=n1_
     have HB:=n2_
     clear n0_ n1_ n2_
     have hs6 : w.heap.size ≤ w6.heap.size:=HK.out.2.1
     have info72:=HI.out
     go_wp2_with (first|((with_reducible refine gate_builtin (b:=.append) (xs:=#[.tmp 34,.tmp 41]) rfl ?_);at_builtin;refine Go.Proofs.YtmkaknegjahjaaaDoor.Src.halt_ ?_))
     refine ⟨?_⟩
     refine Kd.R_append k72 (w0:=w6) w.heap.size rfl (.tmp 34) (.tmp 41) 61 72 (.agg #[.int .i64 0,.int .i64 0,.string ⟨#[]⟩]) 32 rfl Tryd.underlying61 info72 rfl (by decide) (by omega) _ pre ⟨i,v,tx⟩ [.int .i64 i,.int .i64 v,.string tx] (fun k => w.heap.size ≤ k) (fun _ => False) rfl rfl ?aP (fun _ hk => hk.elim) ?aF ?aO ?aB ?aS ?aL ?_
     case aP => exact k72_mkM _ _ _ ⟨i,v,tx⟩
     case aB => exact Below.refl _ _
     case aF => exact (fun k hk => by omega)
     case aO => exact HO.out
     case aS => omega
     case aL => omega
     intro v6_ w7 ho hb hg6 hat
     have hrow6:=HO.out.1
     have n0_:=qd5 (HK.out.grown hg6 hgw (fun k e => hrow6 k e))
     have n1_:=qd5 ho
     have n2_:=qd5 ((hg6.block g (blk_lt HB.out) (fun e => by have:=hrow6 g e.symm;omega)).trans HB.out)
     clear HK HO HB ho hb hg6 hat hrow6 info72
     have HK:=n0_
     have HO:=n1_
     have HB:=n2_
     clear n0_ n1_ n2_
     go_wp2
     refine ⟨⟨pre ++ [⟨i,v,tx⟩],m,q,i + 1,R2.2.1,R2.2.2,r2,rfl,HO,HB,HK,⟨by rw [List.length_append,List.length_singleton];omega,by omega,by omega,by omega,by omega,hbs.1,hbs.2⟩,HX2⟩,by simp [intOf];omega⟩

    ·
     have e3 : (i == sk) = false:=beq_eq_false_iff_ne.mpr e1
     have e6 : (i = sk) = False:=eq_false e1
     clear hc
     go_wp2_with (first|(go_at_call 58;refine Go.Proofs.YtmkaknegjahjaaaDoor.Src.halt_ ?_))
     refine ⟨?_⟩
     refine HNX.out.mono ?_
     rintro e w5 ⟨rfl,hb5,hk5⟩
     have n0_:=qd5 (Kd.R_kept HO.out hk5.2 (fun k hk => by omega))
     have n1_:=qd5 (HK.out.trans hk5)
     have n2_:=qd5 hb5
     clear HO HK HB HNX hb5 hk5
     have HO:=n0_
     have HK:=n1_
     have HB:=n2_
     clear n0_ n1_ n2_
     go_wp2_with (first|(go_at_call 98;refine Go.Proofs.YtmkaknegjahjaaaDoor.Src.halt_ ?_))
     refine ⟨?_⟩
     refine (spec_l04Reading.calls 9 i v tx _ HT.out).mono ?_
     rintro e w6 ⟨rfl,hb6⟩
     have n0_:=qd5 (Kd.R_below HO.out hb6)
     have n1_:=qd5 (kk_below HK.out hb6 hgw)
     have n2_:=qd5 ((hb6.block g (blk_lt HB.out)).trans HB.out)
     clear HO HK HB hb6 HT
     have HO:=n0_
     have HK:=n1_
     have HB:=n2_
     clear n0_ n1_ n2_
     have hs6 : w.heap.size ≤ w6.heap.size:=HK.out.2.1
     have info72:=HI.out
     go_wp2_with (first|((with_reducible refine gate_builtin (b:=.append) (xs:=#[.tmp 34,.tmp 41]) rfl ?_);at_builtin;refine Go.Proofs.YtmkaknegjahjaaaDoor.Src.halt_ ?_))
     refine ⟨?_⟩
     refine Kd.R_append k72 (w0:=w6) w.heap.size rfl (.tmp 34) (.tmp 41) 61 72 (.agg #[.int .i64 0,.int .i64 0,.string ⟨#[]⟩]) 32 rfl Tryd.underlying61 info72 rfl (by decide) (by omega) _ pre ⟨i,v,tx⟩ [.int .i64 i,.int .i64 v,.string tx] (fun k => w.heap.size ≤ k) (fun _ => False) rfl rfl ?aP (fun _ hk => hk.elim) ?aF ?aO ?aB ?aS ?aL ?_
     case aP => exact k72_mkM _ _ _ ⟨i,v,tx⟩
     case aB => exact Below.refl _ _
     case aF => exact (fun k hk => by omega)
     case aO => exact HO.out
     case aS => omega
     case aL => omega
     intro v6_ w7 ho hb hg6 hat
     have hrow6:=HO.out.1
     have n0_:=qd5 (HK.out.grown hg6 hgw (fun k e => hrow6 k e))
     have n1_:=qd5 ho
     have n2_:=qd5 ((hg6.block g (blk_lt HB.out) (fun e => by have:=hrow6 g e.symm;omega)).trans HB.out)
     clear HK HO HB ho hb hg6 hat hrow6 info72
     have HK:=n0_
     have HO:=n1_
     have HB:=n2_
     clear n0_ n1_ n2_
     go_wp2
     refine ⟨⟨pre ++ [⟨i,v,tx⟩],m,q,i + 1,R2.2.1,R2.2.2,r2,rfl,HO,HB,HK,⟨by rw [List.length_append,List.length_singleton];omega,by omega,by omega,by omega,by omega,hbs.1,hbs.2⟩,HX2⟩,by simp [intOf];omega⟩

theorem spec_ReadingsOf.calls (A0 : Option Addr) (c0 : Nat) (l0 : List Int) (a1 : Int) (r : List (S72)) (w : World) (hr0 : Kd.C (Kd.int .u8) w A0 l0.length l0) (hc0 : l0.length ≤ c0) (h : spec_ReadingsOf.f l0 a1 = some r) :
  Calls Tryd.prog 46 #[.slice A0 l0.length c0,.int .i64 a1] w fun e w' => ∃ v0_ : Value,e = .returned (v0_) ∧ Kd.R k72 72 w' w.heap.size (fun _ => True) v0_ r ∧ Below w.heap.size w w':=by
 have hs : l0.length ≤ 1099511627776 ∧ (∀ x ∈ l0,0 ≤ x ∧ x ≤ 255):=by
  by_cases hl : l0.length ≤ 1099511627776 ∧ (∀ x ∈ l0,0 ≤ x ∧ x ≤ 255)
  ·
   exact hl
  ·
   rw [spec_ReadingsOf.f,if_neg hl] at h;cases h
 rw [spec_ReadingsOf.f,if_pos hs] at h
 have hu : ∀ i : Int,0 ≤ rd l0 i ∧ rd l0 i ≤ 255:=fun i => by
  unfold rd
  rw [List.getD_eq_getElem?_getD]
  by_cases hi : i.toNat < l0.length
  ·
   rw [List.getElem?_eq_getElem hi,Option.getD_some]
   exact hs.2 _ (List.getElem_mem hi)
  ·
   rw [List.getElem?_eq_none (by omega)]
   exact ⟨Int.le_refl 0,show (0 : Int) ≤ 255 by decide⟩
 have hl : l0.length ≤ 4611686018427387904:=by omega
 have hB0 : (w.alloc (.cells #[.slice A0 l0.length c0,.int .i64 0,.int .i64 ((l0.length : Int) % 1000)] 119 (0,0))).heap[w.heap.size]? = some (.cells #[.slice A0 l0.length c0,.int .i64 0,.int .i64 ((l0.length : Int) % 1000)] 119 (0,0)):=heap_alloc_new w _
 have hW : Below w.heap.size w (w.alloc (.cells #[.slice A0 l0.length c0,.int .i64 0,.int .i64 ((l0.length : Int) % 1000)] 119 (0,0))):=(Below.refl _ w).alloc (Nat.le_refl _) _
 have hsz : w.heap.size < (w.alloc (.cells #[.slice A0 l0.length c0,.int .i64 0,.int .i64 ((l0.length : Int) % 1000)] 119 (0,0))).heap.size:=by simp
 have HR : Calls Tryd.prog 96 #[.pointer (some ⟨w.heap.size,0,none⟩),.int .i64 a1] (w.alloc (.cells #[.slice A0 l0.length c0,.int .i64 0,.int .i64 ((l0.length : Int) % 1000)] 119 (0,0))) fun e w' => ∃ v,e = .returned v ∧ Kd.R k72 72 w' w.heap.size (fun _ => True) v r ∧ Below w.heap.size w w':=by
  generalize w.alloc (.cells #[.slice A0 l0.length c0,.int .i64 0,.int .i64 ((l0.length : Int) % 1000)] 119 (0,0)) = W at hB0 hW hsz ⊢
  have fin : ∀ (f : Nat),f ≤ 2 → a1 = 3 * (f : Int) + 1 → ∀ sk a' s' : Int,0 ≤ a' → a' ≤ 1000 → 0 ≤ s' → s' < 2147483648 → (∀ w1 : World,w1.heap[w.heap.size]? = W.heap[w.heap.size]? → Go.Proofs.YtmkaknegjahjaaaDoor.Src.KK w.heap.size W w1 → Calls Tryd.prog 58 #[.pointer (some ⟨w.heap.size,0,none⟩),.int .i64 a1] w1 fun e w' => e = .returned (.int .i64 sk) ∧ w'.heap[w.heap.size]? = some (.cells #[.slice A0 l0.length c0,.int .i64 a',.int .i64 s'] 119 (0,0)) ∧ Go.Proofs.YtmkaknegjahjaaaDoor.Src.KK w.heap.size w1 w') →
    drawnR l0 a1 sk 20 (2 * f + 1) 0 a' s' = some r → Calls Tryd.prog 96 #[.pointer (some ⟨w.heap.size,0,none⟩),.int .i64 a1] W fun e w' => ∃ v,e = .returned v ∧ Kd.R k72 72 w' w.heap.size (fun _ => True) v r ∧ Below w.heap.size w w':=by
   intro f hf hn sk a' s' x0 x1 x2 x3 hnx hd
   refine (readings_calls w.heap.size w W A0 c0 119 l0 a1 f hn hf sk a' s' r hnx hsz x0 x1 x2 x3 hr0 hW (Nat.le_refl _) hu hl hd).mono ?_
   rintro e w' ⟨v,rfl,hR,hk⟩
   exact ⟨v,rfl,Kd.R_mono (Kd.R_lower hR (by omega)) (fun _ _ => trivial),hW.trans (hk.1 _ (Nat.le_refl _))⟩
  by_cases h1 : a1 = 1
  ·
   rw [if_pos h1] at h
   refine fin 0 (by omega) (by omega) 0 0 ((l0.length : Int) % 1000) (by omega) (by omega) (by omega) (by omega) (fun w1 hb hk => ?_) (by rw [h1];exact h)
   rw [h1]
   refine (next1_calls w.heap.size 1 (by omega) w1).mono ?_
   rintro e w' ⟨rfl,rfl⟩
   exact ⟨rfl,hb.trans hB0,Go.Proofs.YtmkaknegjahjaaaDoor.Src.KK.refl _ _⟩
  ·
   rw [if_neg h1] at h
   by_cases h47 : a1 = 4 ∨ a1 = 7
   ·
    rw [if_pos h47] at h
    obtain ⟨f,hf,hn⟩ : ∃ f : Nat,f ≤ 2 ∧ a1 = 3 * (f : Int) + 1:=by
     rcases h47 with e|e
     ·
      exact ⟨1,by omega,by omega⟩
     ·
      exact ⟨2,by omega,by omega⟩
    have hba:=Go.Proofs.YtmkaknegjahjaaaDoor.Src.byteF_at l0 0 ((l0.length : Int) % 1000)
    have hbs:=Go.Proofs.YtmkaknegjahjaaaDoor.Src.byteF_seed l0 0 ((l0.length : Int) % 1000) (by omega)
    have em : (2 * ((a1 - 1) / 3) + 1).toNat = 2 * f + 1:=by omega
    rw [em] at h
    refine fin f hf hn _ _ _ (by omega) (by omega) hbs.1 hbs.2 (fun w1 hb hk => ?_) h
    exact Go.Proofs.YtmkaknegjahjaaaDoor.Src.next_calls w.heap.size w w1 A0 c0 119 l0 0 ((l0.length : Int) % 1000) a1 (by omega) (by omega) (hb.trans hB0) hr0 (hW.trans (hk.1 _ (Nat.le_refl _))) (Nat.le_refl _) hu (by omega) (by omega) (by omega) (by omega) hl
   ·
    rw [if_neg h47] at h;cases h
 have HRA:=qd5 HR
 clear HR hB0 hW hsz h hr0
 go_enter Tryd.func46,Tryd.ntmps46
 go_wp2_with (first
  | (go_at_call 57;refine (Go.Proofs.YtmkaknegjahjaaaDoor.Src.source_calls w A0 c0 l0 hl).mono ?_;rintro e w1 ⟨rfl,rfl⟩)
  | (go_at_call 96;refine HRA.out.mono ?_;rintro e w2 ⟨v,rfl,hR,hb⟩;have HR2:=qd5 hR;have HB2:=qd5 hb;clear hR hb))
 go_ret
 exact ⟨_,rfl,HR2.out,HB2.out⟩


/-! ### impl_ReadingMac: function 47 -/
def impl_ReadingMac.f (k : Nat) (a0 : Int) (a1 : Int) : Option (ByteArray × Int):=(impl_within.f a0 0 6).bind fun t205 => (if t205 = true then ((impl_within.f a1 0 1000000000).bind fun t206 => (if t206 = true then ((impl_readingMac.f k a0 a1).bind fun t207 => (some (t207,0))) else (some ((⟨#[]⟩ : ByteArray),4)))) else (some ((⟨#[]⟩ : ByteArray),4)))
theorem impl_ReadingMac.mono : ∀ a0 a1 k,LeO (impl_ReadingMac.f k a0 a1) (impl_ReadingMac.f (k + 1) a0 a1):=by
 intro a0 a1 k
 unfold impl_ReadingMac.f
 repeat' first
   | (with_reducible exact impl_readingMac.mono _ _ _)
   | (with_reducible exact LeO.refl _)
   | (with_reducible exact LeO.none _)
   | (with_reducible refine LeO.ite ?_ ?_)
   | (with_reducible refine LeO.bind ?_ (fun _ => ?_))
   | exact impl_readingMac.mono _ _ _
   | exact LeO.none _
   | refine LeO.ite ?_ ?_
   | refine LeO.bind ?_ (fun _ => ?_)
set_option maxHeartbeats 8000000 in
set_option maxRecDepth 100000 in
theorem impl_ReadingMac.calls (k : Nat) (a0 : Int) (a1 : Int) (r1 : ByteArray) (r2 : Int) (w : World) (hG_ : Go.Proofs.YtmkaknegjahjaaaDoor.Sha.GlobA w) (h : impl_ReadingMac.f k a0 a1 = some (r1,r2)) :
  Calls Tryd.prog 47 #[.int .i64 a0,.int .i64 a1] w fun e w' => e = .returned (.tuple #[.string r1,.int .i64 r2]) ∧ Below w.heap.size w w':=by
 have HB:=qd5 (Below.refl w.heap.size w)
 have H : ((impl_within.f a0 0 6).bind fun t205 => (if t205 = true then ((impl_within.f a1 0 1000000000).bind fun t206 => (if t206 = true then ((impl_readingMac.f k a0 a1).bind fun t207 => (some (t207,0))) else (some ((⟨#[]⟩ : ByteArray),4)))) else (some ((⟨#[]⟩ : ByteArray),4)))) = some (r1,r2):=h
 clear h
 replace H:=Option.bind_eq_some_iff.mp H
 obtain ⟨t205,A30,H⟩:=H
 replace H : (if t205 = true then ((impl_within.f a1 0 1000000000).bind fun t206 => (if t206 = true then ((impl_readingMac.f k a0 a1).bind fun t207 => (some (t207,0))) else (some ((⟨#[]⟩ : ByteArray),4)))) else (some ((⟨#[]⟩ : ByteArray),4))) = some (r1,r2):=H
 have A3:=qd5 A30
 clear A30
 by_cases c4 : t205 = true
 ·
  subst c4
  have H1 : ((impl_within.f a1 0 1000000000).bind fun t206 => (if t206 = true then ((impl_readingMac.f k a0 a1).bind fun t207 => (some (t207,0))) else (some ((⟨#[]⟩ : ByteArray),4)))) = some (r1,r2):=by rw [if_pos rfl] at H;exact H
  clear H
  have H:=H1
  clear H1
  replace H:=Option.bind_eq_some_iff.mp H
  obtain ⟨t206,A50,H⟩:=H
  replace H : (if t206 = true then ((impl_readingMac.f k a0 a1).bind fun t207 => (some (t207,0))) else (some ((⟨#[]⟩ : ByteArray),4))) = some (r1,r2):=H
  have A5:=qd5 A50
  clear A50
  by_cases c6 : t206 = true
  ·
   subst c6
   have H1 : ((impl_readingMac.f k a0 a1).bind fun t207 => (some (t207,0))) = some (r1,r2):=by rw [if_pos rfl] at H;exact H
   clear H
   have H:=H1
   clear H1
   replace H:=Option.bind_eq_some_iff.mp H
   obtain ⟨t207,A70,H⟩:=H
   replace H : (some (t207,0)) = some (r1,r2):=H
   have A7:=qd5 A70
   clear A70
   simp only [Option.some.injEq,Prod.mk.injEq] at H
   obtain ⟨rfl,rfl⟩:=H
   go_enter Tryd.func47,Tryd.ntmps47
   go_wp2_with (first|((with_reducible refine gate_callee (f:=63) rfl ?_);refine goesL_ (some 7) rfl rfl Tryd.func63 (by kernel_rfl) rfl #[.int .i64 a0,.int .i64 0,.int .i64 6] rfl (by (try simp only [List.map_toArray,List.map_cons,List.map_nil]);first|done|rfl|(simp only [List.length_drop,List.length_take];rfl)) ?_;(with_reducible refine (impl_within.calls a0 0 6 true _ A3.out).mono ?_);rintro e w' ⟨rfl,⟨nd,rfl⟩⟩;refine ⟨_,rfl,?_⟩)|(go_at_call 63;(with_reducible refine (impl_within.calls a1 0 1000000000 true _ A5.out).mono ?_);rintro e w' ⟨rfl,⟨nd,rfl⟩⟩)|((with_reducible refine gate_callee (f:=97) rfl ?_);refine goesL_ (some 16) rfl rfl Tryd.func97 (by kernel_rfl) rfl #[.int .i64 a0,.int .i64 a1] rfl (by (try simp only [List.map_toArray,List.map_cons,List.map_nil]);first|done|rfl|(simp only [List.length_drop,List.length_take];rfl)) ?_;(with_reducible refine (impl_readingMac.calls k a0 a1 t207 _ ?side1 A7.out).mono ?_);(case side1 => exact Go.Proofs.YtmkaknegjahjaaaDoor.Sha.glob_below hG_ (by repeat (first|(with_reducible first|exact HB.out|apply qa5|apply qb5|apply qc5)|exact HB.out)));rintro e w8 ⟨rfl,hb⟩;refine ⟨_,rfl,?_⟩;have n0_:=qd5 (below_step (by repeat (first|(with_reducible first|exact HB.out|apply qa5|apply qb5|apply qc5)|exact HB.out)) hb);clear HB;have HB:=n0_;clear n0_;(try clear hb);(try clear hb2);(try clear hk);(try clear hi)))
   go_ret2
   exact ⟨by first|rfl|(simp [errW_none,errW_some] <;> rfl)|(simp [*,errW_none,errW_some] <;> rfl),by repeat (first|(with_reducible first|exact HB.out|apply qa5|apply qb5|apply qc5)|exact HB.out)⟩
  ·
   replace c6:=Bool.eq_false_iff.mpr c6
   subst c6
   have H1 : (some ((⟨#[]⟩ : ByteArray),4)) = some (r1,r2):=by rw [if_neg (show ¬ (false = true) by decide)] at H;exact H
   clear H
   have H:=H1
   clear H1
   simp only [Option.some.injEq,Prod.mk.injEq] at H
   obtain ⟨rfl,rfl⟩:=H
   go_enter Tryd.func47,Tryd.ntmps47
   go_wp2_with (first|((with_reducible refine gate_callee (f:=63) rfl ?_);refine goesL_ (some 7) rfl rfl Tryd.func63 (by kernel_rfl) rfl #[.int .i64 a0,.int .i64 0,.int .i64 6] rfl (by (try simp only [List.map_toArray,List.map_cons,List.map_nil]);first|done|rfl|(simp only [List.length_drop,List.length_take];rfl)) ?_;(with_reducible refine (impl_within.calls a0 0 6 true _ A3.out).mono ?_);rintro e w' ⟨rfl,⟨nd,rfl⟩⟩;refine ⟨_,rfl,?_⟩)|(go_at_call 63;(with_reducible refine (impl_within.calls a1 0 1000000000 false _ A5.out).mono ?_);rintro e w' ⟨rfl,⟨nd,rfl⟩⟩))
   go_ret2
   exact ⟨by first|rfl|(simp [errW_none,errW_some] <;> rfl)|(simp [*,errW_none,errW_some] <;> rfl),by repeat (first|(with_reducible first|exact HB.out|apply qa5|apply qb5|apply qc5)|exact HB.out)⟩
 ·
  replace c4:=Bool.eq_false_iff.mpr c4
  subst c4
  have H1 : (some ((⟨#[]⟩ : ByteArray),4)) = some (r1,r2):=by rw [if_neg (show ¬ (false = true) by decide)] at H;exact H
  clear H
  have H:=H1
  clear H1
  simp only [Option.some.injEq,Prod.mk.injEq] at H
  obtain ⟨rfl,rfl⟩:=H
  go_enter Tryd.func47,Tryd.ntmps47
  go_wp2_with (first|((with_reducible refine gate_callee (f:=63) rfl ?_);refine goesL_ (some 7) rfl rfl Tryd.func63 (by kernel_rfl) rfl #[.int .i64 a0,.int .i64 0,.int .i64 6] rfl (by (try simp only [List.map_toArray,List.map_cons,List.map_nil]);first|done|rfl|(simp only [List.length_drop,List.length_take];rfl)) ?_;(with_reducible refine (impl_within.calls a0 0 6 false _ A3.out).mono ?_);rintro e w' ⟨rfl,⟨nd,rfl⟩⟩;refine ⟨_,rfl,?_⟩))
  go_ret2
  exact ⟨by first|rfl|(simp [errW_none,errW_some] <;> rfl)|(simp [*,errW_none,errW_some] <;> rfl),by repeat (first|(with_reducible first|exact HB.out|apply qa5|apply qb5|apply qc5)|exact HB.out)⟩

/-! ### spec_ReadingMac: function 48 -/
def spec_ReadingMac.f (k : Nat) (a0 : Int) (a1 : Int) : Option (ByteArray × Int):=(spec_l01In.f a0 0 6).bind fun t208 => (if t208 = true then ((spec_l01In.f a1 0 1000000000).bind fun t209 => (if t209 = true then ((spec_l04Reading.f k a0 a1).bind fun t210 => (some (t210,0))) else (some ((⟨#[]⟩ : ByteArray),4)))) else (some ((⟨#[]⟩ : ByteArray),4)))
theorem spec_ReadingMac.mono : ∀ a0 a1 k,LeO (spec_ReadingMac.f k a0 a1) (spec_ReadingMac.f (k + 1) a0 a1):=by
 intro a0 a1 k
 unfold spec_ReadingMac.f
 repeat' first
   | (with_reducible exact spec_l04Reading.mono _ _ _)
   | (with_reducible exact LeO.refl _)
   | (with_reducible exact LeO.none _)
   | (with_reducible refine LeO.ite ?_ ?_)
   | (with_reducible refine LeO.bind ?_ (fun _ => ?_))
   | exact spec_l04Reading.mono _ _ _
   | exact LeO.none _
   | refine LeO.ite ?_ ?_
   | refine LeO.bind ?_ (fun _ => ?_)
set_option maxHeartbeats 8000000 in
set_option maxRecDepth 100000 in
theorem spec_ReadingMac.calls (k : Nat) (a0 : Int) (a1 : Int) (r1 : ByteArray) (r2 : Int) (w : World) (h : spec_ReadingMac.f k a0 a1 = some (r1,r2)) :
  Calls Tryd.prog 48 #[.int .i64 a0,.int .i64 a1] w fun e w' => e = .returned (.tuple #[.string r1,.int .i64 r2]) ∧ Below w.heap.size w w':=by
 have HB:=qd5 (Below.refl w.heap.size w)
 have H : ((spec_l01In.f a0 0 6).bind fun t208 => (if t208 = true then ((spec_l01In.f a1 0 1000000000).bind fun t209 => (if t209 = true then ((spec_l04Reading.f k a0 a1).bind fun t210 => (some (t210,0))) else (some ((⟨#[]⟩ : ByteArray),4)))) else (some ((⟨#[]⟩ : ByteArray),4)))) = some (r1,r2):=h
 clear h
 replace H:=Option.bind_eq_some_iff.mp H
 obtain ⟨t208,A30,H⟩:=H
 replace H : (if t208 = true then ((spec_l01In.f a1 0 1000000000).bind fun t209 => (if t209 = true then ((spec_l04Reading.f k a0 a1).bind fun t210 => (some (t210,0))) else (some ((⟨#[]⟩ : ByteArray),4)))) else (some ((⟨#[]⟩ : ByteArray),4))) = some (r1,r2):=H
 have A3:=qd5 A30
 clear A30
 by_cases c4 : t208 = true
 ·
  subst c4
  have H1 : ((spec_l01In.f a1 0 1000000000).bind fun t209 => (if t209 = true then ((spec_l04Reading.f k a0 a1).bind fun t210 => (some (t210,0))) else (some ((⟨#[]⟩ : ByteArray),4)))) = some (r1,r2):=by rw [if_pos rfl] at H;exact H
  clear H
  have H:=H1
  clear H1
  replace H:=Option.bind_eq_some_iff.mp H
  obtain ⟨t209,A50,H⟩:=H
  replace H : (if t209 = true then ((spec_l04Reading.f k a0 a1).bind fun t210 => (some (t210,0))) else (some ((⟨#[]⟩ : ByteArray),4))) = some (r1,r2):=H
  have A5:=qd5 A50
  clear A50
  by_cases c6 : t209 = true
  ·
   subst c6
   have H1 : ((spec_l04Reading.f k a0 a1).bind fun t210 => (some (t210,0))) = some (r1,r2):=by rw [if_pos rfl] at H;exact H
   clear H
   have H:=H1
   clear H1
   replace H:=Option.bind_eq_some_iff.mp H
   obtain ⟨t210,A70,H⟩:=H
   replace H : (some (t210,0)) = some (r1,r2):=H
   have A7:=qd5 A70
   clear A70
   simp only [Option.some.injEq,Prod.mk.injEq] at H
   obtain ⟨rfl,rfl⟩:=H
   go_enter Tryd.func48,Tryd.ntmps48
   go_wp2_with (first|((with_reducible refine gate_callee (f:=60) rfl ?_);refine goesL_ (some 7) rfl rfl Tryd.func60 (by kernel_rfl) rfl #[.int .i64 a0,.int .i64 0,.int .i64 6] rfl (by (try simp only [List.map_toArray,List.map_cons,List.map_nil]);first|done|rfl|(simp only [List.length_drop,List.length_take];rfl)) ?_;(with_reducible refine (spec_l01In.calls a0 0 6 true _ A3.out).mono ?_);rintro e w' ⟨rfl,⟨nd,rfl⟩⟩;refine ⟨_,rfl,?_⟩)|(go_at_call 60;(with_reducible refine (spec_l01In.calls a1 0 1000000000 true _ A5.out).mono ?_);rintro e w' ⟨rfl,⟨nd,rfl⟩⟩)|((with_reducible refine gate_callee (f:=98) rfl ?_);refine goesL_ (some 16) rfl rfl Tryd.func98 (by kernel_rfl) rfl #[.int .i64 a0,.int .i64 a1] rfl (by (try simp only [List.map_toArray,List.map_cons,List.map_nil]);first|done|rfl|(simp only [List.length_drop,List.length_take];rfl)) ?_;(with_reducible refine (spec_l04Reading.calls k a0 a1 t210 _ A7.out).mono ?_);rintro e w8 ⟨rfl,hb⟩;refine ⟨_,rfl,?_⟩;have n0_:=qd5 (below_step (by repeat (first|(with_reducible first|exact HB.out|apply qa5|apply qb5|apply qc5)|exact HB.out)) hb);clear HB;have HB:=n0_;clear n0_;(try clear hb);(try clear hb2);(try clear hk);(try clear hi)))
   go_ret2
   exact ⟨by first|rfl|(simp [errW_none,errW_some] <;> rfl)|(simp [*,errW_none,errW_some] <;> rfl),by repeat (first|(with_reducible first|exact HB.out|apply qa5|apply qb5|apply qc5)|exact HB.out)⟩
  ·
   replace c6:=Bool.eq_false_iff.mpr c6
   subst c6
   have H1 : (some ((⟨#[]⟩ : ByteArray),4)) = some (r1,r2):=by rw [if_neg (show ¬ (false = true) by decide)] at H;exact H
   clear H
   have H:=H1
   clear H1
   simp only [Option.some.injEq,Prod.mk.injEq] at H
   obtain ⟨rfl,rfl⟩:=H
   go_enter Tryd.func48,Tryd.ntmps48
   go_wp2_with (first|((with_reducible refine gate_callee (f:=60) rfl ?_);refine goesL_ (some 7) rfl rfl Tryd.func60 (by kernel_rfl) rfl #[.int .i64 a0,.int .i64 0,.int .i64 6] rfl (by (try simp only [List.map_toArray,List.map_cons,List.map_nil]);first|done|rfl|(simp only [List.length_drop,List.length_take];rfl)) ?_;(with_reducible refine (spec_l01In.calls a0 0 6 true _ A3.out).mono ?_);rintro e w' ⟨rfl,⟨nd,rfl⟩⟩;refine ⟨_,rfl,?_⟩)|(go_at_call 60;(with_reducible refine (spec_l01In.calls a1 0 1000000000 false _ A5.out).mono ?_);rintro e w' ⟨rfl,⟨nd,rfl⟩⟩))
   go_ret2
   exact ⟨by first|rfl|(simp [errW_none,errW_some] <;> rfl)|(simp [*,errW_none,errW_some] <;> rfl),by repeat (first|(with_reducible first|exact HB.out|apply qa5|apply qb5|apply qc5)|exact HB.out)⟩
 ·
  replace c4:=Bool.eq_false_iff.mpr c4
  subst c4
  have H1 : (some ((⟨#[]⟩ : ByteArray),4)) = some (r1,r2):=by rw [if_neg (show ¬ (false = true) by decide)] at H;exact H
  clear H
  have H:=H1
  clear H1
  simp only [Option.some.injEq,Prod.mk.injEq] at H
  obtain ⟨rfl,rfl⟩:=H
  go_enter Tryd.func48,Tryd.ntmps48
  go_wp2_with (first|((with_reducible refine gate_callee (f:=60) rfl ?_);refine goesL_ (some 7) rfl rfl Tryd.func60 (by kernel_rfl) rfl #[.int .i64 a0,.int .i64 0,.int .i64 6] rfl (by (try simp only [List.map_toArray,List.map_cons,List.map_nil]);first|done|rfl|(simp only [List.length_drop,List.length_take];rfl)) ?_;(with_reducible refine (spec_l01In.calls a0 0 6 false _ A3.out).mono ?_);rintro e w' ⟨rfl,⟨nd,rfl⟩⟩;refine ⟨_,rfl,?_⟩))
  go_ret2
  exact ⟨by first|rfl|(simp [errW_none,errW_some] <;> rfl)|(simp [*,errW_none,errW_some] <;> rfl),by repeat (first|(with_reducible first|exact HB.out|apply qa5|apply qb5|apply qc5)|exact HB.out)⟩

/-! ### laws_hasInt: function 49 -/
def laws_hasInt.l0 : Nat → List Int → Int → Int → Option (Bool)
 | 0,_,_,_ => none
 | k + 1,x0,x1,x5 => if x5 < (x0.length : Int) then (if 0 ≤ x5 then (if (rd x0 x5) = x1 then (some true) else (laws_hasInt.l0 k x0 x1 (wrap64 (x5 + 1)))) else (none)) else (some false)
def laws_hasInt.f (k : Nat) (l0 : List Int) (a1 : Int) : Option (Bool):=laws_hasInt.l0 k l0 a1 0
theorem laws_hasInt.mono_l : ∀ k,(∀ y0 y1 y2,LeO (laws_hasInt.l0 k y0 y1 y2) (laws_hasInt.l0 (k + 1) y0 y1 y2))
 | 0 => fun _ _ _ r h => by simp [laws_hasInt.l0] at h
 | k + 1 => by
  have ih0:=laws_hasInt.mono_l k
  ·
   intro y0 y1 y2
   unfold laws_hasInt.l0
   repeat' first
   | (with_reducible exact ih0 _ _ _)
   | (with_reducible exact LeO.refl _)
   | (with_reducible exact LeO.none _)
   | (with_reducible refine LeO.ite ?_ ?_)
   | (with_reducible refine LeO.bind ?_ (fun _ => ?_))
   | exact ih0 _ _ _
   | exact LeO.none _
   | refine LeO.ite ?_ ?_
   | refine LeO.bind ?_ (fun _ => ?_)
theorem laws_hasInt.mono : ∀ a0 a1 k,LeO (laws_hasInt.f k a0 a1) (laws_hasInt.f (k + 1) a0 a1):=by
 intro a0 a1 k
 have ih0:=laws_hasInt.mono_l k
 unfold laws_hasInt.f
 repeat' first
   | (with_reducible exact ih0 _ _ _)
   | (with_reducible exact LeO.refl _)
   | (with_reducible exact LeO.none _)
   | (with_reducible refine LeO.ite ?_ ?_)
   | (with_reducible refine LeO.bind ?_ (fun _ => ?_))
   | exact ih0 _ _ _
   | exact LeO.none _
   | refine LeO.ite ?_ ?_
   | refine LeO.bind ?_ (fun _ => ?_)
set_option maxHeartbeats 8000000 in
set_option maxRecDepth 100000 in
theorem laws_hasInt.calls (k : Nat) (A0 : Option Addr) (c0 : Nat) (l0 : List Int) (a1 : Int) (r : Bool) (w : World) (hr0 : Kd.C (Kd.int .i64) w A0 l0.length l0) (hc0 : l0.length ≤ c0) (h : laws_hasInt.f k l0 a1 = some r) :
  Calls Tryd.prog 49 #[.slice A0 l0.length c0,.int .i64 a1] w fun e w' => e = .returned (.bool r) ∧ Drawn0 w w':=by
 have HR0:=qd5 hr0
 have HC0:=qd5 hc0
 clear hr0 hc0
 have H : (laws_hasInt.l0 k l0 a1 0) = some r:=h
 clear h
 have H':=qd5 H
 clear H
 go_enter Tryd.func49,Tryd.ntmps49
 go_wp2
 go_loopg [5] k (fun kq v5 w' => ∃ (x5_1 : Int),v5 = .int .i64 x5_1 ∧ Aside0 (laws_hasInt.l0 kq l0 a1 x5_1 = some r) ∧ Aside0 (kq ≤ k) ∧ Drawn0 w w')
 case atStart => exact ⟨(0),(by first|rfl|(simp;done)|(simp [*];done)),H',⟨Nat.le_refl _⟩,by repeat (first|exact Drawn0.refl _|apply Drawn0.step)⟩
 case round =>
  clear H'
  try clear p2
  obtain ⟨x5_1,rfl,HA,HK1,⟨m1,rfl⟩⟩:=hrel
  cases gk with
  | zero => exact absurd HA.out (by simp [laws_hasInt.l0])
  | succ k1 =>
   have H:=HA.out
   clear HA
   simp only [laws_hasInt.l0] at H
   by_cases c3 : x5_1 < (l0.length : Int)
   ·
    rw [if_pos c3] at H
    have c3b0 : decide (x5_1 < (l0.length : Int)) = true:=decide_eq_true c3
    clear c3
    by_cases c4 : 0 ≤ x5_1
    ·
     rw [if_pos c4] at H
     have c4b0 : decide (0 ≤ x5_1) = true:=decide_eq_true c4
     clear c4
     by_cases c5 : (rd l0 x5_1) = a1
     ·
      rw [if_pos c5] at H
      have c5b0 : ((rd l0 x5_1) == a1) = true:=beq_iff_eq.mpr c5
      have c5b1 : ((rd l0 x5_1) != a1) = false:=bne_eq_false_iff_eq.mpr c5
      clear c5
      obtain rfl:=Option.some.inj H
      have p211 : 0 ≤ (x5_1 : Int):=of_decide_eq_true (by first|(with_reducible assumption)|assumption)
      have q211 : x5_1 < (l0.length : Int):=of_decide_eq_true (by first|(with_reducible assumption)|assumption)
      obtain ⟨ad211,e211,hx211_0⟩:=Kd.at_int HR0.out x5_1 p211 q211
      cases e211
      replace p211:=eq_true p211
      replace q211:=eq_true q211
      go_wp2
      go_ret
      exact ⟨by first|rfl|(simp;done)|(simp [*];done),by repeat (first|exact Drawn0.refl _|apply Drawn0.step)⟩
     ·
      rw [if_neg c5] at H
      have c5b0 : ((rd l0 x5_1) == a1) = false:=beq_eq_false_iff_ne.mpr c5
      have c5b1 : ((rd l0 x5_1) != a1) = true:=bne_iff_ne.mpr c5
      have H':=qd5 H
      clear H
      have p211 : 0 ≤ (x5_1 : Int):=of_decide_eq_true (by first|(with_reducible assumption)|assumption)
      have q211 : x5_1 < (l0.length : Int):=of_decide_eq_true (by first|(with_reducible assumption)|assumption)
      obtain ⟨ad211,e211,hx211_0⟩:=Kd.at_int HR0.out x5_1 p211 q211
      cases e211
      replace p211:=eq_true p211
      replace q211:=eq_true q211
      go_wp2
      go_roundg k1
      case measure => have:=HK1.out;omega
      case rel => exact ⟨(wrap64 (x5_1 + 1)),(by first|rfl|(simp;done)|(simp [*];done)),H',⟨by have:=HK1.out;omega⟩,by repeat (first|exact Drawn0.refl _|apply Drawn0.step)⟩
    ·
     rw [if_neg c4] at H
     exact absurd H (by simp)
   ·
    rw [if_neg c3] at H
    have c3b0 : decide (x5_1 < (l0.length : Int)) = false:=decide_eq_false c3
    clear c3
    obtain rfl:=Option.some.inj H
    go_wp2
    go_ret
    exact ⟨by first|rfl|(simp;done)|(simp [*];done),by repeat (first|exact Drawn0.refl _|apply Drawn0.step)⟩

end Go.Proofs.YtmkaknegjahjaaaDoor.PFnAgreed
