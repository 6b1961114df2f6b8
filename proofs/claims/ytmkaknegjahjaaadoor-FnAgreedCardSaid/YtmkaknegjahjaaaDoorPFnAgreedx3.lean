-- laid by this session's program myprint.py over the kit's printer
-- squeezed
-- aliased
import Derived.Test.YtmkaknegjahjaaaDoorPFnAgreedx0
import Derived.Test.YtmkaknegjahjaaaDoorPFnAgreedx1
import Derived.Test.YtmkaknegjahjaaaDoorPFnAgreedx2
namespace Go.Proofs.YtmkaknegjahjaaaDoor.PFnAgreed
open Go.RowKit Go.Proofs.YtmkaknegjahjaaaDoorV.PrintWords Go.Proofs.YtmkaknegjahjaaaDoorV.PrintLast Go.Proofs.YtmkaknegjahjaaaDoorV.PrintMore
attribute [local go_sem] max2_int min2_int max_two min_two max_three min_three max_four min_four u8_wm u32_wm   -- for this text's walks alone
set_option linter.unusedVariables false
set_option linter.unusedSimpArgs false

/-! ### spec_ReadingsTime: function 39 -/
theorem qa3 : type_of% @below_alloc:=@below_alloc
theorem qb3 : type_of% @pw_below_drewN:=@pw_below_drewN
theorem qc3 : type_of% @below_drew1:=@below_drew1
theorem qd3 : type_of% @Aside0.mk:=@Aside0.mk
def spec_ReadingsTime.f (k : Nat) (a0 : Int) (l1 : List (S72)) : Option (Int × Int):=if (l1.length : Int) > 4096 then (some (0,2)) else ((spec_l04Nodes.f a0).bind fun t168 => (if t168 = true then ((spec_l04Time.f k a0 l1).bind fun bt169 => (if bt169.2 = true then (some (bt169.1,0)) else (some (0,12)))) else (some (0,4))))
theorem spec_ReadingsTime.mono : ∀ a0 a1 k,LeO (spec_ReadingsTime.f k a0 a1) (spec_ReadingsTime.f (k + 1) a0 a1):=by
 intro a0 a1 k
 unfold spec_ReadingsTime.f
 repeat' first
   | (with_reducible exact spec_l04Time.mono _ _ _)
   | (with_reducible exact LeO.refl _)
   | (with_reducible exact LeO.none _)
   | (with_reducible refine LeO.ite ?_ ?_)
   | (with_reducible refine LeO.bind ?_ (fun _ => ?_))
   | exact spec_l04Time.mono _ _ _
   | exact LeO.none _
   | refine LeO.ite ?_ ?_
   | refine LeO.bind ?_ (fun _ => ?_)
set_option maxHeartbeats 8000000 in
set_option maxRecDepth 100000 in
theorem spec_ReadingsTime.calls (k : Nat) (a0 : Int) (A1 : Option Addr) (c1 : Nat) (l1 : List (S72)) (r1 : Int) (r2 : Int) (w : World) (hr1 : Kd.C k72 w A1 l1.length l1) (hc1 : l1.length ≤ c1) (h : spec_ReadingsTime.f k a0 l1 = some (r1,r2)) :
  Calls Tryd.prog 39 #[.int .i64 a0,.slice A1 l1.length c1] w fun e w' => e = .returned (.tuple #[.int .i64 r1,.int .i64 r2]) ∧ Below w.heap.size w w':=by
 have HR1:=qd3 hr1
 have HC1:=qd3 hc1
 clear hr1 hc1
 have HB:=qd3 (Below.refl w.heap.size w)
 have H : (if (l1.length : Int) > 4096 then (some (0,2)) else ((spec_l04Nodes.f a0).bind fun t168 => (if t168 = true then ((spec_l04Time.f k a0 l1).bind fun bt169 => (if bt169.2 = true then (some (bt169.1,0)) else (some (0,12)))) else (some (0,4))))) = some (r1,r2):=h
 clear h
 by_cases c3 : (l1.length : Int) > 4096
 ·
  rw [if_pos c3] at H
  have c3b0 : decide (4096 < (l1.length : Int)) = true:=decide_eq_true c3
  have c3b1 : decide (4096 < l1.length) = true:=decide_eq_true (by omega)
  clear c3
  simp only [Option.some.injEq,Prod.mk.injEq] at H
  obtain ⟨rfl,rfl⟩:=H
  go_enter Tryd.func39,Tryd.ntmps39
  go_wp2
  go_ret2
  exact ⟨by first|rfl|(simp [errW_none,errW_some] <;> rfl)|(simp [*,errW_none,errW_some] <;> rfl),by repeat (first|(with_reducible first|exact HB.out|apply qa3|apply qb3|apply qc3)|exact HB.out)⟩
 ·
  rw [if_neg c3] at H
  have c3b0 : decide (4096 < (l1.length : Int)) = false:=decide_eq_false c3
  have c3b1 : decide (4096 < l1.length) = false:=decide_eq_false (by omega)
  clear c3
  replace H:=Option.bind_eq_some_iff.mp H
  obtain ⟨t168,A40,H⟩:=H
  replace H : (if t168 = true then ((spec_l04Time.f k a0 l1).bind fun bt169 => (if bt169.2 = true then (some (bt169.1,0)) else (some (0,12)))) else (some (0,4))) = some (r1,r2):=H
  have A4:=qd3 A40
  clear A40
  by_cases c5 : t168 = true
  ·
   subst c5
   have H1 : ((spec_l04Time.f k a0 l1).bind fun bt169 => (if bt169.2 = true then (some (bt169.1,0)) else (some (0,12)))) = some (r1,r2):=by rw [if_pos rfl] at H;exact H
   clear H
   have H:=H1
   clear H1
   replace H:=Option.bind_eq_some_iff.mp H
   obtain ⟨⟨t169,t170⟩,A60,H⟩:=H
   replace H : (if t170 = true then (some (t169,0)) else (some (0,12))) = some (r1,r2):=H
   have A6:=qd3 A60
   clear A60
   by_cases c7 : t170 = true
   ·
    subst c7
    have H1 : (some (t169,0)) = some (r1,r2):=by rw [if_pos rfl] at H;exact H
    clear H
    have H:=H1
    clear H1
    simp only [Option.some.injEq,Prod.mk.injEq] at H
    obtain ⟨rfl,rfl⟩:=H
    go_enter Tryd.func39,Tryd.ntmps39
    go_wp2_with (first|((with_reducible refine gate_callee (f:=89) rfl ?_);refine goesL_ (some 12) rfl rfl Tryd.func89 (by kernel_rfl) rfl #[.int .i64 a0] rfl (by (try simp only [List.map_toArray,List.map_cons,List.map_nil]);first|done|rfl|(simp only [List.length_drop,List.length_take];rfl)) ?_;(with_reducible refine (spec_l04Nodes.calls a0 true _ A4.out).mono ?_);rintro e w' ⟨rfl,⟨nd,rfl⟩⟩;refine ⟨_,rfl,?_⟩)|((with_reducible refine gate_callee (f:=90) rfl ?_);refine goesL_ (some 17) rfl rfl Tryd.func90 (by kernel_rfl) rfl #[.int .i64 a0,.slice A1 l1.length c1] rfl (by (try simp only [List.map_toArray,List.map_cons,List.map_nil]);first|done|rfl|(simp only [List.length_drop,List.length_take];rfl)) ?_;(with_reducible refine (spec_l04Time.calls k a0 _ _ l1 t169 true _ ?side1 ?side2 A6.out).mono ?_);(case side1 => repeat (first|exact HR1.out|(with_reducible refine Kd.C_alloc ?_ _)|(with_reducible refine Kd.C_drewN ?_ _)|(with_reducible refine Kd.C_drew ?_)));(case side2 => exact HC1.out);rintro e w8 ⟨rfl,hb⟩;refine ⟨_,rfl,?_⟩;have n0_:=qd3 (below_step (by repeat (first|(with_reducible first|exact HB.out|apply qa3|apply qb3|apply qc3)|exact HB.out)) hb);clear HB;have HB:=n0_;clear n0_;(try clear hb);(try clear hb2);(try clear hk);(try clear hi)))
    go_ret2
    exact ⟨by first|rfl|(simp [errW_none,errW_some] <;> rfl)|(simp [*,errW_none,errW_some] <;> rfl),by repeat (first|(with_reducible first|exact HB.out|apply qa3|apply qb3|apply qc3)|exact HB.out)⟩
   ·
    replace c7:=Bool.eq_false_iff.mpr c7
    subst c7
    have H1 : (some (0,12)) = some (r1,r2):=by rw [if_neg (show ¬ (false = true) by decide)] at H;exact H
    clear H
    have H:=H1
    clear H1
    simp only [Option.some.injEq,Prod.mk.injEq] at H
    obtain ⟨rfl,rfl⟩:=H
    go_enter Tryd.func39,Tryd.ntmps39
    go_wp2_with (first|((with_reducible refine gate_callee (f:=89) rfl ?_);refine goesL_ (some 12) rfl rfl Tryd.func89 (by kernel_rfl) rfl #[.int .i64 a0] rfl (by (try simp only [List.map_toArray,List.map_cons,List.map_nil]);first|done|rfl|(simp only [List.length_drop,List.length_take];rfl)) ?_;(with_reducible refine (spec_l04Nodes.calls a0 true _ A4.out).mono ?_);rintro e w' ⟨rfl,⟨nd,rfl⟩⟩;refine ⟨_,rfl,?_⟩)|((with_reducible refine gate_callee (f:=90) rfl ?_);refine goesL_ (some 17) rfl rfl Tryd.func90 (by kernel_rfl) rfl #[.int .i64 a0,.slice A1 l1.length c1] rfl (by (try simp only [List.map_toArray,List.map_cons,List.map_nil]);first|done|rfl|(simp only [List.length_drop,List.length_take];rfl)) ?_;(with_reducible refine (spec_l04Time.calls k a0 _ _ l1 t169 false _ ?side1 ?side2 A6.out).mono ?_);(case side1 => repeat (first|exact HR1.out|(with_reducible refine Kd.C_alloc ?_ _)|(with_reducible refine Kd.C_drewN ?_ _)|(with_reducible refine Kd.C_drew ?_)));(case side2 => exact HC1.out);rintro e w9 ⟨rfl,hb⟩;refine ⟨_,rfl,?_⟩;have n0_:=qd3 (below_step (by repeat (first|(with_reducible first|exact HB.out|apply qa3|apply qb3|apply qc3)|exact HB.out)) hb);clear HB;have HB:=n0_;clear n0_;(try clear hb);(try clear hb2);(try clear hk);(try clear hi)))
    go_ret2
    exact ⟨by first|rfl|(simp [errW_none,errW_some] <;> rfl)|(simp [*,errW_none,errW_some] <;> rfl),by repeat (first|(with_reducible first|exact HB.out|apply qa3|apply qb3|apply qc3)|exact HB.out)⟩
  ·
   replace c5:=Bool.eq_false_iff.mpr c5
   subst c5
   have H1 : (some (0,4)) = some (r1,r2):=by rw [if_neg (show ¬ (false = true) by decide)] at H;exact H
   clear H
   have H:=H1
   clear H1
   simp only [Option.some.injEq,Prod.mk.injEq] at H
   obtain ⟨rfl,rfl⟩:=H
   go_enter Tryd.func39,Tryd.ntmps39
   go_wp2_with (first|((with_reducible refine gate_callee (f:=89) rfl ?_);refine goesL_ (some 12) rfl rfl Tryd.func89 (by kernel_rfl) rfl #[.int .i64 a0] rfl (by (try simp only [List.map_toArray,List.map_cons,List.map_nil]);first|done|rfl|(simp only [List.length_drop,List.length_take];rfl)) ?_;(with_reducible refine (spec_l04Nodes.calls a0 false _ A4.out).mono ?_);rintro e w' ⟨rfl,⟨nd,rfl⟩⟩;refine ⟨_,rfl,?_⟩))
   go_ret2
   exact ⟨by first|rfl|(simp [errW_none,errW_some] <;> rfl)|(simp [*,errW_none,errW_some] <;> rfl),by repeat (first|(with_reducible first|exact HB.out|apply qa3|apply qb3|apply qc3)|exact HB.out)⟩

/-! ### impl_Reading: function 92 -/
def impl_Reading.f (l0 : List (S72)) : Option (Bool):=some (decide ((l0.length : Int) > 4096))
set_option maxHeartbeats 8000000 in
set_option maxRecDepth 100000 in
theorem impl_Reading.calls (A0 : Option Addr) (c0 : Nat) (l0 : List (S72)) (r : Bool) (w : World) (hr0 : Kd.C k72 w A0 l0.length l0) (hc0 : l0.length ≤ c0) (h : impl_Reading.f l0 = some r) :
  Calls Tryd.prog 92 #[.slice A0 l0.length c0] w fun e w' => e = .returned (.bool r) ∧ Drawn0 w w':=by
 have HR0:=qd3 hr0
 have HC0:=qd3 hc0
 clear hr0 hc0
 have H : (some (decide ((l0.length : Int) > 4096))) = some r:=h
 clear h
 obtain rfl:=Option.some.inj H
 go_enter Tryd.func92,Tryd.ntmps92
 go_wp2
 go_ret
 exact ⟨by first|rfl|(simp;done)|(simp [*];done),by repeat (first|exact Drawn0.refl _|apply Drawn0.step)⟩

/-! ### impl_FaultsOf: function 45 -/
def impl_FaultsOf.f (a0 : Int) : Option (Int × Int):=if a0 = 1 then (some (wrap64 (Int.tdiv (wrap64 (a0 - 1)) 3),0)) else (if a0 = 4 then (some (wrap64 (Int.tdiv (wrap64 (a0 - 1)) 3),0)) else (if a0 = 7 then (some (wrap64 (Int.tdiv (wrap64 (a0 - 1)) 3),0)) else (some (0,4))))
set_option maxHeartbeats 8000000 in
set_option maxRecDepth 100000 in
theorem impl_FaultsOf.calls (a0 : Int) (r1 : Int) (r2 : Int) (w : World) (h : impl_FaultsOf.f a0 = some (r1,r2)) :
  Calls Tryd.prog 45 #[.int .i64 a0] w fun e w' => e = .returned (.tuple #[.int .i64 r1,.int .i64 r2]) ∧ Drawn0 w w':=by
 have H : (if a0 = 1 then (some (wrap64 (Int.tdiv (wrap64 (a0 - 1)) 3),0)) else (if a0 = 4 then (some (wrap64 (Int.tdiv (wrap64 (a0 - 1)) 3),0)) else (if a0 = 7 then (some (wrap64 (Int.tdiv (wrap64 (a0 - 1)) 3),0)) else (some (0,4))))) = some (r1,r2):=h
 clear h
 by_cases c2 : a0 = 1
 ·
  rw [if_pos c2] at H
  have c2b0 : (a0 == 1) = true:=beq_iff_eq.mpr c2
  have c2b1 : (a0 != 1) = false:=bne_eq_false_iff_eq.mpr c2
  clear c2
  simp only [Option.some.injEq,Prod.mk.injEq] at H
  obtain ⟨rfl,rfl⟩:=H
  go_enter Tryd.func45,Tryd.ntmps45
  go_wp2
  go_ret2
  exact ⟨by first|rfl|(simp;done)|(simp [*];done),by repeat (first|exact Drawn0.refl _|apply Drawn0.step)⟩
 ·
  rw [if_neg c2] at H
  have c2b0 : (a0 == 1) = false:=beq_eq_false_iff_ne.mpr c2
  have c2b1 : (a0 != 1) = true:=bne_iff_ne.mpr c2
  by_cases c3 : a0 = 4
  ·
   rw [if_pos c3] at H
   have c3b0 : (a0 == 4) = true:=beq_iff_eq.mpr c3
   have c3b1 : (a0 != 4) = false:=bne_eq_false_iff_eq.mpr c3
   clear c3
   simp only [Option.some.injEq,Prod.mk.injEq] at H
   obtain ⟨rfl,rfl⟩:=H
   go_enter Tryd.func45,Tryd.ntmps45
   go_wp2
   go_ret2
   exact ⟨by first|rfl|(simp;done)|(simp [*];done),by repeat (first|exact Drawn0.refl _|apply Drawn0.step)⟩
  ·
   rw [if_neg c3] at H
   have c3b0 : (a0 == 4) = false:=beq_eq_false_iff_ne.mpr c3
   have c3b1 : (a0 != 4) = true:=bne_iff_ne.mpr c3
   by_cases c4 : a0 = 7
   ·
    rw [if_pos c4] at H
    have c4b0 : (a0 == 7) = true:=beq_iff_eq.mpr c4
    have c4b1 : (a0 != 7) = false:=bne_eq_false_iff_eq.mpr c4
    clear c4
    simp only [Option.some.injEq,Prod.mk.injEq] at H
    obtain ⟨rfl,rfl⟩:=H
    go_enter Tryd.func45,Tryd.ntmps45
    go_wp2
    go_ret2
    exact ⟨by first|rfl|(simp;done)|(simp [*];done),by repeat (first|exact Drawn0.refl _|apply Drawn0.step)⟩
   ·
    rw [if_neg c4] at H
    have c4b0 : (a0 == 7) = false:=beq_eq_false_iff_ne.mpr c4
    have c4b1 : (a0 != 7) = true:=bne_iff_ne.mpr c4
    simp only [Option.some.injEq,Prod.mk.injEq] at H
    obtain ⟨rfl,rfl⟩:=H
    go_enter Tryd.func45,Tryd.ntmps45
    go_wp2
    go_ret2
    exact ⟨by first|rfl|(simp;done)|(simp [*];done),by repeat (first|exact Drawn0.refl _|apply Drawn0.step)⟩

/-! ### impl_areNodes: function 93 -/
def impl_areNodes.f (a0 : Int) : Option (Bool):=(impl_FaultsOf.f a0).bind fun bt171 => (some (bt171.2 == 0))
set_option maxHeartbeats 8000000 in
set_option maxRecDepth 100000 in
theorem impl_areNodes.calls (a0 : Int) (r : Bool) (w : World) (h : impl_areNodes.f a0 = some r) :
  Calls Tryd.prog 93 #[.int .i64 a0] w fun e w' => e = .returned (.bool r) ∧ Drawn0 w w':=by
 have H : ((impl_FaultsOf.f a0).bind fun bt171 => (some (bt171.2 == 0))) = some r:=h
 clear h
 replace H:=Option.bind_eq_some_iff.mp H
 obtain ⟨⟨t171,t172⟩,A20,H⟩:=H
 replace H : (some (t172 == 0)) = some r:=H
 have A2:=qd3 A20
 clear A20
 obtain rfl:=Option.some.inj H
 go_enter Tryd.func93,Tryd.ntmps93
 go_wp2_with (first|((with_reducible refine gate_callee (f:=45) rfl ?_);refine goesL_ (some 7) rfl rfl Tryd.func45 (by kernel_rfl) rfl #[.int .i64 a0] rfl (by (try simp only [List.map_toArray,List.map_cons,List.map_nil]);first|done|rfl|(simp only [List.length_drop,List.length_take];rfl)) ?_;(with_reducible refine (impl_FaultsOf.calls a0 t171 t172 _ A2.out).mono ?_);rintro e w' ⟨rfl,⟨nd,rfl⟩⟩;refine ⟨_,rfl,?_⟩))
 go_ret
 exact ⟨by first|rfl|(simp;done)|(simp [*];done),by repeat (first|exact Drawn0.refl _|apply Drawn0.step)⟩

/-! ### impl_number: function 99 -/
def impl_number.l0 : Nat → Int → List Int → Int → Option (ByteArray)
 | 0,_,_,_ => none
 | k + 1,x0,x5,x6 => if x6 ≥ 0 then (if 0 ≤ x6 then (if x6 < (x5.length : Int) then (impl_number.l0 k (x0 / 256) (x5.set (x6 : Int).toNat ((x0) % 256)) (wrap64 (x6 - 1))) else (none)) else (none)) else (some (strOfNums x5))
def impl_number.f (k : Nat) (a0 : Int) (a1 : Int) : Option (ByteArray):=if 0 ≤ a1 then (if (a1 : Int).toNat ≤ 281474976710656 then (impl_number.l0 k a0 (List.replicate (a1 : Int).toNat 0) (wrap64 (a1 - 1))) else (none)) else (none)
theorem impl_number.mono_l : ∀ k,(∀ y0 y1 y2,LeO (impl_number.l0 k y0 y1 y2) (impl_number.l0 (k + 1) y0 y1 y2))
 | 0 => fun _ _ _ r h => by simp [impl_number.l0] at h
 | k + 1 => by
  have ih0:=impl_number.mono_l k
  ·
   intro y0 y1 y2
   unfold impl_number.l0
   repeat' first
   | (with_reducible exact ih0 _ _ _)
   | (with_reducible exact LeO.refl _)
   | (with_reducible exact LeO.none _)
   | (with_reducible refine LeO.ite ?_ ?_)
   | (with_reducible refine LeO.bind ?_ (fun _ => ?_))
   | exact ih0 _ _ _
   | exact LeO.none _
   | refine LeO.ite ?_ ?_
   | refine LeO.bind ?_ (fun _ => ?_)
theorem impl_number.mono : ∀ a0 a1 k,LeO (impl_number.f k a0 a1) (impl_number.f (k + 1) a0 a1):=by
 intro a0 a1 k
 have ih0:=impl_number.mono_l k
 unfold impl_number.f
 repeat' first
   | (with_reducible exact ih0 _ _ _)
   | (with_reducible exact LeO.refl _)
   | (with_reducible exact LeO.none _)
   | (with_reducible refine LeO.ite ?_ ?_)
   | (with_reducible refine LeO.bind ?_ (fun _ => ?_))
   | exact ih0 _ _ _
   | exact LeO.none _
   | refine LeO.ite ?_ ?_
   | refine LeO.bind ?_ (fun _ => ?_)
set_option maxHeartbeats 8000000 in
set_option maxRecDepth 100000 in
theorem impl_number.calls (k : Nat) (a0 : Int) (a1 : Int) (r : ByteArray) (w : World) (h : impl_number.f k a0 a1 = some r) :
  Calls Tryd.prog 99 #[.int .i64 a0,.int .i64 a1] w fun e w' => e = .returned (.string r) ∧ Below w.heap.size w w':=by
 have HB:=qd3 (Below.refl w.heap.size w)
 have H : (if 0 ≤ a1 then (if (a1 : Int).toNat ≤ 281474976710656 then (impl_number.l0 k a0 (List.replicate (a1 : Int).toNat 0) (wrap64 (a1 - 1))) else (none)) else (none)) = some r:=h
 clear h
 by_cases c3 : 0 ≤ a1
 ·
  rw [if_pos c3] at H
  have c3b0:=eq_true c3
  have c3b1 : decide (0 ≤ a1) = true:=decide_eq_true c3
  clear c3
  by_cases c4 : (a1 : Int).toNat ≤ 281474976710656
  ·
   rw [if_pos c4] at H
   have c4b0:=eq_true c4
   have c4b1 : decide ((a1 : Int).toNat ≤ 281474976710656) = true:=decide_eq_true c4
   clear c4
   obtain ⟨y173,hy173⟩ : ∃ y_ : List Int,y_ = (List.replicate (a1 : Int).toNat 0):=⟨_,rfl⟩
   replace H : (impl_number.l0 k a0 y173 (wrap64 (a1 - 1))) = some r:=by first|(rw [hy173];with_reducible exact H)|(have H2_:=(Option.bind_some _ _).symm.trans H;rw [hy173];with_reducible exact H2_)|(have H2_:=(Option.bind_some _ _).symm.trans H;with_reducible exact H2_)|with_reducible exact H|(rw [hy173];exact H)|exact H
   have Ny173:=qd3 hy173
   clear hy173
   have H':=qd3 H
   clear H
   go_enter Tryd.func99,Tryd.ntmps99
   go_wp2_with (first|((with_reducible refine gate_dst (N:=8) rfl ?_);refine Kd.R_make (Kd.int .u8) _ 5 rfl (N:=8) rfl 22 _ _ rfl a1 rfl rfl Tryd.underlying22 (.int .u8 0) 1 info5 rfl (by decide) (by omega) 0 (ok:=fun _ => True) (okp:=fun _ => True) rfl (fun _ hk => hk) trivial (of_decide_eq_true (by first|(with_reducible assumption)|assumption)) (Nat.le_trans (Nat.mul_le_mul_right _ (of_decide_eq_true (by first|(with_reducible assumption)|assumption) : a1.toNat ≤ 281474976710656)) (by omega)) (Below.refl _ _) (Nat.le_refl _) ?_;intro v174 w5 ho6 hb hg_ hnew_;clear hg_ hnew_;(first|rw [← Ny173.out] at ho6|(simp only [Int.reduceToNat] at ho6;rw [← Ny173.out] at ho6));have n0_:=qd3 (Kd.R_lower ho6 (below_size (by repeat (first|(with_reducible first|exact HB.out|apply qa3|apply qb3|apply qc3)|exact HB.out))));have n1_:=qd3 (below_step (by repeat (first|(with_reducible first|exact HB.out|apply qa3|apply qb3|apply qc3)|exact HB.out)) hb);clear HB;have HO175:=n0_;have HB:=n1_;clear n0_ n1_;clear hb ho6))
   go_loopg [0,6] k (fun kq v0 v6 w' => ∃ (x0_1 : Int) (x5_1 : List Int) (x6_1 : Int),v0 = .int .i64 x0_1 ∧ v6 = .int .i64 x6_1 ∧ Aside0 (impl_number.l0 kq x0_1 x5_1 x6_1 = some r) ∧ Aside0 (kq ≤ k) ∧ Aside0 (Kd.R (Kd.int .u8) 5 w' w.heap.size (fun _ => True) v174 x5_1) ∧ Aside0 (Below w.heap.size w w'))
   case atStart => exact ⟨(a0),(y173),(wrap64 (a1 - 1)),(by first|rfl|(simp;done)|(simp [*];done)),(by first|rfl|(simp;done)|(simp [*];done)),H',⟨Nat.le_refl _⟩,⟨by (with_reducible repeat (first|apply Kd.R_alloc|apply Kd.R_drewN|apply Kd.R_drew));exact HO175.out⟩,⟨by repeat (first|(with_reducible first|exact HB.out|apply qa3|apply qb3|apply qc3)|exact HB.out)⟩⟩
   case round =>
    clear H'
    try clear p2
    try clear c3
    try clear c3b0
    try clear c3b1
    try clear c4
    try clear c4b0
    try clear c4b1
    try clear p6
    obtain ⟨x0_1,x5_1,x6_1,rfl,rfl,HA,HK1,HO_5,HB⟩:=hrel
    cases gk with
    | zero => exact absurd HA.out (by simp [impl_number.l0])
    | succ k1 =>
     have H:=HA.out
     clear HA
     simp only [impl_number.l0] at H
     by_cases c7 : x6_1 ≥ 0
     ·
      rw [if_pos c7] at H
      have c7b0 : decide (0 ≤ x6_1) = true:=decide_eq_true c7
      clear c7
      by_cases c8 : 0 ≤ x6_1
      ·
       rw [if_pos c8] at H
       have c8b0 : decide (0 ≤ x6_1) = true:=decide_eq_true c8
       clear c8
       by_cases c9 : x6_1 < (x5_1.length : Int)
       ·
        rw [if_pos c9] at H
        have c9b0 : decide (x6_1 < (x5_1.length : Int)) = true:=decide_eq_true c9
        clear c9
        obtain ⟨y176,hy176⟩ : ∃ y_ : List Int,y_ = (x5_1.set (x6_1 : Int).toNat ((x0_1) % 256)):=⟨_,rfl⟩
        replace H : (impl_number.l0 k1 (x0_1 / 256) y176 (wrap64 (x6_1 - 1))) = some r:=by first|(rw [hy176];with_reducible exact H)|(have H2_:=(Option.bind_some _ _).symm.trans H;rw [hy176];with_reducible exact H2_)|(have H2_:=(Option.bind_some _ _).symm.trans H;with_reducible exact H2_)|with_reducible exact H|(rw [hy176];exact H)|exact H
        have Ny176:=qd3 hy176
        clear hy176
        have H':=qd3 H
        clear H
        have p10 : 0 ≤ (x6_1 : Int):=of_decide_eq_true (by first|(with_reducible assumption)|assumption)
        have q10 : (x6_1 : Int) < ((x5_1.length : Int) : Int):=of_decide_eq_true (by first|(with_reducible assumption)|assumption)
        obtain ⟨go10,co10,eo10,gb10,gl10,cl10,HG10⟩:=Kd.R_form HO_5.out (by omega)
        (first|cases eo10|(injection eo10 with ea_ en_ ec_;(first|subst ea_|(injection ea_ with ea_;subst ea_));subst ec_;clear en_))
        have GB10:=qd3 gb10
        have GG10:=qd3 HG10
        clear gb10 gl10 HG10
        obtain ⟨hx10_0,hf10_0⟩:=Kd.R_celln 0 HO_5.out (x6_1 : Int) p10 q10
        replace p10:=eq_true p10
        replace q10:=eq_true q10
        have HP11:=Kd.R_putg HO_5.out (x6_1 : Int) ((x0_1) % 256)
        go_wp2_with (first|((with_reducible refine gate_store (t:=5) (p:=19) rfl ?_);refine store_event (t:=5) (p:=19) (v:=?vo_w12) (w1:=(wr.setCell ⟨go10,(x6_1 : Int).toNat,none⟩ (.int .u8 ((x0_1) % 256)))) ?hg ?ho ?hn ?hr ?_;(case ho => rfl);(case hg => rfl);(case hn => rfl);(case hr => first|(go_simp;done)|(go_simp;rfl));intro w12 hw;have hg : wr.grownBy w12 (some go10):=(by rw [hw];exact HP11.2);have hp_ : Kd.R (Kd.int .u8) 5 w12 w.heap.size (fun _ => True) (.slice (some ⟨go10,0,none⟩) x5_1.length co10) y176:=(by rw [hw,Ny176.out];exact HP11.1);clear HP11;have n0_:=qd3 (hp_);have n1_:=qd3 ((by rw [hw];exact below_set (HB.out) GB10.out : Below w.heap.size w w12));clear HO_5;clear HB;have HO_5:=n0_;have HB:=n1_;clear n0_ n1_;clear hg hw hp_))
        go_roundg k1
        case measure => have:=HK1.out;omega
        case rel => exact ⟨(x0_1 / 256),(y176),(wrap64 (x6_1 - 1)),(by first|rfl|(simp;done)|(simp [*];done)),(by first|rfl|(simp;done)|(simp [*];done)),H',⟨by have:=HK1.out;omega⟩,⟨by (with_reducible repeat (first|apply Kd.R_alloc|apply Kd.R_drewN|apply Kd.R_drew));exact HO_5.out⟩,⟨by repeat (first|(with_reducible first|exact HB.out|apply qa3|apply qb3|apply qc3)|exact HB.out)⟩⟩
       ·
        rw [if_neg c9] at H
        exact absurd H (by simp)
      ·
       rw [if_neg c8] at H
       exact absurd H (by simp)
     ·
      rw [if_neg c7] at H
      have c7b0 : decide (0 ≤ x6_1) = false:=decide_eq_false c7
      clear c7
      obtain rfl:=Option.some.inj H
      have hcv13:=own_string (P:=Tryd.prog) Tryd.underlying22 Tryd.underlying5 Tryd.underlying9 (Kd.own_of_R HO_5.out)
      go_wp2
      go_ret
      exact ⟨by first|rfl|(simp [errW_none,errW_some] <;> rfl)|(simp [*,errW_none,errW_some] <;> rfl),by repeat (first|(with_reducible first|exact HB.out|apply qa3|apply qb3|apply qc3)|exact HB.out)⟩
  ·
   rw [if_neg c4] at H
   exact absurd H (by simp)
 ·
  rw [if_neg c3] at H
  exact absurd H (by simp)

/-! ### impl_hash: function 50, given -/
def impl_hash.f (t : ByteArray) : Option ByteArray:=if t.size ≤ 1099511627776 then some (Go.Proofs.YtmkaknegjahjaaaDoor.Sha.sha t) else none
theorem impl_hash.calls (t r : ByteArray) (w : World) (hG_ : Go.Proofs.YtmkaknegjahjaaaDoor.Sha.GlobA w) (h : impl_hash.f t = some r) : Calls Tryd.prog 50 #[.string t] w fun e w' => e = .returned (.string r) ∧ Below w.heap.size w w':=by
 have hs : t.size ≤ 1099511627776:=by
  rcases Nat.lt_or_ge 1099511627776 t.size with hl|hl
  ·
   rw [impl_hash.f,if_neg (by omega)] at h;cases h
  ·
   exact hl
 rw [impl_hash.f,if_pos hs] at h
 injection h with h
 subst h
 exact Go.Proofs.YtmkaknegjahjaaaDoor.Sha.hash_calls t w hG_ hs


/-! ### impl_mark: function 130 -/
def impl_mark.f (k : Nat) (a0 : Int) (a1 : ByteArray) : Option (ByteArray):=(impl_number.f k a0 1).bind fun t177 => (if 8 + t177.size ≤ 9223372036854775807 then ((impl_hash.f ((⟨#[110,111,100,101,32,107,101,121]⟩ : ByteArray) ++ t177)).bind fun t178 => (if t178.size + a1.size ≤ 9223372036854775807 then ((impl_hash.f (t178 ++ a1)).bind fun t179 => (if 0 ≤ 8 then (if 8 ≤ (t179.size : Int) then (some (t179.extract 0 8)) else (none)) else (none))) else (none))) else (none))
theorem impl_mark.mono : ∀ a0 a1 k,LeO (impl_mark.f k a0 a1) (impl_mark.f (k + 1) a0 a1):=by
 intro a0 a1 k
 unfold impl_mark.f
 repeat' first
   | (with_reducible exact impl_number.mono _ _ _)
   | (with_reducible exact LeO.refl _)
   | (with_reducible exact LeO.none _)
   | (with_reducible refine LeO.ite ?_ ?_)
   | (with_reducible refine LeO.bind ?_ (fun _ => ?_))
   | exact impl_number.mono _ _ _
   | exact LeO.none _
   | refine LeO.ite ?_ ?_
   | refine LeO.bind ?_ (fun _ => ?_)
set_option maxHeartbeats 8000000 in
set_option maxRecDepth 100000 in
theorem impl_mark.calls (k : Nat) (a0 : Int) (a1 : ByteArray) (r : ByteArray) (w : World) (hG_ : Go.Proofs.YtmkaknegjahjaaaDoor.Sha.GlobA w) (h : impl_mark.f k a0 a1 = some r) :
  Calls Tryd.prog 130 #[.int .i64 a0,.string a1] w fun e w' => e = .returned (.string r) ∧ Below w.heap.size w w':=by
 have HB:=qd3 (Below.refl w.heap.size w)
 have H : ((impl_number.f k a0 1).bind fun t177 => (if 8 + t177.size ≤ 9223372036854775807 then ((impl_hash.f ((⟨#[110,111,100,101,32,107,101,121]⟩ : ByteArray) ++ t177)).bind fun t178 => (if t178.size + a1.size ≤ 9223372036854775807 then ((impl_hash.f (t178 ++ a1)).bind fun t179 => (if 0 ≤ 8 then (if 8 ≤ (t179.size : Int) then (some (t179.extract 0 8)) else (none)) else (none))) else (none))) else (none))) = some r:=h
 clear h
 replace H:=Option.bind_eq_some_iff.mp H
 obtain ⟨t177,A30,H⟩:=H
 replace H : (if 8 + t177.size ≤ 9223372036854775807 then ((impl_hash.f ((⟨#[110,111,100,101,32,107,101,121]⟩ : ByteArray) ++ t177)).bind fun t178 => (if t178.size + a1.size ≤ 9223372036854775807 then ((impl_hash.f (t178 ++ a1)).bind fun t179 => (if 0 ≤ 8 then (if 8 ≤ (t179.size : Int) then (some (t179.extract 0 8)) else (none)) else (none))) else (none))) else (none)) = some r:=H
 have A3:=qd3 A30
 clear A30
 by_cases c4 : 8 + t177.size ≤ 9223372036854775807
 ·
  rw [if_pos c4] at H
  have c4b0:=eq_true c4
  have c4b1 : decide (8 + t177.size ≤ 9223372036854775807) = true:=decide_eq_true c4
  try have c4b2 : (9223372036854775807 < 8 + t177.size) = False:=eq_false (Nat.not_lt.2 c4)
  replace H:=Option.bind_eq_some_iff.mp H
  obtain ⟨t178,A50,H⟩:=H
  replace H : (if t178.size + a1.size ≤ 9223372036854775807 then ((impl_hash.f (t178 ++ a1)).bind fun t179 => (if 0 ≤ 8 then (if 8 ≤ (t179.size : Int) then (some (t179.extract 0 8)) else (none)) else (none))) else (none)) = some r:=H
  have A5:=qd3 A50
  clear A50
  by_cases c6 : t178.size + a1.size ≤ 9223372036854775807
  ·
   rw [if_pos c6] at H
   have c6b0:=eq_true c6
   have c6b1 : decide (t178.size + a1.size ≤ 9223372036854775807) = true:=decide_eq_true c6
   try have c6b2 : (9223372036854775807 < t178.size + a1.size) = False:=eq_false (Nat.not_lt.2 c6)
   replace H:=Option.bind_eq_some_iff.mp H
   obtain ⟨t179,A70,H⟩:=H
   replace H : (if 0 ≤ 8 then (if 8 ≤ (t179.size : Int) then (some (t179.extract 0 8)) else (none)) else (none)) = some r:=H
   have A7:=qd3 A70
   clear A70
   by_cases c8 : 0 ≤ 8
   ·
    rw [if_pos c8] at H
    have c8b0:=eq_true c8
    have c8b1 : decide (0 ≤ 8) = true:=decide_eq_true c8
    clear c8
    by_cases c9 : 8 ≤ (t179.size : Int)
    ·
     rw [if_pos c9] at H
     have c9b0:=eq_true c9
     have c9b1 : decide (8 ≤ (t179.size : Int)) = true:=decide_eq_true c9
     clear c9
     obtain rfl:=Option.some.inj H
     go_enter Tryd.func130,Tryd.ntmps130
     go_wp2_with (first|((with_reducible refine gate_callee (f:=99) rfl ?_);refine goesL_ (some 6) rfl rfl Tryd.func99 (by kernel_rfl) rfl #[.int .i64 a0,.int .i64 1] rfl (by (try simp only [List.map_toArray,List.map_cons,List.map_nil]);first|done|rfl|(simp only [List.length_drop,List.length_take];rfl)) ?_;(with_reducible refine (impl_number.calls k a0 1 t177 _ A3.out).mono ?_);rintro e w10 ⟨rfl,hb⟩;refine ⟨_,rfl,?_⟩;have n0_:=qd3 (below_step (by repeat (first|(with_reducible first|exact HB.out|apply qa3|apply qb3|apply qc3)|exact HB.out)) hb);clear HB;have HB:=n0_;clear n0_;(try clear hb);(try clear hb2);(try clear hk);(try clear hi))|((with_reducible refine gate_callee (f:=50) rfl ?_);refine goesL_ (some 8) rfl rfl Tryd.func50 (by kernel_rfl) rfl #[.string ((⟨#[110,111,100,101,32,107,101,121]⟩ : ByteArray) ++ t177)] rfl (by (try simp only [List.map_toArray,List.map_cons,List.map_nil]);first|done|rfl|(simp only [List.length_drop,List.length_take];rfl)) ?_;(with_reducible refine (impl_hash.calls ((⟨#[110,111,100,101,32,107,101,121]⟩ : ByteArray) ++ t177) t178 _ ?side1 A5.out).mono ?_);(case side1 => exact Go.Proofs.YtmkaknegjahjaaaDoor.Sha.glob_below hG_ (by repeat (first|(with_reducible first|exact HB.out|apply qa3|apply qb3|apply qc3)|exact HB.out)));rintro e w11 ⟨rfl,hb⟩;refine ⟨_,rfl,?_⟩;have n0_:=qd3 (below_step (by repeat (first|(with_reducible first|exact HB.out|apply qa3|apply qb3|apply qc3)|exact HB.out)) hb);clear HB;have HB:=n0_;clear n0_;(try clear hb);(try clear hb2);(try clear hk);(try clear hi))|((with_reducible refine gate_callee (f:=50) rfl ?_);refine goesL_ (some 11) rfl rfl Tryd.func50 (by kernel_rfl) rfl #[.string (t178 ++ a1)] rfl (by (try simp only [List.map_toArray,List.map_cons,List.map_nil]);first|done|rfl|(simp only [List.length_drop,List.length_take];rfl)) ?_;(with_reducible refine (impl_hash.calls (t178 ++ a1) t179 _ ?side1 A7.out).mono ?_);(case side1 => exact Go.Proofs.YtmkaknegjahjaaaDoor.Sha.glob_below hG_ (by repeat (first|(with_reducible first|exact HB.out|apply qa3|apply qb3|apply qc3)|exact HB.out)));rintro e w12 ⟨rfl,hb⟩;refine ⟨_,rfl,?_⟩;have n0_:=qd3 (below_step (by repeat (first|(with_reducible first|exact HB.out|apply qa3|apply qb3|apply qc3)|exact HB.out)) hb);clear HB;have HB:=n0_;clear n0_;(try clear hb);(try clear hb2);(try clear hk);(try clear hi)))
     go_ret
     exact ⟨by first|rfl|(simp [errW_none,errW_some] <;> rfl)|(simp [*,errW_none,errW_some] <;> rfl),by repeat (first|(with_reducible first|exact HB.out|apply qa3|apply qb3|apply qc3)|exact HB.out)⟩
    ·
     rw [if_neg c9] at H
     exact absurd H (by simp)
   ·
    rw [if_neg c8] at H
    exact absurd H (by simp)
  ·
   rw [if_neg c6] at H
   exact absurd H (by simp)
 ·
  rw [if_neg c4] at H
  exact absurd H (by simp)

/-! ### impl_readingMac: function 97 -/
def impl_readingMac.f (k : Nat) (a0 : Int) (a1 : Int) : Option (ByteArray):=(impl_number.f k a1 4).bind fun t180 => (if 5 + t180.size ≤ 9223372036854775807 then ((impl_mark.f k a0 ((⟨#[99,108,111,99,107]⟩ : ByteArray) ++ t180)).bind fun t181 => (some t181)) else (none))
theorem impl_readingMac.mono : ∀ a0 a1 k,LeO (impl_readingMac.f k a0 a1) (impl_readingMac.f (k + 1) a0 a1):=by
 intro a0 a1 k
 unfold impl_readingMac.f
 repeat' first
   | (with_reducible exact impl_mark.mono _ _ _)
   | (with_reducible exact impl_number.mono _ _ _)
   | (with_reducible exact LeO.refl _)
   | (with_reducible exact LeO.none _)
   | (with_reducible refine LeO.ite ?_ ?_)
   | (with_reducible refine LeO.bind ?_ (fun _ => ?_))
   | exact impl_mark.mono _ _ _
   | exact impl_number.mono _ _ _
   | exact LeO.none _
   | refine LeO.ite ?_ ?_
   | refine LeO.bind ?_ (fun _ => ?_)
set_option maxHeartbeats 8000000 in
set_option maxRecDepth 100000 in
theorem impl_readingMac.calls (k : Nat) (a0 : Int) (a1 : Int) (r : ByteArray) (w : World) (hG_ : Go.Proofs.YtmkaknegjahjaaaDoor.Sha.GlobA w) (h : impl_readingMac.f k a0 a1 = some r) :
  Calls Tryd.prog 97 #[.int .i64 a0,.int .i64 a1] w fun e w' => e = .returned (.string r) ∧ Below w.heap.size w w':=by
 have HB:=qd3 (Below.refl w.heap.size w)
 have H : ((impl_number.f k a1 4).bind fun t180 => (if 5 + t180.size ≤ 9223372036854775807 then ((impl_mark.f k a0 ((⟨#[99,108,111,99,107]⟩ : ByteArray) ++ t180)).bind fun t181 => (some t181)) else (none))) = some r:=h
 clear h
 replace H:=Option.bind_eq_some_iff.mp H
 obtain ⟨t180,A30,H⟩:=H
 replace H : (if 5 + t180.size ≤ 9223372036854775807 then ((impl_mark.f k a0 ((⟨#[99,108,111,99,107]⟩ : ByteArray) ++ t180)).bind fun t181 => (some t181)) else (none)) = some r:=H
 have A3:=qd3 A30
 clear A30
 by_cases c4 : 5 + t180.size ≤ 9223372036854775807
 ·
  rw [if_pos c4] at H
  have c4b0:=eq_true c4
  have c4b1 : decide (5 + t180.size ≤ 9223372036854775807) = true:=decide_eq_true c4
  try have c4b2 : (9223372036854775807 < 5 + t180.size) = False:=eq_false (Nat.not_lt.2 c4)
  replace H:=Option.bind_eq_some_iff.mp H
  obtain ⟨t181,A50,H⟩:=H
  replace H : (some t181) = some r:=H
  have A5:=qd3 A50
  clear A50
  obtain rfl:=Option.some.inj H
  go_enter Tryd.func97,Tryd.ntmps97
  go_wp2_with (first|((with_reducible refine gate_callee (f:=99) rfl ?_);refine goesL_ (some 7) rfl rfl Tryd.func99 (by kernel_rfl) rfl #[.int .i64 a1,.int .i64 4] rfl (by (try simp only [List.map_toArray,List.map_cons,List.map_nil]);first|done|rfl|(simp only [List.length_drop,List.length_take];rfl)) ?_;(with_reducible refine (impl_number.calls k a1 4 t180 _ A3.out).mono ?_);rintro e w6 ⟨rfl,hb⟩;refine ⟨_,rfl,?_⟩;have n0_:=qd3 (below_step (by repeat (first|(with_reducible first|exact HB.out|apply qa3|apply qb3|apply qc3)|exact HB.out)) hb);clear HB;have HB:=n0_;clear n0_;(try clear hb);(try clear hb2);(try clear hk);(try clear hi))|((with_reducible refine gate_callee (f:=130) rfl ?_);refine goesL_ (some 9) rfl rfl Tryd.func130 (by kernel_rfl) rfl #[.int .i64 a0,.string ((⟨#[99,108,111,99,107]⟩ : ByteArray) ++ t180)] rfl (by (try simp only [List.map_toArray,List.map_cons,List.map_nil]);first|done|rfl|(simp only [List.length_drop,List.length_take];rfl)) ?_;(with_reducible refine (impl_mark.calls k a0 ((⟨#[99,108,111,99,107]⟩ : ByteArray) ++ t180) t181 _ ?side1 A5.out).mono ?_);(case side1 => exact Go.Proofs.YtmkaknegjahjaaaDoor.Sha.glob_below hG_ (by repeat (first|(with_reducible first|exact HB.out|apply qa3|apply qb3|apply qc3)|exact HB.out)));rintro e w7 ⟨rfl,hb⟩;refine ⟨_,rfl,?_⟩;have n0_:=qd3 (below_step (by repeat (first|(with_reducible first|exact HB.out|apply qa3|apply qb3|apply qc3)|exact HB.out)) hb);clear HB;have HB:=n0_;clear n0_;(try clear hb);(try clear hb2);(try clear hk);(try clear hi)))
  go_ret
  exact ⟨by first|rfl|(simp [errW_none,errW_some] <;> rfl)|(simp [*,errW_none,errW_some] <;> rfl),by repeat (first|(with_reducible first|exact HB.out|apply qa3|apply qb3|apply qc3)|exact HB.out)⟩
 ·
  rw [if_neg c4] at H
  exact absurd H (by simp)

/-! ### impl_quorum: function 127 -/
def impl_quorum.f (a0 : Int) : Option (Int):=some (wrap64 ((wrap64 ((wrap64 (Int.tdiv (wrap64 (a0 - 1)) 3)) * 2)) + 1))
set_option maxHeartbeats 8000000 in
set_option maxRecDepth 100000 in
theorem impl_quorum.calls (a0 : Int) (r : Int) (w : World) (h : impl_quorum.f a0 = some r) :
  Calls Tryd.prog 127 #[.int .i64 a0] w fun e w' => e = .returned (.int .i64 r) ∧ Drawn0 w w':=by
 have H : (some (wrap64 ((wrap64 ((wrap64 (Int.tdiv (wrap64 (a0 - 1)) 3)) * 2)) + 1))) = some r:=h
 clear h
 obtain rfl:=Option.some.inj H
 go_enter Tryd.func127,Tryd.ntmps127
 go_wp2
 go_ret
 exact ⟨by first|rfl|(simp;done)|(simp [*];done),by repeat (first|exact Drawn0.refl _|apply Drawn0.step)⟩

/-! ### impl_within: function 63 -/
def impl_within.f (a0 : Int) (a1 : Int) (a2 : Int) : Option (Bool):=if a0 ≥ a1 then (some (decide (a0 ≤ a2))) else (some false)
set_option maxHeartbeats 8000000 in
set_option maxRecDepth 100000 in
theorem impl_within.calls (a0 : Int) (a1 : Int) (a2 : Int) (r : Bool) (w : World) (h : impl_within.f a0 a1 a2 = some r) :
  Calls Tryd.prog 63 #[.int .i64 a0,.int .i64 a1,.int .i64 a2] w fun e w' => e = .returned (.bool r) ∧ Drawn0 w w':=by
 have H : (if a0 ≥ a1 then (some (decide (a0 ≤ a2))) else (some false)) = some r:=h
 clear h
 by_cases c4 : a0 ≥ a1
 ·
  rw [if_pos c4] at H
  have c4b0 : decide (a1 ≤ a0) = true:=decide_eq_true c4
  clear c4
  obtain rfl:=Option.some.inj H
  go_enter Tryd.func63,Tryd.ntmps63
  go_wp2
  go_ret
  exact ⟨by first|rfl|(simp;done)|(simp [*];done),by repeat (first|exact Drawn0.refl _|apply Drawn0.step)⟩
 ·
  rw [if_neg c4] at H
  have c4b0 : decide (a1 ≤ a0) = false:=decide_eq_false c4
  clear c4
  obtain rfl:=Option.some.inj H
  go_enter Tryd.func63,Tryd.ntmps63
  go_wp2
  go_ret
  exact ⟨by first|rfl|(simp;done)|(simp [*];done),by repeat (first|exact Drawn0.refl _|apply Drawn0.step)⟩

/-! ### impl_isReading: function 128 -/
def impl_isReading.f (a0_0 : Int) (a0_1 : Int) (a0_2 : ByteArray) : Option (Bool):=(impl_within.f a0_0 0 6).bind fun t183 => (if t183 = true then ((impl_within.f a0_1 0 1000000000).bind fun t184 => (if t184 = true then (some ((a0_2.size : Int) == 8)) else (some false))) else (some false))
set_option maxHeartbeats 8000000 in
set_option maxRecDepth 100000 in
theorem impl_isReading.calls (a0_0 : Int) (a0_1 : Int) (a0_2 : ByteArray) (r : Bool) (w : World) (h : impl_isReading.f a0_0 a0_1 a0_2 = some r) :
  Calls Tryd.prog 128 #[.agg #[.int .i64 a0_0,.int .i64 a0_1,.string a0_2]] w fun e w' => e = .returned (.bool r) ∧ Below w.heap.size w w':=by
 have hu72:=Tryd.underlying72
 have HB:=qd3 (Below.refl w.heap.size w)
 have H : ((impl_within.f a0_0 0 6).bind fun t183 => (if t183 = true then ((impl_within.f a0_1 0 1000000000).bind fun t184 => (if t184 = true then (some ((a0_2.size : Int) == 8)) else (some false))) else (some false))) = some r:=h
 clear h
 replace H:=Option.bind_eq_some_iff.mp H
 obtain ⟨t183,A20,H⟩:=H
 replace H : (if t183 = true then ((impl_within.f a0_1 0 1000000000).bind fun t184 => (if t184 = true then (some ((a0_2.size : Int) == 8)) else (some false))) else (some false)) = some r:=H
 have A2:=qd3 A20
 clear A20
 by_cases c3 : t183 = true
 ·
  subst c3
  have H1 : ((impl_within.f a0_1 0 1000000000).bind fun t184 => (if t184 = true then (some ((a0_2.size : Int) == 8)) else (some false))) = some r:=by rw [if_pos rfl] at H;exact H
  clear H
  have H:=H1
  clear H1
  replace H:=Option.bind_eq_some_iff.mp H
  obtain ⟨t184,A40,H⟩:=H
  replace H : (if t184 = true then (some ((a0_2.size : Int) == 8)) else (some false)) = some r:=H
  have A4:=qd3 A40
  clear A40
  by_cases c5 : t184 = true
  ·
   subst c5
   have H1 : (some ((a0_2.size : Int) == 8)) = some r:=by rw [if_pos rfl] at H;exact H
   clear H
   have H:=H1
   clear H1
   obtain rfl:=Option.some.inj H
   go_enter Tryd.func128,Tryd.ntmps128
   go_wp2_with (first|((with_reducible refine gate_dst (N:=1) rfl ?_);refine box_event ?hg (N:=1) ?hd (cs:=#[.int .i64 a0_0,.int .i64 a0_1,.string a0_2]) (t:=72) ?hr ?_;(case hd => rfl);(case hg => rfl);(case hr => first|(go_simp;done)|(go_simp;rfl));intro gb182 hg w6 hbox hb;have n0_:=qd3 (below_step (by repeat (first|(with_reducible first|exact HB.out|apply qa3|apply qb3|apply qc3)|exact HB.out)) hb);have n1_:=qd3 (hbox);have n2_:=qd3 ((by rw [hg];exact (below_size (by repeat (first|(with_reducible first|exact HB.out|apply qa3|apply qb3|apply qc3)|exact HB.out))) : w.heap.size ≤ gb182));have n3_:=qd3 ((by rw [hg];exact (below_size (by repeat (first|(with_reducible first|exact HB.out|apply qa3|apply qb3|apply qc3)|exact HB.out))) : w.heap.size ≤ gb182));clear HB;have HB:=n0_;have BK182:=n1_;have GW182:=n2_;have GE182:=n3_;clear n0_ n1_ n2_ n3_;clear hb hbox hg;have hcz7_0 : w6.cell? ⟨gb182,0,none⟩ = some (.int .i64 a0_0):=(blk_cell BK182.out 0).trans rfl;have hcz7_1 : w6.cell? ⟨gb182,1,none⟩ = some (.int .i64 a0_1):=(blk_cell BK182.out 1).trans rfl;have hcz7_2 : w6.cell? ⟨gb182,2,none⟩ = some (.string a0_2):=(blk_cell BK182.out 2).trans rfl;have hfz7_0:=blk_frozen BK182.out 0;have hfz7_1:=blk_frozen BK182.out 1;have hfz7_2:=blk_frozen BK182.out 2)|((with_reducible refine gate_callee (f:=63) rfl ?_);refine goesL_ (some 5) rfl rfl Tryd.func63 (by kernel_rfl) rfl #[.int .i64 a0_0,.int .i64 0,.int .i64 6] rfl (by (try simp only [List.map_toArray,List.map_cons,List.map_nil]);first|done|rfl|(simp only [List.length_drop,List.length_take];rfl)) ?_;(with_reducible refine (impl_within.calls a0_0 0 6 true _ A2.out).mono ?_);rintro e w' ⟨rfl,⟨nd,rfl⟩⟩;refine ⟨_,rfl,?_⟩)|(go_at_call 63;(with_reducible refine (impl_within.calls a0_1 0 1000000000 true _ A4.out).mono ?_);rintro e w' ⟨rfl,⟨nd,rfl⟩⟩))
   go_ret
   exact ⟨by first|rfl|(simp [errW_none,errW_some] <;> rfl)|(simp [*,errW_none,errW_some] <;> rfl),by repeat (first|(with_reducible first|exact HB.out|apply qa3|apply qb3|apply qc3|refine below_set ?_ GE182.out)|exact HB.out)⟩
  ·
   replace c5:=Bool.eq_false_iff.mpr c5
   subst c5
   have H1 : (some false) = some r:=by rw [if_neg (show ¬ (false = true) by decide)] at H;exact H
   clear H
   have H:=H1
   clear H1
   obtain rfl:=Option.some.inj H
   go_enter Tryd.func128,Tryd.ntmps128
   go_wp2_with (first|((with_reducible refine gate_dst (N:=1) rfl ?_);refine box_event ?hg (N:=1) ?hd (cs:=#[.int .i64 a0_0,.int .i64 a0_1,.string a0_2]) (t:=72) ?hr ?_;(case hd => rfl);(case hg => rfl);(case hr => first|(go_simp;done)|(go_simp;rfl));intro gb182 hg w8 hbox hb;have n0_:=qd3 (below_step (by repeat (first|(with_reducible first|exact HB.out|apply qa3|apply qb3|apply qc3)|exact HB.out)) hb);have n1_:=qd3 (hbox);have n2_:=qd3 ((by rw [hg];exact (below_size (by repeat (first|(with_reducible first|exact HB.out|apply qa3|apply qb3|apply qc3)|exact HB.out))) : w.heap.size ≤ gb182));have n3_:=qd3 ((by rw [hg];exact (below_size (by repeat (first|(with_reducible first|exact HB.out|apply qa3|apply qb3|apply qc3)|exact HB.out))) : w.heap.size ≤ gb182));clear HB;have HB:=n0_;have BK182:=n1_;have GW182:=n2_;have GE182:=n3_;clear n0_ n1_ n2_ n3_;clear hb hbox hg;have hcz9_0 : w8.cell? ⟨gb182,0,none⟩ = some (.int .i64 a0_0):=(blk_cell BK182.out 0).trans rfl;have hcz9_1 : w8.cell? ⟨gb182,1,none⟩ = some (.int .i64 a0_1):=(blk_cell BK182.out 1).trans rfl;have hcz9_2 : w8.cell? ⟨gb182,2,none⟩ = some (.string a0_2):=(blk_cell BK182.out 2).trans rfl;have hfz9_0:=blk_frozen BK182.out 0;have hfz9_1:=blk_frozen BK182.out 1;have hfz9_2:=blk_frozen BK182.out 2)|((with_reducible refine gate_callee (f:=63) rfl ?_);refine goesL_ (some 5) rfl rfl Tryd.func63 (by kernel_rfl) rfl #[.int .i64 a0_0,.int .i64 0,.int .i64 6] rfl (by (try simp only [List.map_toArray,List.map_cons,List.map_nil]);first|done|rfl|(simp only [List.length_drop,List.length_take];rfl)) ?_;(with_reducible refine (impl_within.calls a0_0 0 6 true _ A2.out).mono ?_);rintro e w' ⟨rfl,⟨nd,rfl⟩⟩;refine ⟨_,rfl,?_⟩)|(go_at_call 63;(with_reducible refine (impl_within.calls a0_1 0 1000000000 false _ A4.out).mono ?_);rintro e w' ⟨rfl,⟨nd,rfl⟩⟩))
   go_ret
   exact ⟨by first|rfl|(simp [errW_none,errW_some] <;> rfl)|(simp [*,errW_none,errW_some] <;> rfl),by repeat (first|(with_reducible first|exact HB.out|apply qa3|apply qb3|apply qc3|refine below_set ?_ GE182.out)|exact HB.out)⟩
 ·
  replace c3:=Bool.eq_false_iff.mpr c3
  subst c3
  have H1 : (some false) = some r:=by rw [if_neg (show ¬ (false = true) by decide)] at H;exact H
  clear H
  have H:=H1
  clear H1
  obtain rfl:=Option.some.inj H
  go_enter Tryd.func128,Tryd.ntmps128
  go_wp2_with (first|((with_reducible refine gate_dst (N:=1) rfl ?_);refine box_event ?hg (N:=1) ?hd (cs:=#[.int .i64 a0_0,.int .i64 a0_1,.string a0_2]) (t:=72) ?hr ?_;(case hd => rfl);(case hg => rfl);(case hr => first|(go_simp;done)|(go_simp;rfl));intro gb182 hg w10 hbox hb;have n0_:=qd3 (below_step (by repeat (first|(with_reducible first|exact HB.out|apply qa3|apply qb3|apply qc3)|exact HB.out)) hb);have n1_:=qd3 (hbox);have n2_:=qd3 ((by rw [hg];exact (below_size (by repeat (first|(with_reducible first|exact HB.out|apply qa3|apply qb3|apply qc3)|exact HB.out))) : w.heap.size ≤ gb182));have n3_:=qd3 ((by rw [hg];exact (below_size (by repeat (first|(with_reducible first|exact HB.out|apply qa3|apply qb3|apply qc3)|exact HB.out))) : w.heap.size ≤ gb182));clear HB;have HB:=n0_;have BK182:=n1_;have GW182:=n2_;have GE182:=n3_;clear n0_ n1_ n2_ n3_;clear hb hbox hg;have hcz11_0 : w10.cell? ⟨gb182,0,none⟩ = some (.int .i64 a0_0):=(blk_cell BK182.out 0).trans rfl;have hcz11_1 : w10.cell? ⟨gb182,1,none⟩ = some (.int .i64 a0_1):=(blk_cell BK182.out 1).trans rfl;have hcz11_2 : w10.cell? ⟨gb182,2,none⟩ = some (.string a0_2):=(blk_cell BK182.out 2).trans rfl;have hfz11_0:=blk_frozen BK182.out 0;have hfz11_1:=blk_frozen BK182.out 1;have hfz11_2:=blk_frozen BK182.out 2)|((with_reducible refine gate_callee (f:=63) rfl ?_);refine goesL_ (some 5) rfl rfl Tryd.func63 (by kernel_rfl) rfl #[.int .i64 a0_0,.int .i64 0,.int .i64 6] rfl (by (try simp only [List.map_toArray,List.map_cons,List.map_nil]);first|done|rfl|(simp only [List.length_drop,List.length_take];rfl)) ?_;(with_reducible refine (impl_within.calls a0_0 0 6 false _ A2.out).mono ?_);rintro e w' ⟨rfl,⟨nd,rfl⟩⟩;refine ⟨_,rfl,?_⟩))
  go_ret
  exact ⟨by first|rfl|(simp [errW_none,errW_some] <;> rfl)|(simp [*,errW_none,errW_some] <;> rfl),by repeat (first|(with_reducible first|exact HB.out|apply qa3|apply qb3|apply qc3|refine below_set ?_ GE182.out)|exact HB.out)⟩

/-! ### impl_median: function 129, given -/
def impl_median.f (l0 : List Int) : Option Int:=if 0 < l0.length ∧ l0.length ≤ 1099511627776 then some (Go.Proofs.YtmkaknegjahjaaaDoor.Med.med l0) else none
theorem impl_median.calls (A0 : Option Addr) (c0 : Nat) (l0 : List Int) (r : Int) (w : World) (hr0 : Kd.C (Kd.int .i64) w A0 l0.length l0) (hc0 : l0.length ≤ c0) (h : impl_median.f l0 = some r) :
  Calls Tryd.prog 129 #[.slice A0 l0.length c0] w fun e w' => e = .returned (.int .i64 r) ∧ Below w.heap.size w w':=by
 have hs : 0 < l0.length ∧ l0.length ≤ 1099511627776:=by
  by_cases hl : 0 < l0.length ∧ l0.length ≤ 1099511627776
  ·
   exact hl
  ·
   rw [impl_median.f,if_neg hl] at h;cases h
 rw [impl_median.f,if_pos hs] at h
 injection h with h
 subst h
 exact Go.Proofs.YtmkaknegjahjaaaDoor.Med.median_calls w A0 c0 l0 hr0 hs.1 hs.2


end Go.Proofs.YtmkaknegjahjaaaDoor.PFnAgreed
