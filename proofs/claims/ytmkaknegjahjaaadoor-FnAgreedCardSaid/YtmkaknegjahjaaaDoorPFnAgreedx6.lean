-- laid by this session's program myprint.py over the kit's printer
-- squeezed
-- aliased
import Derived.Test.YtmkaknegjahjaaaDoorPFnAgreedx0
import Derived.Test.YtmkaknegjahjaaaDoorPFnAgreedx1
import Derived.Test.YtmkaknegjahjaaaDoorPFnAgreedx3
import Derived.Test.YtmkaknegjahjaaaDoorPFnAgreedx5
namespace Go.Proofs.YtmkaknegjahjaaaDoor.PFnAgreed
open Go.RowKit Go.Proofs.YtmkaknegjahjaaaDoorV.PrintWords Go.Proofs.YtmkaknegjahjaaaDoorV.PrintLast Go.Proofs.YtmkaknegjahjaaaDoorV.PrintMore
attribute [local go_sem] max2_int min2_int max_two min_two max_three min_three max_four min_four u8_wm u32_wm   -- for this text's walks alone
set_option linter.unusedVariables false
set_option linter.unusedSimpArgs false

/-! ### laws_FnAgreed: function 9 -/
theorem qa6 : type_of% @Kd.R_alloc:=@Kd.R_alloc
theorem qb6 : type_of% @Kd.R_drewN:=@Kd.R_drewN
theorem qc6 : type_of% @Kd.R_drew:=@Kd.R_drew
theorem qd6 : type_of% @below_alloc:=@below_alloc
theorem qe6 : type_of% @pw_below_drewN:=@pw_below_drewN
theorem qf6 : type_of% @below_drew1:=@below_drew1
theorem qg6 : type_of% @Aside0.mk:=@Aside0.mk
theorem qh6 : type_of% @below_step:=@below_step
theorem qi6 : type_of% @Kd.R_below:=@Kd.R_below
mutual
def laws_FnAgreed.j0 : Nat → List Int → List Int → Bool → Option (Bool)
 | 0,_,_,_ => none
 | k + 1,x0,x1,x34 => if x34 = true then (some true) else ((some (([1,4,7] : List Int) : List Int)).bind fun y212 => ((laws_at.f x1 0 3).bind fun t215 => (if 0 ≤ t215 then (if t215 < (y212.length : Int) then ((impl_FaultsOf.f (rd y212 t215)).bind fun bt217 => ((spec_ReadingsOf.f x0 (rd y212 t215)).bind fun t219 => (if bt217.2 = 0 then (if bt217.1 = (wrap64 (Int.tdiv (wrap64 ((rd y212 t215) - 1)) 3)) then (laws_FnAgreed.j1 k x1 (rd y212 t215) bt217.1 t219 ((t219.length : Int) != (wrap64 ((wrap64 (2 * bt217.1)) + 1)))) else (laws_FnAgreed.j1 k x1 (rd y212 t215) bt217.1 t219 true)) else (laws_FnAgreed.j1 k x1 (rd y212 t215) bt217.1 t219 true)))) else (none)) else (none))))
def laws_FnAgreed.j1 : Nat → List Int → Int → Int → List (S72) → Bool → Option (Bool)
 | 0,_,_,_,_,_ => none
 | k + 1,x1,x5,x6,x8,x64 => if x64 = true then (some false) else (laws_FnAgreed.l0 k x1 x5 x6 x8 (([] : List Int)) 0)
def laws_FnAgreed.l0 : Nat → List Int → Int → Int → List (S72) → List Int → Int → Option (Bool)
 | 0,_,_,_,_,_,_ => none
 | k + 1,x1,x5,x6,x8,x9,x10 => if x10 < x6 then ((laws_at.f x1 (wrap64 (x10 + 1)) (x8.length : Int)).bind fun t225 => ((laws_at.f x1 (wrap64 (x10 + 9)) 200).bind fun t226 => ((some (([0,1000000000,t226] : List Int) : List Int)).bind fun y227 => ((laws_at.f x1 (wrap64 (x10 + 5)) 3).bind fun t230 => (if 0 ≤ t230 then (if t230 < (y227.length : Int) then (if 0 ≤ t225 then (if t225 < (x8.length : Int) then ((impl_ReadingMac.f k ((rd_T72 x8 t225).f0) (rd y227 t230)).bind fun bt233 => ((spec_ReadingMac.f k ((rd_T72 x8 t225).f0) (rd y227 t230)).bind fun bt236 => (if bt233.2 = 0 then (if bt233.1.toList = bt236.1.toList then (if x9.length < 17592186044416 then (laws_FnAgreed.l0 k x1 x5 x6 (x8.set (t225 : Int).toNat (⟨(rd_T72 x8 t225).f0,rd y227 t230,bt233.1⟩ : S72)) (x9 ++ [t225]) (wrap64 (x10 + 1))) else (none)) else (some false)) else (some false)))) else (none)) else (none)) else (none)) else (none)))))) else (laws_FnAgreed.l1 k x1 x5 x8 x9 2000000000 (-1) 0)
def laws_FnAgreed.l1 : Nat → List Int → Int → List (S72) → List Int → Int → Int → Int → Option (Bool)
 | 0,_,_,_,_,_,_,_ => none
 | k + 1,x1,x5,x8,x9,x17,x18,x19 => if x19 < (x8.length : Int) then ((laws_hasInt.f k x9 x19).bind fun t243 => (if t243 = true then (laws_FnAgreed.l1 k x1 x5 x8 x9 x17 x18 (wrap64 (x19 + 1))) else (if 0 ≤ x19 then (laws_FnAgreed.l1 k x1 x5 x8 x9 (mn x17 ((rd_T72 x8 x19).f1)) (mx x18 ((rd_T72 x8 x19).f1)) (wrap64 (x19 + 1))) else (none)))) else ((impl_ReadingsTime.f k x5 x8).bind fun bt246 => ((spec_ReadingsTime.f k x5 x8).bind fun bt248 => ((laws_at.f x1 20 100).bind fun t250 => ((impl_AgreedTime.f k t250 x5 x8).bind fun bt251 => (if bt246.2 = 0 then (if bt246.1 = bt248.1 then (if x17 ≤ bt246.1 then (if bt246.1 ≤ x18 then (if bt251.2 = 0 then (if bt251.1 ≥ t250 then (if bt251.1 = bt246.1 then (some true) else (some (bt251.1 == t250))) else (some false)) else (some false)) else (some false)) else (some false)) else (some false)) else (some false))))))
end
def laws_FnAgreed.f (k : Nat) (l0 : List Int) (l1 : List Int) : Option (Bool):=if (l0.length : Int) > 1048576 then (laws_FnAgreed.j0 k l0 l1 true) else (laws_FnAgreed.j0 k l0 l1 (decide ((l1.length : Int) > 1048576)))
theorem laws_FnAgreed.mono_l : ∀ k,(∀ y0 y1 y2,LeO (laws_FnAgreed.j0 k y0 y1 y2) (laws_FnAgreed.j0 (k + 1) y0 y1 y2)) ∧ (∀ y0 y1 y2 y3 y4,LeO (laws_FnAgreed.j1 k y0 y1 y2 y3 y4) (laws_FnAgreed.j1 (k + 1) y0 y1 y2 y3 y4)) ∧ (∀ y0 y1 y2 y3 y4 y5,LeO (laws_FnAgreed.l0 k y0 y1 y2 y3 y4 y5) (laws_FnAgreed.l0 (k + 1) y0 y1 y2 y3 y4 y5)) ∧ (∀ y0 y1 y2 y3 y4 y5 y6,LeO (laws_FnAgreed.l1 k y0 y1 y2 y3 y4 y5 y6) (laws_FnAgreed.l1 (k + 1) y0 y1 y2 y3 y4 y5 y6))
 | 0 => ⟨fun _ _ _ r h => by simp [laws_FnAgreed.j0] at h,fun _ _ _ _ _ r h => by simp [laws_FnAgreed.j1] at h,fun _ _ _ _ _ _ r h => by simp [laws_FnAgreed.l0] at h,fun _ _ _ _ _ _ _ r h => by simp [laws_FnAgreed.l1] at h⟩
 | k + 1 => by
  obtain ⟨ih0,ih1,ih2,ih3⟩:=laws_FnAgreed.mono_l k
  refine ⟨?_,?_,?_,?_⟩
  ·
   intro y0 y1 y2
   unfold laws_FnAgreed.j0
   repeat' first
   | (with_reducible exact ih0 _ _ _)
   | (with_reducible exact ih1 _ _ _ _ _)
   | (with_reducible exact ih2 _ _ _ _ _ _)
   | (with_reducible exact ih3 _ _ _ _ _ _ _)
   | (with_reducible exact impl_AgreedTime.mono _ _ _ _)
   | (with_reducible exact impl_ReadingMac.mono _ _ _)
   | (with_reducible exact impl_ReadingsTime.mono _ _ _)
   | (with_reducible exact laws_hasInt.mono _ _ _)
   | (with_reducible exact spec_ReadingMac.mono _ _ _)
   | (with_reducible exact spec_ReadingsTime.mono _ _ _)
   | (with_reducible exact LeO.refl _)
   | (with_reducible exact LeO.none _)
   | (with_reducible refine LeO.ite ?_ ?_)
   | (with_reducible refine LeO.bind ?_ (fun _ => ?_))
   | exact ih0 _ _ _
   | exact ih1 _ _ _ _ _
   | exact ih2 _ _ _ _ _ _
   | exact ih3 _ _ _ _ _ _ _
   | exact impl_AgreedTime.mono _ _ _ _
   | exact impl_ReadingMac.mono _ _ _
   | exact impl_ReadingsTime.mono _ _ _
   | exact laws_hasInt.mono _ _ _
   | exact spec_ReadingMac.mono _ _ _
   | exact spec_ReadingsTime.mono _ _ _
   | exact LeO.none _
   | refine LeO.ite ?_ ?_
   | refine LeO.bind ?_ (fun _ => ?_)
  ·
   intro y0 y1 y2 y3 y4
   unfold laws_FnAgreed.j1
   repeat' first
   | (with_reducible exact ih0 _ _ _)
   | (with_reducible exact ih1 _ _ _ _ _)
   | (with_reducible exact ih2 _ _ _ _ _ _)
   | (with_reducible exact ih3 _ _ _ _ _ _ _)
   | (with_reducible exact impl_AgreedTime.mono _ _ _ _)
   | (with_reducible exact impl_ReadingMac.mono _ _ _)
   | (with_reducible exact impl_ReadingsTime.mono _ _ _)
   | (with_reducible exact laws_hasInt.mono _ _ _)
   | (with_reducible exact spec_ReadingMac.mono _ _ _)
   | (with_reducible exact spec_ReadingsTime.mono _ _ _)
   | (with_reducible exact LeO.refl _)
   | (with_reducible exact LeO.none _)
   | (with_reducible refine LeO.ite ?_ ?_)
   | (with_reducible refine LeO.bind ?_ (fun _ => ?_))
   | exact ih0 _ _ _
   | exact ih1 _ _ _ _ _
   | exact ih2 _ _ _ _ _ _
   | exact ih3 _ _ _ _ _ _ _
   | exact impl_AgreedTime.mono _ _ _ _
   | exact impl_ReadingMac.mono _ _ _
   | exact impl_ReadingsTime.mono _ _ _
   | exact laws_hasInt.mono _ _ _
   | exact spec_ReadingMac.mono _ _ _
   | exact spec_ReadingsTime.mono _ _ _
   | exact LeO.none _
   | refine LeO.ite ?_ ?_
   | refine LeO.bind ?_ (fun _ => ?_)
  ·
   intro y0 y1 y2 y3 y4 y5
   unfold laws_FnAgreed.l0
   repeat' first
   | (with_reducible exact ih0 _ _ _)
   | (with_reducible exact ih1 _ _ _ _ _)
   | (with_reducible exact ih2 _ _ _ _ _ _)
   | (with_reducible exact ih3 _ _ _ _ _ _ _)
   | (with_reducible exact impl_AgreedTime.mono _ _ _ _)
   | (with_reducible exact impl_ReadingMac.mono _ _ _)
   | (with_reducible exact impl_ReadingsTime.mono _ _ _)
   | (with_reducible exact laws_hasInt.mono _ _ _)
   | (with_reducible exact spec_ReadingMac.mono _ _ _)
   | (with_reducible exact spec_ReadingsTime.mono _ _ _)
   | (with_reducible exact LeO.refl _)
   | (with_reducible exact LeO.none _)
   | (with_reducible refine LeO.ite ?_ ?_)
   | (with_reducible refine LeO.bind ?_ (fun _ => ?_))
   | exact ih0 _ _ _
   | exact ih1 _ _ _ _ _
   | exact ih2 _ _ _ _ _ _
   | exact ih3 _ _ _ _ _ _ _
   | exact impl_AgreedTime.mono _ _ _ _
   | exact impl_ReadingMac.mono _ _ _
   | exact impl_ReadingsTime.mono _ _ _
   | exact laws_hasInt.mono _ _ _
   | exact spec_ReadingMac.mono _ _ _
   | exact spec_ReadingsTime.mono _ _ _
   | exact LeO.none _
   | refine LeO.ite ?_ ?_
   | refine LeO.bind ?_ (fun _ => ?_)
  ·
   intro y0 y1 y2 y3 y4 y5 y6
   unfold laws_FnAgreed.l1
   repeat' first
   | (with_reducible exact ih0 _ _ _)
   | (with_reducible exact ih1 _ _ _ _ _)
   | (with_reducible exact ih2 _ _ _ _ _ _)
   | (with_reducible exact ih3 _ _ _ _ _ _ _)
   | (with_reducible exact impl_AgreedTime.mono _ _ _ _)
   | (with_reducible exact impl_ReadingMac.mono _ _ _)
   | (with_reducible exact impl_ReadingsTime.mono _ _ _)
   | (with_reducible exact laws_hasInt.mono _ _ _)
   | (with_reducible exact spec_ReadingMac.mono _ _ _)
   | (with_reducible exact spec_ReadingsTime.mono _ _ _)
   | (with_reducible exact LeO.refl _)
   | (with_reducible exact LeO.none _)
   | (with_reducible refine LeO.ite ?_ ?_)
   | (with_reducible refine LeO.bind ?_ (fun _ => ?_))
   | exact ih0 _ _ _
   | exact ih1 _ _ _ _ _
   | exact ih2 _ _ _ _ _ _
   | exact ih3 _ _ _ _ _ _ _
   | exact impl_AgreedTime.mono _ _ _ _
   | exact impl_ReadingMac.mono _ _ _
   | exact impl_ReadingsTime.mono _ _ _
   | exact laws_hasInt.mono _ _ _
   | exact spec_ReadingMac.mono _ _ _
   | exact spec_ReadingsTime.mono _ _ _
   | exact LeO.none _
   | refine LeO.ite ?_ ?_
   | refine LeO.bind ?_ (fun _ => ?_)
theorem laws_FnAgreed.mono : ∀ a0 a1 k,LeO (laws_FnAgreed.f k a0 a1) (laws_FnAgreed.f (k + 1) a0 a1):=by
 intro a0 a1 k
 obtain ⟨ih0,ih1,ih2,ih3⟩:=laws_FnAgreed.mono_l k
 unfold laws_FnAgreed.f
 repeat' first
   | (with_reducible exact ih0 _ _ _)
   | (with_reducible exact ih1 _ _ _ _ _)
   | (with_reducible exact ih2 _ _ _ _ _ _)
   | (with_reducible exact ih3 _ _ _ _ _ _ _)
   | (with_reducible exact impl_AgreedTime.mono _ _ _ _)
   | (with_reducible exact impl_ReadingMac.mono _ _ _)
   | (with_reducible exact impl_ReadingsTime.mono _ _ _)
   | (with_reducible exact laws_hasInt.mono _ _ _)
   | (with_reducible exact spec_ReadingMac.mono _ _ _)
   | (with_reducible exact spec_ReadingsTime.mono _ _ _)
   | (with_reducible exact LeO.refl _)
   | (with_reducible exact LeO.none _)
   | (with_reducible refine LeO.ite ?_ ?_)
   | (with_reducible refine LeO.bind ?_ (fun _ => ?_))
   | exact ih0 _ _ _
   | exact ih1 _ _ _ _ _
   | exact ih2 _ _ _ _ _ _
   | exact ih3 _ _ _ _ _ _ _
   | exact impl_AgreedTime.mono _ _ _ _
   | exact impl_ReadingMac.mono _ _ _
   | exact impl_ReadingsTime.mono _ _ _
   | exact laws_hasInt.mono _ _ _
   | exact spec_ReadingMac.mono _ _ _
   | exact spec_ReadingsTime.mono _ _ _
   | exact LeO.none _
   | refine LeO.ite ?_ ?_
   | refine LeO.bind ?_ (fun _ => ?_)
set_option maxHeartbeats 8000000 in
set_option maxRecDepth 100000 in
theorem laws_FnAgreed.calls (k : Nat) (A0 : Option Addr) (c0 : Nat) (l0 : List Int) (A1 : Option Addr) (c1 : Nat) (l1 : List Int) (r : Bool) (w : World) (hr0 : Kd.C (Kd.int .u8) w A0 l0.length l0) (hc0 : l0.length ≤ c0) (hr1 : Kd.C (Kd.int .u8) w A1 l1.length l1) (hc1 : l1.length ≤ c1) (hG_ : Go.Proofs.YtmkaknegjahjaaaDoor.Sha.GlobA w) (hr_ : r = true) (h : laws_FnAgreed.f k l0 l1 = some r) :
  Calls Tryd.prog 9 #[.slice A0 l0.length c0,.slice A1 l1.length c1] w fun e w' => e = .returned (.bool r) ∧ Below w.heap.size w w':=by
 have hu72:=Tryd.underlying72
 have HR0:=qg6 hr0
 have HC0:=qg6 hc0
 clear hr0 hc0
 have HR1:=qg6 hr1
 have HC1:=qg6 hc1
 clear hr1 hc1
 have HB:=qg6 (Below.refl w.heap.size w)
 have H : (if (l0.length : Int) > 1048576 then (laws_FnAgreed.j0 k l0 l1 true) else (laws_FnAgreed.j0 k l0 l1 (decide ((l1.length : Int) > 1048576)))) = some r:=h
 clear h
 have HC3:=qg6 H
 clear H
 go_enter Tryd.func9,Tryd.ntmps9
 go_upto_region 1 with (fail)
 go_cut [34] (fun v34 wc => ∃ (kq : Nat) (x34_2 : Bool),v34 = .bool x34_2 ∧ Aside0 (laws_FnAgreed.j0 kq l0 l1 x34_2 = some r) ∧ Aside0 (kq ≤ k) ∧ Aside0 (Below w.heap.size w wc))
 case first =>
  have H:=HC3.out
  clear HC3
  by_cases c4 : (l0.length : Int) > 1048576
  ·
   rw [if_pos c4] at H
   have c4b0 : decide (1048576 < (l0.length : Int)) = true:=decide_eq_true c4
   have c4b1 : decide (1048576 < l0.length) = true:=decide_eq_true (by omega)
   clear c4
   (first|rw [c4b0]|(simp only [i64_w,i32_w];rw [c4b0])|skip)
   have H':=qg6 H
   clear H
   go_wp2
   go_meet
   case rel => exact ⟨_,(true),(by first|rfl|(simp;done)|(simp [*];done)),H',⟨by first|omega|exact Nat.le_refl _⟩,⟨by repeat (first|(with_reducible first|exact HB.out|apply qd6|apply qe6|apply qf6)|exact HB.out)⟩⟩
  ·
   rw [if_neg c4] at H
   have c4b0 : decide (1048576 < (l0.length : Int)) = false:=decide_eq_false c4
   have c4b1 : decide (1048576 < l0.length) = false:=decide_eq_false (by omega)
   clear c4
   (first|rw [c4b0]|(simp only [i64_w,i32_w];rw [c4b0])|skip)
   have H':=qg6 H
   clear H
   go_wp2
   go_meet
   case rel => exact ⟨_,(decide ((l1.length : Int) > 1048576)),(by first|rfl|(simp;done)|(simp [*];done)),H',⟨by first|omega|exact Nat.le_refl _⟩,⟨by repeat (first|(with_reducible first|exact HB.out|apply qd6|apply qe6|apply qf6)|exact HB.out)⟩⟩
 case rest =>
  clear HC3
  try clear c1
  try clear p2
  try clear c4
  try clear c4b0
  try clear c4b1
  obtain ⟨kq,x34_2,rfl,HA,HJ2,HB⟩:=hcut
  cases kq with
  | zero => exact absurd HA.out (by simp [laws_FnAgreed.j0])
  | succ kj2 =>
   have H:=HA.out
   clear HA
   simp only [laws_FnAgreed.j0] at H
   by_cases c5 : x34_2 = true
   ·
    subst c5
    have H1 : (some true) = some r:=by rw [if_pos rfl] at H;exact H
    clear H
    have H:=H1
    clear H1
    obtain rfl:=Option.some.inj H
    go_wp2
    go_ret
    exact ⟨by first|rfl|(simp [errW_none,errW_some] <;> rfl)|(simp [*,errW_none,errW_some] <;> rfl),by repeat (first|(with_reducible first|exact HB.out|apply qd6|apply qe6|apply qf6)|exact HB.out)⟩
   ·
    replace c5:=Bool.eq_false_iff.mpr c5
    subst c5
    have H1 : ((some (([1,4,7] : List Int) : List Int)).bind fun y212 => ((laws_at.f l1 0 3).bind fun t215 => (if 0 ≤ t215 then (if t215 < (y212.length : Int) then ((impl_FaultsOf.f (rd y212 t215)).bind fun bt217 => ((spec_ReadingsOf.f l0 (rd y212 t215)).bind fun t219 => (if bt217.2 = 0 then (if bt217.1 = (wrap64 (Int.tdiv (wrap64 ((rd y212 t215) - 1)) 3)) then (laws_FnAgreed.j1 kj2 l1 (rd y212 t215) bt217.1 t219 ((t219.length : Int) != (wrap64 ((wrap64 (2 * bt217.1)) + 1)))) else (laws_FnAgreed.j1 kj2 l1 (rd y212 t215) bt217.1 t219 true)) else (laws_FnAgreed.j1 kj2 l1 (rd y212 t215) bt217.1 t219 true)))) else (none)) else (none)))) = some r:=by rw [if_neg (show ¬ (false = true) by decide)] at H;exact H
    clear H
    have H:=H1
    clear H1
    obtain ⟨y212,hy212⟩ : ∃ y_ : List Int,y_ = (([1,4,7] : List Int)):=⟨_,rfl⟩
    replace H : ((laws_at.f l1 0 3).bind fun t215 => (if 0 ≤ t215 then (if t215 < (y212.length : Int) then ((impl_FaultsOf.f (rd y212 t215)).bind fun bt217 => ((spec_ReadingsOf.f l0 (rd y212 t215)).bind fun t219 => (if bt217.2 = 0 then (if bt217.1 = (wrap64 (Int.tdiv (wrap64 ((rd y212 t215) - 1)) 3)) then (laws_FnAgreed.j1 kj2 l1 (rd y212 t215) bt217.1 t219 ((t219.length : Int) != (wrap64 ((wrap64 (2 * bt217.1)) + 1)))) else (laws_FnAgreed.j1 kj2 l1 (rd y212 t215) bt217.1 t219 true)) else (laws_FnAgreed.j1 kj2 l1 (rd y212 t215) bt217.1 t219 true)))) else (none)) else (none))) = some r:=by first|(rw [hy212];with_reducible exact H)|(have H2_:=(Option.bind_some _ _).symm.trans H;rw [hy212];with_reducible exact H2_)|(have H2_:=(Option.bind_some _ _).symm.trans H;with_reducible exact H2_)|with_reducible exact H|(rw [hy212];exact H)|exact H
    have Ny212:=qg6 hy212
    clear hy212
    replace H:=Option.bind_eq_some_iff.mp H
    obtain ⟨t215,A60,H⟩:=H
    replace H : (if 0 ≤ t215 then (if t215 < (y212.length : Int) then ((impl_FaultsOf.f (rd y212 t215)).bind fun bt217 => ((spec_ReadingsOf.f l0 (rd y212 t215)).bind fun t219 => (if bt217.2 = 0 then (if bt217.1 = (wrap64 (Int.tdiv (wrap64 ((rd y212 t215) - 1)) 3)) then (laws_FnAgreed.j1 kj2 l1 (rd y212 t215) bt217.1 t219 ((t219.length : Int) != (wrap64 ((wrap64 (2 * bt217.1)) + 1)))) else (laws_FnAgreed.j1 kj2 l1 (rd y212 t215) bt217.1 t219 true)) else (laws_FnAgreed.j1 kj2 l1 (rd y212 t215) bt217.1 t219 true)))) else (none)) else (none)) = some r:=H
    have A6:=qg6 A60
    clear A60
    by_cases c7 : 0 ≤ t215
    ·
     rw [if_pos c7] at H
     have c7b0 : decide (0 ≤ t215) = true:=decide_eq_true c7
     clear c7
     by_cases c8 : t215 < (y212.length : Int)
     ·
      rw [if_pos c8] at H
      have c8b0 : decide (t215 < (y212.length : Int)) = true:=decide_eq_true c8
      clear c8
      replace H:=Option.bind_eq_some_iff.mp H
      obtain ⟨⟨t217,t218⟩,A90,H⟩:=H
      replace H : ((spec_ReadingsOf.f l0 (rd y212 t215)).bind fun t219 => (if t218 = 0 then (if t217 = (wrap64 (Int.tdiv (wrap64 ((rd y212 t215) - 1)) 3)) then (laws_FnAgreed.j1 kj2 l1 (rd y212 t215) t217 t219 ((t219.length : Int) != (wrap64 ((wrap64 (2 * t217)) + 1)))) else (laws_FnAgreed.j1 kj2 l1 (rd y212 t215) t217 t219 true)) else (laws_FnAgreed.j1 kj2 l1 (rd y212 t215) t217 t219 true))) = some r:=H
      have A9:=qg6 A90
      clear A90
      replace H:=Option.bind_eq_some_iff.mp H
      obtain ⟨t219,A100,H⟩:=H
      replace H : (if t218 = 0 then (if t217 = (wrap64 (Int.tdiv (wrap64 ((rd y212 t215) - 1)) 3)) then (laws_FnAgreed.j1 kj2 l1 (rd y212 t215) t217 t219 ((t219.length : Int) != (wrap64 ((wrap64 (2 * t217)) + 1)))) else (laws_FnAgreed.j1 kj2 l1 (rd y212 t215) t217 t219 true)) else (laws_FnAgreed.j1 kj2 l1 (rd y212 t215) t217 t219 true)) = some r:=H
      have A10:=qg6 A100
      clear A100
      have HC11:=qg6 H
      clear H
      go_upto_region 6 with (first|((with_reducible refine gate_dst (N:=35) rfl ?_);refine Kd.R_lit (Kd.int .i64) _ 3 ?hg (N:=35) ?hd (xs:=([1,4,7] : List Int)) (inner:=[.int .i64 1,.int .i64 4,.int .i64 7]) (ok:=fun _ => True) (okp:=fun _ => True) ?hr ?hp (fun _ hk => hk) trivial (Below.refl _ _) (Nat.le_refl _) (by simp) ?_;(case hd => rfl);(case hg => rfl);(case hr => first|(go_simp;done)|(go_simp;rfl));(case hp => exact (Reps.one (show Kd.M (Kd.int .i64) _ _ _ 1 [.int .i64 1] from rfl) (Reps.one (show Kd.M (Kd.int .i64) _ _ _ 4 [.int .i64 4] from rfl) (Reps.one (show Kd.M (Kd.int .i64) _ _ _ 7 [.int .i64 7] from rfl) (Reps.none _ _)))));intro v213 w12 ho13 hb hg_ hnew_;clear hg_ hnew_;(first|rw [← Ny212.out] at ho13|(simp only [Int.reduceToNat] at ho13;rw [← Ny212.out] at ho13));have n0_:=qg6 (Kd.R_lower ho13 (below_size (by repeat (first|(with_reducible first|exact HB.out|apply qd6|apply qe6|apply qf6)|exact HB.out))));have n1_:=qg6 (qh6 (by repeat (first|(with_reducible first|exact HB.out|apply qd6|apply qe6|apply qf6)|exact HB.out)) hb);clear HB;have HO214:=n0_;have HB:=n1_;clear n0_ n1_;clear hb ho13)|((with_reducible refine gate_callee (f:=18) rfl ?_);refine goesL_ (some 37) rfl rfl Tryd.func18 (by kernel_rfl) rfl #[.slice A1 l1.length c1,.int .i64 0,.int .i64 3] rfl (by (try simp only [List.map_toArray,List.map_cons,List.map_nil]);first|done|rfl|(simp only [List.length_drop,List.length_take];rfl)) ?_;(with_reducible refine (laws_at.calls _ _ l1 0 3 t215 _ ?side1 ?side2 A6.out).mono ?_);(case side1 => repeat (first|exact (Kd.C_below HR1.out HB.out)|(with_reducible refine Kd.C_alloc ?_ _)|(with_reducible refine Kd.C_drewN ?_ _)|(with_reducible refine Kd.C_drew ?_)));(case side2 => exact HC1.out);rintro e w' ⟨rfl,⟨nd,rfl⟩⟩;refine ⟨_,rfl,?_⟩;obtain ⟨Ao14,co14,eo14⟩:=Kd.R_slice HO214.out;subst eo14;have p216 : 0 ≤ (t215 : Int):=of_decide_eq_true (by first|(with_reducible assumption)|assumption);have q216 : t215 < (y212.length : Int):=of_decide_eq_true (by first|(with_reducible assumption)|assumption);obtain ⟨ad216,e216,hx216_0⟩:=Kd.at_int (Kd.R_reads' HO214.out).2.2 t215 p216 q216;cases e216;replace p216:=eq_true p216;replace q216:=eq_true q216)|((with_reducible refine gate_callee (f:=45) rfl ?_);refine goesL_ (some 42) rfl rfl Tryd.func45 (by kernel_rfl) rfl #[.int .i64 (rd y212 t215)] rfl (by (try simp only [List.map_toArray,List.map_cons,List.map_nil]);first|done|rfl|(simp only [List.length_drop,List.length_take];rfl)) ?_;(with_reducible refine (impl_FaultsOf.calls (rd y212 t215) t217 t218 _ A9.out).mono ?_);rintro e w' ⟨rfl,⟨nd,rfl⟩⟩;refine ⟨_,rfl,?_⟩)|((with_reducible refine gate_callee (f:=46) rfl ?_);refine goesL_ (some 47) rfl rfl Tryd.func46 (by kernel_rfl) rfl #[.slice A0 l0.length c0,.int .i64 (rd y212 t215)] rfl (by (try simp only [List.map_toArray,List.map_cons,List.map_nil]);first|done|rfl|(simp only [List.length_drop,List.length_take];rfl)) ?_;(with_reducible refine (spec_ReadingsOf.calls _ _ l0 (rd y212 t215) t219 _ ?side1 ?side2 A10.out).mono ?_);(case side1 => repeat (first|exact (Kd.C_below HR0.out (by repeat (first|(with_reducible first|exact HB.out|apply qd6|apply qe6|apply qf6)|exact HB.out)))|(with_reducible refine Kd.C_alloc ?_ _)|(with_reducible refine Kd.C_drewN ?_ _)|(with_reducible refine Kd.C_drew ?_)));(case side2 => exact HC0.out);rintro e w15 ⟨v220,rfl,ho0,hb⟩;refine ⟨_,rfl,?_⟩;have n0_:=qg6 (qi6 (by (with_reducible repeat (first|apply qa6|apply qb6|apply qc6));exact HO214.out) hb);have n1_:=qg6 (Kd.R_lower ho0 (below_size (by repeat (first|(with_reducible first|exact HB.out|apply qd6|apply qe6|apply qf6)|exact HB.out))));have n2_:=qg6 (qh6 (by repeat (first|(with_reducible first|exact HB.out|apply qd6|apply qe6|apply qf6)|exact HB.out)) hb);clear HO214;clear HB;have HO214:=n0_;have HO221:=n1_;have HB:=n2_;clear n0_ n1_ n2_;(try clear hb);(try clear hb2);(try clear hk);(try clear hi);(try clear ho0)))
      (try simp only [Act.put,List.setIfInBounds_toArray,List.set_cons_zero,List.set_cons_succ])
      go_cut [64] (fun v64 wc => ∃ (kq : Nat) (x64_10 : Bool),v64 = .bool x64_10 ∧ Aside0 (laws_FnAgreed.j1 kq l1 (rd y212 t215) t217 t219 x64_10 = some r) ∧ Aside0 (kq ≤ kj2) ∧ Aside0 (Kd.R k72 72 wc w.heap.size (fun _ => True) v220 t219) ∧ Aside0 (Below w.heap.size w wc))
      case first =>
       have H:=HC11.out
       clear HC11
       by_cases c16 : t218 = 0
       ·
        rw [if_pos c16] at H
        have c16b0 : (t218 == 0) = true:=beq_iff_eq.mpr c16
        have c16b1 : (t218 != 0) = false:=bne_eq_false_iff_eq.mpr c16
        clear c16
        (first|rw [c16b0]|(simp only [i64_w,i32_w];rw [c16b0])|skip)
        by_cases c17 : t217 = (wrap64 (Int.tdiv (wrap64 ((rd y212 t215) - 1)) 3))
        ·
         rw [if_pos c17] at H
         have c17b0 : (t217 == (wrap64 (Int.tdiv (wrap64 ((rd y212 t215) - 1)) 3))) = true:=beq_iff_eq.mpr c17
         have c17b1 : (t217 != (wrap64 (Int.tdiv (wrap64 ((rd y212 t215) - 1)) 3))) = false:=bne_eq_false_iff_eq.mpr c17
         clear c17
         have H':=qg6 H
         clear H
         obtain ⟨Ao18,co18,eo18⟩:=Kd.R_slice HO221.out
         subst eo18
         go_wp2
         go_meet
         case rel => exact ⟨_,(((t219.length : Int) != (wrap64 ((wrap64 (2 * t217)) + 1)))),(by first|rfl|(simp;done)|(simp [*];done)),H',⟨by have:=HJ2.out;first|omega|exact Nat.le_refl _⟩,⟨by (with_reducible repeat (first|apply qa6|apply qb6|apply qc6));exact HO221.out⟩,⟨by repeat (first|(with_reducible first|exact HB.out|apply qd6|apply qe6|apply qf6)|exact HB.out)⟩⟩
        ·
         rw [if_neg c17] at H
         have c17b0 : (t217 == (wrap64 (Int.tdiv (wrap64 ((rd y212 t215) - 1)) 3))) = false:=beq_eq_false_iff_ne.mpr c17
         have c17b1 : (t217 != (wrap64 (Int.tdiv (wrap64 ((rd y212 t215) - 1)) 3))) = true:=bne_iff_ne.mpr c17
         have H':=qg6 H
         clear H
         go_wp2
         go_meet
         case rel => exact ⟨_,(true),(by first|rfl|(simp;done)|(simp [*];done)),H',⟨by have:=HJ2.out;first|omega|exact Nat.le_refl _⟩,⟨by (with_reducible repeat (first|apply qa6|apply qb6|apply qc6));exact HO221.out⟩,⟨by repeat (first|(with_reducible first|exact HB.out|apply qd6|apply qe6|apply qf6)|exact HB.out)⟩⟩
       ·
        rw [if_neg c16] at H
        have c16b0 : (t218 == 0) = false:=beq_eq_false_iff_ne.mpr c16
        have c16b1 : (t218 != 0) = true:=bne_iff_ne.mpr c16
        (first|rw [c16b0]|(simp only [i64_w,i32_w];rw [c16b0])|skip)
        have H':=qg6 H
        clear H
        go_wp2
        go_meet
        case rel => exact ⟨_,(true),(by first|rfl|(simp;done)|(simp [*];done)),H',⟨by have:=HJ2.out;first|omega|exact Nat.le_refl _⟩,⟨by (with_reducible repeat (first|apply qa6|apply qb6|apply qc6));exact HO221.out⟩,⟨by repeat (first|(with_reducible first|exact HB.out|apply qd6|apply qe6|apply qf6)|exact HB.out)⟩⟩
      case rest =>
       clear HC11
       try clear c1
       try clear p2
       try clear q2
       try clear hx2
       try clear c4
       try clear c4b0
       try clear c4b1
       try clear c5
       try clear p6
       try clear c7
       try clear c7b0
       try clear c8
       try clear c8b0
       try clear c9
       try clear c16
       try clear c16b0
       try clear c16b1
       try clear c17
       try clear c17b0
       try clear c17b1
       try clear c18
       try clear hx216_0
       try clear p2
       try clear p216
       try clear q216
       obtain ⟨kq,x64_10,rfl,HA,HJ10,HO_8,HB⟩:=hcut
       cases kq with
       | zero => exact absurd HA.out (by simp [laws_FnAgreed.j1])
       | succ kj10 =>
        have H:=HA.out
        clear HA
        simp only [laws_FnAgreed.j1] at H
        by_cases c19 : x64_10 = true
        ·
         subst c19
         have H1 : (some false) = some r:=by rw [if_pos rfl] at H;exact H
         clear H
         have H:=H1
         clear H1
         obtain rfl:=Option.some.inj H
         exact absurd hr_ (by decide)
        ·
         replace c19:=Bool.eq_false_iff.mpr c19
         subst c19
         have H1 : (laws_FnAgreed.l0 kj10 l1 (rd y212 t215) t217 t219 (([] : List Int)) 0) = some r:=by rw [if_neg (show ¬ (false = true) by decide)] at H;exact H
         clear H
         have H:=H1
         clear H1
         obtain ⟨y222,hy222⟩ : ∃ y_ : List Int,y_ = (([] : List Int)):=⟨_,rfl⟩
         replace H : (laws_FnAgreed.l0 kj10 l1 (rd y212 t215) t217 t219 y222 0) = some r:=by first|(rw [hy222];with_reducible exact H)|(have H2_:=(Option.bind_some _ _).symm.trans H;rw [hy222];with_reducible exact H2_)|(have H2_:=(Option.bind_some _ _).symm.trans H;with_reducible exact H2_)|with_reducible exact H|(rw [hy222];exact H)|exact H
         have Ny222:=qg6 hy222
         clear hy222
         have H':=qg6 H
         clear H
         go_wp2_with (first|((with_reducible refine gate_dst (N:=65) rfl ?_);refine Kd.R_lit (Kd.int .i64) _ 3 ?hg (N:=65) ?hd (xs:=([] : List Int)) (inner:=[]) (ok:=fun _ => True) (okp:=fun _ => True) ?hr ?hp (fun _ hk => hk) trivial (Below.refl _ _) (Nat.le_refl _) (by simp) ?_;(case hd => rfl);(case hg => rfl);(case hr => first|(go_simp;done)|(go_simp;rfl));(case hp => exact (Reps.none _ _));intro v223 w20 ho21 hb hg_ hnew_;clear hg_ hnew_;(first|rw [← Ny222.out] at ho21|(simp only [Int.reduceToNat] at ho21;rw [← Ny222.out] at ho21));have n0_:=qg6 (qi6 (by (with_reducible repeat (first|apply qa6|apply qb6|apply qc6));exact HO_8.out) hb);have n1_:=qg6 (Kd.R_lower ho21 (below_size (by repeat (first|(with_reducible first|exact HB.out|apply qd6|apply qe6|apply qf6)|exact HB.out))));have n2_:=qg6 (qh6 (by repeat (first|(with_reducible first|exact HB.out|apply qd6|apply qe6|apply qf6)|exact HB.out)) hb);clear HO_8;clear HB;have HO_8:=n0_;have HO224:=n1_;have HB:=n2_;clear n0_ n1_ n2_;clear hb ho21))
         go_loopg [9,10] kj10 (fun kq v9 v10 w' => ∃ (x8_3 : List (S72)) (x9_3 : List Int) (x10_3 : Int),v10 = .int .i64 x10_3 ∧ Aside0 (laws_FnAgreed.l0 kq l1 (rd y212 t215) t217 x8_3 x9_3 x10_3 = some r) ∧ Aside0 (kq ≤ kj10) ∧ Aside0 (Kd.R k72 72 w' w.heap.size (fun _ => True) v220 x8_3) ∧ Aside0 (Kd.R (Kd.int .i64) 3 w' w.heap.size (fun _ => True) v9 x9_3) ∧ Aside0 (Below w.heap.size w w'))
         case atStart => exact ⟨(t219),(y222),(0),(by first|rfl|(simp;done)|(simp [*];done)),H',⟨Nat.le_refl _⟩,⟨by (with_reducible repeat (first|apply qa6|apply qb6|apply qc6));exact HO_8.out⟩,⟨by (with_reducible repeat (first|apply qa6|apply qb6|apply qc6));exact HO224.out⟩,⟨by repeat (first|(with_reducible first|exact HB.out|apply qd6|apply qe6|apply qf6)|exact HB.out)⟩⟩
         case round =>
          clear H'
          try clear c1
          try clear p2
          try clear q2
          try clear hx2
          try clear c4
          try clear c4b0
          try clear c4b1
          try clear c5
          try clear p6
          try clear c7
          try clear c7b0
          try clear c8
          try clear c8b0
          try clear c9
          try clear c16
          try clear c16b0
          try clear c16b1
          try clear c17
          try clear c17b0
          try clear c17b1
          try clear c18
          try clear c19
          try clear p21
          try clear q21
          try clear hx21
          try clear hx216_0
          try clear p2
          try clear p216
          try clear p6
          try clear q2
          try clear q216
          obtain ⟨x8_3,x9_3,x10_3,rfl,HA,HK3,HO_8,HO_9,HB⟩:=hrel
          cases gk with
          | zero => exact absurd HA.out (by simp [laws_FnAgreed.l0])
          | succ k3 =>
           have H:=HA.out
           clear HA
           simp only [laws_FnAgreed.l0] at H
           by_cases c22 : x10_3 < t217
           ·
            rw [if_pos c22] at H
            have c22b0 : decide (x10_3 < t217) = true:=decide_eq_true c22
            clear c22
            replace H:=Option.bind_eq_some_iff.mp H
            obtain ⟨t225,A230,H⟩:=H
            replace H : ((laws_at.f l1 (wrap64 (x10_3 + 9)) 200).bind fun t226 => ((some (([0,1000000000,t226] : List Int) : List Int)).bind fun y227 => ((laws_at.f l1 (wrap64 (x10_3 + 5)) 3).bind fun t230 => (if 0 ≤ t230 then (if t230 < (y227.length : Int) then (if 0 ≤ t225 then (if t225 < (x8_3.length : Int) then ((impl_ReadingMac.f k3 ((rd_T72 x8_3 t225).f0) (rd y227 t230)).bind fun bt233 => ((spec_ReadingMac.f k3 ((rd_T72 x8_3 t225).f0) (rd y227 t230)).bind fun bt236 => (if bt233.2 = 0 then (if bt233.1.toList = bt236.1.toList then (if x9_3.length < 17592186044416 then (laws_FnAgreed.l0 k3 l1 (rd y212 t215) t217 (x8_3.set (t225 : Int).toNat (⟨(rd_T72 x8_3 t225).f0,rd y227 t230,bt233.1⟩ : S72)) (x9_3 ++ [t225]) (wrap64 (x10_3 + 1))) else (none)) else (some false)) else (some false)))) else (none)) else (none)) else (none)) else (none))))) = some r:=H
            have A23:=qg6 A230
            clear A230
            replace H:=Option.bind_eq_some_iff.mp H
            obtain ⟨t226,A240,H⟩:=H
            replace H : ((some (([0,1000000000,t226] : List Int) : List Int)).bind fun y227 => ((laws_at.f l1 (wrap64 (x10_3 + 5)) 3).bind fun t230 => (if 0 ≤ t230 then (if t230 < (y227.length : Int) then (if 0 ≤ t225 then (if t225 < (x8_3.length : Int) then ((impl_ReadingMac.f k3 ((rd_T72 x8_3 t225).f0) (rd y227 t230)).bind fun bt233 => ((spec_ReadingMac.f k3 ((rd_T72 x8_3 t225).f0) (rd y227 t230)).bind fun bt236 => (if bt233.2 = 0 then (if bt233.1.toList = bt236.1.toList then (if x9_3.length < 17592186044416 then (laws_FnAgreed.l0 k3 l1 (rd y212 t215) t217 (x8_3.set (t225 : Int).toNat (⟨(rd_T72 x8_3 t225).f0,rd y227 t230,bt233.1⟩ : S72)) (x9_3 ++ [t225]) (wrap64 (x10_3 + 1))) else (none)) else (some false)) else (some false)))) else (none)) else (none)) else (none)) else (none)))) = some r:=H
            have A24:=qg6 A240
            clear A240
            obtain ⟨y227,hy227⟩ : ∃ y_ : List Int,y_ = (([0,1000000000,t226] : List Int)):=⟨_,rfl⟩
            replace H : ((laws_at.f l1 (wrap64 (x10_3 + 5)) 3).bind fun t230 => (if 0 ≤ t230 then (if t230 < (y227.length : Int) then (if 0 ≤ t225 then (if t225 < (x8_3.length : Int) then ((impl_ReadingMac.f k3 ((rd_T72 x8_3 t225).f0) (rd y227 t230)).bind fun bt233 => ((spec_ReadingMac.f k3 ((rd_T72 x8_3 t225).f0) (rd y227 t230)).bind fun bt236 => (if bt233.2 = 0 then (if bt233.1.toList = bt236.1.toList then (if x9_3.length < 17592186044416 then (laws_FnAgreed.l0 k3 l1 (rd y212 t215) t217 (x8_3.set (t225 : Int).toNat (⟨(rd_T72 x8_3 t225).f0,rd y227 t230,bt233.1⟩ : S72)) (x9_3 ++ [t225]) (wrap64 (x10_3 + 1))) else (none)) else (some false)) else (some false)))) else (none)) else (none)) else (none)) else (none))) = some r:=by first|(rw [hy227];with_reducible exact H)|(have H2_:=(Option.bind_some _ _).symm.trans H;rw [hy227];with_reducible exact H2_)|(have H2_:=(Option.bind_some _ _).symm.trans H;with_reducible exact H2_)|with_reducible exact H|(rw [hy227];exact H)|exact H
            have Ny227:=qg6 hy227
            clear hy227
            replace H:=Option.bind_eq_some_iff.mp H
            obtain ⟨t230,A250,H⟩:=H
            replace H : (if 0 ≤ t230 then (if t230 < (y227.length : Int) then (if 0 ≤ t225 then (if t225 < (x8_3.length : Int) then ((impl_ReadingMac.f k3 ((rd_T72 x8_3 t225).f0) (rd y227 t230)).bind fun bt233 => ((spec_ReadingMac.f k3 ((rd_T72 x8_3 t225).f0) (rd y227 t230)).bind fun bt236 => (if bt233.2 = 0 then (if bt233.1.toList = bt236.1.toList then (if x9_3.length < 17592186044416 then (laws_FnAgreed.l0 k3 l1 (rd y212 t215) t217 (x8_3.set (t225 : Int).toNat (⟨(rd_T72 x8_3 t225).f0,rd y227 t230,bt233.1⟩ : S72)) (x9_3 ++ [t225]) (wrap64 (x10_3 + 1))) else (none)) else (some false)) else (some false)))) else (none)) else (none)) else (none)) else (none)) = some r:=H
            have A25:=qg6 A250
            clear A250
            by_cases c26 : 0 ≤ t230
            ·
             rw [if_pos c26] at H
             have c26b0 : decide (0 ≤ t230) = true:=decide_eq_true c26
             clear c26
             by_cases c27 : t230 < (y227.length : Int)
             ·
              rw [if_pos c27] at H
              have c27b0 : decide (t230 < (y227.length : Int)) = true:=decide_eq_true c27
              clear c27
              by_cases c28 : 0 ≤ t225
              ·
               rw [if_pos c28] at H
               have c28b0 : decide (0 ≤ t225) = true:=decide_eq_true c28
               clear c28
               by_cases c29 : t225 < (x8_3.length : Int)
               ·
                rw [if_pos c29] at H
                have c29b0 : decide (t225 < (x8_3.length : Int)) = true:=decide_eq_true c29
                clear c29
                replace H:=Option.bind_eq_some_iff.mp H
                obtain ⟨⟨t233,t234⟩,A300,H⟩:=H
                replace H : ((spec_ReadingMac.f k3 ((rd_T72 x8_3 t225).f0) (rd y227 t230)).bind fun bt236 => (if t234 = 0 then (if t233.toList = bt236.1.toList then (if x9_3.length < 17592186044416 then (laws_FnAgreed.l0 k3 l1 (rd y212 t215) t217 (x8_3.set (t225 : Int).toNat (⟨(rd_T72 x8_3 t225).f0,rd y227 t230,t233⟩ : S72)) (x9_3 ++ [t225]) (wrap64 (x10_3 + 1))) else (none)) else (some false)) else (some false))) = some r:=H
                have A30:=qg6 A300
                clear A300
                replace H:=Option.bind_eq_some_iff.mp H
                obtain ⟨⟨t236,t237⟩,A310,H⟩:=H
                replace H : (if t234 = 0 then (if t233.toList = t236.toList then (if x9_3.length < 17592186044416 then (laws_FnAgreed.l0 k3 l1 (rd y212 t215) t217 (x8_3.set (t225 : Int).toNat (⟨(rd_T72 x8_3 t225).f0,rd y227 t230,t233⟩ : S72)) (x9_3 ++ [t225]) (wrap64 (x10_3 + 1))) else (none)) else (some false)) else (some false)) = some r:=H
                have A31:=qg6 A310
                clear A310
                by_cases c32 : t234 = 0
                ·
                 rw [if_pos c32] at H
                 have c32b0 : (t234 == 0) = true:=beq_iff_eq.mpr c32
                 have c32b1 : (t234 != 0) = false:=bne_eq_false_iff_eq.mpr c32
                 clear c32
                 by_cases c33 : t233.toList = t236.toList
                 ·
                  rw [if_pos c33] at H
                  have c33b0 : (t233.toList == t236.toList) = true:=beq_iff_eq.mpr c33
                  have c33b1 : (t233.toList != t236.toList) = false:=bne_eq_false_iff_eq.mpr c33
                  clear c33
                  obtain ⟨y239,hy239⟩ : ∃ y_ : List (S72),y_ = (x8_3.set (t225 : Int).toNat (⟨(rd_T72 x8_3 t225).f0,rd y227 t230,t233⟩ : S72)):=⟨_,rfl⟩
                  replace H : (if x9_3.length < 17592186044416 then (laws_FnAgreed.l0 k3 l1 (rd y212 t215) t217 y239 (x9_3 ++ [t225]) (wrap64 (x10_3 + 1))) else (none)) = some r:=by first|(rw [hy239];with_reducible exact H)|(have H2_:=(Option.bind_some _ _).symm.trans H;rw [hy239];with_reducible exact H2_)|(have H2_:=(Option.bind_some _ _).symm.trans H;with_reducible exact H2_)|with_reducible exact H|(rw [hy239];exact H)|exact H
                  have Ny239:=qg6 hy239
                  clear hy239
                  by_cases c35 : x9_3.length < 17592186044416
                  ·
                   rw [if_pos c35] at H
                   have LMc35:=qg6 c35
                   clear c35
                   obtain ⟨y240,hy240⟩ : ∃ y_ : List Int,y_ = (x9_3 ++ [t225]):=⟨_,rfl⟩
                   replace H : (laws_FnAgreed.l0 k3 l1 (rd y212 t215) t217 y239 y240 (wrap64 (x10_3 + 1))) = some r:=by first|(rw [hy240];with_reducible exact H)|(have H2_:=(Option.bind_some _ _).symm.trans H;rw [hy240];with_reducible exact H2_)|(have H2_:=(Option.bind_some _ _).symm.trans H;with_reducible exact H2_)|with_reducible exact H|(rw [hy240];exact H)|exact H
                   have Ny240:=qg6 hy240
                   clear hy240
                   have H':=qg6 H
                   clear H
                   obtain ⟨Ao36,co36,eo36⟩:=Kd.R_slice HO_8.out
                   subst eo36
                   go_wp2_with (first|((with_reducible refine gate_callee (f:=18) rfl ?_);refine goesL_ (some 76) rfl rfl Tryd.func18 (by kernel_rfl) rfl #[.slice A1 l1.length c1,.int .i64 (wrap64 (x10_3 + 1)),.int .i64 (x8_3.length : Int)] rfl (by (try simp only [List.map_toArray,List.map_cons,List.map_nil]);first|done|rfl|(simp only [List.length_drop,List.length_take];rfl)) ?_;(with_reducible refine (laws_at.calls _ _ l1 (wrap64 (x10_3 + 1)) (x8_3.length : Int) t225 _ ?side1 ?side2 A23.out).mono ?_);(case side1 => repeat (first|exact (Kd.C_below HR1.out HB.out)|(with_reducible refine Kd.C_alloc ?_ _)|(with_reducible refine Kd.C_drewN ?_ _)|(with_reducible refine Kd.C_drew ?_)));(case side2 => exact HC1.out);rintro e w' ⟨rfl,⟨nd,rfl⟩⟩;refine ⟨_,rfl,?_⟩;(try (rw [drewN_self wr];generalize hq_ : World.drewN wr _ = wr;have n0_ : Aside0 (Kd.R k72 72 wr w.heap.size (fun _ => True) (.slice Ao36 x8_3.length co36) x8_3):=⟨by rw [← hq_];exact (by (with_reducible repeat (first|apply qa6|apply qb6|apply qc6));exact HO_8.out)⟩;have n1_ : Aside0 (Kd.R (Kd.int .i64) 3 wr w.heap.size (fun _ => True) u9 x9_3):=⟨by rw [← hq_];exact (by (with_reducible repeat (first|apply qa6|apply qb6|apply qc6));exact HO_9.out)⟩;have n2_ : Aside0 (Below w.heap.size w wr):=⟨by rw [← hq_];exact (by repeat (first|(with_reducible first|exact HB.out|apply qd6|apply qe6|apply qf6)|exact HB.out))⟩;clear HO_8 HO_9 HB hq_;have HO_8:=n0_;have HO_9:=n1_;have HB:=n2_;clear n0_ n1_ n2_)))|((with_reducible refine gate_callee (f:=18) rfl ?_);refine goesL_ (some 80) rfl rfl Tryd.func18 (by kernel_rfl) rfl #[.slice A1 l1.length c1,.int .i64 (wrap64 (x10_3 + 9)),.int .i64 200] rfl (by (try simp only [List.map_toArray,List.map_cons,List.map_nil]);first|done|rfl|(simp only [List.length_drop,List.length_take];rfl)) ?_;(with_reducible refine (laws_at.calls _ _ l1 (wrap64 (x10_3 + 9)) 200 t226 _ ?side1 ?side2 A24.out).mono ?_);(case side1 => repeat (first|exact (Kd.C_below HR1.out HB.out)|(with_reducible refine Kd.C_alloc ?_ _)|(with_reducible refine Kd.C_drewN ?_ _)|(with_reducible refine Kd.C_drew ?_)));(case side2 => exact HC1.out);rintro e w' ⟨rfl,⟨nd,rfl⟩⟩;refine ⟨_,rfl,?_⟩;(try (rw [drewN_self wr];generalize hq_ : World.drewN wr _ = wr;have n0_ : Aside0 (Kd.R k72 72 wr w.heap.size (fun _ => True) (.slice Ao36 x8_3.length co36) x8_3):=⟨by rw [← hq_];exact (by (with_reducible repeat (first|apply qa6|apply qb6|apply qc6));exact HO_8.out)⟩;have n1_ : Aside0 (Kd.R (Kd.int .i64) 3 wr w.heap.size (fun _ => True) u9 x9_3):=⟨by rw [← hq_];exact (by (with_reducible repeat (first|apply qa6|apply qb6|apply qc6));exact HO_9.out)⟩;have n2_ : Aside0 (Below w.heap.size w wr):=⟨by rw [← hq_];exact (by repeat (first|(with_reducible first|exact HB.out|apply qd6|apply qe6|apply qf6)|exact HB.out))⟩;clear HO_8 HO_9 HB hq_;have HO_8:=n0_;have HO_9:=n1_;have HB:=n2_;clear n0_ n1_ n2_)))|((with_reducible refine gate_dst (N:=81) rfl ?_);refine Kd.R_lit (Kd.int .i64) _ 3 ?hg (N:=81) ?hd (xs:=([0,1000000000,t226] : List Int)) (inner:=[.int .i64 0,.int .i64 1000000000,.int .i64 t226]) (ok:=fun _ => True) (okp:=fun _ => True) ?hr ?hp (fun _ hk => hk) trivial (Below.refl _ _) (Nat.le_refl _) (by simp) ?_;(case hd => rfl);(case hg => rfl);(case hr => first|(go_simp;done)|(go_simp;rfl));(case hp => exact (Reps.one (show Kd.M (Kd.int .i64) _ _ _ 0 [.int .i64 0] from rfl) (Reps.one (show Kd.M (Kd.int .i64) _ _ _ 1000000000 [.int .i64 1000000000] from rfl) (Reps.one (show Kd.M (Kd.int .i64) _ _ _ t226 [.int .i64 t226] from rfl) (Reps.none _ _)))));intro v228 w37 ho38 hb hg_ hnew_;clear hg_ hnew_;(first|rw [← Ny227.out] at ho38|(simp only [Int.reduceToNat] at ho38;rw [← Ny227.out] at ho38));have n0_:=qg6 (qi6 (by (with_reducible repeat (first|apply qa6|apply qb6|apply qc6));exact HO_8.out) hb);have n1_:=qg6 (Kd.R_elder' (by (with_reducible repeat (first|apply qa6|apply qb6|apply qc6));exact HO_9.out) (Kd.R_base ho38) hb);have n2_:=qg6 (Kd.R_lower (Kd.R_new' ho38 (Kd.R_lt (by (with_reducible repeat (first|apply qa6|apply qb6|apply qc6));exact HO_9.out))) (below_size (by repeat (first|(with_reducible first|exact HB.out|apply qd6|apply qe6|apply qf6)|exact HB.out))));have n3_:=qg6 (qh6 (by repeat (first|(with_reducible first|exact HB.out|apply qd6|apply qe6|apply qf6)|exact HB.out)) hb);clear HO_8;clear HO_9;clear HB;have HO_8:=n0_;have HO_9:=n1_;have HO229:=n2_;have HB:=n3_;clear n0_ n1_ n2_ n3_;clear hb ho38)|((with_reducible refine gate_callee (f:=18) rfl ?_);refine goesL_ (some 85) rfl rfl Tryd.func18 (by kernel_rfl) rfl #[.slice A1 l1.length c1,.int .i64 (wrap64 (x10_3 + 5)),.int .i64 3] rfl (by (try simp only [List.map_toArray,List.map_cons,List.map_nil]);first|done|rfl|(simp only [List.length_drop,List.length_take];rfl)) ?_;(with_reducible refine (laws_at.calls _ _ l1 (wrap64 (x10_3 + 5)) 3 t230 _ ?side1 ?side2 A25.out).mono ?_);(case side1 => repeat (first|exact (Kd.C_below HR1.out HB.out)|(with_reducible refine Kd.C_alloc ?_ _)|(with_reducible refine Kd.C_drewN ?_ _)|(with_reducible refine Kd.C_drew ?_)));(case side2 => exact HC1.out);rintro e w' ⟨rfl,⟨nd,rfl⟩⟩;refine ⟨_,rfl,?_⟩;(try (rw [drewN_self w37];generalize hq_ : World.drewN w37 _ = w37;have n0_ : Aside0 (Kd.R (Kd.int .i64) 3 w37 w.heap.size (fun k_ => some k_ ≠ (u9 : Value).ownBlock) v228 y227):=⟨by rw [← hq_];exact (by (with_reducible repeat (first|apply qa6|apply qb6|apply qc6));exact Kd.R_mono HO229.out (fun _ hk => hk.2))⟩;have n1_ : Aside0 (Kd.R k72 72 w37 w.heap.size (fun _ => True) (.slice Ao36 x8_3.length co36) x8_3):=⟨by rw [← hq_];exact (by (with_reducible repeat (first|apply qa6|apply qb6|apply qc6));exact HO_8.out)⟩;have n2_ : Aside0 (Kd.R (Kd.int .i64) 3 w37 w.heap.size (fun k_ => some k_ ≠ (v228 : Value).ownBlock) u9 x9_3):=⟨by rw [← hq_];exact (by (with_reducible repeat (first|apply qa6|apply qb6|apply qc6));exact Kd.R_mono HO_9.out (fun _ hk => hk.2))⟩;have n3_ : Aside0 (Below w.heap.size w w37):=⟨by rw [← hq_];exact (by repeat (first|(with_reducible first|exact HB.out|apply qd6|apply qe6|apply qf6)|exact HB.out))⟩;clear HO229 HO_8 HO_9 HB hq_;have HO229:=n0_;have HO_8:=n1_;have HO_9:=n2_;have HB:=n3_;clear n0_ n1_ n2_ n3_));obtain ⟨Ao39,co39,eo39⟩:=Kd.R_slice HO229.out;subst eo39;have p231 : 0 ≤ (t230 : Int):=of_decide_eq_true (by first|(with_reducible assumption)|assumption);have q231 : t230 < (y227.length : Int):=of_decide_eq_true (by first|(with_reducible assumption)|assumption);obtain ⟨ad231,e231,hx231_0⟩:=Kd.at_int (Kd.R_reads' HO229.out).2.2 t230 p231 q231;cases e231;replace p231:=eq_true p231;replace q231:=eq_true q231;have p232 : 0 ≤ (t225 : Int):=of_decide_eq_true (by first|(with_reducible assumption)|assumption);have q232 : t225 < (x8_3.length : Int):=of_decide_eq_true (by first|(with_reducible assumption)|assumption);obtain ⟨ad232,e232,hx232_0,hx232_1,hx232_2⟩:=at_T72 (Kd.R_reads' HO_8.out).2.2 t225 p232 q232;cases e232;replace p232:=eq_true p232;replace q232:=eq_true q232)|((with_reducible refine gate_callee (f:=47) rfl ?_);refine goesL_ (some 95) rfl rfl Tryd.func47 (by kernel_rfl) rfl #[.int .i64 ((rd_T72 x8_3 t225).f0),.int .i64 (rd y227 t230)] rfl (by (try simp only [List.map_toArray,List.map_cons,List.map_nil]);first|done|rfl|(simp only [List.length_drop,List.length_take];rfl)) ?_;(with_reducible refine (impl_ReadingMac.calls k3 ((rd_T72 x8_3 t225).f0) (rd y227 t230) t233 t234 _ ?side1 A30.out).mono ?_);(case side1 => exact Go.Proofs.YtmkaknegjahjaaaDoor.Sha.glob_below hG_ (by repeat (first|(with_reducible first|exact HB.out|apply qd6|apply qe6|apply qf6)|exact HB.out)));rintro e w40 ⟨rfl,hb⟩;refine ⟨_,rfl,?_⟩;have n0_:=qg6 (qi6 (by (with_reducible repeat (first|apply qa6|apply qb6|apply qc6));exact HO_8.out) hb);have n1_:=qg6 (qi6 (by (with_reducible repeat (first|apply qa6|apply qb6|apply qc6));exact HO_9.out) hb);have n2_:=qg6 (qi6 (by (with_reducible repeat (first|apply qa6|apply qb6|apply qc6));exact HO229.out) hb);have n3_:=qg6 (qh6 (by repeat (first|(with_reducible first|exact HB.out|apply qd6|apply qe6|apply qf6)|exact HB.out)) hb);clear HO_8;clear HO_9;clear HO229;clear HB;have HO_8:=n0_;have HO_9:=n1_;have HO229:=n2_;have HB:=n3_;clear n0_ n1_ n2_ n3_;(try clear hb);(try clear hb2);(try clear hk);(try clear hi);have p235 : 0 ≤ (t225 : Int):=of_decide_eq_true (by first|(with_reducible assumption)|assumption);have q235 : t225 < (x8_3.length : Int):=of_decide_eq_true (by first|(with_reducible assumption)|assumption);obtain ⟨ad235,e235,hx235_0,hx235_1,hx235_2⟩:=at_T72 (Kd.R_reads' HO_8.out).2.2 t225 p235 q235;obtain rfl : ad232 = ad235:=(by injection e235);replace p235:=eq_true p235;replace q235:=eq_true q235)|((with_reducible refine gate_callee (f:=48) rfl ?_);refine goesL_ (some 105) rfl rfl Tryd.func48 (by kernel_rfl) rfl #[.int .i64 ((rd_T72 x8_3 t225).f0),.int .i64 (rd y227 t230)] rfl (by (try simp only [List.map_toArray,List.map_cons,List.map_nil]);first|done|rfl|(simp only [List.length_drop,List.length_take];rfl)) ?_;(with_reducible refine (spec_ReadingMac.calls k3 ((rd_T72 x8_3 t225).f0) (rd y227 t230) t236 t237 _ A31.out).mono ?_);rintro e w41 ⟨rfl,hb⟩;refine ⟨_,rfl,?_⟩;have n0_:=qg6 (qi6 (by (with_reducible repeat (first|apply qa6|apply qb6|apply qc6));exact HO_8.out) hb);have n1_:=qg6 (qi6 (by (with_reducible repeat (first|apply qa6|apply qb6|apply qc6));exact HO_9.out) hb);have n2_:=qg6 (qi6 (by (with_reducible repeat (first|apply qa6|apply qb6|apply qc6));exact HO229.out) hb);have n3_:=qg6 (qh6 (by repeat (first|(with_reducible first|exact HB.out|apply qd6|apply qe6|apply qf6)|exact HB.out)) hb);clear HO_8;clear HO_9;clear HO229;clear HB;have HO_8:=n0_;have HO_9:=n1_;have HO229:=n2_;have HB:=n3_;clear n0_ n1_ n2_ n3_;(try clear hb);(try clear hb2);(try clear hk);(try clear hi);have p238 : 0 ≤ (t225 : Int):=of_decide_eq_true (by first|(with_reducible assumption)|assumption);have q238 : t225 < (x8_3.length : Int):=of_decide_eq_true (by first|(with_reducible assumption)|assumption);obtain ⟨ad238,e238,hx238_0,hx238_1,hx238_2⟩:=at_T72 (Kd.R_reads' HO_8.out).2.2 t225 p238 q238;obtain rfl : ad232 = ad238:=(by injection e238);replace p238:=eq_true p238;replace q238:=eq_true q238;have p34 : 0 ≤ (t225 : Int):=of_decide_eq_true (by first|(with_reducible assumption)|assumption);have q34 : (t225 : Int) < ((x8_3.length : Int) : Int):=of_decide_eq_true (by first|(with_reducible assumption)|assumption);obtain ⟨go34,co34,eo34,gb34,gl34,cl34,HG34⟩:=Kd.R_form HO_8.out (by omega);(first|cases eo34|(injection eo34 with ea_ en_ ec_;(first|subst ea_|(injection ea_ with ea_;subst ea_));subst ec_;clear en_));have GB34:=qg6 gb34;have GG34:=qg6 HG34;clear gb34 gl34 HG34;(first|simp only [add_plain] at hx232_0|skip);(first|simp only [add_plain] at hx232_1|skip);(first|simp only [add_plain] at hx232_2|skip);(first|simp only [add_plain] at hx235_0|skip);(first|simp only [add_plain] at hx235_1|skip);(first|simp only [add_plain] at hx235_2|skip);(first|simp only [add_plain] at hx238_0|skip);(first|simp only [add_plain] at hx238_1|skip);(first|simp only [add_plain] at hx238_2|skip);obtain ⟨ce34,hcl34,hM34,hcc34,hfr34⟩:=Kd.R_elem HO_8.out z72 (t225 : Int) p34 q34;obtain rfl:=k72_openM hM34;have hx34_0 : w41.cell? ⟨go34,(t225 : Int).toNat * 3,none⟩ = some (.int .i64 ((rd_T72 x8_3 t225).f0)):=hcc34 0 _ rfl;have hx34_1 : w41.cell? ⟨go34,(t225 : Int).toNat * 3 + 1,none⟩ = some (.int .i64 ((rd_T72 x8_3 t225).f1)):=hcc34 1 _ rfl;have hx34_2 : w41.cell? ⟨go34,(t225 : Int).toNat * 3 + 2,none⟩ = some (.string ((rd_T72 x8_3 t225).f2)):=hcc34 2 _ rfl;have hf34_0 : w41.frozen? ⟨go34,(t225 : Int).toNat * 3,none⟩ = false:=hfr34 0 (by decide);have hf34_1 : w41.frozen? ⟨go34,(t225 : Int).toNat * 3 + 1,none⟩ = false:=hfr34 1 (by decide);have hf34_2 : w41.frozen? ⟨go34,(t225 : Int).toNat * 3 + 2,none⟩ = false:=hfr34 2 (by decide);clear hcl34 hcc34 hfr34 hM34;replace p34:=eq_true p34;replace q34:=eq_true q34;have HX42:=qg6 (show Kd.R k72 72 w41 w.heap.size (fun _ => True) (.slice (some ⟨go34,0,none⟩) x8_3.length co36) x8_3 from (by (with_reducible repeat (first|apply qa6|apply qb6|apply qc6));exact HO_8.out));obtain ⟨ce42,hcl42,hM42,hcc42,hfr42⟩:=Kd.R_elem HX42.out z72 (t225 : Int) (of_decide_eq_true (by first|(with_reducible assumption)|assumption)) (by have h_ : (t225 : Int) < ((x8_3.length : Int) : Int):=of_decide_eq_true (by first|(with_reducible assumption)|assumption);first|exact h_|(have e_:=(Kd.R_reads' HO_8.out).1;omega)|simpa using h_);obtain rfl:=k72_openM hM42;have HP42:=Kd.R_seg HX42.out (t225 : Int) (of_decide_eq_true (by first|(with_reducible assumption)|assumption)) (by have h_ : (t225 : Int) < ((x8_3.length : Int) : Int):=of_decide_eq_true (by first|(with_reducible assumption)|assumption);first|exact h_|(have e_:=(Kd.R_reads' HO_8.out).1;omega)|simpa using h_) (seg:=[.int .i64 ((rd_T72 x8_3 t225).f0),.int .i64 (rd y227 t230),.string t233]) (j:=0) hcl42 hcc42 (show 3 ≤ 3 from by decide) (x':=(⟨(rd_T72 x8_3 t225).f0,rd y227 t230,t233⟩ : S72)) (k72_mkM _ _ _ (⟨(rd_T72 x8_3 t225).f0,rd y227 t230,t233⟩ : S72) ) (fun _ hk => hk);have hx42_0:=hcc42 0 _ rfl;(try simp only [show (k72).sz = 3 from rfl,Nat.mul_one,Nat.add_zero] at hx42_0);have hf42_0:=hfr42 0 (by decide);(try simp only [show (k72).sz = 3 from rfl,Nat.mul_one,Nat.add_zero] at hf42_0);have hx42_1:=hcc42 1 _ rfl;(try simp only [show (k72).sz = 3 from rfl,Nat.mul_one,Nat.add_zero] at hx42_1);have hf42_1:=hfr42 1 (by decide);(try simp only [show (k72).sz = 3 from rfl,Nat.mul_one,Nat.add_zero] at hf42_1);have hx42_2:=hcc42 2 _ rfl;(try simp only [show (k72).sz = 3 from rfl,Nat.mul_one,Nat.add_zero] at hx42_2);have hf42_2:=hfr42 2 (by decide);(try simp only [show (k72).sz = 3 from rfl,Nat.mul_one,Nat.add_zero] at hf42_2);clear hcl42 hcc42 hfr42 hM42)|((with_reducible refine gate_store (t:=72) (p:=125) rfl ?_);refine store_event (t:=72) (p:=125) (v:=?vo_w43) (w1:=(((w41.setCell ⟨go34,(t225 : Int).toNat * 3,none⟩ (.int .i64 ((rd_T72 x8_3 t225).f0))).setCell ⟨go34,(t225 : Int).toNat * 3 + 1,none⟩ (.int .i64 (rd y227 t230))).setCell ⟨go34,(t225 : Int).toNat * 3 + 2,none⟩ (.string t233))) ?hg ?ho ?hn ?hr ?_;(case ho => rfl);(case hg => rfl);(case hn => rfl);(case hr => first|(go_simp;done)|(go_simp;rfl));intro w43 hw;have hg : w41.grownBy w43 (some go34):=(by rw [hw];exact HP42.2);have hp_ : Kd.R k72 72 w43 w.heap.size (fun _ => True) (.slice (some ⟨go34,0,none⟩) x8_3.length co36) y239:=(by rw [hw,Ny239.out];exact HP42.1);clear HP42;have n0_:=qg6 (hp_);have n1_:=qg6 (Kd.R_over' (v:=(.slice (some ⟨go34,0,none⟩) x8_3.length co36)) (by (with_reducible repeat (first|apply qa6|apply qb6|apply qc6));exact HO_9.out) (Kd.R_typed HO_8.out) (by decide) hg);have n2_:=qg6 (Kd.R_over' (v:=(.slice (some ⟨go34,0,none⟩) x8_3.length co36)) (by (with_reducible repeat (first|apply qa6|apply qb6|apply qc6));exact HO229.out) (Kd.R_typed HO_8.out) (by decide) hg);have n3_:=qg6 ((by rw [hw];exact below_set (below_set (below_set (HB.out) GB34.out) GB34.out) GB34.out : Below w.heap.size w w43));clear HO_8;clear HO_9;clear HO229;clear HB;have HO_8:=n0_;have HO_9:=n1_;have HO229:=n2_;have HB:=n3_;clear n0_ n1_ n2_ n3_;clear hg hw hp_)|((with_reducible refine gate_builtin (b:=.append) (xs:=#[.tmp 126,.tmp 128]) rfl ?_);at_builtin;refine Kd.R_append (Kd.int .i64) (w0:=w) w.heap.size rfl (.tmp 126) (.tmp 128) 67 3 (.int .i64 0) 8 rfl Tryd.underlying67 info3 rfl (by decide) (by omega) u9 x9_3 t225 [.int .i64 t225] (fun k_ => some k_ ≠ (.slice (some ad231) y227.length co39 : Value).ownBlock) (fun _ => False) rfl rfl ?aP (fun _ hk => hk.elim) ?aF ?aO ?aB ?aS ?aL ?_;(case aP => exact rfl);(case aB => exact (by repeat (first|(with_reducible first|exact HB.out|apply qd6|apply qe6|apply qf6)|exact HB.out)));(case aF => exact (fun k_ hk => Kd.fresh' (Kd.R_lt (by (with_reducible repeat (first|apply qa6|apply qb6|apply qc6));exact HO229.out)) k_ hk));(case aO => exact (by (with_reducible repeat (first|apply qa6|apply qb6|apply qc6));(first|exact Kd.R_mono HO_9.out (fun _ hk => hk.2)|exact HO_9.out)));(case aS => exact (below_size (by repeat (first|(with_reducible first|exact HB.out|apply qd6|apply qe6|apply qf6)|exact HB.out))));(case aL => have:=LMc35.out;omega);intro v241 w44 ho hb hg hat;rw [← Ny240.out] at ho;have n0_:=qg6 (Kd.R_over' (by (with_reducible repeat (first|apply qa6|apply qb6|apply qc6));exact HO_8.out) (Kd.R_typed (by (with_reducible repeat (first|apply qa6|apply qb6|apply qc6));exact HO_9.out)) (by decide) hg);have n1_:=qg6 (Kd.R_after (ok:=(fun _ => True)) (by (with_reducible repeat (first|apply qa6|apply qb6|apply qc6));exact Kd.R_mono HO229.out (fun _ hk => ⟨trivial,hk⟩)) hg hat);have n2_:=qg6 (hb);have n3_:=qg6 (ho);clear HO_8;clear HO229;clear HB;clear HO_9;have HO_8:=n0_;have HO229:=n1_;have HB:=n2_;have HO242:=n3_;clear n0_ n1_ n2_ n3_;clear ho hb hg hat))
                   go_roundg k3
                   case measure => have:=HJ2.out;have:=HJ10.out;have:=HK3.out;omega
                   case rel => exact ⟨(y239),(y240),(wrap64 (x10_3 + 1)),(by first|rfl|(simp;done)|(simp [*];done)),H',⟨by have:=HJ2.out;have:=HJ10.out;have:=HK3.out;omega⟩,⟨by (with_reducible repeat (first|apply qa6|apply qb6|apply qc6));exact HO_8.out⟩,⟨by (with_reducible repeat (first|apply qa6|apply qb6|apply qc6));exact Kd.R_mono HO242.out (fun _ hk => trivial)⟩,⟨by repeat (first|(with_reducible first|exact HB.out|apply qd6|apply qe6|apply qf6)|exact HB.out)⟩⟩
                  ·
                   rw [if_neg c35] at H
                   exact absurd H (by simp)
                 ·
                  rw [if_neg c33] at H
                  have c33b0 : (t233.toList == t236.toList) = false:=beq_eq_false_iff_ne.mpr c33
                  have c33b1 : (t233.toList != t236.toList) = true:=bne_iff_ne.mpr c33
                  obtain rfl:=Option.some.inj H
                  exact absurd hr_ (by decide)
                ·
                 rw [if_neg c32] at H
                 have c32b0 : (t234 == 0) = false:=beq_eq_false_iff_ne.mpr c32
                 have c32b1 : (t234 != 0) = true:=bne_iff_ne.mpr c32
                 obtain rfl:=Option.some.inj H
                 exact absurd hr_ (by decide)
               ·
                rw [if_neg c29] at H
                exact absurd H (by simp)
              ·
               rw [if_neg c28] at H
               exact absurd H (by simp)
             ·
              rw [if_neg c27] at H
              exact absurd H (by simp)
            ·
             rw [if_neg c26] at H
             exact absurd H (by simp)
           ·
            rw [if_neg c22] at H
            have c22b0 : decide (x10_3 < t217) = false:=decide_eq_false c22
            clear c22
            have H':=qg6 H
            clear H
            go_wp2
            go_loopg [17,18,19] k3 (fun kq v17 v18 v19 w' => ∃ (x17_4 : Int) (x18_4 : Int) (x19_4 : Int),v17 = .int .i64 x17_4 ∧ v18 = .int .i64 x18_4 ∧ v19 = .int .i64 x19_4 ∧ Aside0 (laws_FnAgreed.l1 kq l1 (rd y212 t215) x8_3 x9_3 x17_4 x18_4 x19_4 = some r) ∧ Aside0 (kq ≤ k3) ∧ Aside0 (Kd.R k72 72 w' w.heap.size (fun _ => True) v220 x8_3) ∧ Aside0 (Kd.R (Kd.int .i64) 3 w' w.heap.size (fun _ => True) u9 x9_3) ∧ Aside0 (Below w.heap.size w w'))
            case atStart => exact ⟨(2000000000),((-1)),(0),(by first|rfl|(simp;done)|(simp [*];done)),(by first|rfl|(simp;done)|(simp [*];done)),(by first|rfl|(simp;done)|(simp [*];done)),H',⟨Nat.le_refl _⟩,⟨by (with_reducible repeat (first|apply qa6|apply qb6|apply qc6));exact HO_8.out⟩,⟨by (with_reducible repeat (first|apply qa6|apply qb6|apply qc6));exact HO_9.out⟩,⟨by repeat (first|(with_reducible first|exact HB.out|apply qd6|apply qe6|apply qf6)|exact HB.out)⟩⟩
            case round =>
             clear H'
             try clear c1
             try clear c2
             try clear p2
             try clear q2
             try clear hx2
             try clear c3
             try clear p3
             try clear q3
             try clear hx3
             try clear hf3
             try clear c4
             try clear c4b0
             try clear c4b1
             try clear hx4
             try clear hf4
             try clear c5
             try clear p6
             try clear c7
             try clear c7b0
             try clear c8
             try clear c8b0
             try clear c9
             try clear c16
             try clear c16b0
             try clear c16b1
             try clear c17
             try clear c17b0
             try clear c17b1
             try clear c18
             try clear c19
             try clear p21
             try clear q21
             try clear hx21
             try clear c22
             try clear c22b0
             try clear p23
             try clear q23
             try clear hx23
             try clear c26
             try clear c26b0
             try clear c27
             try clear c27b0
             try clear c28
             try clear c28b0
             try clear c29
             try clear c29b0
             try clear c32
             try clear c32b0
             try clear c32b1
             try clear c33
             try clear c33b0
             try clear c33b1
             try clear c34
             try clear p34
             try clear q34
             try clear hx34
             try clear hf34
             try clear c35
             try clear c42
             try clear hx42
             try clear hf42
             try clear c45
             try clear c46
             try clear c47
             try clear c48
             try clear hx216_0
             try clear hx231_0
             try clear hx232_0
             try clear hx232_1
             try clear hx232_2
             try clear hx235_0
             try clear hx235_1
             try clear hx235_2
             try clear hx238_0
             try clear hx238_1
             try clear hx238_2
             try clear hx34_0
             try clear hx34_1
             try clear hx34_2
             try clear hx42_0
             try clear hx42_1
             try clear hx42_2
             try clear p2
             try clear p21
             try clear p216
             try clear p231
             try clear p232
             try clear p235
             try clear p238
             try clear p34
             try clear p6
             try clear q2
             try clear q21
             try clear q216
             try clear q231
             try clear q232
             try clear q235
             try clear q238
             try clear q34
             obtain ⟨x17_4,x18_4,x19_4,rfl,rfl,rfl,HA,HK4,HO_8,HO_9,HB⟩:=hrel
             cases gk with
             | zero => exact absurd HA.out (by simp [laws_FnAgreed.l1])
             | succ k4 =>
              have H:=HA.out
              clear HA
              simp only [laws_FnAgreed.l1] at H
              by_cases c57 : x19_4 < (x8_3.length : Int)
              ·
               rw [if_pos c57] at H
               have c57b0 : decide (x19_4 < (x8_3.length : Int)) = true:=decide_eq_true c57
               clear c57
               replace H:=Option.bind_eq_some_iff.mp H
               obtain ⟨t243,A580,H⟩:=H
               replace H : (if t243 = true then (laws_FnAgreed.l1 k4 l1 (rd y212 t215) x8_3 x9_3 x17_4 x18_4 (wrap64 (x19_4 + 1))) else (if 0 ≤ x19_4 then (laws_FnAgreed.l1 k4 l1 (rd y212 t215) x8_3 x9_3 (mn x17_4 ((rd_T72 x8_3 x19_4).f1)) (mx x18_4 ((rd_T72 x8_3 x19_4).f1)) (wrap64 (x19_4 + 1))) else (none))) = some r:=H
               have A58:=qg6 A580
               clear A580
               by_cases c59 : t243 = true
               ·
                subst c59
                have H1 : (laws_FnAgreed.l1 k4 l1 (rd y212 t215) x8_3 x9_3 x17_4 x18_4 (wrap64 (x19_4 + 1))) = some r:=by rw [if_pos rfl] at H;exact H
                clear H
                have H:=H1
                clear H1
                have H':=qg6 H
                clear H
                obtain ⟨Ao60,co60,eo60⟩:=Kd.R_slice HO_8.out
                subst eo60
                obtain ⟨Ao61,co61,eo61⟩:=Kd.R_slice HO_9.out
                subst eo61
                go_wp2_with (first|((with_reducible refine gate_callee (f:=49) rfl ?_);refine goesL_ (some 138) rfl rfl Tryd.func49 (by kernel_rfl) rfl #[.slice Ao61 x9_3.length co61,.int .i64 x19_4] rfl (by (try simp only [List.map_toArray,List.map_cons,List.map_nil]);first|done|rfl|(simp only [List.length_drop,List.length_take];rfl)) ?_;(with_reducible refine (laws_hasInt.calls k4 _ _ x9_3 x19_4 true _ ?side1 ?side2 A58.out).mono ?_);(case side1 => repeat (first|exact (Kd.R_reads' HO_9.out).2.2|(with_reducible refine Kd.C_alloc ?_ _)|(with_reducible refine Kd.C_drewN ?_ _)|(with_reducible refine Kd.C_drew ?_)));(case side2 => exact (Kd.R_reads' HO_9.out).2.1);rintro e w' ⟨rfl,⟨nd,rfl⟩⟩;refine ⟨_,rfl,?_⟩))
                go_roundg k4
                case measure => have:=HJ2.out;have:=HJ10.out;have:=HK3.out;have:=HK4.out;omega
                case rel => exact ⟨(x17_4),(x18_4),(wrap64 (x19_4 + 1)),(by first|rfl|(simp;done)|(simp [*];done)),(by first|rfl|(simp;done)|(simp [*];done)),(by first|rfl|(simp;done)|(simp [*];done)),H',⟨by have:=HJ2.out;have:=HJ10.out;have:=HK3.out;have:=HK4.out;omega⟩,⟨by (with_reducible repeat (first|apply qa6|apply qb6|apply qc6));exact HO_8.out⟩,⟨by (with_reducible repeat (first|apply qa6|apply qb6|apply qc6));exact HO_9.out⟩,⟨by repeat (first|(with_reducible first|exact HB.out|apply qd6|apply qe6|apply qf6)|exact HB.out)⟩⟩
               ·
                replace c59:=Bool.eq_false_iff.mpr c59
                subst c59
                have H1 : (if 0 ≤ x19_4 then (laws_FnAgreed.l1 k4 l1 (rd y212 t215) x8_3 x9_3 (mn x17_4 ((rd_T72 x8_3 x19_4).f1)) (mx x18_4 ((rd_T72 x8_3 x19_4).f1)) (wrap64 (x19_4 + 1))) else (none)) = some r:=by rw [if_neg (show ¬ (false = true) by decide)] at H;exact H
                clear H
                have H:=H1
                clear H1
                by_cases c62 : 0 ≤ x19_4
                ·
                 rw [if_pos c62] at H
                 have c62b0 : decide (0 ≤ x19_4) = true:=decide_eq_true c62
                 clear c62
                 obtain ⟨ji63,hji63⟩ : ∃ j_ : Int,(mn x17_4 ((rd_T72 x8_3 x19_4).f1)) = j_:=⟨_,rfl⟩
                 replace H : (laws_FnAgreed.l1 k4 l1 (rd y212 t215) x8_3 x9_3 ji63 (mx x18_4 ((rd_T72 x8_3 x19_4).f1)) (wrap64 (x19_4 + 1))) = some r:=by first|(rw [hji63] at H;exact H)|(simp only [hji63] at H ⊢;exact H)
                 (try rw [hji63] at A58)
                 have hji63_ : (if ((rd_T72 x8_3 x19_4).f1) < x17_4 then ((rd_T72 x8_3 x19_4).f1) else x17_4) = ji63:=hji63
                 obtain ⟨ji64,hji64⟩ : ∃ j_ : Int,(mx x18_4 ((rd_T72 x8_3 x19_4).f1)) = j_:=⟨_,rfl⟩
                 replace H : (laws_FnAgreed.l1 k4 l1 (rd y212 t215) x8_3 x9_3 ji63 ji64 (wrap64 (x19_4 + 1))) = some r:=by first|(rw [hji64] at H;exact H)|(simp only [hji64] at H ⊢;exact H)
                 (try rw [hji64] at A58)
                 have hji64_ : (if x18_4 < ((rd_T72 x8_3 x19_4).f1) then ((rd_T72 x8_3 x19_4).f1) else x18_4) = ji64:=hji64
                 have H':=qg6 H
                 clear H
                 obtain ⟨Ao65,co65,eo65⟩:=Kd.R_slice HO_8.out
                 subst eo65
                 obtain ⟨Ao66,co66,eo66⟩:=Kd.R_slice HO_9.out
                 subst eo66
                 go_wp2_with (first|((with_reducible refine gate_callee (f:=49) rfl ?_);refine goesL_ (some 138) rfl rfl Tryd.func49 (by kernel_rfl) rfl #[.slice Ao66 x9_3.length co66,.int .i64 x19_4] rfl (by (try simp only [List.map_toArray,List.map_cons,List.map_nil]);first|done|rfl|(simp only [List.length_drop,List.length_take];rfl)) ?_;(with_reducible refine (laws_hasInt.calls k4 _ _ x9_3 x19_4 false _ ?side1 ?side2 A58.out).mono ?_);(case side1 => repeat (first|exact (Kd.R_reads' HO_9.out).2.2|(with_reducible refine Kd.C_alloc ?_ _)|(with_reducible refine Kd.C_drewN ?_ _)|(with_reducible refine Kd.C_drew ?_)));(case side2 => exact (Kd.R_reads' HO_9.out).2.1);rintro e w' ⟨rfl,⟨nd,rfl⟩⟩;refine ⟨_,rfl,?_⟩;have p244 : 0 ≤ (x19_4 : Int):=of_decide_eq_true (by first|(with_reducible assumption)|assumption);have q244 : x19_4 < (x8_3.length : Int):=of_decide_eq_true (by first|(with_reducible assumption)|assumption);obtain ⟨ad244,e244,hx244_0,hx244_1,hx244_2⟩:=at_T72 (Kd.R_reads' HO_8.out).2.2 x19_4 p244 q244;cases e244;replace p244:=eq_true p244;replace q244:=eq_true q244;have p245 : 0 ≤ (x19_4 : Int):=of_decide_eq_true (by first|(with_reducible assumption)|assumption);have q245 : x19_4 < (x8_3.length : Int):=of_decide_eq_true (by first|(with_reducible assumption)|assumption);obtain ⟨ad245,e245,hx245_0,hx245_1,hx245_2⟩:=at_T72 (Kd.R_reads' HO_8.out).2.2 x19_4 p245 q245;obtain rfl : ad244 = ad245:=(by injection e245);replace p245:=eq_true p245;replace q245:=eq_true q245))
                 go_roundg k4
                 case measure => have:=HJ2.out;have:=HJ10.out;have:=HK3.out;have:=HK4.out;omega
                 case rel => exact ⟨(ji63),(ji64),(wrap64 (x19_4 + 1)),(by first|rfl|(simp;done)|(simp only [← hji63] <;> (first|rfl|simp))|(simp [*];done)),(by first|rfl|(simp;done)|(simp only [← hji64] <;> (first|rfl|simp))|(simp [*];done)),(by first|rfl|(simp;done)|(simp [*];done)),H',⟨by have:=HJ2.out;have:=HJ10.out;have:=HK3.out;have:=HK4.out;omega⟩,⟨by (with_reducible repeat (first|apply qa6|apply qb6|apply qc6));exact HO_8.out⟩,⟨by (with_reducible repeat (first|apply qa6|apply qb6|apply qc6));exact HO_9.out⟩,⟨by repeat (first|(with_reducible first|exact HB.out|apply qd6|apply qe6|apply qf6)|exact HB.out)⟩⟩
                ·
                 rw [if_neg c62] at H
                 exact absurd H (by simp)
              ·
               rw [if_neg c57] at H
               have c57b0 : decide (x19_4 < (x8_3.length : Int)) = false:=decide_eq_false c57
               clear c57
               replace H:=Option.bind_eq_some_iff.mp H
               obtain ⟨⟨t246,t247⟩,A670,H⟩:=H
               replace H : ((spec_ReadingsTime.f k4 (rd y212 t215) x8_3).bind fun bt248 => ((laws_at.f l1 20 100).bind fun t250 => ((impl_AgreedTime.f k4 t250 (rd y212 t215) x8_3).bind fun bt251 => (if t247 = 0 then (if t246 = bt248.1 then (if x17_4 ≤ t246 then (if t246 ≤ x18_4 then (if bt251.2 = 0 then (if bt251.1 ≥ t250 then (if bt251.1 = t246 then (some true) else (some (bt251.1 == t250))) else (some false)) else (some false)) else (some false)) else (some false)) else (some false)) else (some false))))) = some r:=H
               have A67:=qg6 A670
               clear A670
               replace H:=Option.bind_eq_some_iff.mp H
               obtain ⟨⟨t248,t249⟩,A680,H⟩:=H
               replace H : ((laws_at.f l1 20 100).bind fun t250 => ((impl_AgreedTime.f k4 t250 (rd y212 t215) x8_3).bind fun bt251 => (if t247 = 0 then (if t246 = t248 then (if x17_4 ≤ t246 then (if t246 ≤ x18_4 then (if bt251.2 = 0 then (if bt251.1 ≥ t250 then (if bt251.1 = t246 then (some true) else (some (bt251.1 == t250))) else (some false)) else (some false)) else (some false)) else (some false)) else (some false)) else (some false)))) = some r:=H
               have A68:=qg6 A680
               clear A680
               replace H:=Option.bind_eq_some_iff.mp H
               obtain ⟨t250,A690,H⟩:=H
               replace H : ((impl_AgreedTime.f k4 t250 (rd y212 t215) x8_3).bind fun bt251 => (if t247 = 0 then (if t246 = t248 then (if x17_4 ≤ t246 then (if t246 ≤ x18_4 then (if bt251.2 = 0 then (if bt251.1 ≥ t250 then (if bt251.1 = t246 then (some true) else (some (bt251.1 == t250))) else (some false)) else (some false)) else (some false)) else (some false)) else (some false)) else (some false))) = some r:=H
               have A69:=qg6 A690
               clear A690
               replace H:=Option.bind_eq_some_iff.mp H
               obtain ⟨⟨t251,t252⟩,A700,H⟩:=H
               replace H : (if t247 = 0 then (if t246 = t248 then (if x17_4 ≤ t246 then (if t246 ≤ x18_4 then (if t252 = 0 then (if t251 ≥ t250 then (if t251 = t246 then (some true) else (some (t251 == t250))) else (some false)) else (some false)) else (some false)) else (some false)) else (some false)) else (some false)) = some r:=H
               have A70:=qg6 A700
               clear A700
               by_cases c71 : t247 = 0
               ·
                rw [if_pos c71] at H
                have c71b0 : (t247 == 0) = true:=beq_iff_eq.mpr c71
                have c71b1 : (t247 != 0) = false:=bne_eq_false_iff_eq.mpr c71
                clear c71
                by_cases c72 : t246 = t248
                ·
                 rw [if_pos c72] at H
                 have c72b0 : (t246 == t248) = true:=beq_iff_eq.mpr c72
                 have c72b1 : (t246 != t248) = false:=bne_eq_false_iff_eq.mpr c72
                 clear c72
                 by_cases c73 : x17_4 ≤ t246
                 ·
                  rw [if_pos c73] at H
                  have c73b0 : decide (x17_4 ≤ t246) = true:=decide_eq_true c73
                  clear c73
                  by_cases c74 : t246 ≤ x18_4
                  ·
                   rw [if_pos c74] at H
                   have c74b0 : decide (t246 ≤ x18_4) = true:=decide_eq_true c74
                   clear c74
                   by_cases c75 : t252 = 0
                   ·
                    rw [if_pos c75] at H
                    have c75b0 : (t252 == 0) = true:=beq_iff_eq.mpr c75
                    have c75b1 : (t252 != 0) = false:=bne_eq_false_iff_eq.mpr c75
                    clear c75
                    by_cases c76 : t251 ≥ t250
                    ·
                     rw [if_pos c76] at H
                     have c76b0 : decide (t250 ≤ t251) = true:=decide_eq_true c76
                     clear c76
                     by_cases c77 : t251 = t246
                     ·
                      rw [if_pos c77] at H
                      have c77b0 : (t251 == t246) = true:=beq_iff_eq.mpr c77
                      have c77b1 : (t251 != t246) = false:=bne_eq_false_iff_eq.mpr c77
                      clear c77
                      obtain rfl:=Option.some.inj H
                      obtain ⟨Ao78,co78,eo78⟩:=Kd.R_slice HO_8.out
                      subst eo78
                      go_wp2_with (first|((with_reducible refine gate_callee (f:=41) rfl ?_);refine goesL_ (some 157) rfl rfl Tryd.func41 (by kernel_rfl) rfl #[.int .i64 (rd y212 t215),.slice Ao78 x8_3.length co78] rfl (by (try simp only [List.map_toArray,List.map_cons,List.map_nil]);first|done|rfl|(simp only [List.length_drop,List.length_take];rfl)) ?_;(with_reducible refine (impl_ReadingsTime.calls k4 (rd y212 t215) _ _ x8_3 t246 t247 _ ?side1 ?side2 ?side3 A67.out).mono ?_);(case side1 => repeat (first|exact (Kd.R_reads' HO_8.out).2.2|(with_reducible refine Kd.C_alloc ?_ _)|(with_reducible refine Kd.C_drewN ?_ _)|(with_reducible refine Kd.C_drew ?_)));(case side2 => exact (Kd.R_reads' HO_8.out).2.1);(case side3 => exact Go.Proofs.YtmkaknegjahjaaaDoor.Sha.glob_below hG_ (by repeat (first|(with_reducible first|exact HB.out|apply qd6|apply qe6|apply qf6)|exact HB.out)));rintro e w79 ⟨rfl,hb⟩;refine ⟨_,rfl,?_⟩;have n0_:=qg6 (qi6 (by (with_reducible repeat (first|apply qa6|apply qb6|apply qc6));exact HO_8.out) hb);have n1_:=qg6 (qi6 (by (with_reducible repeat (first|apply qa6|apply qb6|apply qc6));exact HO_9.out) hb);have n2_:=qg6 (qh6 (by repeat (first|(with_reducible first|exact HB.out|apply qd6|apply qe6|apply qf6)|exact HB.out)) hb);clear HO_8;clear HO_9;clear HB;have HO_8:=n0_;have HO_9:=n1_;have HB:=n2_;clear n0_ n1_ n2_;(try clear hb);(try clear hb2);(try clear hk);(try clear hi))|((with_reducible refine gate_callee (f:=39) rfl ?_);refine goesL_ (some 163) rfl rfl Tryd.func39 (by kernel_rfl) rfl #[.int .i64 (rd y212 t215),.slice Ao78 x8_3.length co78] rfl (by (try simp only [List.map_toArray,List.map_cons,List.map_nil]);first|done|rfl|(simp only [List.length_drop,List.length_take];rfl)) ?_;(with_reducible refine (spec_ReadingsTime.calls k4 (rd y212 t215) _ _ x8_3 t248 t249 _ ?side1 ?side2 A68.out).mono ?_);(case side1 => repeat (first|exact (Kd.R_reads' HO_8.out).2.2|(with_reducible refine Kd.C_alloc ?_ _)|(with_reducible refine Kd.C_drewN ?_ _)|(with_reducible refine Kd.C_drew ?_)));(case side2 => exact (Kd.R_reads' HO_8.out).2.1);rintro e w80 ⟨rfl,hb⟩;refine ⟨_,rfl,?_⟩;have n0_:=qg6 (qi6 (by (with_reducible repeat (first|apply qa6|apply qb6|apply qc6));exact HO_8.out) hb);have n1_:=qg6 (qi6 (by (with_reducible repeat (first|apply qa6|apply qb6|apply qc6));exact HO_9.out) hb);have n2_:=qg6 (qh6 (by repeat (first|(with_reducible first|exact HB.out|apply qd6|apply qe6|apply qf6)|exact HB.out)) hb);clear HO_8;clear HO_9;clear HB;have HO_8:=n0_;have HO_9:=n1_;have HB:=n2_;clear n0_ n1_ n2_;(try clear hb);(try clear hb2);(try clear hk);(try clear hi))|((with_reducible refine gate_callee (f:=18) rfl ?_);refine goesL_ (some 167) rfl rfl Tryd.func18 (by kernel_rfl) rfl #[.slice A1 l1.length c1,.int .i64 20,.int .i64 100] rfl (by (try simp only [List.map_toArray,List.map_cons,List.map_nil]);first|done|rfl|(simp only [List.length_drop,List.length_take];rfl)) ?_;(with_reducible refine (laws_at.calls _ _ l1 20 100 t250 _ ?side1 ?side2 A69.out).mono ?_);(case side1 => repeat (first|exact (Kd.C_below HR1.out HB.out)|(with_reducible refine Kd.C_alloc ?_ _)|(with_reducible refine Kd.C_drewN ?_ _)|(with_reducible refine Kd.C_drew ?_)));(case side2 => exact HC1.out);rintro e w' ⟨rfl,⟨nd,rfl⟩⟩;refine ⟨_,rfl,?_⟩)|((with_reducible refine gate_callee (f:=44) rfl ?_);refine goesL_ (some 172) rfl rfl Tryd.func44 (by kernel_rfl) rfl #[.int .i64 t250,.int .i64 (rd y212 t215),.slice Ao78 x8_3.length co78] rfl (by (try simp only [List.map_toArray,List.map_cons,List.map_nil]);first|done|rfl|(simp only [List.length_drop,List.length_take];rfl)) ?_;(with_reducible refine (impl_AgreedTime.calls k4 t250 (rd y212 t215) _ _ x8_3 t251 t252 _ ?side1 ?side2 ?side3 A70.out).mono ?_);(case side1 => repeat (first|exact (Kd.R_reads' HO_8.out).2.2|(with_reducible refine Kd.C_alloc ?_ _)|(with_reducible refine Kd.C_drewN ?_ _)|(with_reducible refine Kd.C_drew ?_)));(case side2 => exact (Kd.R_reads' HO_8.out).2.1);(case side3 => exact Go.Proofs.YtmkaknegjahjaaaDoor.Sha.glob_below hG_ (by repeat (first|(with_reducible first|exact HB.out|apply qd6|apply qe6|apply qf6)|exact HB.out)));rintro e w81 ⟨rfl,hb⟩;refine ⟨_,rfl,?_⟩;have n0_:=qg6 (qi6 (by (with_reducible repeat (first|apply qa6|apply qb6|apply qc6));exact HO_8.out) hb);have n1_:=qg6 (qi6 (by (with_reducible repeat (first|apply qa6|apply qb6|apply qc6));exact HO_9.out) hb);have n2_:=qg6 (qh6 (by repeat (first|(with_reducible first|exact HB.out|apply qd6|apply qe6|apply qf6)|exact HB.out)) hb);clear HO_8;clear HO_9;clear HB;have HO_8:=n0_;have HO_9:=n1_;have HB:=n2_;clear n0_ n1_ n2_;(try clear hb);(try clear hb2);(try clear hk);(try clear hi)))
                      go_ret
                      exact ⟨by first|rfl|(simp [errW_none,errW_some] <;> rfl)|(simp [*,errW_none,errW_some] <;> rfl),by repeat (first|(with_reducible first|exact HB.out|apply qd6|apply qe6|apply qf6)|exact HB.out)⟩
                     ·
                      rw [if_neg c77] at H
                      have c77b0 : (t251 == t246) = false:=beq_eq_false_iff_ne.mpr c77
                      have c77b1 : (t251 != t246) = true:=bne_iff_ne.mpr c77
                      obtain rfl:=Option.some.inj H
                      obtain ⟨Ao82,co82,eo82⟩:=Kd.R_slice HO_8.out
                      subst eo82
                      go_wp2_with (first|((with_reducible refine gate_callee (f:=41) rfl ?_);refine goesL_ (some 157) rfl rfl Tryd.func41 (by kernel_rfl) rfl #[.int .i64 (rd y212 t215),.slice Ao82 x8_3.length co82] rfl (by (try simp only [List.map_toArray,List.map_cons,List.map_nil]);first|done|rfl|(simp only [List.length_drop,List.length_take];rfl)) ?_;(with_reducible refine (impl_ReadingsTime.calls k4 (rd y212 t215) _ _ x8_3 t246 t247 _ ?side1 ?side2 ?side3 A67.out).mono ?_);(case side1 => repeat (first|exact (Kd.R_reads' HO_8.out).2.2|(with_reducible refine Kd.C_alloc ?_ _)|(with_reducible refine Kd.C_drewN ?_ _)|(with_reducible refine Kd.C_drew ?_)));(case side2 => exact (Kd.R_reads' HO_8.out).2.1);(case side3 => exact Go.Proofs.YtmkaknegjahjaaaDoor.Sha.glob_below hG_ (by repeat (first|(with_reducible first|exact HB.out|apply qd6|apply qe6|apply qf6)|exact HB.out)));rintro e w83 ⟨rfl,hb⟩;refine ⟨_,rfl,?_⟩;have n0_:=qg6 (qi6 (by (with_reducible repeat (first|apply qa6|apply qb6|apply qc6));exact HO_8.out) hb);have n1_:=qg6 (qi6 (by (with_reducible repeat (first|apply qa6|apply qb6|apply qc6));exact HO_9.out) hb);have n2_:=qg6 (qh6 (by repeat (first|(with_reducible first|exact HB.out|apply qd6|apply qe6|apply qf6)|exact HB.out)) hb);clear HO_8;clear HO_9;clear HB;have HO_8:=n0_;have HO_9:=n1_;have HB:=n2_;clear n0_ n1_ n2_;(try clear hb);(try clear hb2);(try clear hk);(try clear hi))|((with_reducible refine gate_callee (f:=39) rfl ?_);refine goesL_ (some 163) rfl rfl Tryd.func39 (by kernel_rfl) rfl #[.int .i64 (rd y212 t215),.slice Ao82 x8_3.length co82] rfl (by (try simp only [List.map_toArray,List.map_cons,List.map_nil]);first|done|rfl|(simp only [List.length_drop,List.length_take];rfl)) ?_;(with_reducible refine (spec_ReadingsTime.calls k4 (rd y212 t215) _ _ x8_3 t248 t249 _ ?side1 ?side2 A68.out).mono ?_);(case side1 => repeat (first|exact (Kd.R_reads' HO_8.out).2.2|(with_reducible refine Kd.C_alloc ?_ _)|(with_reducible refine Kd.C_drewN ?_ _)|(with_reducible refine Kd.C_drew ?_)));(case side2 => exact (Kd.R_reads' HO_8.out).2.1);rintro e w84 ⟨rfl,hb⟩;refine ⟨_,rfl,?_⟩;have n0_:=qg6 (qi6 (by (with_reducible repeat (first|apply qa6|apply qb6|apply qc6));exact HO_8.out) hb);have n1_:=qg6 (qi6 (by (with_reducible repeat (first|apply qa6|apply qb6|apply qc6));exact HO_9.out) hb);have n2_:=qg6 (qh6 (by repeat (first|(with_reducible first|exact HB.out|apply qd6|apply qe6|apply qf6)|exact HB.out)) hb);clear HO_8;clear HO_9;clear HB;have HO_8:=n0_;have HO_9:=n1_;have HB:=n2_;clear n0_ n1_ n2_;(try clear hb);(try clear hb2);(try clear hk);(try clear hi))|((with_reducible refine gate_callee (f:=18) rfl ?_);refine goesL_ (some 167) rfl rfl Tryd.func18 (by kernel_rfl) rfl #[.slice A1 l1.length c1,.int .i64 20,.int .i64 100] rfl (by (try simp only [List.map_toArray,List.map_cons,List.map_nil]);first|done|rfl|(simp only [List.length_drop,List.length_take];rfl)) ?_;(with_reducible refine (laws_at.calls _ _ l1 20 100 t250 _ ?side1 ?side2 A69.out).mono ?_);(case side1 => repeat (first|exact (Kd.C_below HR1.out HB.out)|(with_reducible refine Kd.C_alloc ?_ _)|(with_reducible refine Kd.C_drewN ?_ _)|(with_reducible refine Kd.C_drew ?_)));(case side2 => exact HC1.out);rintro e w' ⟨rfl,⟨nd,rfl⟩⟩;refine ⟨_,rfl,?_⟩)|((with_reducible refine gate_callee (f:=44) rfl ?_);refine goesL_ (some 172) rfl rfl Tryd.func44 (by kernel_rfl) rfl #[.int .i64 t250,.int .i64 (rd y212 t215),.slice Ao82 x8_3.length co82] rfl (by (try simp only [List.map_toArray,List.map_cons,List.map_nil]);first|done|rfl|(simp only [List.length_drop,List.length_take];rfl)) ?_;(with_reducible refine (impl_AgreedTime.calls k4 t250 (rd y212 t215) _ _ x8_3 t251 t252 _ ?side1 ?side2 ?side3 A70.out).mono ?_);(case side1 => repeat (first|exact (Kd.R_reads' HO_8.out).2.2|(with_reducible refine Kd.C_alloc ?_ _)|(with_reducible refine Kd.C_drewN ?_ _)|(with_reducible refine Kd.C_drew ?_)));(case side2 => exact (Kd.R_reads' HO_8.out).2.1);(case side3 => exact Go.Proofs.YtmkaknegjahjaaaDoor.Sha.glob_below hG_ (by repeat (first|(with_reducible first|exact HB.out|apply qd6|apply qe6|apply qf6)|exact HB.out)));rintro e w85 ⟨rfl,hb⟩;refine ⟨_,rfl,?_⟩;have n0_:=qg6 (qi6 (by (with_reducible repeat (first|apply qa6|apply qb6|apply qc6));exact HO_8.out) hb);have n1_:=qg6 (qi6 (by (with_reducible repeat (first|apply qa6|apply qb6|apply qc6));exact HO_9.out) hb);have n2_:=qg6 (qh6 (by repeat (first|(with_reducible first|exact HB.out|apply qd6|apply qe6|apply qf6)|exact HB.out)) hb);clear HO_8;clear HO_9;clear HB;have HO_8:=n0_;have HO_9:=n1_;have HB:=n2_;clear n0_ n1_ n2_;(try clear hb);(try clear hb2);(try clear hk);(try clear hi)))
                      go_ret
                      exact ⟨by first|rfl|(simp [errW_none,errW_some] <;> rfl)|(simp [*,errW_none,errW_some] <;> rfl),by repeat (first|(with_reducible first|exact HB.out|apply qd6|apply qe6|apply qf6)|exact HB.out)⟩
                    ·
                     rw [if_neg c76] at H
                     have c76b0 : decide (t250 ≤ t251) = false:=decide_eq_false c76
                     clear c76
                     obtain rfl:=Option.some.inj H
                     exact absurd hr_ (by decide)
                   ·
                    rw [if_neg c75] at H
                    have c75b0 : (t252 == 0) = false:=beq_eq_false_iff_ne.mpr c75
                    have c75b1 : (t252 != 0) = true:=bne_iff_ne.mpr c75
                    obtain rfl:=Option.some.inj H
                    exact absurd hr_ (by decide)
                  ·
                   rw [if_neg c74] at H
                   have c74b0 : decide (t246 ≤ x18_4) = false:=decide_eq_false c74
                   clear c74
                   obtain rfl:=Option.some.inj H
                   exact absurd hr_ (by decide)
                 ·
                  rw [if_neg c73] at H
                  have c73b0 : decide (x17_4 ≤ t246) = false:=decide_eq_false c73
                  clear c73
                  obtain rfl:=Option.some.inj H
                  exact absurd hr_ (by decide)
                ·
                 rw [if_neg c72] at H
                 have c72b0 : (t246 == t248) = false:=beq_eq_false_iff_ne.mpr c72
                 have c72b1 : (t246 != t248) = true:=bne_iff_ne.mpr c72
                 obtain rfl:=Option.some.inj H
                 exact absurd hr_ (by decide)
               ·
                rw [if_neg c71] at H
                have c71b0 : (t247 == 0) = false:=beq_eq_false_iff_ne.mpr c71
                have c71b1 : (t247 != 0) = true:=bne_iff_ne.mpr c71
                obtain rfl:=Option.some.inj H
                exact absurd hr_ (by decide)
     ·
      rw [if_neg c8] at H
      exact absurd H (by simp)
    ·
     rw [if_neg c7] at H
     exact absurd H (by simp)

end Go.Proofs.YtmkaknegjahjaaaDoor.PFnAgreed
