-- laid by this session's program myprint.py over the kit's printer
-- squeezed
-- aliased
import Derived.Test.YtmkaknegjahjaaaDoorPFnLamportx0
import Derived.Test.YtmkaknegjahjaaaDoorPFnLamportx1
import Derived.Test.YtmkaknegjahjaaaDoorPFnLamportx10
namespace Go.Proofs.YtmkaknegjahjaaaDoor.PFnLamport
open Go.RowKit Go.Proofs.YtmkaknegjahjaaaDoorV.PrintWords Go.Proofs.YtmkaknegjahjaaaDoorV.PrintLast Go.Proofs.YtmkaknegjahjaaaDoorV.PrintMore
attribute [local go_sem] max2_int min2_int max_two min_two max_three min_three max_four min_four u8_wm u32_wm   -- for this text's walks alone
set_option linter.unusedVariables false
set_option linter.unusedSimpArgs false

/-! ### spec_CheckSignature: function 32 -/
theorem qa11 : type_of% @below_alloc:=@below_alloc
theorem qb11 : type_of% @pw_below_drewN:=@pw_below_drewN
theorem qc11 : type_of% @below_drew1:=@below_drew1
theorem qd11 : type_of% @below_set:=@below_set
theorem qe11 : type_of% @Aside0.mk:=@Aside0.mk
mutual
def spec_CheckSignature.j0 : Nat → ByteArray → ByteArray → Bool → Int → List ByteArray → List ByteArray → List ByteArray → Option (Int)
 | 0,_,_,_,_,_,_,_ => none
 | k + 1,x0,x1,x21,x342000,x342001,x342002,x342003 => if x21 = true then (some 2) else (if (x0.size : Int) = 32 then ((spec_l03Hashes.f k x342001 32).bind fun t342 => (if t342 = true then ((spec_l03Hashes.f k x342002 32).bind fun t343 => (if t343 = true then ((spec_l03Hashes.f k x342003 3).bind fun t344 => (spec_CheckSignature.j1 k x0 x1 (!t344) x342000 x342001 x342002 x342003)) else (spec_CheckSignature.j1 k x0 x1 true x342000 x342001 x342002 x342003))) else (spec_CheckSignature.j1 k x0 x1 true x342000 x342001 x342002 x342003))) else (spec_CheckSignature.j1 k x0 x1 true x342000 x342001 x342002 x342003))
def spec_CheckSignature.j1 : Nat → ByteArray → ByteArray → Bool → Int → List ByteArray → List ByteArray → List ByteArray → Option (Int)
 | 0,_,_,_,_,_,_,_ => none
 | k + 1,x0,x1,x42,x342000,x342001,x342002,x342003 => if x42 = true then (some 1) else ((spec_l01In.f x342000 0 7).bind fun t345 => (if t345 = true then ((spec_l03Bits.f k x1).bind fun t346 => (spec_CheckSignature.l0 k x0 t346 (([107,101,121] : List Int)) 0 x342000 x342001 x342002 x342003)) else (some 4)))
def spec_CheckSignature.l0 : Nat → ByteArray → ByteArray → List Int → Int → Int → List ByteArray → List ByteArray → List ByteArray → Option (Int)
 | 0,_,_,_,_,_,_,_,_ => none
 | k + 1,x0,x7,x8,x9,x342000,x342001,x342002,x342003 => if x9 < 32 then (if 0 ≤ x9 then (if x9 < (x342001.length : Int) then (if (rdOf ByteArray.empty x342001 x9).size ≤ 9223372036854775807 then ((spec_l01Hash.f (bytesOf (rdOf ByteArray.empty x342001 x9))).bind fun t354 => (if x9 < (x7.size : Int) then (if (bt x7 x9) = 48 then (if x8.length + t354.size < 140737488355328 then ((some (x8 ++ bytesOf t354 : List Int)).bind fun y355 => (if x9 < (x342002.length : Int) then (if y355.length + (rdOf ByteArray.empty x342002 x9).size < 140737488355328 then (spec_CheckSignature.l0 k x0 x7 (y355 ++ bytesOf (rdOf ByteArray.empty x342002 x9)) (wrap64 (x9 + 1)) x342000 x342001 x342002 x342003) else (none)) else (none))) else (none)) else (if x9 < (x342002.length : Int) then (if x8.length + (rdOf ByteArray.empty x342002 x9).size < 140737488355328 then ((some (x8 ++ bytesOf (rdOf ByteArray.empty x342002 x9) : List Int)).bind fun y363 => (if y363.length + t354.size < 140737488355328 then (spec_CheckSignature.l0 k x0 x7 (y363 ++ bytesOf t354) (wrap64 (x9 + 1)) x342000 x342001 x342002 x342003) else (none))) else (none)) else (none))) else (none))) else (none)) else (none)) else (none)) else ((spec_l01Hash.f x8).bind fun t369 => (spec_CheckSignature.l1 k x0 t369 x342000 0 x342000 x342001 x342002 x342003))
def spec_CheckSignature.l1 : Nat → ByteArray → ByteArray → Int → Int → Int → List ByteArray → List ByteArray → List ByteArray → Option (Int)
 | 0,_,_,_,_,_,_,_,_ => none
 | k + 1,x0,x11,x12,x13,x342000,x342001,x342002,x342003 => if x13 < 3 then (if (Int.tmod x12 2) = 0 then (if 0 ≤ x13 then (if x13 < (x342003.length : Int) then ((spec_l03Node.f x11 (rdOf ByteArray.empty x342003 x13)).bind fun t371 => (spec_CheckSignature.l1 k x0 t371 (wrap64 (Int.tdiv x12 2)) (wrap64 (x13 + 1)) x342000 x342001 x342002 x342003)) else (none)) else (none)) else (if 0 ≤ x13 then (if x13 < (x342003.length : Int) then ((spec_l03Node.f (rdOf ByteArray.empty x342003 x13) x11).bind fun t373 => (spec_CheckSignature.l1 k x0 t373 (wrap64 (Int.tdiv x12 2)) (wrap64 (x13 + 1)) x342000 x342001 x342002 x342003)) else (none)) else (none))) else (if x11.toList = x0.toList then (some 0) else (some 12))
end
def spec_CheckSignature.f (k : Nat) (a0 : ByteArray) (a1 : ByteArray) (a2_0 : Int) (l2_1 : List ByteArray) (l2_2 : List ByteArray) (l2_3 : List ByteArray) : Option (Int):=if (a1.size : Int) > 65530 then (spec_CheckSignature.j0 k a0 a1 true a2_0 l2_1 l2_2 l2_3) else (spec_CheckSignature.j0 k a0 a1 (decide ((a0.size : Int) > 65536)) a2_0 l2_1 l2_2 l2_3)
theorem spec_CheckSignature.mono_l : ∀ k,(∀ y0 y1 y2 y3 y4 y5 y6,LeO (spec_CheckSignature.j0 k y0 y1 y2 y3 y4 y5 y6) (spec_CheckSignature.j0 (k + 1) y0 y1 y2 y3 y4 y5 y6)) ∧ (∀ y0 y1 y2 y3 y4 y5 y6,LeO (spec_CheckSignature.j1 k y0 y1 y2 y3 y4 y5 y6) (spec_CheckSignature.j1 (k + 1) y0 y1 y2 y3 y4 y5 y6)) ∧ (∀ y0 y1 y2 y3 y4 y5 y6 y7,LeO (spec_CheckSignature.l0 k y0 y1 y2 y3 y4 y5 y6 y7) (spec_CheckSignature.l0 (k + 1) y0 y1 y2 y3 y4 y5 y6 y7)) ∧ (∀ y0 y1 y2 y3 y4 y5 y6 y7,LeO (spec_CheckSignature.l1 k y0 y1 y2 y3 y4 y5 y6 y7) (spec_CheckSignature.l1 (k + 1) y0 y1 y2 y3 y4 y5 y6 y7))
 | 0 => ⟨fun _ _ _ _ _ _ _ r h => by simp [spec_CheckSignature.j0] at h,fun _ _ _ _ _ _ _ r h => by simp [spec_CheckSignature.j1] at h,fun _ _ _ _ _ _ _ _ r h => by simp [spec_CheckSignature.l0] at h,fun _ _ _ _ _ _ _ _ r h => by simp [spec_CheckSignature.l1] at h⟩
 | k + 1 => by
  obtain ⟨ih0,ih1,ih2,ih3⟩:=spec_CheckSignature.mono_l k
  refine ⟨?_,?_,?_,?_⟩
  ·
   intro y0 y1 y2 y3 y4 y5 y6
   unfold spec_CheckSignature.j0
   repeat' first
   | (with_reducible exact ih0 _ _ _ _ _ _ _)
   | (with_reducible exact ih1 _ _ _ _ _ _ _)
   | (with_reducible exact ih2 _ _ _ _ _ _ _ _)
   | (with_reducible exact ih3 _ _ _ _ _ _ _ _)
   | (with_reducible exact spec_l03Bits.mono _ _)
   | (with_reducible exact spec_l03Hashes.mono _ _ _)
   | (with_reducible exact LeO.refl _)
   | (with_reducible exact LeO.none _)
   | (with_reducible refine LeO.ite ?_ ?_)
   | (with_reducible refine LeO.bind ?_ (fun _ => ?_))
   | exact ih0 _ _ _ _ _ _ _
   | exact ih1 _ _ _ _ _ _ _
   | exact ih2 _ _ _ _ _ _ _ _
   | exact ih3 _ _ _ _ _ _ _ _
   | exact spec_l03Bits.mono _ _
   | exact spec_l03Hashes.mono _ _ _
   | exact LeO.none _
   | refine LeO.ite ?_ ?_
   | refine LeO.bind ?_ (fun _ => ?_)
  ·
   intro y0 y1 y2 y3 y4 y5 y6
   unfold spec_CheckSignature.j1
   repeat' first
   | (with_reducible exact ih0 _ _ _ _ _ _ _)
   | (with_reducible exact ih1 _ _ _ _ _ _ _)
   | (with_reducible exact ih2 _ _ _ _ _ _ _ _)
   | (with_reducible exact ih3 _ _ _ _ _ _ _ _)
   | (with_reducible exact spec_l03Bits.mono _ _)
   | (with_reducible exact spec_l03Hashes.mono _ _ _)
   | (with_reducible exact LeO.refl _)
   | (with_reducible exact LeO.none _)
   | (with_reducible refine LeO.ite ?_ ?_)
   | (with_reducible refine LeO.bind ?_ (fun _ => ?_))
   | exact ih0 _ _ _ _ _ _ _
   | exact ih1 _ _ _ _ _ _ _
   | exact ih2 _ _ _ _ _ _ _ _
   | exact ih3 _ _ _ _ _ _ _ _
   | exact spec_l03Bits.mono _ _
   | exact spec_l03Hashes.mono _ _ _
   | exact LeO.none _
   | refine LeO.ite ?_ ?_
   | refine LeO.bind ?_ (fun _ => ?_)
  ·
   intro y0 y1 y2 y3 y4 y5 y6 y7
   unfold spec_CheckSignature.l0
   repeat' first
   | (with_reducible exact ih0 _ _ _ _ _ _ _)
   | (with_reducible exact ih1 _ _ _ _ _ _ _)
   | (with_reducible exact ih2 _ _ _ _ _ _ _ _)
   | (with_reducible exact ih3 _ _ _ _ _ _ _ _)
   | (with_reducible exact spec_l03Bits.mono _ _)
   | (with_reducible exact spec_l03Hashes.mono _ _ _)
   | (with_reducible exact LeO.refl _)
   | (with_reducible exact LeO.none _)
   | (with_reducible refine LeO.ite ?_ ?_)
   | (with_reducible refine LeO.bind ?_ (fun _ => ?_))
   | exact ih0 _ _ _ _ _ _ _
   | exact ih1 _ _ _ _ _ _ _
   | exact ih2 _ _ _ _ _ _ _ _
   | exact ih3 _ _ _ _ _ _ _ _
   | exact spec_l03Bits.mono _ _
   | exact spec_l03Hashes.mono _ _ _
   | exact LeO.none _
   | refine LeO.ite ?_ ?_
   | refine LeO.bind ?_ (fun _ => ?_)
  ·
   intro y0 y1 y2 y3 y4 y5 y6 y7
   unfold spec_CheckSignature.l1
   repeat' first
   | (with_reducible exact ih0 _ _ _ _ _ _ _)
   | (with_reducible exact ih1 _ _ _ _ _ _ _)
   | (with_reducible exact ih2 _ _ _ _ _ _ _ _)
   | (with_reducible exact ih3 _ _ _ _ _ _ _ _)
   | (with_reducible exact spec_l03Bits.mono _ _)
   | (with_reducible exact spec_l03Hashes.mono _ _ _)
   | (with_reducible exact LeO.refl _)
   | (with_reducible exact LeO.none _)
   | (with_reducible refine LeO.ite ?_ ?_)
   | (with_reducible refine LeO.bind ?_ (fun _ => ?_))
   | exact ih0 _ _ _ _ _ _ _
   | exact ih1 _ _ _ _ _ _ _
   | exact ih2 _ _ _ _ _ _ _ _
   | exact ih3 _ _ _ _ _ _ _ _
   | exact spec_l03Bits.mono _ _
   | exact spec_l03Hashes.mono _ _ _
   | exact LeO.none _
   | refine LeO.ite ?_ ?_
   | refine LeO.bind ?_ (fun _ => ?_)
theorem spec_CheckSignature.mono : ∀ a0 a1 a2 a3 a4 a5 k,LeO (spec_CheckSignature.f k a0 a1 a2 a3 a4 a5) (spec_CheckSignature.f (k + 1) a0 a1 a2 a3 a4 a5):=by
 intro a0 a1 a2 a3 a4 a5 k
 obtain ⟨ih0,ih1,ih2,ih3⟩:=spec_CheckSignature.mono_l k
 unfold spec_CheckSignature.f
 repeat' first
   | (with_reducible exact ih0 _ _ _ _ _ _ _)
   | (with_reducible exact ih1 _ _ _ _ _ _ _)
   | (with_reducible exact ih2 _ _ _ _ _ _ _ _)
   | (with_reducible exact ih3 _ _ _ _ _ _ _ _)
   | (with_reducible exact spec_l03Bits.mono _ _)
   | (with_reducible exact spec_l03Hashes.mono _ _ _)
   | (with_reducible exact LeO.refl _)
   | (with_reducible exact LeO.none _)
   | (with_reducible refine LeO.ite ?_ ?_)
   | (with_reducible refine LeO.bind ?_ (fun _ => ?_))
   | exact ih0 _ _ _ _ _ _ _
   | exact ih1 _ _ _ _ _ _ _
   | exact ih2 _ _ _ _ _ _ _ _
   | exact ih3 _ _ _ _ _ _ _ _
   | exact spec_l03Bits.mono _ _
   | exact spec_l03Hashes.mono _ _ _
   | exact LeO.none _
   | refine LeO.ite ?_ ?_
   | refine LeO.bind ?_ (fun _ => ?_)
def spec_CheckSignature.T14 : Bool × List (List Nat × List Nat):=(true,[([],[]),([],[]),([0,1],[0,1]),([],[]),([3],[3]),([],[]),([4,5],[4,5]),([6],[6]),([2,7,2],[2,7]),([8,8,0,1,2,3,4,5,6,7,8],[0,8])])
def spec_CheckSignature.B14 : List Nat:=[0,0,3,0,8,0,56,120,255,511]
theorem spec_CheckSignature.tab14 : rtab .any (opsOf Tryd.f32 14) = spec_CheckSignature.T14:=by kernel_rfl
theorem spec_CheckSignature.bits14 : waitsOk spec_CheckSignature.T14.2 spec_CheckSignature.B14 = true:=by kernel_rfl
set_option maxHeartbeats 8000000 in
set_option maxRecDepth 100000 in
theorem spec_CheckSignature.calls (k : Nat) (a0 : ByteArray) (a1 : ByteArray) (a2_0 : Int) (A2_1 : Option Addr) (c2_1 : Nat) (l2_1 : List ByteArray) (A2_2 : Option Addr) (c2_2 : Nat) (l2_2 : List ByteArray) (A2_3 : Option Addr) (c2_3 : Nat) (l2_3 : List ByteArray) (r : Int) (w : World) (hr2_1 : Kd.C Kd.string w A2_1 l2_1.length l2_1) (hc2_1 : l2_1.length ≤ c2_1) (hr2_2 : Kd.C Kd.string w A2_2 l2_2.length l2_2) (hc2_2 : l2_2.length ≤ c2_2) (hr2_3 : Kd.C Kd.string w A2_3 l2_3.length l2_3) (hc2_3 : l2_3.length ≤ c2_3) (h : spec_CheckSignature.f k a0 a1 a2_0 l2_1 l2_2 l2_3 = some r) :
  Calls Tryd.prog 32 #[.string a0,.string a1,.agg #[.int .i64 a2_0,.slice A2_1 l2_1.length c2_1,.slice A2_2 l2_2.length c2_2,.slice A2_3 l2_3.length c2_3]] w fun e w' => e = .returned (.int .i64 r) ∧ Below w.heap.size w w':=by
 have hu33:=Tryd.underlying33
 have HR2_1:=qe11 hr2_1
 have HC2_1:=qe11 hc2_1
 clear hr2_1 hc2_1
 have HR2_2:=qe11 hr2_2
 have HC2_2:=qe11 hc2_2
 clear hr2_2 hc2_2
 have HR2_3:=qe11 hr2_3
 have HC2_3:=qe11 hc2_3
 clear hr2_3 hc2_3
 have HB:=qe11 (Below.refl w.heap.size w)
 have H : (if (a1.size : Int) > 65530 then (spec_CheckSignature.j0 k a0 a1 true a2_0 l2_1 l2_2 l2_3) else (spec_CheckSignature.j0 k a0 a1 (decide ((a0.size : Int) > 65536)) a2_0 l2_1 l2_2 l2_3)) = some r:=h
 clear h
 have HC4:=qe11 H
 clear H
 go_enter Tryd.func32,Tryd.ntmps32
 go_upto_region 1 with (first|((with_reducible refine gate_dst (N:=5) rfl ?_);refine box_event ?hg (N:=5) ?hd (cs:=#[.int .i64 a2_0,.slice A2_1 l2_1.length c2_1,.slice A2_2 l2_2.length c2_2,.slice A2_3 l2_3.length c2_3]) (t:=33) ?hr ?_;(case hd => rfl);(case hg => rfl);(case hr => first|(go_simp;done)|(go_simp;rfl));intro gb341 hg w5 hbox hb;have n0_:=qe11 (below_step (by repeat (first|(with_reducible first|exact HB.out|apply qa11|apply qb11|apply qc11)|exact HB.out)) hb);have n1_:=qe11 (hbox);have n2_:=qe11 ((by rw [hg];exact (below_size (by repeat (first|(with_reducible first|exact HB.out|apply qa11|apply qb11|apply qc11)|exact HB.out))) : w.heap.size ≤ gb341));have n3_:=qe11 ((by rw [hg];exact (below_size (by repeat (first|(with_reducible first|exact HB.out|apply qa11|apply qb11|apply qc11)|exact HB.out))) : w.heap.size ≤ gb341));clear HB;have HB:=n0_;have BK341:=n1_;have GW341:=n2_;have GE341:=n3_;clear n0_ n1_ n2_ n3_;clear hb hbox hg))
 (try simp only [Act.put,List.setIfInBounds_toArray,List.set_cons_zero,List.set_cons_succ])
 go_cut [21] (fun v21 wc => ∃ (kq : Nat) (x21_3 : Bool),v21 = .bool x21_3 ∧ Aside0 (spec_CheckSignature.j0 kq a0 a1 x21_3 a2_0 l2_1 l2_2 l2_3 = some r) ∧ Aside0 (kq ≤ k) ∧ Aside0 (wc.heap[gb341]? = some (.cells #[.int .i64 a2_0,(.slice A2_1 l2_1.length c2_1),(.slice A2_2 l2_2.length c2_2),(.slice A2_3 l2_3.length c2_3)] 33 (0,0))) ∧ Aside0 (Below w.heap.size w wc))
 case first =>
  have H:=HC4.out
  clear HC4
  by_cases c6 : (a1.size : Int) > 65530
  ·
   rw [if_pos c6] at H
   have c6b0 : decide (65530 < (a1.size : Int)) = true:=decide_eq_true c6
   have c6b1 : decide (65530 < a1.size) = true:=decide_eq_true (by omega)
   clear c6
   (first|rw [c6b0]|(simp only [i64_w,i32_w];rw [c6b0])|skip)
   have H':=qe11 H
   clear H
   go_wp2
   go_meet
   case rel => exact ⟨_,(true),(by first|rfl|(simp;done)|(simp [*];done)),H',⟨by first|omega|exact Nat.le_refl _⟩,⟨by (with_reducible repeat (first|apply blk_drewN|apply blk_drew|apply blk_alloc));exact BK341.out⟩,⟨by repeat (first|(with_reducible first|exact HB.out|apply qa11|apply qb11|apply qc11|refine qd11 ?_ GE341.out)|exact HB.out)⟩⟩
  ·
   rw [if_neg c6] at H
   have c6b0 : decide (65530 < (a1.size : Int)) = false:=decide_eq_false c6
   have c6b1 : decide (65530 < a1.size) = false:=decide_eq_false (by omega)
   clear c6
   (first|rw [c6b0]|(simp only [i64_w,i32_w];rw [c6b0])|skip)
   have H':=qe11 H
   clear H
   go_wp2
   go_meet
   case rel => exact ⟨_,(decide ((a0.size : Int) > 65536)),(by first|rfl|(simp;done)|(simp [*];done)),H',⟨by first|omega|exact Nat.le_refl _⟩,⟨by (with_reducible repeat (first|apply blk_drewN|apply blk_drew|apply blk_alloc));exact BK341.out⟩,⟨by repeat (first|(with_reducible first|exact HB.out|apply qa11|apply qb11|apply qc11|refine qd11 ?_ GE341.out)|exact HB.out)⟩⟩
 case rest =>
  clear HC4
  try clear c2
  try clear p2
  try clear c3
  try clear c6
  try clear c6b0
  try clear c6b1
  obtain ⟨kq,x21_3,rfl,HA,HJ3,BK341,HB⟩:=hcut
  cases kq with
  | zero => exact absurd HA.out (by simp [spec_CheckSignature.j0])
  | succ kj3 =>
   have H:=HA.out
   clear HA
   simp only [spec_CheckSignature.j0] at H
   by_cases c7 : x21_3 = true
   ·
    subst c7
    have H1 : (some 2) = some r:=by rw [if_pos rfl] at H;exact H
    clear H
    have H:=H1
    clear H1
    obtain rfl:=Option.some.inj H
    go_wp2
    go_ret
    exact ⟨by first|rfl|(simp [errW_none,errW_some] <;> rfl)|(simp [*,errW_none,errW_some] <;> rfl),by repeat (first|(with_reducible first|exact HB.out|apply qa11|apply qb11|apply qc11|refine qd11 ?_ GE341.out)|exact HB.out)⟩
   ·
    replace c7:=Bool.eq_false_iff.mpr c7
    subst c7
    have H1 : (if (a0.size : Int) = 32 then ((spec_l03Hashes.f kj3 l2_1 32).bind fun t342 => (if t342 = true then ((spec_l03Hashes.f kj3 l2_2 32).bind fun t343 => (if t343 = true then ((spec_l03Hashes.f kj3 l2_3 3).bind fun t344 => (spec_CheckSignature.j1 kj3 a0 a1 (!t344) a2_0 l2_1 l2_2 l2_3)) else (spec_CheckSignature.j1 kj3 a0 a1 true a2_0 l2_1 l2_2 l2_3))) else (spec_CheckSignature.j1 kj3 a0 a1 true a2_0 l2_1 l2_2 l2_3))) else (spec_CheckSignature.j1 kj3 a0 a1 true a2_0 l2_1 l2_2 l2_3)) = some r:=by rw [if_neg (show ¬ (false = true) by decide)] at H;exact H
    clear H
    have H:=H1
    clear H1
    have HC8:=qe11 H
    clear H
    go_upto_region 3 with (fail)
    go_cut [42] (fun v42 wc => ∃ (kq : Nat) (x42_7 : Bool),v42 = .bool x42_7 ∧ Aside0 (spec_CheckSignature.j1 kq a0 a1 x42_7 a2_0 l2_1 l2_2 l2_3 = some r) ∧ Aside0 (kq ≤ kj3) ∧ Aside0 (wc.heap[gb341]? = some (.cells #[.int .i64 a2_0,(.slice A2_1 l2_1.length c2_1),(.slice A2_2 l2_2.length c2_2),(.slice A2_3 l2_3.length c2_3)] 33 (0,0))) ∧ Aside0 (Below w.heap.size w wc))
    case first =>
     have H:=HC8.out
     clear HC8
     by_cases c9 : (a0.size : Int) = 32
     ·
      rw [if_pos c9] at H
      have c9b0 : ((a0.size : Int) == 32) = true:=beq_iff_eq.mpr c9
      have c9b1 : ((a0.size : Int) != 32) = false:=bne_eq_false_iff_eq.mpr c9
      clear c9
      (first|rw [c9b0]|(simp only [i64_w,i32_w];rw [c9b0])|skip)
      replace H:=Option.bind_eq_some_iff.mp H
      obtain ⟨t342,A100,H⟩:=H
      replace H : (if t342 = true then ((spec_l03Hashes.f kj3 l2_2 32).bind fun t343 => (if t343 = true then ((spec_l03Hashes.f kj3 l2_3 3).bind fun t344 => (spec_CheckSignature.j1 kj3 a0 a1 (!t344) a2_0 l2_1 l2_2 l2_3)) else (spec_CheckSignature.j1 kj3 a0 a1 true a2_0 l2_1 l2_2 l2_3))) else (spec_CheckSignature.j1 kj3 a0 a1 true a2_0 l2_1 l2_2 l2_3)) = some r:=H
      have A10:=qe11 A100
      clear A100
      by_cases c11 : t342 = true
      ·
       subst c11
       have H1 : ((spec_l03Hashes.f kj3 l2_2 32).bind fun t343 => (if t343 = true then ((spec_l03Hashes.f kj3 l2_3 3).bind fun t344 => (spec_CheckSignature.j1 kj3 a0 a1 (!t344) a2_0 l2_1 l2_2 l2_3)) else (spec_CheckSignature.j1 kj3 a0 a1 true a2_0 l2_1 l2_2 l2_3))) = some r:=by rw [if_pos rfl] at H;exact H
       clear H
       have H:=H1
       clear H1
       replace H:=Option.bind_eq_some_iff.mp H
       obtain ⟨t343,A120,H⟩:=H
       replace H : (if t343 = true then ((spec_l03Hashes.f kj3 l2_3 3).bind fun t344 => (spec_CheckSignature.j1 kj3 a0 a1 (!t344) a2_0 l2_1 l2_2 l2_3)) else (spec_CheckSignature.j1 kj3 a0 a1 true a2_0 l2_1 l2_2 l2_3)) = some r:=H
       have A12:=qe11 A120
       clear A120
       by_cases c13 : t343 = true
       ·
        subst c13
        have H1 : ((spec_l03Hashes.f kj3 l2_3 3).bind fun t344 => (spec_CheckSignature.j1 kj3 a0 a1 (!t344) a2_0 l2_1 l2_2 l2_3)) = some r:=by rw [if_pos rfl] at H;exact H
        clear H
        have H:=H1
        clear H1
        replace H:=Option.bind_eq_some_iff.mp H
        obtain ⟨t344,A140,H⟩:=H
        replace H : (spec_CheckSignature.j1 kj3 a0 a1 (!t344) a2_0 l2_1 l2_2 l2_3) = some r:=H
        have A14:=qe11 A140
        clear A140
        have H':=qe11 H
        clear H
        have hcz15_0 : wc.cell? ⟨gb341,0,none⟩ = some (.int .i64 a2_0):=(blk_cell BK341.out 0).trans rfl
        have hcz15_1 : wc.cell? ⟨gb341,1,none⟩ = some (.slice A2_1 l2_1.length c2_1):=(blk_cell BK341.out 1).trans rfl
        have hcz15_2 : wc.cell? ⟨gb341,2,none⟩ = some (.slice A2_2 l2_2.length c2_2):=(blk_cell BK341.out 2).trans rfl
        have hcz15_3 : wc.cell? ⟨gb341,3,none⟩ = some (.slice A2_3 l2_3.length c2_3):=(blk_cell BK341.out 3).trans rfl
        have hfz15_0:=blk_frozen BK341.out 0
        have hfz15_1:=blk_frozen BK341.out 1
        have hfz15_2:=blk_frozen BK341.out 2
        have hfz15_3:=blk_frozen BK341.out 3
        go_wp2_with (first|(go_at_call 75;(with_reducible refine (spec_l03Hashes.calls kj3 _ _ l2_1 32 true _ ?side1 ?side2 A10.out).mono ?_);(case side1 => repeat (first|exact (Kd.C_below HR2_1.out HB.out)|(with_reducible refine Kd.C_alloc ?_ _)|(with_reducible refine Kd.C_drewN ?_ _)|(with_reducible refine Kd.C_drew ?_)));(case side2 => exact HC2_1.out);rintro e w' ⟨rfl,⟨nd,rfl⟩⟩)|(go_at_call 75;(with_reducible refine (spec_l03Hashes.calls kj3 _ _ l2_2 32 true _ ?side1 ?side2 A12.out).mono ?_);(case side1 => repeat (first|exact (Kd.C_below HR2_2.out (by repeat (first|(with_reducible first|exact HB.out|apply qa11|apply qb11|apply qc11|refine qd11 ?_ GE341.out)|exact HB.out)))|(with_reducible refine Kd.C_alloc ?_ _)|(with_reducible refine Kd.C_drewN ?_ _)|(with_reducible refine Kd.C_drew ?_)));(case side2 => exact HC2_2.out);rintro e w' ⟨rfl,⟨nd,rfl⟩⟩)|(go_at_call 75;(with_reducible refine (spec_l03Hashes.calls kj3 _ _ l2_3 3 t344 _ ?side1 ?side2 A14.out).mono ?_);(case side1 => repeat (first|exact (Kd.C_below HR2_3.out (by repeat (first|(with_reducible first|exact HB.out|apply qa11|apply qb11|apply qc11|refine qd11 ?_ GE341.out)|exact HB.out)))|(with_reducible refine Kd.C_alloc ?_ _)|(with_reducible refine Kd.C_drewN ?_ _)|(with_reducible refine Kd.C_drew ?_)));(case side2 => exact HC2_3.out);rintro e w' ⟨rfl,⟨nd,rfl⟩⟩))
        go_meet
        case rel => exact ⟨_,(!t344),(by first|rfl|(simp;done)|(simp [*];done)),H',⟨by have:=HJ3.out;first|omega|exact Nat.le_refl _⟩,⟨by (with_reducible repeat (first|apply blk_drewN|apply blk_drew|apply blk_alloc));exact BK341.out⟩,⟨by repeat (first|(with_reducible first|exact HB.out|apply qa11|apply qb11|apply qc11|refine qd11 ?_ GE341.out)|exact HB.out)⟩⟩
       ·
        replace c13:=Bool.eq_false_iff.mpr c13
        subst c13
        have H1 : (spec_CheckSignature.j1 kj3 a0 a1 true a2_0 l2_1 l2_2 l2_3) = some r:=by rw [if_neg (show ¬ (false = true) by decide)] at H;exact H
        clear H
        have H:=H1
        clear H1
        have H':=qe11 H
        clear H
        have hcz16_0 : wc.cell? ⟨gb341,0,none⟩ = some (.int .i64 a2_0):=(blk_cell BK341.out 0).trans rfl
        have hcz16_1 : wc.cell? ⟨gb341,1,none⟩ = some (.slice A2_1 l2_1.length c2_1):=(blk_cell BK341.out 1).trans rfl
        have hcz16_2 : wc.cell? ⟨gb341,2,none⟩ = some (.slice A2_2 l2_2.length c2_2):=(blk_cell BK341.out 2).trans rfl
        have hcz16_3 : wc.cell? ⟨gb341,3,none⟩ = some (.slice A2_3 l2_3.length c2_3):=(blk_cell BK341.out 3).trans rfl
        have hfz16_0:=blk_frozen BK341.out 0
        have hfz16_1:=blk_frozen BK341.out 1
        have hfz16_2:=blk_frozen BK341.out 2
        have hfz16_3:=blk_frozen BK341.out 3
        go_wp2_with (first|(go_at_call 75;(with_reducible refine (spec_l03Hashes.calls kj3 _ _ l2_1 32 true _ ?side1 ?side2 A10.out).mono ?_);(case side1 => repeat (first|exact (Kd.C_below HR2_1.out HB.out)|(with_reducible refine Kd.C_alloc ?_ _)|(with_reducible refine Kd.C_drewN ?_ _)|(with_reducible refine Kd.C_drew ?_)));(case side2 => exact HC2_1.out);rintro e w' ⟨rfl,⟨nd,rfl⟩⟩)|(go_at_call 75;(with_reducible refine (spec_l03Hashes.calls kj3 _ _ l2_2 32 false _ ?side1 ?side2 A12.out).mono ?_);(case side1 => repeat (first|exact (Kd.C_below HR2_2.out (by repeat (first|(with_reducible first|exact HB.out|apply qa11|apply qb11|apply qc11|refine qd11 ?_ GE341.out)|exact HB.out)))|(with_reducible refine Kd.C_alloc ?_ _)|(with_reducible refine Kd.C_drewN ?_ _)|(with_reducible refine Kd.C_drew ?_)));(case side2 => exact HC2_2.out);rintro e w' ⟨rfl,⟨nd,rfl⟩⟩))
        go_meet
        case rel => exact ⟨_,(true),(by first|rfl|(simp;done)|(simp [*];done)),H',⟨by have:=HJ3.out;first|omega|exact Nat.le_refl _⟩,⟨by (with_reducible repeat (first|apply blk_drewN|apply blk_drew|apply blk_alloc));exact BK341.out⟩,⟨by repeat (first|(with_reducible first|exact HB.out|apply qa11|apply qb11|apply qc11|refine qd11 ?_ GE341.out)|exact HB.out)⟩⟩
      ·
       replace c11:=Bool.eq_false_iff.mpr c11
       subst c11
       have H1 : (spec_CheckSignature.j1 kj3 a0 a1 true a2_0 l2_1 l2_2 l2_3) = some r:=by rw [if_neg (show ¬ (false = true) by decide)] at H;exact H
       clear H
       have H:=H1
       clear H1
       have H':=qe11 H
       clear H
       have hcz17_0 : wc.cell? ⟨gb341,0,none⟩ = some (.int .i64 a2_0):=(blk_cell BK341.out 0).trans rfl
       have hcz17_1 : wc.cell? ⟨gb341,1,none⟩ = some (.slice A2_1 l2_1.length c2_1):=(blk_cell BK341.out 1).trans rfl
       have hcz17_2 : wc.cell? ⟨gb341,2,none⟩ = some (.slice A2_2 l2_2.length c2_2):=(blk_cell BK341.out 2).trans rfl
       have hcz17_3 : wc.cell? ⟨gb341,3,none⟩ = some (.slice A2_3 l2_3.length c2_3):=(blk_cell BK341.out 3).trans rfl
       have hfz17_0:=blk_frozen BK341.out 0
       have hfz17_1:=blk_frozen BK341.out 1
       have hfz17_2:=blk_frozen BK341.out 2
       have hfz17_3:=blk_frozen BK341.out 3
       go_wp2_with (first|(go_at_call 75;(with_reducible refine (spec_l03Hashes.calls kj3 _ _ l2_1 32 false _ ?side1 ?side2 A10.out).mono ?_);(case side1 => repeat (first|exact (Kd.C_below HR2_1.out HB.out)|(with_reducible refine Kd.C_alloc ?_ _)|(with_reducible refine Kd.C_drewN ?_ _)|(with_reducible refine Kd.C_drew ?_)));(case side2 => exact HC2_1.out);rintro e w' ⟨rfl,⟨nd,rfl⟩⟩))
       go_meet
       case rel => exact ⟨_,(true),(by first|rfl|(simp;done)|(simp [*];done)),H',⟨by have:=HJ3.out;first|omega|exact Nat.le_refl _⟩,⟨by (with_reducible repeat (first|apply blk_drewN|apply blk_drew|apply blk_alloc));exact BK341.out⟩,⟨by repeat (first|(with_reducible first|exact HB.out|apply qa11|apply qb11|apply qc11|refine qd11 ?_ GE341.out)|exact HB.out)⟩⟩
     ·
      rw [if_neg c9] at H
      have c9b0 : ((a0.size : Int) == 32) = false:=beq_eq_false_iff_ne.mpr c9
      have c9b1 : ((a0.size : Int) != 32) = true:=bne_iff_ne.mpr c9
      (first|rw [c9b0]|(simp only [i64_w,i32_w];rw [c9b0])|skip)
      have H':=qe11 H
      clear H
      go_wp2
      go_meet
      case rel => exact ⟨_,(true),(by first|rfl|(simp;done)|(simp [*];done)),H',⟨by have:=HJ3.out;first|omega|exact Nat.le_refl _⟩,⟨by (with_reducible repeat (first|apply blk_drewN|apply blk_drew|apply blk_alloc));exact BK341.out⟩,⟨by repeat (first|(with_reducible first|exact HB.out|apply qa11|apply qb11|apply qc11|refine qd11 ?_ GE341.out)|exact HB.out)⟩⟩
    case rest =>
     clear HC8
     try clear c1
     try clear c2
     try clear p2
     try clear c3
     try clear c6
     try clear c6b0
     try clear c6b1
     try clear c7
     try clear c9
     try clear c9b0
     try clear c9b1
     try clear c11
     try clear c13
     try clear hcz15_0
     try clear hcz15_1
     try clear hcz15_2
     try clear hcz15_3
     try clear hcz16_0
     try clear hcz16_1
     try clear hcz16_2
     try clear hcz16_3
     try clear hcz17_0
     try clear hcz17_1
     try clear hcz17_2
     try clear hcz17_3
     try clear hfz15_0
     try clear hfz15_1
     try clear hfz15_2
     try clear hfz15_3
     try clear hfz16_0
     try clear hfz16_1
     try clear hfz16_2
     try clear hfz16_3
     try clear hfz17_0
     try clear hfz17_1
     try clear hfz17_2
     try clear hfz17_3
     try clear p2
     obtain ⟨kq,x42_7,rfl,HA,HJ7,BK341,HB⟩:=hcut
     cases kq with
     | zero => exact absurd HA.out (by simp [spec_CheckSignature.j1])
     | succ kj7 =>
      have H:=HA.out
      clear HA
      simp only [spec_CheckSignature.j1] at H
      by_cases c18 : x42_7 = true
      ·
       subst c18
       have H1 : (some 1) = some r:=by rw [if_pos rfl] at H;exact H
       clear H
       have H:=H1
       clear H1
       obtain rfl:=Option.some.inj H
       go_wp2
       go_ret
       exact ⟨by first|rfl|(simp [errW_none,errW_some] <;> rfl)|(simp [*,errW_none,errW_some] <;> rfl),by repeat (first|(with_reducible first|exact HB.out|apply qa11|apply qb11|apply qc11|refine qd11 ?_ GE341.out)|exact HB.out)⟩
      ·
       replace c18:=Bool.eq_false_iff.mpr c18
       subst c18
       have H1 : ((spec_l01In.f a2_0 0 7).bind fun t345 => (if t345 = true then ((spec_l03Bits.f kj7 a1).bind fun t346 => (spec_CheckSignature.l0 kj7 a0 t346 (([107,101,121] : List Int)) 0 a2_0 l2_1 l2_2 l2_3)) else (some 4))) = some r:=by rw [if_neg (show ¬ (false = true) by decide)] at H;exact H
       clear H
       have H:=H1
       clear H1
       replace H:=Option.bind_eq_some_iff.mp H
       obtain ⟨t345,A190,H⟩:=H
       replace H : (if t345 = true then ((spec_l03Bits.f kj7 a1).bind fun t346 => (spec_CheckSignature.l0 kj7 a0 t346 (([107,101,121] : List Int)) 0 a2_0 l2_1 l2_2 l2_3)) else (some 4)) = some r:=H
       have A19:=qe11 A190
       clear A190
       by_cases c20 : t345 = true
       ·
        subst c20
        have H1 : ((spec_l03Bits.f kj7 a1).bind fun t346 => (spec_CheckSignature.l0 kj7 a0 t346 (([107,101,121] : List Int)) 0 a2_0 l2_1 l2_2 l2_3)) = some r:=by rw [if_pos rfl] at H;exact H
        clear H
        have H:=H1
        clear H1
        replace H:=Option.bind_eq_some_iff.mp H
        obtain ⟨t346,A210,H⟩:=H
        replace H : (spec_CheckSignature.l0 kj7 a0 t346 (([107,101,121] : List Int)) 0 a2_0 l2_1 l2_2 l2_3) = some r:=H
        have A21:=qe11 A210
        clear A210
        obtain ⟨y347,hy347⟩ : ∃ y_ : List Int,y_ = (([107,101,121] : List Int)):=⟨_,rfl⟩
        replace H : (spec_CheckSignature.l0 kj7 a0 t346 y347 0 a2_0 l2_1 l2_2 l2_3) = some r:=by first|(rw [hy347];with_reducible exact H)|(have H2_:=(Option.bind_some _ _).symm.trans H;rw [hy347];with_reducible exact H2_)|(have H2_:=(Option.bind_some _ _).symm.trans H;with_reducible exact H2_)|with_reducible exact H|(rw [hy347];exact H)|exact H
        have Ny347:=qe11 hy347
        clear hy347
        have H':=qe11 H
        clear H
        have hcz22_0 : wc.cell? ⟨gb341,0,none⟩ = some (.int .i64 a2_0):=(blk_cell BK341.out 0).trans rfl
        have hcz22_1 : wc.cell? ⟨gb341,1,none⟩ = some (.slice A2_1 l2_1.length c2_1):=(blk_cell BK341.out 1).trans rfl
        have hcz22_2 : wc.cell? ⟨gb341,2,none⟩ = some (.slice A2_2 l2_2.length c2_2):=(blk_cell BK341.out 2).trans rfl
        have hcz22_3 : wc.cell? ⟨gb341,3,none⟩ = some (.slice A2_3 l2_3.length c2_3):=(blk_cell BK341.out 3).trans rfl
        have hfz22_0:=blk_frozen BK341.out 0
        have hfz22_1:=blk_frozen BK341.out 1
        have hfz22_2:=blk_frozen BK341.out 2
        have hfz22_3:=blk_frozen BK341.out 3
        go_wp2_with (first|((with_reducible refine gate_callee (f:=60) rfl ?_);refine goesL_ (some 45) rfl rfl Tryd.func60 (by kernel_rfl) rfl #[.int .i64 a2_0,.int .i64 0,.int .i64 7] rfl (by (try simp only [List.map_toArray,List.map_cons,List.map_nil]);first|done|rfl|(simp only [List.length_drop,List.length_take];rfl)) ?_;(with_reducible refine (spec_l01In.calls a2_0 0 7 true _ A19.out).mono ?_);rintro e w' ⟨rfl,⟨nd,rfl⟩⟩;refine ⟨_,rfl,?_⟩)|((with_reducible refine gate_callee (f:=76) rfl ?_);refine goesL_ (some 48) rfl rfl Tryd.func76 (by kernel_rfl) rfl #[.string a1] rfl (by (try simp only [List.map_toArray,List.map_cons,List.map_nil]);first|done|rfl|(simp only [List.length_drop,List.length_take];rfl)) ?_;(with_reducible refine (spec_l03Bits.calls kj7 a1 t346 _ A21.out).mono ?_);rintro e w23 ⟨rfl,hb⟩;refine ⟨_,rfl,?_⟩;have n0_:=qe11 (blk_below (g:=gb341) (o:=.cells #[.int .i64 a2_0,.slice A2_1 l2_1.length c2_1,.slice A2_2 l2_2.length c2_2,.slice A2_3 l2_3.length c2_3] 33 (0,0)) (by (with_reducible repeat (first|apply blk_drewN|apply blk_drew|apply blk_alloc));exact BK341.out) hb);have n1_:=qe11 (below_step (by repeat (first|(with_reducible first|exact HB.out|apply qa11|apply qb11|apply qc11|refine qd11 ?_ GE341.out)|exact HB.out)) hb);clear BK341;clear HB;have BK341:=n0_;have HB:=n1_;clear n0_ n1_;(try clear hb);(try clear hb2);(try clear hk);(try clear hi))|((with_reducible refine gate_dst (N:=50) rfl ?_);refine R_litbytes _ 5 rfl (N:=50) rfl 22 _ rfl #[.int .u8 107,.int .u8 101,.int .u8 121] [107,101,121] rfl rfl Tryd.underlying22 Tryd.underlying5 (ok:=fun _ => True) (by decide) trivial (Below.refl _ _) (Nat.le_refl _) ?_;intro v348 w24 ho25 hb hg_ hnew_;clear hg_ hnew_;(first|rw [← Ny347.out] at ho25|(simp only [Int.reduceToNat] at ho25;rw [← Ny347.out] at ho25));have n0_:=qe11 (Kd.R_lower ho25 (below_size (by repeat (first|(with_reducible first|exact HB.out|apply qa11|apply qb11|apply qc11|refine qd11 ?_ GE341.out)|exact HB.out))));have n1_:=qe11 (blk_below (g:=gb341) (o:=.cells #[.int .i64 a2_0,.slice A2_1 l2_1.length c2_1,.slice A2_2 l2_2.length c2_2,.slice A2_3 l2_3.length c2_3] 33 (0,0)) (by (with_reducible repeat (first|apply blk_drewN|apply blk_drew|apply blk_alloc));exact BK341.out) hb);have n2_:=qe11 (below_step (by repeat (first|(with_reducible first|exact HB.out|apply qa11|apply qb11|apply qc11|refine qd11 ?_ GE341.out)|exact HB.out)) hb);clear BK341;clear HB;have HO349:=n0_;have BK341:=n1_;have HB:=n2_;clear n0_ n1_ n2_;clear hb ho25))
        go_loopg [8,9] kj7 (fun kq v8 v9 w' => ∃ (x8_3 : List Int) (x9_3 : Int),v9 = .int .i64 x9_3 ∧ Aside0 (spec_CheckSignature.l0 kq a0 t346 x8_3 x9_3 a2_0 l2_1 l2_2 l2_3 = some r) ∧ Aside0 (kq ≤ kj7) ∧ Aside0 (Kd.R (Kd.int .u8) 5 w' w.heap.size (fun _ => True) v8 x8_3) ∧ Aside0 (w'.heap[gb341]? = some (.cells #[.int .i64 a2_0,(.slice A2_1 l2_1.length c2_1),(.slice A2_2 l2_2.length c2_2),(.slice A2_3 l2_3.length c2_3)] 33 (0,0))) ∧ Aside0 (Below w.heap.size w w'))
        case atStart => exact ⟨(y347),(0),(by first|rfl|(simp;done)|(simp [*];done)),H',⟨Nat.le_refl _⟩,⟨by (with_reducible repeat (first|apply Kd.R_alloc|apply Kd.R_drewN|apply Kd.R_drew));exact HO349.out⟩,⟨by (with_reducible repeat (first|apply blk_drewN|apply blk_drew|apply blk_alloc));exact BK341.out⟩,⟨by repeat (first|(with_reducible first|exact HB.out|apply qa11|apply qb11|apply qc11|refine qd11 ?_ GE341.out)|exact HB.out)⟩⟩
        case round =>
         clear H'
         try clear c1
         try clear c2
         try clear p2
         try clear c3
         try clear c6
         try clear c6b0
         try clear c6b1
         try clear c7
         try clear c9
         try clear c9b0
         try clear c9b1
         try clear c11
         try clear c13
         try clear c18
         try clear c20
         try clear hcz15_0
         try clear hcz15_1
         try clear hcz15_2
         try clear hcz15_3
         try clear hcz16_0
         try clear hcz16_1
         try clear hcz16_2
         try clear hcz16_3
         try clear hcz17_0
         try clear hcz17_1
         try clear hcz17_2
         try clear hcz17_3
         try clear hcz22_0
         try clear hcz22_1
         try clear hcz22_2
         try clear hcz22_3
         try clear hfz15_0
         try clear hfz15_1
         try clear hfz15_2
         try clear hfz15_3
         try clear hfz16_0
         try clear hfz16_1
         try clear hfz16_2
         try clear hfz16_3
         try clear hfz17_0
         try clear hfz17_1
         try clear hfz17_2
         try clear hfz17_3
         try clear hfz22_0
         try clear hfz22_1
         try clear hfz22_2
         try clear hfz22_3
         try clear p2
         obtain ⟨x8_3,x9_3,rfl,HA,HK3,HO_8,BK341,HB⟩:=hrel
         cases gk with
         | zero => exact absurd HA.out (by simp [spec_CheckSignature.l0])
         | succ k3 =>
          have H:=HA.out
          clear HA
          simp only [spec_CheckSignature.l0] at H
          by_cases c26 : x9_3 < 32
          ·
           rw [if_pos c26] at H
           have c26b0 : decide (x9_3 < 32) = true:=decide_eq_true c26
           clear c26
           by_cases c27 : 0 ≤ x9_3
           ·
            rw [if_pos c27] at H
            have c27b0 : decide (0 ≤ x9_3) = true:=decide_eq_true c27
            clear c27
            by_cases c28 : x9_3 < (l2_1.length : Int)
            ·
             rw [if_pos c28] at H
             have c28b0 : decide (x9_3 < (l2_1.length : Int)) = true:=decide_eq_true c28
             clear c28
             by_cases c29 : (rdOf ByteArray.empty l2_1 x9_3).size ≤ 9223372036854775807
             ·
              rw [if_pos c29] at H
              have c29b0:=eq_true c29
              have c29b1 : decide ((rdOf ByteArray.empty l2_1 x9_3).size ≤ 9223372036854775807) = true:=decide_eq_true c29
              try have c29b2 : (9223372036854775807 < (rdOf ByteArray.empty l2_1 x9_3).size) = False:=eq_false (Nat.not_lt.2 c29)
              clear c29
              obtain ⟨y351,hy351⟩ : ∃ y_ : List Int,y_ = (bytesOf (rdOf ByteArray.empty l2_1 x9_3)):=⟨_,rfl⟩
              replace H : ((spec_l01Hash.f y351).bind fun t354 => (if x9_3 < (t346.size : Int) then (if (bt t346 x9_3) = 48 then (if x8_3.length + t354.size < 140737488355328 then ((some (x8_3 ++ bytesOf t354 : List Int)).bind fun y355 => (if x9_3 < (l2_2.length : Int) then (if y355.length + (rdOf ByteArray.empty l2_2 x9_3).size < 140737488355328 then (spec_CheckSignature.l0 k3 a0 t346 (y355 ++ bytesOf (rdOf ByteArray.empty l2_2 x9_3)) (wrap64 (x9_3 + 1)) a2_0 l2_1 l2_2 l2_3) else (none)) else (none))) else (none)) else (if x9_3 < (l2_2.length : Int) then (if x8_3.length + (rdOf ByteArray.empty l2_2 x9_3).size < 140737488355328 then ((some (x8_3 ++ bytesOf (rdOf ByteArray.empty l2_2 x9_3) : List Int)).bind fun y363 => (if y363.length + t354.size < 140737488355328 then (spec_CheckSignature.l0 k3 a0 t346 (y363 ++ bytesOf t354) (wrap64 (x9_3 + 1)) a2_0 l2_1 l2_2 l2_3) else (none))) else (none)) else (none))) else (none))) = some r:=by first|(rw [hy351];with_reducible exact H)|(have H2_:=(Option.bind_some _ _).symm.trans H;rw [hy351];with_reducible exact H2_)|(have H2_:=(Option.bind_some _ _).symm.trans H;with_reducible exact H2_)|with_reducible exact H|(rw [hy351];exact H)|exact H
              have Ny351:=qe11 hy351
              clear hy351
              replace H:=Option.bind_eq_some_iff.mp H
              obtain ⟨t354,A300,H⟩:=H
              replace H : (if x9_3 < (t346.size : Int) then (if (bt t346 x9_3) = 48 then (if x8_3.length + t354.size < 140737488355328 then ((some (x8_3 ++ bytesOf t354 : List Int)).bind fun y355 => (if x9_3 < (l2_2.length : Int) then (if y355.length + (rdOf ByteArray.empty l2_2 x9_3).size < 140737488355328 then (spec_CheckSignature.l0 k3 a0 t346 (y355 ++ bytesOf (rdOf ByteArray.empty l2_2 x9_3)) (wrap64 (x9_3 + 1)) a2_0 l2_1 l2_2 l2_3) else (none)) else (none))) else (none)) else (if x9_3 < (l2_2.length : Int) then (if x8_3.length + (rdOf ByteArray.empty l2_2 x9_3).size < 140737488355328 then ((some (x8_3 ++ bytesOf (rdOf ByteArray.empty l2_2 x9_3) : List Int)).bind fun y363 => (if y363.length + t354.size < 140737488355328 then (spec_CheckSignature.l0 k3 a0 t346 (y363 ++ bytesOf t354) (wrap64 (x9_3 + 1)) a2_0 l2_1 l2_2 l2_3) else (none))) else (none)) else (none))) else (none)) = some r:=H
              have A30:=qe11 A300
              clear A300
              by_cases c31 : x9_3 < (t346.size : Int)
              ·
               rw [if_pos c31] at H
               have c31b0 : decide (x9_3 < (t346.size : Int)) = true:=decide_eq_true c31
               clear c31
               by_cases c33 : (bt t346 x9_3) = 48
               ·
                rw [if_pos c33] at H
                have c33b0 : ((bt t346 x9_3) == 48) = true:=beq_iff_eq.mpr c33
                have c33b1 : ((bt t346 x9_3) != 48) = false:=bne_eq_false_iff_eq.mpr c33
                clear c33
                by_cases c34 : x8_3.length + t354.size < 140737488355328
                ·
                 rw [if_pos c34] at H
                 have LMc34:=qe11 c34
                 clear c34
                 obtain ⟨y355,hy355⟩ : ∃ y_ : List Int,y_ = (x8_3 ++ bytesOf t354):=⟨_,rfl⟩
                 replace H : (if x9_3 < (l2_2.length : Int) then (if y355.length + (rdOf ByteArray.empty l2_2 x9_3).size < 140737488355328 then (spec_CheckSignature.l0 k3 a0 t346 (y355 ++ bytesOf (rdOf ByteArray.empty l2_2 x9_3)) (wrap64 (x9_3 + 1)) a2_0 l2_1 l2_2 l2_3) else (none)) else (none)) = some r:=by first|(rw [hy355];with_reducible exact H)|(have H2_:=(Option.bind_some _ _).symm.trans H;rw [hy355];with_reducible exact H2_)|(have H2_:=(Option.bind_some _ _).symm.trans H;with_reducible exact H2_)|with_reducible exact H|(rw [hy355];exact H)|exact H
                 have Ny355:=qe11 hy355
                 clear hy355
                 by_cases c35 : x9_3 < (l2_2.length : Int)
                 ·
                  rw [if_pos c35] at H
                  have c35b0 : decide (x9_3 < (l2_2.length : Int)) = true:=decide_eq_true c35
                  clear c35
                  by_cases c36 : y355.length + (rdOf ByteArray.empty l2_2 x9_3).size < 140737488355328
                  ·
                   rw [if_pos c36] at H
                   have LMc36:=qe11 c36
                   clear c36
                   obtain ⟨y359,hy359⟩ : ∃ y_ : List Int,y_ = (y355 ++ bytesOf (rdOf ByteArray.empty l2_2 x9_3)):=⟨_,rfl⟩
                   replace H : (spec_CheckSignature.l0 k3 a0 t346 y359 (wrap64 (x9_3 + 1)) a2_0 l2_1 l2_2 l2_3) = some r:=by first|(rw [hy359];with_reducible exact H)|(have H2_:=(Option.bind_some _ _).symm.trans H;rw [hy359];with_reducible exact H2_)|(have H2_:=(Option.bind_some _ _).symm.trans H;with_reducible exact H2_)|with_reducible exact H|(rw [hy359];exact H)|exact H
                   have Ny359:=qe11 hy359
                   clear hy359
                   have H':=qe11 H
                   clear H
                   have hcz37_0 : wr.cell? ⟨gb341,0,none⟩ = some (.int .i64 a2_0):=(blk_cell BK341.out 0).trans rfl
                   have hcz37_1 : wr.cell? ⟨gb341,1,none⟩ = some (.slice A2_1 l2_1.length c2_1):=(blk_cell BK341.out 1).trans rfl
                   have hcz37_2 : wr.cell? ⟨gb341,2,none⟩ = some (.slice A2_2 l2_2.length c2_2):=(blk_cell BK341.out 2).trans rfl
                   have hcz37_3 : wr.cell? ⟨gb341,3,none⟩ = some (.slice A2_3 l2_3.length c2_3):=(blk_cell BK341.out 3).trans rfl
                   have hfz37_0:=blk_frozen BK341.out 0
                   have hfz37_1:=blk_frozen BK341.out 1
                   have hfz37_2:=blk_frozen BK341.out 2
                   have hfz37_3:=blk_frozen BK341.out 3
                   have p350 : 0 ≤ (x9_3 : Int):=of_decide_eq_true (by first|(with_reducible assumption)|assumption)
                   have q350 : x9_3 < (l2_1.length : Int):=of_decide_eq_true (by first|(with_reducible assumption)|assumption)
                   obtain ⟨ad350,e350,hx350_0⟩:=Kd.at_string HR2_1.out x9_3 p350 q350
                   cases e350
                   replace hx350_0:=(HB.out.cell (World.block_lt_of_cell? w _ hx350_0)).trans hx350_0
                   replace p350:=eq_true p350
                   replace q350:=eq_true q350
                   try go_wp2_with (first|((with_reducible refine gate_dst (N:=60) rfl ?_);refine R_bytes _ 5 rfl (N:=60) rfl 9 22 _ rfl (rdOf ByteArray.empty l2_1 x9_3) rfl Tryd.underlying9 Tryd.underlying22 Tryd.underlying5 (ok:=fun _ => True) trivial (of_decide_eq_true (by first|(with_reducible assumption)|assumption)) (Below.refl _ _) (Nat.le_refl _) ?_;intro v352 w38 ho39 hb hg_ hnew_;clear hg_ hnew_;(first|rw [← Ny351.out] at ho39|(simp only [Int.reduceToNat] at ho39;rw [← Ny351.out] at ho39));have n0_:=qe11 (Kd.R_elder' (by (with_reducible repeat (first|apply Kd.R_alloc|apply Kd.R_drewN|apply Kd.R_drew));exact HO_8.out) (Kd.R_base ho39) hb);have n1_:=qe11 (Kd.R_lower (Kd.R_new' ho39 (Kd.R_lt (by (with_reducible repeat (first|apply Kd.R_alloc|apply Kd.R_drewN|apply Kd.R_drew));exact HO_8.out))) (below_size (by repeat (first|(with_reducible first|exact HB.out|apply qa11|apply qb11|apply qc11|refine qd11 ?_ GE341.out)|exact HB.out))));have n2_:=qe11 (blk_below (g:=gb341) (o:=.cells #[.int .i64 a2_0,.slice (some ad350) l2_1.length c2_1,.slice A2_2 l2_2.length c2_2,.slice A2_3 l2_3.length c2_3] 33 (0,0)) (by (with_reducible repeat (first|apply blk_drewN|apply blk_drew|apply blk_alloc));exact BK341.out) hb);have n3_:=qe11 (below_step (by repeat (first|(with_reducible first|exact HB.out|apply qa11|apply qb11|apply qc11|refine qd11 ?_ GE341.out)|exact HB.out)) hb);clear HO_8;clear BK341;clear HB;have HO_8:=n0_;have HO353:=n1_;have BK341:=n2_;have HB:=n3_;clear n0_ n1_ n2_ n3_;clear hb ho39;obtain ⟨Ao40,co40,eo40⟩:=Kd.R_slice HO353.out;subst eo40)|((with_reducible refine gate_callee (f:=54) rfl ?_);refine goesL_ (some 61) rfl rfl Tryd.func54 (by kernel_rfl) rfl #[.slice Ao40 y351.length co40] rfl (by (try simp only [List.map_toArray,List.map_cons,List.map_nil]);first|done|rfl|(simp only [List.length_drop,List.length_take];rfl)) ?_;(with_reducible refine (spec_l01Hash.calls _ _ y351 t354 _ ?side1 ?side2 A30.out).mono ?_);(case side1 => repeat (first|exact (Kd.R_reads' HO353.out).2.2|(with_reducible refine Kd.C_alloc ?_ _)|(with_reducible refine Kd.C_drewN ?_ _)|(with_reducible refine Kd.C_drew ?_)));(case side2 => exact (Kd.R_reads' HO353.out).2.1);rintro e w41 ⟨rfl,hb⟩;refine ⟨_,rfl,?_⟩;have n0_:=qe11 (Kd.R_below (by (with_reducible repeat (first|apply Kd.R_alloc|apply Kd.R_drewN|apply Kd.R_drew));exact HO_8.out) hb);have n1_:=qe11 (Kd.R_below (by (with_reducible repeat (first|apply Kd.R_alloc|apply Kd.R_drewN|apply Kd.R_drew));exact HO353.out) hb);have n2_:=qe11 (blk_below (g:=gb341) (o:=.cells #[.int .i64 a2_0,.slice (some ad350) l2_1.length c2_1,.slice A2_2 l2_2.length c2_2,.slice A2_3 l2_3.length c2_3] 33 (0,0)) (by (with_reducible repeat (first|apply blk_drewN|apply blk_drew|apply blk_alloc));exact BK341.out) hb);have n3_:=qe11 (below_step (by repeat (first|(with_reducible first|exact HB.out|apply qa11|apply qb11|apply qc11|refine qd11 ?_ GE341.out)|exact HB.out)) hb);clear HO_8;clear HO353;clear BK341;clear HB;have HO_8:=n0_;have HO353:=n1_;have BK341:=n2_;have HB:=n3_;clear n0_ n1_ n2_ n3_;(try clear hb);(try clear hb2);(try clear hk);(try clear hi);have p32 : 0 ≤ (x9_3 : Int):=of_decide_eq_true (by first|(with_reducible assumption)|assumption);have q32 : x9_3 < (t346.size : Int):=of_decide_eq_true (by first|(with_reducible assumption)|assumption);have hx32:=bt_at t346 x9_3;have bl32:=(bt_range t346 x9_3).1;have bh32:=(bt_range t346 x9_3).2;replace p32:=eq_true p32;replace q32:=eq_true q32))
                   have n0_:=qe11 (Kd.R_drew HO_8.out)
                   have n1_:=qe11 (Kd.R_drew HO353.out)
                   have n2_:=qe11 (blk_drew BK341.out)
                   have n3_:=qe11 (qc11 HB.out)
                   clear HO_8
                   clear HO353
                   clear BK341
                   clear HB
                   have HO_8:=n0_
                   have HO353:=n1_
                   have BK341:=n2_
                   have HB:=n3_
                   clear n0_ n1_ n2_ n3_
                   have p358 : 0 ≤ (x9_3 : Int):=of_decide_eq_true (by first|(with_reducible assumption)|assumption)
                   have q358 : x9_3 < (l2_2.length : Int):=of_decide_eq_true (by first|(with_reducible assumption)|assumption)
                   obtain ⟨ad358,e358,hx358_0⟩:=Kd.at_string HR2_2.out x9_3 p358 q358
                   have hw358_0:=hx358_0
                   cases e358
                   replace hx358_0:=(HB.out.cell (World.block_lt_of_cell? w _ hx358_0)).trans hx358_0
                   replace p358:=eq_true p358
                   replace q358:=eq_true q358
                   refine start_ (n:=10) (S:=fun w' => w'.cell? ⟨gb341,0,none⟩ = some (.int .i64 a2_0) ∧ w'.cell? ⟨gb341,1,none⟩ = some (.slice (some ad350) l2_1.length c2_1) ∧ w'.cell? ⟨gb341,2,none⟩ = some (.slice (some ad358) l2_2.length c2_2) ∧ w'.cell? ⟨gb341,3,none⟩ = some (.slice A2_3 l2_3.length c2_3) ∧ w'.cell? (ad358.add (x9_3).toNat) = some (.string (rdOf ByteArray.empty l2_2 x9_3))) (ds:=[]) #[false,false,false,false,false,false,false,false,false,false] (by kernel_rfl) rfl rfl ⟨(blk_cell BK341.out 0).trans rfl,(blk_cell BK341.out 1).trans rfl,(blk_cell BK341.out 2).trans rfl,(blk_cell BK341.out 3).trans rfl,((HB.out.cell (World.block_lt_of_cell? w _ hw358_0)).trans hw358_0)⟩ (fun hHeld => ?_);refine with_tabW spec_CheckSignature.tab14 spec_CheckSignature.bits14 (fun HT_ HW_ => ?_)
                   generalize w41.drew = w42 at HO_8 HO353 BK341 HB hx358_0 hHeld ⊢
                   refine pure_ (i:=0) (N:=some 66) (v:=?_) (a':=?_) #[true,false,false,false,false,false,false,false,false,false] rfl rfl (any_of HT_.out (by kernel_rfl)) (fun _ _ _ h => h) (Or.inl ⟨by rfl,?_⟩) ?_ ?_
                   rotate_left
                   ·
                    intro w'
                    go_simp
                    with_reducible rfl
                   rotate_left
                   ·
                    simp only [Act.put,List.setIfInBounds_toArray,List.set_cons_zero,List.set_cons_succ,i64_w,i32_w]
                    rfl
                   refine pure_ (i:=1) (N:=some 67) (v:=?_) (a':=?_) #[true,true,false,false,false,false,false,false,false,false] rfl rfl (any_of HT_.out (by kernel_rfl)) (fun _ _ _ h => h) (Or.inl ⟨by rfl,?_⟩) ?_ ?_
                   rotate_left
                   ·
                    intro w'
                    go_simp
                    with_reducible rfl
                   rotate_left
                   ·
                    simp only [Act.put,List.setIfInBounds_toArray,List.set_cons_zero,List.set_cons_succ,i64_w,i32_w]
                    rfl
                   refine pure_ (i:=3) (N:=some 69) (v:=?_) (a':=?_) #[true,true,false,true,false,false,false,false,false,false] rfl rfl (any_of HT_.out (by kernel_rfl)) (fun _ _ _ h => h) (Or.inl ⟨by rfl,?_⟩) ?_ ?_
                   rotate_left
                   ·
                    intro w'
                    go_simp
                    with_reducible rfl
                   rotate_left
                   ·
                    simp only [Act.put,List.setIfInBounds_toArray,List.set_cons_zero,List.set_cons_succ,i64_w,i32_w]
                    rfl
                   refine pure_ (i:=5) (N:=some 71) (v:=?_) (a':=?_) #[true,true,false,true,false,true,false,false,false,false] rfl rfl (any_of HT_.out (by kernel_rfl)) (fun _ _ _ h => h) (Or.inl ⟨by rfl,?_⟩) ?_ ?_
                   rotate_left
                   ·
                    intro w'
                    go_simp
                    with_reducible rfl
                   rotate_left
                   ·
                    simp only [Act.put,List.setIfInBounds_toArray,List.set_cons_zero,List.set_cons_succ,i64_w,i32_w]
                    rfl
                   refine take_ (i:=4) (N:=some 70) (v:=?_) (a':=?_) #[true,true,false,true,true,true,false,false,false,false] rfl rfl (take_ofW HT_.out HW_.out (by kernel_rfl)) (fun _ _ _ h => h) (Or.inl ⟨by rfl,?_⟩) hHeld ?_ ?_
                   rotate_left
                   ·
                    rintro w' ⟨s0,s1,s2,s3,s4⟩
                    go_simp
                    with_reducible rfl
                   rotate_left
                   ·
                    simp only [Act.put,List.setIfInBounds_toArray,List.set_cons_zero,List.set_cons_succ,i64_w,i32_w]
                    rfl
                   refine pure_ (i:=6) (N:=some 72) (v:=?_) (a':=?_) #[true,true,false,true,true,true,true,false,false,false] rfl rfl (any_of HT_.out (by kernel_rfl)) (fun _ _ _ h => h) (Or.inl ⟨by rfl,?_⟩) ?_ ?_
                   rotate_left
                   ·
                    intro w'
                    go_simp
                    with_reducible rfl
                   rotate_left
                   ·
                    simp only [Act.put,List.setIfInBounds_toArray,List.set_cons_zero,List.set_cons_succ,i64_w,i32_w]
                    rfl
                   refine take_ (i:=7) (N:=some 73) (v:=?_) (a':=?_) #[true,true,false,true,true,true,true,true,false,false] rfl rfl (take_ofW HT_.out HW_.out (by kernel_rfl)) (fun _ _ _ h => h) (Or.inl ⟨by rfl,?_⟩) hHeld ?_ ?_
                   rotate_left
                   ·
                    rintro w' ⟨s0,s1,s2,s3,s4⟩
                    go_simp
                    with_reducible rfl
                   rotate_left
                   ·
                    simp only [Act.put,List.setIfInBounds_toArray,List.set_cons_zero,List.set_cons_succ,i64_w,i32_w]
                    rfl
                   refine one_ (i:=2) (N:=some 68) #[true,true,true,true,true,true,true,true,false,false] rfl rfl (one_of HT_.out (by kernel_rfl)) (by decide) (fun K hK => ?_)
                   refine R_append_str_step (w0:=w) w.heap.size (by rfl) (.tmp 66) _ 22 9 5 rfl Tryd.underlying22 Tryd.underlying9 info5 u8 x8_3 t354 (fun k_ => some k_ ≠ (.slice Ao40 y351.length co40 : Value).ownBlock) rfl rfl ?aO ?aF ?aB ?aS ?aL ?_
                   (case aB => exact (by repeat (first|(with_reducible first|exact HB.out|apply qa11|apply qb11|apply qc11|refine qd11 ?_ GE341.out)|exact HB.out)))
                   (case aF => exact (fun k_ hk => Kd.fresh' (Kd.R_lt (by (with_reducible repeat (first|apply Kd.R_alloc|apply Kd.R_drewN|apply Kd.R_drew));exact HO353.out)) k_ hk))
                   (case aO => exact (by (with_reducible repeat (first|apply Kd.R_alloc|apply Kd.R_drewN|apply Kd.R_drew));exact Kd.R_mono HO_8.out (fun _ hk => hk.2)))
                   (case aS => exact (below_size (by repeat (first|(with_reducible first|exact HB.out|apply qa11|apply qb11|apply qc11|refine qd11 ?_ GE341.out)|exact HB.out))))
                   (case aL => have:=LMc34.out;omega)
                   intro v356 w43 ho hb hg hat
                   rw [← Ny355.out] at ho
                   have n0_:=qe11 (blk_grown (g:=gb341) (o:=.cells #[.int .i64 a2_0,.slice (some ad350) l2_1.length c2_1,.slice (some ad358) l2_2.length c2_2,.slice A2_3 l2_3.length c2_3] 33 (0,0)) (by (with_reducible repeat (first|apply blk_drewN|apply blk_drew|apply blk_alloc));exact BK341.out) hg (Kd.R_ne HO_8.out BK341.out (by decide)))
                   have n1_:=qe11 (Kd.R_after (ok:=(fun _ => True)) (by (with_reducible repeat (first|apply Kd.R_alloc|apply Kd.R_drewN|apply Kd.R_drew));exact HO353.out) hg hat)
                   have n2_:=qe11 (hb)
                   have n3_:=qe11 (ho)
                   clear BK341
                   clear HO353
                   clear HB
                   clear HO_8
                   have BK341:=n0_
                   have HO353:=n1_
                   have HB:=n2_
                   have HO357:=n3_
                   clear n0_ n1_ n2_ n3_
                   clear ho hb hg hat
                   refine hK.out _ _ ⟨(blk_cell BK341.out 0).trans rfl,(blk_cell BK341.out 1).trans rfl,(blk_cell BK341.out 2).trans rfl,(blk_cell BK341.out 3).trans rfl,((HB.out.cell (World.block_lt_of_cell? w _ hw358_0)).trans hw358_0)⟩ (fun hHeld => ?_)
                   clear hK K
                   refine norm_ (a':=?_) ?_ ?_
                   rotate_left
                   ·
                    show Act.put _ (some 68) _ = _
                    simp only [Act.put,List.setIfInBounds_toArray,List.set_cons_zero,List.set_cons_succ,i64_w,i32_w]
                    rfl
                   refine one_ (i:=8) (N:=some 74) #[true,true,true,true,true,true,true,true,true,false] rfl rfl (one_of HT_.out (by kernel_rfl)) (by decide) (fun K hK => ?_)
                   refine R_append_str_step (w0:=w) w.heap.size (by rfl) (.tmp 68) _ 22 9 5 rfl Tryd.underlying22 Tryd.underlying9 info5 v356 y355 (rdOf ByteArray.empty l2_2 x9_3) (fun k_ => some k_ ≠ (.slice Ao40 y351.length co40 : Value).ownBlock) rfl rfl ?aO ?aF ?aB ?aS ?aL ?_
                   (case aB => exact (by repeat (first|(with_reducible first|exact HB.out|apply qa11|apply qb11|apply qc11|refine qd11 ?_ GE341.out)|exact HB.out)))
                   (case aF => exact (fun k_ hk => Kd.fresh' (Kd.R_lt (by (with_reducible repeat (first|apply Kd.R_alloc|apply Kd.R_drewN|apply Kd.R_drew));exact HO353.out)) k_ hk))
                   (case aO => exact (by (with_reducible repeat (first|apply Kd.R_alloc|apply Kd.R_drewN|apply Kd.R_drew));exact HO357.out))
                   (case aS => exact (below_size (by repeat (first|(with_reducible first|exact HB.out|apply qa11|apply qb11|apply qc11|refine qd11 ?_ GE341.out)|exact HB.out))))
                   (case aL => have:=LMc36.out;omega)
                   intro v360 w44 ho hb hg hat
                   rw [← Ny359.out] at ho
                   have n0_:=qe11 (blk_grown (g:=gb341) (o:=.cells #[.int .i64 a2_0,.slice (some ad350) l2_1.length c2_1,.slice (some ad358) l2_2.length c2_2,.slice A2_3 l2_3.length c2_3] 33 (0,0)) (by (with_reducible repeat (first|apply blk_drewN|apply blk_drew|apply blk_alloc));exact BK341.out) hg (Kd.R_ne HO357.out BK341.out (by decide)))
                   have n1_:=qe11 (Kd.R_after (ok:=(fun _ => True)) (by (with_reducible repeat (first|apply Kd.R_alloc|apply Kd.R_drewN|apply Kd.R_drew));exact HO353.out) hg hat)
                   have n2_:=qe11 (hb)
                   have n3_:=qe11 (ho)
                   clear BK341
                   clear HO353
                   clear HB
                   clear HO357
                   have BK341:=n0_
                   have HO353:=n1_
                   have HB:=n2_
                   have HO361:=n3_
                   clear n0_ n1_ n2_ n3_
                   clear ho hb hg hat
                   refine hK.out _ _ ⟨(blk_cell BK341.out 0).trans rfl,(blk_cell BK341.out 1).trans rfl,(blk_cell BK341.out 2).trans rfl,(blk_cell BK341.out 3).trans rfl,((HB.out.cell (World.block_lt_of_cell? w _ hw358_0)).trans hw358_0)⟩ (fun hHeld => ?_)
                   clear hK K
                   refine norm_ (a':=?_) ?_ ?_
                   rotate_left
                   ·
                    show Act.put _ (some 74) _ = _
                    simp only [Act.put,List.setIfInBounds_toArray,List.set_cons_zero,List.set_cons_succ,i64_w,i32_w]
                    rfl
                   refine pure_ (i:=9) (N:=some 8) (v:=?_) (a':=?_) #[true,true,true,true,true,true,true,true,true,true] rfl rfl (any_of HT_.out (by kernel_rfl)) (fun _ _ _ h => h) (Or.inl ⟨by rfl,?_⟩) ?_ ?_
                   rotate_left
                   ·
                    intro w'
                    go_simp
                    with_reducible rfl
                   rotate_left
                   ·
                    simp only [Act.put,List.setIfInBounds_toArray,List.set_cons_zero,List.set_cons_succ,i64_w,i32_w]
                    rfl
                   refine done_ (done_of HT_.out (by kernel_rfl)) ?_
                   try go_wp2
                   go_roundg k3
                   case measure => have:=HJ3.out;have:=HJ7.out;have:=HK3.out;omega
                   case rel => exact ⟨(y359),(wrap64 (x9_3 + 1)),(by first|rfl|(simp;done)|(simp [*];done)),H',⟨by have:=HJ3.out;have:=HJ7.out;have:=HK3.out;omega⟩,⟨by (with_reducible repeat (first|apply Kd.R_alloc|apply Kd.R_drewN|apply Kd.R_drew));exact Kd.R_mono HO361.out (fun _ hk => trivial)⟩,⟨by (with_reducible repeat (first|apply blk_drewN|apply blk_drew|apply blk_alloc));exact BK341.out⟩,⟨by repeat (first|(with_reducible first|exact HB.out|apply qa11|apply qb11|apply qc11|refine qd11 ?_ GE341.out)|exact HB.out)⟩⟩
                  ·
                   rw [if_neg c36] at H
                   exact absurd H (by simp)
                 ·
                  rw [if_neg c35] at H
                  exact absurd H (by simp)
                ·
                 rw [if_neg c34] at H
                 exact absurd H (by simp)
               ·
                rw [if_neg c33] at H
                have c33b0 : ((bt t346 x9_3) == 48) = false:=beq_eq_false_iff_ne.mpr c33
                have c33b1 : ((bt t346 x9_3) != 48) = true:=bne_iff_ne.mpr c33
                by_cases c45 : x9_3 < (l2_2.length : Int)
                ·
                 rw [if_pos c45] at H
                 have c45b0 : decide (x9_3 < (l2_2.length : Int)) = true:=decide_eq_true c45
                 clear c45
                 by_cases c46 : x8_3.length + (rdOf ByteArray.empty l2_2 x9_3).size < 140737488355328
                 ·
                  rw [if_pos c46] at H
                  have LMc46:=qe11 c46
                  clear c46
                  obtain ⟨y363,hy363⟩ : ∃ y_ : List Int,y_ = (x8_3 ++ bytesOf (rdOf ByteArray.empty l2_2 x9_3)):=⟨_,rfl⟩
                  replace H : (if y363.length + t354.size < 140737488355328 then (spec_CheckSignature.l0 k3 a0 t346 (y363 ++ bytesOf t354) (wrap64 (x9_3 + 1)) a2_0 l2_1 l2_2 l2_3) else (none)) = some r:=by first|(rw [hy363];with_reducible exact H)|(have H2_:=(Option.bind_some _ _).symm.trans H;rw [hy363];with_reducible exact H2_)|(have H2_:=(Option.bind_some _ _).symm.trans H;with_reducible exact H2_)|with_reducible exact H|(rw [hy363];exact H)|exact H
                  have Ny363:=qe11 hy363
                  clear hy363
                  by_cases c47 : y363.length + t354.size < 140737488355328
                  ·
                   rw [if_pos c47] at H
                   have LMc47:=qe11 c47
                   clear c47
                   obtain ⟨y366,hy366⟩ : ∃ y_ : List Int,y_ = (y363 ++ bytesOf t354):=⟨_,rfl⟩
                   replace H : (spec_CheckSignature.l0 k3 a0 t346 y366 (wrap64 (x9_3 + 1)) a2_0 l2_1 l2_2 l2_3) = some r:=by first|(rw [hy366];with_reducible exact H)|(have H2_:=(Option.bind_some _ _).symm.trans H;rw [hy366];with_reducible exact H2_)|(have H2_:=(Option.bind_some _ _).symm.trans H;with_reducible exact H2_)|with_reducible exact H|(rw [hy366];exact H)|exact H
                   have Ny366:=qe11 hy366
                   clear hy366
                   have H':=qe11 H
                   clear H
                   have hcz48_0 : wr.cell? ⟨gb341,0,none⟩ = some (.int .i64 a2_0):=(blk_cell BK341.out 0).trans rfl
                   have hcz48_1 : wr.cell? ⟨gb341,1,none⟩ = some (.slice A2_1 l2_1.length c2_1):=(blk_cell BK341.out 1).trans rfl
                   have hcz48_2 : wr.cell? ⟨gb341,2,none⟩ = some (.slice A2_2 l2_2.length c2_2):=(blk_cell BK341.out 2).trans rfl
                   have hcz48_3 : wr.cell? ⟨gb341,3,none⟩ = some (.slice A2_3 l2_3.length c2_3):=(blk_cell BK341.out 3).trans rfl
                   have hfz48_0:=blk_frozen BK341.out 0
                   have hfz48_1:=blk_frozen BK341.out 1
                   have hfz48_2:=blk_frozen BK341.out 2
                   have hfz48_3:=blk_frozen BK341.out 3
                   have p350 : 0 ≤ (x9_3 : Int):=of_decide_eq_true (by first|(with_reducible assumption)|assumption)
                   have q350 : x9_3 < (l2_1.length : Int):=of_decide_eq_true (by first|(with_reducible assumption)|assumption)
                   obtain ⟨ad350,e350,hx350_0⟩:=Kd.at_string HR2_1.out x9_3 p350 q350
                   cases e350
                   replace hx350_0:=(HB.out.cell (World.block_lt_of_cell? w _ hx350_0)).trans hx350_0
                   replace p350:=eq_true p350
                   replace q350:=eq_true q350
                   go_wp2_with (first|((with_reducible refine gate_dst (N:=60) rfl ?_);refine R_bytes _ 5 rfl (N:=60) rfl 9 22 _ rfl (rdOf ByteArray.empty l2_1 x9_3) rfl Tryd.underlying9 Tryd.underlying22 Tryd.underlying5 (ok:=fun _ => True) trivial (of_decide_eq_true (by first|(with_reducible assumption)|assumption)) (Below.refl _ _) (Nat.le_refl _) ?_;intro v352 w49 ho50 hb hg_ hnew_;clear hg_ hnew_;(first|rw [← Ny351.out] at ho50|(simp only [Int.reduceToNat] at ho50;rw [← Ny351.out] at ho50));have n0_:=qe11 (Kd.R_elder' (by (with_reducible repeat (first|apply Kd.R_alloc|apply Kd.R_drewN|apply Kd.R_drew));exact HO_8.out) (Kd.R_base ho50) hb);have n1_:=qe11 (Kd.R_lower (Kd.R_new' ho50 (Kd.R_lt (by (with_reducible repeat (first|apply Kd.R_alloc|apply Kd.R_drewN|apply Kd.R_drew));exact HO_8.out))) (below_size (by repeat (first|(with_reducible first|exact HB.out|apply qa11|apply qb11|apply qc11|refine qd11 ?_ GE341.out)|exact HB.out))));have n2_:=qe11 (blk_below (g:=gb341) (o:=.cells #[.int .i64 a2_0,.slice (some ad350) l2_1.length c2_1,.slice A2_2 l2_2.length c2_2,.slice A2_3 l2_3.length c2_3] 33 (0,0)) (by (with_reducible repeat (first|apply blk_drewN|apply blk_drew|apply blk_alloc));exact BK341.out) hb);have n3_:=qe11 (below_step (by repeat (first|(with_reducible first|exact HB.out|apply qa11|apply qb11|apply qc11|refine qd11 ?_ GE341.out)|exact HB.out)) hb);clear HO_8;clear BK341;clear HB;have HO_8:=n0_;have HO353:=n1_;have BK341:=n2_;have HB:=n3_;clear n0_ n1_ n2_ n3_;clear hb ho50;obtain ⟨Ao51,co51,eo51⟩:=Kd.R_slice HO353.out;subst eo51)|((with_reducible refine gate_callee (f:=54) rfl ?_);refine goesL_ (some 61) rfl rfl Tryd.func54 (by kernel_rfl) rfl #[.slice Ao51 y351.length co51] rfl (by (try simp only [List.map_toArray,List.map_cons,List.map_nil]);first|done|rfl|(simp only [List.length_drop,List.length_take];rfl)) ?_;(with_reducible refine (spec_l01Hash.calls _ _ y351 t354 _ ?side1 ?side2 A30.out).mono ?_);(case side1 => repeat (first|exact (Kd.R_reads' HO353.out).2.2|(with_reducible refine Kd.C_alloc ?_ _)|(with_reducible refine Kd.C_drewN ?_ _)|(with_reducible refine Kd.C_drew ?_)));(case side2 => exact (Kd.R_reads' HO353.out).2.1);rintro e w52 ⟨rfl,hb⟩;refine ⟨_,rfl,?_⟩;have n0_:=qe11 (Kd.R_below (by (with_reducible repeat (first|apply Kd.R_alloc|apply Kd.R_drewN|apply Kd.R_drew));exact HO_8.out) hb);have n1_:=qe11 (Kd.R_below (by (with_reducible repeat (first|apply Kd.R_alloc|apply Kd.R_drewN|apply Kd.R_drew));exact HO353.out) hb);have n2_:=qe11 (blk_below (g:=gb341) (o:=.cells #[.int .i64 a2_0,.slice (some ad350) l2_1.length c2_1,.slice A2_2 l2_2.length c2_2,.slice A2_3 l2_3.length c2_3] 33 (0,0)) (by (with_reducible repeat (first|apply blk_drewN|apply blk_drew|apply blk_alloc));exact BK341.out) hb);have n3_:=qe11 (below_step (by repeat (first|(with_reducible first|exact HB.out|apply qa11|apply qb11|apply qc11|refine qd11 ?_ GE341.out)|exact HB.out)) hb);clear HO_8;clear HO353;clear BK341;clear HB;have HO_8:=n0_;have HO353:=n1_;have BK341:=n2_;have HB:=n3_;clear n0_ n1_ n2_ n3_;(try clear hb);(try clear hb2);(try clear hk);(try clear hi);have p32 : 0 ≤ (x9_3 : Int):=of_decide_eq_true (by first|(with_reducible assumption)|assumption);have q32 : x9_3 < (t346.size : Int):=of_decide_eq_true (by first|(with_reducible assumption)|assumption);have hx32:=bt_at t346 x9_3;have bl32:=(bt_range t346 x9_3).1;have bh32:=(bt_range t346 x9_3).2;replace p32:=eq_true p32;replace q32:=eq_true q32;have hcz53_0 : w52.cell? ⟨gb341,0,none⟩ = some (.int .i64 a2_0):=(blk_cell BK341.out 0).trans rfl;have hcz53_1 : w52.cell? ⟨gb341,1,none⟩ = some (.slice (some ad350) l2_1.length c2_1):=(blk_cell BK341.out 1).trans rfl;have hcz53_2 : w52.cell? ⟨gb341,2,none⟩ = some (.slice A2_2 l2_2.length c2_2):=(blk_cell BK341.out 2).trans rfl;have hcz53_3 : w52.cell? ⟨gb341,3,none⟩ = some (.slice A2_3 l2_3.length c2_3):=(blk_cell BK341.out 3).trans rfl;have hfz53_0:=blk_frozen BK341.out 0;have hfz53_1:=blk_frozen BK341.out 1;have hfz53_2:=blk_frozen BK341.out 2;have hfz53_3:=blk_frozen BK341.out 3;have p362 : 0 ≤ (x9_3 : Int):=of_decide_eq_true (by first|(with_reducible assumption)|assumption);have q362 : x9_3 < (l2_2.length : Int):=of_decide_eq_true (by first|(with_reducible assumption)|assumption);obtain ⟨ad362,e362,hx362_0⟩:=Kd.at_string HR2_2.out x9_3 p362 q362;cases e362;replace hx362_0:=(HB.out.cell (World.block_lt_of_cell? w _ hx362_0)).trans hx362_0;replace p362:=eq_true p362;replace q362:=eq_true q362)|(at_builtin;refine R_append_str (w0:=w) w.heap.size rfl (.tmp 75) _ 22 9 5 rfl Tryd.underlying22 Tryd.underlying9 info5 u8 x8_3 (rdOf ByteArray.empty l2_2 x9_3) (fun k_ => some k_ ≠ (.slice Ao51 y351.length co51 : Value).ownBlock) rfl rfl ?aO ?aF ?aB ?aS ?aL ?_;(case aB => exact (by repeat (first|(with_reducible first|exact HB.out|apply qa11|apply qb11|apply qc11|refine qd11 ?_ GE341.out)|exact HB.out)));(case aF => exact (fun k_ hk => Kd.fresh' (Kd.R_lt (by (with_reducible repeat (first|apply Kd.R_alloc|apply Kd.R_drewN|apply Kd.R_drew));exact HO353.out)) k_ hk));(case aO => exact (by (with_reducible repeat (first|apply Kd.R_alloc|apply Kd.R_drewN|apply Kd.R_drew));exact Kd.R_mono HO_8.out (fun _ hk => hk.2)));(case aS => exact (below_size (by repeat (first|(with_reducible first|exact HB.out|apply qa11|apply qb11|apply qc11|refine qd11 ?_ GE341.out)|exact HB.out))));(case aL => have:=LMc46.out;omega);intro v364 w54 ho hb hg hat;rw [← Ny363.out] at ho;have n0_:=qe11 (blk_grown (g:=gb341) (o:=.cells #[.int .i64 a2_0,.slice (some ad350) l2_1.length c2_1,.slice (some ad362) l2_2.length c2_2,.slice A2_3 l2_3.length c2_3] 33 (0,0)) (by (with_reducible repeat (first|apply blk_drewN|apply blk_drew|apply blk_alloc));exact BK341.out) hg (Kd.R_ne HO_8.out BK341.out (by decide)));have n1_:=qe11 (Kd.R_after (ok:=(fun _ => True)) (by (with_reducible repeat (first|apply Kd.R_alloc|apply Kd.R_drewN|apply Kd.R_drew));exact HO353.out) hg hat);have n2_:=qe11 (hb);have n3_:=qe11 (ho);clear BK341;clear HO353;clear HB;clear HO_8;have BK341:=n0_;have HO353:=n1_;have HB:=n2_;have HO365:=n3_;clear n0_ n1_ n2_ n3_;clear ho hb hg hat)|(at_builtin;refine R_append_str (w0:=w) w.heap.size rfl (.tmp 81) _ 22 9 5 rfl Tryd.underlying22 Tryd.underlying9 info5 v364 y363 t354 (fun k_ => some k_ ≠ (.slice Ao51 y351.length co51 : Value).ownBlock) rfl rfl ?aO ?aF ?aB ?aS ?aL ?_;(case aB => exact (by repeat (first|(with_reducible first|exact HB.out|apply qa11|apply qb11|apply qc11|refine qd11 ?_ GE341.out)|exact HB.out)));(case aF => exact (fun k_ hk => Kd.fresh' (Kd.R_lt (by (with_reducible repeat (first|apply Kd.R_alloc|apply Kd.R_drewN|apply Kd.R_drew));exact HO353.out)) k_ hk));(case aO => exact (by (with_reducible repeat (first|apply Kd.R_alloc|apply Kd.R_drewN|apply Kd.R_drew));exact HO365.out));(case aS => exact (below_size (by repeat (first|(with_reducible first|exact HB.out|apply qa11|apply qb11|apply qc11|refine qd11 ?_ GE341.out)|exact HB.out))));(case aL => have:=LMc47.out;omega);intro v367 w55 ho hb hg hat;rw [← Ny366.out] at ho;have n0_:=qe11 (blk_grown (g:=gb341) (o:=.cells #[.int .i64 a2_0,.slice (some ad350) l2_1.length c2_1,.slice (some ad362) l2_2.length c2_2,.slice A2_3 l2_3.length c2_3] 33 (0,0)) (by (with_reducible repeat (first|apply blk_drewN|apply blk_drew|apply blk_alloc));exact BK341.out) hg (Kd.R_ne HO365.out BK341.out (by decide)));have n1_:=qe11 (Kd.R_after (ok:=(fun _ => True)) (by (with_reducible repeat (first|apply Kd.R_alloc|apply Kd.R_drewN|apply Kd.R_drew));exact HO353.out) hg hat);have n2_:=qe11 (hb);have n3_:=qe11 (ho);clear BK341;clear HO353;clear HB;clear HO365;have BK341:=n0_;have HO353:=n1_;have HB:=n2_;have HO368:=n3_;clear n0_ n1_ n2_ n3_;clear ho hb hg hat))
                   go_roundg k3
                   case measure => have:=HJ3.out;have:=HJ7.out;have:=HK3.out;omega
                   case rel => exact ⟨(y366),(wrap64 (x9_3 + 1)),(by first|rfl|(simp;done)|(simp [*];done)),H',⟨by have:=HJ3.out;have:=HJ7.out;have:=HK3.out;omega⟩,⟨by (with_reducible repeat (first|apply Kd.R_alloc|apply Kd.R_drewN|apply Kd.R_drew));exact Kd.R_mono HO368.out (fun _ hk => trivial)⟩,⟨by (with_reducible repeat (first|apply blk_drewN|apply blk_drew|apply blk_alloc));exact BK341.out⟩,⟨by repeat (first|(with_reducible first|exact HB.out|apply qa11|apply qb11|apply qc11|refine qd11 ?_ GE341.out)|exact HB.out)⟩⟩
                  ·
                   rw [if_neg c47] at H
                   exact absurd H (by simp)
                 ·
                  rw [if_neg c46] at H
                  exact absurd H (by simp)
                ·
                 rw [if_neg c45] at H
                 exact absurd H (by simp)
              ·
               rw [if_neg c31] at H
               exact absurd H (by simp)
             ·
              rw [if_neg c29] at H
              exact absurd H (by simp)
            ·
             rw [if_neg c28] at H
             exact absurd H (by simp)
           ·
            rw [if_neg c27] at H
            exact absurd H (by simp)
          ·
           rw [if_neg c26] at H
           have c26b0 : decide (x9_3 < 32) = false:=decide_eq_false c26
           clear c26
           replace H:=Option.bind_eq_some_iff.mp H
           obtain ⟨t369,A560,H⟩:=H
           replace H : (spec_CheckSignature.l1 k3 a0 t369 a2_0 0 a2_0 l2_1 l2_2 l2_3) = some r:=H
           have A56:=qe11 A560
           clear A560
           have H':=qe11 H
           clear H
           obtain ⟨Ao57,co57,eo57⟩:=Kd.R_slice HO_8.out
           subst eo57
           go_wp2_with (first|((with_reducible refine gate_callee (f:=54) rfl ?_);refine goesL_ (some 85) rfl rfl Tryd.func54 (by kernel_rfl) rfl #[.slice Ao57 x8_3.length co57] rfl (by (try simp only [List.map_toArray,List.map_cons,List.map_nil]);first|done|rfl|(simp only [List.length_drop,List.length_take];rfl)) ?_;(with_reducible refine (spec_l01Hash.calls _ _ x8_3 t369 _ ?side1 ?side2 A56.out).mono ?_);(case side1 => repeat (first|exact (Kd.R_reads' HO_8.out).2.2|(with_reducible refine Kd.C_alloc ?_ _)|(with_reducible refine Kd.C_drewN ?_ _)|(with_reducible refine Kd.C_drew ?_)));(case side2 => exact (Kd.R_reads' HO_8.out).2.1);rintro e w58 ⟨rfl,hb⟩;refine ⟨_,rfl,?_⟩;have n0_:=qe11 (Kd.R_below (by (with_reducible repeat (first|apply Kd.R_alloc|apply Kd.R_drewN|apply Kd.R_drew));exact HO_8.out) hb);have n1_:=qe11 (blk_below (g:=gb341) (o:=.cells #[.int .i64 a2_0,.slice A2_1 l2_1.length c2_1,.slice A2_2 l2_2.length c2_2,.slice A2_3 l2_3.length c2_3] 33 (0,0)) (by (with_reducible repeat (first|apply blk_drewN|apply blk_drew|apply blk_alloc));exact BK341.out) hb);have n2_:=qe11 (below_step (by repeat (first|(with_reducible first|exact HB.out|apply qa11|apply qb11|apply qc11|refine qd11 ?_ GE341.out)|exact HB.out)) hb);clear HO_8;clear BK341;clear HB;have HO_8:=n0_;have BK341:=n1_;have HB:=n2_;clear n0_ n1_ n2_;(try clear hb);(try clear hb2);(try clear hk);(try clear hi);have hcz59_0 : w58.cell? ⟨gb341,0,none⟩ = some (.int .i64 a2_0):=(blk_cell BK341.out 0).trans rfl;have hcz59_1 : w58.cell? ⟨gb341,1,none⟩ = some (.slice A2_1 l2_1.length c2_1):=(blk_cell BK341.out 1).trans rfl;have hcz59_2 : w58.cell? ⟨gb341,2,none⟩ = some (.slice A2_2 l2_2.length c2_2):=(blk_cell BK341.out 2).trans rfl;have hcz59_3 : w58.cell? ⟨gb341,3,none⟩ = some (.slice A2_3 l2_3.length c2_3):=(blk_cell BK341.out 3).trans rfl;have hfz59_0:=blk_frozen BK341.out 0;have hfz59_1:=blk_frozen BK341.out 1;have hfz59_2:=blk_frozen BK341.out 2;have hfz59_3:=blk_frozen BK341.out 3))
           go_loopg [11,12,13] k3 (fun kq v11 v12 v13 w' => ∃ (x11_4 : ByteArray) (x12_4 : Int) (x13_4 : Int),v11 = .string x11_4 ∧ v12 = .int .i64 x12_4 ∧ v13 = .int .i64 x13_4 ∧ Aside0 (spec_CheckSignature.l1 kq a0 x11_4 x12_4 x13_4 a2_0 l2_1 l2_2 l2_3 = some r) ∧ Aside0 (kq ≤ k3) ∧ Aside0 (w'.heap[gb341]? = some (.cells #[.int .i64 a2_0,(.slice A2_1 l2_1.length c2_1),(.slice A2_2 l2_2.length c2_2),(.slice A2_3 l2_3.length c2_3)] 33 (0,0))) ∧ Aside0 (Below w.heap.size w w'))
           case atStart => exact ⟨(t369),(a2_0),(0),(by first|rfl|(simp;done)|(simp [*];done)),(by first|rfl|(simp;done)|(simp [*];done)),(by first|rfl|(simp;done)|(simp [*];done)),H',⟨Nat.le_refl _⟩,⟨by (with_reducible repeat (first|apply blk_drewN|apply blk_drew|apply blk_alloc));exact BK341.out⟩,⟨by repeat (first|(with_reducible first|exact HB.out|apply qa11|apply qb11|apply qc11|refine qd11 ?_ GE341.out)|exact HB.out)⟩⟩
           case round =>
            clear H'
            try clear c1
            try clear c2
            try clear p2
            try clear c3
            try clear p3
            try clear q3
            try clear hx3
            try clear c4
            try clear c5
            try clear c6
            try clear c6b0
            try clear c6b1
            try clear p6
            try clear c7
            try clear c9
            try clear c9b0
            try clear c9b1
            try clear c11
            try clear c13
            try clear c18
            try clear c20
            try clear c26
            try clear c26b0
            try clear c27
            try clear c27b0
            try clear c28
            try clear c28b0
            try clear c29
            try clear c29b0
            try clear c29b1
            try clear c29b2
            try clear c31
            try clear c31b0
            try clear p32
            try clear q32
            try clear hx32
            try clear c33
            try clear c33b0
            try clear c33b1
            try clear c34
            try clear c35
            try clear c35b0
            try clear p35
            try clear q35
            try clear hx35
            try clear c36
            try clear p36
            try clear q36
            try clear hx36
            try clear c45
            try clear c45b0
            try clear c46
            try clear c47
            try clear c54
            try clear hcz15_0
            try clear hcz15_1
            try clear hcz15_2
            try clear hcz15_3
            try clear hcz16_0
            try clear hcz16_1
            try clear hcz16_2
            try clear hcz16_3
            try clear hcz17_0
            try clear hcz17_1
            try clear hcz17_2
            try clear hcz17_3
            try clear hcz22_0
            try clear hcz22_1
            try clear hcz22_2
            try clear hcz22_3
            try clear hcz37_0
            try clear hcz37_1
            try clear hcz37_2
            try clear hcz37_3
            try clear hcz48_0
            try clear hcz48_1
            try clear hcz48_2
            try clear hcz48_3
            try clear hcz53_0
            try clear hcz53_1
            try clear hcz53_2
            try clear hcz53_3
            try clear hcz59_0
            try clear hcz59_1
            try clear hcz59_2
            try clear hcz59_3
            try clear hfz15_0
            try clear hfz15_1
            try clear hfz15_2
            try clear hfz15_3
            try clear hfz16_0
            try clear hfz16_1
            try clear hfz16_2
            try clear hfz16_3
            try clear hfz17_0
            try clear hfz17_1
            try clear hfz17_2
            try clear hfz17_3
            try clear hfz22_0
            try clear hfz22_1
            try clear hfz22_2
            try clear hfz22_3
            try clear hfz37_0
            try clear hfz37_1
            try clear hfz37_2
            try clear hfz37_3
            try clear hfz48_0
            try clear hfz48_1
            try clear hfz48_2
            try clear hfz48_3
            try clear hfz53_0
            try clear hfz53_1
            try clear hfz53_2
            try clear hfz53_3
            try clear hfz59_0
            try clear hfz59_1
            try clear hfz59_2
            try clear hfz59_3
            try clear hx350_0
            try clear hx358_0
            try clear hx362_0
            try clear p2
            try clear p32
            try clear p350
            try clear p358
            try clear p362
            try clear q32
            try clear q350
            try clear q358
            try clear q362
            obtain ⟨x11_4,x12_4,x13_4,rfl,rfl,rfl,HA,HK4,BK341,HB⟩:=hrel
            cases gk with
            | zero => exact absurd HA.out (by simp [spec_CheckSignature.l1])
            | succ k4 =>
             have H:=HA.out
             clear HA
             simp only [spec_CheckSignature.l1] at H
             by_cases c60 : x13_4 < 3
             ·
              rw [if_pos c60] at H
              have c60b0 : decide (x13_4 < 3) = true:=decide_eq_true c60
              clear c60
              by_cases c61 : (Int.tmod x12_4 2) = 0
              ·
               rw [if_pos c61] at H
               have c61b0 : ((Int.tmod x12_4 2) == 0) = true:=beq_iff_eq.mpr c61
               have c61b1 : ((Int.tmod x12_4 2) != 0) = false:=bne_eq_false_iff_eq.mpr c61
               clear c61
               by_cases c62 : 0 ≤ x13_4
               ·
                rw [if_pos c62] at H
                have c62b0 : decide (0 ≤ x13_4) = true:=decide_eq_true c62
                clear c62
                by_cases c63 : x13_4 < (l2_3.length : Int)
                ·
                 rw [if_pos c63] at H
                 have c63b0 : decide (x13_4 < (l2_3.length : Int)) = true:=decide_eq_true c63
                 clear c63
                 replace H:=Option.bind_eq_some_iff.mp H
                 obtain ⟨t371,A640,H⟩:=H
                 replace H : (spec_CheckSignature.l1 k4 a0 t371 (wrap64 (Int.tdiv x12_4 2)) (wrap64 (x13_4 + 1)) a2_0 l2_1 l2_2 l2_3) = some r:=H
                 have A64:=qe11 A640
                 clear A640
                 have H':=qe11 H
                 clear H
                 have hcz65_0 : wr.cell? ⟨gb341,0,none⟩ = some (.int .i64 a2_0):=(blk_cell BK341.out 0).trans rfl
                 have hcz65_1 : wr.cell? ⟨gb341,1,none⟩ = some (.slice A2_1 l2_1.length c2_1):=(blk_cell BK341.out 1).trans rfl
                 have hcz65_2 : wr.cell? ⟨gb341,2,none⟩ = some (.slice A2_2 l2_2.length c2_2):=(blk_cell BK341.out 2).trans rfl
                 have hcz65_3 : wr.cell? ⟨gb341,3,none⟩ = some (.slice A2_3 l2_3.length c2_3):=(blk_cell BK341.out 3).trans rfl
                 have hfz65_0:=blk_frozen BK341.out 0
                 have hfz65_1:=blk_frozen BK341.out 1
                 have hfz65_2:=blk_frozen BK341.out 2
                 have hfz65_3:=blk_frozen BK341.out 3
                 have p370 : 0 ≤ (x13_4 : Int):=of_decide_eq_true (by first|(with_reducible assumption)|assumption)
                 have q370 : x13_4 < (l2_3.length : Int):=of_decide_eq_true (by first|(with_reducible assumption)|assumption)
                 obtain ⟨ad370,e370,hx370_0⟩:=Kd.at_string HR2_3.out x13_4 p370 q370
                 cases e370
                 replace hx370_0:=(HB.out.cell (World.block_lt_of_cell? w _ hx370_0)).trans hx370_0
                 replace p370:=eq_true p370
                 replace q370:=eq_true q370
                 go_wp2_with (first|((with_reducible refine gate_callee (f:=77) rfl ?_);refine goesL_ (some 101) rfl rfl Tryd.func77 (by kernel_rfl) rfl #[.string x11_4,.string (rdOf ByteArray.empty l2_3 x13_4)] rfl (by (try simp only [List.map_toArray,List.map_cons,List.map_nil]);first|done|rfl|(simp only [List.length_drop,List.length_take];rfl)) ?_;(with_reducible refine (spec_l03Node.calls x11_4 (rdOf ByteArray.empty l2_3 x13_4) t371 _ A64.out).mono ?_);rintro e w66 ⟨rfl,hb⟩;refine ⟨_,rfl,?_⟩;have n0_:=qe11 (blk_below (g:=gb341) (o:=.cells #[.int .i64 a2_0,.slice A2_1 l2_1.length c2_1,.slice A2_2 l2_2.length c2_2,.slice (some ad370) l2_3.length c2_3] 33 (0,0)) (by (with_reducible repeat (first|apply blk_drewN|apply blk_drew|apply blk_alloc));exact BK341.out) hb);have n1_:=qe11 (below_step (by repeat (first|(with_reducible first|exact HB.out|apply qa11|apply qb11|apply qc11|refine qd11 ?_ GE341.out)|exact HB.out)) hb);clear BK341;clear HB;have BK341:=n0_;have HB:=n1_;clear n0_ n1_;(try clear hb);(try clear hb2);(try clear hk);(try clear hi)))
                 go_roundg k4
                 case measure => have:=HJ3.out;have:=HJ7.out;have:=HK3.out;have:=HK4.out;omega
                 case rel => exact ⟨(t371),(wrap64 (Int.tdiv x12_4 2)),(wrap64 (x13_4 + 1)),(by first|rfl|(simp;done)|(simp [*];done)),(by first|rfl|(simp;done)|(simp [*];done)),(by first|rfl|(simp;done)|(simp [*];done)),H',⟨by have:=HJ3.out;have:=HJ7.out;have:=HK3.out;have:=HK4.out;omega⟩,⟨by (with_reducible repeat (first|apply blk_drewN|apply blk_drew|apply blk_alloc));exact BK341.out⟩,⟨by repeat (first|(with_reducible first|exact HB.out|apply qa11|apply qb11|apply qc11|refine qd11 ?_ GE341.out)|exact HB.out)⟩⟩
                ·
                 rw [if_neg c63] at H
                 exact absurd H (by simp)
               ·
                rw [if_neg c62] at H
                exact absurd H (by simp)
              ·
               rw [if_neg c61] at H
               have c61b0 : ((Int.tmod x12_4 2) == 0) = false:=beq_eq_false_iff_ne.mpr c61
               have c61b1 : ((Int.tmod x12_4 2) != 0) = true:=bne_iff_ne.mpr c61
               by_cases c67 : 0 ≤ x13_4
               ·
                rw [if_pos c67] at H
                have c67b0 : decide (0 ≤ x13_4) = true:=decide_eq_true c67
                clear c67
                by_cases c68 : x13_4 < (l2_3.length : Int)
                ·
                 rw [if_pos c68] at H
                 have c68b0 : decide (x13_4 < (l2_3.length : Int)) = true:=decide_eq_true c68
                 clear c68
                 replace H:=Option.bind_eq_some_iff.mp H
                 obtain ⟨t373,A690,H⟩:=H
                 replace H : (spec_CheckSignature.l1 k4 a0 t373 (wrap64 (Int.tdiv x12_4 2)) (wrap64 (x13_4 + 1)) a2_0 l2_1 l2_2 l2_3) = some r:=H
                 have A69:=qe11 A690
                 clear A690
                 have H':=qe11 H
                 clear H
                 have hcz70_0 : wr.cell? ⟨gb341,0,none⟩ = some (.int .i64 a2_0):=(blk_cell BK341.out 0).trans rfl
                 have hcz70_1 : wr.cell? ⟨gb341,1,none⟩ = some (.slice A2_1 l2_1.length c2_1):=(blk_cell BK341.out 1).trans rfl
                 have hcz70_2 : wr.cell? ⟨gb341,2,none⟩ = some (.slice A2_2 l2_2.length c2_2):=(blk_cell BK341.out 2).trans rfl
                 have hcz70_3 : wr.cell? ⟨gb341,3,none⟩ = some (.slice A2_3 l2_3.length c2_3):=(blk_cell BK341.out 3).trans rfl
                 have hfz70_0:=blk_frozen BK341.out 0
                 have hfz70_1:=blk_frozen BK341.out 1
                 have hfz70_2:=blk_frozen BK341.out 2
                 have hfz70_3:=blk_frozen BK341.out 3
                 have p372 : 0 ≤ (x13_4 : Int):=of_decide_eq_true (by first|(with_reducible assumption)|assumption)
                 have q372 : x13_4 < (l2_3.length : Int):=of_decide_eq_true (by first|(with_reducible assumption)|assumption)
                 obtain ⟨ad372,e372,hx372_0⟩:=Kd.at_string HR2_3.out x13_4 p372 q372
                 cases e372
                 replace hx372_0:=(HB.out.cell (World.block_lt_of_cell? w _ hx372_0)).trans hx372_0
                 replace p372:=eq_true p372
                 replace q372:=eq_true q372
                 go_wp2_with (first|((with_reducible refine gate_callee (f:=77) rfl ?_);refine goesL_ (some 108) rfl rfl Tryd.func77 (by kernel_rfl) rfl #[.string (rdOf ByteArray.empty l2_3 x13_4),.string x11_4] rfl (by (try simp only [List.map_toArray,List.map_cons,List.map_nil]);first|done|rfl|(simp only [List.length_drop,List.length_take];rfl)) ?_;(with_reducible refine (spec_l03Node.calls (rdOf ByteArray.empty l2_3 x13_4) x11_4 t373 _ A69.out).mono ?_);rintro e w71 ⟨rfl,hb⟩;refine ⟨_,rfl,?_⟩;have n0_:=qe11 (blk_below (g:=gb341) (o:=.cells #[.int .i64 a2_0,.slice A2_1 l2_1.length c2_1,.slice A2_2 l2_2.length c2_2,.slice (some ad372) l2_3.length c2_3] 33 (0,0)) (by (with_reducible repeat (first|apply blk_drewN|apply blk_drew|apply blk_alloc));exact BK341.out) hb);have n1_:=qe11 (below_step (by repeat (first|(with_reducible first|exact HB.out|apply qa11|apply qb11|apply qc11|refine qd11 ?_ GE341.out)|exact HB.out)) hb);clear BK341;clear HB;have BK341:=n0_;have HB:=n1_;clear n0_ n1_;(try clear hb);(try clear hb2);(try clear hk);(try clear hi)))
                 go_roundg k4
                 case measure => have:=HJ3.out;have:=HJ7.out;have:=HK3.out;have:=HK4.out;omega
                 case rel => exact ⟨(t373),(wrap64 (Int.tdiv x12_4 2)),(wrap64 (x13_4 + 1)),(by first|rfl|(simp;done)|(simp [*];done)),(by first|rfl|(simp;done)|(simp [*];done)),(by first|rfl|(simp;done)|(simp [*];done)),H',⟨by have:=HJ3.out;have:=HJ7.out;have:=HK3.out;have:=HK4.out;omega⟩,⟨by (with_reducible repeat (first|apply blk_drewN|apply blk_drew|apply blk_alloc));exact BK341.out⟩,⟨by repeat (first|(with_reducible first|exact HB.out|apply qa11|apply qb11|apply qc11|refine qd11 ?_ GE341.out)|exact HB.out)⟩⟩
                ·
                 rw [if_neg c68] at H
                 exact absurd H (by simp)
               ·
                rw [if_neg c67] at H
                exact absurd H (by simp)
             ·
              rw [if_neg c60] at H
              have c60b0 : decide (x13_4 < 3) = false:=decide_eq_false c60
              clear c60
              by_cases c72 : x11_4.toList = a0.toList
              ·
               rw [if_pos c72] at H
               have c72b0 : (x11_4.toList == a0.toList) = true:=beq_iff_eq.mpr c72
               have c72b1 : (x11_4.toList != a0.toList) = false:=bne_eq_false_iff_eq.mpr c72
               clear c72
               obtain rfl:=Option.some.inj H
               go_wp2
               go_ret
               exact ⟨by first|rfl|(simp [errW_none,errW_some] <;> rfl)|(simp [*,errW_none,errW_some] <;> rfl),by repeat (first|(with_reducible first|exact HB.out|apply qa11|apply qb11|apply qc11|refine qd11 ?_ GE341.out)|exact HB.out)⟩
              ·
               rw [if_neg c72] at H
               have c72b0 : (x11_4.toList == a0.toList) = false:=beq_eq_false_iff_ne.mpr c72
               have c72b1 : (x11_4.toList != a0.toList) = true:=bne_iff_ne.mpr c72
               obtain rfl:=Option.some.inj H
               go_wp2
               go_ret
               exact ⟨by first|rfl|(simp [errW_none,errW_some] <;> rfl)|(simp [*,errW_none,errW_some] <;> rfl),by repeat (first|(with_reducible first|exact HB.out|apply qa11|apply qb11|apply qc11|refine qd11 ?_ GE341.out)|exact HB.out)⟩
       ·
        replace c20:=Bool.eq_false_iff.mpr c20
        subst c20
        have H1 : (some 4) = some r:=by rw [if_neg (show ¬ (false = true) by decide)] at H;exact H
        clear H
        have H:=H1
        clear H1
        obtain rfl:=Option.some.inj H
        have hcz73_0 : wc.cell? ⟨gb341,0,none⟩ = some (.int .i64 a2_0):=(blk_cell BK341.out 0).trans rfl
        have hcz73_1 : wc.cell? ⟨gb341,1,none⟩ = some (.slice A2_1 l2_1.length c2_1):=(blk_cell BK341.out 1).trans rfl
        have hcz73_2 : wc.cell? ⟨gb341,2,none⟩ = some (.slice A2_2 l2_2.length c2_2):=(blk_cell BK341.out 2).trans rfl
        have hcz73_3 : wc.cell? ⟨gb341,3,none⟩ = some (.slice A2_3 l2_3.length c2_3):=(blk_cell BK341.out 3).trans rfl
        have hfz73_0:=blk_frozen BK341.out 0
        have hfz73_1:=blk_frozen BK341.out 1
        have hfz73_2:=blk_frozen BK341.out 2
        have hfz73_3:=blk_frozen BK341.out 3
        go_wp2_with (first|((with_reducible refine gate_callee (f:=60) rfl ?_);refine goesL_ (some 45) rfl rfl Tryd.func60 (by kernel_rfl) rfl #[.int .i64 a2_0,.int .i64 0,.int .i64 7] rfl (by (try simp only [List.map_toArray,List.map_cons,List.map_nil]);first|done|rfl|(simp only [List.length_drop,List.length_take];rfl)) ?_;(with_reducible refine (spec_l01In.calls a2_0 0 7 false _ A19.out).mono ?_);rintro e w' ⟨rfl,⟨nd,rfl⟩⟩;refine ⟨_,rfl,?_⟩))
        go_ret
        exact ⟨by first|rfl|(simp [errW_none,errW_some] <;> rfl)|(simp [*,errW_none,errW_some] <;> rfl),by repeat (first|(with_reducible first|exact HB.out|apply qa11|apply qb11|apply qc11|refine qd11 ?_ GE341.out)|exact HB.out)⟩

end Go.Proofs.YtmkaknegjahjaaaDoor.PFnLamport
