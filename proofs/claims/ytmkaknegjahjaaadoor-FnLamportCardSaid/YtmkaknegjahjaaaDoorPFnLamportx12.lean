-- laid by this session's program myprint.py over the kit's printer
-- aliased
-- squeezed
import Derived.Test.YtmkaknegjahjaaaDoorPFnLamportx0
import Derived.Test.YtmkaknegjahjaaaDoorPFnLamportx1
import Derived.Test.YtmkaknegjahjaaaDoorPFnLamportx4
import Derived.Test.YtmkaknegjahjaaaDoorPFnLamportx5
import Derived.Test.YtmkaknegjahjaaaDoorPFnLamportx8
import Derived.Test.YtmkaknegjahjaaaDoorPFnLamportx10
import Derived.Test.YtmkaknegjahjaaaDoorPFnLamportx11
namespace Go.Proofs.YtmkaknegjahjaaaDoor.PFnLamport
open Go.RowKit Go.Proofs.YtmkaknegjahjaaaDoorV.PrintWords Go.Proofs.YtmkaknegjahjaaaDoorV.PrintLast Go.Proofs.YtmkaknegjahjaaaDoorV.PrintMore
attribute [local go_sem] max2_int min2_int max_two min_two max_three min_three max_four min_four u8_wm u32_wm   -- for this text's walks alone
set_option linter.unusedVariables false
set_option linter.unusedSimpArgs false

/-! ### laws_FnLamport: function 5 -/
theorem qa12 : type_of% @blk_drewN:=@blk_drewN
theorem qb12 : type_of% @blk_drew:=@blk_drew
theorem qc12 : type_of% @blk_alloc:=@blk_alloc
theorem qd12 : type_of% @Kd.R_alloc:=@Kd.R_alloc
theorem qe12 : type_of% @Kd.R_drewN:=@Kd.R_drewN
theorem qf12 : type_of% @Kd.R_drew:=@Kd.R_drew
theorem qg12 : type_of% @below_alloc:=@below_alloc
theorem qh12 : type_of% @pw_below_drewN:=@pw_below_drewN
theorem qi12 : type_of% @below_drew1:=@below_drew1
theorem qj12 : type_of% @below_set:=@below_set
theorem qk12 : type_of% @Aside0.mk:=@Aside0.mk
theorem ql12 : type_of% @blk_below:=@blk_below
theorem qm12 : type_of% @Kd.R_below:=@Kd.R_below
theorem qn12 : type_of% @Kd.R_far:=@Kd.R_far
theorem qo12 : type_of% @Kd.R_types:=@Kd.R_types
theorem qp12 : type_of% @Kd.R_mono:=@Kd.R_mono
mutual
def laws_FnLamport.j0 : Nat → List Int → List Int → Bool → Option (Bool)
 | 0,_,_,_ => none
 | k + 1,x0,x1,x31 => if x31 = true then (some true) else ((spec_SeedOf.f x0).bind fun t374 => ((spec_MsgOf.f x1).bind fun t375 => ((laws_at.f x1 0 8).bind fun t376 => ((impl_ChainRoot.f k t374).bind fun bt377 => ((spec_ChainRoot.f k t374).bind fun bt379 => ((impl_SignAt.f k t374 t376 t375).bind fun bt381 => ((spec_SignAt.f k t374 t376 t375).bind fun bt393 => (if bt377.2 = 0 then (if bt377.1.toList = bt379.1.toList then (if bt381.2.2.2.2 = 0 then ((laws_sameSignature.f k bt381.1 bt381.2.1 bt381.2.2.1 bt381.2.2.2.1 bt393.1 bt393.2.1 bt393.2.2.1 bt393.2.2.2.1).bind fun t405 => (if t405 = true then ((impl_CheckSignature.f k bt377.1 t375 bt381.1 bt381.2.1 bt381.2.2.1 bt381.2.2.2.1).bind fun t406 => (laws_FnLamport.j1 k x1 t374 t375 t376 bt377.1 (t406 != 0) bt381.1 bt381.2.1 bt381.2.2.1 bt381.2.2.2.1)) else (laws_FnLamport.j1 k x1 t374 t375 t376 bt377.1 true bt381.1 bt381.2.1 bt381.2.2.1 bt381.2.2.2.1))) else (laws_FnLamport.j1 k x1 t374 t375 t376 bt377.1 true bt381.1 bt381.2.1 bt381.2.2.1 bt381.2.2.2.1)) else (laws_FnLamport.j1 k x1 t374 t375 t376 bt377.1 true bt381.1 bt381.2.1 bt381.2.2.1 bt381.2.2.2.1)) else (laws_FnLamport.j1 k x1 t374 t375 t376 bt377.1 true bt381.1 bt381.2.1 bt381.2.2.1 bt381.2.2.2.1)))))))))
def laws_FnLamport.j1 : Nat → List Int → ByteArray → ByteArray → Int → ByteArray → Bool → Int → List ByteArray → List ByteArray → List ByteArray → Option (Bool)
 | 0,_,_,_,_,_,_,_,_,_,_ => none
 | k + 1,x1,x5,x6,x7,x8,x85,x393000,x393001,x393002,x393003 => if x85 = true then (some false) else ((impl_MessageBits.f k x6).bind fun bt407 => ((laws_at.f x1 1 32).bind fun t409 => (if bt407.2 = 0 then (laws_FnLamport.j2 k x1 x5 x6 x7 x8 bt407.1 t409 ((bt407.1.size : Int) != 32) x393000 x393001 x393002 x393003) else (laws_FnLamport.j2 k x1 x5 x6 x7 x8 bt407.1 t409 true x393000 x393001 x393002 x393003))))
def laws_FnLamport.j2 : Nat → List Int → ByteArray → ByteArray → Int → ByteArray → ByteArray → Int → Bool → Int → List ByteArray → List ByteArray → List ByteArray → Option (Bool)
 | 0,_,_,_,_,_,_,_,_,_,_,_,_ => none
 | k + 1,x1,x5,x6,x7,x8,x16,x18,x99,x393000,x393001,x393002,x393003 => if x99 = true then (some false) else (if 0 ≤ x18 then (if x18 < (x16.size : Int) then ((impl_SecretAt.f k x5 x7 x18 (((bt x16 x18) - 48) % 256)).bind fun bt410 => ((impl_SecretAt.f k x5 x7 x18 (wrap64 (1 - (((bt x16 x18) - 48) % 256)))).bind fun bt412 => (if bt410.2 = 0 then (if bt412.2 = 0 then (if x18 < (x393001.length : Int) then (if (rdOf ByteArray.empty x393001 x18).toList = bt410.1.toList then (if x18 < (x393002.length : Int) then (if bt412.1.size ≤ 9223372036854775807 then ((impl_Hash.f (bytesOf bt412.1)).bind fun t419 => (laws_FnLamport.j3 k x1 x6 x8 ((rdOf ByteArray.empty x393002 x18).toList != t419.toList) x393000 x393001 x393002 x393003)) else (none)) else (none)) else (laws_FnLamport.j3 k x1 x6 x8 true x393000 x393001 x393002 x393003)) else (none)) else (laws_FnLamport.j3 k x1 x6 x8 true x393000 x393001 x393002 x393003)) else (laws_FnLamport.j3 k x1 x6 x8 true x393000 x393001 x393002 x393003)))) else (none)) else (none))
def laws_FnLamport.j3 : Nat → List Int → ByteArray → ByteArray → Bool → Int → List ByteArray → List ByteArray → List ByteArray → Option (Bool)
 | 0,_,_,_,_,_,_,_,_ => none
 | k + 1,x1,x6,x8,x150,x393000,x393001,x393002,x393003 => if x150 = true then (some false) else (if x6.size + 1 ≤ 9223372036854775807 then ((impl_CheckSignature.f k x8 (x6 ++ (⟨#[33]⟩ : ByteArray)) x393000 x393001 x393002 x393003).bind fun t420 => ((spec_CheckSignature.f k x8 (x6 ++ (⟨#[33]⟩ : ByteArray)) x393000 x393001 x393002 x393003).bind fun t421 => (if t420 = t421 then ((laws_at.f x1 2 8).bind fun t423 => ((impl_CheckSignature.f k x8 x6 t423 x393001 x393002 x393003).bind fun t424 => ((spec_CheckSignature.f k x8 x6 t423 x393001 x393002 x393003).bind fun t425 => (some (t424 == t425))))) else (some false)))) else (none))
end
def laws_FnLamport.f (k : Nat) (l0 : List Int) (l1 : List Int) : Option (Bool):=if (l0.length : Int) > 1048576 then (laws_FnLamport.j0 k l0 l1 true) else (laws_FnLamport.j0 k l0 l1 (decide ((l1.length : Int) > 1048576)))
theorem laws_FnLamport.mono_l : ∀ k,(∀ y0 y1 y2,LeO (laws_FnLamport.j0 k y0 y1 y2) (laws_FnLamport.j0 (k + 1) y0 y1 y2)) ∧ (∀ y0 y1 y2 y3 y4 y5 y6 y7 y8 y9,LeO (laws_FnLamport.j1 k y0 y1 y2 y3 y4 y5 y6 y7 y8 y9) (laws_FnLamport.j1 (k + 1) y0 y1 y2 y3 y4 y5 y6 y7 y8 y9)) ∧ (∀ y0 y1 y2 y3 y4 y5 y6 y7 y8 y9 y10 y11,LeO (laws_FnLamport.j2 k y0 y1 y2 y3 y4 y5 y6 y7 y8 y9 y10 y11) (laws_FnLamport.j2 (k + 1) y0 y1 y2 y3 y4 y5 y6 y7 y8 y9 y10 y11)) ∧ (∀ y0 y1 y2 y3 y4 y5 y6 y7,LeO (laws_FnLamport.j3 k y0 y1 y2 y3 y4 y5 y6 y7) (laws_FnLamport.j3 (k + 1) y0 y1 y2 y3 y4 y5 y6 y7))
 | 0 => ⟨fun _ _ _ r h => by simp [laws_FnLamport.j0] at h,fun _ _ _ _ _ _ _ _ _ _ r h => by simp [laws_FnLamport.j1] at h,fun _ _ _ _ _ _ _ _ _ _ _ _ r h => by simp [laws_FnLamport.j2] at h,fun _ _ _ _ _ _ _ _ r h => by simp [laws_FnLamport.j3] at h⟩
 | k + 1 => by
  obtain ⟨ih0,ih1,ih2,ih3⟩:=laws_FnLamport.mono_l k
  refine ⟨?_,?_,?_,?_⟩
  ·
   intro y0 y1 y2
   unfold laws_FnLamport.j0
   repeat' first
   | (with_reducible exact ih0 _ _ _)
   | (with_reducible exact ih1 _ _ _ _ _ _ _ _ _ _)
   | (with_reducible exact ih2 _ _ _ _ _ _ _ _ _ _ _ _)
   | (with_reducible exact ih3 _ _ _ _ _ _ _ _)
   | (with_reducible exact impl_ChainRoot.mono _ _)
   | (with_reducible exact impl_CheckSignature.mono _ _ _ _ _ _ _)
   | (with_reducible exact impl_MessageBits.mono _ _)
   | (with_reducible exact impl_SecretAt.mono _ _ _ _ _)
   | (with_reducible exact impl_SignAt.mono _ _ _ _)
   | (with_reducible exact laws_sameSignature.mono _ _ _ _ _ _ _ _ _)
   | (with_reducible exact spec_ChainRoot.mono _ _)
   | (with_reducible exact spec_CheckSignature.mono _ _ _ _ _ _ _)
   | (with_reducible exact spec_SignAt.mono _ _ _ _)
   | (with_reducible exact LeO.refl _)
   | (with_reducible exact LeO.none _)
   | (with_reducible refine LeO.ite ?_ ?_)
   | (with_reducible refine LeO.bind ?_ (fun _ => ?_))
   | exact ih0 _ _ _
   | exact ih1 _ _ _ _ _ _ _ _ _ _
   | exact ih2 _ _ _ _ _ _ _ _ _ _ _ _
   | exact ih3 _ _ _ _ _ _ _ _
   | exact impl_ChainRoot.mono _ _
   | exact impl_CheckSignature.mono _ _ _ _ _ _ _
   | exact impl_MessageBits.mono _ _
   | exact impl_SecretAt.mono _ _ _ _ _
   | exact impl_SignAt.mono _ _ _ _
   | exact laws_sameSignature.mono _ _ _ _ _ _ _ _ _
   | exact spec_ChainRoot.mono _ _
   | exact spec_CheckSignature.mono _ _ _ _ _ _ _
   | exact spec_SignAt.mono _ _ _ _
   | exact LeO.none _
   | refine LeO.ite ?_ ?_
   | refine LeO.bind ?_ (fun _ => ?_)
  ·
   intro y0 y1 y2 y3 y4 y5 y6 y7 y8 y9
   unfold laws_FnLamport.j1
   repeat' first
   | (with_reducible exact ih0 _ _ _)
   | (with_reducible exact ih1 _ _ _ _ _ _ _ _ _ _)
   | (with_reducible exact ih2 _ _ _ _ _ _ _ _ _ _ _ _)
   | (with_reducible exact ih3 _ _ _ _ _ _ _ _)
   | (with_reducible exact impl_ChainRoot.mono _ _)
   | (with_reducible exact impl_CheckSignature.mono _ _ _ _ _ _ _)
   | (with_reducible exact impl_MessageBits.mono _ _)
   | (with_reducible exact impl_SecretAt.mono _ _ _ _ _)
   | (with_reducible exact impl_SignAt.mono _ _ _ _)
   | (with_reducible exact laws_sameSignature.mono _ _ _ _ _ _ _ _ _)
   | (with_reducible exact spec_ChainRoot.mono _ _)
   | (with_reducible exact spec_CheckSignature.mono _ _ _ _ _ _ _)
   | (with_reducible exact spec_SignAt.mono _ _ _ _)
   | (with_reducible exact LeO.refl _)
   | (with_reducible exact LeO.none _)
   | (with_reducible refine LeO.ite ?_ ?_)
   | (with_reducible refine LeO.bind ?_ (fun _ => ?_))
   | exact ih0 _ _ _
   | exact ih1 _ _ _ _ _ _ _ _ _ _
   | exact ih2 _ _ _ _ _ _ _ _ _ _ _ _
   | exact ih3 _ _ _ _ _ _ _ _
   | exact impl_ChainRoot.mono _ _
   | exact impl_CheckSignature.mono _ _ _ _ _ _ _
   | exact impl_MessageBits.mono _ _
   | exact impl_SecretAt.mono _ _ _ _ _
   | exact impl_SignAt.mono _ _ _ _
   | exact laws_sameSignature.mono _ _ _ _ _ _ _ _ _
   | exact spec_ChainRoot.mono _ _
   | exact spec_CheckSignature.mono _ _ _ _ _ _ _
   | exact spec_SignAt.mono _ _ _ _
   | exact LeO.none _
   | refine LeO.ite ?_ ?_
   | refine LeO.bind ?_ (fun _ => ?_)
  ·
   intro y0 y1 y2 y3 y4 y5 y6 y7 y8 y9 y10 y11
   unfold laws_FnLamport.j2
   repeat' first
   | (with_reducible exact ih0 _ _ _)
   | (with_reducible exact ih1 _ _ _ _ _ _ _ _ _ _)
   | (with_reducible exact ih2 _ _ _ _ _ _ _ _ _ _ _ _)
   | (with_reducible exact ih3 _ _ _ _ _ _ _ _)
   | (with_reducible exact impl_ChainRoot.mono _ _)
   | (with_reducible exact impl_CheckSignature.mono _ _ _ _ _ _ _)
   | (with_reducible exact impl_MessageBits.mono _ _)
   | (with_reducible exact impl_SecretAt.mono _ _ _ _ _)
   | (with_reducible exact impl_SignAt.mono _ _ _ _)
   | (with_reducible exact laws_sameSignature.mono _ _ _ _ _ _ _ _ _)
   | (with_reducible exact spec_ChainRoot.mono _ _)
   | (with_reducible exact spec_CheckSignature.mono _ _ _ _ _ _ _)
   | (with_reducible exact spec_SignAt.mono _ _ _ _)
   | (with_reducible exact LeO.refl _)
   | (with_reducible exact LeO.none _)
   | (with_reducible refine LeO.ite ?_ ?_)
   | (with_reducible refine LeO.bind ?_ (fun _ => ?_))
   | exact ih0 _ _ _
   | exact ih1 _ _ _ _ _ _ _ _ _ _
   | exact ih2 _ _ _ _ _ _ _ _ _ _ _ _
   | exact ih3 _ _ _ _ _ _ _ _
   | exact impl_ChainRoot.mono _ _
   | exact impl_CheckSignature.mono _ _ _ _ _ _ _
   | exact impl_MessageBits.mono _ _
   | exact impl_SecretAt.mono _ _ _ _ _
   | exact impl_SignAt.mono _ _ _ _
   | exact laws_sameSignature.mono _ _ _ _ _ _ _ _ _
   | exact spec_ChainRoot.mono _ _
   | exact spec_CheckSignature.mono _ _ _ _ _ _ _
   | exact spec_SignAt.mono _ _ _ _
   | exact LeO.none _
   | refine LeO.ite ?_ ?_
   | refine LeO.bind ?_ (fun _ => ?_)
  ·
   intro y0 y1 y2 y3 y4 y5 y6 y7
   unfold laws_FnLamport.j3
   repeat' first
   | (with_reducible exact ih0 _ _ _)
   | (with_reducible exact ih1 _ _ _ _ _ _ _ _ _ _)
   | (with_reducible exact ih2 _ _ _ _ _ _ _ _ _ _ _ _)
   | (with_reducible exact ih3 _ _ _ _ _ _ _ _)
   | (with_reducible exact impl_ChainRoot.mono _ _)
   | (with_reducible exact impl_CheckSignature.mono _ _ _ _ _ _ _)
   | (with_reducible exact impl_MessageBits.mono _ _)
   | (with_reducible exact impl_SecretAt.mono _ _ _ _ _)
   | (with_reducible exact impl_SignAt.mono _ _ _ _)
   | (with_reducible exact laws_sameSignature.mono _ _ _ _ _ _ _ _ _)
   | (with_reducible exact spec_ChainRoot.mono _ _)
   | (with_reducible exact spec_CheckSignature.mono _ _ _ _ _ _ _)
   | (with_reducible exact spec_SignAt.mono _ _ _ _)
   | (with_reducible exact LeO.refl _)
   | (with_reducible exact LeO.none _)
   | (with_reducible refine LeO.ite ?_ ?_)
   | (with_reducible refine LeO.bind ?_ (fun _ => ?_))
   | exact ih0 _ _ _
   | exact ih1 _ _ _ _ _ _ _ _ _ _
   | exact ih2 _ _ _ _ _ _ _ _ _ _ _ _
   | exact ih3 _ _ _ _ _ _ _ _
   | exact impl_ChainRoot.mono _ _
   | exact impl_CheckSignature.mono _ _ _ _ _ _ _
   | exact impl_MessageBits.mono _ _
   | exact impl_SecretAt.mono _ _ _ _ _
   | exact impl_SignAt.mono _ _ _ _
   | exact laws_sameSignature.mono _ _ _ _ _ _ _ _ _
   | exact spec_ChainRoot.mono _ _
   | exact spec_CheckSignature.mono _ _ _ _ _ _ _
   | exact spec_SignAt.mono _ _ _ _
   | exact LeO.none _
   | refine LeO.ite ?_ ?_
   | refine LeO.bind ?_ (fun _ => ?_)
theorem laws_FnLamport.mono : ∀ a0 a1 k,LeO (laws_FnLamport.f k a0 a1) (laws_FnLamport.f (k + 1) a0 a1):=by
 intro a0 a1 k
 obtain ⟨ih0,ih1,ih2,ih3⟩:=laws_FnLamport.mono_l k
 unfold laws_FnLamport.f
 repeat' first
   | (with_reducible exact ih0 _ _ _)
   | (with_reducible exact ih1 _ _ _ _ _ _ _ _ _ _)
   | (with_reducible exact ih2 _ _ _ _ _ _ _ _ _ _ _ _)
   | (with_reducible exact ih3 _ _ _ _ _ _ _ _)
   | (with_reducible exact impl_ChainRoot.mono _ _)
   | (with_reducible exact impl_CheckSignature.mono _ _ _ _ _ _ _)
   | (with_reducible exact impl_MessageBits.mono _ _)
   | (with_reducible exact impl_SecretAt.mono _ _ _ _ _)
   | (with_reducible exact impl_SignAt.mono _ _ _ _)
   | (with_reducible exact laws_sameSignature.mono _ _ _ _ _ _ _ _ _)
   | (with_reducible exact spec_ChainRoot.mono _ _)
   | (with_reducible exact spec_CheckSignature.mono _ _ _ _ _ _ _)
   | (with_reducible exact spec_SignAt.mono _ _ _ _)
   | (with_reducible exact LeO.refl _)
   | (with_reducible exact LeO.none _)
   | (with_reducible refine LeO.ite ?_ ?_)
   | (with_reducible refine LeO.bind ?_ (fun _ => ?_))
   | exact ih0 _ _ _
   | exact ih1 _ _ _ _ _ _ _ _ _ _
   | exact ih2 _ _ _ _ _ _ _ _ _ _ _ _
   | exact ih3 _ _ _ _ _ _ _ _
   | exact impl_ChainRoot.mono _ _
   | exact impl_CheckSignature.mono _ _ _ _ _ _ _
   | exact impl_MessageBits.mono _ _
   | exact impl_SecretAt.mono _ _ _ _ _
   | exact impl_SignAt.mono _ _ _ _
   | exact laws_sameSignature.mono _ _ _ _ _ _ _ _ _
   | exact spec_ChainRoot.mono _ _
   | exact spec_CheckSignature.mono _ _ _ _ _ _ _
   | exact spec_SignAt.mono _ _ _ _
   | exact LeO.none _
   | refine LeO.ite ?_ ?_
   | refine LeO.bind ?_ (fun _ => ?_)
def laws_FnLamport.T18 : Bool × List (List Nat × List Nat):=(true,[([],[]),([0],[0]),([1],[1]),([2],[2]),([3,2],[2,3]),([2,4],[2,4]),([5,2],[5]),([6],[6]),([7,6],[6,7]),([6],[6]),([8,9,6],[6,8,9]),([10,6],[6,10]),([6],[6]),([11,12,6],[6,11,12]),([6,13],[6,13]),([14,6],[14]),([15],[15]),([16,15],[15,16]),([15],[15]),([17,18,15],[15,17,18]),([19,15],[15,19]),([15],[15]),([21,15],[15,21]),([22,15,15],[15,22]),([20,23,15],[15,20,23]),([15,24],[15,24])])
def laws_FnLamport.B18 : List Nat:=[0,1,3,7,15,31,63,127,255,127,1023,2047,127,8191,16383,32767,65535,131071,65535,524287,1048575,65535,2162687,6356991,16777215,33554431]
theorem laws_FnLamport.tab18 : rtab .any (opsOf Tryd.f5 18) = laws_FnLamport.T18:=by kernel_rfl
theorem laws_FnLamport.bits18 : waitsOk laws_FnLamport.T18.2 laws_FnLamport.B18 = true:=by kernel_rfl
def laws_FnLamport.T20 : Bool × List (List Nat × List Nat):=(true,[([],[]),([],[]),([1],[1]),([],[]),([0,2,3],[0,2,3]),([],[]),([],[]),([6],[6]),([],[]),([5,7,8,4],[5,7,8]),([4,9],[4,9])])
def laws_FnLamport.B20 : List Nat:=[0,0,2,0,15,0,0,64,0,511,1023]
theorem laws_FnLamport.tab20 : rtab .any (opsOf Tryd.f5 20) = laws_FnLamport.T20:=by kernel_rfl
theorem laws_FnLamport.bits20 : waitsOk laws_FnLamport.T20.2 laws_FnLamport.B20 = true:=by kernel_rfl
def laws_FnLamport.T24 : Bool × List (List Nat × List Nat):=(true,[([],[]),([],[]),([],[]),([0,1,2],[0,1,2]),([],[]),([],[]),([],[]),([4,5,6,3],[4,5,6]),([3,7],[3,7]),([8,7,0,1,2,3,4,5,6,7,8],[8])])
def laws_FnLamport.B24 : List Nat:=[0,0,0,7,0,0,0,127,255,511]
theorem laws_FnLamport.tab24 : rtab .any (opsOf Tryd.f5 24) = laws_FnLamport.T24:=by kernel_rfl
theorem laws_FnLamport.bits24 : waitsOk laws_FnLamport.T24.2 laws_FnLamport.B24 = true:=by kernel_rfl
set_option maxHeartbeats 8000000 in
set_option maxRecDepth 100000 in
theorem laws_FnLamport.calls (k : Nat) (A0 : Option Addr) (c0 : Nat) (l0 : List Int) (A1 : Option Addr) (c1 : Nat) (l1 : List Int) (r : Bool) (w : World) (hr0 : Kd.C (Kd.int .u8) w A0 l0.length l0) (hc0 : l0.length ≤ c0) (hr1 : Kd.C (Kd.int .u8) w A1 l1.length l1) (hc1 : l1.length ≤ c1) (hG_ : Go.Proofs.YtmkaknegjahjaaaDoor.Sha.GlobA w) (hr_ : r = true) (h : laws_FnLamport.f k l0 l1 = some r) :
  Calls Tryd.prog 5 #[.slice A0 l0.length c0,.slice A1 l1.length c1] w fun e w' => e = .returned (.bool r) ∧ Below w.heap.size w w':=by
 have hu33:=Tryd.underlying33
 have HR0:=qk12 hr0
 have HC0:=qk12 hc0
 clear hr0 hc0
 have HR1:=qk12 hr1
 have HC1:=qk12 hc1
 clear hr1 hc1
 have HB:=qk12 (Below.refl w.heap.size w)
 have H : (if (l0.length : Int) > 1048576 then (laws_FnLamport.j0 k l0 l1 true) else (laws_FnLamport.j0 k l0 l1 (decide ((l1.length : Int) > 1048576)))) = some r:=h
 clear h
 have HC3:=qk12 H
 clear H
 go_enter Tryd.func5,Tryd.ntmps5
 go_upto_region 1 with (fail)
 go_cut [31] (fun v31 wc => ∃ (kq : Nat) (x31_2 : Bool),v31 = .bool x31_2 ∧ Aside0 (laws_FnLamport.j0 kq l0 l1 x31_2 = some r) ∧ Aside0 (kq ≤ k) ∧ Aside0 (Below w.heap.size w wc))
 case first =>
  have H:=HC3.out
  clear HC3
  by_cases c4 : (l0.length : Int) > 1048576
  ·
   rw [if_pos c4] at H
   have c4b0 : decide (1048576 < (l0.length : Int)) = true:=decide_eq_true c4
   have c4b1 : decide (1048576 < l0.length) = true:=decide_eq_true (by omega)
   clear c4
   (first|rw [c4b0]|(simp only [i64_w,i32_w];rw [c4b0])|skip)
   have H':=qk12 H
   clear H
   go_wp2
   go_meet
   case rel => exact ⟨_,(true),(by first|rfl|(simp;done)|(simp [*];done)),H',⟨by first|omega|exact Nat.le_refl _⟩,⟨by repeat (first|(with_reducible first|exact HB.out|apply qg12|apply qh12|apply qi12)|exact HB.out)⟩⟩
  ·
   rw [if_neg c4] at H
   have c4b0 : decide (1048576 < (l0.length : Int)) = false:=decide_eq_false c4
   have c4b1 : decide (1048576 < l0.length) = false:=decide_eq_false (by omega)
   clear c4
   (first|rw [c4b0]|(simp only [i64_w,i32_w];rw [c4b0])|skip)
   have H':=qk12 H
   clear H
   go_wp2
   go_meet
   case rel => exact ⟨_,(decide ((l1.length : Int) > 1048576)),(by first|rfl|(simp;done)|(simp [*];done)),H',⟨by first|omega|exact Nat.le_refl _⟩,⟨by repeat (first|(with_reducible first|exact HB.out|apply qg12|apply qh12|apply qi12)|exact HB.out)⟩⟩
 case rest =>
  clear HC3
  try clear c1
  try clear p2
  try clear c4
  try clear c4b0
  try clear c4b1
  obtain ⟨kq,x31_2,rfl,HA,HJ2,HB⟩:=hcut
  cases kq with
  | zero => exact absurd HA.out (by simp [laws_FnLamport.j0])
  | succ kj2 =>
   have H:=HA.out
   clear HA
   simp only [laws_FnLamport.j0] at H
   by_cases c5 : x31_2 = true
   ·
    subst c5
    have H1 : (some true) = some r:=by rw [if_pos rfl] at H;exact H
    clear H
    have H:=H1
    clear H1
    obtain rfl:=Option.some.inj H
    go_wp2
    go_ret
    exact ⟨by first|rfl|(simp [errW_none,errW_some] <;> rfl)|(simp [*,errW_none,errW_some] <;> rfl),by repeat (first|(with_reducible first|exact HB.out|apply qg12|apply qh12|apply qi12)|exact HB.out)⟩
   ·
    replace c5:=Bool.eq_false_iff.mpr c5
    subst c5
    have H1 : ((spec_SeedOf.f l0).bind fun t374 => ((spec_MsgOf.f l1).bind fun t375 => ((laws_at.f l1 0 8).bind fun t376 => ((impl_ChainRoot.f kj2 t374).bind fun bt377 => ((spec_ChainRoot.f kj2 t374).bind fun bt379 => ((impl_SignAt.f kj2 t374 t376 t375).bind fun bt381 => ((spec_SignAt.f kj2 t374 t376 t375).bind fun bt393 => (if bt377.2 = 0 then (if bt377.1.toList = bt379.1.toList then (if bt381.2.2.2.2 = 0 then ((laws_sameSignature.f kj2 bt381.1 bt381.2.1 bt381.2.2.1 bt381.2.2.2.1 bt393.1 bt393.2.1 bt393.2.2.1 bt393.2.2.2.1).bind fun t405 => (if t405 = true then ((impl_CheckSignature.f kj2 bt377.1 t375 bt381.1 bt381.2.1 bt381.2.2.1 bt381.2.2.2.1).bind fun t406 => (laws_FnLamport.j1 kj2 l1 t374 t375 t376 bt377.1 (t406 != 0) bt381.1 bt381.2.1 bt381.2.2.1 bt381.2.2.2.1)) else (laws_FnLamport.j1 kj2 l1 t374 t375 t376 bt377.1 true bt381.1 bt381.2.1 bt381.2.2.1 bt381.2.2.2.1))) else (laws_FnLamport.j1 kj2 l1 t374 t375 t376 bt377.1 true bt381.1 bt381.2.1 bt381.2.2.1 bt381.2.2.2.1)) else (laws_FnLamport.j1 kj2 l1 t374 t375 t376 bt377.1 true bt381.1 bt381.2.1 bt381.2.2.1 bt381.2.2.2.1)) else (laws_FnLamport.j1 kj2 l1 t374 t375 t376 bt377.1 true bt381.1 bt381.2.1 bt381.2.2.1 bt381.2.2.2.1))))))))) = some r:=by rw [if_neg (show ¬ (false = true) by decide)] at H;exact H
    clear H
    have H:=H1
    clear H1
    replace H:=Option.bind_eq_some_iff.mp H
    obtain ⟨t374,A60,H⟩:=H
    replace H : ((spec_MsgOf.f l1).bind fun t375 => ((laws_at.f l1 0 8).bind fun t376 => ((impl_ChainRoot.f kj2 t374).bind fun bt377 => ((spec_ChainRoot.f kj2 t374).bind fun bt379 => ((impl_SignAt.f kj2 t374 t376 t375).bind fun bt381 => ((spec_SignAt.f kj2 t374 t376 t375).bind fun bt393 => (if bt377.2 = 0 then (if bt377.1.toList = bt379.1.toList then (if bt381.2.2.2.2 = 0 then ((laws_sameSignature.f kj2 bt381.1 bt381.2.1 bt381.2.2.1 bt381.2.2.2.1 bt393.1 bt393.2.1 bt393.2.2.1 bt393.2.2.2.1).bind fun t405 => (if t405 = true then ((impl_CheckSignature.f kj2 bt377.1 t375 bt381.1 bt381.2.1 bt381.2.2.1 bt381.2.2.2.1).bind fun t406 => (laws_FnLamport.j1 kj2 l1 t374 t375 t376 bt377.1 (t406 != 0) bt381.1 bt381.2.1 bt381.2.2.1 bt381.2.2.2.1)) else (laws_FnLamport.j1 kj2 l1 t374 t375 t376 bt377.1 true bt381.1 bt381.2.1 bt381.2.2.1 bt381.2.2.2.1))) else (laws_FnLamport.j1 kj2 l1 t374 t375 t376 bt377.1 true bt381.1 bt381.2.1 bt381.2.2.1 bt381.2.2.2.1)) else (laws_FnLamport.j1 kj2 l1 t374 t375 t376 bt377.1 true bt381.1 bt381.2.1 bt381.2.2.1 bt381.2.2.2.1)) else (laws_FnLamport.j1 kj2 l1 t374 t375 t376 bt377.1 true bt381.1 bt381.2.1 bt381.2.2.1 bt381.2.2.2.1)))))))) = some r:=H
    have A6:=qk12 A60
    clear A60
    replace H:=Option.bind_eq_some_iff.mp H
    obtain ⟨t375,A70,H⟩:=H
    replace H : ((laws_at.f l1 0 8).bind fun t376 => ((impl_ChainRoot.f kj2 t374).bind fun bt377 => ((spec_ChainRoot.f kj2 t374).bind fun bt379 => ((impl_SignAt.f kj2 t374 t376 t375).bind fun bt381 => ((spec_SignAt.f kj2 t374 t376 t375).bind fun bt393 => (if bt377.2 = 0 then (if bt377.1.toList = bt379.1.toList then (if bt381.2.2.2.2 = 0 then ((laws_sameSignature.f kj2 bt381.1 bt381.2.1 bt381.2.2.1 bt381.2.2.2.1 bt393.1 bt393.2.1 bt393.2.2.1 bt393.2.2.2.1).bind fun t405 => (if t405 = true then ((impl_CheckSignature.f kj2 bt377.1 t375 bt381.1 bt381.2.1 bt381.2.2.1 bt381.2.2.2.1).bind fun t406 => (laws_FnLamport.j1 kj2 l1 t374 t375 t376 bt377.1 (t406 != 0) bt381.1 bt381.2.1 bt381.2.2.1 bt381.2.2.2.1)) else (laws_FnLamport.j1 kj2 l1 t374 t375 t376 bt377.1 true bt381.1 bt381.2.1 bt381.2.2.1 bt381.2.2.2.1))) else (laws_FnLamport.j1 kj2 l1 t374 t375 t376 bt377.1 true bt381.1 bt381.2.1 bt381.2.2.1 bt381.2.2.2.1)) else (laws_FnLamport.j1 kj2 l1 t374 t375 t376 bt377.1 true bt381.1 bt381.2.1 bt381.2.2.1 bt381.2.2.2.1)) else (laws_FnLamport.j1 kj2 l1 t374 t375 t376 bt377.1 true bt381.1 bt381.2.1 bt381.2.2.1 bt381.2.2.2.1))))))) = some r:=H
    have A7:=qk12 A70
    clear A70
    replace H:=Option.bind_eq_some_iff.mp H
    obtain ⟨t376,A80,H⟩:=H
    replace H : ((impl_ChainRoot.f kj2 t374).bind fun bt377 => ((spec_ChainRoot.f kj2 t374).bind fun bt379 => ((impl_SignAt.f kj2 t374 t376 t375).bind fun bt381 => ((spec_SignAt.f kj2 t374 t376 t375).bind fun bt393 => (if bt377.2 = 0 then (if bt377.1.toList = bt379.1.toList then (if bt381.2.2.2.2 = 0 then ((laws_sameSignature.f kj2 bt381.1 bt381.2.1 bt381.2.2.1 bt381.2.2.2.1 bt393.1 bt393.2.1 bt393.2.2.1 bt393.2.2.2.1).bind fun t405 => (if t405 = true then ((impl_CheckSignature.f kj2 bt377.1 t375 bt381.1 bt381.2.1 bt381.2.2.1 bt381.2.2.2.1).bind fun t406 => (laws_FnLamport.j1 kj2 l1 t374 t375 t376 bt377.1 (t406 != 0) bt381.1 bt381.2.1 bt381.2.2.1 bt381.2.2.2.1)) else (laws_FnLamport.j1 kj2 l1 t374 t375 t376 bt377.1 true bt381.1 bt381.2.1 bt381.2.2.1 bt381.2.2.2.1))) else (laws_FnLamport.j1 kj2 l1 t374 t375 t376 bt377.1 true bt381.1 bt381.2.1 bt381.2.2.1 bt381.2.2.2.1)) else (laws_FnLamport.j1 kj2 l1 t374 t375 t376 bt377.1 true bt381.1 bt381.2.1 bt381.2.2.1 bt381.2.2.2.1)) else (laws_FnLamport.j1 kj2 l1 t374 t375 t376 bt377.1 true bt381.1 bt381.2.1 bt381.2.2.1 bt381.2.2.2.1)))))) = some r:=H
    have A8:=qk12 A80
    clear A80
    replace H:=Option.bind_eq_some_iff.mp H
    obtain ⟨⟨t377,t378⟩,A90,H⟩:=H
    replace H : ((spec_ChainRoot.f kj2 t374).bind fun bt379 => ((impl_SignAt.f kj2 t374 t376 t375).bind fun bt381 => ((spec_SignAt.f kj2 t374 t376 t375).bind fun bt393 => (if t378 = 0 then (if t377.toList = bt379.1.toList then (if bt381.2.2.2.2 = 0 then ((laws_sameSignature.f kj2 bt381.1 bt381.2.1 bt381.2.2.1 bt381.2.2.2.1 bt393.1 bt393.2.1 bt393.2.2.1 bt393.2.2.2.1).bind fun t405 => (if t405 = true then ((impl_CheckSignature.f kj2 t377 t375 bt381.1 bt381.2.1 bt381.2.2.1 bt381.2.2.2.1).bind fun t406 => (laws_FnLamport.j1 kj2 l1 t374 t375 t376 t377 (t406 != 0) bt381.1 bt381.2.1 bt381.2.2.1 bt381.2.2.2.1)) else (laws_FnLamport.j1 kj2 l1 t374 t375 t376 t377 true bt381.1 bt381.2.1 bt381.2.2.1 bt381.2.2.2.1))) else (laws_FnLamport.j1 kj2 l1 t374 t375 t376 t377 true bt381.1 bt381.2.1 bt381.2.2.1 bt381.2.2.2.1)) else (laws_FnLamport.j1 kj2 l1 t374 t375 t376 t377 true bt381.1 bt381.2.1 bt381.2.2.1 bt381.2.2.2.1)) else (laws_FnLamport.j1 kj2 l1 t374 t375 t376 t377 true bt381.1 bt381.2.1 bt381.2.2.1 bt381.2.2.2.1))))) = some r:=H
    have A9:=qk12 A90
    clear A90
    replace H:=Option.bind_eq_some_iff.mp H
    obtain ⟨⟨t379,t380⟩,A100,H⟩:=H
    replace H : ((impl_SignAt.f kj2 t374 t376 t375).bind fun bt381 => ((spec_SignAt.f kj2 t374 t376 t375).bind fun bt393 => (if t378 = 0 then (if t377.toList = t379.toList then (if bt381.2.2.2.2 = 0 then ((laws_sameSignature.f kj2 bt381.1 bt381.2.1 bt381.2.2.1 bt381.2.2.2.1 bt393.1 bt393.2.1 bt393.2.2.1 bt393.2.2.2.1).bind fun t405 => (if t405 = true then ((impl_CheckSignature.f kj2 t377 t375 bt381.1 bt381.2.1 bt381.2.2.1 bt381.2.2.2.1).bind fun t406 => (laws_FnLamport.j1 kj2 l1 t374 t375 t376 t377 (t406 != 0) bt381.1 bt381.2.1 bt381.2.2.1 bt381.2.2.2.1)) else (laws_FnLamport.j1 kj2 l1 t374 t375 t376 t377 true bt381.1 bt381.2.1 bt381.2.2.1 bt381.2.2.2.1))) else (laws_FnLamport.j1 kj2 l1 t374 t375 t376 t377 true bt381.1 bt381.2.1 bt381.2.2.1 bt381.2.2.2.1)) else (laws_FnLamport.j1 kj2 l1 t374 t375 t376 t377 true bt381.1 bt381.2.1 bt381.2.2.1 bt381.2.2.2.1)) else (laws_FnLamport.j1 kj2 l1 t374 t375 t376 t377 true bt381.1 bt381.2.1 bt381.2.2.1 bt381.2.2.2.1)))) = some r:=H
    have A10:=qk12 A100
    clear A100
    replace H:=Option.bind_eq_some_iff.mp H
    obtain ⟨⟨t381,t382,t385,t388,t391⟩,A110,H⟩:=H
    replace H : ((spec_SignAt.f kj2 t374 t376 t375).bind fun bt393 => (if t378 = 0 then (if t377.toList = t379.toList then (if t391 = 0 then ((laws_sameSignature.f kj2 t381 t382 t385 t388 bt393.1 bt393.2.1 bt393.2.2.1 bt393.2.2.2.1).bind fun t405 => (if t405 = true then ((impl_CheckSignature.f kj2 t377 t375 t381 t382 t385 t388).bind fun t406 => (laws_FnLamport.j1 kj2 l1 t374 t375 t376 t377 (t406 != 0) t381 t382 t385 t388)) else (laws_FnLamport.j1 kj2 l1 t374 t375 t376 t377 true t381 t382 t385 t388))) else (laws_FnLamport.j1 kj2 l1 t374 t375 t376 t377 true t381 t382 t385 t388)) else (laws_FnLamport.j1 kj2 l1 t374 t375 t376 t377 true t381 t382 t385 t388)) else (laws_FnLamport.j1 kj2 l1 t374 t375 t376 t377 true t381 t382 t385 t388))) = some r:=H
    have A11:=qk12 A110
    clear A110
    replace H:=Option.bind_eq_some_iff.mp H
    obtain ⟨⟨t393,t394,t397,t400,t403⟩,A120,H⟩:=H
    replace H : (if t378 = 0 then (if t377.toList = t379.toList then (if t391 = 0 then ((laws_sameSignature.f kj2 t381 t382 t385 t388 t393 t394 t397 t400).bind fun t405 => (if t405 = true then ((impl_CheckSignature.f kj2 t377 t375 t381 t382 t385 t388).bind fun t406 => (laws_FnLamport.j1 kj2 l1 t374 t375 t376 t377 (t406 != 0) t381 t382 t385 t388)) else (laws_FnLamport.j1 kj2 l1 t374 t375 t376 t377 true t381 t382 t385 t388))) else (laws_FnLamport.j1 kj2 l1 t374 t375 t376 t377 true t381 t382 t385 t388)) else (laws_FnLamport.j1 kj2 l1 t374 t375 t376 t377 true t381 t382 t385 t388)) else (laws_FnLamport.j1 kj2 l1 t374 t375 t376 t377 true t381 t382 t385 t388)) = some r:=H
    have A12:=qk12 A120
    clear A120
    have HC13:=qk12 H
    clear H
    go_upto_region 10 with (first|((with_reducible refine gate_callee (f:=17) rfl ?_);refine goesL_ (some 33) rfl rfl Tryd.func17 (by kernel_rfl) rfl #[.slice A0 l0.length c0] rfl (by (try simp only [List.map_toArray,List.map_cons,List.map_nil]);first|done|rfl|(simp only [List.length_drop,List.length_take];rfl)) ?_;(with_reducible refine (spec_SeedOf.calls _ _ l0 t374 _ ?side1 ?side2 A6.out).mono ?_);(case side1 => repeat (first|exact (Kd.C_below HR0.out HB.out)|(with_reducible refine Kd.C_alloc ?_ _)|(with_reducible refine Kd.C_drewN ?_ _)|(with_reducible refine Kd.C_drew ?_)));(case side2 => exact HC0.out);rintro e w14 ⟨rfl,hb⟩;refine ⟨_,rfl,?_⟩;have n0_:=qk12 (below_step (by repeat (first|(with_reducible first|exact HB.out|apply qg12|apply qh12|apply qi12)|exact HB.out)) hb);clear HB;have HB:=n0_;clear n0_;(try clear hb);(try clear hb2);(try clear hk);(try clear hi))|((with_reducible refine gate_callee (f:=25) rfl ?_);refine goesL_ (some 35) rfl rfl Tryd.func25 (by kernel_rfl) rfl #[.slice A1 l1.length c1] rfl (by (try simp only [List.map_toArray,List.map_cons,List.map_nil]);first|done|rfl|(simp only [List.length_drop,List.length_take];rfl)) ?_;(with_reducible refine (spec_MsgOf.calls _ _ l1 t375 _ ?side1 ?side2 A7.out).mono ?_);(case side1 => repeat (first|exact (Kd.C_below HR1.out HB.out)|(with_reducible refine Kd.C_alloc ?_ _)|(with_reducible refine Kd.C_drewN ?_ _)|(with_reducible refine Kd.C_drew ?_)));(case side2 => exact HC1.out);rintro e w15 ⟨rfl,hb⟩;refine ⟨_,rfl,?_⟩;have n0_:=qk12 (below_step (by repeat (first|(with_reducible first|exact HB.out|apply qg12|apply qh12|apply qi12)|exact HB.out)) hb);clear HB;have HB:=n0_;clear n0_;(try clear hb);(try clear hb2);(try clear hk);(try clear hi))|((with_reducible refine gate_callee (f:=18) rfl ?_);refine goesL_ (some 37) rfl rfl Tryd.func18 (by kernel_rfl) rfl #[.slice A1 l1.length c1,.int .i64 0,.int .i64 8] rfl (by (try simp only [List.map_toArray,List.map_cons,List.map_nil]);first|done|rfl|(simp only [List.length_drop,List.length_take];rfl)) ?_;(with_reducible refine (laws_at.calls _ _ l1 0 8 t376 _ ?side1 ?side2 A8.out).mono ?_);(case side1 => repeat (first|exact (Kd.C_below HR1.out HB.out)|(with_reducible refine Kd.C_alloc ?_ _)|(with_reducible refine Kd.C_drewN ?_ _)|(with_reducible refine Kd.C_drew ?_)));(case side2 => exact HC1.out);rintro e w' ⟨rfl,⟨nd,rfl⟩⟩;refine ⟨_,rfl,?_⟩;(try (rw [drewN_self w15];generalize hq_ : World.drewN w15 _ = w15;have n0_ : Aside0 (Below w.heap.size w w15):=⟨by rw [← hq_];exact (by repeat (first|(with_reducible first|exact HB.out|apply qg12|apply qh12|apply qi12)|exact HB.out))⟩;clear HB hq_;have HB:=n0_;clear n0_)))|((with_reducible refine gate_callee (f:=26) rfl ?_);refine goesL_ (some 40) rfl rfl Tryd.func26 (by kernel_rfl) rfl #[.string t374] rfl (by (try simp only [List.map_toArray,List.map_cons,List.map_nil]);first|done|rfl|(simp only [List.length_drop,List.length_take];rfl)) ?_;(with_reducible refine (impl_ChainRoot.calls kj2 t374 t377 t378 _ ?side1 A9.out).mono ?_);(case side1 => exact Go.Proofs.YtmkaknegjahjaaaDoor.Sha.glob_below hG_ (by repeat (first|(with_reducible first|exact HB.out|apply qg12|apply qh12|apply qi12)|exact HB.out)));rintro e w16 ⟨rfl,hb⟩;refine ⟨_,rfl,?_⟩;have n0_:=qk12 (below_step (by repeat (first|(with_reducible first|exact HB.out|apply qg12|apply qh12|apply qi12)|exact HB.out)) hb);clear HB;have HB:=n0_;clear n0_;(try clear hb);(try clear hb2);(try clear hk);(try clear hi))|((with_reducible refine gate_callee (f:=27) rfl ?_);refine goesL_ (some 45) rfl rfl Tryd.func27 (by kernel_rfl) rfl #[.string t374] rfl (by (try simp only [List.map_toArray,List.map_cons,List.map_nil]);first|done|rfl|(simp only [List.length_drop,List.length_take];rfl)) ?_;(with_reducible refine (spec_ChainRoot.calls kj2 t374 t379 t380 _ A10.out).mono ?_);rintro e w17 ⟨rfl,hb⟩;refine ⟨_,rfl,?_⟩;have n0_:=qk12 (below_step (by repeat (first|(with_reducible first|exact HB.out|apply qg12|apply qh12|apply qi12)|exact HB.out)) hb);clear HB;have HB:=n0_;clear n0_;(try clear hb);(try clear hb2);(try clear hk);(try clear hi))|((with_reducible refine gate_callee (f:=28) rfl ?_);refine goesL_ (some 52) rfl rfl Tryd.func28 (by kernel_rfl) rfl #[.string t374,.int .i64 t376,.string t375] rfl (by (try simp only [List.map_toArray,List.map_cons,List.map_nil]);first|done|rfl|(simp only [List.length_drop,List.length_take];rfl)) ?_;(with_reducible refine (impl_SignAt.calls kj2 t374 t376 t375 t381 t382 t385 t388 t391 _ ?side1 A11.out).mono ?_);(case side1 => exact Go.Proofs.YtmkaknegjahjaaaDoor.Sha.glob_below hG_ (by repeat (first|(with_reducible first|exact HB.out|apply qg12|apply qh12|apply qi12)|exact HB.out)));rintro e w18 ⟨v383,v386,v389,rfl,ho0,ho1,ho2,hb⟩;refine ⟨_,rfl,?_⟩;have n0_:=qk12 (Kd.R_lower ho0 (below_size (by repeat (first|(with_reducible first|exact HB.out|apply qg12|apply qh12|apply qi12)|exact HB.out))));have n1_:=qk12 (Kd.R_lower ho1 (below_size (by repeat (first|(with_reducible first|exact HB.out|apply qg12|apply qh12|apply qi12)|exact HB.out))));have n2_:=qk12 (Kd.R_lower ho2 (below_size (by repeat (first|(with_reducible first|exact HB.out|apply qg12|apply qh12|apply qi12)|exact HB.out))));have n3_:=qk12 (below_step (by repeat (first|(with_reducible first|exact HB.out|apply qg12|apply qh12|apply qi12)|exact HB.out)) hb);clear HB;have HO384:=n0_;have HO387:=n1_;have HO390:=n2_;have HB:=n3_;clear n0_ n1_ n2_ n3_;(try clear hb);(try clear hb2);(try clear hk);(try clear hi);(try clear ho0);(try clear ho1);(try clear ho2))|((with_reducible refine gate_dst (N:=12) rfl ?_);refine box_event ?hg (N:=12) ?hd (cs:=#[.int .i64 0,.slice none 0 0,.slice none 0 0,.slice none 0 0]) (t:=33) ?hr ?_;(case hd => rfl);(case hg => rfl);(case hr => first|(go_simp;done)|(go_simp;rfl));intro gb392 hg w19 hbox hb;have n0_:=qk12 (qm12 (by (with_reducible repeat (first|apply qd12|apply qe12|apply qf12));exact HO384.out) hb);have n1_:=qk12 (qm12 (by (with_reducible repeat (first|apply qd12|apply qe12|apply qf12));exact HO387.out) hb);have n2_:=qk12 (qm12 (by (with_reducible repeat (first|apply qd12|apply qe12|apply qf12));exact HO390.out) hb);have n3_:=qk12 (below_step (by repeat (first|(with_reducible first|exact HB.out|apply qg12|apply qh12|apply qi12)|exact HB.out)) hb);have n4_:=qk12 (hbox);have n5_:=qk12 ((by rw [hg];exact (below_size (by repeat (first|(with_reducible first|exact HB.out|apply qg12|apply qh12|apply qi12)|exact HB.out))) : w.heap.size ≤ gb392));have n6_:=qk12 ((by rw [hg];exact (below_size (by repeat (first|(with_reducible first|exact HB.out|apply qg12|apply qh12|apply qi12)|exact HB.out))) : w.heap.size ≤ gb392));clear HO384;clear HO387;clear HO390;clear HB;have HO384:=n0_;have HO387:=n1_;have HO390:=n2_;have HB:=n3_;have BK392:=n4_;have GW392:=n5_;have GE392:=n6_;clear n0_ n1_ n2_ n3_ n4_ n5_ n6_;clear hb hbox hg;have hcz20_0 : w19.cell? ⟨gb392,0,none⟩ = some (.int .i64 0):=(blk_cell BK392.out 0).trans rfl;have hcz20_1 : w19.cell? ⟨gb392,1,none⟩ = some (.slice none 0 0):=(blk_cell BK392.out 1).trans rfl;have hcz20_2 : w19.cell? ⟨gb392,2,none⟩ = some (.slice none 0 0):=(blk_cell BK392.out 2).trans rfl;have hcz20_3 : w19.cell? ⟨gb392,3,none⟩ = some (.slice none 0 0):=(blk_cell BK392.out 3).trans rfl;have hfz20_0:=blk_frozen BK392.out 0;have hfz20_1:=blk_frozen BK392.out 1;have hfz20_2:=blk_frozen BK392.out 2;have hfz20_3:=blk_frozen BK392.out 3;obtain ⟨Ao21,co21,eo21⟩:=Kd.R_slice HO384.out;subst eo21;obtain ⟨Ao22,co22,eo22⟩:=Kd.R_slice HO387.out;subst eo22;obtain ⟨Ao23,co23,eo23⟩:=Kd.R_slice HO390.out;subst eo23)|((with_reducible refine gate_callee (f:=20) rfl ?_);refine goesL_ (some 59) rfl rfl Tryd.func20 (by kernel_rfl) rfl #[.string t374,.int .i64 t376,.string t375] rfl (by (try simp only [List.map_toArray,List.map_cons,List.map_nil]);first|done|rfl|(simp only [List.length_drop,List.length_take];rfl)) ?_;(with_reducible refine (spec_SignAt.calls kj2 t374 t376 t375 t393 t394 t397 t400 t403 _ A12.out).mono ?_);rintro e w24 ⟨v395,v398,v401,rfl,ho0,ho1,ho2,hb⟩;refine ⟨_,rfl,?_⟩;have n0_:=qk12 (qp12 (Kd.R_told (Kd.R_told (Kd.R_told (Kd.R_old (by (with_reducible repeat (first|apply qd12|apply qe12|apply qf12));exact (qp12 (qn12 (p:=⟨gb392,3,none⟩) (qn12 (p:=⟨gb392,2,none⟩) (qn12 (p:=⟨gb392,1,none⟩) (qn12 (p:=⟨gb392,0,none⟩) (qo12 HO384.out BK392.out (by decide)) (fun _ hk => hk.2) (.int .i64 t381)) (fun _ hk => hk.2) (.slice Ao21 t382.length co21)) (fun _ hk => hk.2) (.slice Ao22 t385.length co22)) (fun _ hk => hk.2) (.slice Ao23 t388.length co23)) (fun _ h_ => h_.1))) hb) (Kd.R_base ho0)) (Kd.R_base ho1)) (Kd.R_base ho2)) (fun _ h_ => h_.1));have n1_:=qk12 (qp12 (Kd.R_told (Kd.R_told (Kd.R_told (Kd.R_old (by (with_reducible repeat (first|apply qd12|apply qe12|apply qf12));exact (qp12 (qn12 (p:=⟨gb392,3,none⟩) (qn12 (p:=⟨gb392,2,none⟩) (qn12 (p:=⟨gb392,1,none⟩) (qn12 (p:=⟨gb392,0,none⟩) (qo12 HO387.out BK392.out (by decide)) (fun _ hk => hk.2) (.int .i64 t381)) (fun _ hk => hk.2) (.slice Ao21 t382.length co21)) (fun _ hk => hk.2) (.slice Ao22 t385.length co22)) (fun _ hk => hk.2) (.slice Ao23 t388.length co23)) (fun _ h_ => h_.1))) hb) (Kd.R_base ho0)) (Kd.R_base ho1)) (Kd.R_base ho2)) (fun _ h_ => h_.1));have n2_:=qk12 (qp12 (Kd.R_told (Kd.R_told (Kd.R_told (Kd.R_old (by (with_reducible repeat (first|apply qd12|apply qe12|apply qf12));exact (qp12 (qn12 (p:=⟨gb392,3,none⟩) (qn12 (p:=⟨gb392,2,none⟩) (qn12 (p:=⟨gb392,1,none⟩) (qn12 (p:=⟨gb392,0,none⟩) (qo12 HO390.out BK392.out (by decide)) (fun _ hk => hk.2) (.int .i64 t381)) (fun _ hk => hk.2) (.slice Ao21 t382.length co21)) (fun _ hk => hk.2) (.slice Ao22 t385.length co22)) (fun _ hk => hk.2) (.slice Ao23 t388.length co23)) (fun _ h_ => h_.1))) hb) (Kd.R_base ho0)) (Kd.R_base ho1)) (Kd.R_base ho2)) (fun _ h_ => h_.1));have n3_:=qk12 (Kd.R_lower (Kd.R_new' (Kd.R_new' (Kd.R_new' ho0 (Kd.R_lt (by (with_reducible repeat (first|apply qd12|apply qe12|apply qf12));exact (qp12 (qn12 (p:=⟨gb392,3,none⟩) (qn12 (p:=⟨gb392,2,none⟩) (qn12 (p:=⟨gb392,1,none⟩) (qn12 (p:=⟨gb392,0,none⟩) (qo12 HO384.out BK392.out (by decide)) (fun _ hk => hk.2) (.int .i64 t381)) (fun _ hk => hk.2) (.slice Ao21 t382.length co21)) (fun _ hk => hk.2) (.slice Ao22 t385.length co22)) (fun _ hk => hk.2) (.slice Ao23 t388.length co23)) (fun _ h_ => h_.1))))) (Kd.R_lt (by (with_reducible repeat (first|apply qd12|apply qe12|apply qf12));exact (qp12 (qn12 (p:=⟨gb392,3,none⟩) (qn12 (p:=⟨gb392,2,none⟩) (qn12 (p:=⟨gb392,1,none⟩) (qn12 (p:=⟨gb392,0,none⟩) (qo12 HO387.out BK392.out (by decide)) (fun _ hk => hk.2) (.int .i64 t381)) (fun _ hk => hk.2) (.slice Ao21 t382.length co21)) (fun _ hk => hk.2) (.slice Ao22 t385.length co22)) (fun _ hk => hk.2) (.slice Ao23 t388.length co23)) (fun _ h_ => h_.1))))) (Kd.R_lt (by (with_reducible repeat (first|apply qd12|apply qe12|apply qf12));exact (qp12 (qn12 (p:=⟨gb392,3,none⟩) (qn12 (p:=⟨gb392,2,none⟩) (qn12 (p:=⟨gb392,1,none⟩) (qn12 (p:=⟨gb392,0,none⟩) (qo12 HO390.out BK392.out (by decide)) (fun _ hk => hk.2) (.int .i64 t381)) (fun _ hk => hk.2) (.slice Ao21 t382.length co21)) (fun _ hk => hk.2) (.slice Ao22 t385.length co22)) (fun _ hk => hk.2) (.slice Ao23 t388.length co23)) (fun _ h_ => h_.1))))) (below_size (by repeat (first|(with_reducible first|exact HB.out|apply qg12|apply qh12|apply qi12|refine qj12 ?_ GE392.out)|exact HB.out))));have n4_:=qk12 (Kd.R_lower (Kd.R_new' (Kd.R_new' (Kd.R_new' ho1 (Kd.R_lt (by (with_reducible repeat (first|apply qd12|apply qe12|apply qf12));exact (qp12 (qn12 (p:=⟨gb392,3,none⟩) (qn12 (p:=⟨gb392,2,none⟩) (qn12 (p:=⟨gb392,1,none⟩) (qn12 (p:=⟨gb392,0,none⟩) (qo12 HO384.out BK392.out (by decide)) (fun _ hk => hk.2) (.int .i64 t381)) (fun _ hk => hk.2) (.slice Ao21 t382.length co21)) (fun _ hk => hk.2) (.slice Ao22 t385.length co22)) (fun _ hk => hk.2) (.slice Ao23 t388.length co23)) (fun _ h_ => h_.1))))) (Kd.R_lt (by (with_reducible repeat (first|apply qd12|apply qe12|apply qf12));exact (qp12 (qn12 (p:=⟨gb392,3,none⟩) (qn12 (p:=⟨gb392,2,none⟩) (qn12 (p:=⟨gb392,1,none⟩) (qn12 (p:=⟨gb392,0,none⟩) (qo12 HO387.out BK392.out (by decide)) (fun _ hk => hk.2) (.int .i64 t381)) (fun _ hk => hk.2) (.slice Ao21 t382.length co21)) (fun _ hk => hk.2) (.slice Ao22 t385.length co22)) (fun _ hk => hk.2) (.slice Ao23 t388.length co23)) (fun _ h_ => h_.1))))) (Kd.R_lt (by (with_reducible repeat (first|apply qd12|apply qe12|apply qf12));exact (qp12 (qn12 (p:=⟨gb392,3,none⟩) (qn12 (p:=⟨gb392,2,none⟩) (qn12 (p:=⟨gb392,1,none⟩) (qn12 (p:=⟨gb392,0,none⟩) (qo12 HO390.out BK392.out (by decide)) (fun _ hk => hk.2) (.int .i64 t381)) (fun _ hk => hk.2) (.slice Ao21 t382.length co21)) (fun _ hk => hk.2) (.slice Ao22 t385.length co22)) (fun _ hk => hk.2) (.slice Ao23 t388.length co23)) (fun _ h_ => h_.1))))) (below_size (by repeat (first|(with_reducible first|exact HB.out|apply qg12|apply qh12|apply qi12|refine qj12 ?_ GE392.out)|exact HB.out))));have n5_:=qk12 (Kd.R_lower (Kd.R_new' (Kd.R_new' (Kd.R_new' ho2 (Kd.R_lt (by (with_reducible repeat (first|apply qd12|apply qe12|apply qf12));exact (qp12 (qn12 (p:=⟨gb392,3,none⟩) (qn12 (p:=⟨gb392,2,none⟩) (qn12 (p:=⟨gb392,1,none⟩) (qn12 (p:=⟨gb392,0,none⟩) (qo12 HO384.out BK392.out (by decide)) (fun _ hk => hk.2) (.int .i64 t381)) (fun _ hk => hk.2) (.slice Ao21 t382.length co21)) (fun _ hk => hk.2) (.slice Ao22 t385.length co22)) (fun _ hk => hk.2) (.slice Ao23 t388.length co23)) (fun _ h_ => h_.1))))) (Kd.R_lt (by (with_reducible repeat (first|apply qd12|apply qe12|apply qf12));exact (qp12 (qn12 (p:=⟨gb392,3,none⟩) (qn12 (p:=⟨gb392,2,none⟩) (qn12 (p:=⟨gb392,1,none⟩) (qn12 (p:=⟨gb392,0,none⟩) (qo12 HO387.out BK392.out (by decide)) (fun _ hk => hk.2) (.int .i64 t381)) (fun _ hk => hk.2) (.slice Ao21 t382.length co21)) (fun _ hk => hk.2) (.slice Ao22 t385.length co22)) (fun _ hk => hk.2) (.slice Ao23 t388.length co23)) (fun _ h_ => h_.1))))) (Kd.R_lt (by (with_reducible repeat (first|apply qd12|apply qe12|apply qf12));exact (qp12 (qn12 (p:=⟨gb392,3,none⟩) (qn12 (p:=⟨gb392,2,none⟩) (qn12 (p:=⟨gb392,1,none⟩) (qn12 (p:=⟨gb392,0,none⟩) (qo12 HO390.out BK392.out (by decide)) (fun _ hk => hk.2) (.int .i64 t381)) (fun _ hk => hk.2) (.slice Ao21 t382.length co21)) (fun _ hk => hk.2) (.slice Ao22 t385.length co22)) (fun _ hk => hk.2) (.slice Ao23 t388.length co23)) (fun _ h_ => h_.1))))) (below_size (by repeat (first|(with_reducible first|exact HB.out|apply qg12|apply qh12|apply qi12|refine qj12 ?_ GE392.out)|exact HB.out))));have n6_:=qk12 (ql12 (g:=gb392) (o:=.cells #[.int .i64 t381,.slice Ao21 t382.length co21,.slice Ao22 t385.length co22,.slice Ao23 t388.length co23] 33 (0,0)) (by (with_reducible repeat (first|apply qa12|apply qb12|apply qc12));refine blk_put (cs:=#[.int .i64 t381,.slice Ao21 t382.length co21,.slice Ao22 t385.length co22,.slice none 0 0]) ?_ 3 _ rfl;(with_reducible repeat (first|apply qa12|apply qb12|apply qc12));refine blk_put (cs:=#[.int .i64 t381,.slice Ao21 t382.length co21,.slice none 0 0,.slice none 0 0]) ?_ 2 _ rfl;(with_reducible repeat (first|apply qa12|apply qb12|apply qc12));refine blk_put (cs:=#[.int .i64 t381,.slice none 0 0,.slice none 0 0,.slice none 0 0]) ?_ 1 _ rfl;(with_reducible repeat (first|apply qa12|apply qb12|apply qc12));refine blk_put (cs:=#[.int .i64 0,.slice none 0 0,.slice none 0 0,.slice none 0 0]) ?_ 0 _ rfl;(with_reducible repeat (first|apply qa12|apply qb12|apply qc12));exact BK392.out) hb);have n7_:=qk12 (below_step (by repeat (first|(with_reducible first|exact HB.out|apply qg12|apply qh12|apply qi12|refine qj12 ?_ GE392.out)|exact HB.out)) hb);clear HO384;clear HO387;clear HO390;clear BK392;clear HB;have HO384:=n0_;have HO387:=n1_;have HO390:=n2_;have HO396:=n3_;have HO399:=n4_;have HO402:=n5_;have BK392:=n6_;have HB:=n7_;clear n0_ n1_ n2_ n3_ n4_ n5_ n6_ n7_;(try clear hb);(try clear hb2);(try clear hk);(try clear hi);(try clear ho0);(try clear ho1);(try clear ho2))|((with_reducible refine gate_dst (N:=14) rfl ?_);refine box_event ?hg (N:=14) ?hd (cs:=#[.int .i64 0,.slice none 0 0,.slice none 0 0,.slice none 0 0]) (t:=33) ?hr ?_;(case hd => rfl);(case hg => rfl);(case hr => first|(go_simp;done)|(go_simp;rfl));intro gb404 hg w25 hbox hb;have n0_:=qk12 (qm12 (by (with_reducible repeat (first|apply qd12|apply qe12|apply qf12));exact HO384.out) hb);have n1_:=qk12 (qm12 (by (with_reducible repeat (first|apply qd12|apply qe12|apply qf12));exact HO387.out) hb);have n2_:=qk12 (qm12 (by (with_reducible repeat (first|apply qd12|apply qe12|apply qf12));exact HO390.out) hb);have n3_:=qk12 (qm12 (by (with_reducible repeat (first|apply qd12|apply qe12|apply qf12));exact HO396.out) hb);have n4_:=qk12 (qm12 (by (with_reducible repeat (first|apply qd12|apply qe12|apply qf12));exact HO399.out) hb);have n5_:=qk12 (qm12 (by (with_reducible repeat (first|apply qd12|apply qe12|apply qf12));exact HO402.out) hb);have n6_:=qk12 (ql12 (g:=gb392) (o:=.cells #[.int .i64 t381,.slice Ao21 t382.length co21,.slice Ao22 t385.length co22,.slice Ao23 t388.length co23] 33 (0,0)) (by (with_reducible repeat (first|apply qa12|apply qb12|apply qc12));exact BK392.out) hb);have n7_:=qk12 (below_step (by repeat (first|(with_reducible first|exact HB.out|apply qg12|apply qh12|apply qi12|refine qj12 ?_ GE392.out)|exact HB.out)) hb);have n8_:=qk12 (hbox);have n9_:=qk12 ((by rw [hg];exact (below_size (by repeat (first|(with_reducible first|exact HB.out|apply qg12|apply qh12|apply qi12|refine qj12 ?_ GE392.out)|exact HB.out))) : w.heap.size ≤ gb404));have n10_:=qk12 ((by rw [hg];exact (below_size (by repeat (first|(with_reducible first|exact HB.out|apply qg12|apply qh12|apply qi12|refine qj12 ?_ GE392.out)|exact HB.out))) : w.heap.size ≤ gb404));have n11_:=qk12 ((by rw [hg];exact Nat.ne_of_lt (blk_lt (g:=gb392) (o:=.cells #[.int .i64 t381,.slice Ao21 t382.length co21,.slice Ao22 t385.length co22,.slice Ao23 t388.length co23] 33 (0,0)) (by (with_reducible repeat (first|apply qa12|apply qb12|apply qc12));exact BK392.out)) : gb392 ≠ gb404));have n12_:=qk12 ((by rw [hg];exact Nat.ne_of_gt (blk_lt (g:=gb392) (o:=.cells #[.int .i64 t381,.slice Ao21 t382.length co21,.slice Ao22 t385.length co22,.slice Ao23 t388.length co23] 33 (0,0)) (by (with_reducible repeat (first|apply qa12|apply qb12|apply qc12));exact BK392.out)) : gb404 ≠ gb392));clear HO384;clear HO387;clear HO390;clear HO396;clear HO399;clear HO402;clear BK392;clear HB;have HO384:=n0_;have HO387:=n1_;have HO390:=n2_;have HO396:=n3_;have HO399:=n4_;have HO402:=n5_;have BK392:=n6_;have HB:=n7_;have BK404:=n8_;have GW404:=n9_;have GE404:=n10_;have NB392_404:=n11_;have NB404_392:=n12_;clear n0_ n1_ n2_ n3_ n4_ n5_ n6_ n7_ n8_ n9_ n10_ n11_ n12_;clear hb hbox hg;have hnb26:=NB404_392.out;have hnc26:=NB392_404.out;have hcz27_0 : w25.cell? ⟨gb404,0,none⟩ = some (.int .i64 0):=(blk_cell BK404.out 0).trans rfl;have hcz27_1 : w25.cell? ⟨gb404,1,none⟩ = some (.slice none 0 0):=(blk_cell BK404.out 1).trans rfl;have hcz27_2 : w25.cell? ⟨gb404,2,none⟩ = some (.slice none 0 0):=(blk_cell BK404.out 2).trans rfl;have hcz27_3 : w25.cell? ⟨gb404,3,none⟩ = some (.slice none 0 0):=(blk_cell BK404.out 3).trans rfl;have hfz27_0:=blk_frozen BK404.out 0;have hfz27_1:=blk_frozen BK404.out 1;have hfz27_2:=blk_frozen BK404.out 2;have hfz27_3:=blk_frozen BK404.out 3;obtain ⟨Ao28,co28,eo28⟩:=Kd.R_slice HO396.out;subst eo28;obtain ⟨Ao29,co29,eo29⟩:=Kd.R_slice HO399.out;subst eo29;obtain ⟨Ao30,co30,eo30⟩:=Kd.R_slice HO402.out;subst eo30))
    (try simp only [Act.put,List.setIfInBounds_toArray,List.set_cons_zero,List.set_cons_succ])
    go_cut [85] (fun v85 wc => ∃ (kq : Nat) (x85_12 : Bool),v85 = .bool x85_12 ∧ Aside0 (laws_FnLamport.j1 kq l1 t374 t375 t376 t377 x85_12 t381 t382 t385 t388 = some r) ∧ Aside0 (kq ≤ kj2) ∧ Aside0 (Kd.R Kd.string 9 wc w.heap.size (fun k_ => some k_ ≠ ((.slice Ao22 t385.length co22) : Value).ownBlock ∧ some k_ ≠ ((.slice Ao23 t388.length co23) : Value).ownBlock ∧ some k_ ≠ ((.slice Ao28 t394.length co28) : Value).ownBlock ∧ some k_ ≠ ((.slice Ao29 t397.length co29) : Value).ownBlock ∧ some k_ ≠ ((.slice Ao30 t400.length co30) : Value).ownBlock) (.slice Ao21 t382.length co21) t382) ∧ Aside0 (Kd.R Kd.string 9 wc w.heap.size (fun k_ => some k_ ≠ ((.slice Ao21 t382.length co21) : Value).ownBlock ∧ some k_ ≠ ((.slice Ao23 t388.length co23) : Value).ownBlock ∧ some k_ ≠ ((.slice Ao28 t394.length co28) : Value).ownBlock ∧ some k_ ≠ ((.slice Ao29 t397.length co29) : Value).ownBlock ∧ some k_ ≠ ((.slice Ao30 t400.length co30) : Value).ownBlock) (.slice Ao22 t385.length co22) t385) ∧ Aside0 (Kd.R Kd.string 9 wc w.heap.size (fun k_ => some k_ ≠ ((.slice Ao21 t382.length co21) : Value).ownBlock ∧ some k_ ≠ ((.slice Ao22 t385.length co22) : Value).ownBlock ∧ some k_ ≠ ((.slice Ao28 t394.length co28) : Value).ownBlock ∧ some k_ ≠ ((.slice Ao29 t397.length co29) : Value).ownBlock ∧ some k_ ≠ ((.slice Ao30 t400.length co30) : Value).ownBlock) (.slice Ao23 t388.length co23) t388) ∧ Aside0 (Kd.R Kd.string 9 wc w.heap.size (fun k_ => some k_ ≠ ((.slice Ao21 t382.length co21) : Value).ownBlock ∧ some k_ ≠ ((.slice Ao22 t385.length co22) : Value).ownBlock ∧ some k_ ≠ ((.slice Ao23 t388.length co23) : Value).ownBlock ∧ some k_ ≠ ((.slice Ao29 t397.length co29) : Value).ownBlock ∧ some k_ ≠ ((.slice Ao30 t400.length co30) : Value).ownBlock) (.slice Ao28 t394.length co28) t394) ∧ Aside0 (Kd.R Kd.string 9 wc w.heap.size (fun k_ => some k_ ≠ ((.slice Ao21 t382.length co21) : Value).ownBlock ∧ some k_ ≠ ((.slice Ao22 t385.length co22) : Value).ownBlock ∧ some k_ ≠ ((.slice Ao23 t388.length co23) : Value).ownBlock ∧ some k_ ≠ ((.slice Ao28 t394.length co28) : Value).ownBlock ∧ some k_ ≠ ((.slice Ao30 t400.length co30) : Value).ownBlock) (.slice Ao29 t397.length co29) t397) ∧ Aside0 (Kd.R Kd.string 9 wc w.heap.size (fun k_ => some k_ ≠ ((.slice Ao21 t382.length co21) : Value).ownBlock ∧ some k_ ≠ ((.slice Ao22 t385.length co22) : Value).ownBlock ∧ some k_ ≠ ((.slice Ao23 t388.length co23) : Value).ownBlock ∧ some k_ ≠ ((.slice Ao28 t394.length co28) : Value).ownBlock ∧ some k_ ≠ ((.slice Ao29 t397.length co29) : Value).ownBlock) (.slice Ao30 t400.length co30) t400) ∧ Aside0 (wc.heap[gb392]? = some (.cells #[.int .i64 t381,(.slice Ao21 t382.length co21),(.slice Ao22 t385.length co22),(.slice Ao23 t388.length co23)] 33 (0,0))) ∧ Aside0 (wc.heap[gb404]? = some (.cells #[.int .i64 t393,(.slice Ao28 t394.length co28),(.slice Ao29 t397.length co29),(.slice Ao30 t400.length co30)] 33 (0,0))) ∧ Aside0 (Below w.heap.size w wc))
    case first =>
     have H:=HC13.out
     clear HC13
     by_cases c31 : t378 = 0
     ·
      rw [if_pos c31] at H
      have c31b0 : (t378 == 0) = true:=beq_iff_eq.mpr c31
      have c31b1 : (t378 != 0) = false:=bne_eq_false_iff_eq.mpr c31
      clear c31
      (first|rw [c31b0]|(simp only [i64_w,i32_w];rw [c31b0])|skip)
      by_cases c32 : t377.toList = t379.toList
      ·
       rw [if_pos c32] at H
       have c32b0 : (t377.toList == t379.toList) = true:=beq_iff_eq.mpr c32
       have c32b1 : (t377.toList != t379.toList) = false:=bne_eq_false_iff_eq.mpr c32
       clear c32
       by_cases c33 : t391 = 0
       ·
        rw [if_pos c33] at H
        have c33b0 : (t391 == 0) = true:=beq_iff_eq.mpr c33
        have c33b1 : (t391 != 0) = false:=bne_eq_false_iff_eq.mpr c33
        clear c33
        replace H:=Option.bind_eq_some_iff.mp H
        obtain ⟨t405,A340,H⟩:=H
        replace H : (if t405 = true then ((impl_CheckSignature.f kj2 t377 t375 t381 t382 t385 t388).bind fun t406 => (laws_FnLamport.j1 kj2 l1 t374 t375 t376 t377 (t406 != 0) t381 t382 t385 t388)) else (laws_FnLamport.j1 kj2 l1 t374 t375 t376 t377 true t381 t382 t385 t388)) = some r:=H
        have A34:=qk12 A340
        clear A340
        by_cases c35 : t405 = true
        ·
         subst c35
         have H1 : ((impl_CheckSignature.f kj2 t377 t375 t381 t382 t385 t388).bind fun t406 => (laws_FnLamport.j1 kj2 l1 t374 t375 t376 t377 (t406 != 0) t381 t382 t385 t388)) = some r:=by rw [if_pos rfl] at H;exact H
         clear H
         have H:=H1
         clear H1
         replace H:=Option.bind_eq_some_iff.mp H
         obtain ⟨t406,A360,H⟩:=H
         replace H : (laws_FnLamport.j1 kj2 l1 t374 t375 t376 t377 (t406 != 0) t381 t382 t385 t388) = some r:=H
         have A36:=qk12 A360
         clear A360
         have H':=qk12 H
         clear H
         have hnb37:=NB392_404.out
         have hnc37:=NB404_392.out
         have hcz38_0 : w25.cell? ⟨gb392,0,none⟩ = some (.int .i64 t381):=(blk_cell BK392.out 0).trans rfl
         have hcz38_1 : w25.cell? ⟨gb392,1,none⟩ = some (.slice Ao21 t382.length co21):=(blk_cell BK392.out 1).trans rfl
         have hcz38_2 : w25.cell? ⟨gb392,2,none⟩ = some (.slice Ao22 t385.length co22):=(blk_cell BK392.out 2).trans rfl
         have hcz38_3 : w25.cell? ⟨gb392,3,none⟩ = some (.slice Ao23 t388.length co23):=(blk_cell BK392.out 3).trans rfl
         have hfz38_0:=blk_frozen BK392.out 0
         have hfz38_1:=blk_frozen BK392.out 1
         have hfz38_2:=blk_frozen BK392.out 2
         have hfz38_3:=blk_frozen BK392.out 3
         have hcz39_0 : w25.cell? ⟨gb404,0,none⟩ = some (.int .i64 0):=(blk_cell BK404.out 0).trans rfl
         have hcz39_1 : w25.cell? ⟨gb404,1,none⟩ = some (.slice none 0 0):=(blk_cell BK404.out 1).trans rfl
         have hcz39_2 : w25.cell? ⟨gb404,2,none⟩ = some (.slice none 0 0):=(blk_cell BK404.out 2).trans rfl
         have hcz39_3 : w25.cell? ⟨gb404,3,none⟩ = some (.slice none 0 0):=(blk_cell BK404.out 3).trans rfl
         have hfz39_0:=blk_frozen BK404.out 0
         have hfz39_1:=blk_frozen BK404.out 1
         have hfz39_2:=blk_frozen BK404.out 2
         have hfz39_3:=blk_frozen BK404.out 3
         go_wp2_with (first|(go_at_call 21;(with_reducible refine (laws_sameSignature.calls kj2 t381 _ _ t382 _ _ t385 _ _ t388 t393 _ _ t394 _ _ t397 _ _ t400 true _ ?side1 ?side2 ?side3 ?side4 ?side5 ?side6 ?side7 ?side8 ?side9 ?side10 ?side11 ?side12 A34.out).mono ?_);(case side1 => refine (Kd.R_reads' (e:=9) (base:=w.heap.size) (ok:=fun k_ => ((((some k_ ≠ (.slice Ao22 t385.length co22 : Value).ownBlock ∧ some k_ ≠ (.slice Ao23 t388.length co23 : Value).ownBlock) ∧ some k_ ≠ (.slice Ao28 t394.length co28 : Value).ownBlock) ∧ some k_ ≠ (.slice Ao29 t397.length co29 : Value).ownBlock) ∧ some k_ ≠ (.slice Ao30 t400.length co30 : Value).ownBlock)) (n:=t382.length) (c:=co21) ?_).2.2;exact (by (with_reducible repeat (first|apply qd12|apply qe12|apply qf12));exact (qp12 (qn12 (p:=⟨gb404,3,none⟩) (qn12 (p:=⟨gb404,2,none⟩) (qn12 (p:=⟨gb404,1,none⟩) (qn12 (p:=⟨gb404,0,none⟩) (qo12 HO384.out BK404.out (by decide)) (fun _ hk => hk.2) (.int .i64 t393)) (fun _ hk => hk.2) (.slice Ao28 t394.length co28)) (fun _ hk => hk.2) (.slice Ao29 t397.length co29)) (fun _ hk => hk.2) (.slice Ao30 t400.length co30)) (fun _ h_ => h_.1))));(case side2 => exact (Kd.R_reads' HO384.out).2.1);(case side3 => refine (Kd.R_reads' (e:=9) (base:=w.heap.size) (ok:=fun k_ => ((((some k_ ≠ (.slice Ao21 t382.length co21 : Value).ownBlock ∧ some k_ ≠ (.slice Ao23 t388.length co23 : Value).ownBlock) ∧ some k_ ≠ (.slice Ao28 t394.length co28 : Value).ownBlock) ∧ some k_ ≠ (.slice Ao29 t397.length co29 : Value).ownBlock) ∧ some k_ ≠ (.slice Ao30 t400.length co30 : Value).ownBlock)) (n:=t385.length) (c:=co22) ?_).2.2;exact (by (with_reducible repeat (first|apply qd12|apply qe12|apply qf12));exact (qp12 (qn12 (p:=⟨gb404,3,none⟩) (qn12 (p:=⟨gb404,2,none⟩) (qn12 (p:=⟨gb404,1,none⟩) (qn12 (p:=⟨gb404,0,none⟩) (qo12 HO387.out BK404.out (by decide)) (fun _ hk => hk.2) (.int .i64 t393)) (fun _ hk => hk.2) (.slice Ao28 t394.length co28)) (fun _ hk => hk.2) (.slice Ao29 t397.length co29)) (fun _ hk => hk.2) (.slice Ao30 t400.length co30)) (fun _ h_ => h_.1))));(case side4 => exact (Kd.R_reads' HO387.out).2.1);(case side5 => refine (Kd.R_reads' (e:=9) (base:=w.heap.size) (ok:=fun k_ => ((((some k_ ≠ (.slice Ao21 t382.length co21 : Value).ownBlock ∧ some k_ ≠ (.slice Ao22 t385.length co22 : Value).ownBlock) ∧ some k_ ≠ (.slice Ao28 t394.length co28 : Value).ownBlock) ∧ some k_ ≠ (.slice Ao29 t397.length co29 : Value).ownBlock) ∧ some k_ ≠ (.slice Ao30 t400.length co30 : Value).ownBlock)) (n:=t388.length) (c:=co23) ?_).2.2;exact (by (with_reducible repeat (first|apply qd12|apply qe12|apply qf12));exact (qp12 (qn12 (p:=⟨gb404,3,none⟩) (qn12 (p:=⟨gb404,2,none⟩) (qn12 (p:=⟨gb404,1,none⟩) (qn12 (p:=⟨gb404,0,none⟩) (qo12 HO390.out BK404.out (by decide)) (fun _ hk => hk.2) (.int .i64 t393)) (fun _ hk => hk.2) (.slice Ao28 t394.length co28)) (fun _ hk => hk.2) (.slice Ao29 t397.length co29)) (fun _ hk => hk.2) (.slice Ao30 t400.length co30)) (fun _ h_ => h_.1))));(case side6 => exact (Kd.R_reads' HO390.out).2.1);(case side7 => refine (Kd.R_reads' (e:=9) (base:=w.heap.size) (ok:=fun k_ => ((((some k_ ≠ (.slice Ao29 t397.length co29 : Value).ownBlock ∧ some k_ ≠ (.slice Ao30 t400.length co30 : Value).ownBlock) ∧ some k_ ≠ (.slice Ao21 t382.length co21 : Value).ownBlock) ∧ some k_ ≠ (.slice Ao22 t385.length co22 : Value).ownBlock) ∧ some k_ ≠ (.slice Ao23 t388.length co23 : Value).ownBlock)) (n:=t394.length) (c:=co28) ?_).2.2;exact (by (with_reducible repeat (first|apply qd12|apply qe12|apply qf12));exact (qp12 (qn12 (p:=⟨gb404,3,none⟩) (qn12 (p:=⟨gb404,2,none⟩) (qn12 (p:=⟨gb404,1,none⟩) (qn12 (p:=⟨gb404,0,none⟩) (qo12 HO396.out BK404.out (by decide)) (fun _ hk => hk.2) (.int .i64 t393)) (fun _ hk => hk.2) (.slice Ao28 t394.length co28)) (fun _ hk => hk.2) (.slice Ao29 t397.length co29)) (fun _ hk => hk.2) (.slice Ao30 t400.length co30)) (fun _ h_ => h_.1))));(case side8 => exact (Kd.R_reads' HO396.out).2.1);(case side9 => refine (Kd.R_reads' (e:=9) (base:=w.heap.size) (ok:=fun k_ => ((((some k_ ≠ (.slice Ao28 t394.length co28 : Value).ownBlock ∧ some k_ ≠ (.slice Ao30 t400.length co30 : Value).ownBlock) ∧ some k_ ≠ (.slice Ao21 t382.length co21 : Value).ownBlock) ∧ some k_ ≠ (.slice Ao22 t385.length co22 : Value).ownBlock) ∧ some k_ ≠ (.slice Ao23 t388.length co23 : Value).ownBlock)) (n:=t397.length) (c:=co29) ?_).2.2;exact (by (with_reducible repeat (first|apply qd12|apply qe12|apply qf12));exact (qp12 (qn12 (p:=⟨gb404,3,none⟩) (qn12 (p:=⟨gb404,2,none⟩) (qn12 (p:=⟨gb404,1,none⟩) (qn12 (p:=⟨gb404,0,none⟩) (qo12 HO399.out BK404.out (by decide)) (fun _ hk => hk.2) (.int .i64 t393)) (fun _ hk => hk.2) (.slice Ao28 t394.length co28)) (fun _ hk => hk.2) (.slice Ao29 t397.length co29)) (fun _ hk => hk.2) (.slice Ao30 t400.length co30)) (fun _ h_ => h_.1))));(case side10 => exact (Kd.R_reads' HO399.out).2.1);(case side11 => refine (Kd.R_reads' (e:=9) (base:=w.heap.size) (ok:=fun k_ => ((((some k_ ≠ (.slice Ao28 t394.length co28 : Value).ownBlock ∧ some k_ ≠ (.slice Ao29 t397.length co29 : Value).ownBlock) ∧ some k_ ≠ (.slice Ao21 t382.length co21 : Value).ownBlock) ∧ some k_ ≠ (.slice Ao22 t385.length co22 : Value).ownBlock) ∧ some k_ ≠ (.slice Ao23 t388.length co23 : Value).ownBlock)) (n:=t400.length) (c:=co30) ?_).2.2;exact (by (with_reducible repeat (first|apply qd12|apply qe12|apply qf12));exact (qp12 (qn12 (p:=⟨gb404,3,none⟩) (qn12 (p:=⟨gb404,2,none⟩) (qn12 (p:=⟨gb404,1,none⟩) (qn12 (p:=⟨gb404,0,none⟩) (qo12 HO402.out BK404.out (by decide)) (fun _ hk => hk.2) (.int .i64 t393)) (fun _ hk => hk.2) (.slice Ao28 t394.length co28)) (fun _ hk => hk.2) (.slice Ao29 t397.length co29)) (fun _ hk => hk.2) (.slice Ao30 t400.length co30)) (fun _ h_ => h_.1))));(case side12 => exact (Kd.R_reads' HO402.out).2.1);rintro e w40 ⟨rfl,hb⟩;have n0_:=qk12 (qm12 (by (with_reducible repeat (first|apply qd12|apply qe12|apply qf12));exact (qp12 (qn12 (p:=⟨gb404,3,none⟩) (qn12 (p:=⟨gb404,2,none⟩) (qn12 (p:=⟨gb404,1,none⟩) (qn12 (p:=⟨gb404,0,none⟩) (qo12 HO384.out BK404.out (by decide)) (fun _ hk => hk.2) (.int .i64 t393)) (fun _ hk => hk.2) (.slice Ao28 t394.length co28)) (fun _ hk => hk.2) (.slice Ao29 t397.length co29)) (fun _ hk => hk.2) (.slice Ao30 t400.length co30)) (fun _ h_ => h_.1))) hb);have n1_:=qk12 (qm12 (by (with_reducible repeat (first|apply qd12|apply qe12|apply qf12));exact (qp12 (qn12 (p:=⟨gb404,3,none⟩) (qn12 (p:=⟨gb404,2,none⟩) (qn12 (p:=⟨gb404,1,none⟩) (qn12 (p:=⟨gb404,0,none⟩) (qo12 HO387.out BK404.out (by decide)) (fun _ hk => hk.2) (.int .i64 t393)) (fun _ hk => hk.2) (.slice Ao28 t394.length co28)) (fun _ hk => hk.2) (.slice Ao29 t397.length co29)) (fun _ hk => hk.2) (.slice Ao30 t400.length co30)) (fun _ h_ => h_.1))) hb);have n2_:=qk12 (qm12 (by (with_reducible repeat (first|apply qd12|apply qe12|apply qf12));exact (qp12 (qn12 (p:=⟨gb404,3,none⟩) (qn12 (p:=⟨gb404,2,none⟩) (qn12 (p:=⟨gb404,1,none⟩) (qn12 (p:=⟨gb404,0,none⟩) (qo12 HO390.out BK404.out (by decide)) (fun _ hk => hk.2) (.int .i64 t393)) (fun _ hk => hk.2) (.slice Ao28 t394.length co28)) (fun _ hk => hk.2) (.slice Ao29 t397.length co29)) (fun _ hk => hk.2) (.slice Ao30 t400.length co30)) (fun _ h_ => h_.1))) hb);have n3_:=qk12 (qm12 (by (with_reducible repeat (first|apply qd12|apply qe12|apply qf12));exact (qp12 (qn12 (p:=⟨gb404,3,none⟩) (qn12 (p:=⟨gb404,2,none⟩) (qn12 (p:=⟨gb404,1,none⟩) (qn12 (p:=⟨gb404,0,none⟩) (qo12 HO396.out BK404.out (by decide)) (fun _ hk => hk.2) (.int .i64 t393)) (fun _ hk => hk.2) (.slice Ao28 t394.length co28)) (fun _ hk => hk.2) (.slice Ao29 t397.length co29)) (fun _ hk => hk.2) (.slice Ao30 t400.length co30)) (fun _ h_ => h_.1))) hb);have n4_:=qk12 (qm12 (by (with_reducible repeat (first|apply qd12|apply qe12|apply qf12));exact (qp12 (qn12 (p:=⟨gb404,3,none⟩) (qn12 (p:=⟨gb404,2,none⟩) (qn12 (p:=⟨gb404,1,none⟩) (qn12 (p:=⟨gb404,0,none⟩) (qo12 HO399.out BK404.out (by decide)) (fun _ hk => hk.2) (.int .i64 t393)) (fun _ hk => hk.2) (.slice Ao28 t394.length co28)) (fun _ hk => hk.2) (.slice Ao29 t397.length co29)) (fun _ hk => hk.2) (.slice Ao30 t400.length co30)) (fun _ h_ => h_.1))) hb);have n5_:=qk12 (qm12 (by (with_reducible repeat (first|apply qd12|apply qe12|apply qf12));exact (qp12 (qn12 (p:=⟨gb404,3,none⟩) (qn12 (p:=⟨gb404,2,none⟩) (qn12 (p:=⟨gb404,1,none⟩) (qn12 (p:=⟨gb404,0,none⟩) (qo12 HO402.out BK404.out (by decide)) (fun _ hk => hk.2) (.int .i64 t393)) (fun _ hk => hk.2) (.slice Ao28 t394.length co28)) (fun _ hk => hk.2) (.slice Ao29 t397.length co29)) (fun _ hk => hk.2) (.slice Ao30 t400.length co30)) (fun _ h_ => h_.1))) hb);have n6_:=qk12 (ql12 (g:=gb392) (o:=.cells #[.int .i64 t381,.slice Ao21 t382.length co21,.slice Ao22 t385.length co22,.slice Ao23 t388.length co23] 33 (0,0)) (by (with_reducible repeat (first|apply qa12|apply qb12|apply qc12));refine blk_far ?_ NB392_404.out _;(with_reducible repeat (first|apply qa12|apply qb12|apply qc12));refine blk_far ?_ NB392_404.out _;(with_reducible repeat (first|apply qa12|apply qb12|apply qc12));refine blk_far ?_ NB392_404.out _;(with_reducible repeat (first|apply qa12|apply qb12|apply qc12));refine blk_far ?_ NB392_404.out _;(with_reducible repeat (first|apply qa12|apply qb12|apply qc12));exact BK392.out) hb);have n7_:=qk12 (ql12 (g:=gb404) (o:=.cells #[.int .i64 t393,.slice Ao28 t394.length co28,.slice Ao29 t397.length co29,.slice Ao30 t400.length co30] 33 (0,0)) (by (with_reducible repeat (first|apply qa12|apply qb12|apply qc12));refine blk_put (cs:=#[.int .i64 t393,.slice Ao28 t394.length co28,.slice Ao29 t397.length co29,.slice none 0 0]) ?_ 3 _ rfl;(with_reducible repeat (first|apply qa12|apply qb12|apply qc12));refine blk_put (cs:=#[.int .i64 t393,.slice Ao28 t394.length co28,.slice none 0 0,.slice none 0 0]) ?_ 2 _ rfl;(with_reducible repeat (first|apply qa12|apply qb12|apply qc12));refine blk_put (cs:=#[.int .i64 t393,.slice none 0 0,.slice none 0 0,.slice none 0 0]) ?_ 1 _ rfl;(with_reducible repeat (first|apply qa12|apply qb12|apply qc12));refine blk_put (cs:=#[.int .i64 0,.slice none 0 0,.slice none 0 0,.slice none 0 0]) ?_ 0 _ rfl;(with_reducible repeat (first|apply qa12|apply qb12|apply qc12));exact BK404.out) hb);have n8_:=qk12 (below_step (by repeat (first|(with_reducible first|exact HB.out|apply qg12|apply qh12|apply qi12|refine qj12 ?_ GE392.out|refine qj12 ?_ GE404.out)|exact HB.out)) hb);clear HO384;clear HO387;clear HO390;clear HO396;clear HO399;clear HO402;clear BK392;clear BK404;clear HB;have HO384:=n0_;have HO387:=n1_;have HO390:=n2_;have HO396:=n3_;have HO399:=n4_;have HO402:=n5_;have BK392:=n6_;have BK404:=n7_;have HB:=n8_;clear n0_ n1_ n2_ n3_ n4_ n5_ n6_ n7_ n8_;(try clear hb);(try clear hb2);(try clear hk);(try clear hi);have hcz41_0 : w40.cell? ⟨gb392,0,none⟩ = some (.int .i64 t381):=(blk_cell BK392.out 0).trans rfl;have hcz41_1 : w40.cell? ⟨gb392,1,none⟩ = some (.slice Ao21 t382.length co21):=(blk_cell BK392.out 1).trans rfl;have hcz41_2 : w40.cell? ⟨gb392,2,none⟩ = some (.slice Ao22 t385.length co22):=(blk_cell BK392.out 2).trans rfl;have hcz41_3 : w40.cell? ⟨gb392,3,none⟩ = some (.slice Ao23 t388.length co23):=(blk_cell BK392.out 3).trans rfl;have hfz41_0:=blk_frozen BK392.out 0;have hfz41_1:=blk_frozen BK392.out 1;have hfz41_2:=blk_frozen BK392.out 2;have hfz41_3:=blk_frozen BK392.out 3)|(go_at_call 29;(with_reducible refine (impl_CheckSignature.calls kj2 t377 t375 t381 _ _ t382 _ _ t385 _ _ t388 t406 _ ?side1 ?side2 ?side3 ?side4 ?side5 ?side6 ?side7 A36.out).mono ?_);(case side1 => repeat (first|exact (Kd.R_reads' HO384.out).2.2|(with_reducible refine Kd.C_alloc ?_ _)|(with_reducible refine Kd.C_drewN ?_ _)|(with_reducible refine Kd.C_drew ?_)));(case side2 => exact (Kd.R_reads' HO384.out).2.1);(case side3 => repeat (first|exact (Kd.R_reads' HO387.out).2.2|(with_reducible refine Kd.C_alloc ?_ _)|(with_reducible refine Kd.C_drewN ?_ _)|(with_reducible refine Kd.C_drew ?_)));(case side4 => exact (Kd.R_reads' HO387.out).2.1);(case side5 => repeat (first|exact (Kd.R_reads' HO390.out).2.2|(with_reducible refine Kd.C_alloc ?_ _)|(with_reducible refine Kd.C_drewN ?_ _)|(with_reducible refine Kd.C_drew ?_)));(case side6 => exact (Kd.R_reads' HO390.out).2.1);(case side7 => exact Go.Proofs.YtmkaknegjahjaaaDoor.Sha.glob_below hG_ (by repeat (first|(with_reducible first|exact HB.out|apply qg12|apply qh12|apply qi12|refine qj12 ?_ GE392.out|refine qj12 ?_ GE404.out)|exact HB.out)));rintro e w42 ⟨rfl,hb⟩;have n0_:=qk12 (qm12 (by (with_reducible repeat (first|apply qd12|apply qe12|apply qf12));exact HO384.out) hb);have n1_:=qk12 (qm12 (by (with_reducible repeat (first|apply qd12|apply qe12|apply qf12));exact HO387.out) hb);have n2_:=qk12 (qm12 (by (with_reducible repeat (first|apply qd12|apply qe12|apply qf12));exact HO390.out) hb);have n3_:=qk12 (qm12 (by (with_reducible repeat (first|apply qd12|apply qe12|apply qf12));exact HO396.out) hb);have n4_:=qk12 (qm12 (by (with_reducible repeat (first|apply qd12|apply qe12|apply qf12));exact HO399.out) hb);have n5_:=qk12 (qm12 (by (with_reducible repeat (first|apply qd12|apply qe12|apply qf12));exact HO402.out) hb);have n6_:=qk12 (ql12 (g:=gb392) (o:=.cells #[.int .i64 t381,.slice Ao21 t382.length co21,.slice Ao22 t385.length co22,.slice Ao23 t388.length co23] 33 (0,0)) (by (with_reducible repeat (first|apply qa12|apply qb12|apply qc12));exact BK392.out) hb);have n7_:=qk12 (ql12 (g:=gb404) (o:=.cells #[.int .i64 t393,.slice Ao28 t394.length co28,.slice Ao29 t397.length co29,.slice Ao30 t400.length co30] 33 (0,0)) (by (with_reducible repeat (first|apply qa12|apply qb12|apply qc12));exact BK404.out) hb);have n8_:=qk12 (below_step (by repeat (first|(with_reducible first|exact HB.out|apply qg12|apply qh12|apply qi12|refine qj12 ?_ GE392.out|refine qj12 ?_ GE404.out)|exact HB.out)) hb);clear HO384;clear HO387;clear HO390;clear HO396;clear HO399;clear HO402;clear BK392;clear BK404;clear HB;have HO384:=n0_;have HO387:=n1_;have HO390:=n2_;have HO396:=n3_;have HO399:=n4_;have HO402:=n5_;have BK392:=n6_;have BK404:=n7_;have HB:=n8_;clear n0_ n1_ n2_ n3_ n4_ n5_ n6_ n7_ n8_;(try clear hb);(try clear hb2);(try clear hk);(try clear hi)))
         go_meet
         case rel => exact ⟨_,((t406 != 0)),(by first|rfl|(simp;done)|(simp [*];done)),H',⟨by have:=HJ2.out;first|omega|exact Nat.le_refl _⟩,⟨by (with_reducible repeat (first|apply qd12|apply qe12|apply qf12));exact qp12 HO384.out (fun _ hk => ⟨hk.1.1.1.1,⟨hk.1.1.1.2,⟨hk.1.1.2,⟨hk.1.2,hk.2⟩⟩⟩⟩)⟩,⟨by (with_reducible repeat (first|apply qd12|apply qe12|apply qf12));exact qp12 HO387.out (fun _ hk => ⟨hk.1.1.1.1,⟨hk.1.1.1.2,⟨hk.1.1.2,⟨hk.1.2,hk.2⟩⟩⟩⟩)⟩,⟨by (with_reducible repeat (first|apply qd12|apply qe12|apply qf12));exact qp12 HO390.out (fun _ hk => ⟨hk.1.1.1.1,⟨hk.1.1.1.2,⟨hk.1.1.2,⟨hk.1.2,hk.2⟩⟩⟩⟩)⟩,⟨by (with_reducible repeat (first|apply qd12|apply qe12|apply qf12));exact qp12 HO396.out (fun _ hk => ⟨hk.1.1.2,⟨hk.1.2,⟨hk.2,⟨hk.1.1.1.1,hk.1.1.1.2⟩⟩⟩⟩)⟩,⟨by (with_reducible repeat (first|apply qd12|apply qe12|apply qf12));exact qp12 HO399.out (fun _ hk => ⟨hk.1.1.2,⟨hk.1.2,⟨hk.2,⟨hk.1.1.1.1,hk.1.1.1.2⟩⟩⟩⟩)⟩,⟨by (with_reducible repeat (first|apply qd12|apply qe12|apply qf12));exact qp12 HO402.out (fun _ hk => ⟨hk.1.1.2,⟨hk.1.2,⟨hk.2,⟨hk.1.1.1.1,hk.1.1.1.2⟩⟩⟩⟩)⟩,⟨by (with_reducible repeat (first|apply qa12|apply qb12|apply qc12));exact BK392.out⟩,⟨by (with_reducible repeat (first|apply qa12|apply qb12|apply qc12));exact BK404.out⟩,⟨by repeat (first|(with_reducible first|exact HB.out|apply qg12|apply qh12|apply qi12|refine qj12 ?_ GE392.out|refine qj12 ?_ GE404.out)|exact HB.out)⟩⟩
        ·
         replace c35:=Bool.eq_false_iff.mpr c35
         subst c35
         have H1 : (laws_FnLamport.j1 kj2 l1 t374 t375 t376 t377 true t381 t382 t385 t388) = some r:=by rw [if_neg (show ¬ (false = true) by decide)] at H;exact H
         clear H
         have H:=H1
         clear H1
         have hf_ : r = false:=by (cases kj2 with|zero => simp [laws_FnLamport.j1] at H|succ k9_ => (rw [laws_FnLamport.j1,if_pos rfl] at H;exact (Option.some.inj H).symm))
         exact absurd hr_ (by rw [hf_];decide)
       ·
        rw [if_neg c33] at H
        have c33b0 : (t391 == 0) = false:=beq_eq_false_iff_ne.mpr c33
        have c33b1 : (t391 != 0) = true:=bne_iff_ne.mpr c33
        have hf_ : r = false:=by (cases kj2 with|zero => simp [laws_FnLamport.j1] at H|succ k9_ => (rw [laws_FnLamport.j1,if_pos rfl] at H;exact (Option.some.inj H).symm))
        exact absurd hr_ (by rw [hf_];decide)
      ·
       rw [if_neg c32] at H
       have c32b0 : (t377.toList == t379.toList) = false:=beq_eq_false_iff_ne.mpr c32
       have c32b1 : (t377.toList != t379.toList) = true:=bne_iff_ne.mpr c32
       have hf_ : r = false:=by (cases kj2 with|zero => simp [laws_FnLamport.j1] at H|succ k9_ => (rw [laws_FnLamport.j1,if_pos rfl] at H;exact (Option.some.inj H).symm))
       exact absurd hr_ (by rw [hf_];decide)
     ·
      rw [if_neg c31] at H
      have c31b0 : (t378 == 0) = false:=beq_eq_false_iff_ne.mpr c31
      have c31b1 : (t378 != 0) = true:=bne_iff_ne.mpr c31
      (first|rw [c31b0]|(simp only [i64_w,i32_w];rw [c31b0])|skip)
      have hf_ : r = false:=by (cases kj2 with|zero => simp [laws_FnLamport.j1] at H|succ k9_ => (rw [laws_FnLamport.j1,if_pos rfl] at H;exact (Option.some.inj H).symm))
      exact absurd hr_ (by rw [hf_];decide)
    case rest =>
     clear HC13
     try clear c1
     try clear c2
     try clear p2
     try clear c3
     try clear c4
     try clear c4b0
     try clear c4b1
     try clear c5
     try clear c17
     try clear c18
     try clear c20
     try clear c25
     try clear c26
     try clear c27
     try clear c28
     try clear c31
     try clear c31b0
     try clear c31b1
     try clear c32
     try clear c32b0
     try clear c32b1
     try clear c33
     try clear c33b0
     try clear c33b1
     try clear c35
     try clear c37
     try clear c43
     try clear hcz20_0
     try clear hcz20_1
     try clear hcz20_2
     try clear hcz20_3
     try clear hcz27_0
     try clear hcz27_1
     try clear hcz27_2
     try clear hcz27_3
     try clear hcz38_0
     try clear hcz38_1
     try clear hcz38_2
     try clear hcz38_3
     try clear hcz39_0
     try clear hcz39_1
     try clear hcz39_2
     try clear hcz39_3
     try clear hcz41_0
     try clear hcz41_1
     try clear hcz41_2
     try clear hcz41_3
     try clear hcz44_0
     try clear hcz44_1
     try clear hcz44_2
     try clear hcz44_3
     try clear hcz45_0
     try clear hcz45_1
     try clear hcz45_2
     try clear hcz45_3
     try clear hfz20_0
     try clear hfz20_1
     try clear hfz20_2
     try clear hfz20_3
     try clear hfz27_0
     try clear hfz27_1
     try clear hfz27_2
     try clear hfz27_3
     try clear hfz38_0
     try clear hfz38_1
     try clear hfz38_2
     try clear hfz38_3
     try clear hfz39_0
     try clear hfz39_1
     try clear hfz39_2
     try clear hfz39_3
     try clear hfz41_0
     try clear hfz41_1
     try clear hfz41_2
     try clear hfz41_3
     try clear hfz44_0
     try clear hfz44_1
     try clear hfz44_2
     try clear hfz44_3
     try clear hfz45_0
     try clear hfz45_1
     try clear hfz45_2
     try clear hfz45_3
     try clear p2
     obtain ⟨kq,x85_12,rfl,HA,HJ12,HO_393001,HO_393002,HO_393003,HO_405001,HO_405002,HO_405003,BK392,BK404,HB⟩:=hcut
     cases kq with
     | zero => exact absurd HA.out (by simp [laws_FnLamport.j1])
     | succ kj12 =>
      have H:=HA.out
      clear HA
      simp only [laws_FnLamport.j1] at H
      by_cases c47 : x85_12 = true
      ·
       subst c47
       have H1 : (some false) = some r:=by rw [if_pos rfl] at H;exact H
       clear H
       have H:=H1
       clear H1
       obtain rfl:=Option.some.inj H
       exact absurd hr_ (by decide)
      ·
       replace c47:=Bool.eq_false_iff.mpr c47
       subst c47
       have H1 : ((impl_MessageBits.f kj12 t375).bind fun bt407 => ((laws_at.f l1 1 32).bind fun t409 => (if bt407.2 = 0 then (laws_FnLamport.j2 kj12 l1 t374 t375 t376 t377 bt407.1 t409 ((bt407.1.size : Int) != 32) t381 t382 t385 t388) else (laws_FnLamport.j2 kj12 l1 t374 t375 t376 t377 bt407.1 t409 true t381 t382 t385 t388)))) = some r:=by rw [if_neg (show ¬ (false = true) by decide)] at H;exact H
       clear H
       have H:=H1
       clear H1
       replace H:=Option.bind_eq_some_iff.mp H
       obtain ⟨⟨t407,t408⟩,A480,H⟩:=H
       replace H : ((laws_at.f l1 1 32).bind fun t409 => (if t408 = 0 then (laws_FnLamport.j2 kj12 l1 t374 t375 t376 t377 t407 t409 ((t407.size : Int) != 32) t381 t382 t385 t388) else (laws_FnLamport.j2 kj12 l1 t374 t375 t376 t377 t407 t409 true t381 t382 t385 t388))) = some r:=H
       have A48:=qk12 A480
       clear A480
       replace H:=Option.bind_eq_some_iff.mp H
       obtain ⟨t409,A490,H⟩:=H
       replace H : (if t408 = 0 then (laws_FnLamport.j2 kj12 l1 t374 t375 t376 t377 t407 t409 ((t407.size : Int) != 32) t381 t382 t385 t388) else (laws_FnLamport.j2 kj12 l1 t374 t375 t376 t377 t407 t409 true t381 t382 t385 t388)) = some r:=H
       have A49:=qk12 A490
       clear A490
       have HC50:=qk12 H
       clear H
       go_upto_region 14 with (first|((with_reducible refine gate_callee (f:=30) rfl ?_);refine goesL_ (some 88) rfl rfl Tryd.func30 (by kernel_rfl) rfl #[.string t375] rfl (by (try simp only [List.map_toArray,List.map_cons,List.map_nil]);first|done|rfl|(simp only [List.length_drop,List.length_take];rfl)) ?_;(with_reducible refine (impl_MessageBits.calls kj12 t375 t407 t408 _ ?side1 A48.out).mono ?_);(case side1 => exact Go.Proofs.YtmkaknegjahjaaaDoor.Sha.glob_below hG_ (by repeat (first|(with_reducible first|exact HB.out|apply qg12|apply qh12|apply qi12|refine qj12 ?_ GE392.out|refine qj12 ?_ GE404.out)|exact HB.out)));rintro e w51 ⟨rfl,hb⟩;refine ⟨_,rfl,?_⟩;have n0_:=qk12 (qm12 (by (with_reducible repeat (first|apply qd12|apply qe12|apply qf12));exact HO_393001.out) hb);have n1_:=qk12 (qm12 (by (with_reducible repeat (first|apply qd12|apply qe12|apply qf12));exact HO_393002.out) hb);have n2_:=qk12 (qm12 (by (with_reducible repeat (first|apply qd12|apply qe12|apply qf12));exact HO_393003.out) hb);have n3_:=qk12 (qm12 (by (with_reducible repeat (first|apply qd12|apply qe12|apply qf12));exact HO_405001.out) hb);have n4_:=qk12 (qm12 (by (with_reducible repeat (first|apply qd12|apply qe12|apply qf12));exact HO_405002.out) hb);have n5_:=qk12 (qm12 (by (with_reducible repeat (first|apply qd12|apply qe12|apply qf12));exact HO_405003.out) hb);have n6_:=qk12 (ql12 (g:=gb392) (o:=.cells #[.int .i64 t381,.slice Ao21 t382.length co21,.slice Ao22 t385.length co22,.slice Ao23 t388.length co23] 33 (0,0)) (by (with_reducible repeat (first|apply qa12|apply qb12|apply qc12));exact BK392.out) hb);have n7_:=qk12 (ql12 (g:=gb404) (o:=.cells #[.int .i64 t393,.slice Ao28 t394.length co28,.slice Ao29 t397.length co29,.slice Ao30 t400.length co30] 33 (0,0)) (by (with_reducible repeat (first|apply qa12|apply qb12|apply qc12));exact BK404.out) hb);have n8_:=qk12 (below_step (by repeat (first|(with_reducible first|exact HB.out|apply qg12|apply qh12|apply qi12|refine qj12 ?_ GE392.out|refine qj12 ?_ GE404.out)|exact HB.out)) hb);clear HO_393001;clear HO_393002;clear HO_393003;clear HO_405001;clear HO_405002;clear HO_405003;clear BK392;clear BK404;clear HB;have HO_393001:=n0_;have HO_393002:=n1_;have HO_393003:=n2_;have HO_405001:=n3_;have HO_405002:=n4_;have HO_405003:=n5_;have BK392:=n6_;have BK404:=n7_;have HB:=n8_;clear n0_ n1_ n2_ n3_ n4_ n5_ n6_ n7_ n8_;(try clear hb);(try clear hb2);(try clear hk);(try clear hi))|((with_reducible refine gate_callee (f:=18) rfl ?_);refine goesL_ (some 92) rfl rfl Tryd.func18 (by kernel_rfl) rfl #[.slice A1 l1.length c1,.int .i64 1,.int .i64 32] rfl (by (try simp only [List.map_toArray,List.map_cons,List.map_nil]);first|done|rfl|(simp only [List.length_drop,List.length_take];rfl)) ?_;(with_reducible refine (laws_at.calls _ _ l1 1 32 t409 _ ?side1 ?side2 A49.out).mono ?_);(case side1 => repeat (first|exact (Kd.C_below HR1.out HB.out)|(with_reducible refine Kd.C_alloc ?_ _)|(with_reducible refine Kd.C_drewN ?_ _)|(with_reducible refine Kd.C_drew ?_)));(case side2 => exact HC1.out);rintro e w' ⟨rfl,⟨nd,rfl⟩⟩;refine ⟨_,rfl,?_⟩))
       (try simp only [Act.put,List.setIfInBounds_toArray,List.set_cons_zero,List.set_cons_succ])
       go_cut [99] (fun v99 wc => ∃ (kq : Nat) (x99_49 : Bool),v99 = .bool x99_49 ∧ Aside0 (laws_FnLamport.j2 kq l1 t374 t375 t376 t377 t407 t409 x99_49 t381 t382 t385 t388 = some r) ∧ Aside0 (kq ≤ kj12) ∧ Aside0 (Kd.R Kd.string 9 wc w.heap.size (fun k_ => some k_ ≠ ((.slice Ao22 t385.length co22) : Value).ownBlock ∧ some k_ ≠ ((.slice Ao23 t388.length co23) : Value).ownBlock ∧ some k_ ≠ ((.slice Ao28 t394.length co28) : Value).ownBlock ∧ some k_ ≠ ((.slice Ao29 t397.length co29) : Value).ownBlock ∧ some k_ ≠ ((.slice Ao30 t400.length co30) : Value).ownBlock) (.slice Ao21 t382.length co21) t382) ∧ Aside0 (Kd.R Kd.string 9 wc w.heap.size (fun k_ => some k_ ≠ ((.slice Ao21 t382.length co21) : Value).ownBlock ∧ some k_ ≠ ((.slice Ao23 t388.length co23) : Value).ownBlock ∧ some k_ ≠ ((.slice Ao28 t394.length co28) : Value).ownBlock ∧ some k_ ≠ ((.slice Ao29 t397.length co29) : Value).ownBlock ∧ some k_ ≠ ((.slice Ao30 t400.length co30) : Value).ownBlock) (.slice Ao22 t385.length co22) t385) ∧ Aside0 (Kd.R Kd.string 9 wc w.heap.size (fun k_ => some k_ ≠ ((.slice Ao21 t382.length co21) : Value).ownBlock ∧ some k_ ≠ ((.slice Ao22 t385.length co22) : Value).ownBlock ∧ some k_ ≠ ((.slice Ao28 t394.length co28) : Value).ownBlock ∧ some k_ ≠ ((.slice Ao29 t397.length co29) : Value).ownBlock ∧ some k_ ≠ ((.slice Ao30 t400.length co30) : Value).ownBlock) (.slice Ao23 t388.length co23) t388) ∧ Aside0 (Kd.R Kd.string 9 wc w.heap.size (fun k_ => some k_ ≠ ((.slice Ao21 t382.length co21) : Value).ownBlock ∧ some k_ ≠ ((.slice Ao22 t385.length co22) : Value).ownBlock ∧ some k_ ≠ ((.slice Ao23 t388.length co23) : Value).ownBlock ∧ some k_ ≠ ((.slice Ao29 t397.length co29) : Value).ownBlock ∧ some k_ ≠ ((.slice Ao30 t400.length co30) : Value).ownBlock) (.slice Ao28 t394.length co28) t394) ∧ Aside0 (Kd.R Kd.string 9 wc w.heap.size (fun k_ => some k_ ≠ ((.slice Ao21 t382.length co21) : Value).ownBlock ∧ some k_ ≠ ((.slice Ao22 t385.length co22) : Value).ownBlock ∧ some k_ ≠ ((.slice Ao23 t388.length co23) : Value).ownBlock ∧ some k_ ≠ ((.slice Ao28 t394.length co28) : Value).ownBlock ∧ some k_ ≠ ((.slice Ao30 t400.length co30) : Value).ownBlock) (.slice Ao29 t397.length co29) t397) ∧ Aside0 (Kd.R Kd.string 9 wc w.heap.size (fun k_ => some k_ ≠ ((.slice Ao21 t382.length co21) : Value).ownBlock ∧ some k_ ≠ ((.slice Ao22 t385.length co22) : Value).ownBlock ∧ some k_ ≠ ((.slice Ao23 t388.length co23) : Value).ownBlock ∧ some k_ ≠ ((.slice Ao28 t394.length co28) : Value).ownBlock ∧ some k_ ≠ ((.slice Ao29 t397.length co29) : Value).ownBlock) (.slice Ao30 t400.length co30) t400) ∧ Aside0 (wc.heap[gb392]? = some (.cells #[.int .i64 t381,(.slice Ao21 t382.length co21),(.slice Ao22 t385.length co22),(.slice Ao23 t388.length co23)] 33 (0,0))) ∧ Aside0 (wc.heap[gb404]? = some (.cells #[.int .i64 t393,(.slice Ao28 t394.length co28),(.slice Ao29 t397.length co29),(.slice Ao30 t400.length co30)] 33 (0,0))) ∧ Aside0 (Below w.heap.size w wc))
       case first =>
        have H:=HC50.out
        clear HC50
        by_cases c52 : t408 = 0
        ·
         rw [if_pos c52] at H
         have c52b0 : (t408 == 0) = true:=beq_iff_eq.mpr c52
         have c52b1 : (t408 != 0) = false:=bne_eq_false_iff_eq.mpr c52
         clear c52
         (first|rw [c52b0]|(simp only [i64_w,i32_w];rw [c52b0])|skip)
         have H':=qk12 H
         clear H
         go_wp2
         go_meet
         case rel => exact ⟨_,(((t407.size : Int) != 32)),(by first|rfl|(simp;done)|(simp [*];done)),H',⟨by have:=HJ2.out;have:=HJ12.out;first|omega|exact Nat.le_refl _⟩,⟨by (with_reducible repeat (first|apply qd12|apply qe12|apply qf12));exact HO_393001.out⟩,⟨by (with_reducible repeat (first|apply qd12|apply qe12|apply qf12));exact HO_393002.out⟩,⟨by (with_reducible repeat (first|apply qd12|apply qe12|apply qf12));exact HO_393003.out⟩,⟨by (with_reducible repeat (first|apply qd12|apply qe12|apply qf12));exact HO_405001.out⟩,⟨by (with_reducible repeat (first|apply qd12|apply qe12|apply qf12));exact HO_405002.out⟩,⟨by (with_reducible repeat (first|apply qd12|apply qe12|apply qf12));exact HO_405003.out⟩,⟨by (with_reducible repeat (first|apply qa12|apply qb12|apply qc12));exact BK392.out⟩,⟨by (with_reducible repeat (first|apply qa12|apply qb12|apply qc12));exact BK404.out⟩,⟨by repeat (first|(with_reducible first|exact HB.out|apply qg12|apply qh12|apply qi12|refine qj12 ?_ GE392.out|refine qj12 ?_ GE404.out)|exact HB.out)⟩⟩
        ·
         rw [if_neg c52] at H
         have c52b0 : (t408 == 0) = false:=beq_eq_false_iff_ne.mpr c52
         have c52b1 : (t408 != 0) = true:=bne_iff_ne.mpr c52
         (first|rw [c52b0]|(simp only [i64_w,i32_w];rw [c52b0])|skip)
         have hf_ : r = false:=by (cases kj12 with|zero => simp [laws_FnLamport.j2] at H|succ k9_ => (rw [laws_FnLamport.j2,if_pos rfl] at H;exact (Option.some.inj H).symm))
         exact absurd hr_ (by rw [hf_];decide)
       case rest =>
        clear HC50
        try clear c1
        try clear c2
        try clear p2
        try clear c3
        try clear c4
        try clear c4b0
        try clear c4b1
        try clear c5
        try clear c17
        try clear c18
        try clear c20
        try clear c25
        try clear c26
        try clear c27
        try clear c28
        try clear c30
        try clear c31
        try clear c31b0
        try clear c31b1
        try clear c32
        try clear c32b0
        try clear c32b1
        try clear c33
        try clear c33b0
        try clear c33b1
        try clear c35
        try clear c37
        try clear c43
        try clear c47
        try clear c52
        try clear c52b0
        try clear c52b1
        try clear hcz20_0
        try clear hcz20_1
        try clear hcz20_2
        try clear hcz20_3
        try clear hcz27_0
        try clear hcz27_1
        try clear hcz27_2
        try clear hcz27_3
        try clear hcz38_0
        try clear hcz38_1
        try clear hcz38_2
        try clear hcz38_3
        try clear hcz39_0
        try clear hcz39_1
        try clear hcz39_2
        try clear hcz39_3
        try clear hcz41_0
        try clear hcz41_1
        try clear hcz41_2
        try clear hcz41_3
        try clear hcz44_0
        try clear hcz44_1
        try clear hcz44_2
        try clear hcz44_3
        try clear hcz45_0
        try clear hcz45_1
        try clear hcz45_2
        try clear hcz45_3
        try clear hfz20_0
        try clear hfz20_1
        try clear hfz20_2
        try clear hfz20_3
        try clear hfz27_0
        try clear hfz27_1
        try clear hfz27_2
        try clear hfz27_3
        try clear hfz38_0
        try clear hfz38_1
        try clear hfz38_2
        try clear hfz38_3
        try clear hfz39_0
        try clear hfz39_1
        try clear hfz39_2
        try clear hfz39_3
        try clear hfz41_0
        try clear hfz41_1
        try clear hfz41_2
        try clear hfz41_3
        try clear hfz44_0
        try clear hfz44_1
        try clear hfz44_2
        try clear hfz44_3
        try clear hfz45_0
        try clear hfz45_1
        try clear hfz45_2
        try clear hfz45_3
        try clear p2
        obtain ⟨kq,x99_49,rfl,HA,HJ49,HO_393001,HO_393002,HO_393003,HO_405001,HO_405002,HO_405003,BK392,BK404,HB⟩:=hcut
        cases kq with
        | zero => exact absurd HA.out (by simp [laws_FnLamport.j2])
        | succ kj49 =>
         have H:=HA.out
         clear HA
         simp only [laws_FnLamport.j2] at H
         by_cases c53 : x99_49 = true
         ·
          subst c53
          have H1 : (some false) = some r:=by rw [if_pos rfl] at H;exact H
          clear H
          have H:=H1
          clear H1
          obtain rfl:=Option.some.inj H
          exact absurd hr_ (by decide)
         ·
          replace c53:=Bool.eq_false_iff.mpr c53
          subst c53
          have H1 : (if 0 ≤ t409 then (if t409 < (t407.size : Int) then ((impl_SecretAt.f kj49 t374 t376 t409 (((bt t407 t409) - 48) % 256)).bind fun bt410 => ((impl_SecretAt.f kj49 t374 t376 t409 (wrap64 (1 - (((bt t407 t409) - 48) % 256)))).bind fun bt412 => (if bt410.2 = 0 then (if bt412.2 = 0 then (if t409 < (t382.length : Int) then (if (rdOf ByteArray.empty t382 t409).toList = bt410.1.toList then (if t409 < (t385.length : Int) then (if bt412.1.size ≤ 9223372036854775807 then ((impl_Hash.f (bytesOf bt412.1)).bind fun t419 => (laws_FnLamport.j3 kj49 l1 t375 t377 ((rdOf ByteArray.empty t385 t409).toList != t419.toList) t381 t382 t385 t388)) else (none)) else (none)) else (laws_FnLamport.j3 kj49 l1 t375 t377 true t381 t382 t385 t388)) else (none)) else (laws_FnLamport.j3 kj49 l1 t375 t377 true t381 t382 t385 t388)) else (laws_FnLamport.j3 kj49 l1 t375 t377 true t381 t382 t385 t388)))) else (none)) else (none)) = some r:=by rw [if_neg (show ¬ (false = true) by decide)] at H;exact H
          clear H
          have H:=H1
          clear H1
          by_cases c54 : 0 ≤ t409
          ·
           rw [if_pos c54] at H
           have c54b0 : decide (0 ≤ t409) = true:=decide_eq_true c54
           clear c54
           by_cases c55 : t409 < (t407.size : Int)
           ·
            rw [if_pos c55] at H
            have c55b0 : decide (t409 < (t407.size : Int)) = true:=decide_eq_true c55
            clear c55
            replace H:=Option.bind_eq_some_iff.mp H
            obtain ⟨⟨t410,t411⟩,A570,H⟩:=H
            replace H : ((impl_SecretAt.f kj49 t374 t376 t409 (wrap64 (1 - (((bt t407 t409) - 48) % 256)))).bind fun bt412 => (if t411 = 0 then (if bt412.2 = 0 then (if t409 < (t382.length : Int) then (if (rdOf ByteArray.empty t382 t409).toList = t410.toList then (if t409 < (t385.length : Int) then (if bt412.1.size ≤ 9223372036854775807 then ((impl_Hash.f (bytesOf bt412.1)).bind fun t419 => (laws_FnLamport.j3 kj49 l1 t375 t377 ((rdOf ByteArray.empty t385 t409).toList != t419.toList) t381 t382 t385 t388)) else (none)) else (none)) else (laws_FnLamport.j3 kj49 l1 t375 t377 true t381 t382 t385 t388)) else (none)) else (laws_FnLamport.j3 kj49 l1 t375 t377 true t381 t382 t385 t388)) else (laws_FnLamport.j3 kj49 l1 t375 t377 true t381 t382 t385 t388))) = some r:=H
            have A57:=qk12 A570
            clear A570
            replace H:=Option.bind_eq_some_iff.mp H
            obtain ⟨⟨t412,t413⟩,A590,H⟩:=H
            replace H : (if t411 = 0 then (if t413 = 0 then (if t409 < (t382.length : Int) then (if (rdOf ByteArray.empty t382 t409).toList = t410.toList then (if t409 < (t385.length : Int) then (if t412.size ≤ 9223372036854775807 then ((impl_Hash.f (bytesOf t412)).bind fun t419 => (laws_FnLamport.j3 kj49 l1 t375 t377 ((rdOf ByteArray.empty t385 t409).toList != t419.toList) t381 t382 t385 t388)) else (none)) else (none)) else (laws_FnLamport.j3 kj49 l1 t375 t377 true t381 t382 t385 t388)) else (none)) else (laws_FnLamport.j3 kj49 l1 t375 t377 true t381 t382 t385 t388)) else (laws_FnLamport.j3 kj49 l1 t375 t377 true t381 t382 t385 t388)) = some r:=H
            rw [show wrap64 (1 - (((bt t407 t409) - 48) % 256)) = 1 - (((bt t407 t409) - 48) % 256) from by (unfold wrap64;omega)] at A590
            have A59:=qk12 A590
            clear A590
            have HC60:=qk12 H
            clear H
            have p56 : 0 ≤ (t409 : Int):=of_decide_eq_true (by first|(with_reducible assumption)|assumption)
            have q56 : t409 < (t407.size : Int):=of_decide_eq_true (by first|(with_reducible assumption)|assumption)
            have hx56:=bt_at t407 t409
            have bl56:=(bt_range t407 t409).1
            have bh56:=(bt_range t407 t409).2
            replace p56:=eq_true p56
            replace q56:=eq_true q56
            go_upto_region 18 with (first|((with_reducible refine gate_callee (f:=31) rfl ?_);refine goesL_ (some 109) rfl rfl Tryd.func31 (by kernel_rfl) rfl #[.string t374,.int .i64 t376,.int .i64 t409,.int .i64 (((bt t407 t409) - 48) % 256)] rfl (by (try simp only [List.map_toArray,List.map_cons,List.map_nil]);first|done|rfl|(simp only [List.length_drop,List.length_take];rfl)) ?_;(with_reducible refine (impl_SecretAt.calls kj49 t374 t376 t409 (((bt t407 t409) - 48) % 256) t410 t411 _ ?side1 A57.out).mono ?_);(case side1 => exact Go.Proofs.YtmkaknegjahjaaaDoor.Sha.glob_below hG_ (by repeat (first|(with_reducible first|exact HB.out|apply qg12|apply qh12|apply qi12|refine qj12 ?_ GE392.out|refine qj12 ?_ GE404.out)|exact HB.out)));rintro e w61 ⟨rfl,hb⟩;refine ⟨_,rfl,?_⟩;have n0_:=qk12 (qm12 (by (with_reducible repeat (first|apply qd12|apply qe12|apply qf12));exact HO_393001.out) hb);have n1_:=qk12 (qm12 (by (with_reducible repeat (first|apply qd12|apply qe12|apply qf12));exact HO_393002.out) hb);have n2_:=qk12 (qm12 (by (with_reducible repeat (first|apply qd12|apply qe12|apply qf12));exact HO_393003.out) hb);have n3_:=qk12 (qm12 (by (with_reducible repeat (first|apply qd12|apply qe12|apply qf12));exact HO_405001.out) hb);have n4_:=qk12 (qm12 (by (with_reducible repeat (first|apply qd12|apply qe12|apply qf12));exact HO_405002.out) hb);have n5_:=qk12 (qm12 (by (with_reducible repeat (first|apply qd12|apply qe12|apply qf12));exact HO_405003.out) hb);have n6_:=qk12 (ql12 (g:=gb392) (o:=.cells #[.int .i64 t381,.slice Ao21 t382.length co21,.slice Ao22 t385.length co22,.slice Ao23 t388.length co23] 33 (0,0)) (by (with_reducible repeat (first|apply qa12|apply qb12|apply qc12));exact BK392.out) hb);have n7_:=qk12 (ql12 (g:=gb404) (o:=.cells #[.int .i64 t393,.slice Ao28 t394.length co28,.slice Ao29 t397.length co29,.slice Ao30 t400.length co30] 33 (0,0)) (by (with_reducible repeat (first|apply qa12|apply qb12|apply qc12));exact BK404.out) hb);have n8_:=qk12 (below_step (by repeat (first|(with_reducible first|exact HB.out|apply qg12|apply qh12|apply qi12|refine qj12 ?_ GE392.out|refine qj12 ?_ GE404.out)|exact HB.out)) hb);clear HO_393001;clear HO_393002;clear HO_393003;clear HO_405001;clear HO_405002;clear HO_405003;clear BK392;clear BK404;clear HB;have HO_393001:=n0_;have HO_393002:=n1_;have HO_393003:=n2_;have HO_405001:=n3_;have HO_405002:=n4_;have HO_405003:=n5_;have BK392:=n6_;have BK404:=n7_;have HB:=n8_;clear n0_ n1_ n2_ n3_ n4_ n5_ n6_ n7_ n8_;(try clear hb);(try clear hb2);(try clear hk);(try clear hi);have p58 : 0 ≤ (t409 : Int):=of_decide_eq_true (by first|(with_reducible assumption)|assumption);have q58 : t409 < (t407.size : Int):=of_decide_eq_true (by first|(with_reducible assumption)|assumption);have hx58:=bt_at t407 t409;have bl58:=(bt_range t407 t409).1;have bh58:=(bt_range t407 t409).2;replace p58:=eq_true p58;replace q58:=eq_true q58)|((with_reducible refine gate_callee (f:=31) rfl ?_);refine goesL_ (some 122) rfl rfl Tryd.func31 (by kernel_rfl) rfl #[.string t374,.int .i64 t376,.int .i64 t409,.int .i64 (1 - (((bt t407 t409) - 48) % 256))] rfl (by (try simp only [List.map_toArray,List.map_cons,List.map_nil]);first|done|rfl|(simp only [List.length_drop,List.length_take];rfl)) ?_;(with_reducible refine (impl_SecretAt.calls kj49 t374 t376 t409 (1 - (((bt t407 t409) - 48) % 256)) t412 t413 _ ?side1 A59.out).mono ?_);(case side1 => exact Go.Proofs.YtmkaknegjahjaaaDoor.Sha.glob_below hG_ (by repeat (first|(with_reducible first|exact HB.out|apply qg12|apply qh12|apply qi12|refine qj12 ?_ GE392.out|refine qj12 ?_ GE404.out)|exact HB.out)));rintro e w62 ⟨rfl,hb⟩;refine ⟨_,rfl,?_⟩;have n0_:=qk12 (qm12 (by (with_reducible repeat (first|apply qd12|apply qe12|apply qf12));exact HO_393001.out) hb);have n1_:=qk12 (qm12 (by (with_reducible repeat (first|apply qd12|apply qe12|apply qf12));exact HO_393002.out) hb);have n2_:=qk12 (qm12 (by (with_reducible repeat (first|apply qd12|apply qe12|apply qf12));exact HO_393003.out) hb);have n3_:=qk12 (qm12 (by (with_reducible repeat (first|apply qd12|apply qe12|apply qf12));exact HO_405001.out) hb);have n4_:=qk12 (qm12 (by (with_reducible repeat (first|apply qd12|apply qe12|apply qf12));exact HO_405002.out) hb);have n5_:=qk12 (qm12 (by (with_reducible repeat (first|apply qd12|apply qe12|apply qf12));exact HO_405003.out) hb);have n6_:=qk12 (ql12 (g:=gb392) (o:=.cells #[.int .i64 t381,.slice Ao21 t382.length co21,.slice Ao22 t385.length co22,.slice Ao23 t388.length co23] 33 (0,0)) (by (with_reducible repeat (first|apply qa12|apply qb12|apply qc12));exact BK392.out) hb);have n7_:=qk12 (ql12 (g:=gb404) (o:=.cells #[.int .i64 t393,.slice Ao28 t394.length co28,.slice Ao29 t397.length co29,.slice Ao30 t400.length co30] 33 (0,0)) (by (with_reducible repeat (first|apply qa12|apply qb12|apply qc12));exact BK404.out) hb);have n8_:=qk12 (below_step (by repeat (first|(with_reducible first|exact HB.out|apply qg12|apply qh12|apply qi12|refine qj12 ?_ GE392.out|refine qj12 ?_ GE404.out)|exact HB.out)) hb);clear HO_393001;clear HO_393002;clear HO_393003;clear HO_405001;clear HO_405002;clear HO_405003;clear BK392;clear BK404;clear HB;have HO_393001:=n0_;have HO_393002:=n1_;have HO_393003:=n2_;have HO_405001:=n3_;have HO_405002:=n4_;have HO_405003:=n5_;have BK392:=n6_;have BK404:=n7_;have HB:=n8_;clear n0_ n1_ n2_ n3_ n4_ n5_ n6_ n7_ n8_;(try clear hb);(try clear hb2);(try clear hk);(try clear hi)))
            (try simp only [Act.put,List.setIfInBounds_toArray,List.set_cons_zero,List.set_cons_succ])
            go_cut [150] (fun v150 wc => ∃ (kq : Nat) (x150_59 : Bool),v150 = .bool x150_59 ∧ Aside0 (laws_FnLamport.j3 kq l1 t375 t377 x150_59 t381 t382 t385 t388 = some r) ∧ Aside0 (kq ≤ kj49) ∧ Aside0 (Kd.R Kd.string 9 wc w.heap.size (fun k_ => some k_ ≠ ((.slice Ao22 t385.length co22) : Value).ownBlock ∧ some k_ ≠ ((.slice Ao23 t388.length co23) : Value).ownBlock ∧ some k_ ≠ ((.slice Ao28 t394.length co28) : Value).ownBlock ∧ some k_ ≠ ((.slice Ao29 t397.length co29) : Value).ownBlock ∧ some k_ ≠ ((.slice Ao30 t400.length co30) : Value).ownBlock) (.slice Ao21 t382.length co21) t382) ∧ Aside0 (Kd.R Kd.string 9 wc w.heap.size (fun k_ => some k_ ≠ ((.slice Ao21 t382.length co21) : Value).ownBlock ∧ some k_ ≠ ((.slice Ao23 t388.length co23) : Value).ownBlock ∧ some k_ ≠ ((.slice Ao28 t394.length co28) : Value).ownBlock ∧ some k_ ≠ ((.slice Ao29 t397.length co29) : Value).ownBlock ∧ some k_ ≠ ((.slice Ao30 t400.length co30) : Value).ownBlock) (.slice Ao22 t385.length co22) t385) ∧ Aside0 (Kd.R Kd.string 9 wc w.heap.size (fun k_ => some k_ ≠ ((.slice Ao21 t382.length co21) : Value).ownBlock ∧ some k_ ≠ ((.slice Ao22 t385.length co22) : Value).ownBlock ∧ some k_ ≠ ((.slice Ao28 t394.length co28) : Value).ownBlock ∧ some k_ ≠ ((.slice Ao29 t397.length co29) : Value).ownBlock ∧ some k_ ≠ ((.slice Ao30 t400.length co30) : Value).ownBlock) (.slice Ao23 t388.length co23) t388) ∧ Aside0 (Kd.R Kd.string 9 wc w.heap.size (fun k_ => some k_ ≠ ((.slice Ao21 t382.length co21) : Value).ownBlock ∧ some k_ ≠ ((.slice Ao22 t385.length co22) : Value).ownBlock ∧ some k_ ≠ ((.slice Ao23 t388.length co23) : Value).ownBlock ∧ some k_ ≠ ((.slice Ao29 t397.length co29) : Value).ownBlock ∧ some k_ ≠ ((.slice Ao30 t400.length co30) : Value).ownBlock) (.slice Ao28 t394.length co28) t394) ∧ Aside0 (Kd.R Kd.string 9 wc w.heap.size (fun k_ => some k_ ≠ ((.slice Ao21 t382.length co21) : Value).ownBlock ∧ some k_ ≠ ((.slice Ao22 t385.length co22) : Value).ownBlock ∧ some k_ ≠ ((.slice Ao23 t388.length co23) : Value).ownBlock ∧ some k_ ≠ ((.slice Ao28 t394.length co28) : Value).ownBlock ∧ some k_ ≠ ((.slice Ao30 t400.length co30) : Value).ownBlock) (.slice Ao29 t397.length co29) t397) ∧ Aside0 (Kd.R Kd.string 9 wc w.heap.size (fun k_ => some k_ ≠ ((.slice Ao21 t382.length co21) : Value).ownBlock ∧ some k_ ≠ ((.slice Ao22 t385.length co22) : Value).ownBlock ∧ some k_ ≠ ((.slice Ao23 t388.length co23) : Value).ownBlock ∧ some k_ ≠ ((.slice Ao28 t394.length co28) : Value).ownBlock ∧ some k_ ≠ ((.slice Ao29 t397.length co29) : Value).ownBlock) (.slice Ao30 t400.length co30) t400) ∧ Aside0 (wc.heap[gb392]? = some (.cells #[.int .i64 t381,(.slice Ao21 t382.length co21),(.slice Ao22 t385.length co22),(.slice Ao23 t388.length co23)] 33 (0,0))) ∧ Aside0 (wc.heap[gb404]? = some (.cells #[.int .i64 t393,(.slice Ao28 t394.length co28),(.slice Ao29 t397.length co29),(.slice Ao30 t400.length co30)] 33 (0,0))) ∧ Aside0 (Below w.heap.size w wc))
            case first =>
             have H:=HC60.out
             clear HC60
             by_cases c63 : t411 = 0
             ·
              rw [if_pos c63] at H
              have c63b0 : (t411 == 0) = true:=beq_iff_eq.mpr c63
              have c63b1 : (t411 != 0) = false:=bne_eq_false_iff_eq.mpr c63
              clear c63
              (first|rw [c63b0]|(simp only [i64_w,i32_w];rw [c63b0])|skip)
              by_cases c64 : t413 = 0
              ·
               rw [if_pos c64] at H
               have c64b0 : (t413 == 0) = true:=beq_iff_eq.mpr c64
               have c64b1 : (t413 != 0) = false:=bne_eq_false_iff_eq.mpr c64
               clear c64
               by_cases c65 : t409 < (t382.length : Int)
               ·
                rw [if_pos c65] at H
                have c65b0 : decide (t409 < (t382.length : Int)) = true:=decide_eq_true c65
                clear c65
                by_cases c66 : (rdOf ByteArray.empty t382 t409).toList = t410.toList
                ·
                 rw [if_pos c66] at H
                 have c66b0 : ((rdOf ByteArray.empty t382 t409).toList == t410.toList) = true:=beq_iff_eq.mpr c66
                 have c66b1 : ((rdOf ByteArray.empty t382 t409).toList != t410.toList) = false:=bne_eq_false_iff_eq.mpr c66
                 clear c66
                 by_cases c67 : t409 < (t385.length : Int)
                 ·
                  rw [if_pos c67] at H
                  have c67b0 : decide (t409 < (t385.length : Int)) = true:=decide_eq_true c67
                  clear c67
                  by_cases c68 : t412.size ≤ 9223372036854775807
                  ·
                   rw [if_pos c68] at H
                   have c68b0:=eq_true c68
                   have c68b1 : decide (t412.size ≤ 9223372036854775807) = true:=decide_eq_true c68
                   try have c68b2 : (9223372036854775807 < t412.size) = False:=eq_false (Nat.not_lt.2 c68)
                   clear c68
                   obtain ⟨y416,hy416⟩ : ∃ y_ : List Int,y_ = (bytesOf t412):=⟨_,rfl⟩
                   replace H : ((impl_Hash.f y416).bind fun t419 => (laws_FnLamport.j3 kj49 l1 t375 t377 ((rdOf ByteArray.empty t385 t409).toList != t419.toList) t381 t382 t385 t388)) = some r:=by first|(rw [hy416];with_reducible exact H)|(have H2_:=(Option.bind_some _ _).symm.trans H;rw [hy416];with_reducible exact H2_)|(have H2_:=(Option.bind_some _ _).symm.trans H;with_reducible exact H2_)|with_reducible exact H|(rw [hy416];exact H)|exact H
                   have Ny416:=qk12 hy416
                   clear hy416
                   replace H:=Option.bind_eq_some_iff.mp H
                   obtain ⟨t419,A690,H⟩:=H
                   replace H : (laws_FnLamport.j3 kj49 l1 t375 t377 ((rdOf ByteArray.empty t385 t409).toList != t419.toList) t381 t382 t385 t388) = some r:=H
                   have A69:=qk12 A690
                   clear A690
                   have H':=qk12 H
                   clear H
                   try go_wp2
                   have n0_:=qk12 (qf12 HO_393001.out)
                   have n1_:=qk12 (qf12 HO_393002.out)
                   have n2_:=qk12 (qf12 HO_393003.out)
                   have n3_:=qk12 (qf12 HO_405001.out)
                   have n4_:=qk12 (qf12 HO_405002.out)
                   have n5_:=qk12 (qf12 HO_405003.out)
                   have n6_:=qk12 (qb12 BK392.out)
                   have n7_:=qk12 (qb12 BK404.out)
                   have n8_:=qk12 (qi12 HB.out)
                   clear HO_393001
                   clear HO_393002
                   clear HO_393003
                   clear HO_405001
                   clear HO_405002
                   clear HO_405003
                   clear BK392
                   clear BK404
                   clear HB
                   have HO_393001:=n0_
                   have HO_393002:=n1_
                   have HO_393003:=n2_
                   have HO_405001:=n3_
                   have HO_405002:=n4_
                   have HO_405003:=n5_
                   have BK392:=n6_
                   have BK404:=n7_
                   have HB:=n8_
                   clear n0_ n1_ n2_ n3_ n4_ n5_ n6_ n7_ n8_
                   have p414 : 0 ≤ (t409 : Int):=of_decide_eq_true (by first|(with_reducible assumption)|assumption)
                   have q414 : t409 < (t382.length : Int):=of_decide_eq_true (by first|(with_reducible assumption)|assumption)
                   obtain ⟨ad414,e414,hx414_0⟩:=Kd.at_string (Kd.R_reads' HO_393001.out).2.2 t409 p414 q414
                   cases e414
                   replace p414:=eq_true p414
                   replace q414:=eq_true q414
                   have p415 : 0 ≤ (t409 : Int):=of_decide_eq_true (by first|(with_reducible assumption)|assumption)
                   have q415 : t409 < (t385.length : Int):=of_decide_eq_true (by first|(with_reducible assumption)|assumption)
                   obtain ⟨ad415,e415,hx415_0⟩:=Kd.at_string (Kd.R_reads' HO_393002.out).2.2 t409 p415 q415
                   cases e415
                   replace p415:=eq_true p415
                   replace q415:=eq_true q415
                   refine start_ (n:=26) (S:=fun w' => w'.cell? ⟨gb392,0,none⟩ = some (.int .i64 t381) ∧ w'.cell? ⟨gb392,1,none⟩ = some (.slice (some ad414) t382.length co21) ∧ w'.cell? ⟨gb392,2,none⟩ = some (.slice (some ad415) t385.length co22) ∧ w'.cell? ⟨gb392,3,none⟩ = some (.slice Ao23 t388.length co23) ∧ w'.cell? (ad414.add (t409).toNat) = some (.string (rdOf ByteArray.empty t382 t409)) ∧ w'.cell? (ad415.add (t409).toNat) = some (.string (rdOf ByteArray.empty t385 t409))) (ds:=[]) #[false,false,false,false,false,false,false,false,false,false,false,false,false,false,false,false,false,false,false,false,false,false,false,false,false,false] (by kernel_rfl) rfl rfl ⟨(blk_cell BK392.out 0).trans rfl,(blk_cell BK392.out 1).trans rfl,(blk_cell BK392.out 2).trans rfl,(blk_cell BK392.out 3).trans rfl,hx414_0,hx415_0⟩ (fun hHeld => ?_);refine with_tabW laws_FnLamport.tab18 laws_FnLamport.bits18 (fun HT_ HW_ => ?_)
                   generalize w62.drew = w70 at HO_393001 HO_393002 HO_393003 HO_405001 HO_405002 HO_405003 BK392 BK404 HB hx414_0 hx415_0 hHeld ⊢
                   refine pure_ (i:=0) (N:=some 125) (v:=?_) (a':=?_) #[true,false,false,false,false,false,false,false,false,false,false,false,false,false,false,false,false,false,false,false,false,false,false,false,false,false] rfl rfl (any_of HT_.out (by kernel_rfl)) (fun _ _ _ h => h) (Or.inl ⟨by rfl,?_⟩) ?_ ?_
                   rotate_left
                   ·
                    intro w'
                    go_simp
                    with_reducible rfl
                   rotate_left
                   ·
                    simp only [Act.put,List.setIfInBounds_toArray,List.set_cons_zero,List.set_cons_succ,i64_w,i32_w]
                    rfl
                   refine pure_ (i:=1) (N:=some 126) (v:=?_) (a':=?_) #[true,true,false,false,false,false,false,false,false,false,false,false,false,false,false,false,false,false,false,false,false,false,false,false,false,false] rfl rfl (any_of HT_.out (by kernel_rfl)) (fun _ _ _ h => h) (Or.inl ⟨by rfl,?_⟩) ?_ ?_
                   rotate_left
                   ·
                    intro w'
                    go_simp
                    with_reducible rfl
                   rotate_left
                   ·
                    simp only [Act.put,List.setIfInBounds_toArray,List.set_cons_zero,List.set_cons_succ,i64_w,i32_w]
                    rfl
                   refine pure_ (i:=2) (N:=some 127) (v:=?_) (a':=?_) #[true,true,true,false,false,false,false,false,false,false,false,false,false,false,false,false,false,false,false,false,false,false,false,false,false,false] rfl rfl (any_of HT_.out (by kernel_rfl)) (fun _ _ _ h => h) (Or.inl ⟨by rfl,?_⟩) ?_ ?_
                   rotate_left
                   ·
                    intro w'
                    go_simp
                    with_reducible rfl
                   rotate_left
                   ·
                    simp only [Act.put,List.setIfInBounds_toArray,List.set_cons_zero,List.set_cons_succ,i64_w,i32_w]
                    rfl
                   refine pure_ (i:=3) (N:=some 128) (v:=?_) (a':=?_) #[true,true,true,true,false,false,false,false,false,false,false,false,false,false,false,false,false,false,false,false,false,false,false,false,false,false] rfl rfl (any_of HT_.out (by kernel_rfl)) (fun _ _ _ h => h) (Or.inl ⟨by rfl,?_⟩) ?_ ?_
                   rotate_left
                   ·
                    intro w'
                    go_simp
                    with_reducible rfl
                   rotate_left
                   ·
                    simp only [Act.put,List.setIfInBounds_toArray,List.set_cons_zero,List.set_cons_succ,i64_w,i32_w]
                    rfl
                   refine pure_ (i:=4) (N:=some 129) (v:=?_) (a':=?_) #[true,true,true,true,true,false,false,false,false,false,false,false,false,false,false,false,false,false,false,false,false,false,false,false,false,false] rfl rfl (any_of HT_.out (by kernel_rfl)) (fun _ _ _ h => h) (Or.inl ⟨by rfl,?_⟩) ?_ ?_
                   rotate_left
                   ·
                    intro w'
                    go_simp
                    with_reducible rfl
                   rotate_left
                   ·
                    simp only [Act.put,List.setIfInBounds_toArray,List.set_cons_zero,List.set_cons_succ,i64_w,i32_w]
                    rfl
                   refine pure_ (i:=5) (N:=some 130) (v:=?_) (a':=?_) #[true,true,true,true,true,true,false,false,false,false,false,false,false,false,false,false,false,false,false,false,false,false,false,false,false,false] rfl rfl (any_of HT_.out (by kernel_rfl)) (fun _ _ _ h => h) (Or.inl ⟨by rfl,?_⟩) ?_ ?_
                   rotate_left
                   ·
                    intro w'
                    go_simp
                    with_reducible rfl
                   rotate_left
                   ·
                    simp only [Act.put,List.setIfInBounds_toArray,List.set_cons_zero,List.set_cons_succ,i64_w,i32_w]
                    rfl
                   refine pure_ (i:=6) (N:=some 131) (v:=?_) (a':=?_) #[true,true,true,true,true,true,true,false,false,false,false,false,false,false,false,false,false,false,false,false,false,false,false,false,false,false] rfl rfl (any_of HT_.out (by kernel_rfl)) (fun _ _ _ h => h) (Or.inl ⟨by rfl,?_⟩) ?_ ?_
                   rotate_left
                   ·
                    intro w'
                    go_simp
                    with_reducible rfl
                   rotate_left
                   ·
                    simp only [Act.put,List.setIfInBounds_toArray,List.set_cons_zero,List.set_cons_succ,i64_w,i32_w]
                    rfl
                   refine pure_ (i:=7) (N:=some 132) (v:=?_) (a':=?_) #[true,true,true,true,true,true,true,true,false,false,false,false,false,false,false,false,false,false,false,false,false,false,false,false,false,false] rfl rfl (any_of HT_.out (by kernel_rfl)) (fun _ _ _ h => h) (Or.inl ⟨by rfl,?_⟩) ?_ ?_
                   rotate_left
                   ·
                    intro w'
                    go_simp
                    with_reducible rfl
                   rotate_left
                   ·
                    simp only [Act.put,List.setIfInBounds_toArray,List.set_cons_zero,List.set_cons_succ,i64_w,i32_w]
                    rfl
                   refine pure_ (i:=9) (N:=some 134) (v:=?_) (a':=?_) #[true,true,true,true,true,true,true,true,false,true,false,false,false,false,false,false,false,false,false,false,false,false,false,false,false,false] rfl rfl (any_of HT_.out (by kernel_rfl)) (fun _ _ _ h => h) (Or.inl ⟨by rfl,?_⟩) ?_ ?_
                   rotate_left
                   ·
                    intro w'
                    go_simp
                    with_reducible rfl
                   rotate_left
                   ·
                    simp only [Act.put,List.setIfInBounds_toArray,List.set_cons_zero,List.set_cons_succ,i64_w,i32_w]
                    rfl
                   refine pure_ (i:=12) (N:=some 137) (v:=?_) (a':=?_) #[true,true,true,true,true,true,true,true,false,true,false,false,true,false,false,false,false,false,false,false,false,false,false,false,false,false] rfl rfl (any_of HT_.out (by kernel_rfl)) (fun _ _ _ h => h) (Or.inl ⟨by rfl,?_⟩) ?_ ?_
                   rotate_left
                   ·
                    intro w'
                    go_simp
                    with_reducible rfl
                   rotate_left
                   ·
                    simp only [Act.put,List.setIfInBounds_toArray,List.set_cons_zero,List.set_cons_succ,i64_w,i32_w]
                    rfl
                   refine take_ (i:=8) (N:=some 133) (v:=?_) (a':=?_) #[true,true,true,true,true,true,true,true,true,true,false,false,true,false,false,false,false,false,false,false,false,false,false,false,false,false] rfl rfl (take_ofW HT_.out HW_.out (by kernel_rfl)) (fun _ _ _ h => h) (Or.inl ⟨by rfl,?_⟩) hHeld ?_ ?_
                   rotate_left
                   ·
                    rintro w' ⟨s0,s1,s2,s3,s4,s5⟩
                    go_simp
                    with_reducible rfl
                   rotate_left
                   ·
                    simp only [Act.put,List.setIfInBounds_toArray,List.set_cons_zero,List.set_cons_succ,i64_w,i32_w]
                    rfl
                   refine pure_ (i:=10) (N:=some 135) (v:=?_) (a':=?_) #[true,true,true,true,true,true,true,true,true,true,true,false,true,false,false,false,false,false,false,false,false,false,false,false,false,false] rfl rfl (any_of HT_.out (by kernel_rfl)) (fun _ _ _ h => h) (Or.inl ⟨by rfl,?_⟩) ?_ ?_
                   rotate_left
                   ·
                    intro w'
                    go_simp
                    with_reducible rfl
                   rotate_left
                   ·
                    simp only [Act.put,List.setIfInBounds_toArray,List.set_cons_zero,List.set_cons_succ,i64_w,i32_w]
                    rfl
                   refine take_ (i:=11) (N:=some 136) (v:=?_) (a':=?_) #[true,true,true,true,true,true,true,true,true,true,true,true,true,false,false,false,false,false,false,false,false,false,false,false,false,false] rfl rfl (take_ofW HT_.out HW_.out (by kernel_rfl)) (fun _ _ _ h => h) (Or.inl ⟨by rfl,?_⟩) hHeld ?_ ?_
                   rotate_left
                   ·
                    rintro w' ⟨s0,s1,s2,s3,s4,s5⟩
                    go_simp
                    with_reducible rfl
                   rotate_left
                   ·
                    simp only [Act.put,List.setIfInBounds_toArray,List.set_cons_zero,List.set_cons_succ,i64_w,i32_w]
                    rfl
                   refine pure_ (i:=13) (N:=some 138) (v:=?_) (a':=?_) #[true,true,true,true,true,true,true,true,true,true,true,true,true,true,false,false,false,false,false,false,false,false,false,false,false,false] rfl rfl (any_of HT_.out (by kernel_rfl)) (fun _ _ _ h => h) (Or.inl ⟨by rfl,?_⟩) ?_ ?_
                   rotate_left
                   ·
                    intro w'
                    go_simp
                    with_reducible rfl
                   rotate_left
                   ·
                    simp only [Act.put,List.setIfInBounds_toArray,List.set_cons_zero,List.set_cons_succ,i64_w,i32_w]
                    rfl
                   refine pure_ (i:=14) (N:=some 139) (v:=?_) (a':=?_) #[true,true,true,true,true,true,true,true,true,true,true,true,true,true,true,false,false,false,false,false,false,false,false,false,false,false] rfl rfl (any_of HT_.out (by kernel_rfl)) (fun _ _ _ h => h) (Or.inl ⟨by rfl,?_⟩) ?_ ?_
                   rotate_left
                   ·
                    intro w'
                    go_simp
                    with_reducible rfl
                   rotate_left
                   ·
                    simp only [Act.put,List.setIfInBounds_toArray,List.set_cons_zero,List.set_cons_succ,i64_w,i32_w]
                    rfl
                   refine pure_ (i:=15) (N:=some 140) (v:=?_) (a':=?_) #[true,true,true,true,true,true,true,true,true,true,true,true,true,true,true,true,false,false,false,false,false,false,false,false,false,false] rfl rfl (any_of HT_.out (by kernel_rfl)) (fun _ _ _ h => h) (Or.inl ⟨by rfl,?_⟩) ?_ ?_
                   rotate_left
                   ·
                    intro w'
                    go_simp
                    with_reducible rfl
                   rotate_left
                   ·
                    simp only [Act.put,List.setIfInBounds_toArray,List.set_cons_zero,List.set_cons_succ,i64_w,i32_w]
                    rfl
                   refine pure_ (i:=16) (N:=some 141) (v:=?_) (a':=?_) #[true,true,true,true,true,true,true,true,true,true,true,true,true,true,true,true,true,false,false,false,false,false,false,false,false,false] rfl rfl (any_of HT_.out (by kernel_rfl)) (fun _ _ _ h => h) (Or.inl ⟨by rfl,?_⟩) ?_ ?_
                   rotate_left
                   ·
                    intro w'
                    go_simp
                    with_reducible rfl
                   rotate_left
                   ·
                    simp only [Act.put,List.setIfInBounds_toArray,List.set_cons_zero,List.set_cons_succ,i64_w,i32_w]
                    rfl
                   refine pure_ (i:=18) (N:=some 143) (v:=?_) (a':=?_) #[true,true,true,true,true,true,true,true,true,true,true,true,true,true,true,true,true,false,true,false,false,false,false,false,false,false] rfl rfl (any_of HT_.out (by kernel_rfl)) (fun _ _ _ h => h) (Or.inl ⟨by rfl,?_⟩) ?_ ?_
                   rotate_left
                   ·
                    intro w'
                    go_simp
                    with_reducible rfl
                   rotate_left
                   ·
                    simp only [Act.put,List.setIfInBounds_toArray,List.set_cons_zero,List.set_cons_succ,i64_w,i32_w]
                    rfl
                   refine pure_ (i:=21) (N:=some 146) (v:=?_) (a':=?_) #[true,true,true,true,true,true,true,true,true,true,true,true,true,true,true,true,true,false,true,false,false,true,false,false,false,false] rfl rfl (any_of HT_.out (by kernel_rfl)) (fun _ _ _ h => h) (Or.inl ⟨by rfl,?_⟩) ?_ ?_
                   rotate_left
                   ·
                    intro w'
                    go_simp
                    with_reducible rfl
                   rotate_left
                   ·
                    simp only [Act.put,List.setIfInBounds_toArray,List.set_cons_zero,List.set_cons_succ,i64_w,i32_w]
                    rfl
                   refine take_ (i:=17) (N:=some 142) (v:=?_) (a':=?_) #[true,true,true,true,true,true,true,true,true,true,true,true,true,true,true,true,true,true,true,false,false,true,false,false,false,false] rfl rfl (take_ofW HT_.out HW_.out (by kernel_rfl)) (fun _ _ _ h => h) (Or.inl ⟨by rfl,?_⟩) hHeld ?_ ?_
                   rotate_left
                   ·
                    rintro w' ⟨s0,s1,s2,s3,s4,s5⟩
                    go_simp
                    with_reducible rfl
                   rotate_left
                   ·
                    simp only [Act.put,List.setIfInBounds_toArray,List.set_cons_zero,List.set_cons_succ,i64_w,i32_w]
                    rfl
                   refine pure_ (i:=19) (N:=some 144) (v:=?_) (a':=?_) #[true,true,true,true,true,true,true,true,true,true,true,true,true,true,true,true,true,true,true,true,false,true,false,false,false,false] rfl rfl (any_of HT_.out (by kernel_rfl)) (fun _ _ _ h => h) (Or.inl ⟨by rfl,?_⟩) ?_ ?_
                   rotate_left
                   ·
                    intro w'
                    go_simp
                    with_reducible rfl
                   rotate_left
                   ·
                    simp only [Act.put,List.setIfInBounds_toArray,List.set_cons_zero,List.set_cons_succ,i64_w,i32_w]
                    rfl
                   refine take_ (i:=20) (N:=some 145) (v:=?_) (a':=?_) #[true,true,true,true,true,true,true,true,true,true,true,true,true,true,true,true,true,true,true,true,true,true,false,false,false,false] rfl rfl (take_ofW HT_.out HW_.out (by kernel_rfl)) (fun _ _ _ h => h) (Or.inl ⟨by rfl,?_⟩) hHeld ?_ ?_
                   rotate_left
                   ·
                    rintro w' ⟨s0,s1,s2,s3,s4,s5⟩
                    go_simp
                    with_reducible rfl
                   rotate_left
                   ·
                    simp only [Act.put,List.setIfInBounds_toArray,List.set_cons_zero,List.set_cons_succ,i64_w,i32_w]
                    rfl
                   refine one_ (i:=22) (N:=some 147) #[true,true,true,true,true,true,true,true,true,true,true,true,true,true,true,true,true,true,true,true,true,true,true,false,false,false] rfl rfl (one_of HT_.out (by kernel_rfl)) (by decide) (fun K hK => ?_)
                   refine R_bytes_step _ 5 (by rfl) (N:=147) rfl 9 22 _ rfl t412 rfl Tryd.underlying9 Tryd.underlying22 Tryd.underlying5 (ok:=fun _ => True) trivial (of_decide_eq_true (by first|(with_reducible assumption)|assumption)) (Below.refl _ _) (Nat.le_refl _) ?_
                   intro v417 w71 ho72 hb hg_ hnew_
                   have HS4_:=(hb.cell (World.block_lt_of_cell? _ _ (hHeld.2.2.2.2.1))).trans (hHeld.2.2.2.2.1)
                   have HS5_:=(hb.cell (World.block_lt_of_cell? _ _ (hHeld.2.2.2.2.2))).trans (hHeld.2.2.2.2.2)
                   clear hg_ hnew_
                   (first|rw [← Ny416.out] at ho72|(simp only [Int.reduceToNat] at ho72;rw [← Ny416.out] at ho72))
                   have n0_:=qk12 (qm12 (by (with_reducible repeat (first|apply qd12|apply qe12|apply qf12));exact HO_393001.out) hb)
                   have n1_:=qk12 (qm12 (by (with_reducible repeat (first|apply qd12|apply qe12|apply qf12));exact HO_393002.out) hb)
                   have n2_:=qk12 (qm12 (by (with_reducible repeat (first|apply qd12|apply qe12|apply qf12));exact HO_393003.out) hb)
                   have n3_:=qk12 (qm12 (by (with_reducible repeat (first|apply qd12|apply qe12|apply qf12));exact HO_405001.out) hb)
                   have n4_:=qk12 (qm12 (by (with_reducible repeat (first|apply qd12|apply qe12|apply qf12));exact HO_405002.out) hb)
                   have n5_:=qk12 (qm12 (by (with_reducible repeat (first|apply qd12|apply qe12|apply qf12));exact HO_405003.out) hb)
                   have n6_:=qk12 (Kd.R_lower ho72 (below_size (by repeat (first|(with_reducible first|exact HB.out|apply qg12|apply qh12|apply qi12|refine qj12 ?_ GE392.out|refine qj12 ?_ GE404.out)|exact HB.out))))
                   have n7_:=qk12 (ql12 (g:=gb392) (o:=.cells #[.int .i64 t381,.slice (some ad414) t382.length co21,.slice (some ad415) t385.length co22,.slice Ao23 t388.length co23] 33 (0,0)) (by (with_reducible repeat (first|apply qa12|apply qb12|apply qc12));exact BK392.out) hb)
                   have n8_:=qk12 (ql12 (g:=gb404) (o:=.cells #[.int .i64 t393,.slice Ao28 t394.length co28,.slice Ao29 t397.length co29,.slice Ao30 t400.length co30] 33 (0,0)) (by (with_reducible repeat (first|apply qa12|apply qb12|apply qc12));exact BK404.out) hb)
                   have n9_:=qk12 (below_step (by repeat (first|(with_reducible first|exact HB.out|apply qg12|apply qh12|apply qi12|refine qj12 ?_ GE392.out|refine qj12 ?_ GE404.out)|exact HB.out)) hb)
                   clear HO_393001
                   clear HO_393002
                   clear HO_393003
                   clear HO_405001
                   clear HO_405002
                   clear HO_405003
                   clear BK392
                   clear BK404
                   clear HB
                   have HO_393001:=n0_
                   have HO_393002:=n1_
                   have HO_393003:=n2_
                   have HO_405001:=n3_
                   have HO_405002:=n4_
                   have HO_405003:=n5_
                   have HO418:=n6_
                   have BK392:=n7_
                   have BK404:=n8_
                   have HB:=n9_
                   clear n0_ n1_ n2_ n3_ n4_ n5_ n6_ n7_ n8_ n9_
                   clear hb ho72
                   obtain ⟨Ao73,co73,eo73⟩:=Kd.R_slice HO418.out
                   (first|subst eo73|(injection eo73 with f1_ f2_ f3_;have f4_:=f1_.symm;have f5_:=f3_.symm;clear f1_ f2_ f3_;subst f4_;subst f5_))
                   refine hK.out _ _ ⟨(blk_cell BK392.out 0).trans rfl,(blk_cell BK392.out 1).trans rfl,(blk_cell BK392.out 2).trans rfl,(blk_cell BK392.out 3).trans rfl,HS4_,HS5_⟩ (fun hHeld => ?_)
                   clear hK K
                   refine norm_ (a':=?_) ?_ ?_
                   rotate_left
                   ·
                    show Act.put _ (some 147) _ = _
                    simp only [Act.put,List.setIfInBounds_toArray,List.set_cons_zero,List.set_cons_succ,i64_w,i32_w]
                    rfl
                   refine one_ (i:=23) (N:=some 148) #[true,true,true,true,true,true,true,true,true,true,true,true,true,true,true,true,true,true,true,true,true,true,true,true,false,false] rfl rfl (one_of HT_.out (by kernel_rfl)) (by decide) (fun K hK => ?_)
                   refine goes_ Tryd.func10 (by kernel_rfl) rfl #[.slice Ao73 y416.length co73] (by rfl) rfl rfl (by (try simp only [List.map_toArray,List.map_cons,List.map_nil]);first|done|rfl|(simp only [List.length_drop,List.length_take];rfl)) ?_
                   with_reducible refine (impl_Hash.calls _ _ y416 t419 _ ?side1 ?side2 ?side3 A69.out).mono ?_
                   (case side1 => repeat (first|exact (Kd.R_reads' HO418.out).2.2|(with_reducible refine Kd.C_alloc ?_ _)|(with_reducible refine Kd.C_drewN ?_ _)|(with_reducible refine Kd.C_drew ?_)))
                   (case side2 => exact (Kd.R_reads' HO418.out).2.1)
                   (case side3 => exact Go.Proofs.YtmkaknegjahjaaaDoor.Sha.glob_below hG_ (by repeat (first|(with_reducible first|exact HB.out|apply qg12|apply qh12|apply qi12|refine qj12 ?_ GE392.out|refine qj12 ?_ GE404.out)|exact HB.out)))
                   rintro e w74 ⟨rfl,hb⟩
                   have HS4_:=(hb.cell (World.block_lt_of_cell? _ _ (hHeld.2.2.2.2.1))).trans (hHeld.2.2.2.2.1)
                   have HS5_:=(hb.cell (World.block_lt_of_cell? _ _ (hHeld.2.2.2.2.2))).trans (hHeld.2.2.2.2.2)
                   refine ⟨_,rfl,?_⟩
                   have n0_:=qk12 (qm12 (by (with_reducible repeat (first|apply qd12|apply qe12|apply qf12));exact HO_393001.out) hb)
                   have n1_:=qk12 (qm12 (by (with_reducible repeat (first|apply qd12|apply qe12|apply qf12));exact HO_393002.out) hb)
                   have n2_:=qk12 (qm12 (by (with_reducible repeat (first|apply qd12|apply qe12|apply qf12));exact HO_393003.out) hb)
                   have n3_:=qk12 (qm12 (by (with_reducible repeat (first|apply qd12|apply qe12|apply qf12));exact HO_405001.out) hb)
                   have n4_:=qk12 (qm12 (by (with_reducible repeat (first|apply qd12|apply qe12|apply qf12));exact HO_405002.out) hb)
                   have n5_:=qk12 (qm12 (by (with_reducible repeat (first|apply qd12|apply qe12|apply qf12));exact HO_405003.out) hb)
                   have n6_:=qk12 (qm12 (by (with_reducible repeat (first|apply qd12|apply qe12|apply qf12));exact HO418.out) hb)
                   have n7_:=qk12 (ql12 (g:=gb392) (o:=.cells #[.int .i64 t381,.slice (some ad414) t382.length co21,.slice (some ad415) t385.length co22,.slice Ao23 t388.length co23] 33 (0,0)) (by (with_reducible repeat (first|apply qa12|apply qb12|apply qc12));exact BK392.out) hb)
                   have n8_:=qk12 (ql12 (g:=gb404) (o:=.cells #[.int .i64 t393,.slice Ao28 t394.length co28,.slice Ao29 t397.length co29,.slice Ao30 t400.length co30] 33 (0,0)) (by (with_reducible repeat (first|apply qa12|apply qb12|apply qc12));exact BK404.out) hb)
                   have n9_:=qk12 (below_step (by repeat (first|(with_reducible first|exact HB.out|apply qg12|apply qh12|apply qi12|refine qj12 ?_ GE392.out|refine qj12 ?_ GE404.out)|exact HB.out)) hb)
                   clear HO_393001
                   clear HO_393002
                   clear HO_393003
                   clear HO_405001
                   clear HO_405002
                   clear HO_405003
                   clear HO418
                   clear BK392
                   clear BK404
                   clear HB
                   have HO_393001:=n0_
                   have HO_393002:=n1_
                   have HO_393003:=n2_
                   have HO_405001:=n3_
                   have HO_405002:=n4_
                   have HO_405003:=n5_
                   have HO418:=n6_
                   have BK392:=n7_
                   have BK404:=n8_
                   have HB:=n9_
                   clear n0_ n1_ n2_ n3_ n4_ n5_ n6_ n7_ n8_ n9_
                   (try clear hb)
                   (try clear hb2)
                   (try clear hk)
                   (try clear hi)
                   refine hK.out _ _ ⟨(blk_cell BK392.out 0).trans rfl,(blk_cell BK392.out 1).trans rfl,(blk_cell BK392.out 2).trans rfl,(blk_cell BK392.out 3).trans rfl,HS4_,HS5_⟩ (fun hHeld => ?_)
                   clear hK K
                   refine norm_ (a':=?_) ?_ ?_
                   rotate_left
                   ·
                    show Act.put _ (some 148) _ = _
                    simp only [Act.put,List.setIfInBounds_toArray,List.set_cons_zero,List.set_cons_succ,i64_w,i32_w]
                    rfl
                   refine pure_ (i:=24) (N:=some 149) (v:=?_) (a':=?_) #[true,true,true,true,true,true,true,true,true,true,true,true,true,true,true,true,true,true,true,true,true,true,true,true,true,false] rfl rfl (any_of HT_.out (by kernel_rfl)) (fun _ _ _ h => h) (Or.inl ⟨by rfl,?_⟩) ?_ ?_
                   rotate_left
                   ·
                    intro w'
                    go_simp
                    with_reducible rfl
                   rotate_left
                   ·
                    simp only [Act.put,List.setIfInBounds_toArray,List.set_cons_zero,List.set_cons_succ,i64_w,i32_w]
                    rfl
                   refine pure_ (i:=25) (N:=some 150) (v:=?_) (a':=?_) #[true,true,true,true,true,true,true,true,true,true,true,true,true,true,true,true,true,true,true,true,true,true,true,true,true,true] rfl rfl (any_of HT_.out (by kernel_rfl)) (fun _ _ _ h => h) (Or.inl ⟨by rfl,?_⟩) ?_ ?_
                   rotate_left
                   ·
                    intro w'
                    go_simp
                    with_reducible rfl
                   rotate_left
                   ·
                    simp only [Act.put,List.setIfInBounds_toArray,List.set_cons_zero,List.set_cons_succ,i64_w,i32_w]
                    rfl
                   refine done_ (done_of HT_.out (by kernel_rfl)) ?_
                   try go_wp2
                   go_meet
                   case rel => exact ⟨_,(((rdOf ByteArray.empty t385 t409).toList != t419.toList)),(by first|rfl|(simp;done)|(simp [*];done)),H',⟨by have:=HJ2.out;have:=HJ12.out;have:=HJ49.out;first|omega|exact Nat.le_refl _⟩,⟨by (with_reducible repeat (first|apply qd12|apply qe12|apply qf12));exact HO_393001.out⟩,⟨by (with_reducible repeat (first|apply qd12|apply qe12|apply qf12));exact HO_393002.out⟩,⟨by (with_reducible repeat (first|apply qd12|apply qe12|apply qf12));exact HO_393003.out⟩,⟨by (with_reducible repeat (first|apply qd12|apply qe12|apply qf12));exact HO_405001.out⟩,⟨by (with_reducible repeat (first|apply qd12|apply qe12|apply qf12));exact HO_405002.out⟩,⟨by (with_reducible repeat (first|apply qd12|apply qe12|apply qf12));exact HO_405003.out⟩,⟨by (with_reducible repeat (first|apply qa12|apply qb12|apply qc12));exact BK392.out⟩,⟨by (with_reducible repeat (first|apply qa12|apply qb12|apply qc12));exact BK404.out⟩,⟨by repeat (first|(with_reducible first|exact HB.out|apply qg12|apply qh12|apply qi12|refine qj12 ?_ GE392.out|refine qj12 ?_ GE404.out)|exact HB.out)⟩⟩
                  ·
                   rw [if_neg c68] at H
                   exact absurd H (by simp)
                 ·
                  rw [if_neg c67] at H
                  exact absurd H (by simp)
                ·
                 rw [if_neg c66] at H
                 have c66b0 : ((rdOf ByteArray.empty t382 t409).toList == t410.toList) = false:=beq_eq_false_iff_ne.mpr c66
                 have c66b1 : ((rdOf ByteArray.empty t382 t409).toList != t410.toList) = true:=bne_iff_ne.mpr c66
                 have hf_ : r = false:=by (cases kj49 with|zero => simp [laws_FnLamport.j3] at H|succ k9_ => (rw [laws_FnLamport.j3,if_pos rfl] at H;exact (Option.some.inj H).symm))
                 exact absurd hr_ (by rw [hf_];decide)
               ·
                rw [if_neg c65] at H
                exact absurd H (by simp)
              ·
               rw [if_neg c64] at H
               have c64b0 : (t413 == 0) = false:=beq_eq_false_iff_ne.mpr c64
               have c64b1 : (t413 != 0) = true:=bne_iff_ne.mpr c64
               have hf_ : r = false:=by (cases kj49 with|zero => simp [laws_FnLamport.j3] at H|succ k9_ => (rw [laws_FnLamport.j3,if_pos rfl] at H;exact (Option.some.inj H).symm))
               exact absurd hr_ (by rw [hf_];decide)
             ·
              rw [if_neg c63] at H
              have c63b0 : (t411 == 0) = false:=beq_eq_false_iff_ne.mpr c63
              have c63b1 : (t411 != 0) = true:=bne_iff_ne.mpr c63
              (first|rw [c63b0]|(simp only [i64_w,i32_w];rw [c63b0])|skip)
              have hf_ : r = false:=by (cases kj49 with|zero => simp [laws_FnLamport.j3] at H|succ k9_ => (rw [laws_FnLamport.j3,if_pos rfl] at H;exact (Option.some.inj H).symm))
              exact absurd hr_ (by rw [hf_];decide)
            case rest =>
             clear HC60
             try clear p2
             try clear p4
             try clear q4
             try clear hx4
             try clear c6
             try clear p41
             try clear q41
             try clear hx41
             try clear c63
             try clear c63b0
             try clear c63b1
             try clear c64
             try clear c64b0
             try clear c64b1
             try clear c65
             try clear c66
             try clear c66b0
             try clear c66b1
             try clear c67
             try clear c68
             try clear hx414_0
             try clear p414
             try clear q414
             obtain ⟨kq,x150_59,rfl,HA,HJ59,HO_393001,HO_393002,HO_393003,HO_405001,HO_405002,HO_405003,BK392,BK404,HB⟩:=hcut
             cases kq with
             | zero => exact absurd HA.out (by simp [laws_FnLamport.j3])
             | succ kj59 =>
              have H:=HA.out
              clear HA
              simp only [laws_FnLamport.j3] at H
              by_cases c78 : x150_59 = true
              ·
               subst c78
               have H1 : (some false) = some r:=by rw [if_pos rfl] at H;exact H
               clear H
               have H:=H1
               clear H1
               obtain rfl:=Option.some.inj H
               exact absurd hr_ (by decide)
              ·
               replace c78:=Bool.eq_false_iff.mpr c78
               subst c78
               have H1 : (if t375.size + 1 ≤ 9223372036854775807 then ((impl_CheckSignature.f kj59 t377 (t375 ++ (⟨#[33]⟩ : ByteArray)) t381 t382 t385 t388).bind fun t420 => ((spec_CheckSignature.f kj59 t377 (t375 ++ (⟨#[33]⟩ : ByteArray)) t381 t382 t385 t388).bind fun t421 => (if t420 = t421 then ((laws_at.f l1 2 8).bind fun t423 => ((impl_CheckSignature.f kj59 t377 t375 t423 t382 t385 t388).bind fun t424 => ((spec_CheckSignature.f kj59 t377 t375 t423 t382 t385 t388).bind fun t425 => (some (t424 == t425))))) else (some false)))) else (none)) = some r:=by rw [if_neg (show ¬ (false = true) by decide)] at H;exact H
               clear H
               have H:=H1
               clear H1
               by_cases c79 : t375.size + 1 ≤ 9223372036854775807
               ·
                rw [if_pos c79] at H
                have c79b0:=eq_true c79
                have c79b1 : decide (t375.size + 1 ≤ 9223372036854775807) = true:=decide_eq_true c79
                try have c79b2 : (9223372036854775807 < t375.size + 1) = False:=eq_false (Nat.not_lt.2 c79)
                replace H:=Option.bind_eq_some_iff.mp H
                obtain ⟨t420,A800,H⟩:=H
                replace H : ((spec_CheckSignature.f kj59 t377 (t375 ++ (⟨#[33]⟩ : ByteArray)) t381 t382 t385 t388).bind fun t421 => (if t420 = t421 then ((laws_at.f l1 2 8).bind fun t423 => ((impl_CheckSignature.f kj59 t377 t375 t423 t382 t385 t388).bind fun t424 => ((spec_CheckSignature.f kj59 t377 t375 t423 t382 t385 t388).bind fun t425 => (some (t424 == t425))))) else (some false))) = some r:=H
                have A80:=qk12 A800
                clear A800
                replace H:=Option.bind_eq_some_iff.mp H
                obtain ⟨t421,A810,H⟩:=H
                replace H : (if t420 = t421 then ((laws_at.f l1 2 8).bind fun t423 => ((impl_CheckSignature.f kj59 t377 t375 t423 t382 t385 t388).bind fun t424 => ((spec_CheckSignature.f kj59 t377 t375 t423 t382 t385 t388).bind fun t425 => (some (t424 == t425))))) else (some false)) = some r:=H
                have A81:=qk12 A810
                clear A810
                by_cases c82 : t420 = t421
                ·
                 rw [if_pos c82] at H
                 have c82b0 : (t420 == t421) = true:=beq_iff_eq.mpr c82
                 have c82b1 : (t420 != t421) = false:=bne_eq_false_iff_eq.mpr c82
                 clear c82
                 replace H:=Option.bind_eq_some_iff.mp H
                 obtain ⟨t423,A830,H⟩:=H
                 replace H : ((impl_CheckSignature.f kj59 t377 t375 t423 t382 t385 t388).bind fun t424 => ((spec_CheckSignature.f kj59 t377 t375 t423 t382 t385 t388).bind fun t425 => (some (t424 == t425)))) = some r:=H
                 have A83:=qk12 A830
                 clear A830
                 replace H:=Option.bind_eq_some_iff.mp H
                 obtain ⟨t424,A840,H⟩:=H
                 replace H : ((spec_CheckSignature.f kj59 t377 t375 t423 t382 t385 t388).bind fun t425 => (some (t424 == t425))) = some r:=H
                 have A84:=qk12 A840
                 clear A840
                 replace H:=Option.bind_eq_some_iff.mp H
                 obtain ⟨t425,A850,H⟩:=H
                 replace H : (some (t424 == t425)) = some r:=H
                 have A85:=qk12 A850
                 clear A850
                 obtain rfl:=Option.some.inj H
                 try go_wp2
                 have n0_:=qk12 (qf12 HO_393001.out)
                 have n1_:=qk12 (qf12 HO_393002.out)
                 have n2_:=qk12 (qf12 HO_393003.out)
                 have n3_:=qk12 (qf12 HO_405001.out)
                 have n4_:=qk12 (qf12 HO_405002.out)
                 have n5_:=qk12 (qf12 HO_405003.out)
                 have n6_:=qk12 (qb12 BK392.out)
                 have n7_:=qk12 (qb12 BK404.out)
                 have n8_:=qk12 (qi12 HB.out)
                 clear HO_393001
                 clear HO_393002
                 clear HO_393003
                 clear HO_405001
                 clear HO_405002
                 clear HO_405003
                 clear BK392
                 clear BK404
                 clear HB
                 have HO_393001:=n0_
                 have HO_393002:=n1_
                 have HO_393003:=n2_
                 have HO_405001:=n3_
                 have HO_405002:=n4_
                 have HO_405003:=n5_
                 have BK392:=n6_
                 have BK404:=n7_
                 have HB:=n8_
                 clear n0_ n1_ n2_ n3_ n4_ n5_ n6_ n7_ n8_
                 refine start_ (n:=11) (S:=fun w' => w'.cell? ⟨gb392,0,none⟩ = some (.int .i64 t381) ∧ w'.cell? ⟨gb392,1,none⟩ = some (.slice Ao21 t382.length co21) ∧ w'.cell? ⟨gb392,2,none⟩ = some (.slice Ao22 t385.length co22) ∧ w'.cell? ⟨gb392,3,none⟩ = some (.slice Ao23 t388.length co23)) (ds:=[]) #[false,false,false,false,false,false,false,false,false,false,false] (by kernel_rfl) rfl rfl ⟨(blk_cell BK392.out 0).trans rfl,(blk_cell BK392.out 1).trans rfl,(blk_cell BK392.out 2).trans rfl,(blk_cell BK392.out 3).trans rfl⟩ (fun hHeld => ?_);refine with_tabW laws_FnLamport.tab20 laws_FnLamport.bits20 (fun HT_ HW_ => ?_)
                 generalize wc.drew = w86 at HO_393001 HO_393002 HO_393003 HO_405001 HO_405002 HO_405003 BK392 BK404 HB hHeld ⊢
                 refine pure_ (i:=0) (N:=some 151) (v:=?_) (a':=?_) #[true,false,false,false,false,false,false,false,false,false,false] rfl rfl (any_of HT_.out (by kernel_rfl)) (fun _ _ _ h => h) (Or.inl ⟨by rfl,?_⟩) ?_ ?_
                 rotate_left
                 ·
                  intro w'
                  go_simp
                  with_reducible rfl
                 rotate_left
                 ·
                  simp only [Act.put,List.setIfInBounds_toArray,List.set_cons_zero,List.set_cons_succ,i64_w,i32_w]
                  rfl
                 refine pure_ (i:=1) (N:=some 152) (v:=?_) (a':=?_) #[true,true,false,false,false,false,false,false,false,false,false] rfl rfl (any_of HT_.out (by kernel_rfl)) (fun _ _ _ h => h) (Or.inl ⟨by rfl,?_⟩) ?_ ?_
                 rotate_left
                 ·
                  intro w'
                  go_simp
                  with_reducible rfl
                 rotate_left
                 ·
                  simp only [Act.put,List.setIfInBounds_toArray,List.set_cons_zero,List.set_cons_succ,i64_w,i32_w]
                  rfl
                 refine pure_ (i:=2) (N:=some 153) (v:=?_) (a':=?_) #[true,true,true,false,false,false,false,false,false,false,false] rfl rfl (any_of HT_.out (by kernel_rfl)) (fun _ _ _ h => h) (Or.inl ⟨by rfl,?_⟩) ?_ ?_
                 rotate_left
                 ·
                  intro w'
                  go_simp
                  with_reducible rfl
                 rotate_left
                 ·
                  simp only [Act.put,List.setIfInBounds_toArray,List.set_cons_zero,List.set_cons_succ,i64_w,i32_w]
                  rfl
                 refine pure_ (i:=5) (N:=some 156) (v:=?_) (a':=?_) #[true,true,true,false,false,true,false,false,false,false,false] rfl rfl (any_of HT_.out (by kernel_rfl)) (fun _ _ _ h => h) (Or.inl ⟨by rfl,?_⟩) ?_ ?_
                 rotate_left
                 ·
                  intro w'
                  go_simp
                  with_reducible rfl
                 rotate_left
                 ·
                  simp only [Act.put,List.setIfInBounds_toArray,List.set_cons_zero,List.set_cons_succ,i64_w,i32_w]
                  rfl
                 refine pure_ (i:=6) (N:=some 157) (v:=?_) (a':=?_) #[true,true,true,false,false,true,true,false,false,false,false] rfl rfl (any_of HT_.out (by kernel_rfl)) (fun _ _ _ h => h) (Or.inl ⟨by rfl,?_⟩) ?_ ?_
                 rotate_left
                 ·
                  intro w'
                  go_simp
                  with_reducible rfl
                 rotate_left
                 ·
                  simp only [Act.put,List.setIfInBounds_toArray,List.set_cons_zero,List.set_cons_succ,i64_w,i32_w]
                  rfl
                 refine pure_ (i:=7) (N:=some 158) (v:=?_) (a':=?_) #[true,true,true,false,false,true,true,true,false,false,false] rfl rfl (any_of HT_.out (by kernel_rfl)) (fun _ _ _ h => h) (Or.inl ⟨by rfl,?_⟩) ?_ ?_
                 rotate_left
                 ·
                  intro w'
                  go_simp
                  with_reducible rfl
                 rotate_left
                 ·
                  simp only [Act.put,List.setIfInBounds_toArray,List.set_cons_zero,List.set_cons_succ,i64_w,i32_w]
                  rfl
                 refine take_ (i:=3) (N:=some 154) (v:=?_) (a':=?_) #[true,true,true,true,false,true,true,true,false,false,false] rfl rfl (take_ofW HT_.out HW_.out (by kernel_rfl)) (fun _ _ _ h => h) (Or.inl ⟨by rfl,?_⟩) hHeld ?_ ?_
                 rotate_left
                 ·
                  rintro w' ⟨s0,s1,s2,s3⟩
                  go_simp
                  with_reducible rfl
                 rotate_left
                 ·
                  simp only [Act.put,List.setIfInBounds_toArray,List.set_cons_zero,List.set_cons_succ,i64_w,i32_w]
                  rfl
                 refine take_ (i:=8) (N:=some 159) (v:=?_) (a':=?_) #[true,true,true,true,false,true,true,true,true,false,false] rfl rfl (take_ofW HT_.out HW_.out (by kernel_rfl)) (fun _ _ _ h => h) (Or.inl ⟨by rfl,?_⟩) hHeld ?_ ?_
                 rotate_left
                 ·
                  rintro w' ⟨s0,s1,s2,s3⟩
                  go_simp
                  with_reducible rfl
                 rotate_left
                 ·
                  simp only [Act.put,List.setIfInBounds_toArray,List.set_cons_zero,List.set_cons_succ,i64_w,i32_w]
                  rfl
                 refine one_ (i:=4) (N:=some 155) #[true,true,true,true,true,true,true,true,true,false,false] rfl rfl (one_of HT_.out (by kernel_rfl)) (by decide) (fun K hK => ?_)
                 refine goes_ Tryd.func29 (by kernel_rfl) rfl #[.string t377,.string (t375 ++ (⟨#[33]⟩ : ByteArray)),.agg #[.int .i64 t381,.slice Ao21 t382.length co21,.slice Ao22 t385.length co22,.slice Ao23 t388.length co23]] (by rfl) rfl rfl (by (try simp only [List.map_toArray,List.map_cons,List.map_nil]);first|done|rfl|(simp only [List.length_drop,List.length_take];rfl)) ?_
                 with_reducible refine (impl_CheckSignature.calls kj59 t377 (t375 ++ (⟨#[33]⟩ : ByteArray)) t381 _ _ t382 _ _ t385 _ _ t388 t420 _ ?side1 ?side2 ?side3 ?side4 ?side5 ?side6 ?side7 A80.out).mono ?_
                 (case side1 => repeat (first|exact (Kd.R_reads' HO_393001.out).2.2|(with_reducible refine Kd.C_alloc ?_ _)|(with_reducible refine Kd.C_drewN ?_ _)|(with_reducible refine Kd.C_drew ?_)))
                 (case side2 => exact (Kd.R_reads' HO_393001.out).2.1)
                 (case side3 => repeat (first|exact (Kd.R_reads' HO_393002.out).2.2|(with_reducible refine Kd.C_alloc ?_ _)|(with_reducible refine Kd.C_drewN ?_ _)|(with_reducible refine Kd.C_drew ?_)))
                 (case side4 => exact (Kd.R_reads' HO_393002.out).2.1)
                 (case side5 => repeat (first|exact (Kd.R_reads' HO_393003.out).2.2|(with_reducible refine Kd.C_alloc ?_ _)|(with_reducible refine Kd.C_drewN ?_ _)|(with_reducible refine Kd.C_drew ?_)))
                 (case side6 => exact (Kd.R_reads' HO_393003.out).2.1)
                 (case side7 => exact Go.Proofs.YtmkaknegjahjaaaDoor.Sha.glob_below hG_ (by repeat (first|(with_reducible first|exact HB.out|apply qg12|apply qh12|apply qi12|refine qj12 ?_ GE392.out|refine qj12 ?_ GE404.out)|exact HB.out)))
                 rintro e w87 ⟨rfl,hb⟩
                 refine ⟨_,rfl,?_⟩
                 have n0_:=qk12 (qm12 (by (with_reducible repeat (first|apply qd12|apply qe12|apply qf12));exact HO_393001.out) hb)
                 have n1_:=qk12 (qm12 (by (with_reducible repeat (first|apply qd12|apply qe12|apply qf12));exact HO_393002.out) hb)
                 have n2_:=qk12 (qm12 (by (with_reducible repeat (first|apply qd12|apply qe12|apply qf12));exact HO_393003.out) hb)
                 have n3_:=qk12 (qm12 (by (with_reducible repeat (first|apply qd12|apply qe12|apply qf12));exact HO_405001.out) hb)
                 have n4_:=qk12 (qm12 (by (with_reducible repeat (first|apply qd12|apply qe12|apply qf12));exact HO_405002.out) hb)
                 have n5_:=qk12 (qm12 (by (with_reducible repeat (first|apply qd12|apply qe12|apply qf12));exact HO_405003.out) hb)
                 have n6_:=qk12 (ql12 (g:=gb392) (o:=.cells #[.int .i64 t381,.slice Ao21 t382.length co21,.slice Ao22 t385.length co22,.slice Ao23 t388.length co23] 33 (0,0)) (by (with_reducible repeat (first|apply qa12|apply qb12|apply qc12));exact BK392.out) hb)
                 have n7_:=qk12 (ql12 (g:=gb404) (o:=.cells #[.int .i64 t393,.slice Ao28 t394.length co28,.slice Ao29 t397.length co29,.slice Ao30 t400.length co30] 33 (0,0)) (by (with_reducible repeat (first|apply qa12|apply qb12|apply qc12));exact BK404.out) hb)
                 have n8_:=qk12 (below_step (by repeat (first|(with_reducible first|exact HB.out|apply qg12|apply qh12|apply qi12|refine qj12 ?_ GE392.out|refine qj12 ?_ GE404.out)|exact HB.out)) hb)
                 clear HO_393001
                 clear HO_393002
                 clear HO_393003
                 clear HO_405001
                 clear HO_405002
                 clear HO_405003
                 clear BK392
                 clear BK404
                 clear HB
                 have HO_393001:=n0_
                 have HO_393002:=n1_
                 have HO_393003:=n2_
                 have HO_405001:=n3_
                 have HO_405002:=n4_
                 have HO_405003:=n5_
                 have BK392:=n6_
                 have BK404:=n7_
                 have HB:=n8_
                 clear n0_ n1_ n2_ n3_ n4_ n5_ n6_ n7_ n8_
                 (try clear hb)
                 (try clear hb2)
                 (try clear hk)
                 (try clear hi)
                 refine hK.out _ _ ⟨(blk_cell BK392.out 0).trans rfl,(blk_cell BK392.out 1).trans rfl,(blk_cell BK392.out 2).trans rfl,(blk_cell BK392.out 3).trans rfl⟩ (fun hHeld => ?_)
                 clear hK K
                 refine norm_ (a':=?_) ?_ ?_
                 rotate_left
                 ·
                  show Act.put _ (some 155) _ = _
                  simp only [Act.put,List.setIfInBounds_toArray,List.set_cons_zero,List.set_cons_succ,i64_w,i32_w]
                  rfl
                 refine one_ (i:=9) (N:=some 160) #[true,true,true,true,true,true,true,true,true,true,false] rfl rfl (one_of HT_.out (by kernel_rfl)) (by decide) (fun K hK => ?_)
                 refine goes_ Tryd.func32 (by kernel_rfl) rfl #[.string t377,.string (t375 ++ (⟨#[33]⟩ : ByteArray)),.agg #[.int .i64 t381,.slice Ao21 t382.length co21,.slice Ao22 t385.length co22,.slice Ao23 t388.length co23]] (by rfl) rfl rfl (by (try simp only [List.map_toArray,List.map_cons,List.map_nil]);first|done|rfl|(simp only [List.length_drop,List.length_take];rfl)) ?_
                 with_reducible refine (spec_CheckSignature.calls kj59 t377 (t375 ++ (⟨#[33]⟩ : ByteArray)) t381 _ _ t382 _ _ t385 _ _ t388 t421 _ ?side1 ?side2 ?side3 ?side4 ?side5 ?side6 A81.out).mono ?_
                 (case side1 => repeat (first|exact (Kd.R_reads' HO_393001.out).2.2|(with_reducible refine Kd.C_alloc ?_ _)|(with_reducible refine Kd.C_drewN ?_ _)|(with_reducible refine Kd.C_drew ?_)))
                 (case side2 => exact (Kd.R_reads' HO_393001.out).2.1)
                 (case side3 => repeat (first|exact (Kd.R_reads' HO_393002.out).2.2|(with_reducible refine Kd.C_alloc ?_ _)|(with_reducible refine Kd.C_drewN ?_ _)|(with_reducible refine Kd.C_drew ?_)))
                 (case side4 => exact (Kd.R_reads' HO_393002.out).2.1)
                 (case side5 => repeat (first|exact (Kd.R_reads' HO_393003.out).2.2|(with_reducible refine Kd.C_alloc ?_ _)|(with_reducible refine Kd.C_drewN ?_ _)|(with_reducible refine Kd.C_drew ?_)))
                 (case side6 => exact (Kd.R_reads' HO_393003.out).2.1)
                 rintro e w88 ⟨rfl,hb⟩
                 refine ⟨_,rfl,?_⟩
                 have n0_:=qk12 (qm12 (by (with_reducible repeat (first|apply qd12|apply qe12|apply qf12));exact HO_393001.out) hb)
                 have n1_:=qk12 (qm12 (by (with_reducible repeat (first|apply qd12|apply qe12|apply qf12));exact HO_393002.out) hb)
                 have n2_:=qk12 (qm12 (by (with_reducible repeat (first|apply qd12|apply qe12|apply qf12));exact HO_393003.out) hb)
                 have n3_:=qk12 (qm12 (by (with_reducible repeat (first|apply qd12|apply qe12|apply qf12));exact HO_405001.out) hb)
                 have n4_:=qk12 (qm12 (by (with_reducible repeat (first|apply qd12|apply qe12|apply qf12));exact HO_405002.out) hb)
                 have n5_:=qk12 (qm12 (by (with_reducible repeat (first|apply qd12|apply qe12|apply qf12));exact HO_405003.out) hb)
                 have n6_:=qk12 (ql12 (g:=gb392) (o:=.cells #[.int .i64 t381,.slice Ao21 t382.length co21,.slice Ao22 t385.length co22,.slice Ao23 t388.length co23] 33 (0,0)) (by (with_reducible repeat (first|apply qa12|apply qb12|apply qc12));exact BK392.out) hb)
                 have n7_:=qk12 (ql12 (g:=gb404) (o:=.cells #[.int .i64 t393,.slice Ao28 t394.length co28,.slice Ao29 t397.length co29,.slice Ao30 t400.length co30] 33 (0,0)) (by (with_reducible repeat (first|apply qa12|apply qb12|apply qc12));exact BK404.out) hb)
                 have n8_:=qk12 (below_step (by repeat (first|(with_reducible first|exact HB.out|apply qg12|apply qh12|apply qi12|refine qj12 ?_ GE392.out|refine qj12 ?_ GE404.out)|exact HB.out)) hb)
                 clear HO_393001
                 clear HO_393002
                 clear HO_393003
                 clear HO_405001
                 clear HO_405002
                 clear HO_405003
                 clear BK392
                 clear BK404
                 clear HB
                 have HO_393001:=n0_
                 have HO_393002:=n1_
                 have HO_393003:=n2_
                 have HO_405001:=n3_
                 have HO_405002:=n4_
                 have HO_405003:=n5_
                 have BK392:=n6_
                 have BK404:=n7_
                 have HB:=n8_
                 clear n0_ n1_ n2_ n3_ n4_ n5_ n6_ n7_ n8_
                 (try clear hb)
                 (try clear hb2)
                 (try clear hk)
                 (try clear hi)
                 refine hK.out _ _ ⟨(blk_cell BK392.out 0).trans rfl,(blk_cell BK392.out 1).trans rfl,(blk_cell BK392.out 2).trans rfl,(blk_cell BK392.out 3).trans rfl⟩ (fun hHeld => ?_)
                 clear hK K
                 refine norm_ (a':=?_) ?_ ?_
                 rotate_left
                 ·
                  show Act.put _ (some 160) _ = _
                  simp only [Act.put,List.setIfInBounds_toArray,List.set_cons_zero,List.set_cons_succ,i64_w,i32_w]
                  rfl
                 refine pure_ (i:=10) (N:=some 161) (v:=?_) (a':=?_) #[true,true,true,true,true,true,true,true,true,true,true] rfl rfl (any_of HT_.out (by kernel_rfl)) (fun _ _ _ h => h) (Or.inl ⟨by rfl,?_⟩) ?_ ?_
                 rotate_left
                 ·
                  intro w'
                  go_simp
                  with_reducible rfl
                 rotate_left
                 ·
                  simp only [Act.put,List.setIfInBounds_toArray,List.set_cons_zero,List.set_cons_succ,i64_w,i32_w]
                  rfl
                 refine done_ (done_of HT_.out (by kernel_rfl)) ?_
                 have hnb89:=NB392_404.out
                 have hnc89:=NB404_392.out
                 have hcz90_0 : w88.cell? ⟨gb392,0,none⟩ = some (.int .i64 t381):=(blk_cell BK392.out 0).trans rfl
                 have hcz90_1 : w88.cell? ⟨gb392,1,none⟩ = some (.slice Ao21 t382.length co21):=(blk_cell BK392.out 1).trans rfl
                 have hcz90_2 : w88.cell? ⟨gb392,2,none⟩ = some (.slice Ao22 t385.length co22):=(blk_cell BK392.out 2).trans rfl
                 have hcz90_3 : w88.cell? ⟨gb392,3,none⟩ = some (.slice Ao23 t388.length co23):=(blk_cell BK392.out 3).trans rfl
                 have hfz90_0:=blk_frozen BK392.out 0
                 have hfz90_1:=blk_frozen BK392.out 1
                 have hfz90_2:=blk_frozen BK392.out 2
                 have hfz90_3:=blk_frozen BK392.out 3
                 try go_wp2_with (first|((with_reducible refine gate_dst (N:=23) rfl ?_);refine box_event ?hg (N:=23) ?hd (cs:=#[.int .i64 0,.slice none 0 0,.slice none 0 0,.slice none 0 0]) (t:=33) ?hr ?_;(case hd => rfl);(case hg => rfl);(case hr => first|(go_simp;done)|(go_simp;rfl));intro gb422 hg w91 hbox hb;have n0_:=qk12 (qm12 (by (with_reducible repeat (first|apply qd12|apply qe12|apply qf12));exact HO_393001.out) hb);have n1_:=qk12 (qm12 (by (with_reducible repeat (first|apply qd12|apply qe12|apply qf12));exact HO_393002.out) hb);have n2_:=qk12 (qm12 (by (with_reducible repeat (first|apply qd12|apply qe12|apply qf12));exact HO_393003.out) hb);have n3_:=qk12 (qm12 (by (with_reducible repeat (first|apply qd12|apply qe12|apply qf12));exact HO_405001.out) hb);have n4_:=qk12 (qm12 (by (with_reducible repeat (first|apply qd12|apply qe12|apply qf12));exact HO_405002.out) hb);have n5_:=qk12 (qm12 (by (with_reducible repeat (first|apply qd12|apply qe12|apply qf12));exact HO_405003.out) hb);have n6_:=qk12 (ql12 (g:=gb392) (o:=.cells #[.int .i64 t381,.slice Ao21 t382.length co21,.slice Ao22 t385.length co22,.slice Ao23 t388.length co23] 33 (0,0)) (by (with_reducible repeat (first|apply qa12|apply qb12|apply qc12));exact BK392.out) hb);have n7_:=qk12 (ql12 (g:=gb404) (o:=.cells #[.int .i64 t393,.slice Ao28 t394.length co28,.slice Ao29 t397.length co29,.slice Ao30 t400.length co30] 33 (0,0)) (by (with_reducible repeat (first|apply qa12|apply qb12|apply qc12));exact BK404.out) hb);have n8_:=qk12 (below_step (by repeat (first|(with_reducible first|exact HB.out|apply qg12|apply qh12|apply qi12|refine qj12 ?_ GE392.out|refine qj12 ?_ GE404.out)|exact HB.out)) hb);have n9_:=qk12 (hbox);have n10_:=qk12 ((by rw [hg];exact (below_size (by repeat (first|(with_reducible first|exact HB.out|apply qg12|apply qh12|apply qi12|refine qj12 ?_ GE392.out|refine qj12 ?_ GE404.out)|exact HB.out))) : w.heap.size ≤ gb422));have n11_:=qk12 ((by rw [hg];exact (below_size (by repeat (first|(with_reducible first|exact HB.out|apply qg12|apply qh12|apply qi12|refine qj12 ?_ GE392.out|refine qj12 ?_ GE404.out)|exact HB.out))) : w.heap.size ≤ gb422));have n12_:=qk12 ((by rw [hg];exact Nat.ne_of_lt (blk_lt (g:=gb392) (o:=.cells #[.int .i64 t381,.slice Ao21 t382.length co21,.slice Ao22 t385.length co22,.slice Ao23 t388.length co23] 33 (0,0)) (by (with_reducible repeat (first|apply qa12|apply qb12|apply qc12));exact BK392.out)) : gb392 ≠ gb422));have n13_:=qk12 ((by rw [hg];exact Nat.ne_of_gt (blk_lt (g:=gb392) (o:=.cells #[.int .i64 t381,.slice Ao21 t382.length co21,.slice Ao22 t385.length co22,.slice Ao23 t388.length co23] 33 (0,0)) (by (with_reducible repeat (first|apply qa12|apply qb12|apply qc12));exact BK392.out)) : gb422 ≠ gb392));have n14_:=qk12 ((by rw [hg];exact Nat.ne_of_lt (blk_lt (g:=gb404) (o:=.cells #[.int .i64 t393,.slice Ao28 t394.length co28,.slice Ao29 t397.length co29,.slice Ao30 t400.length co30] 33 (0,0)) (by (with_reducible repeat (first|apply qa12|apply qb12|apply qc12));exact BK404.out)) : gb404 ≠ gb422));have n15_:=qk12 ((by rw [hg];exact Nat.ne_of_gt (blk_lt (g:=gb404) (o:=.cells #[.int .i64 t393,.slice Ao28 t394.length co28,.slice Ao29 t397.length co29,.slice Ao30 t400.length co30] 33 (0,0)) (by (with_reducible repeat (first|apply qa12|apply qb12|apply qc12));exact BK404.out)) : gb422 ≠ gb404));clear HO_393001;clear HO_393002;clear HO_393003;clear HO_405001;clear HO_405002;clear HO_405003;clear BK392;clear BK404;clear HB;have HO_393001:=n0_;have HO_393002:=n1_;have HO_393003:=n2_;have HO_405001:=n3_;have HO_405002:=n4_;have HO_405003:=n5_;have BK392:=n6_;have BK404:=n7_;have HB:=n8_;have BK422:=n9_;have GW422:=n10_;have GE422:=n11_;have NB392_422:=n12_;have NB422_392:=n13_;have NB404_422:=n14_;have NB422_404:=n15_;clear n0_ n1_ n2_ n3_ n4_ n5_ n6_ n7_ n8_ n9_ n10_ n11_ n12_ n13_ n14_ n15_;clear hb hbox hg;have hnb92:=NB422_392.out;have hnc92:=NB392_422.out;have hnb93:=NB422_404.out;have hnc93:=NB404_422.out;have hcz94_0 : w91.cell? ⟨gb422,0,none⟩ = some (.int .i64 0):=(blk_cell BK422.out 0).trans rfl;have hcz94_1 : w91.cell? ⟨gb422,1,none⟩ = some (.slice none 0 0):=(blk_cell BK422.out 1).trans rfl;have hcz94_2 : w91.cell? ⟨gb422,2,none⟩ = some (.slice none 0 0):=(blk_cell BK422.out 2).trans rfl;have hcz94_3 : w91.cell? ⟨gb422,3,none⟩ = some (.slice none 0 0):=(blk_cell BK422.out 3).trans rfl;have hfz94_0:=blk_frozen BK422.out 0;have hfz94_1:=blk_frozen BK422.out 1;have hfz94_2:=blk_frozen BK422.out 2;have hfz94_3:=blk_frozen BK422.out 3)|((with_reducible refine gate_callee (f:=18) rfl ?_);refine goesL_ (some 164) rfl rfl Tryd.func18 (by kernel_rfl) rfl #[.slice A1 l1.length c1,.int .i64 2,.int .i64 8] rfl (by (try simp only [List.map_toArray,List.map_cons,List.map_nil]);first|done|rfl|(simp only [List.length_drop,List.length_take];rfl)) ?_;(with_reducible refine (laws_at.calls _ _ l1 2 8 t423 _ ?side1 ?side2 A83.out).mono ?_);(case side1 => exact Kd.C_below HR1.out (by repeat (first|(with_reducible first|exact HB.out|apply qg12|apply qh12|apply qi12|refine qj12 ?_ GE392.out|refine qj12 ?_ GE404.out|refine qj12 ?_ GE422.out)|exact HB.out)));(case side2 => exact HC1.out);rintro e w' ⟨rfl,⟨nd,rfl⟩⟩;refine ⟨_,rfl,?_⟩))
                 have n0_ : Aside0 (Kd.R Kd.string 9 ((((((w91.setCell ⟨gb422,0,none⟩ (.int .i64 t381)).setCell ⟨gb422,1,none⟩ (.slice Ao21 t382.length co21)).setCell ⟨gb422,2,none⟩ (.slice Ao22 t385.length co22)).setCell ⟨gb422,3,none⟩ (.slice Ao23 t388.length co23)).drewN nd).setCell ⟨gb422,0,none⟩ (.int .i64 t423)) w.heap.size (fun k_ => some k_ ≠ (.slice Ao22 t385.length co22 : Value).ownBlock ∧ some k_ ≠ (.slice Ao23 t388.length co23 : Value).ownBlock ∧ some k_ ≠ (.slice Ao28 t394.length co28 : Value).ownBlock ∧ some k_ ≠ (.slice Ao29 t397.length co29 : Value).ownBlock ∧ some k_ ≠ (.slice Ao30 t400.length co30 : Value).ownBlock) (.slice Ao21 t382.length co21) t382):=⟨by (with_reducible repeat (first|apply qd12|apply qe12|apply qf12));exact qp12 (qn12 (p:=⟨gb422,0,none⟩) (qe12 (qn12 (p:=⟨gb422,3,none⟩) (qn12 (p:=⟨gb422,2,none⟩) (qn12 (p:=⟨gb422,1,none⟩) (qn12 (p:=⟨gb422,0,none⟩) (qo12 HO_393001.out BK422.out (by decide)) (fun _ hk => hk.2) (.int .i64 t381)) (fun _ hk => hk.2) (.slice Ao21 t382.length co21)) (fun _ hk => hk.2) (.slice Ao22 t385.length co22)) (fun _ hk => hk.2) (.slice Ao23 t388.length co23)) nd) (fun _ hk => hk.2) (.int .i64 t423)) (fun _ hk => ⟨hk.1.1,⟨hk.1.2.1,⟨hk.1.2.2.1,⟨hk.1.2.2.2.1,hk.1.2.2.2.2⟩⟩⟩⟩)⟩
                 have n1_ : Aside0 (Kd.R Kd.string 9 ((((((w91.setCell ⟨gb422,0,none⟩ (.int .i64 t381)).setCell ⟨gb422,1,none⟩ (.slice Ao21 t382.length co21)).setCell ⟨gb422,2,none⟩ (.slice Ao22 t385.length co22)).setCell ⟨gb422,3,none⟩ (.slice Ao23 t388.length co23)).drewN nd).setCell ⟨gb422,0,none⟩ (.int .i64 t423)) w.heap.size (fun k_ => some k_ ≠ (.slice Ao21 t382.length co21 : Value).ownBlock ∧ some k_ ≠ (.slice Ao23 t388.length co23 : Value).ownBlock ∧ some k_ ≠ (.slice Ao28 t394.length co28 : Value).ownBlock ∧ some k_ ≠ (.slice Ao29 t397.length co29 : Value).ownBlock ∧ some k_ ≠ (.slice Ao30 t400.length co30 : Value).ownBlock) (.slice Ao22 t385.length co22) t385):=⟨by (with_reducible repeat (first|apply qd12|apply qe12|apply qf12));exact qp12 (qn12 (p:=⟨gb422,0,none⟩) (qe12 (qn12 (p:=⟨gb422,3,none⟩) (qn12 (p:=⟨gb422,2,none⟩) (qn12 (p:=⟨gb422,1,none⟩) (qn12 (p:=⟨gb422,0,none⟩) (qo12 HO_393002.out BK422.out (by decide)) (fun _ hk => hk.2) (.int .i64 t381)) (fun _ hk => hk.2) (.slice Ao21 t382.length co21)) (fun _ hk => hk.2) (.slice Ao22 t385.length co22)) (fun _ hk => hk.2) (.slice Ao23 t388.length co23)) nd) (fun _ hk => hk.2) (.int .i64 t423)) (fun _ hk => ⟨hk.1.1,⟨hk.1.2.1,⟨hk.1.2.2.1,⟨hk.1.2.2.2.1,hk.1.2.2.2.2⟩⟩⟩⟩)⟩
                 have n2_ : Aside0 (Kd.R Kd.string 9 ((((((w91.setCell ⟨gb422,0,none⟩ (.int .i64 t381)).setCell ⟨gb422,1,none⟩ (.slice Ao21 t382.length co21)).setCell ⟨gb422,2,none⟩ (.slice Ao22 t385.length co22)).setCell ⟨gb422,3,none⟩ (.slice Ao23 t388.length co23)).drewN nd).setCell ⟨gb422,0,none⟩ (.int .i64 t423)) w.heap.size (fun k_ => some k_ ≠ (.slice Ao21 t382.length co21 : Value).ownBlock ∧ some k_ ≠ (.slice Ao22 t385.length co22 : Value).ownBlock ∧ some k_ ≠ (.slice Ao28 t394.length co28 : Value).ownBlock ∧ some k_ ≠ (.slice Ao29 t397.length co29 : Value).ownBlock ∧ some k_ ≠ (.slice Ao30 t400.length co30 : Value).ownBlock) (.slice Ao23 t388.length co23) t388):=⟨by (with_reducible repeat (first|apply qd12|apply qe12|apply qf12));exact qp12 (qn12 (p:=⟨gb422,0,none⟩) (qe12 (qn12 (p:=⟨gb422,3,none⟩) (qn12 (p:=⟨gb422,2,none⟩) (qn12 (p:=⟨gb422,1,none⟩) (qn12 (p:=⟨gb422,0,none⟩) (qo12 HO_393003.out BK422.out (by decide)) (fun _ hk => hk.2) (.int .i64 t381)) (fun _ hk => hk.2) (.slice Ao21 t382.length co21)) (fun _ hk => hk.2) (.slice Ao22 t385.length co22)) (fun _ hk => hk.2) (.slice Ao23 t388.length co23)) nd) (fun _ hk => hk.2) (.int .i64 t423)) (fun _ hk => ⟨hk.1.1,⟨hk.1.2.1,⟨hk.1.2.2.1,⟨hk.1.2.2.2.1,hk.1.2.2.2.2⟩⟩⟩⟩)⟩
                 have n3_ : Aside0 (Kd.R Kd.string 9 ((((((w91.setCell ⟨gb422,0,none⟩ (.int .i64 t381)).setCell ⟨gb422,1,none⟩ (.slice Ao21 t382.length co21)).setCell ⟨gb422,2,none⟩ (.slice Ao22 t385.length co22)).setCell ⟨gb422,3,none⟩ (.slice Ao23 t388.length co23)).drewN nd).setCell ⟨gb422,0,none⟩ (.int .i64 t423)) w.heap.size (fun k_ => some k_ ≠ (.slice Ao21 t382.length co21 : Value).ownBlock ∧ some k_ ≠ (.slice Ao22 t385.length co22 : Value).ownBlock ∧ some k_ ≠ (.slice Ao23 t388.length co23 : Value).ownBlock ∧ some k_ ≠ (.slice Ao29 t397.length co29 : Value).ownBlock ∧ some k_ ≠ (.slice Ao30 t400.length co30 : Value).ownBlock) (.slice Ao28 t394.length co28) t394):=⟨by (with_reducible repeat (first|apply qd12|apply qe12|apply qf12));exact qp12 (qn12 (p:=⟨gb422,0,none⟩) (qe12 (qn12 (p:=⟨gb422,3,none⟩) (qn12 (p:=⟨gb422,2,none⟩) (qn12 (p:=⟨gb422,1,none⟩) (qn12 (p:=⟨gb422,0,none⟩) (qo12 HO_405001.out BK422.out (by decide)) (fun _ hk => hk.2) (.int .i64 t381)) (fun _ hk => hk.2) (.slice Ao21 t382.length co21)) (fun _ hk => hk.2) (.slice Ao22 t385.length co22)) (fun _ hk => hk.2) (.slice Ao23 t388.length co23)) nd) (fun _ hk => hk.2) (.int .i64 t423)) (fun _ hk => ⟨hk.1.1,⟨hk.1.2.1,⟨hk.1.2.2.1,⟨hk.1.2.2.2.1,hk.1.2.2.2.2⟩⟩⟩⟩)⟩
                 have n4_ : Aside0 (Kd.R Kd.string 9 ((((((w91.setCell ⟨gb422,0,none⟩ (.int .i64 t381)).setCell ⟨gb422,1,none⟩ (.slice Ao21 t382.length co21)).setCell ⟨gb422,2,none⟩ (.slice Ao22 t385.length co22)).setCell ⟨gb422,3,none⟩ (.slice Ao23 t388.length co23)).drewN nd).setCell ⟨gb422,0,none⟩ (.int .i64 t423)) w.heap.size (fun k_ => some k_ ≠ (.slice Ao21 t382.length co21 : Value).ownBlock ∧ some k_ ≠ (.slice Ao22 t385.length co22 : Value).ownBlock ∧ some k_ ≠ (.slice Ao23 t388.length co23 : Value).ownBlock ∧ some k_ ≠ (.slice Ao28 t394.length co28 : Value).ownBlock ∧ some k_ ≠ (.slice Ao30 t400.length co30 : Value).ownBlock) (.slice Ao29 t397.length co29) t397):=⟨by (with_reducible repeat (first|apply qd12|apply qe12|apply qf12));exact qp12 (qn12 (p:=⟨gb422,0,none⟩) (qe12 (qn12 (p:=⟨gb422,3,none⟩) (qn12 (p:=⟨gb422,2,none⟩) (qn12 (p:=⟨gb422,1,none⟩) (qn12 (p:=⟨gb422,0,none⟩) (qo12 HO_405002.out BK422.out (by decide)) (fun _ hk => hk.2) (.int .i64 t381)) (fun _ hk => hk.2) (.slice Ao21 t382.length co21)) (fun _ hk => hk.2) (.slice Ao22 t385.length co22)) (fun _ hk => hk.2) (.slice Ao23 t388.length co23)) nd) (fun _ hk => hk.2) (.int .i64 t423)) (fun _ hk => ⟨hk.1.1,⟨hk.1.2.1,⟨hk.1.2.2.1,⟨hk.1.2.2.2.1,hk.1.2.2.2.2⟩⟩⟩⟩)⟩
                 have n5_ : Aside0 (Kd.R Kd.string 9 ((((((w91.setCell ⟨gb422,0,none⟩ (.int .i64 t381)).setCell ⟨gb422,1,none⟩ (.slice Ao21 t382.length co21)).setCell ⟨gb422,2,none⟩ (.slice Ao22 t385.length co22)).setCell ⟨gb422,3,none⟩ (.slice Ao23 t388.length co23)).drewN nd).setCell ⟨gb422,0,none⟩ (.int .i64 t423)) w.heap.size (fun k_ => some k_ ≠ (.slice Ao21 t382.length co21 : Value).ownBlock ∧ some k_ ≠ (.slice Ao22 t385.length co22 : Value).ownBlock ∧ some k_ ≠ (.slice Ao23 t388.length co23 : Value).ownBlock ∧ some k_ ≠ (.slice Ao28 t394.length co28 : Value).ownBlock ∧ some k_ ≠ (.slice Ao29 t397.length co29 : Value).ownBlock) (.slice Ao30 t400.length co30) t400):=⟨by (with_reducible repeat (first|apply qd12|apply qe12|apply qf12));exact qp12 (qn12 (p:=⟨gb422,0,none⟩) (qe12 (qn12 (p:=⟨gb422,3,none⟩) (qn12 (p:=⟨gb422,2,none⟩) (qn12 (p:=⟨gb422,1,none⟩) (qn12 (p:=⟨gb422,0,none⟩) (qo12 HO_405003.out BK422.out (by decide)) (fun _ hk => hk.2) (.int .i64 t381)) (fun _ hk => hk.2) (.slice Ao21 t382.length co21)) (fun _ hk => hk.2) (.slice Ao22 t385.length co22)) (fun _ hk => hk.2) (.slice Ao23 t388.length co23)) nd) (fun _ hk => hk.2) (.int .i64 t423)) (fun _ hk => ⟨hk.1.1,⟨hk.1.2.1,⟨hk.1.2.2.1,⟨hk.1.2.2.2.1,hk.1.2.2.2.2⟩⟩⟩⟩)⟩
                 have n6_ : Aside0 (((((((w91.setCell ⟨gb422,0,none⟩ (.int .i64 t381)).setCell ⟨gb422,1,none⟩ (.slice Ao21 t382.length co21)).setCell ⟨gb422,2,none⟩ (.slice Ao22 t385.length co22)).setCell ⟨gb422,3,none⟩ (.slice Ao23 t388.length co23)).drewN nd).setCell ⟨gb422,0,none⟩ (.int .i64 t423)).heap[gb392]? = some (.cells #[.int .i64 t381,.slice Ao21 t382.length co21,.slice Ao22 t385.length co22,.slice Ao23 t388.length co23] 33 (0,0))):=⟨by (with_reducible repeat (first|apply qa12|apply qb12|apply qc12));refine blk_far ?_ NB392_422.out _;(with_reducible repeat (first|apply qa12|apply qb12|apply qc12));refine blk_far ?_ NB392_422.out _;(with_reducible repeat (first|apply qa12|apply qb12|apply qc12));refine blk_far ?_ NB392_422.out _;(with_reducible repeat (first|apply qa12|apply qb12|apply qc12));refine blk_far ?_ NB392_422.out _;(with_reducible repeat (first|apply qa12|apply qb12|apply qc12));refine blk_far ?_ NB392_422.out _;(with_reducible repeat (first|apply qa12|apply qb12|apply qc12));exact BK392.out⟩
                 have n7_ : Aside0 (((((((w91.setCell ⟨gb422,0,none⟩ (.int .i64 t381)).setCell ⟨gb422,1,none⟩ (.slice Ao21 t382.length co21)).setCell ⟨gb422,2,none⟩ (.slice Ao22 t385.length co22)).setCell ⟨gb422,3,none⟩ (.slice Ao23 t388.length co23)).drewN nd).setCell ⟨gb422,0,none⟩ (.int .i64 t423)).heap[gb404]? = some (.cells #[.int .i64 t393,.slice Ao28 t394.length co28,.slice Ao29 t397.length co29,.slice Ao30 t400.length co30] 33 (0,0))):=⟨by (with_reducible repeat (first|apply qa12|apply qb12|apply qc12));refine blk_far ?_ NB404_422.out _;(with_reducible repeat (first|apply qa12|apply qb12|apply qc12));refine blk_far ?_ NB404_422.out _;(with_reducible repeat (first|apply qa12|apply qb12|apply qc12));refine blk_far ?_ NB404_422.out _;(with_reducible repeat (first|apply qa12|apply qb12|apply qc12));refine blk_far ?_ NB404_422.out _;(with_reducible repeat (first|apply qa12|apply qb12|apply qc12));refine blk_far ?_ NB404_422.out _;(with_reducible repeat (first|apply qa12|apply qb12|apply qc12));exact BK404.out⟩
                 have n8_ : Aside0 (((((((w91.setCell ⟨gb422,0,none⟩ (.int .i64 t381)).setCell ⟨gb422,1,none⟩ (.slice Ao21 t382.length co21)).setCell ⟨gb422,2,none⟩ (.slice Ao22 t385.length co22)).setCell ⟨gb422,3,none⟩ (.slice Ao23 t388.length co23)).drewN nd).setCell ⟨gb422,0,none⟩ (.int .i64 t423)).heap[gb422]? = some (.cells #[.int .i64 t423,.slice Ao21 t382.length co21,.slice Ao22 t385.length co22,.slice Ao23 t388.length co23] 33 (0,0))):=⟨by (with_reducible repeat (first|apply qa12|apply qb12|apply qc12));refine blk_put (cs:=#[.int .i64 t381,.slice Ao21 t382.length co21,.slice Ao22 t385.length co22,.slice Ao23 t388.length co23]) ?_ 0 _ rfl;(with_reducible repeat (first|apply qa12|apply qb12|apply qc12));refine blk_put (cs:=#[.int .i64 t381,.slice Ao21 t382.length co21,.slice Ao22 t385.length co22,.slice none 0 0]) ?_ 3 _ rfl;(with_reducible repeat (first|apply qa12|apply qb12|apply qc12));refine blk_put (cs:=#[.int .i64 t381,.slice Ao21 t382.length co21,.slice none 0 0,.slice none 0 0]) ?_ 2 _ rfl;(with_reducible repeat (first|apply qa12|apply qb12|apply qc12));refine blk_put (cs:=#[.int .i64 t381,.slice none 0 0,.slice none 0 0,.slice none 0 0]) ?_ 1 _ rfl;(with_reducible repeat (first|apply qa12|apply qb12|apply qc12));refine blk_put (cs:=#[.int .i64 0,.slice none 0 0,.slice none 0 0,.slice none 0 0]) ?_ 0 _ rfl;(with_reducible repeat (first|apply qa12|apply qb12|apply qc12));exact BK422.out⟩
                 have n9_ : Aside0 (Below w.heap.size w ((((((w91.setCell ⟨gb422,0,none⟩ (.int .i64 t381)).setCell ⟨gb422,1,none⟩ (.slice Ao21 t382.length co21)).setCell ⟨gb422,2,none⟩ (.slice Ao22 t385.length co22)).setCell ⟨gb422,3,none⟩ (.slice Ao23 t388.length co23)).drewN nd).setCell ⟨gb422,0,none⟩ (.int .i64 t423))):=⟨by repeat (first|(with_reducible first|exact HB.out|apply qg12|apply qh12|apply qi12|refine qj12 ?_ GE392.out|refine qj12 ?_ GE404.out|refine qj12 ?_ GE422.out)|exact HB.out)⟩
                 (try clear HO_393001)
                 (try clear HO_393002)
                 (try clear HO_393003)
                 (try clear HO_405001)
                 (try clear HO_405002)
                 (try clear HO_405003)
                 (try clear BK392)
                 (try clear BK404)
                 (try clear BK422)
                 (try clear HB)
                 generalize ((((((w91.setCell ⟨gb422,0,none⟩ (.int .i64 t381)).setCell ⟨gb422,1,none⟩ (.slice Ao21 t382.length co21)).setCell ⟨gb422,2,none⟩ (.slice Ao22 t385.length co22)).setCell ⟨gb422,3,none⟩ (.slice Ao23 t388.length co23)).drewN nd).setCell ⟨gb422,0,none⟩ (.int .i64 t423)) = w95 at n0_ n1_ n2_ n3_ n4_ n5_ n6_ n7_ n8_ n9_ ⊢
                 have HO_393001:=n0_
                 have HO_393002:=n1_
                 have HO_393003:=n2_
                 have HO_405001:=n3_
                 have HO_405002:=n4_
                 have HO_405003:=n5_
                 have BK392:=n6_
                 have BK404:=n7_
                 have BK422:=n8_
                 have HB:=n9_
                 clear n0_ n1_ n2_ n3_ n4_ n5_ n6_ n7_ n8_ n9_
                 (try (rw [drewN_self w95];generalize hq_ : World.drewN w95 _ = w95;have n0_ : Aside0 (Kd.R Kd.string 9 w95 w.heap.size (fun k_ => some k_ ≠ (.slice Ao22 t385.length co22 : Value).ownBlock ∧ some k_ ≠ (.slice Ao23 t388.length co23 : Value).ownBlock ∧ some k_ ≠ (.slice Ao28 t394.length co28 : Value).ownBlock ∧ some k_ ≠ (.slice Ao29 t397.length co29 : Value).ownBlock ∧ some k_ ≠ (.slice Ao30 t400.length co30 : Value).ownBlock) (.slice Ao21 t382.length co21) t382):=⟨by rw [← hq_];exact (by (with_reducible repeat (first|apply qd12|apply qe12|apply qf12));exact HO_393001.out)⟩;have n1_ : Aside0 (Kd.R Kd.string 9 w95 w.heap.size (fun k_ => some k_ ≠ (.slice Ao21 t382.length co21 : Value).ownBlock ∧ some k_ ≠ (.slice Ao23 t388.length co23 : Value).ownBlock ∧ some k_ ≠ (.slice Ao28 t394.length co28 : Value).ownBlock ∧ some k_ ≠ (.slice Ao29 t397.length co29 : Value).ownBlock ∧ some k_ ≠ (.slice Ao30 t400.length co30 : Value).ownBlock) (.slice Ao22 t385.length co22) t385):=⟨by rw [← hq_];exact (by (with_reducible repeat (first|apply qd12|apply qe12|apply qf12));exact HO_393002.out)⟩;have n2_ : Aside0 (Kd.R Kd.string 9 w95 w.heap.size (fun k_ => some k_ ≠ (.slice Ao21 t382.length co21 : Value).ownBlock ∧ some k_ ≠ (.slice Ao22 t385.length co22 : Value).ownBlock ∧ some k_ ≠ (.slice Ao28 t394.length co28 : Value).ownBlock ∧ some k_ ≠ (.slice Ao29 t397.length co29 : Value).ownBlock ∧ some k_ ≠ (.slice Ao30 t400.length co30 : Value).ownBlock) (.slice Ao23 t388.length co23) t388):=⟨by rw [← hq_];exact (by (with_reducible repeat (first|apply qd12|apply qe12|apply qf12));exact HO_393003.out)⟩;have n3_ : Aside0 (Kd.R Kd.string 9 w95 w.heap.size (fun k_ => some k_ ≠ (.slice Ao21 t382.length co21 : Value).ownBlock ∧ some k_ ≠ (.slice Ao22 t385.length co22 : Value).ownBlock ∧ some k_ ≠ (.slice Ao23 t388.length co23 : Value).ownBlock ∧ some k_ ≠ (.slice Ao29 t397.length co29 : Value).ownBlock ∧ some k_ ≠ (.slice Ao30 t400.length co30 : Value).ownBlock) (.slice Ao28 t394.length co28) t394):=⟨by rw [← hq_];exact (by (with_reducible repeat (first|apply qd12|apply qe12|apply qf12));exact HO_405001.out)⟩;have n4_ : Aside0 (Kd.R Kd.string 9 w95 w.heap.size (fun k_ => some k_ ≠ (.slice Ao21 t382.length co21 : Value).ownBlock ∧ some k_ ≠ (.slice Ao22 t385.length co22 : Value).ownBlock ∧ some k_ ≠ (.slice Ao23 t388.length co23 : Value).ownBlock ∧ some k_ ≠ (.slice Ao28 t394.length co28 : Value).ownBlock ∧ some k_ ≠ (.slice Ao30 t400.length co30 : Value).ownBlock) (.slice Ao29 t397.length co29) t397):=⟨by rw [← hq_];exact (by (with_reducible repeat (first|apply qd12|apply qe12|apply qf12));exact HO_405002.out)⟩;have n5_ : Aside0 (Kd.R Kd.string 9 w95 w.heap.size (fun k_ => some k_ ≠ (.slice Ao21 t382.length co21 : Value).ownBlock ∧ some k_ ≠ (.slice Ao22 t385.length co22 : Value).ownBlock ∧ some k_ ≠ (.slice Ao23 t388.length co23 : Value).ownBlock ∧ some k_ ≠ (.slice Ao28 t394.length co28 : Value).ownBlock ∧ some k_ ≠ (.slice Ao29 t397.length co29 : Value).ownBlock) (.slice Ao30 t400.length co30) t400):=⟨by rw [← hq_];exact (by (with_reducible repeat (first|apply qd12|apply qe12|apply qf12));exact HO_405003.out)⟩;have n6_ : Aside0 (w95.heap[gb392]? = some (.cells #[.int .i64 t381,.slice Ao21 t382.length co21,.slice Ao22 t385.length co22,.slice Ao23 t388.length co23] 33 (0,0))):=⟨by rw [← hq_];exact (by (with_reducible repeat (first|apply qa12|apply qb12|apply qc12));exact BK392.out)⟩;have n7_ : Aside0 (w95.heap[gb404]? = some (.cells #[.int .i64 t393,.slice Ao28 t394.length co28,.slice Ao29 t397.length co29,.slice Ao30 t400.length co30] 33 (0,0))):=⟨by rw [← hq_];exact (by (with_reducible repeat (first|apply qa12|apply qb12|apply qc12));exact BK404.out)⟩;have n8_ : Aside0 (w95.heap[gb422]? = some (.cells #[.int .i64 t423,.slice Ao21 t382.length co21,.slice Ao22 t385.length co22,.slice Ao23 t388.length co23] 33 (0,0))):=⟨by rw [← hq_];exact (by (with_reducible repeat (first|apply qa12|apply qb12|apply qc12));exact BK422.out)⟩;have n9_ : Aside0 (Below w.heap.size w w95):=⟨by rw [← hq_];exact (by repeat (first|(with_reducible first|exact HB.out|apply qg12|apply qh12|apply qi12|refine qj12 ?_ GE392.out|refine qj12 ?_ GE404.out|refine qj12 ?_ GE422.out)|exact HB.out))⟩;clear HO_393001 HO_393002 HO_393003 HO_405001 HO_405002 HO_405003 BK392 BK404 BK422 HB hq_;have HO_393001:=n0_;have HO_393002:=n1_;have HO_393003:=n2_;have HO_405001:=n3_;have HO_405002:=n4_;have HO_405003:=n5_;have BK392:=n6_;have BK404:=n7_;have BK422:=n8_;have HB:=n9_;clear n0_ n1_ n2_ n3_ n4_ n5_ n6_ n7_ n8_ n9_))
                 have n0_:=qk12 (qf12 HO_393001.out)
                 have n1_:=qk12 (qf12 HO_393002.out)
                 have n2_:=qk12 (qf12 HO_393003.out)
                 have n3_:=qk12 (qf12 HO_405001.out)
                 have n4_:=qk12 (qf12 HO_405002.out)
                 have n5_:=qk12 (qf12 HO_405003.out)
                 have n6_:=qk12 (qb12 BK392.out)
                 have n7_:=qk12 (qb12 BK404.out)
                 have n8_:=qk12 (qb12 BK422.out)
                 have n9_:=qk12 (qi12 HB.out)
                 clear HO_393001
                 clear HO_393002
                 clear HO_393003
                 clear HO_405001
                 clear HO_405002
                 clear HO_405003
                 clear BK392
                 clear BK404
                 clear BK422
                 clear HB
                 have HO_393001:=n0_
                 have HO_393002:=n1_
                 have HO_393003:=n2_
                 have HO_405001:=n3_
                 have HO_405002:=n4_
                 have HO_405003:=n5_
                 have BK392:=n6_
                 have BK404:=n7_
                 have BK422:=n8_
                 have HB:=n9_
                 clear n0_ n1_ n2_ n3_ n4_ n5_ n6_ n7_ n8_ n9_
                 refine start_ (n:=10) (S:=fun w' => w'.cell? ⟨gb422,0,none⟩ = some (.int .i64 t423) ∧ w'.cell? ⟨gb422,1,none⟩ = some (.slice Ao21 t382.length co21) ∧ w'.cell? ⟨gb422,2,none⟩ = some (.slice Ao22 t385.length co22) ∧ w'.cell? ⟨gb422,3,none⟩ = some (.slice Ao23 t388.length co23)) (ds:=[]) #[false,false,false,false,false,false,false,false,false,false] (by kernel_rfl) rfl rfl ⟨(blk_cell BK422.out 0).trans rfl,(blk_cell BK422.out 1).trans rfl,(blk_cell BK422.out 2).trans rfl,(blk_cell BK422.out 3).trans rfl⟩ (fun hHeld => ?_);refine with_tabW laws_FnLamport.tab24 laws_FnLamport.bits24 (fun HT_ HW_ => ?_)
                 generalize w95.drew = w96 at HO_393001 HO_393002 HO_393003 HO_405001 HO_405002 HO_405003 BK392 BK404 BK422 HB hHeld ⊢
                 refine pure_ (i:=0) (N:=some 166) (v:=?_) (a':=?_) #[true,false,false,false,false,false,false,false,false,false] rfl rfl (any_of HT_.out (by kernel_rfl)) (fun _ _ _ h => h) (Or.inl ⟨by rfl,?_⟩) ?_ ?_
                 rotate_left
                 ·
                  intro w'
                  go_simp
                  with_reducible rfl
                 rotate_left
                 ·
                  simp only [Act.put,List.setIfInBounds_toArray,List.set_cons_zero,List.set_cons_succ,i64_w,i32_w]
                  rfl
                 refine pure_ (i:=1) (N:=some 167) (v:=?_) (a':=?_) #[true,true,false,false,false,false,false,false,false,false] rfl rfl (any_of HT_.out (by kernel_rfl)) (fun _ _ _ h => h) (Or.inl ⟨by rfl,?_⟩) ?_ ?_
                 rotate_left
                 ·
                  intro w'
                  go_simp
                  with_reducible rfl
                 rotate_left
                 ·
                  simp only [Act.put,List.setIfInBounds_toArray,List.set_cons_zero,List.set_cons_succ,i64_w,i32_w]
                  rfl
                 refine pure_ (i:=4) (N:=some 170) (v:=?_) (a':=?_) #[true,true,false,false,true,false,false,false,false,false] rfl rfl (any_of HT_.out (by kernel_rfl)) (fun _ _ _ h => h) (Or.inl ⟨by rfl,?_⟩) ?_ ?_
                 rotate_left
                 ·
                  intro w'
                  go_simp
                  with_reducible rfl
                 rotate_left
                 ·
                  simp only [Act.put,List.setIfInBounds_toArray,List.set_cons_zero,List.set_cons_succ,i64_w,i32_w]
                  rfl
                 refine pure_ (i:=5) (N:=some 171) (v:=?_) (a':=?_) #[true,true,false,false,true,true,false,false,false,false] rfl rfl (any_of HT_.out (by kernel_rfl)) (fun _ _ _ h => h) (Or.inl ⟨by rfl,?_⟩) ?_ ?_
                 rotate_left
                 ·
                  intro w'
                  go_simp
                  with_reducible rfl
                 rotate_left
                 ·
                  simp only [Act.put,List.setIfInBounds_toArray,List.set_cons_zero,List.set_cons_succ,i64_w,i32_w]
                  rfl
                 refine take_ (i:=2) (N:=some 168) (v:=?_) (a':=?_) #[true,true,true,false,true,true,false,false,false,false] rfl rfl (take_ofW HT_.out HW_.out (by kernel_rfl)) (fun _ _ _ h => h) (Or.inl ⟨by rfl,?_⟩) hHeld ?_ ?_
                 rotate_left
                 ·
                  rintro w' ⟨s0,s1,s2,s3⟩
                  go_simp
                  with_reducible rfl
                 rotate_left
                 ·
                  simp only [Act.put,List.setIfInBounds_toArray,List.set_cons_zero,List.set_cons_succ,i64_w,i32_w]
                  rfl
                 refine take_ (i:=6) (N:=some 172) (v:=?_) (a':=?_) #[true,true,true,false,true,true,true,false,false,false] rfl rfl (take_ofW HT_.out HW_.out (by kernel_rfl)) (fun _ _ _ h => h) (Or.inl ⟨by rfl,?_⟩) hHeld ?_ ?_
                 rotate_left
                 ·
                  rintro w' ⟨s0,s1,s2,s3⟩
                  go_simp
                  with_reducible rfl
                 rotate_left
                 ·
                  simp only [Act.put,List.setIfInBounds_toArray,List.set_cons_zero,List.set_cons_succ,i64_w,i32_w]
                  rfl
                 refine one_ (i:=3) (N:=some 169) #[true,true,true,true,true,true,true,false,false,false] rfl rfl (one_of HT_.out (by kernel_rfl)) (by decide) (fun K hK => ?_)
                 refine goes_ Tryd.func29 (by kernel_rfl) rfl #[.string t377,.string t375,.agg #[.int .i64 t423,.slice Ao21 t382.length co21,.slice Ao22 t385.length co22,.slice Ao23 t388.length co23]] (by rfl) rfl rfl (by (try simp only [List.map_toArray,List.map_cons,List.map_nil]);first|done|rfl|(simp only [List.length_drop,List.length_take];rfl)) ?_
                 with_reducible refine (impl_CheckSignature.calls kj59 t377 t375 t423 _ _ t382 _ _ t385 _ _ t388 t424 _ ?side1 ?side2 ?side3 ?side4 ?side5 ?side6 ?side7 A84.out).mono ?_
                 (case side1 => repeat (first|exact (Kd.R_reads' HO_393001.out).2.2|(with_reducible refine Kd.C_alloc ?_ _)|(with_reducible refine Kd.C_drewN ?_ _)|(with_reducible refine Kd.C_drew ?_)))
                 (case side2 => exact (Kd.R_reads' HO_393001.out).2.1)
                 (case side3 => repeat (first|exact (Kd.R_reads' HO_393002.out).2.2|(with_reducible refine Kd.C_alloc ?_ _)|(with_reducible refine Kd.C_drewN ?_ _)|(with_reducible refine Kd.C_drew ?_)))
                 (case side4 => exact (Kd.R_reads' HO_393002.out).2.1)
                 (case side5 => repeat (first|exact (Kd.R_reads' HO_393003.out).2.2|(with_reducible refine Kd.C_alloc ?_ _)|(with_reducible refine Kd.C_drewN ?_ _)|(with_reducible refine Kd.C_drew ?_)))
                 (case side6 => exact (Kd.R_reads' HO_393003.out).2.1)
                 (case side7 => exact Go.Proofs.YtmkaknegjahjaaaDoor.Sha.glob_below hG_ (by repeat (first|(with_reducible first|exact HB.out|apply qg12|apply qh12|apply qi12|refine qj12 ?_ GE392.out|refine qj12 ?_ GE404.out|refine qj12 ?_ GE422.out)|exact HB.out)))
                 rintro e w97 ⟨rfl,hb⟩
                 refine ⟨_,rfl,?_⟩
                 have n0_:=qk12 (qm12 (by (with_reducible repeat (first|apply qd12|apply qe12|apply qf12));exact HO_393001.out) hb)
                 have n1_:=qk12 (qm12 (by (with_reducible repeat (first|apply qd12|apply qe12|apply qf12));exact HO_393002.out) hb)
                 have n2_:=qk12 (qm12 (by (with_reducible repeat (first|apply qd12|apply qe12|apply qf12));exact HO_393003.out) hb)
                 have n3_:=qk12 (qm12 (by (with_reducible repeat (first|apply qd12|apply qe12|apply qf12));exact HO_405001.out) hb)
                 have n4_:=qk12 (qm12 (by (with_reducible repeat (first|apply qd12|apply qe12|apply qf12));exact HO_405002.out) hb)
                 have n5_:=qk12 (qm12 (by (with_reducible repeat (first|apply qd12|apply qe12|apply qf12));exact HO_405003.out) hb)
                 have n6_:=qk12 (ql12 (g:=gb392) (o:=.cells #[.int .i64 t381,.slice Ao21 t382.length co21,.slice Ao22 t385.length co22,.slice Ao23 t388.length co23] 33 (0,0)) (by (with_reducible repeat (first|apply qa12|apply qb12|apply qc12));exact BK392.out) hb)
                 have n7_:=qk12 (ql12 (g:=gb404) (o:=.cells #[.int .i64 t393,.slice Ao28 t394.length co28,.slice Ao29 t397.length co29,.slice Ao30 t400.length co30] 33 (0,0)) (by (with_reducible repeat (first|apply qa12|apply qb12|apply qc12));exact BK404.out) hb)
                 have n8_:=qk12 (ql12 (g:=gb422) (o:=.cells #[.int .i64 t423,.slice Ao21 t382.length co21,.slice Ao22 t385.length co22,.slice Ao23 t388.length co23] 33 (0,0)) (by (with_reducible repeat (first|apply qa12|apply qb12|apply qc12));exact BK422.out) hb)
                 have n9_:=qk12 (below_step (by repeat (first|(with_reducible first|exact HB.out|apply qg12|apply qh12|apply qi12|refine qj12 ?_ GE392.out|refine qj12 ?_ GE404.out|refine qj12 ?_ GE422.out)|exact HB.out)) hb)
                 clear HO_393001
                 clear HO_393002
                 clear HO_393003
                 clear HO_405001
                 clear HO_405002
                 clear HO_405003
                 clear BK392
                 clear BK404
                 clear BK422
                 clear HB
                 have HO_393001:=n0_
                 have HO_393002:=n1_
                 have HO_393003:=n2_
                 have HO_405001:=n3_
                 have HO_405002:=n4_
                 have HO_405003:=n5_
                 have BK392:=n6_
                 have BK404:=n7_
                 have BK422:=n8_
                 have HB:=n9_
                 clear n0_ n1_ n2_ n3_ n4_ n5_ n6_ n7_ n8_ n9_
                 (try clear hb)
                 (try clear hb2)
                 (try clear hk)
                 (try clear hi)
                 refine hK.out _ _ ⟨(blk_cell BK422.out 0).trans rfl,(blk_cell BK422.out 1).trans rfl,(blk_cell BK422.out 2).trans rfl,(blk_cell BK422.out 3).trans rfl⟩ (fun hHeld => ?_)
                 clear hK K
                 refine norm_ (a':=?_) ?_ ?_
                 rotate_left
                 ·
                  show Act.put _ (some 169) _ = _
                  simp only [Act.put,List.setIfInBounds_toArray,List.set_cons_zero,List.set_cons_succ,i64_w,i32_w]
                  rfl
                 refine one_ (i:=7) (N:=some 173) #[true,true,true,true,true,true,true,true,false,false] rfl rfl (one_of HT_.out (by kernel_rfl)) (by decide) (fun K hK => ?_)
                 refine goes_ Tryd.func32 (by kernel_rfl) rfl #[.string t377,.string t375,.agg #[.int .i64 t423,.slice Ao21 t382.length co21,.slice Ao22 t385.length co22,.slice Ao23 t388.length co23]] (by rfl) rfl rfl (by (try simp only [List.map_toArray,List.map_cons,List.map_nil]);first|done|rfl|(simp only [List.length_drop,List.length_take];rfl)) ?_
                 with_reducible refine (spec_CheckSignature.calls kj59 t377 t375 t423 _ _ t382 _ _ t385 _ _ t388 t425 _ ?side1 ?side2 ?side3 ?side4 ?side5 ?side6 A85.out).mono ?_
                 (case side1 => repeat (first|exact (Kd.R_reads' HO_393001.out).2.2|(with_reducible refine Kd.C_alloc ?_ _)|(with_reducible refine Kd.C_drewN ?_ _)|(with_reducible refine Kd.C_drew ?_)))
                 (case side2 => exact (Kd.R_reads' HO_393001.out).2.1)
                 (case side3 => repeat (first|exact (Kd.R_reads' HO_393002.out).2.2|(with_reducible refine Kd.C_alloc ?_ _)|(with_reducible refine Kd.C_drewN ?_ _)|(with_reducible refine Kd.C_drew ?_)))
                 (case side4 => exact (Kd.R_reads' HO_393002.out).2.1)
                 (case side5 => repeat (first|exact (Kd.R_reads' HO_393003.out).2.2|(with_reducible refine Kd.C_alloc ?_ _)|(with_reducible refine Kd.C_drewN ?_ _)|(with_reducible refine Kd.C_drew ?_)))
                 (case side6 => exact (Kd.R_reads' HO_393003.out).2.1)
                 rintro e w98 ⟨rfl,hb⟩
                 refine ⟨_,rfl,?_⟩
                 have n0_:=qk12 (qm12 (by (with_reducible repeat (first|apply qd12|apply qe12|apply qf12));exact HO_393001.out) hb)
                 have n1_:=qk12 (qm12 (by (with_reducible repeat (first|apply qd12|apply qe12|apply qf12));exact HO_393002.out) hb)
                 have n2_:=qk12 (qm12 (by (with_reducible repeat (first|apply qd12|apply qe12|apply qf12));exact HO_393003.out) hb)
                 have n3_:=qk12 (qm12 (by (with_reducible repeat (first|apply qd12|apply qe12|apply qf12));exact HO_405001.out) hb)
                 have n4_:=qk12 (qm12 (by (with_reducible repeat (first|apply qd12|apply qe12|apply qf12));exact HO_405002.out) hb)
                 have n5_:=qk12 (qm12 (by (with_reducible repeat (first|apply qd12|apply qe12|apply qf12));exact HO_405003.out) hb)
                 have n6_:=qk12 (ql12 (g:=gb392) (o:=.cells #[.int .i64 t381,.slice Ao21 t382.length co21,.slice Ao22 t385.length co22,.slice Ao23 t388.length co23] 33 (0,0)) (by (with_reducible repeat (first|apply qa12|apply qb12|apply qc12));exact BK392.out) hb)
                 have n7_:=qk12 (ql12 (g:=gb404) (o:=.cells #[.int .i64 t393,.slice Ao28 t394.length co28,.slice Ao29 t397.length co29,.slice Ao30 t400.length co30] 33 (0,0)) (by (with_reducible repeat (first|apply qa12|apply qb12|apply qc12));exact BK404.out) hb)
                 have n8_:=qk12 (ql12 (g:=gb422) (o:=.cells #[.int .i64 t423,.slice Ao21 t382.length co21,.slice Ao22 t385.length co22,.slice Ao23 t388.length co23] 33 (0,0)) (by (with_reducible repeat (first|apply qa12|apply qb12|apply qc12));exact BK422.out) hb)
                 have n9_:=qk12 (below_step (by repeat (first|(with_reducible first|exact HB.out|apply qg12|apply qh12|apply qi12|refine qj12 ?_ GE392.out|refine qj12 ?_ GE404.out|refine qj12 ?_ GE422.out)|exact HB.out)) hb)
                 clear HO_393001
                 clear HO_393002
                 clear HO_393003
                 clear HO_405001
                 clear HO_405002
                 clear HO_405003
                 clear BK392
                 clear BK404
                 clear BK422
                 clear HB
                 have HO_393001:=n0_
                 have HO_393002:=n1_
                 have HO_393003:=n2_
                 have HO_405001:=n3_
                 have HO_405002:=n4_
                 have HO_405003:=n5_
                 have BK392:=n6_
                 have BK404:=n7_
                 have BK422:=n8_
                 have HB:=n9_
                 clear n0_ n1_ n2_ n3_ n4_ n5_ n6_ n7_ n8_ n9_
                 (try clear hb)
                 (try clear hb2)
                 (try clear hk)
                 (try clear hi)
                 refine hK.out _ _ ⟨(blk_cell BK422.out 0).trans rfl,(blk_cell BK422.out 1).trans rfl,(blk_cell BK422.out 2).trans rfl,(blk_cell BK422.out 3).trans rfl⟩ (fun hHeld => ?_)
                 clear hK K
                 refine norm_ (a':=?_) ?_ ?_
                 rotate_left
                 ·
                  show Act.put _ (some 173) _ = _
                  simp only [Act.put,List.setIfInBounds_toArray,List.set_cons_zero,List.set_cons_succ,i64_w,i32_w]
                  rfl
                 refine pure_ (i:=8) (N:=some 174) (v:=?_) (a':=?_) #[true,true,true,true,true,true,true,true,true,false] rfl rfl (any_of HT_.out (by kernel_rfl)) (fun _ _ _ h => h) (Or.inl ⟨by rfl,?_⟩) ?_ ?_
                 rotate_left
                 ·
                  intro w'
                  go_simp
                  with_reducible rfl
                 rotate_left
                 ·
                  simp only [Act.put,List.setIfInBounds_toArray,List.set_cons_zero,List.set_cons_succ,i64_w,i32_w]
                  rfl
                 refine pure_ (i:=9) (N:=some 4) (v:=?_) (a':=?_) #[true,true,true,true,true,true,true,true,true,true] rfl rfl (any_of HT_.out (by kernel_rfl)) (fun _ _ _ h => h) (Or.inl ⟨by rfl,?_⟩) ?_ ?_
                 rotate_left
                 ·
                  intro w'
                  go_simp
                  with_reducible rfl
                 rotate_left
                 ·
                  simp only [Act.put,List.setIfInBounds_toArray,List.set_cons_zero,List.set_cons_succ,i64_w,i32_w]
                  rfl
                 refine done_ (done_of HT_.out (by kernel_rfl)) ?_
                 try go_wp2
                 go_ret
                 exact ⟨by first|rfl|(simp [errW_none,errW_some] <;> rfl)|(simp [*,errW_none,errW_some] <;> rfl),by repeat (first|(with_reducible first|exact HB.out|apply qg12|apply qh12|apply qi12|refine qj12 ?_ GE392.out|refine qj12 ?_ GE404.out|refine qj12 ?_ GE422.out)|exact HB.out)⟩
                ·
                 rw [if_neg c82] at H
                 have c82b0 : (t420 == t421) = false:=beq_eq_false_iff_ne.mpr c82
                 have c82b1 : (t420 != t421) = true:=bne_iff_ne.mpr c82
                 obtain rfl:=Option.some.inj H
                 exact absurd hr_ (by decide)
               ·
                rw [if_neg c79] at H
                exact absurd H (by simp)
           ·
            rw [if_neg c55] at H
            exact absurd H (by simp)
          ·
           rw [if_neg c54] at H
           exact absurd H (by simp)

end Go.Proofs.YtmkaknegjahjaaaDoor.PFnLamport
