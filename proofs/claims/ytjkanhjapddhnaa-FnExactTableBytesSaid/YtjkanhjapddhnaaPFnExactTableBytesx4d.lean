-- laid by this session's program myprint.py over the kit's printer
-- aliased
-- squeezed
import Derived.Test.YtjkanhjapddhnaaPFnExactTableBytesx0
import Derived.Test.YtjkanhjapddhnaaPFnExactTableBytesx3
namespace Go.Proofs.Ytjkanhjapddhnaa.PFnExactTableBytes
open Go.RowKit Go.Proofs.YtjkanhjapddhnaaV.PrintWords Go.Proofs.YtjkanhjapddhnaaV.PrintLast Go.Proofs.YtjkanhjapddhnaaV.PrintMore
attribute [local go_sem] max2_int min2_int max_two min_two max_three min_three max_four min_four u8_wm u32_wm   -- for this text's walks alone
set_option linter.unusedVariables false
set_option linter.unusedSimpArgs false

/-! ### spec_l05Bytes: function 51 -/
theorem qa : type_of% @blk_drewN:=@blk_drewN
theorem qb : type_of% @blk_drew:=@blk_drew
theorem qc : type_of% @blk_alloc:=@blk_alloc
theorem qd : type_of% @Kd.R_alloc:=@Kd.R_alloc
theorem qe : type_of% @Kd.R_drewN:=@Kd.R_drewN
theorem qf : type_of% @Kd.R_drew:=@Kd.R_drew
theorem qg : type_of% @below_alloc:=@below_alloc
theorem qh : type_of% @pw_below_drewN:=@pw_below_drewN
theorem qi : type_of% @below_drew1:=@below_drew1
theorem qj : type_of% @below_set:=@below_set
theorem qk : type_of% @Aside0.mk:=@Aside0.mk
theorem ql : type_of% @blk_below:=@blk_below
theorem qm : type_of% @below_size:=@below_size
theorem qn : type_of% @Kd.R_mono:=@Kd.R_mono
mutual
def spec_l05Bytes.l0 : Nat → List Int → Int → Int → Int → List (S70) → List (S77) → Option (List Int)
 | 0,_,_,_,_,_,_ => none
 | k + 1,x3,x4,x184000,x184001,x184002,x184003 => if x4 < (x184002.length : Int) then (if 0 ≤ x4 then ((some (([((((rd_T70 x184002 x4).f0).size : Int)) % 256] : List Int) : List Int)).bind fun y201 => (if x3.length + y201.length < 140737488355328 then ((some (x3 ++ y201 : List Int)).bind fun y204 => (if y204.length + ((rd_T70 x184002 x4).f0).size < 140737488355328 then ((some (y204 ++ bytesOf ((rd_T70 x184002 x4).f0) : List Int)).bind fun y207 => ((spec_l02Number.f k ((rd_T70 x184002 x4).f1) 3).bind fun t210 => (if y207.length + t210.length < 140737488355328 then ((some (y207 ++ t210 : List Int)).bind fun y213 => ((spec_l02Number.f k (wrap64 (((rd_T70 x184002 x4).f2) + 1)) 2).bind fun t216 => (if y213.length + t216.length < 140737488355328 then ((some (y213 ++ t216 : List Int)).bind fun y219 => ((spec_l02Number.f k ((rd_T70 x184002 x4).f3) 4).bind fun t222 => (if y219.length + t222.length < 140737488355328 then ((some (y219 ++ t222 : List Int)).bind fun y225 => ((some (([((((rd_T70 x184002 x4).f4).length : Int)) % 256] : List Int) : List Int)).bind fun y228 => (if y225.length + y228.length < 140737488355328 then (spec_l05Bytes.l1 k (y225 ++ y228) x4 0 x184000 x184001 x184002 x184003 ((rd_T70 x184002 x4).f0) ((rd_T70 x184002 x4).f1) ((rd_T70 x184002 x4).f2) ((rd_T70 x184002 x4).f3) ((rd_T70 x184002 x4).f4)) else (none)))) else (none)))) else (none)))) else (none)))) else (none))) else (none))) else (none)) else ((some (([((x184003.length : Int)) % 256] : List Int) : List Int)).bind fun y248 => (if x3.length + y248.length < 140737488355328 then (spec_l05Bytes.l2 k (x3 ++ y248) 0 x184000 x184001 x184002 x184003) else (none)))
def spec_l05Bytes.l1 : Nat → List Int → Int → Int → Int → Int → List (S70) → List (S77) → ByteArray → Int → Int → Int → List (S73) → Option (List Int)
 | 0,_,_,_,_,_,_,_,_,_,_,_,_ => none
 | k + 1,x3,x4,x6,x184000,x184001,x184002,x184003,x201000,x201001,x201002,x201003,x201004 => if x6 < (x201004.length : Int) then (if 0 ≤ x6 then ((some (([((rd_T73 x201004 x6).f0) % 256] : List Int) : List Int)).bind fun y235 => (if x3.length + y235.length < 140737488355328 then ((some (x3 ++ y235 : List Int)).bind fun y238 => ((spec_l02Number.f k ((rd_T73 x201004 x6).f1) 2).bind fun t242 => (if y238.length + t242.length < 140737488355328 then (spec_l05Bytes.l1 k (y238 ++ t242) x4 (wrap64 (x6 + 1)) x184000 x184001 x184002 x184003 x201000 x201001 x201002 x201003 x201004) else (none)))) else (none))) else (none)) else (spec_l05Bytes.l0 k x3 (wrap64 (x4 + 1)) x184000 x184001 x184002 x184003)
def spec_l05Bytes.l2 : Nat → List Int → Int → Int → Int → List (S70) → List (S77) → Option (List Int)
 | 0,_,_,_,_,_,_ => none
 | k + 1,x3,x7,x184000,x184001,x184002,x184003 => if x7 < (x184003.length : Int) then (if 0 ≤ x7 then ((some (([((rd_T77 x184003 x7).f0) % 256] : List Int) : List Int)).bind fun y256 => (if x3.length + y256.length < 140737488355328 then ((some (x3 ++ y256 : List Int)).bind fun y259 => ((spec_l02Number.f k ((rd_T77 x184003 x7).f1) 2).bind fun t262 => (if y259.length + t262.length < 140737488355328 then ((some (y259 ++ t262 : List Int)).bind fun y265 => ((some (([((rd_T77 x184003 x7).f2.f0) % 256] : List Int) : List Int)).bind fun y268 => (if y265.length + y268.length < 140737488355328 then ((some (y265 ++ y268 : List Int)).bind fun y271 => ((spec_l02Number.f k ((rd_T77 x184003 x7).f2.f1) 3).bind fun t274 => (if y271.length + t274.length < 140737488355328 then ((some (y271 ++ t274 : List Int)).bind fun y277 => ((spec_l02Number.f k (wrap64 (((rd_T77 x184003 x7).f2.f2) + 1)) 2).bind fun t280 => (if y277.length + t280.length < 140737488355328 then ((some (y277 ++ t280 : List Int)).bind fun y283 => ((spec_l02Number.f k ((rd_T77 x184003 x7).f2.f3) 4).bind fun t286 => (if y283.length + t286.length < 140737488355328 then (spec_l05Bytes.l2 k (y283 ++ t286) (wrap64 (x7 + 1)) x184000 x184001 x184002 x184003) else (none)))) else (none)))) else (none)))) else (none)))) else (none)))) else (none))) else (none)) else (some x3)
end
def spec_l05Bytes.f (k : Nat) (a0_0 : Int) (a0_1 : Int) (l0_2 : List (S70)) (l0_3 : List (S77)) : Option (List Int):=(spec_l02Number.f k a0_0 4).bind fun t184 => ((spec_l02Number.f k a0_1 3).bind fun t187 => (if t184.length + t187.length < 140737488355328 then ((some (t184 ++ t187 : List Int)).bind fun y190 => ((some (([((l0_2.length : Int)) % 256] : List Int) : List Int)).bind fun y193 => (if y190.length + y193.length < 140737488355328 then (spec_l05Bytes.l0 k (y190 ++ y193) 0 a0_0 a0_1 l0_2 l0_3) else (none)))) else (none)))
def spec_l05Bytes.T1 : Bool × List (List Nat × List Nat):=(true,[([],[]),([0],[0]),([1],[1]),([],[]),([3],[3]),([4,2],[4]),([2,5,5],[2,5]),([6,6,0,1,2,3,4,5,6],[6])])
def spec_l05Bytes.B1 : List Nat:=[0,1,3,0,8,31,63,127]
theorem spec_l05Bytes.tab1 : rtab .any (opsOf Try.f51 1) = spec_l05Bytes.T1:=by kernel_rfl
theorem spec_l05Bytes.bits1 : waitsOk spec_l05Bytes.T1.2 spec_l05Bytes.B1 = true:=by kernel_rfl
def spec_l05Bytes.T7 : Bool × List (List Nat × List Nat):=(true,[([],[]),([],[]),([1],[1]),([2],[2]),([3],[3]),([4],[4]),([0,5],[0,5]),([],[]),([7],[7]),([6,8,6],[6,8]),([9,9,0,1,2,3,4,5,6,7,8,9],[0,9])])
def spec_l05Bytes.B7 : List Nat:=[0,0,2,6,14,30,63,0,128,511,1023]
theorem spec_l05Bytes.tab7 : rtab .any (opsOf Try.f51 7) = spec_l05Bytes.T7:=by kernel_rfl
theorem spec_l05Bytes.bits7 : waitsOk spec_l05Bytes.T7.2 spec_l05Bytes.B7 = true:=by kernel_rfl
def spec_l05Bytes.T8 : Bool × List (List Nat × List Nat):=(true,[([],[]),([],[]),([1],[1]),([2],[2]),([0,3,3],[0,3]),([],[]),([5],[5]),([6],[6]),([7,4],[7]),([4,8,8],[4,8]),([9,9,0,1,2,3,4,5,6,7,8,9],[0,9])])
def spec_l05Bytes.B8 : List Nat:=[0,0,2,6,15,0,32,96,255,511,1023]
theorem spec_l05Bytes.tab8 : rtab .any (opsOf Try.f51 8) = spec_l05Bytes.T8:=by kernel_rfl
theorem spec_l05Bytes.bits8 : waitsOk spec_l05Bytes.T8.2 spec_l05Bytes.B8 = true:=by kernel_rfl
def spec_l05Bytes.T9 : Bool × List (List Nat × List Nat):=(true,[([],[]),([],[]),([1],[1]),([2],[2]),([0,3,3],[0,3]),([],[]),([5],[5]),([6],[6]),([7],[7]),([8],[8]),([4,9,4],[4,9]),([10,10,0,1,2,3,4,5,6,7,8,9,10],[0,10])])
def spec_l05Bytes.B9 : List Nat:=[0,0,2,6,15,0,32,96,224,480,1023,2047]
theorem spec_l05Bytes.tab9 : rtab .any (opsOf Try.f51 9) = spec_l05Bytes.T9:=by kernel_rfl
theorem spec_l05Bytes.bits9 : waitsOk spec_l05Bytes.T9.2 spec_l05Bytes.B9 = true:=by kernel_rfl
def spec_l05Bytes.T13 : Bool × List (List Nat × List Nat):=(true,[([],[]),([],[]),([1],[1]),([],[]),([2,3],[2,3]),([4],[4]),([5],[5]),([6],[6]),([7],[7]),([0,8],[0,8]),([],[]),([10],[10]),([],[]),([11,12],[11,12]),([13],[13]),([14],[14]),([15,9],[15]),([9,16,16],[9,16]),([17,17,0,1,2,3,4,5,6,7,8,9,10,11,12,13,14,15,16,17],[0,17])])
def spec_l05Bytes.B13 : List Nat:=[0,0,2,0,14,30,62,126,254,511,0,1024,0,7168,15360,31744,65535,131071,262143]
theorem spec_l05Bytes.tab13 : rtab .any (opsOf Try.f51 13) = spec_l05Bytes.T13:=by kernel_rfl
theorem spec_l05Bytes.bits13 : waitsOk spec_l05Bytes.T13.2 spec_l05Bytes.B13 = true:=by kernel_rfl
def spec_l05Bytes.T19 : Bool × List (List Nat × List Nat):=(true,[([],[]),([],[]),([1],[1]),([2],[2]),([3],[3]),([0,4],[0,4]),([],[]),([6],[6]),([7,5],[7]),([5,8,8],[5,8]),([9,9,0,1,2,3,4,5,6,7,8,9],[0,9])])
def spec_l05Bytes.B19 : List Nat:=[0,0,2,6,14,31,0,64,255,511,1023]
theorem spec_l05Bytes.tab19 : rtab .any (opsOf Try.f51 19) = spec_l05Bytes.T19:=by kernel_rfl
theorem spec_l05Bytes.bits19 : waitsOk spec_l05Bytes.T19.2 spec_l05Bytes.B19 = true:=by kernel_rfl
def spec_l05Bytes.T20 : Bool × List (List Nat × List Nat):=(true,[([],[]),([],[]),([1],[1]),([2],[2]),([3],[3]),([4],[4]),([0,5],[0,5]),([],[]),([7],[7]),([8],[8]),([9,6],[9]),([6,10,10],[6,10]),([11,11,0,1,2,3,4,5,6,7,8,9,10,11],[0,11])])
def spec_l05Bytes.B20 : List Nat:=[0,0,2,6,14,30,63,0,128,384,1023,2047,4095]
theorem spec_l05Bytes.tab20 : rtab .any (opsOf Try.f51 20) = spec_l05Bytes.T20:=by kernel_rfl
theorem spec_l05Bytes.bits20 : waitsOk spec_l05Bytes.T20.2 spec_l05Bytes.B20 = true:=by kernel_rfl
def spec_l05Bytes.T21 : Bool × List (List Nat × List Nat):=(true,[([],[]),([],[]),([1],[1]),([2],[2]),([3],[3]),([4],[4]),([0,5,5],[0,5]),([],[]),([7],[7]),([8],[8]),([9,6],[9]),([6,10,10],[6,10]),([11,11,0,1,2,3,4,5,6,7,8,9,10,11],[0,11])])
def spec_l05Bytes.B21 : List Nat:=[0,0,2,6,14,30,63,0,128,384,1023,2047,4095]
theorem spec_l05Bytes.tab21 : rtab .any (opsOf Try.f51 21) = spec_l05Bytes.T21:=by kernel_rfl
theorem spec_l05Bytes.bits21 : waitsOk spec_l05Bytes.T21.2 spec_l05Bytes.B21 = true:=by kernel_rfl
end Go.Proofs.Ytjkanhjapddhnaa.PFnExactTableBytes
