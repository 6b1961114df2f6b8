-- laid by this session's program myprint.py over the kit's printer
-- squeezed
-- aliased
import Derived.Test.YtjkanhjapddhnaaPFnExactTableBytesx0
namespace Go.Proofs.Ytjkanhjapddhnaa.PFnExactTableBytes
open Go.RowKit Go.Proofs.YtjkanhjapddhnaaV.PrintWords Go.Proofs.YtjkanhjapddhnaaV.PrintLast Go.Proofs.YtjkanhjapddhnaaV.PrintMore
attribute [local go_sem] max2_int min2_int max_two min_two max_three min_three max_four min_four u8_wm u32_wm   -- for this text's walks alone
set_option linter.unusedVariables false
set_option linter.unusedSimpArgs false

/-! ### laws_eqTable: function 12, given -/
section
open Go.Proofs.Ytjkanhjapddhnaa.Quiet2 Go.Lib
theorem qa2 : type_of% @Aside0.mk:=@Aside0.mk
set_option maxHeartbeats 20000000 in
set_option maxRecDepth 100000 in
theorem eqW_calls (a b : Int) (w : World) : Calls Try.prog 127 #[.agg #[.int .i64 a,.int .i64 b],.agg #[.int .i64 a,.int .i64 b]] w fun e w' => e = .returned (.bool true) ∧ Below w.heap.size w w':=by
 have HB:=qa2 (((Below.refl _ w).alloc (Nat.le_refl _) (.cells #[.int .i64 a,.int .i64 b] 73 (0,0))).alloc (by simp) (.cells #[.int .i64 a,.int .i64 b] 73 (0,0)))
 go_enter Try.func127,Try.ntmps127
 go_wp2_with fail
 go_ret
 exact ⟨rfl,HB.out⟩
set_option maxHeartbeats 20000000 in
set_option maxRecDepth 100000 in
theorem eqA_calls (a b c d : Int) (w : World) : Calls Try.prog 68 #[.agg #[.int .i64 a,.int .i64 b,.int .i64 c,.int .i64 d],.agg #[.int .i64 a,.int .i64 b,.int .i64 c,.int .i64 d]] w fun e w' => e = .returned (.bool true) ∧ Below w.heap.size w w':=by
 have HB:=qa2 (((Below.refl _ w).alloc (Nat.le_refl _) (.cells #[.int .i64 a,.int .i64 b,.int .i64 c,.int .i64 d] 75 (0,0))).alloc (by simp) (.cells #[.int .i64 a,.int .i64 b,.int .i64 c,.int .i64 d] 75 (0,0)))
 go_enter Try.func68,Try.ntmps68
 go_wp2_with fail
 go_ret
 exact ⟨rfl,HB.out⟩
set_option maxHeartbeats 20000000 in
set_option maxRecDepth 100000 in
theorem eqN_calls (s t a b c d : Int) (w : World) : Calls Try.prog 78 #[.agg #[.int .i64 s,.int .i64 t,.int .i64 a,.int .i64 b,.int .i64 c,.int .i64 d],.agg #[.int .i64 s,.int .i64 t,.int .i64 a,.int .i64 b,.int .i64 c,.int .i64 d]] w fun e w' => e = .returned (.bool true) ∧ Below w.heap.size w w':=by
 have HB:=qa2 (((Below.refl _ w).alloc (Nat.le_refl _) (.cells #[.int .i64 s,.int .i64 t,.int .i64 a,.int .i64 b,.int .i64 c,.int .i64 d] 77 (0,0))).alloc (by simp) (.cells #[.int .i64 s,.int .i64 t,.int .i64 a,.int .i64 b,.int .i64 c,.int .i64 d] 77 (0,0)))
 go_enter Try.func78,Try.ntmps78
 go_wp2_with fail
 refine (eqA_calls _ _ _ _ _).mono ?_
 rintro e w' ⟨rfl,hb⟩
 have HW:=qa2 (below_then HB.out HB.out.size hb)
 clear hb
 go_wp2_with fail
 go_ret
 exact ⟨rfl,HW.out⟩
set_option maxHeartbeats 20000000 in
set_option maxRecDepth 100000 in
theorem eqWS_calls (A0 : Option Addr) (c0 : Nat) (A1 : Option Addr) (c1 : Nat) (l : List S73) (w : World) (hr0 : Kd.C k73 w A0 l.length l) (hr1 : Kd.C k73 w A1 l.length l) :
  Calls Try.prog 107 #[.slice A0 l.length c0,.slice A1 l.length c1] w fun e w' => e = .returned (.bool true) ∧ Below w.heap.size w w':=by
 have hn : l.length ≤ 9223372036854775807:=hr0.2.1
 have HR0:=qa2 hr0
 have HR1:=qa2 hr1
 have HB0:=qa2 (Below.refl w.heap.size w)
 clear hr0 hr1
 go_enter Try.func107,Try.ntmps107
 go_wp2_with fail
 go_loopg [5] l.length (fun g v5 wx => ∃ i : Nat,v5 = .int .i64 i ∧ i ≤ l.length ∧ Aside0 (i + g = l.length) ∧ Aside0 (Below w.heap.size w wx))
 case atStart => exact ⟨0,rfl,Nat.zero_le _,⟨by omega⟩,HB0⟩
 case round =>
  clear HB0
  obtain ⟨i,rfl,hi,HM,HB⟩:=hrel
  by_cases hlt : i < l.length
  ·
   obtain ⟨ad0,e0,y0,y1⟩:=at_T73 (Kd.C_below HR0.out HB.out) (i : Int) (by omega) (by omega)
   obtain ⟨ad1,e1,z0,z1⟩:=at_T73 (Kd.C_below HR1.out HB.out) (i : Int) (by omega) (by omega)
   cases e0
   cases e1
   simp only [Int.toNat_natCast] at y0 y1 z0 z1
   replace y0:=Blw.cell y0
   replace y1:=Blw.cell y1
   replace z0:=Blw.cell z0
   replace z1:=Blw.cell z1
   have p0 : ((i : Int) < (l.length : Int)) = True:=eq_true (by omega)
   have p1 : (0 ≤ (i : Int)) = True:=eq_true (by omega)
   have p2 : decide ((i : Int) < (l.length : Int)) = true:=decide_eq_true (by omega)
   go_upto_region 6 with fail
   refine wp_region_blw (by kernel_rfl) (by kernel_rfl) ?_
   repeat (go_big_quiet_step (exact Calls.blw (eqW_calls _ _ _)))
   refine wpQuiet_nil ?_
   intro _ hw'
   obtain ⟨xq,rfl⟩:=hw'
   have HXQ:=qa2 (below_then HB.out HB.out.size xq.h)
   clear y0 y1 z0 z1
   go_wp2_with fail
   go_roundg (gk - 1)
   case measure => have:=HM.out;omega
   case rel => exact ⟨i + 1,by go_num,by omega,⟨by have:=HM.out;omega⟩,HXQ⟩
  ·
   obtain rfl : i = l.length:=by omega
   go_wp2_with fail
   go_ret
   exact ⟨rfl,HB.out⟩
set_option maxHeartbeats 20000000 in
set_option maxRecDepth 100000 in
theorem eqL_calls (s : ByteArray) (a b c : Int) (A0 : Option Addr) (c0 : Nat) (A1 : Option Addr) (c1 : Nat) (l : List S73) (w : World) (hr0 : Kd.C k73 w A0 l.length l) (hr1 : Kd.C k73 w A1 l.length l) :
  Calls Try.prog 77 #[.agg #[.string s,.int .i64 a,.int .i64 b,.int .i64 c,.slice A0 l.length c0],.agg #[.string s,.int .i64 a,.int .i64 b,.int .i64 c,.slice A1 l.length c1]] w fun e w' => e = .returned (.bool true) ∧ Below w.heap.size w w':=by
 have HR0:=qa2 hr0
 have HR1:=qa2 hr1
 have HB:=qa2 (((Below.refl _ w).alloc (Nat.le_refl _) (.cells #[.string s,.int .i64 a,.int .i64 b,.int .i64 c,.slice A0 l.length c0] 70 (0,0))).alloc (by simp) (.cells #[.string s,.int .i64 a,.int .i64 b,.int .i64 c,.slice A1 l.length c1] 70 (0,0)))
 clear hr0 hr1
 go_enter Try.func77,Try.ntmps77
 go_wp2_with fail
 refine (eqWS_calls _ _ _ _ _ _ (Kd.C_below HR0.out HB.out) (Kd.C_below HR1.out HB.out)).mono ?_
 rintro e w' ⟨rfl,hb⟩
 have HW:=qa2 (below_then HB.out HB.out.size hb)
 clear hb
 go_wp2_with fail
 go_ret
 exact ⟨rfl,HW.out⟩
set_option maxHeartbeats 20000000 in
set_option maxRecDepth 100000 in
theorem eqLS_calls (A0 : Option Addr) (c0 : Nat) (A1 : Option Addr) (c1 : Nat) (l : List S70) (w : World) (hr0 : Kd.C k70 w A0 l.length l) (hr1 : Kd.C k70 w A1 l.length l) :
  Calls Try.prog 49 #[.slice A0 l.length c0,.slice A1 l.length c1] w fun e w' => e = .returned (.bool true) ∧ Below w.heap.size w w':=by
 have hn : l.length ≤ 9223372036854775807:=hr0.2.1
 have HR0:=qa2 hr0
 have HR1:=qa2 hr1
 have HB0:=qa2 (Below.refl w.heap.size w)
 clear hr0 hr1
 go_enter Try.func49,Try.ntmps49
 go_wp2_with fail
 go_loopg [5] l.length (fun g v5 wx => ∃ i : Nat,v5 = .int .i64 i ∧ i ≤ l.length ∧ Aside0 (i + g = l.length) ∧ Aside0 (Below w.heap.size w wx))
 case atStart => exact ⟨0,rfl,Nat.zero_le _,⟨by omega⟩,HB0⟩
 case round =>
  clear HB0
  obtain ⟨i,rfl,hi,HM,HB⟩:=hrel
  by_cases hlt : i < l.length
  ·
   obtain ⟨ad0,B0,d0,e0,y0,y1,y2,y3,y4,-,hw0⟩:=at_T70 (Kd.C_below HR0.out HB.out) (i : Int) (by omega) (by omega)
   obtain ⟨ad1,B1,d1,e1,z0,z1,z2,z3,z4,-,hw1⟩:=at_T70 (Kd.C_below HR1.out HB.out) (i : Int) (by omega) (by omega)
   cases e0
   cases e1
   simp only [Int.toNat_natCast] at y0 y1 y2 y3 y4 z0 z1 z2 z3 z4
   have W0:=qa2 hw0
   have W1:=qa2 hw1
   clear hw0 hw1
   replace y0:=Blw.cell y0
   replace y1:=Blw.cell y1
   replace y2:=Blw.cell y2
   replace y3:=Blw.cell y3
   replace y4:=Blw.cell y4
   replace z0:=Blw.cell z0
   replace z1:=Blw.cell z1
   replace z2:=Blw.cell z2
   replace z3:=Blw.cell z3
   replace z4:=Blw.cell z4
   have p0 : ((i : Int) < (l.length : Int)) = True:=eq_true (by omega)
   have p1 : (0 ≤ (i : Int)) = True:=eq_true (by omega)
   have p2 : decide ((i : Int) < (l.length : Int)) = true:=decide_eq_true (by omega)
   go_upto_region 6 with fail
   refine wp_region_blw (by kernel_rfl) (by kernel_rfl) ?_
   repeat (go_big_quiet_step (exact Calls.blw (eqL_calls _ _ _ _ _ _ _ _ _ _ (Kd.C_below W0.out (Blw.h _)) (Kd.C_below W1.out (Blw.h _)))))
   refine wpQuiet_nil ?_
   intro _ hw'
   obtain ⟨xq,rfl⟩:=hw'
   have HXQ:=qa2 (below_then HB.out HB.out.size xq.h)
   clear y0 y1 y2 y3 y4 z0 z1 z2 z3 z4 W0 W1
   go_wp2_with fail
   go_roundg (gk - 1)
   case measure => have:=HM.out;omega
   case rel => exact ⟨i + 1,by go_num,by omega,⟨by have:=HM.out;omega⟩,HXQ⟩
  ·
   obtain rfl : i = l.length:=by omega
   go_wp2_with fail
   go_ret
   exact ⟨rfl,HB.out⟩
set_option maxHeartbeats 20000000 in
set_option maxRecDepth 100000 in
theorem eqNS_calls (A0 : Option Addr) (c0 : Nat) (A1 : Option Addr) (c1 : Nat) (l : List S77) (w : World) (hr0 : Kd.C k77 w A0 l.length l) (hr1 : Kd.C k77 w A1 l.length l) :
  Calls Try.prog 50 #[.slice A0 l.length c0,.slice A1 l.length c1] w fun e w' => e = .returned (.bool true) ∧ Below w.heap.size w w':=by
 have hn : l.length ≤ 9223372036854775807:=hr0.2.1
 have HR0:=qa2 hr0
 have HR1:=qa2 hr1
 have HB0:=qa2 (Below.refl w.heap.size w)
 clear hr0 hr1
 go_enter Try.func50,Try.ntmps50
 go_wp2_with fail
 go_loopg [5] l.length (fun g v5 wx => ∃ i : Nat,v5 = .int .i64 i ∧ i ≤ l.length ∧ Aside0 (i + g = l.length) ∧ Aside0 (Below w.heap.size w wx))
 case atStart => exact ⟨0,rfl,Nat.zero_le _,⟨by omega⟩,HB0⟩
 case round =>
  clear HB0
  obtain ⟨i,rfl,hi,HM,HB⟩:=hrel
  by_cases hlt : i < l.length
  ·
   obtain ⟨ad0,e0,y0,y1,y2,y3,y4,y5⟩:=at_T77 (Kd.C_below HR0.out HB.out) (i : Int) (by omega) (by omega)
   obtain ⟨ad1,e1,z0,z1,z2,z3,z4,z5⟩:=at_T77 (Kd.C_below HR1.out HB.out) (i : Int) (by omega) (by omega)
   cases e0
   cases e1
   simp only [Int.toNat_natCast] at y0 y1 y2 y3 y4 y5 z0 z1 z2 z3 z4 z5
   replace y0:=Blw.cell y0
   replace y1:=Blw.cell y1
   replace y2:=Blw.cell y2
   replace y3:=Blw.cell y3
   replace y4:=Blw.cell y4
   replace y5:=Blw.cell y5
   replace z0:=Blw.cell z0
   replace z1:=Blw.cell z1
   replace z2:=Blw.cell z2
   replace z3:=Blw.cell z3
   replace z4:=Blw.cell z4
   replace z5:=Blw.cell z5
   have p0 : ((i : Int) < (l.length : Int)) = True:=eq_true (by omega)
   have p1 : (0 ≤ (i : Int)) = True:=eq_true (by omega)
   have p2 : decide ((i : Int) < (l.length : Int)) = true:=decide_eq_true (by omega)
   go_upto_region 6 with fail
   refine wp_region_blw (by kernel_rfl) (by kernel_rfl) ?_
   repeat (go_big_quiet_step (exact Calls.blw (eqN_calls _ _ _ _ _ _ _)))
   refine wpQuiet_nil ?_
   intro _ hw'
   obtain ⟨xq,rfl⟩:=hw'
   have HXQ:=qa2 (below_then HB.out HB.out.size xq.h)
   clear y0 y1 y2 y3 y4 y5 z0 z1 z2 z3 z4 z5
   go_wp2_with fail
   go_roundg (gk - 1)
   case measure => have:=HM.out;omega
   case rel => exact ⟨i + 1,by go_num,by omega,⟨by have:=HM.out;omega⟩,HXQ⟩
  ·
   obtain rfl : i = l.length:=by omega
   go_wp2_with fail
   go_ret
   exact ⟨rfl,HB.out⟩
set_option maxHeartbeats 20000000 in
set_option maxRecDepth 100000 in
theorem eqT_calls (t0 t1 : Int) (A0 : Option Addr) (c0 : Nat) (A1 : Option Addr) (c1 : Nat) (B0 : Option Addr) (d0 : Nat) (B1 : Option Addr) (d1 : Nat) (l : List S70) (m : List S77) (w : World) (hr0 : Kd.C k70 w A0 l.length l) (hr1 : Kd.C k70 w A1 l.length l) (hs0 : Kd.C k77 w B0 m.length m) (hs1 : Kd.C k77 w B1 m.length m) :
  Calls Try.prog 12 #[.agg #[.int .i64 t0,.int .i64 t1,.slice A0 l.length c0,.slice B0 m.length d0],.agg #[.int .i64 t0,.int .i64 t1,.slice A1 l.length c1,.slice B1 m.length d1]] w fun e w' => e = .returned (.bool true) ∧ Below w.heap.size w w':=by
 have HR0:=qa2 hr0
 have HR1:=qa2 hr1
 have HS0:=qa2 hs0
 have HS1:=qa2 hs1
 have HB:=qa2 (((Below.refl _ w).alloc (Nat.le_refl _) (.cells #[.int .i64 t0,.int .i64 t1,.slice A0 l.length c0,.slice B0 m.length d0] 31 (0,0))).alloc (by simp) (.cells #[.int .i64 t0,.int .i64 t1,.slice A1 l.length c1,.slice B1 m.length d1] 31 (0,0)))
 clear hr0 hr1 hs0 hs1
 have HG0:=qa2 (blk_alloc (heap_alloc_new w (.cells #[.int .i64 t0,.int .i64 t1,.slice A0 l.length c0,.slice B0 m.length d0] 31 (0,0))) (.cells #[.int .i64 t0,.int .i64 t1,.slice A1 l.length c1,.slice B1 m.length d1] 31 (0,0)))
 have HG1 : Aside0 ((((w.alloc (.cells #[.int .i64 t0,.int .i64 t1,.slice A0 l.length c0,.slice B0 m.length d0] 31 (0,0)))).alloc (.cells #[.int .i64 t0,.int .i64 t1,.slice A1 l.length c1,.slice B1 m.length d1] 31 (0,0))).heap[w.heap.size + 1]? = some (.cells #[.int .i64 t0,.int .i64 t1,.slice A1 l.length c1,.slice B1 m.length d1] 31 (0,0))):=⟨by
  have h:=heap_alloc_new (w.alloc (.cells #[.int .i64 t0,.int .i64 t1,.slice A0 l.length c0,.slice B0 m.length d0] 31 (0,0))) (.cells #[.int .i64 t0,.int .i64 t1,.slice A1 l.length c1,.slice B1 m.length d1] 31 (0,0))
  have e : (w.alloc (.cells #[.int .i64 t0,.int .i64 t1,.slice A0 l.length c0,.slice B0 m.length d0] 31 (0,0))).heap.size = w.heap.size + 1:=by simp
  rw [e] at h
  exact h⟩
 go_enter Try.func12,Try.ntmps12
 go_wp2_with fail
 refine (eqLS_calls _ _ _ _ _ _ (Kd.C_below HR0.out HB.out) (Kd.C_below HR1.out HB.out)).mono ?_
 rintro e w1 ⟨rfl,hb⟩
 have HW:=qa2 (below_then HB.out HB.out.size hb)
 have g0:=blk_below HG0.out hb
 have g1:=blk_below HG1.out hb
 have x0 : w1.cell? ⟨w.heap.size,3,none⟩ = some (.slice B0 m.length d0):=(blk_cell g0 3).trans rfl
 have x1 : w1.cell? ⟨w.heap.size + 1,3,none⟩ = some (.slice B1 m.length d1):=(blk_cell g1 3).trans rfl
 clear hb g0 g1
 go_wp2_with fail
 refine (eqNS_calls _ _ _ _ _ _ (Kd.C_below HS0.out HW.out) (Kd.C_below HS1.out HW.out)).mono ?_
 rintro e w2 ⟨rfl,hb⟩
 have HW2:=qa2 (below_then HW.out HW.out.size hb)
 clear hb x0 x1
 go_wp2_with fail
 go_ret
 exact ⟨rfl,HW2.out⟩
end
def sameW_ (a b : S73) : Bool:=a.f0 == b.f0 && a.f1 == b.f1
def sameWS_ : List S73 → List S73 → Bool
 | [],[] => true
 | x :: l,y :: m => sameW_ x y && sameWS_ l m
 | _,_ => false
def sameL_ (a b : S70) : Bool:=a.f0.toList == b.f0.toList && (a.f1 == b.f1 && (a.f2 == b.f2 && (a.f3 == b.f3 && sameWS_ a.f4 b.f4)))
def sameLS_ : List S70 → List S70 → Bool
 | [],[] => true
 | x :: l,y :: m => sameL_ x y && sameLS_ l m
 | _,_ => false
def sameN_ (a b : S77) : Bool:=a.f0 == b.f0 && (a.f1 == b.f1 && (a.f2.f0 == b.f2.f0 && (a.f2.f1 == b.f2.f1 && (a.f2.f2 == b.f2.f2 && a.f2.f3 == b.f2.f3))))
def sameNS_ : List S77 → List S77 → Bool
 | [],[] => true
 | x :: l,y :: m => sameN_ x y && sameNS_ l m
 | _,_ => false
theorem toList_inj_ {a b : ByteArray} (h : a.toList = b.toList) : a = b:=by
 rw [ByteArray.toList_eq,ByteArray.toList_eq] at h
 exact Go.WideShapes.bytes_inj h
theorem sameW_of {a b : S73} (h : sameW_ a b = true) : a = b:=by
 cases a;cases b
 simp only [sameW_,Bool.and_eq_true,beq_iff_eq] at h
 obtain ⟨rfl,rfl⟩:=h
 rfl
theorem sameWS_of : ∀ {l m : List S73},sameWS_ l m = true → l = m
 | [],[],_ => rfl
 | x :: l,y :: m,h => by
  rw [sameWS_,Bool.and_eq_true] at h
  rw [sameW_of h.1,sameWS_of h.2]
 | [],_ :: _,h => by simp [sameWS_] at h
 | _ :: _,[],h => by simp [sameWS_] at h
theorem sameL_of {a b : S70} (h : sameL_ a b = true) : a = b:=by
 cases a;cases b
 simp only [sameL_,Bool.and_eq_true,beq_iff_eq] at h
 obtain ⟨h0,rfl,rfl,rfl,h4⟩:=h
 rw [toList_inj_ h0,sameWS_of h4]
theorem sameLS_of : ∀ {l m : List S70},sameLS_ l m = true → l = m
 | [],[],_ => rfl
 | x :: l,y :: m,h => by
  rw [sameLS_,Bool.and_eq_true] at h
  rw [sameL_of h.1,sameLS_of h.2]
 | [],_ :: _,h => by simp [sameLS_] at h
 | _ :: _,[],h => by simp [sameLS_] at h
theorem sameN_of {a b : S77} (h : sameN_ a b = true) : a = b:=by
 obtain ⟨a0,a1,⟨a2,a3,a4,a5⟩⟩:=a
 obtain ⟨b0,b1,⟨b2,b3,b4,b5⟩⟩:=b
 simp only [sameN_,Bool.and_eq_true,beq_iff_eq] at h
 obtain ⟨rfl,rfl,rfl,rfl,rfl,rfl⟩:=h
 rfl
theorem sameNS_of : ∀ {l m : List S77},sameNS_ l m = true → l = m
 | [],[],_ => rfl
 | x :: l,y :: m,h => by
  rw [sameNS_,Bool.and_eq_true] at h
  rw [sameN_of h.1,sameNS_of h.2]
 | [],_ :: _,h => by simp [sameNS_] at h
 | _ :: _,[],h => by simp [sameNS_] at h
theorem sameWS_refl : ∀ l : List S73,sameWS_ l l = true
 | [] => rfl
 | x :: l => by rw [sameWS_,sameWS_refl l];simp [sameW_]
theorem sameLS_refl : ∀ l : List S70,sameLS_ l l = true
 | [] => rfl
 | x :: l => by rw [sameLS_,sameLS_refl l];simp [sameL_,sameWS_refl]
theorem sameNS_refl : ∀ l : List S77,sameNS_ l l = true
 | [] => rfl
 | x :: l => by rw [sameNS_,sameNS_refl l];simp [sameN_]
def laws_eqTable.f (a0_0 : Int) (a0_1 : Int) (l0_2 : List S70) (l0_3 : List S77) (a1_0 : Int) (a1_1 : Int) (l1_2 : List S70) (l1_3 : List S77) : Option Bool :=
 if (a0_0 == a1_0 && (a0_1 == a1_1 && (sameLS_ l0_2 l1_2 && sameNS_ l0_3 l1_3))) = true then some true else none
theorem laws_eqTable.same (a0_0 : Int) (a0_1 : Int) (l0_2 : List S70) (l0_3 : List S77) : laws_eqTable.f a0_0 a0_1 l0_2 l0_3 a0_0 a0_1 l0_2 l0_3 = some true:=by
 unfold laws_eqTable.f
 rw [sameLS_refl,sameNS_refl,if_pos (by simp)]
theorem laws_eqTable.calls (a0_0 : Int) (a0_1 : Int) (A0_2 : Option Addr) (c0_2 : Nat) (l0_2 : List S70) (A0_3 : Option Addr) (c0_3 : Nat) (l0_3 : List S77) (a1_0 : Int) (a1_1 : Int) (A1_2 : Option Addr) (c1_2 : Nat) (l1_2 : List S70) (A1_3 : Option Addr) (c1_3 : Nat) (l1_3 : List S77) (r : Bool) (w : World) (hr0_2 : Kd.C k70 w A0_2 l0_2.length l0_2) (hc0_2 : l0_2.length ≤ c0_2) (hr0_3 : Kd.C k77 w A0_3 l0_3.length l0_3) (hc0_3 : l0_3.length ≤ c0_3) (hr1_2 : Kd.C k70 w A1_2 l1_2.length l1_2) (hc1_2 : l1_2.length ≤ c1_2) (hr1_3 : Kd.C k77 w A1_3 l1_3.length l1_3) (hc1_3 : l1_3.length ≤ c1_3) (h : laws_eqTable.f a0_0 a0_1 l0_2 l0_3 a1_0 a1_1 l1_2 l1_3 = some r) :
  Calls Try.prog 12 #[.agg #[.int .i64 a0_0,.int .i64 a0_1,.slice A0_2 l0_2.length c0_2,.slice A0_3 l0_3.length c0_3],.agg #[.int .i64 a1_0,.int .i64 a1_1,.slice A1_2 l1_2.length c1_2,.slice A1_3 l1_3.length c1_3]] w fun e w' => e = .returned (.bool r) ∧ Below w.heap.size w w':=by
 by_cases hs : (a0_0 == a1_0 && (a0_1 == a1_1 && (sameLS_ l0_2 l1_2 && sameNS_ l0_3 l1_3))) = true
 ·
  rw [laws_eqTable.f,if_pos hs] at h
  simp only [Bool.and_eq_true,beq_iff_eq] at hs
  obtain ⟨rfl,rfl,h2,h3⟩:=hs
  obtain rfl:=sameLS_of h2
  obtain rfl:=sameNS_of h3
  obtain rfl:=sO h
  exact eqT_calls a0_0 a0_1 A0_2 c0_2 A1_2 c1_2 A0_3 c0_3 A1_3 c1_3 l0_2 l0_3 w hr0_2 hr1_2 hr0_3 hr1_3
 ·
  rw [laws_eqTable.f,if_neg hs] at h
  cases h


/-! ### spec_l01In: function 41 -/
def spec_l01In.f (a0 : Int) (a1 : Int) (a2 : Int) : Option (Bool):=if a0 ≥ a1 then (some (decide (a0 ≤ a2))) else (some false)
set_option maxHeartbeats 8000000 in
set_option maxRecDepth 100000 in
theorem spec_l01In.calls (a0 : Int) (a1 : Int) (a2 : Int) (r : Bool) (w : World) (h : spec_l01In.f a0 a1 a2 = some r) :
  Calls Try.prog 41 #[.int .i64 a0,.int .i64 a1,.int .i64 a2] w fun e w' => e = .returned (.bool r) ∧ Drawn0 w w':=by
 have H : (if a0 ≥ a1 then (some (decide (a0 ≤ a2))) else (some false)) = some r:=h
 clear h
 by_cases c4 : a0 ≥ a1
 ·
  rw [if_pos c4] at H
  have c4b0 : decide (a1 ≤ a0) = true:=decide_eq_true c4
  clear c4
  obtain rfl:=sO H
  go_enter Try.func41,Try.ntmps41
  go_wp2
  go_ret
  exact ⟨by first|rfl|(simp;done)|(simp [*];done),by repeat (first|exact Drawn0.refl _|apply Drawn0.step)⟩
 ·
  rw [if_neg c4] at H
  have c4b0 : decide (a1 ≤ a0) = false:=decide_eq_false c4
  clear c4
  obtain rfl:=sO H
  go_enter Try.func41,Try.ntmps41
  go_wp2
  go_ret
  exact ⟨by first|rfl|(simp;done)|(simp [*];done),by repeat (first|exact Drawn0.refl _|apply Drawn0.step)⟩

/-! ### spec_l00Letter: function 123 -/
def spec_l00Letter.f (a0 : Int) : Option (Bool):=if a0 ≥ 97 then (if a0 ≤ 122 then (some true) else (if a0 ≥ 65 then (if a0 ≤ 90 then (some true) else (some (a0 == 95))) else (some (a0 == 95)))) else (if a0 ≥ 65 then (if a0 ≤ 90 then (some true) else (some (a0 == 95))) else (some (a0 == 95)))
set_option maxHeartbeats 8000000 in
set_option maxRecDepth 100000 in
theorem spec_l00Letter.calls (a0 : Int) (r : Bool) (w : World) (h : spec_l00Letter.f a0 = some r) :
  Calls Try.prog 123 #[.int .u8 a0] w fun e w' => e = .returned (.bool r) ∧ Drawn0 w w':=by
 have H : (if a0 ≥ 97 then (if a0 ≤ 122 then (some true) else (if a0 ≥ 65 then (if a0 ≤ 90 then (some true) else (some (a0 == 95))) else (some (a0 == 95)))) else (if a0 ≥ 65 then (if a0 ≤ 90 then (some true) else (some (a0 == 95))) else (some (a0 == 95)))) = some r:=h
 clear h
 by_cases c2 : a0 ≥ 97
 ·
  rw [if_pos c2] at H
  have c2b0 : decide (97 ≤ a0) = true:=decide_eq_true c2
  clear c2
  by_cases c3 : a0 ≤ 122
  ·
   rw [if_pos c3] at H
   have c3b0 : decide (a0 ≤ 122) = true:=decide_eq_true c3
   clear c3
   obtain rfl:=sO H
   go_enter Try.func123,Try.ntmps123
   go_wp2
   go_ret
   exact ⟨by first|rfl|(simp;done)|(simp [*];done),by repeat (first|exact Drawn0.refl _|apply Drawn0.step)⟩
  ·
   rw [if_neg c3] at H
   have c3b0 : decide (a0 ≤ 122) = false:=decide_eq_false c3
   clear c3
   by_cases c4 : a0 ≥ 65
   ·
    rw [if_pos c4] at H
    have c4b0 : decide (65 ≤ a0) = true:=decide_eq_true c4
    clear c4
    by_cases c5 : a0 ≤ 90
    ·
     rw [if_pos c5] at H
     have c5b0 : decide (a0 ≤ 90) = true:=decide_eq_true c5
     clear c5
     obtain rfl:=sO H
     go_enter Try.func123,Try.ntmps123
     go_wp2
     go_ret
     exact ⟨by first|rfl|(simp;done)|(simp [*];done),by repeat (first|exact Drawn0.refl _|apply Drawn0.step)⟩
    ·
     rw [if_neg c5] at H
     have c5b0 : decide (a0 ≤ 90) = false:=decide_eq_false c5
     clear c5
     obtain rfl:=sO H
     go_enter Try.func123,Try.ntmps123
     go_wp2
     go_ret
     exact ⟨by first|rfl|(simp;done)|(simp [*];done),by repeat (first|exact Drawn0.refl _|apply Drawn0.step)⟩
   ·
    rw [if_neg c4] at H
    have c4b0 : decide (65 ≤ a0) = false:=decide_eq_false c4
    clear c4
    obtain rfl:=sO H
    go_enter Try.func123,Try.ntmps123
    go_wp2
    go_ret
    exact ⟨by first|rfl|(simp;done)|(simp [*];done),by repeat (first|exact Drawn0.refl _|apply Drawn0.step)⟩
 ·
  rw [if_neg c2] at H
  have c2b0 : decide (97 ≤ a0) = false:=decide_eq_false c2
  clear c2
  by_cases c6 : a0 ≥ 65
  ·
   rw [if_pos c6] at H
   have c6b0 : decide (65 ≤ a0) = true:=decide_eq_true c6
   clear c6
   by_cases c7 : a0 ≤ 90
   ·
    rw [if_pos c7] at H
    have c7b0 : decide (a0 ≤ 90) = true:=decide_eq_true c7
    clear c7
    obtain rfl:=sO H
    go_enter Try.func123,Try.ntmps123
    go_wp2
    go_ret
    exact ⟨by first|rfl|(simp;done)|(simp [*];done),by repeat (first|exact Drawn0.refl _|apply Drawn0.step)⟩
   ·
    rw [if_neg c7] at H
    have c7b0 : decide (a0 ≤ 90) = false:=decide_eq_false c7
    clear c7
    obtain rfl:=sO H
    go_enter Try.func123,Try.ntmps123
    go_wp2
    go_ret
    exact ⟨by first|rfl|(simp;done)|(simp [*];done),by repeat (first|exact Drawn0.refl _|apply Drawn0.step)⟩
  ·
   rw [if_neg c6] at H
   have c6b0 : decide (65 ≤ a0) = false:=decide_eq_false c6
   clear c6
   obtain rfl:=sO H
   go_enter Try.func123,Try.ntmps123
   go_wp2
   go_ret
   exact ⟨by first|rfl|(simp;done)|(simp [*];done),by repeat (first|exact Drawn0.refl _|apply Drawn0.step)⟩

/-! ### spec_l00Digit: function 124 -/
def spec_l00Digit.f (a0 : Int) : Option (Bool):=if a0 ≥ 48 then (some (decide (a0 ≤ 57))) else (some false)
set_option maxHeartbeats 8000000 in
set_option maxRecDepth 100000 in
theorem spec_l00Digit.calls (a0 : Int) (r : Bool) (w : World) (h : spec_l00Digit.f a0 = some r) :
  Calls Try.prog 124 #[.int .u8 a0] w fun e w' => e = .returned (.bool r) ∧ Drawn0 w w':=by
 have H : (if a0 ≥ 48 then (some (decide (a0 ≤ 57))) else (some false)) = some r:=h
 clear h
 by_cases c2 : a0 ≥ 48
 ·
  rw [if_pos c2] at H
  have c2b0 : decide (48 ≤ a0) = true:=decide_eq_true c2
  clear c2
  obtain rfl:=sO H
  go_enter Try.func124,Try.ntmps124
  go_wp2
  go_ret
  exact ⟨by first|rfl|(simp;done)|(simp [*];done),by repeat (first|exact Drawn0.refl _|apply Drawn0.step)⟩
 ·
  rw [if_neg c2] at H
  have c2b0 : decide (48 ≤ a0) = false:=decide_eq_false c2
  clear c2
  obtain rfl:=sO H
  go_enter Try.func124,Try.ntmps124
  go_wp2
  go_ret
  exact ⟨by first|rfl|(simp;done)|(simp [*];done),by repeat (first|exact Drawn0.refl _|apply Drawn0.step)⟩

/-! ### spec_l00Word: function 101 -/
mutual
def spec_l00Word.j0 : Nat → ByteArray → Bool → Option (Bool)
 | 0,_,_ => none
 | k + 1,x0,x17 => if x17 = true then (some false) else (spec_l00Word.l0 k x0 1)
def spec_l00Word.l0 : Nat → ByteArray → Int → Option (Bool)
 | 0,_,_ => none
 | k + 1,x0,x3 => if x3 < (x0.size : Int) then (if 0 ≤ x3 then ((spec_l00Letter.f (bt x0 x3)).bind fun t167 => (if t167 = true then (spec_l00Word.l0 k x0 (wrap64 (x3 + 1))) else ((spec_l00Digit.f (bt x0 x3)).bind fun t168 => (if t168 = true then (spec_l00Word.l0 k x0 (wrap64 (x3 + 1))) else (some false))))) else (none)) else (some true)
end
def spec_l00Word.f (k : Nat) (a0 : ByteArray) : Option (Bool):=if (a0.size : Int) < 1 then (spec_l00Word.j0 k a0 true) else (if (a0.size : Int) > 40 then (spec_l00Word.j0 k a0 true) else (if 0 < (a0.size : Int) then ((spec_l00Letter.f (bt a0 0)).bind fun t166 => (spec_l00Word.j0 k a0 (!t166))) else (none)))
set_option maxHeartbeats 8000000 in
set_option maxRecDepth 100000 in
theorem spec_l00Word.calls (k : Nat) (a0 : ByteArray) (r : Bool) (w : World) (h : spec_l00Word.f k a0 = some r) :
  Calls Try.prog 101 #[.string a0] w fun e w' => e = .returned (.bool r) ∧ Drawn0 w w':=by
 have H : (if (a0.size : Int) < 1 then (spec_l00Word.j0 k a0 true) else (if (a0.size : Int) > 40 then (spec_l00Word.j0 k a0 true) else (if 0 < (a0.size : Int) then ((spec_l00Letter.f (bt a0 0)).bind fun t166 => (spec_l00Word.j0 k a0 (!t166))) else (none)))) = some r:=h
 clear h
 have HC2:=qa2 H
 clear H
 go_enter Try.func101,Try.ntmps101
 go_upto_region 1 with (fail)
 go_cut [17] (fun v17 wc => ∃ (kq : Nat) (x17_1 : Bool),v17 = .bool x17_1 ∧ Aside0 (spec_l00Word.j0 kq a0 x17_1 = some r) ∧ Aside0 (kq ≤ k) ∧ Drawn0 w wc)
 case first =>
  have H:=HC2.out
  clear HC2
  by_cases c3 : (a0.size : Int) < 1
  ·
   rw [if_pos c3] at H
   have c3b0 : decide ((a0.size : Int) < 1) = true:=decide_eq_true c3
   have c3b1 : decide (a0.size < 1) = true:=decide_eq_true (by omega)
   clear c3
   (first|rw [c3b0]|(simp only [i64_w,i32_w];rw [c3b0])|skip)
   have H':=qa2 H
   clear H
   go_wp2
   go_meet
   case rel => exact ⟨_,(true),(by first|rfl|(simp;done)|(simp [*];done)),H',⟨by first|omega|exact Nat.le_refl _⟩,by repeat (first|exact Drawn0.refl _|apply Drawn0.step)⟩
  ·
   rw [if_neg c3] at H
   have c3b0 : decide ((a0.size : Int) < 1) = false:=decide_eq_false c3
   have c3b1 : decide (a0.size < 1) = false:=decide_eq_false (by omega)
   clear c3
   (first|rw [c3b0]|(simp only [i64_w,i32_w];rw [c3b0])|skip)
   by_cases c4 : (a0.size : Int) > 40
   ·
    rw [if_pos c4] at H
    have c4b0 : decide (40 < (a0.size : Int)) = true:=decide_eq_true c4
    have c4b1 : decide (40 < a0.size) = true:=decide_eq_true (by omega)
    clear c4
    have H':=qa2 H
    clear H
    go_wp2
    go_meet
    case rel => exact ⟨_,(true),(by first|rfl|(simp;done)|(simp [*];done)),H',⟨by first|omega|exact Nat.le_refl _⟩,by repeat (first|exact Drawn0.refl _|apply Drawn0.step)⟩
   ·
    rw [if_neg c4] at H
    have c4b0 : decide (40 < (a0.size : Int)) = false:=decide_eq_false c4
    have c4b1 : decide (40 < a0.size) = false:=decide_eq_false (by omega)
    clear c4
    by_cases c5 : 0 < (a0.size : Int)
    ·
     rw [if_pos c5] at H
     have c5b0 : decide (0 < (a0.size : Int)) = true:=decide_eq_true c5
     have c5b1 : decide (0 < a0.size) = true:=decide_eq_true (by omega)
     clear c5
     replace H:=Option.bind_eq_some_iff.mp H
     obtain ⟨t166,A70,H⟩:=H
     replace H : (spec_l00Word.j0 k a0 (!t166)) = some r:=H
     have A7:=qa2 A70
     clear A70
     have H':=qa2 H
     clear H
     have p6 : 0 ≤ (0 : Int):=(by omega)
     have q6 : 0 < a0.size:=(by have : (0 : Int) < (a0.size : Int):=sM (by first|(with_reducible assumption)|assumption);omega)
     have hx6 : ∀ h : 0 < a0.size,((a0[0]'h).toNat : Int) = bt a0 0:=bt_at a0 0
     clear p6
     have qi6 : (0 < (a0.size : Int)) = True:=eq_true (sM (by first|(with_reducible assumption)|assumption))
     replace q6:=eq_true q6
     go_wp2_with (first|(go_at_call 123;(with_reducible refine (spec_l00Letter.calls (bt a0 0) t166 _ A7.out).mono ?_);rintro e w' ⟨rfl,⟨nd,rfl⟩⟩))
     go_meet
     case rel => exact ⟨_,(!t166),(by first|rfl|(simp;done)|(simp [*];done)),H',⟨by first|omega|exact Nat.le_refl _⟩,by repeat (first|exact Drawn0.refl _|apply Drawn0.step)⟩
    ·
     rw [if_neg c5] at H
     exact absurd H (by simp)
 case rest =>
  clear HC2
  try clear c1
  try clear p2
  try clear c3
  try clear c3b0
  try clear c3b1
  try clear c4
  try clear c4b0
  try clear c4b1
  try clear c5
  try clear c5b0
  try clear c5b1
  try clear p6
  try clear q6
  try clear hx6
  try clear qi6
  try clear p6
  try clear q6
  obtain ⟨kq,x17_1,rfl,HA,HJ1,⟨mc1,rfl⟩⟩:=hcut
  cases kq with
  | zero => exact absurd HA.out (by simp [spec_l00Word.j0])
  | succ kj1 =>
   have H:=HA.out
   clear HA
   simp only [spec_l00Word.j0] at H
   by_cases c8 : x17_1 = true
   ·
    subst c8
    have H1 : (some false) = some r:=by rw [if_pos rfl] at H;exact H
    clear H
    have H:=H1
    clear H1
    obtain rfl:=sO H
    go_wp2
    go_ret
    exact ⟨by first|rfl|(simp;done)|(simp [*];done),by repeat (first|exact Drawn0.refl _|apply Drawn0.step)⟩
   ·
    replace c8:=Bool.eq_false_iff.mpr c8
    subst c8
    have H1 : (spec_l00Word.l0 kj1 a0 1) = some r:=by rw [if_neg (show ¬ (false = true) by decide)] at H;exact H
    clear H
    have H:=H1
    clear H1
    have H':=qa2 H
    clear H
    go_wp2
    go_loopg [3] kj1 (fun kq v3 w' => ∃ (x3_2 : Int),v3 = .int .i64 x3_2 ∧ Aside0 (spec_l00Word.l0 kq a0 x3_2 = some r) ∧ Aside0 (kq ≤ kj1) ∧ Drawn0 w w')
    case atStart => exact ⟨(1),(by first|rfl|(simp;done)|(simp [*];done)),H',⟨Nat.le_refl _⟩,by repeat (first|exact Drawn0.refl _|apply Drawn0.step)⟩
    case round =>
     clear H'
     try clear c1
     try clear p2
     try clear c3
     try clear c3b0
     try clear c3b1
     try clear c4
     try clear c4b0
     try clear c4b1
     try clear c5
     try clear c5b0
     try clear c5b1
     try clear p6
     try clear q6
     try clear hx6
     try clear qi6
     try clear c8
     try clear p2
     try clear p6
     try clear q6
     obtain ⟨x3_2,rfl,HA,HK2,⟨m2,rfl⟩⟩:=hrel
     cases gk with
     | zero => exact absurd HA.out (by simp [spec_l00Word.l0])
     | succ k2 =>
      have H:=HA.out
      clear HA
      simp only [spec_l00Word.l0] at H
      by_cases c9 : x3_2 < (a0.size : Int)
      ·
       rw [if_pos c9] at H
       have c9b0 : decide (x3_2 < (a0.size : Int)) = true:=decide_eq_true c9
       clear c9
       by_cases c10 : 0 ≤ x3_2
       ·
        rw [if_pos c10] at H
        have c10b0 : decide (0 ≤ x3_2) = true:=decide_eq_true c10
        clear c10
        replace H:=Option.bind_eq_some_iff.mp H
        obtain ⟨t167,A120,H⟩:=H
        replace H : (if t167 = true then (spec_l00Word.l0 k2 a0 (wrap64 (x3_2 + 1))) else ((spec_l00Digit.f (bt a0 x3_2)).bind fun t168 => (if t168 = true then (spec_l00Word.l0 k2 a0 (wrap64 (x3_2 + 1))) else (some false)))) = some r:=H
        have A12:=qa2 A120
        clear A120
        by_cases c13 : t167 = true
        ·
         subst c13
         have H1 : (spec_l00Word.l0 k2 a0 (wrap64 (x3_2 + 1))) = some r:=by rw [if_pos rfl] at H;exact H
         clear H
         have H:=H1
         clear H1
         have H':=qa2 H
         clear H
         have p11 : 0 ≤ (x3_2 : Int):=sM (by first|(with_reducible assumption)|assumption)
         have q11 : x3_2 < (a0.size : Int):=sM (by first|(with_reducible assumption)|assumption)
         have hx11:=bt_at a0 x3_2
         have bl11:=(bt_range a0 x3_2).1
         have bh11:=(bt_range a0 x3_2).2
         replace p11:=eq_true p11
         replace q11:=eq_true q11
         go_wp2_with (first|((with_reducible refine gate_callee (f:=123) rfl ?_);refine goesL_ (some 27) rfl rfl Try.func123 (by kernel_rfl) rfl #[.int .u8 (bt a0 x3_2)] rfl (by (try simp only [sE,sH,sI]);first|done|rfl|(simp only [sG,sF];rfl)) ?_;(with_reducible refine (spec_l00Letter.calls (bt a0 x3_2) true _ A12.out).mono ?_);rintro e w' ⟨rfl,⟨nd,rfl⟩⟩;refine ⟨_,rfl,?_⟩))
         go_roundg k2
         case measure => have:=HJ1.out;have:=HK2.out;omega
         case rel => exact ⟨(wrap64 (x3_2 + 1)),(by first|rfl|(simp;done)|(simp [*];done)),H',⟨by have:=HJ1.out;have:=HK2.out;omega⟩,by repeat (first|exact Drawn0.refl _|apply Drawn0.step)⟩
        ·
         replace c13:=Bool.eq_false_iff.mpr c13
         subst c13
         have H1 : ((spec_l00Digit.f (bt a0 x3_2)).bind fun t168 => (if t168 = true then (spec_l00Word.l0 k2 a0 (wrap64 (x3_2 + 1))) else (some false))) = some r:=by rw [if_neg (show ¬ (false = true) by decide)] at H;exact H
         clear H
         have H:=H1
         clear H1
         replace H:=Option.bind_eq_some_iff.mp H
         obtain ⟨t168,A150,H⟩:=H
         replace H : (if t168 = true then (spec_l00Word.l0 k2 a0 (wrap64 (x3_2 + 1))) else (some false)) = some r:=H
         have A15:=qa2 A150
         clear A150
         by_cases c16 : t168 = true
         ·
          subst c16
          have H1 : (spec_l00Word.l0 k2 a0 (wrap64 (x3_2 + 1))) = some r:=by rw [if_pos rfl] at H;exact H
          clear H
          have H:=H1
          clear H1
          have H':=qa2 H
          clear H
          have p11 : 0 ≤ (x3_2 : Int):=sM (by first|(with_reducible assumption)|assumption)
          have q11 : x3_2 < (a0.size : Int):=sM (by first|(with_reducible assumption)|assumption)
          have hx11:=bt_at a0 x3_2
          have bl11:=(bt_range a0 x3_2).1
          have bh11:=(bt_range a0 x3_2).2
          replace p11:=eq_true p11
          replace q11:=eq_true q11
          go_wp2_with (first|((with_reducible refine gate_callee (f:=123) rfl ?_);refine goesL_ (some 27) rfl rfl Try.func123 (by kernel_rfl) rfl #[.int .u8 (bt a0 x3_2)] rfl (by (try simp only [sE,sH,sI]);first|done|rfl|(simp only [sG,sF];rfl)) ?_;(with_reducible refine (spec_l00Letter.calls (bt a0 x3_2) false _ A12.out).mono ?_);rintro e w' ⟨rfl,⟨nd,rfl⟩⟩;refine ⟨_,rfl,?_⟩;have p14 : 0 ≤ (x3_2 : Int):=sM (by first|(with_reducible assumption)|assumption);have q14 : x3_2 < (a0.size : Int):=sM (by first|(with_reducible assumption)|assumption);have hx14:=bt_at a0 x3_2;have bl14:=(bt_range a0 x3_2).1;have bh14:=(bt_range a0 x3_2).2;replace p14:=eq_true p14;replace q14:=eq_true q14)|(go_at_call 124;(with_reducible refine (spec_l00Digit.calls (bt a0 x3_2) true _ A15.out).mono ?_);rintro e w' ⟨rfl,⟨nd,rfl⟩⟩))
          go_roundg k2
          case measure => have:=HJ1.out;have:=HK2.out;omega
          case rel => exact ⟨(wrap64 (x3_2 + 1)),(by first|rfl|(simp;done)|(simp [*];done)),H',⟨by have:=HJ1.out;have:=HK2.out;omega⟩,by repeat (first|exact Drawn0.refl _|apply Drawn0.step)⟩
         ·
          replace c16:=Bool.eq_false_iff.mpr c16
          subst c16
          have H1 : (some false) = some r:=by rw [if_neg (show ¬ (false = true) by decide)] at H;exact H
          clear H
          have H:=H1
          clear H1
          obtain rfl:=sO H
          have p11 : 0 ≤ (x3_2 : Int):=sM (by first|(with_reducible assumption)|assumption)
          have q11 : x3_2 < (a0.size : Int):=sM (by first|(with_reducible assumption)|assumption)
          have hx11:=bt_at a0 x3_2
          have bl11:=(bt_range a0 x3_2).1
          have bh11:=(bt_range a0 x3_2).2
          replace p11:=eq_true p11
          replace q11:=eq_true q11
          go_wp2_with (first|((with_reducible refine gate_callee (f:=123) rfl ?_);refine goesL_ (some 27) rfl rfl Try.func123 (by kernel_rfl) rfl #[.int .u8 (bt a0 x3_2)] rfl (by (try simp only [sE,sH,sI]);first|done|rfl|(simp only [sG,sF];rfl)) ?_;(with_reducible refine (spec_l00Letter.calls (bt a0 x3_2) false _ A12.out).mono ?_);rintro e w' ⟨rfl,⟨nd,rfl⟩⟩;refine ⟨_,rfl,?_⟩;have p14 : 0 ≤ (x3_2 : Int):=sM (by first|(with_reducible assumption)|assumption);have q14 : x3_2 < (a0.size : Int):=sM (by first|(with_reducible assumption)|assumption);have hx14:=bt_at a0 x3_2;have bl14:=(bt_range a0 x3_2).1;have bh14:=(bt_range a0 x3_2).2;replace p14:=eq_true p14;replace q14:=eq_true q14)|(go_at_call 124;(with_reducible refine (spec_l00Digit.calls (bt a0 x3_2) false _ A15.out).mono ?_);rintro e w' ⟨rfl,⟨nd,rfl⟩⟩))
          go_ret
          exact ⟨by first|rfl|(simp;done)|(simp [*];done),by repeat (first|exact Drawn0.refl _|apply Drawn0.step)⟩
       ·
        rw [if_neg c10] at H
        exact absurd H (by simp)
      ·
       rw [if_neg c9] at H
       have c9b0 : decide (x3_2 < (a0.size : Int)) = false:=decide_eq_false c9
       clear c9
       obtain rfl:=sO H
       go_wp2
       go_ret
       exact ⟨by first|rfl|(simp;done)|(simp [*];done),by repeat (first|exact Drawn0.refl _|apply Drawn0.step)⟩

/-! ### spec_NameOK: function 72 -/
def spec_NameOK.f (k : Nat) (a0 : ByteArray) : Option (Bool):=(spec_l00Word.f k a0).bind fun t169 => (some t169)
set_option maxHeartbeats 8000000 in
set_option maxRecDepth 100000 in
theorem spec_NameOK.calls (k : Nat) (a0 : ByteArray) (r : Bool) (w : World) (h : spec_NameOK.f k a0 = some r) :
  Calls Try.prog 72 #[.string a0] w fun e w' => e = .returned (.bool r) ∧ Drawn0 w w':=by
 have H : ((spec_l00Word.f k a0).bind fun t169 => (some t169)) = some r:=h
 clear h
 replace H:=Option.bind_eq_some_iff.mp H
 obtain ⟨t169,A20,H⟩:=H
 replace H : (some t169) = some r:=H
 have A2:=qa2 A20
 clear A20
 obtain rfl:=sO H
 go_enter Try.func72,Try.ntmps72
 go_wp2_with (first|((with_reducible refine gate_callee (f:=101) rfl ?_);refine goesL_ (some 4) rfl rfl Try.func101 (by kernel_rfl) rfl #[.string a0] rfl (by (try simp only [sE,sH,sI]);first|done|rfl|(simp only [sG,sF];rfl)) ?_;(with_reducible refine (spec_l00Word.calls k a0 t169 _ A2.out).mono ?_);rintro e w' ⟨rfl,⟨nd,rfl⟩⟩;refine ⟨_,rfl,?_⟩))
 go_ret
 exact ⟨by first|rfl|(simp;done)|(simp [*];done),by repeat (first|exact Drawn0.refl _|apply Drawn0.step)⟩

/-! ### spec_l02Text: function 42 -/
def spec_l02Text.f (k : Nat) (a0 : ByteArray) (a1 : Int) : Option (Bool):=(spec_l01In.f (a0.size : Int) 1 a1).bind fun t170 => (if t170 = true then ((spec_NameOK.f k a0).bind fun t171 => (some t171)) else (some false))
set_option maxHeartbeats 8000000 in
set_option maxRecDepth 100000 in
theorem spec_l02Text.calls (k : Nat) (a0 : ByteArray) (a1 : Int) (r : Bool) (w : World) (h : spec_l02Text.f k a0 a1 = some r) :
  Calls Try.prog 42 #[.string a0,.int .i64 a1] w fun e w' => e = .returned (.bool r) ∧ Drawn0 w w':=by
 have H : ((spec_l01In.f (a0.size : Int) 1 a1).bind fun t170 => (if t170 = true then ((spec_NameOK.f k a0).bind fun t171 => (some t171)) else (some false))) = some r:=h
 clear h
 replace H:=Option.bind_eq_some_iff.mp H
 obtain ⟨t170,A30,H⟩:=H
 replace H : (if t170 = true then ((spec_NameOK.f k a0).bind fun t171 => (some t171)) else (some false)) = some r:=H
 have A3:=qa2 A30
 clear A30
 by_cases c4 : t170 = true
 ·
  subst c4
  have H1 : ((spec_NameOK.f k a0).bind fun t171 => (some t171)) = some r:=by rw [if_pos rfl] at H;exact H
  clear H
  have H:=H1
  clear H1
  replace H:=Option.bind_eq_some_iff.mp H
  obtain ⟨t171,A50,H⟩:=H
  replace H : (some t171) = some r:=H
  have A5:=qa2 A50
  clear A50
  obtain rfl:=sO H
  go_enter Try.func42,Try.ntmps42
  go_wp2_with (first|((with_reducible refine gate_callee (f:=41) rfl ?_);refine goesL_ (some 8) rfl rfl Try.func41 (by kernel_rfl) rfl #[.int .i64 (a0.size : Int),.int .i64 1,.int .i64 a1] rfl (by (try simp only [sE,sH,sI]);first|done|rfl|(simp only [sG,sF];rfl)) ?_;(with_reducible refine (spec_l01In.calls (a0.size : Int) 1 a1 true _ A3.out).mono ?_);rintro e w' ⟨rfl,⟨nd,rfl⟩⟩;refine ⟨_,rfl,?_⟩)|(go_at_call 72;(with_reducible refine (spec_NameOK.calls k a0 t171 _ A5.out).mono ?_);rintro e w' ⟨rfl,⟨nd,rfl⟩⟩))
  go_ret
  exact ⟨by first|rfl|(simp;done)|(simp [*];done),by repeat (first|exact Drawn0.refl _|apply Drawn0.step)⟩
 ·
  replace c4:=Bool.eq_false_iff.mpr c4
  subst c4
  have H1 : (some false) = some r:=by rw [if_neg (show ¬ (false = true) by decide)] at H;exact H
  clear H
  have H:=H1
  clear H1
  obtain rfl:=sO H
  go_enter Try.func42,Try.ntmps42
  go_wp2_with (first|((with_reducible refine gate_callee (f:=41) rfl ?_);refine goesL_ (some 8) rfl rfl Try.func41 (by kernel_rfl) rfl #[.int .i64 (a0.size : Int),.int .i64 1,.int .i64 a1] rfl (by (try simp only [sE,sH,sI]);first|done|rfl|(simp only [sG,sF];rfl)) ?_;(with_reducible refine (spec_l01In.calls (a0.size : Int) 1 a1 false _ A3.out).mono ?_);rintro e w' ⟨rfl,⟨nd,rfl⟩⟩;refine ⟨_,rfl,?_⟩))
  go_ret
  exact ⟨by first|rfl|(simp;done)|(simp [*];done),by repeat (first|exact Drawn0.refl _|apply Drawn0.step)⟩

end Go.Proofs.Ytjkanhjapddhnaa.PFnExactTableBytes
