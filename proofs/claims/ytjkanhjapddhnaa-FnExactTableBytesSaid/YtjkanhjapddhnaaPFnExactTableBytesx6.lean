-- laid by this session's program myprint.py over the kit's printer
-- squeezed
-- aliased
import Derived.Test.YtjkanhjapddhnaaPFnExactTableBytesx0
import Derived.Test.YtjkanhjapddhnaaPFnExactTableBytesx3
import Derived.Test.YtjkanhjapddhnaaPFnExactTableBytesx5
namespace Go.Proofs.Ytjkanhjapddhnaa.PFnExactTableBytes
open Go.RowKit Go.Proofs.YtjkanhjapddhnaaV.PrintWords Go.Proofs.YtjkanhjapddhnaaV.PrintLast Go.Proofs.YtjkanhjapddhnaaV.PrintMore
attribute [local go_sem] max2_int min2_int max_two min_two max_three min_three max_four min_four u8_wm u32_wm   -- for this text's walks alone
set_option linter.unusedVariables false
set_option linter.unusedSimpArgs false

/-! ### impl_TableOK: function 11, given -/
section
open Go.Proofs.Ytjkanhjapddhnaa.Quiet2 Go.Lib
/-! #### the place of a waiter -/
theorem qa6 : type_of% @Aside0.mk:=@Aside0.mk
def waitsF (c : Int) : List S73 → Int → Int
 | [],_ => -1
 | s :: l,i => if s.f0 = c then i else waitsF c l (i + 1)
set_option maxHeartbeats 20000000 in
set_option maxRecDepth 100000 in
theorem waits1_calls (c0 l0 c : Int) (a : Addr) (w : World) (hc : w.cell? a = some (.int .i64 c)) : Calls Try.prog 106 #[.agg #[.int .i64 c0,.int .i64 l0],.pointer (some a)] w fun e w' => e = .returned (.bool (c0 == c)) ∧ Below w.heap.size w w':=by
 have HB0:=qa6 ((Below.refl _ w).alloc (Nat.le_refl _) (.cells #[.int .i64 c0,.int .i64 l0] 73 (0,0)))
 have h2 : (w.alloc (.cells #[.int .i64 c0,.int .i64 l0] 73 (0,0))).cell? a = some (.int .i64 c):=pw_cell_below HB0.out hc
 clear hc
 go_enter Try.func106,Try.ntmps106
 go_wp2_with fail
 go_ret
 exact ⟨rfl,HB0.out⟩
set_option maxHeartbeats 20000000 in
set_option maxRecDepth 100000 in
theorem waitsI_calls (A : Option Addr) (c0 : Nat) (l : List S73) (c : Int) (a : Addr) (w : World) (hr : Kd.C k73 w A l.length l) (hc : w.cell? a = some (.int .i64 c)) :
  Calls Try.prog 105 #[.slice A l.length c0,.func (.func 106) #[] #[.pointer (some a)]] w fun e w' => e = .returned (.int .i64 (waitsF c l 0)) ∧ Below w.heap.size w w':=by
 have hn : l.length ≤ 9223372036854775807:=hr.2.1
 have HR:=qa6 hr
 have HC:=qa6 hc
 have HB0:=qa6 (Below.refl w.heap.size w)
 clear hr hc
 go_enter Try.func105,Try.ntmps105
 go_wp2_with fail
 go_loopg [8] l.length (fun g v8 wx => ∃ k : Nat,v8 = .int .i64 k ∧ k ≤ l.length ∧ Aside0 (k + g = l.length) ∧ Aside0 (waitsF c l 0 = waitsF c (l.drop k) k) ∧ Aside0 (Below w.heap.size w wx))
 case atStart => exact ⟨0,rfl,Nat.zero_le _,⟨by omega⟩,⟨rfl⟩,HB0⟩
 case round =>
  clear HB0
  obtain ⟨k,rfl,hk,HM,hf,HB⟩:=hrel
  by_cases hlt : k < l.length
  ·
   obtain ⟨ad,eA,z0,z1⟩:=at_T73 (Kd.C_below HR.out HB.out) (k : Int) (by omega) (by omega)
   cases eA
   simp only [Int.toNat_natCast] at z0 z1
   have hd : Aside0 (l.drop k = rd_T73 l k :: l.drop (k + 1)):=⟨by rw [List.drop_eq_getElem_cons hlt];simp [rd_T73,hlt]⟩
   have q0 : ((k : Int) < (l.length : Int)) = True:=eq_true (by omega)
   have q1 : (0 ≤ (k : Int)) = True:=eq_true (by omega)
   have q2 : decide ((k : Int) < (l.length : Int)) = true:=decide_eq_true (by omega)
   have hcw:=qa6 (pw_cell_below HB.out HC.out)
   by_cases hp : (rd_T73 l k).f0 = c
   ·
    have hb : Aside0 (((rd_T73 l k).f0 == c) = true):=⟨beq_iff_eq.2 hp⟩
    have hfin : Aside0 ((k : Int) = waitsF c l 0):=⟨by rw [hf.out,hd.out,waitsF,if_pos hp]⟩
    clear hp
    go_wp2_with (go_at_call 106;refine (waits1_calls _ _ _ _ _ hcw.out).mono ?_;rintro e w' ⟨rfl,hw⟩;rw [hb.out];have HW:=qa6 (below_then HB.out HB.out.size hw);clear hw)
    go_ret
    exact ⟨congrArg (fun x => Ending.returned (.int .i64 x)) hfin.out,HW.out⟩
   ·
    have hb : Aside0 (((rd_T73 l k).f0 == c) = false):=⟨beq_eq_false_iff_ne.2 hp⟩
    have hfin : Aside0 (waitsF c l 0 = waitsF c (l.drop (k + 1)) ((k + 1 : Nat) : Int)):=⟨by rw [hf.out,hd.out,waitsF,if_neg hp];rfl⟩
    clear hp
    go_wp2_with (go_at_call 106;refine (waits1_calls _ _ _ _ _ hcw.out).mono ?_;rintro e w' ⟨rfl,hw⟩;rw [hb.out];have HW:=qa6 (below_then HB.out HB.out.size hw);clear hw)
    go_roundg (gk - 1)
    case measure => have:=HM.out;omega
    case rel => exact ⟨k + 1,by go_num,by omega,⟨by have:=HM.out;omega⟩,hfin,HW⟩
  ·
   have hfin : Aside0 ((-1 : Int) = waitsF c l 0):=⟨by rw [hf.out,List.drop_eq_nil_of_le (by omega)];rfl⟩
   go_wp2_with fail
   go_ret
   exact ⟨congrArg (fun x => Ending.returned (.int .i64 x)) hfin.out,HB.out⟩
set_option maxHeartbeats 20000000 in
set_option maxRecDepth 100000 in
theorem waits_calls (s : ByteArray) (tok hol exp : Int) (A : Option Addr) (c0 : Nat) (l : List S73) (c : Int) (w : World) (hr : Kd.C k73 w A l.length l) :
  Calls Try.prog 76 #[.agg #[.string s,.int .i64 tok,.int .i64 hol,.int .i64 exp,.slice A l.length c0],.int .i64 c] w fun e w' => e = .returned (.int .i64 (waitsF c l 0)) ∧ Below w.heap.size w w':=by
 have HR:=qa6 hr
 have HB:=qa6 (((Below.refl _ w).alloc (Nat.le_refl _) (.cells #[.string s,.int .i64 tok,.int .i64 hol,.int .i64 exp,.slice A l.length c0] 70 (0,0))).alloc (by simp) (.cells #[.int .i64 c] 3 (0,0)))
 have HC : Aside0 (((w.alloc (.cells #[.string s,.int .i64 tok,.int .i64 hol,.int .i64 exp,.slice A l.length c0] 70 (0,0))).alloc (.cells #[.int .i64 c] 3 (0,0))).cell? ⟨w.heap.size + 1,0,none⟩ = some (.int .i64 c)):=⟨by
  simp⟩
 clear hr
 go_enter Try.func76,Try.ntmps76
 go_wp2_with fail
 refine (waitsI_calls _ _ _ _ _ _ (Kd.C_below HR.out HB.out) HC.out).mono ?_
 rintro e w' ⟨rfl,hb⟩
 have HW:=qa6 (below_then HB.out HB.out.size hb)
 clear hb
 go_wp2_with fail
 go_ret
 exact ⟨rfl,HW.out⟩
/-! #### isLock -/
def textI (s : ByteArray) : Bool:=(impl_isOpName.f 99 s).getD false
def waitI (h : Int) (ws : List S73) (k : Nat) : Bool:=inB (rd_T73 ws k).f0 0 255 && (!((rd_T73 ws k).f0 == h) && (inB (rd_T73 ws k).f1 1 1000 && !decide (waitsF (rd_T73 ws k).f0 ws 0 < k)))
def lockI (next : Int) (x : S70) : Bool :=
 textI x.f0 && (inB x.f1 0 (next - 1) && (inB x.f2 (-1) 255 && (inB x.f3 0 2000000000 && (decide (x.f4.length ≤ 4) && (!((x.f2 == -1) && (!(x.f3 == 0) || decide (0 < x.f4.length))) && (List.range x.f4.length).all (waitI x.f2 x.f4))))))
set_option maxHeartbeats 20000000 in
set_option maxRecDepth 100000 in
theorem within_callsW (a b c : Int) (w : World) (v : Bool) (h : Aside0 (inB a b c = v)) : Calls Try.prog 46 #[.int .i64 a,.int .i64 b,.int .i64 c] w fun e w' => e = .returned (.bool v) ∧ w = w':=by
 rw [← h.out]
 unfold inB
 go_enter Try.func46,Try.ntmps46
 by_cases h : b ≤ a
 ·
  have h1:=decide_eq_true h
  go_wp2
  go_ret
  exact ⟨by simp [h],rfl⟩
 ·
  have h1:=decide_eq_false h
  go_wp2
  go_ret
  exact ⟨by simp [h],rfl⟩
set_option maxHeartbeats 20000000 in
set_option maxRecDepth 100000 in
theorem isLock_calls (next : Int) (x : S70) (A4 : Option Addr) (c4 : Nat) (w : World) (R : Bool) (hR : lockI next x = R) (hx : -1000 ≤ next ∧ next ≤ 1000000000) (hr : Kd.C k73 w A4 x.f4.length x.f4) (htx : ∃ b,impl_isOpName.f 99 x.f0 = some b) :
  Calls Try.prog 47 #[.agg #[.string x.f0,.int .i64 x.f1,.int .i64 x.f2,.int .i64 x.f3,.slice A4 x.f4.length c4],.int .i64 next] w fun e w' => e = .returned (.bool R) ∧ Below w.heap.size w w':=by
 obtain ⟨bt,hbt⟩:=htx
 have HBT:=qa6 hbt
 have hT : Aside0 (textI x.f0 = bt):=⟨by unfold textI;rw [hbt];rfl⟩
 clear hbt
 have hn : x.f4.length ≤ 9223372036854775807:=hr.2.1
 have HR:=qa6 hr
 have HRR:=qa6 hR
 have q1 : IntKind.i64.wrap (next - 1) = next - 1:=IntWalk.i64_in _ (by omega)
 clear hr hR
 obtain ⟨v1,h1⟩ : ∃ b,inB x.f1 0 (next - 1) = b:=⟨_,rfl⟩
 obtain ⟨v2,h2⟩ : ∃ b,inB x.f2 (-1) 255 = b:=⟨_,rfl⟩
 obtain ⟨v3,h3⟩ : ∃ b,inB x.f3 0 2000000000 = b:=⟨_,rfl⟩
 have G1:=qa6 h1
 have G2:=qa6 h2
 have G3:=qa6 h3
 clear h1 h2 h3
 have HXB:=qa6 (heap_alloc_new w (.cells #[.string x.f0,.int .i64 x.f1,.int .i64 x.f2,.int .i64 x.f3,.slice A4 x.f4.length c4] 70 (0,0)))
 have HWB:=qa6 ((Below.refl w.heap.size w).alloc (Nat.le_refl _) (.cells #[.string x.f0,.int .i64 x.f1,.int .i64 x.f2,.int .i64 x.f3,.slice A4 x.f4.length c4] 70 (0,0)))
 go_enter Try.func47,Try.ntmps47
 go_upto_region 1 with fail
 generalize w.alloc (.cells #[.string x.f0,.int .i64 x.f1,.int .i64 x.f2,.int .i64 x.f3,.slice A4 x.f4.length c4] 70 (0,0)) = W1 at HXB HWB ⊢
 have x0 : W1.cell? ⟨w.heap.size,0,none⟩ = some (.string x.f0):=(blk_cell HXB.out 0).trans rfl
 have x1 : W1.cell? ⟨w.heap.size,1,none⟩ = some (.int .i64 x.f1):=(blk_cell HXB.out 1).trans rfl
 have x2 : W1.cell? ⟨w.heap.size,2,none⟩ = some (.int .i64 x.f2):=(blk_cell HXB.out 2).trans rfl
 have x3 : W1.cell? ⟨w.heap.size,3,none⟩ = some (.int .i64 x.f3):=(blk_cell HXB.out 3).trans rfl
 have x4 : W1.cell? ⟨w.heap.size,4,none⟩ = some (.slice A4 x.f4.length c4):=(blk_cell HXB.out 4).trans rfl
 cases bt
 ·
  go_wp2_with (first|(go_at_call 46;(with_reducible first|refine (within_callsW _ _ _ _ _ G1).mono ?_|refine (within_callsW _ _ _ _ _ G2).mono ?_|refine (within_callsW _ _ _ _ _ G3).mono ?_);rintro e w' ⟨rfl,rfl⟩)|(go_at_call 75;(with_reducible refine (impl_isOpName.calls 99 _ _ _ HBT.out).mono ?_);rintro e w' ⟨rfl,⟨nd,rfl⟩⟩))
  go_ret
  exact ⟨congrArg (fun b => Ending.returned (Value.bool b)) (by rw [← HRR.out];unfold lockI;rw [hT.out];rfl),pw_below_drewN HWB.out _⟩
 cases v1
 ·
  go_wp2_with (first|(go_at_call 46;(with_reducible first|refine (within_callsW _ _ _ _ _ G1).mono ?_|refine (within_callsW _ _ _ _ _ G2).mono ?_|refine (within_callsW _ _ _ _ _ G3).mono ?_);rintro e w' ⟨rfl,rfl⟩)|(go_at_call 75;(with_reducible refine (impl_isOpName.calls 99 _ _ _ HBT.out).mono ?_);rintro e w' ⟨rfl,⟨nd,rfl⟩⟩))
  go_ret
  exact ⟨congrArg (fun b => Ending.returned (Value.bool b)) (by rw [← HRR.out];unfold lockI;rw [hT.out,G1.out];rfl),pw_below_drewN HWB.out _⟩
 cases v2
 ·
  go_wp2_with (first|(go_at_call 46;(with_reducible first|refine (within_callsW _ _ _ _ _ G1).mono ?_|refine (within_callsW _ _ _ _ _ G2).mono ?_|refine (within_callsW _ _ _ _ _ G3).mono ?_);rintro e w' ⟨rfl,rfl⟩)|(go_at_call 75;(with_reducible refine (impl_isOpName.calls 99 _ _ _ HBT.out).mono ?_);rintro e w' ⟨rfl,⟨nd,rfl⟩⟩))
  go_ret
  exact ⟨congrArg (fun b => Ending.returned (Value.bool b)) (by rw [← HRR.out];unfold lockI;rw [hT.out,G1.out,G2.out];rfl),pw_below_drewN HWB.out _⟩
 cases v3
 ·
  go_wp2_with (first|(go_at_call 46;(with_reducible first|refine (within_callsW _ _ _ _ _ G1).mono ?_|refine (within_callsW _ _ _ _ _ G2).mono ?_|refine (within_callsW _ _ _ _ _ G3).mono ?_);rintro e w' ⟨rfl,rfl⟩)|(go_at_call 75;(with_reducible refine (impl_isOpName.calls 99 _ _ _ HBT.out).mono ?_);rintro e w' ⟨rfl,⟨nd,rfl⟩⟩))
  go_ret
  exact ⟨congrArg (fun b => Ending.returned (Value.bool b)) (by rw [← HRR.out];unfold lockI;rw [hT.out,G1.out,G2.out,G3.out];rfl),pw_below_drewN HWB.out _⟩
 by_cases h4 : x.f4.length ≤ 4
 rotate_left
 ·
  have h5 : decide ((4 : Int) < (x.f4.length : Int)) = true:=decide_eq_true (by omega)
  have h6 : Aside0 (decide (x.f4.length ≤ 4) = false):=⟨decide_eq_false h4⟩
  go_wp2_with (first|(go_at_call 46;(with_reducible first|refine (within_callsW _ _ _ _ _ G1).mono ?_|refine (within_callsW _ _ _ _ _ G2).mono ?_|refine (within_callsW _ _ _ _ _ G3).mono ?_);rintro e w' ⟨rfl,rfl⟩)|(go_at_call 75;(with_reducible refine (impl_isOpName.calls 99 _ _ _ HBT.out).mono ?_);rintro e w' ⟨rfl,⟨nd,rfl⟩⟩))
  go_ret
  exact ⟨congrArg (fun b => Ending.returned (Value.bool b)) (by rw [← HRR.out];unfold lockI;rw [hT.out,G1.out,G2.out,G3.out,h6.out];rfl),pw_below_drewN HWB.out _⟩
 have h5 : decide ((4 : Int) < (x.f4.length : Int)) = false:=decide_eq_false (by omega)
 have h6 : Aside0 (decide (x.f4.length ≤ 4) = true):=⟨decide_eq_true h4⟩
 go_upto_region 3 with (first|(go_at_call 46;(with_reducible first|refine (within_callsW _ _ _ _ _ G1).mono ?_|refine (within_callsW _ _ _ _ _ G2).mono ?_|refine (within_callsW _ _ _ _ _ G3).mono ?_);rintro e w' ⟨rfl,rfl⟩)|(go_at_call 75;(with_reducible refine (impl_isOpName.calls 99 _ _ _ HBT.out).mono ?_);rintro e w' ⟨rfl,⟨nd,rfl⟩⟩))
 have HT:=qa6 (show ∀ b,(!((x.f2 == -1) && (!(x.f3 == 0) || decide (0 < x.f4.length))) && (List.range x.f4.length).all (waitI x.f2 x.f4)) = b → b = R from fun b hb => by
  rw [← HRR.out,← hb]
  unfold lockI
  rw [hT.out,G1.out,G2.out,G3.out,h6.out]
  rfl)
 clear HRR
 have HWD:=qa6 (pw_below_drewN HWB.out nd)
 have HXD : Aside0 ((W1.drewN nd).heap[w.heap.size]? = some (.cells #[.string x.f0,.int .i64 x.f1,.int .i64 x.f2,.int .i64 x.f3,.slice A4 x.f4.length c4] 70 (0,0))):=⟨HXB.out⟩
 clear x0 x1 x2 x3 x4 HXB HWB
 generalize W1.drewN nd = W2 at HWD HXD ⊢
 clear W1
 have x2 : W2.cell? ⟨w.heap.size,2,none⟩ = some (.int .i64 x.f2):=(blk_cell HXD.out 2).trans rfl
 have x3 : W2.cell? ⟨w.heap.size,3,none⟩ = some (.int .i64 x.f3):=(blk_cell HXD.out 3).trans rfl
 have x4 : W2.cell? ⟨w.heap.size,4,none⟩ = some (.slice A4 x.f4.length c4):=(blk_cell HXD.out 4).trans rfl
 go_cut [50] from 7 to 50 (fun s50 wx => wx = W2 ∧ s50 = .bool ((x.f2 == -1) && (!(x.f3 == 0) || decide (0 < x.f4.length))))
 case first =>
  by_cases c1 : x.f2 = -1
  ·
   have d1 : (x.f2 == -1) = true:=beq_iff_eq.2 c1
   clear c1
   by_cases c2 : x.f3 = 0
   ·
    have e1 : (x.f3 != 0) = false:=by simp [c2]
    have e2 : Aside0 ((x.f3 == 0) = true):=⟨by simp [c2]⟩
    clear c2
    by_cases c3 : 0 < x.f4.length
    ·
     have f1 : decide ((0 : Int) < (x.f4.length : Int)) = true:=decide_eq_true (by omega)
     have f2 : Aside0 (decide (0 < x.f4.length) = true):=⟨decide_eq_true c3⟩
     go_wp2_with fail
     go_meet
     case rel => exact ⟨rfl,by rw [d1,e2.out,f2.out];rfl⟩
    ·
     have f1 : decide ((0 : Int) < (x.f4.length : Int)) = false:=decide_eq_false (by omega)
     have f2 : Aside0 (decide (0 < x.f4.length) = false):=⟨decide_eq_false c3⟩
     go_wp2_with fail
     go_meet
     case rel => exact ⟨rfl,by rw [d1,e2.out,f2.out];rfl⟩
   ·
    have e1 : (x.f3 != 0) = true:=by simp [c2]
    have e2 : Aside0 ((x.f3 == 0) = false):=⟨by simp [c2]⟩
    clear c2
    go_wp2_with fail
    go_meet
    case rel => exact ⟨rfl,by rw [d1,e2.out];rfl⟩
  ·
   have d1 : (x.f2 == -1) = false:=beq_eq_false_iff_ne.2 c1
   clear c1
   go_wp2_with fail
   go_meet
   case rel => exact ⟨rfl,by rw [d1];rfl⟩
 case rest =>
  obtain ⟨rfl,rfl⟩:=hcut
  obtain ⟨vc,hvc⟩ : ∃ b,((x.f2 == -1) && (!(x.f3 == 0) || decide (0 < x.f4.length))) = b:=⟨_,rfl⟩
  rw [hvc]
  have HVC:=qa6 hvc
  clear hvc
  cases vc
  rotate_left
  ·
   go_wp2_with fail
   go_ret
   exact ⟨congrArg (fun b => Ending.returned (Value.bool b)) (HT.out _ (by rw [HVC.out];rfl)),HWD.out⟩
  have HS : Aside0 (∀ b,(List.range x.f4.length).all (waitI x.f2 x.f4) = b → b = R):=⟨fun b hb => HT.out b (by rw [HVC.out,hb];rfl)⟩
  clear HT HVC G1 G2 G3 hT HBT h6
  go_wp2_with fail
  clear x2 x3 x4
  go_loopg [54] x.f4.length (fun g v54 wx => ∃ k : Nat,v54 = .int .i64 k ∧ k ≤ x.f4.length ∧ Aside0 (k + g = x.f4.length) ∧ Aside0 ((List.range k).all (waitI x.f2 x.f4) = true) ∧ Aside0 (wx.heap[w.heap.size]? = some (.cells #[.string x.f0,.int .i64 x.f1,.int .i64 x.f2,.int .i64 x.f3,.slice A4 x.f4.length c4] 70 (0,0))) ∧ Aside0 (Below w.heap.size w wx))
  case atStart => exact ⟨0,rfl,Nat.zero_le _,⟨by omega⟩,⟨rfl⟩,HXD,HWD⟩
  case round =>
   clear HXD HWD
   obtain ⟨g0,rfl⟩ : ∃ g0 : Nat,g0 = gk:=⟨_,rfl⟩
   obtain ⟨wi,rfl⟩ : ∃ wi : World,wi = wr:=⟨_,rfl⟩
   obtain ⟨k,rfl,hk,HM,HL,HX,HB⟩:=hrel
   by_cases hlt : k < x.f4.length
   ·
    obtain ⟨ad4,eA4,z0,z1⟩:=at_T73 (Kd.C_below HR.out HB.out) (k : Int) (by omega) (by omega)
    cases eA4
    simp only [Int.toNat_natCast] at z0 z1
    have q0 : ((k : Int) < (x.f4.length : Int)) = True:=eq_true (by omega)
    have q1 : (0 ≤ (k : Int)) = True:=eq_true (by omega)
    have q2 : decide ((k : Int) < (x.f4.length : Int)) = true:=decide_eq_true (by omega)
    have LB : Aside0 (waitI x.f2 x.f4 k = false → false = R):=⟨fun hh => HS.out _ (by
     rw [List.all_eq_false]
     exact ⟨k,List.mem_range.2 hlt,by rw [hh];simp⟩)⟩
    go_upto_region 8 with fail
    have HVB:=qa6 (heap_alloc_new wi (Obj.cells #[.int .i64 (rd_T73 x.f4 k).f0,.int .i64 (rd_T73 x.f4 k).f1] 73 (0,0)))
    have HWB:=qa6 ((Below.refl wi.heap.size wi).alloc (Nat.le_refl _) (Obj.cells #[.int .i64 (rd_T73 x.f4 k).f0,.int .i64 (rd_T73 x.f4 k).f1] 73 (0,0)))
    have hs2 : w.heap.size < wi.heap.size:=(Array.getElem?_eq_some_iff.1 HX.out).1
    have HX3:=qa6 ((HWB.out.block _ hs2).trans HX.out)
    have HB3:=qa6 (below_then HB.out HB.out.size HWB.out)
    clear z0 z1 HX HB
    generalize wi.alloc (Obj.cells #[.int .i64 (rd_T73 x.f4 k).f0,.int .i64 (rd_T73 x.f4 k).f1] 73 (0,0)) = W2 at HVB HWB HX3 HB3 ⊢
    have u0 : W2.cell? ⟨wi.heap.size,0,none⟩ = some (.int .i64 (rd_T73 x.f4 k).f0):=(blk_cell HVB.out 0).trans rfl
    have u1 : W2.cell? ⟨wi.heap.size,1,none⟩ = some (.int .i64 (rd_T73 x.f4 k).f1):=(blk_cell HVB.out 1).trans rfl
    have x0 : W2.cell? ⟨w.heap.size,0,none⟩ = some (.string x.f0):=(blk_cell HX3.out 0).trans rfl
    have x1 : W2.cell? ⟨w.heap.size,1,none⟩ = some (.int .i64 x.f1):=(blk_cell HX3.out 1).trans rfl
    have x2 : W2.cell? ⟨w.heap.size,2,none⟩ = some (.int .i64 x.f2):=(blk_cell HX3.out 2).trans rfl
    have x3 : W2.cell? ⟨w.heap.size,3,none⟩ = some (.int .i64 x.f3):=(blk_cell HX3.out 3).trans rfl
    have x4 : W2.cell? ⟨w.heap.size,4,none⟩ = some (.slice (some ad4) x.f4.length c4):=(blk_cell HX3.out 4).trans rfl
    obtain ⟨v4,h4⟩ : ∃ b,inB (rd_T73 x.f4 k).f0 0 255 = b:=⟨_,rfl⟩
    obtain ⟨v5,h5⟩ : ∃ b,inB (rd_T73 x.f4 k).f1 1 1000 = b:=⟨_,rfl⟩
    have G4:=qa6 h4
    have G5:=qa6 h5
    clear h4 h5
    cases v4
    ·
     go_wp2_with (first|(go_at_call 46;(with_reducible first|refine (within_callsW _ _ _ _ _ G4).mono ?_|refine (within_callsW _ _ _ _ _ G5).mono ?_);rintro e w' ⟨rfl,rfl⟩)|(go_at_call 76;(refine (waits_calls _ _ _ _ _ _ x.f4 _ _ (Kd.C_below HR.out HB3.out)).mono ?_);rintro e w' ⟨rfl,hb⟩;have HB4:=qa6 (below_then HB3.out HB3.out.size hb);have HX4:=qa6 ((hb.block _ (Nat.lt_of_lt_of_le hs2 HWB.out.size)).trans HX3.out);clear hb))
     go_ret
     exact ⟨congrArg (fun b => Ending.returned (Value.bool b)) (LB.out (by unfold waitI;rw [G4.out];rfl)),HB3.out⟩
    obtain ⟨v6,h6⟩ : ∃ b,((rd_T73 x.f4 k).f0 == x.f2) = b:=⟨_,rfl⟩
    have G6:=qa6 h6
    cases v6
    rotate_left
    ·
     go_wp2_with (first|(go_at_call 46;(with_reducible first|refine (within_callsW _ _ _ _ _ G4).mono ?_|refine (within_callsW _ _ _ _ _ G5).mono ?_);rintro e w' ⟨rfl,rfl⟩)|(go_at_call 76;(refine (waits_calls _ _ _ _ _ _ x.f4 _ _ (Kd.C_below HR.out HB3.out)).mono ?_);rintro e w' ⟨rfl,hb⟩;have HB4:=qa6 (below_then HB3.out HB3.out.size hb);have HX4:=qa6 ((hb.block _ (Nat.lt_of_lt_of_le hs2 HWB.out.size)).trans HX3.out);clear hb))
     go_ret
     exact ⟨congrArg (fun b => Ending.returned (Value.bool b)) (LB.out (by unfold waitI;rw [G4.out,G6.out];rfl)),HB3.out⟩
    cases v5
    ·
     go_wp2_with (first|(go_at_call 46;(with_reducible first|refine (within_callsW _ _ _ _ _ G4).mono ?_|refine (within_callsW _ _ _ _ _ G5).mono ?_);rintro e w' ⟨rfl,rfl⟩)|(go_at_call 76;(refine (waits_calls _ _ _ _ _ _ x.f4 _ _ (Kd.C_below HR.out HB3.out)).mono ?_);rintro e w' ⟨rfl,hb⟩;have HB4:=qa6 (below_then HB3.out HB3.out.size hb);have HX4:=qa6 ((hb.block _ (Nat.lt_of_lt_of_le hs2 HWB.out.size)).trans HX3.out);clear hb))
     go_ret
     exact ⟨congrArg (fun b => Ending.returned (Value.bool b)) (LB.out (by unfold waitI;rw [G4.out,G5.out,G6.out];rfl)),HB3.out⟩
    by_cases hw : waitsF (rd_T73 x.f4 k).f0 x.f4 0 < (k : Int)
    ·
     have G7 : Aside0 (decide (waitsF (rd_T73 x.f4 k).f0 x.f4 0 < (k : Int)) = true):=⟨decide_eq_true hw⟩
     go_wp2_with (first|(go_at_call 46;(with_reducible first|refine (within_callsW _ _ _ _ _ G4).mono ?_|refine (within_callsW _ _ _ _ _ G5).mono ?_);rintro e w' ⟨rfl,rfl⟩)|(go_at_call 76;(refine (waits_calls _ _ _ _ _ _ x.f4 _ _ (Kd.C_below HR.out HB3.out)).mono ?_);rintro e w' ⟨rfl,hb⟩;have HB4:=qa6 (below_then HB3.out HB3.out.size hb);have HX4:=qa6 ((hb.block _ (Nat.lt_of_lt_of_le hs2 HWB.out.size)).trans HX3.out);clear hb))
     go_ret
     exact ⟨congrArg (fun b => Ending.returned (Value.bool b)) (LB.out (by unfold waitI;rw [G4.out,G5.out,G6.out,G7.out];rfl)),HB4.out⟩
    ·
     have G7 : Aside0 (decide (waitsF (rd_T73 x.f4 k).f0 x.f4 0 < (k : Int)) = false):=⟨decide_eq_false hw⟩
     go_wp2_with (first|(go_at_call 46;(with_reducible first|refine (within_callsW _ _ _ _ _ G4).mono ?_|refine (within_callsW _ _ _ _ _ G5).mono ?_);rintro e w' ⟨rfl,rfl⟩)|(go_at_call 76;(refine (waits_calls _ _ _ _ _ _ x.f4 _ _ (Kd.C_below HR.out HB3.out)).mono ?_);rintro e w' ⟨rfl,hb⟩;have HB4:=qa6 (below_then HB3.out HB3.out.size hb);have HX4:=qa6 ((hb.block _ (Nat.lt_of_lt_of_le hs2 HWB.out.size)).trans HX3.out);clear hb))
     go_roundg (g0 - 1)
     case measure => have:=HM.out;omega
     case rel => exact ⟨k + 1,by go_num,by omega,⟨by have:=HM.out;omega⟩,⟨by rw [List.range_succ,List.all_append,HL.out];simp [waitI,G4.out,G5.out,G6.out];simpa using G7.out⟩,HX4,HB4⟩
   ·
    obtain rfl : k = x.f4.length:=by omega
    go_wp2_with fail
    go_ret
    exact ⟨congrArg (fun b => Ending.returned (Value.bool b)) (HS.out _ HL.out),HB.out⟩
/-! #### impl.TableOK -/
def lockIB (next : Int) (l2 : List S70) (i : Nat) : Bool:=lockI next (rd_T70 l2 i) && (i == 0 || Op.bytesLess (rd_T70 l2 ((i : Int) - 1)).f0.toList (rd_T70 l2 i).f0.toList)
def tableI (t0 t1 : Int) (l2 : List S70) (l3 : List S77) : Bool:=inB t0 0 1000000000 && (inB t1 1 1000000 && (decide (l2.length ≤ 4) && (decide (l3.length ≤ 6) && ((List.range l2.length).all (lockIB t1 l2) && (List.range l3.length).all (seenB l3)))))
set_option maxHeartbeats 20000000 in
set_option maxRecDepth 100000 in
theorem within_f (a b c : Int) : impl_within.f a b c = some (inB a b c):=by
 unfold impl_within.f inB
 by_cases h : b ≤ a
 ·
  rw [if_pos h,decide_eq_true h];rfl
 ·
  rw [if_neg h,decide_eq_false h];rfl
set_option maxHeartbeats 20000000 in
set_option maxRecDepth 100000 in
theorem ansI_f (a b c d : Int) (v : Bool) (h : Aside0 (ansB ⟨a,b,c,d⟩ = v)) : impl_isAnswer.f a b c d = some v:=by
 rw [← h.out]
 unfold impl_isAnswer.f ansB
 simp only [within_f,Option.bind_some]
 cases inB a 1 8 <;> cases inB b 0 1000000 <;> cases inB c (-1) 255 <;> rfl
set_option maxHeartbeats 20000000 in
set_option maxRecDepth 100000 in
theorem tableI_calls (t0 t1 : Int) (A2 A3 : Option Addr) (c2 c3 : Nat) (l2 : List S70) (l3 : List S77) (w : World) (R : Bool) (hR : tableI t0 t1 l2 l3 = R) (hr2 : Kd.C k70 w A2 l2.length l2) (hr3 : Kd.C k77 w A3 l3.length l3)
  (htx : ∀ i : Nat,i < l2.length → ∃ b,impl_isOpName.f 99 (rd_T70 l2 i).f0 = some b) :
  Calls Try.prog 11 #[.agg #[.int .i64 t0,.int .i64 t1,.slice A2 l2.length c2,.slice A3 l3.length c3]] w fun e w' => e = .returned (.bool R) ∧ Below w.heap.size w w':=by
 have hn2 : l2.length ≤ 9223372036854775807:=hr2.2.1
 have hn3 : l3.length ≤ 9223372036854775807:=hr3.2.1
 have HR2:=qa6 hr2
 have HR3:=qa6 hr3
 have HTX:=qa6 htx
 have HG0:=qa6 (heap_alloc_new w (.cells #[.int .i64 t0,.int .i64 t1,.slice A2 l2.length c2,.slice A3 l3.length c3] 31 (0,0)))
 have HB0:=qa6 ((Below.refl _ w).alloc (Nat.le_refl _) (.cells #[.int .i64 t0,.int .i64 t1,.slice A2 l2.length c2,.slice A3 l3.length c3] 31 (0,0)))
 clear hr2 hr3 htx
 have HRR:=qa6 hR
 clear hR
 obtain ⟨v0,h0⟩ : ∃ b,inB t0 0 1000000000 = b:=⟨_,rfl⟩
 obtain ⟨v1,h1⟩ : ∃ b,inB t1 1 1000000 = b:=⟨_,rfl⟩
 have H0:=qa6 h0
 have H1:=qa6 h1
 clear h0 h1
 go_enter Try.func11,Try.ntmps11
 cases v0
 ·
  go_wp2_with (first|(go_at_call 46;(with_reducible first|refine (within_callsW _ _ _ _ _ H0).mono ?_|refine (within_callsW _ _ _ _ _ H1).mono ?_);rintro e w' ⟨rfl,rfl⟩))
  go_ret
  exact ⟨congrArg (fun b => Ending.returned (Value.bool b)) (by rw [← HRR.out];unfold tableI;rw [H0.out];rfl),HB0.out⟩
 cases v1
 ·
  go_wp2_with (first|(go_at_call 46;(with_reducible first|refine (within_callsW _ _ _ _ _ H0).mono ?_|refine (within_callsW _ _ _ _ _ H1).mono ?_);rintro e w' ⟨rfl,rfl⟩))
  go_ret
  exact ⟨congrArg (fun b => Ending.returned (Value.bool b)) (by rw [← HRR.out];unfold tableI;rw [H1.out];simp),HB0.out⟩
 by_cases hl2 : 4 < l2.length
 ·
  go_wp2_with (first|(go_at_call 46;(with_reducible first|refine (within_callsW _ _ _ _ _ H0).mono ?_|refine (within_callsW _ _ _ _ _ H1).mono ?_);rintro e w' ⟨rfl,rfl⟩))
  go_ret
  exact ⟨congrArg (fun b => Ending.returned (Value.bool b)) (by rw [← HRR.out];unfold tableI;rw [decide_eq_false (by omega : ¬ l2.length ≤ 4)];simp),HB0.out⟩
 by_cases hl3 : 6 < l3.length
 ·
  go_wp2_with (first|(go_at_call 46;(with_reducible first|refine (within_callsW _ _ _ _ _ H0).mono ?_|refine (within_callsW _ _ _ _ _ H1).mono ?_);rintro e w' ⟨rfl,rfl⟩))
  go_ret
  exact ⟨congrArg (fun b => Ending.returned (Value.bool b)) (by rw [← HRR.out];unfold tableI;rw [decide_eq_false (by omega : ¬ l3.length ≤ 6)];simp),HB0.out⟩
 go_wp2_with (first|(go_at_call 46;(with_reducible first|refine (within_callsW _ _ _ _ _ H0).mono ?_|refine (within_callsW _ _ _ _ _ H1).mono ?_);rintro e w' ⟨rfl,rfl⟩))
 have HT : Aside0 (∀ b,((List.range l2.length).all (lockIB t1 l2) && (List.range l3.length).all (seenB l3)) = b → b = R):=⟨fun b hb => by
  rw [← HRR.out,← hb]
  unfold tableI
  rw [H0.out,H1.out,decide_eq_true (by omega : l2.length ≤ 4),decide_eq_true (by omega : l3.length ≤ 6)]
  rfl⟩
 have HX1 : Aside0 (1 ≤ t1 ∧ t1 ≤ 1000000):=⟨by
  have:=H1.out
  unfold inB at this
  simpa using this⟩
 clear HRR
 go_loopg [32] (l2.length) (fun g v3 wr => ∃ i : Nat,v3 = .int .i64 i ∧ i ≤ l2.length ∧ Aside0 (i + g = l2.length) ∧ Aside0 ((List.range i).all (lockIB t1 l2) = true) ∧ Aside0 (wr.heap[w.heap.size]? = some (.cells #[.int .i64 t0,.int .i64 t1,.slice A2 l2.length c2,.slice A3 l3.length c3] 31 (0,0))) ∧ Aside0 (Below w.heap.size w wr))
 case atStart => exact ⟨0,rfl,Nat.zero_le _,⟨by omega⟩,⟨rfl⟩,HG0,HB0⟩
 case round =>
  clear HG0 HB0
  obtain ⟨wo,rfl⟩ : ∃ wo : World,wo = wr:=⟨_,rfl⟩
  obtain ⟨go,rfl⟩ : ∃ go : Nat,go = gk:=⟨_,rfl⟩
  obtain ⟨i,rfl,hi,HM,HL,HG,HB⟩:=hrel
  by_cases hlt : i < l2.length
  ·
   obtain ⟨ad,A4,c4,eA,y0,y1,y2,y3,y4,hl4,hr4⟩:=at_T70 (Kd.C_below HR2.out HB.out) (i : Int) (by omega) (by omega)
   cases eA
   simp only [Int.toNat_natCast] at y0 y1 y2 y3 y4
   have HR4o:=qa6 hr4
   clear hr4 hl4
   have p0 : ((i : Int) < (l2.length : Int)) = True:=eq_true (by omega)
   have p1 : (0 ≤ (i : Int)) = True:=eq_true (by omega)
   have p2 : decide ((i : Int) < (l2.length : Int)) = true:=decide_eq_true (by omega)
   go_upto_region 6 with fail
   have HXB:=qa6 (heap_alloc_new wo (Obj.cells #[.string (rd_T70 l2 i).f0,.int .i64 (rd_T70 l2 i).f1,.int .i64 (rd_T70 l2 i).f2,.int .i64 (rd_T70 l2 i).f3,.slice A4 (rd_T70 l2 i).f4.length c4] 70 (0,0)))
   have HWB:=qa6 ((Below.refl wo.heap.size wo).alloc (Nat.le_refl _) (Obj.cells #[.string (rd_T70 l2 i).f0,.int .i64 (rd_T70 l2 i).f1,.int .i64 (rd_T70 l2 i).f2,.int .i64 (rd_T70 l2 i).f3,.slice A4 (rd_T70 l2 i).f4.length c4] 70 (0,0)))
   have hsz : w.heap.size < wo.heap.size:=(Array.getElem?_eq_some_iff.1 HG.out).1
   have HG1:=qa6 ((HWB.out.block _ hsz).trans HG.out)
   have HB1:=qa6 (below_then HB.out HB.out.size HWB.out)
   have HR4:=qa6 (Kd.C_below HR4o.out HWB.out)
   have hp : ∀ j : Nat,j < l2.length → (wo.alloc (Obj.cells #[.string (rd_T70 l2 i).f0,.int .i64 (rd_T70 l2 i).f1,.int .i64 (rd_T70 l2 i).f2,.int .i64 (rd_T70 l2 i).f3,.slice A4 (rd_T70 l2 i).f4.length c4] 70 (0,0))).cell? (ad.add (j * 5)) = some (.string (rd_T70 l2 j).f0):=fun j hj => by
    obtain ⟨ad',A4',c4',eA',yy0,-⟩:=at_T70 (Kd.C_below HR2.out HB.out) (j : Int) (by omega) (by omega)
    cases eA'
    exact pw_cell_below HWB.out yy0
   have HP:=qa6 hp
   clear hp y0 y1 y2 y3 y4 HR4o HG HB HWB
   generalize wo.alloc (Obj.cells #[.string (rd_T70 l2 i).f0,.int .i64 (rd_T70 l2 i).f1,.int .i64 (rd_T70 l2 i).f2,.int .i64 (rd_T70 l2 i).f3,.slice A4 (rd_T70 l2 i).f4.length c4] 70 (0,0)) = W1 at HXB HG1 HB1 HP HR4 ⊢
   have x0 : ∀ x : Blw W1,x.w.cell? ⟨wo.heap.size,0,none⟩ = some (.string (rd_T70 l2 i).f0):=Blw.cell ((blk_cell HXB.out 0).trans rfl)
   have x1 : ∀ x : Blw W1,x.w.cell? ⟨wo.heap.size,1,none⟩ = some (.int .i64 (rd_T70 l2 i).f1):=Blw.cell ((blk_cell HXB.out 1).trans rfl)
   have x2 : ∀ x : Blw W1,x.w.cell? ⟨wo.heap.size,2,none⟩ = some (.int .i64 (rd_T70 l2 i).f2):=Blw.cell ((blk_cell HXB.out 2).trans rfl)
   have x3 : ∀ x : Blw W1,x.w.cell? ⟨wo.heap.size,3,none⟩ = some (.int .i64 (rd_T70 l2 i).f3):=Blw.cell ((blk_cell HXB.out 3).trans rfl)
   have x4 : ∀ x : Blw W1,x.w.cell? ⟨wo.heap.size,4,none⟩ = some (.slice A4 (rd_T70 l2 i).f4.length c4):=Blw.cell ((blk_cell HXB.out 4).trans rfl)
   have b1 : ∀ x : Blw W1,x.w.cell? ⟨w.heap.size,1,none⟩ = some (.int .i64 t1):=Blw.cell ((blk_cell HG1.out 1).trans rfl)
   have b2 : ∀ x : Blw W1,x.w.cell? ⟨w.heap.size,2,none⟩ = some (.slice (some ad) l2.length c2):=Blw.cell ((blk_cell HG1.out 2).trans rfl)
   have LB : Aside0 (lockIB t1 l2 i = false → false = R):=⟨fun hh => HT.out _ (by
    rw [Bool.and_eq_false_iff]
    left
    rw [List.all_eq_false]
    exact ⟨i,List.mem_range.2 hlt,by rw [hh];simp⟩)⟩
   obtain ⟨vl,hvl⟩ : ∃ b,lockI t1 (rd_T70 l2 i) = b:=⟨_,rfl⟩
   have GL:=qa6 hvl
   clear hvl
   go_cut [57] (fun s57 wx => s57 = .bool (!lockIB t1 l2 i) ∧ Aside0 (Below W1.heap.size W1 wx))
   case first =>
    cases vl
    ·
     refine wp_region_blw (by kernel_rfl) (by kernel_rfl) ?_
     repeat (go_big_quiet_step (first
      | exact Calls.blw (isLock_calls t1 (rd_T70 l2 i) _ _ _ _ GL.out (by have:=HX1.out;omega) (Kd.C_below HR4.out (Blw.h _)) (HTX.out i hlt))))
     refine wpQuiet_nil ?_
     intro _ hw'
     obtain ⟨xq,rfl⟩:=hw'
     have HXQ:=qa6 xq.h
     go_wp2_with fail
     go_meet
     case rel =>
      have hh : lockIB t1 l2 i = false:=by
       unfold lockIB
       rw [GL.out];rfl
      exact ⟨by rw [hh];rfl,HXQ⟩
    by_cases hi0 : i = 0
    ·
     have z0 : Aside0 ((i == 0 || Op.bytesLess (rd_T70 l2 ((i : Int) - 1)).f0.toList (rd_T70 l2 i).f0.toList) = true):=⟨by simp [hi0]⟩
     have z1 : ((0 : Int) < (i : Int)) = False:=eq_false (by omega)
     have z2 : decide ((0 : Int) < (i : Int)) = false:=decide_eq_false (by omega)
     have z3 : ((i : Int) = 0) = True:=eq_true (by omega)
     have z4 : (0 < i) = False:=eq_false (by omega)
     have z5 : decide (0 < i) = false:=decide_eq_false (by omega)
     clear hi0
     refine wp_region_blw (by kernel_rfl) (by kernel_rfl) ?_
     repeat (go_big_quiet_step (first
      | exact Calls.blw (isLock_calls t1 (rd_T70 l2 i) _ _ _ _ GL.out (by have:=HX1.out;omega) (Kd.C_below HR4.out (Blw.h _)) (HTX.out i hlt))))
     refine wpQuiet_nil ?_
     intro _ hw'
     obtain ⟨xq,rfl⟩:=hw'
     have HXQ:=qa6 xq.h
     go_wp2_with fail
     go_meet
     case rel =>
      have hh : lockIB t1 l2 i = true:=by
       unfold lockIB
       rw [GL.out,z0.out];rfl
      exact ⟨by rw [hh];rfl,HXQ⟩
    ·
     have z1 : ((0 : Int) < (i : Int)) = True:=eq_true (by omega)
     have z2 : decide ((0 : Int) < (i : Int)) = true:=decide_eq_true (by omega)
     have z3 : ((i : Int) = 0) = False:=eq_false (by omega)
     have z4 : (0 < i) = True:=eq_true (by omega)
     have z5 : decide (0 < i) = true:=decide_eq_true (by omega)
     have z6 : (1 ≤ (i : Int)) = True:=eq_true (by omega)
     have z7 : ((i : Int) - 1 < (l2.length : Int)) = True:=eq_true (by omega)
     have z8 : IntKind.i64.wrap ((i : Int) - 1) = (i : Int) - 1:=IntWalk.i64_in _ (by omega)
     have z9 : (0 ≤ (i : Int) - 1) = True:=eq_true (by omega)
     have e1 : ((i - 1 : Nat) : Int) = (i : Int) - 1:=by omega
     have hq0:=Blw.cell (HP.out (i - 1) (by omega))
     rw [e1] at hq0
     have z10 : ((i : Int) - 1).toNat = i - 1:=by omega
     have N0 : Aside0 ((i == 0) = false):=⟨by simp [hi0]⟩
     clear e1 hi0 HP
     obtain ⟨vb,hvb⟩ : ∃ b,Op.bytesLess (rd_T70 l2 ((i : Int) - 1)).f0.toList (rd_T70 l2 i).f0.toList = b:=⟨_,rfl⟩
     have z0 : Aside0 ((i == 0 || Op.bytesLess (rd_T70 l2 ((i : Int) - 1)).f0.toList (rd_T70 l2 i).f0.toList) = vb):=⟨by rw [N0.out,hvb];rfl⟩
     cases vb
     ·
      refine wp_region_blw (by kernel_rfl) (by kernel_rfl) ?_
      repeat (go_big_quiet_step (first
       | exact Calls.blw (isLock_calls t1 (rd_T70 l2 i) _ _ _ _ GL.out (by have:=HX1.out;omega) (Kd.C_below HR4.out (Blw.h _)) (HTX.out i hlt))))
      refine wpQuiet_nil ?_
      intro _ hw'
      obtain ⟨xq,rfl⟩:=hw'
      have HXQ:=qa6 xq.h
      go_wp2_with fail
      go_meet
      case rel =>
       have hh : lockIB t1 l2 i = false:=by
        unfold lockIB
        rw [GL.out,z0.out];rfl
       exact ⟨by rw [hh];rfl,HXQ⟩
     ·
      refine wp_region_blw (by kernel_rfl) (by kernel_rfl) ?_
      repeat (go_big_quiet_step (first
       | exact Calls.blw (isLock_calls t1 (rd_T70 l2 i) _ _ _ _ GL.out (by have:=HX1.out;omega) (Kd.C_below HR4.out (Blw.h _)) (HTX.out i hlt))))
      refine wpQuiet_nil ?_
      intro _ hw'
      obtain ⟨xq,rfl⟩:=hw'
      have HXQ:=qa6 xq.h
      go_wp2_with fail
      go_meet
      case rel =>
       have hh : lockIB t1 l2 i = true:=by
        unfold lockIB
        rw [GL.out,z0.out];rfl
       exact ⟨by rw [hh];rfl,HXQ⟩
   case rest =>
    obtain ⟨rfl,HWC⟩:=hcut
    clear x0 x1 x2 x3 x4 b1 b2 HP HR4 GL
    have hsz1 : w.heap.size < W1.heap.size:=(Array.getElem?_eq_some_iff.1 HG1.out).1
    have HGC:=qa6 ((HWC.out.block _ hsz1).trans HG1.out)
    have HBC:=qa6 (below_then HB1.out HB1.out.size HWC.out)
    obtain ⟨vh,hvh⟩ : ∃ b,lockIB t1 l2 i = b:=⟨_,rfl⟩
    rw [hvh]
    have HVH:=qa6 hvh
    clear hvh
    cases vh
    ·
     go_wp2_with fail
     go_ret
     exact ⟨congrArg (fun b => Ending.returned (Value.bool b)) (LB.out HVH.out),HBC.out⟩
    go_wp2_with fail
    go_roundg (go - 1)
    case measure => have:=HM.out;omega
    case rel => exact ⟨i + 1,by go_num,by omega,⟨by have:=HM.out;omega⟩,⟨by rw [List.range_succ,List.all_append,HL.out];simp [HVH.out]⟩,HGC,HBC⟩
  ·
   obtain rfl : i = l2.length:=by omega
   have HS : Aside0 (∀ b,(List.range l3.length).all (seenB l3) = b → b = R):=⟨fun b hb => HT.out b (by rw [HL.out,hb];rfl)⟩
   have b3 : wo.cell? ⟨w.heap.size,3,none⟩ = some (.slice A3 l3.length c3):=(blk_cell HG.out 3).trans rfl
   clear HT HL HM HTX
   go_wp2_with fail
   clear b3
   go_loopg [62] (l3.length) (fun g v8 wx => ∃ i : Nat,v8 = .int .i64 i ∧ i ≤ l3.length ∧ Aside0 (i + g = l3.length) ∧ Aside0 ((List.range i).all (seenB l3) = true) ∧ Aside0 (wx.heap[w.heap.size]? = some (.cells #[.int .i64 t0,.int .i64 t1,.slice A2 l2.length c2,.slice A3 l3.length c3] 31 (0,0))) ∧ Aside0 (Below w.heap.size w wx))
   case atStart => exact ⟨0,rfl,Nat.zero_le _,⟨by omega⟩,⟨rfl⟩,HG,HB⟩
   case round =>
    clear HG HB
    obtain ⟨go,rfl⟩ : ∃ go : Nat,go = gk:=⟨_,rfl⟩
    obtain ⟨wn,rfl⟩ : ∃ wn : World,wn = wr:=⟨_,rfl⟩
    obtain ⟨i,rfl,hi,HM,HL,HG,HB⟩:=hrel
    by_cases hlt : i < l3.length
    ·
     obtain ⟨ad,eA,y0,y1,y2,y3,y4,y5⟩:=at_T77 (Kd.C_below HR3.out HB.out) (i : Int) (by omega) (by omega)
     cases eA
     simp only [Int.toNat_natCast] at y0 y1 y2 y3 y4 y5
     have p0 : ((i : Int) < (l3.length : Int)) = True:=eq_true (by omega)
     have p1 : (0 ≤ (i : Int)) = True:=eq_true (by omega)
     have p2 : decide ((i : Int) < (l3.length : Int)) = true:=decide_eq_true (by omega)
     have LB : Aside0 (seenB l3 i = false → false = R):=⟨fun hh => HS.out _ (by
      rw [List.all_eq_false]
      exact ⟨i,List.mem_range.2 hlt,by rw [hh];simp⟩)⟩
     go_upto_region 12 with fail
     have HXB:=qa6 (heap_alloc_new wn (Obj.cells #[.int .i64 (rd_T77 l3 i).f0,.int .i64 (rd_T77 l3 i).f1,.int .i64 (rd_T77 l3 i).f2.f0,.int .i64 (rd_T77 l3 i).f2.f1,.int .i64 (rd_T77 l3 i).f2.f2,.int .i64 (rd_T77 l3 i).f2.f3] 77 (0,0)))
     have HWB:=qa6 ((Below.refl wn.heap.size wn).alloc (Nat.le_refl _) (Obj.cells #[.int .i64 (rd_T77 l3 i).f0,.int .i64 (rd_T77 l3 i).f1,.int .i64 (rd_T77 l3 i).f2.f0,.int .i64 (rd_T77 l3 i).f2.f1,.int .i64 (rd_T77 l3 i).f2.f2,.int .i64 (rd_T77 l3 i).f2.f3] 77 (0,0)))
     have hsz : w.heap.size < wn.heap.size:=(Array.getElem?_eq_some_iff.1 HG.out).1
     have HG1:=qa6 ((HWB.out.block _ hsz).trans HG.out)
     have HB1:=qa6 (below_then HB.out HB.out.size HWB.out)
     have hp : ∀ j : Nat,j < l3.length → (wn.alloc (Obj.cells #[.int .i64 (rd_T77 l3 i).f0,.int .i64 (rd_T77 l3 i).f1,.int .i64 (rd_T77 l3 i).f2.f0,.int .i64 (rd_T77 l3 i).f2.f1,.int .i64 (rd_T77 l3 i).f2.f2,.int .i64 (rd_T77 l3 i).f2.f3] 77 (0,0))).cell? (ad.add (j * 6)) = some (.int .i64 (rd_T77 l3 j).f0):=fun j hj => by
      obtain ⟨ad',eA',yy0,-⟩:=at_T77 (Kd.C_below HR3.out HB.out) (j : Int) (by omega) (by omega)
      cases eA'
      exact pw_cell_below HWB.out yy0
     have HP:=qa6 hp
     clear hp y0 y1 y2 y3 y4 y5 HWB HG HB
     generalize wn.alloc (Obj.cells #[.int .i64 (rd_T77 l3 i).f0,.int .i64 (rd_T77 l3 i).f1,.int .i64 (rd_T77 l3 i).f2.f0,.int .i64 (rd_T77 l3 i).f2.f1,.int .i64 (rd_T77 l3 i).f2.f2,.int .i64 (rd_T77 l3 i).f2.f3] 77 (0,0)) = W1 at HXB HG1 HB1 HP ⊢
     have x0 : ∀ x : Blw W1,x.w.cell? ⟨wn.heap.size,0,none⟩ = some (.int .i64 (rd_T77 l3 i).f0):=Blw.cell ((blk_cell HXB.out 0).trans rfl)
     have x1 : ∀ x : Blw W1,x.w.cell? ⟨wn.heap.size,1,none⟩ = some (.int .i64 (rd_T77 l3 i).f1):=Blw.cell ((blk_cell HXB.out 1).trans rfl)
     have x2 : ∀ x : Blw W1,x.w.cell? ⟨wn.heap.size,2,none⟩ = some (.int .i64 (rd_T77 l3 i).f2.f0):=Blw.cell ((blk_cell HXB.out 2).trans rfl)
     have x3 : ∀ x : Blw W1,x.w.cell? ⟨wn.heap.size,3,none⟩ = some (.int .i64 (rd_T77 l3 i).f2.f1):=Blw.cell ((blk_cell HXB.out 3).trans rfl)
     have x4 : ∀ x : Blw W1,x.w.cell? ⟨wn.heap.size,4,none⟩ = some (.int .i64 (rd_T77 l3 i).f2.f2):=Blw.cell ((blk_cell HXB.out 4).trans rfl)
     have x5 : ∀ x : Blw W1,x.w.cell? ⟨wn.heap.size,5,none⟩ = some (.int .i64 (rd_T77 l3 i).f2.f3):=Blw.cell ((blk_cell HXB.out 5).trans rfl)
     have b3 : ∀ x : Blw W1,x.w.cell? ⟨w.heap.size,3,none⟩ = some (.slice (some ad) l3.length c3):=Blw.cell ((blk_cell HG1.out 3).trans rfl)
     obtain ⟨v1,h1⟩ : ∃ b,inB (rd_T77 l3 i).f0 0 255 = b:=⟨_,rfl⟩
     obtain ⟨v2,h2⟩ : ∃ b,inB (rd_T77 l3 i).f1 1 65535 = b:=⟨_,rfl⟩
     obtain ⟨v3,h3⟩ : ∃ b,ansB (rd_T77 l3 i).f2 = b:=⟨_,rfl⟩
     have G1:=qa6 h1
     have G2:=qa6 h2
     have G3:=qa6 h3
     clear h1 h2 h3
     go_cut [98] (fun s98 wx => s98 = .bool (!seenB l3 i) ∧ Aside0 (Below W1.heap.size W1 wx))
     case first =>
      cases v1
      ·
       refine wp_region_blw (by kernel_rfl) (by kernel_rfl) ?_
       repeat (go_big_quiet_step (first
        | (with_reducible first|exact Calls.blw_same (within_callsW _ _ _ _ _ G1)|exact Calls.blw_same (within_callsW _ _ _ _ _ G2))
        | exact Calls.blw (impl_isAnswer.calls _ _ _ _ _ _ (ansI_f _ _ _ _ _ G3))))
       refine wpQuiet_nil ?_
       intro _ hw'
       obtain ⟨xq,rfl⟩:=hw'
       have HXQ:=qa6 xq.h
       go_wp2_with fail
       go_meet
       case rel =>
        have hh : seenB l3 i = false:=by
         unfold seenB
         rw [G1.out];rfl
        exact ⟨by rw [hh];rfl,HXQ⟩
      cases v2
      ·
       refine wp_region_blw (by kernel_rfl) (by kernel_rfl) ?_
       repeat (go_big_quiet_step (first
        | (with_reducible first|exact Calls.blw_same (within_callsW _ _ _ _ _ G1)|exact Calls.blw_same (within_callsW _ _ _ _ _ G2))
        | exact Calls.blw (impl_isAnswer.calls _ _ _ _ _ _ (ansI_f _ _ _ _ _ G3))))
       refine wpQuiet_nil ?_
       intro _ hw'
       obtain ⟨xq,rfl⟩:=hw'
       have HXQ:=qa6 xq.h
       go_wp2_with fail
       go_meet
       case rel =>
        have hh : seenB l3 i = false:=by
         unfold seenB
         rw [G1.out,G2.out];rfl
        exact ⟨by rw [hh];rfl,HXQ⟩
      cases v3
      ·
       refine wp_region_blw (by kernel_rfl) (by kernel_rfl) ?_
       repeat (go_big_quiet_step (first
        | (with_reducible first|exact Calls.blw_same (within_callsW _ _ _ _ _ G1)|exact Calls.blw_same (within_callsW _ _ _ _ _ G2))
        | exact Calls.blw (impl_isAnswer.calls _ _ _ _ _ _ (ansI_f _ _ _ _ _ G3))))
       refine wpQuiet_nil ?_
       intro _ hw'
       obtain ⟨xq,rfl⟩:=hw'
       have HXQ:=qa6 xq.h
       go_wp2_with fail
       go_meet
       case rel =>
        have hh : seenB l3 i = false:=by
         unfold seenB
         rw [G1.out,G2.out,G3.out];rfl
        exact ⟨by rw [hh];rfl,HXQ⟩
      by_cases hi0 : i = 0
      ·
       have z0 : Aside0 ((i == 0 || decide ((rd_T77 l3 ((i : Int) - 1)).f0 < (rd_T77 l3 i).f0)) = true):=⟨by simp [hi0]⟩
       have z1 : ((0 : Int) < (i : Int)) = False:=eq_false (by omega)
       have z2 : decide ((0 : Int) < (i : Int)) = false:=decide_eq_false (by omega)
       have z3 : ((i : Int) = 0) = True:=eq_true (by omega)
       have z4 : (0 < i) = False:=eq_false (by omega)
       have z5 : decide (0 < i) = false:=decide_eq_false (by omega)
       clear hi0
       refine wp_region_blw (by kernel_rfl) (by kernel_rfl) ?_
       repeat (go_big_quiet_step (first
        | (with_reducible first|exact Calls.blw_same (within_callsW _ _ _ _ _ G1)|exact Calls.blw_same (within_callsW _ _ _ _ _ G2))
        | exact Calls.blw (impl_isAnswer.calls _ _ _ _ _ _ (ansI_f _ _ _ _ _ G3))))
       refine wpQuiet_nil ?_
       intro _ hw'
       obtain ⟨xq,rfl⟩:=hw'
       have HXQ:=qa6 xq.h
       go_wp2_with fail
       go_meet
       case rel =>
        have hh : seenB l3 i = true:=by
         unfold seenB
         rw [G1.out,G2.out,G3.out,z0.out];rfl
        exact ⟨by rw [hh];rfl,HXQ⟩
      ·
       have z1 : ((0 : Int) < (i : Int)) = True:=eq_true (by omega)
       have z2 : decide ((0 : Int) < (i : Int)) = true:=decide_eq_true (by omega)
       have z3 : ((i : Int) = 0) = False:=eq_false (by omega)
       have z4 : (0 < i) = True:=eq_true (by omega)
       have z5 : decide (0 < i) = true:=decide_eq_true (by omega)
       have z6 : (1 ≤ (i : Int)) = True:=eq_true (by omega)
       have z7 : ((i : Int) - 1 < (l3.length : Int)) = True:=eq_true (by omega)
       have z8 : IntKind.i64.wrap ((i : Int) - 1) = (i : Int) - 1:=IntWalk.i64_in _ (by omega)
       have z9 : (0 ≤ (i : Int) - 1) = True:=eq_true (by omega)
       have e1 : ((i - 1 : Nat) : Int) = (i : Int) - 1:=by omega
       have hq0:=Blw.cell (HP.out (i - 1) (by omega))
       rw [e1] at hq0
       have z10 : ((i : Int) - 1).toNat = i - 1:=by omega
       have N0 : Aside0 ((i == 0) = false):=⟨by simp [hi0]⟩
       clear e1 hi0 HP
       by_cases hvb : (rd_T77 l3 ((i : Int) - 1)).f0 < (rd_T77 l3 i).f0
       ·
        have z0 : Aside0 ((i == 0 || decide ((rd_T77 l3 ((i : Int) - 1)).f0 < (rd_T77 l3 i).f0)) = true):=⟨by rw [N0.out,decide_eq_true hvb];rfl⟩
        have hvc : decide ((rd_T77 l3 i).f0 ≤ (rd_T77 l3 ((i : Int) - 1)).f0) = false:=decide_eq_false (by omega)
        refine wp_region_blw (by kernel_rfl) (by kernel_rfl) ?_
        repeat (go_big_quiet_step (first
         | (with_reducible first|exact Calls.blw_same (within_callsW _ _ _ _ _ G1)|exact Calls.blw_same (within_callsW _ _ _ _ _ G2))
         | exact Calls.blw (impl_isAnswer.calls _ _ _ _ _ _ (ansI_f _ _ _ _ _ G3))))
        refine wpQuiet_nil ?_
        intro _ hw'
        obtain ⟨xq,rfl⟩:=hw'
        have HXQ:=qa6 xq.h
        go_wp2_with fail
        go_meet
        case rel =>
         have hh : seenB l3 i = true:=by
          unfold seenB
          rw [G1.out,G2.out,G3.out,z0.out];rfl
         exact ⟨by rw [hh];rfl,HXQ⟩
       ·
        have z0 : Aside0 ((i == 0 || decide ((rd_T77 l3 ((i : Int) - 1)).f0 < (rd_T77 l3 i).f0)) = false):=⟨by rw [N0.out,decide_eq_false hvb];rfl⟩
        have hvc : decide ((rd_T77 l3 i).f0 ≤ (rd_T77 l3 ((i : Int) - 1)).f0) = true:=decide_eq_true (by omega)
        refine wp_region_blw (by kernel_rfl) (by kernel_rfl) ?_
        repeat (go_big_quiet_step (first
         | (with_reducible first|exact Calls.blw_same (within_callsW _ _ _ _ _ G1)|exact Calls.blw_same (within_callsW _ _ _ _ _ G2))
         | exact Calls.blw (impl_isAnswer.calls _ _ _ _ _ _ (ansI_f _ _ _ _ _ G3))))
        refine wpQuiet_nil ?_
        intro _ hw'
        obtain ⟨xq,rfl⟩:=hw'
        have HXQ:=qa6 xq.h
        go_wp2_with fail
        go_meet
        case rel =>
         have hh : seenB l3 i = false:=by
          unfold seenB
          rw [G1.out,G2.out,G3.out,z0.out];rfl
         exact ⟨by rw [hh];rfl,HXQ⟩
     case rest =>
      obtain ⟨rfl,HWC⟩:=hcut
      clear x0 x1 x2 x3 x4 x5 b3 G1 G2 G3 HP
      have hsz1 : w.heap.size < W1.heap.size:=(Array.getElem?_eq_some_iff.1 HG1.out).1
      have HGC:=qa6 ((HWC.out.block _ hsz1).trans HG1.out)
      have HBC:=qa6 (below_then HB1.out HB1.out.size HWC.out)
      obtain ⟨vh,hvh⟩ : ∃ b,seenB l3 i = b:=⟨_,rfl⟩
      rw [hvh]
      have HVH:=qa6 hvh
      clear hvh
      cases vh
      ·
       go_wp2_with fail
       go_ret
       exact ⟨congrArg (fun b => Ending.returned (Value.bool b)) (LB.out HVH.out),HBC.out⟩
      go_wp2_with fail
      go_roundg (go - 1)
      case measure => have:=HM.out;omega
      case rel => exact ⟨i + 1,by go_num,by omega,⟨by have:=HM.out;omega⟩,⟨by rw [List.range_succ,List.all_append,HL.out];simp [HVH.out]⟩,HGC,HBC⟩
    ·
     obtain rfl : i = l3.length:=by omega
     go_wp2_with fail
     go_ret
     exact ⟨congrArg (fun b => Ending.returned (Value.bool b)) (HS.out _ HL.out),HB.out⟩
end
def impl_TableOK.f (a0_0 : Int) (a0_1 : Int) (l0_2 : List S70) (l0_3 : List S77) : Option Bool:=if (l0_2.all fun x => (impl_isOpName.f 99 x.f0).isSome) = true then some (tableI a0_0 a0_1 l0_2 l0_3) else none
theorem impl_TableOK.calls (a0_0 : Int) (a0_1 : Int) (A0_2 : Option Addr) (c0_2 : Nat) (l0_2 : List S70) (A0_3 : Option Addr) (c0_3 : Nat) (l0_3 : List S77) (r : Bool) (w : World) (hr0_2 : Kd.C k70 w A0_2 l0_2.length l0_2) (hc0_2 : l0_2.length ≤ c0_2) (hr0_3 : Kd.C k77 w A0_3 l0_3.length l0_3) (hc0_3 : l0_3.length ≤ c0_3) (h : impl_TableOK.f a0_0 a0_1 l0_2 l0_3 = some r) :
  Calls Try.prog 11 #[.agg #[.int .i64 a0_0,.int .i64 a0_1,.slice A0_2 l0_2.length c0_2,.slice A0_3 l0_3.length c0_3]] w fun e w' => e = .returned (.bool r) ∧ Below w.heap.size w w':=by
 by_cases hs : (l0_2.all fun x => (impl_isOpName.f 99 x.f0).isSome) = true
 ·
  rw [impl_TableOK.f,if_pos hs] at h
  refine tableI_calls a0_0 a0_1 A0_2 A0_3 c0_2 c0_3 l0_2 l0_3 w r (sO h) hr0_2 hr0_3 (fun i hi => ?_)
  have h1:=List.all_eq_true.1 hs (rd_T70 l0_2 i) (by simp [rd_T70,hi])
  exact Option.isSome_iff_exists.1 h1
 ·
  rw [impl_TableOK.f,if_neg hs] at h
  cases h


/-! ### impl_number: function 80 -/
def impl_number.l0 : Nat → Int → List Int → Int → Option (ByteArray)
 | 0,_,_,_ => none
 | k + 1,x0,x5,x6 => if x6 ≥ 0 then (if 0 ≤ x6 then (if x6 < (x5.length : Int) then (impl_number.l0 k (x0 / 256) (x5.set (x6 : Int).toNat ((x0) % 256)) (wrap64 (x6 - 1))) else (none)) else (none)) else (some (strOfNums x5))
def impl_number.f (k : Nat) (a0 : Int) (a1 : Int) : Option (ByteArray):=if 0 ≤ a1 then (if (a1 : Int).toNat ≤ 281474976710656 then (impl_number.l0 k a0 (List.replicate (a1 : Int).toNat 0) (wrap64 (a1 - 1))) else (none)) else (none)
set_option maxHeartbeats 8000000 in
set_option maxRecDepth 100000 in
theorem impl_number.calls (k : Nat) (a0 : Int) (a1 : Int) (r : ByteArray) (w : World) (h : impl_number.f k a0 a1 = some r) :
  Calls Try.prog 80 #[.int .i64 a0,.int .i64 a1] w fun e w' => e = .returned (.string r) ∧ Below w.heap.size w w':=by
 have HB:=qa6 (Below.refl w.heap.size w)
 have H : (if 0 ≤ a1 then (if (a1 : Int).toNat ≤ 281474976710656 then (impl_number.l0 k a0 (List.replicate (a1 : Int).toNat 0) (wrap64 (a1 - 1))) else (none)) else (none)) = some r:=h
 clear h
 by_cases c3 : 0 ≤ a1
 ·
  rw [if_pos c3] at H
  have c3b0:=eq_true c3
  have c3b1 : decide (0 ≤ a1) = true:=decide_eq_true c3
  clear c3
  by_cases c4 : (a1 : Int).toNat ≤ 281474976710656
  ·
   rw [if_pos c4] at H
   have c4b0:=eq_true c4
   have c4b1 : decide ((a1 : Int).toNat ≤ 281474976710656) = true:=decide_eq_true c4
   clear c4
   obtain ⟨y308,hy308⟩ : ∃ y_ : List Int,y_ = (List.replicate (a1 : Int).toNat 0):=⟨_,rfl⟩
   replace H : (impl_number.l0 k a0 y308 (wrap64 (a1 - 1))) = some r:=by first|(rw [hy308];with_reducible exact H)|(have H2_:=(Option.bind_some _ _).symm.trans H;rw [hy308];with_reducible exact H2_)|(have H2_:=(Option.bind_some _ _).symm.trans H;with_reducible exact H2_)|with_reducible exact H|(rw [hy308];exact H)|exact H
   have Ny308:=qa6 hy308
   clear hy308
   have H':=qa6 H
   clear H
   go_enter Try.func80,Try.ntmps80
   go_wp2_with (first|((with_reducible refine gate_dst (N:=8) rfl ?_);refine Kd.R_make (Kd.int .u8) _ 5 rfl (N:=8) rfl 38 _ _ rfl a1 rfl rfl Try.underlying38 (.int .u8 0) 1 info5 rfl (by decide) (by omega) 0 (ok:=fun _ => True) (okp:=fun _ => True) rfl (fun _ hk => hk) trivial (sM (by first|(with_reducible assumption)|assumption)) (Nat.le_trans (Nat.mul_le_mul_right _ (sM (by first|(with_reducible assumption)|assumption) : a1.toNat ≤ 281474976710656)) (by omega)) (Below.refl _ _) (Nat.le_refl _) ?_;intro v309 w5 ho6 hb hg_ hnew_;clear hg_ hnew_;(first|rw [← Ny308.out] at ho6|(simp only [Int.reduceToNat] at ho6;rw [← Ny308.out] at ho6));have n0_:=qa6 (Kd.R_lower ho6 (below_size (by repeat (first|(with_reducible first|exact HB.out|apply below_alloc|apply pw_below_drewN|apply below_drew1)|exact HB.out))));have n1_:=qa6 (sN (by repeat (first|(with_reducible first|exact HB.out|apply below_alloc|apply pw_below_drewN|apply below_drew1)|exact HB.out)) hb);clear HB;have HO310:=n0_;have HB:=n1_;clear n0_ n1_;clear hb ho6))
   go_loopg [0,6] k (fun kq v0 v6 w' => ∃ (x0_1 : Int) (x5_1 : List Int) (x6_1 : Int),v0 = .int .i64 x0_1 ∧ v6 = .int .i64 x6_1 ∧ Aside0 (impl_number.l0 kq x0_1 x5_1 x6_1 = some r) ∧ Aside0 (kq ≤ k) ∧ Aside0 (Kd.R (Kd.int .u8) 5 w' w.heap.size (fun _ => True) v309 x5_1) ∧ Aside0 (Below w.heap.size w w'))
   case atStart => exact ⟨(a0),(y308),(wrap64 (a1 - 1)),(by first|rfl|(simp;done)|(simp [*];done)),(by first|rfl|(simp;done)|(simp [*];done)),H',⟨Nat.le_refl _⟩,⟨by (with_reducible repeat (first|apply Kd.R_alloc|apply Kd.R_drewN|apply Kd.R_drew));exact HO310.out⟩,⟨by repeat (first|(with_reducible first|exact HB.out|apply below_alloc|apply pw_below_drewN|apply below_drew1)|exact HB.out)⟩⟩
   case round =>
    clear H'
    try clear p2
    try clear c3
    try clear c3b0
    try clear c3b1
    try clear c4
    try clear c4b0
    try clear c4b1
    try clear p6
    obtain ⟨x0_1,x5_1,x6_1,rfl,rfl,HA,HK1,HO_5,HB⟩:=hrel
    cases gk with
    | zero => exact absurd HA.out (by simp [impl_number.l0])
    | succ k1 =>
     have H:=HA.out
     clear HA
     simp only [impl_number.l0] at H
     by_cases c7 : x6_1 ≥ 0
     ·
      rw [if_pos c7] at H
      have c7b0 : decide (0 ≤ x6_1) = true:=decide_eq_true c7
      clear c7
      by_cases c8 : 0 ≤ x6_1
      ·
       rw [if_pos c8] at H
       have c8b0 : decide (0 ≤ x6_1) = true:=decide_eq_true c8
       clear c8
       by_cases c9 : x6_1 < (x5_1.length : Int)
       ·
        rw [if_pos c9] at H
        have c9b0 : decide (x6_1 < (x5_1.length : Int)) = true:=decide_eq_true c9
        clear c9
        obtain ⟨y311,hy311⟩ : ∃ y_ : List Int,y_ = (x5_1.set (x6_1 : Int).toNat ((x0_1) % 256)):=⟨_,rfl⟩
        replace H : (impl_number.l0 k1 (x0_1 / 256) y311 (wrap64 (x6_1 - 1))) = some r:=by first|(rw [hy311];with_reducible exact H)|(have H2_:=(Option.bind_some _ _).symm.trans H;rw [hy311];with_reducible exact H2_)|(have H2_:=(Option.bind_some _ _).symm.trans H;with_reducible exact H2_)|with_reducible exact H|(rw [hy311];exact H)|exact H
        have Ny311:=qa6 hy311
        clear hy311
        have H':=qa6 H
        clear H
        have p10 : 0 ≤ (x6_1 : Int):=sM (by first|(with_reducible assumption)|assumption)
        have q10 : (x6_1 : Int) < ((x5_1.length : Int) : Int):=sM (by first|(with_reducible assumption)|assumption)
        obtain ⟨go10,co10,eo10,gb10,gl10,cl10,HG10⟩:=Kd.R_form HO_5.out (by omega)
        (first|cases eo10|(injection eo10 with ea_ en_ ec_;(first|subst ea_|(injection ea_ with ea_;subst ea_));subst ec_;clear en_))
        have GB10:=qa6 gb10
        have GG10:=qa6 HG10
        clear gb10 gl10 HG10
        obtain ⟨hx10_0,hf10_0⟩:=Kd.R_celln 0 HO_5.out (x6_1 : Int) p10 q10
        replace p10:=eq_true p10
        replace q10:=eq_true q10
        have HP11:=Kd.R_putg HO_5.out (x6_1 : Int) ((x0_1) % 256)
        go_wp2_with (first|((with_reducible refine gate_store (t:=5) (p:=19) rfl ?_);refine store_event (t:=5) (p:=19) (v:=?vo_w12) (w1:=(wr.setCell ⟨go10,(x6_1 : Int).toNat,none⟩ (.int .u8 ((x0_1) % 256)))) ?hg ?ho ?hn ?hr ?_;(case ho => rfl);(case hg => rfl);(case hn => rfl);(case hr => first|(go_simp;done)|(go_simp;rfl));intro w12 hw;have hg : wr.grownBy w12 (some go10):=(by rw [hw];exact HP11.2);have hp_ : Kd.R (Kd.int .u8) 5 w12 w.heap.size (fun _ => True) (.slice (some ⟨go10,0,none⟩) x5_1.length co10) y311:=(by rw [hw,Ny311.out];exact HP11.1);clear HP11;have n0_:=qa6 (hp_);have n1_:=qa6 ((by rw [hw];exact below_set (HB.out) GB10.out : Below w.heap.size w w12));clear HO_5;clear HB;have HO_5:=n0_;have HB:=n1_;clear n0_ n1_;clear hg hw hp_))
        go_roundg k1
        case measure => have:=HK1.out;omega
        case rel => exact ⟨(x0_1 / 256),(y311),(wrap64 (x6_1 - 1)),(by first|rfl|(simp;done)|(simp [*];done)),(by first|rfl|(simp;done)|(simp [*];done)),H',⟨by have:=HK1.out;omega⟩,⟨by (with_reducible repeat (first|apply Kd.R_alloc|apply Kd.R_drewN|apply Kd.R_drew));exact HO_5.out⟩,⟨by repeat (first|(with_reducible first|exact HB.out|apply below_alloc|apply pw_below_drewN|apply below_drew1)|exact HB.out)⟩⟩
       ·
        rw [if_neg c9] at H
        exact absurd H (by simp)
      ·
       rw [if_neg c8] at H
       exact absurd H (by simp)
     ·
      rw [if_neg c7] at H
      have c7b0 : decide (0 ≤ x6_1) = false:=decide_eq_false c7
      clear c7
      obtain rfl:=sO H
      have hcv13:=own_string (P:=Try.prog) Try.underlying38 Try.underlying5 Try.underlying9 (Kd.own_of_R HO_5.out)
      go_wp2
      go_ret
      exact ⟨by first|rfl|(simp [errW_none,errW_some] <;> rfl)|(simp [*,errW_none,errW_some] <;> rfl),by repeat (first|(with_reducible first|exact HB.out|apply below_alloc|apply pw_below_drewN|apply below_drew1)|exact HB.out)⟩
  ·
   rw [if_neg c4] at H
   exact absurd H (by simp)
 ·
  rw [if_neg c3] at H
  exact absurd H (by simp)

end Go.Proofs.Ytjkanhjapddhnaa.PFnExactTableBytes
