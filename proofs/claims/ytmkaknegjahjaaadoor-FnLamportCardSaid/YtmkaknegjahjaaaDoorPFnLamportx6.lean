-- laid by this session's program myprint.py over the kit's printer
-- squeezed
-- aliased
import Derived.Test.YtmkaknegjahjaaaDoorPFnLamportx0
import Derived.Test.YtmkaknegjahjaaaDoorPFnLamportx1
namespace Go.Proofs.YtmkaknegjahjaaaDoor.PFnLamport
open Go.RowKit Go.Proofs.YtmkaknegjahjaaaDoorV.PrintWords Go.Proofs.YtmkaknegjahjaaaDoorV.PrintLast Go.Proofs.YtmkaknegjahjaaaDoorV.PrintMore
attribute [local go_sem] max2_int min2_int max_two min_two max_three min_three max_four min_four u8_wm u32_wm   -- for this text's walks alone
set_option linter.unusedVariables false
set_option linter.unusedSimpArgs false

/-! ### impl_hashBits: function 55 -/

mutual
def impl_hashBits.l0 : Nat → ByteArray → List Int → Int → Int → Option (ByteArray)
 | 0,_,_,_,_ => none
 | k + 1,x0,x3,x11,x12 => if x12 < x11 then (impl_hashBits.l1 k x0 x3 x12 7 x11 x12) else (some (strOfNums x3))
def impl_hashBits.l1 : Nat → ByteArray → List Int → Int → Int → Int → Int → Option (ByteArray)
 | 0,_,_,_,_,_,_ => none
 | k + 1,x0,x3,x4,x5,x11,x12 => if x5 ≥ 0 then (if 0 ≤ x4 then (if x4 < (x0.size : Int) then (if 0 ≤ x5 then (if x3.length < 140737488355328 then (impl_hashBits.l1 k x0 (x3 ++ [(48 + (Go.bits .and .u8 (shr .u8 (bt x0 x4) x5) 1)) % 256]) x4 (wrap64 (x5 - 1)) x11 x12) else (none)) else (none)) else (none)) else (none)) else (impl_hashBits.l0 k x0 x3 x11 (wrap64 (x12 + 1)))
end
def impl_hashBits.f (k : Nat) (a0 : ByteArray) : Option (ByteArray):=if 0 ≤ (wrap64 (8 * (a0.size : Int))) then (if (wrap64 (8 * (a0.size : Int)) : Int).toNat ≤ 281474976710656 then (impl_hashBits.l0 k a0 (([] : List Int)) (a0.size : Int) 0) else (none)) else (none)
theorem impl_hashBits.mono_l : ∀ k,(∀ y0 y1 y2 y3,LeO (impl_hashBits.l0 k y0 y1 y2 y3) (impl_hashBits.l0 (k + 1) y0 y1 y2 y3)) ∧ (∀ y0 y1 y2 y3 y4 y5,LeO (impl_hashBits.l1 k y0 y1 y2 y3 y4 y5) (impl_hashBits.l1 (k + 1) y0 y1 y2 y3 y4 y5))
 | 0 => ⟨fun _ _ _ _ r h => by simp [impl_hashBits.l0] at h,fun _ _ _ _ _ _ r h => by simp [impl_hashBits.l1] at h⟩
 | k + 1 => by
  obtain ⟨ih0,ih1⟩:=impl_hashBits.mono_l k
  refine ⟨?_,?_⟩
  ·
   intro y0 y1 y2 y3
   unfold impl_hashBits.l0
   repeat' first
   | (with_reducible exact ih0 _ _ _ _)
   | (with_reducible exact ih1 _ _ _ _ _ _)
   | (with_reducible exact LeO.refl _)
   | (with_reducible exact LeO.none _)
   | (with_reducible refine LeO.ite ?_ ?_)
   | (with_reducible refine LeO.bind ?_ (fun _ => ?_))
   | exact ih0 _ _ _ _
   | exact ih1 _ _ _ _ _ _
   | exact LeO.none _
   | refine LeO.ite ?_ ?_
   | refine LeO.bind ?_ (fun _ => ?_)
  ·
   intro y0 y1 y2 y3 y4 y5
   unfold impl_hashBits.l1
   repeat' first
   | (with_reducible exact ih0 _ _ _ _)
   | (with_reducible exact ih1 _ _ _ _ _ _)
   | (with_reducible exact LeO.refl _)
   | (with_reducible exact LeO.none _)
   | (with_reducible refine LeO.ite ?_ ?_)
   | (with_reducible refine LeO.bind ?_ (fun _ => ?_))
   | exact ih0 _ _ _ _
   | exact ih1 _ _ _ _ _ _
   | exact LeO.none _
   | refine LeO.ite ?_ ?_
   | refine LeO.bind ?_ (fun _ => ?_)
theorem impl_hashBits.mono : ∀ a0 k,LeO (impl_hashBits.f k a0) (impl_hashBits.f (k + 1) a0):=by
 intro a0 k
 obtain ⟨ih0,ih1⟩:=impl_hashBits.mono_l k
 unfold impl_hashBits.f
 repeat' first
   | (with_reducible exact ih0 _ _ _ _)
   | (with_reducible exact ih1 _ _ _ _ _ _)
   | (with_reducible exact LeO.refl _)
   | (with_reducible exact LeO.none _)
   | (with_reducible refine LeO.ite ?_ ?_)
   | (with_reducible refine LeO.bind ?_ (fun _ => ?_))
   | exact ih0 _ _ _ _
   | exact ih1 _ _ _ _ _ _
   | exact LeO.none _
   | refine LeO.ite ?_ ?_
   | refine LeO.bind ?_ (fun _ => ?_)
set_option maxHeartbeats 8000000 in
set_option maxRecDepth 100000 in
theorem impl_hashBits.calls (k : Nat) (a0 : ByteArray) (r : ByteArray) (w : World) (h : impl_hashBits.f k a0 = some r) :
  Calls Tryd.prog 55 #[.string a0] w fun e w' => e = .returned (.string r) ∧ Below w.heap.size w w':=by
 have HB:=Aside0.mk (Below.refl w.heap.size w)
 have H : (if 0 ≤ (wrap64 (8 * (a0.size : Int))) then (if (wrap64 (8 * (a0.size : Int)) : Int).toNat ≤ 281474976710656 then (impl_hashBits.l0 k a0 (([] : List Int)) (a0.size : Int) 0) else (none)) else (none)) = some r:=h
 clear h
 obtain ⟨ji2,hji2⟩ : ∃ j_ : Int,(wrap64 (8 * (a0.size : Int))) = j_:=⟨_,rfl⟩
 replace H : (if 0 ≤ (ji2) then (if (ji2 : Int).toNat ≤ 281474976710656 then (impl_hashBits.l0 k a0 (([] : List Int)) (a0.size : Int) 0) else (none)) else (none)) = some r:=by first|(rw [hji2] at H;exact H)|(simp only [hji2] at H ⊢;exact H)
 have hji2w : (IntKind.i64.wrap (8 * (a0.size : Int))) = ji2:=(i64_w _).trans hji2
 by_cases c3 : 0 ≤ (ji2)
 ·
  rw [if_pos c3] at H
  have c3b0:=eq_true c3
  have c3b1 : decide (0 ≤ (ji2)) = true:=decide_eq_true c3
  clear c3
  by_cases c4 : (ji2 : Int).toNat ≤ 281474976710656
  ·
   rw [if_pos c4] at H
   have c4b0:=eq_true c4
   have c4b1 : decide ((ji2 : Int).toNat ≤ 281474976710656) = true:=decide_eq_true c4
   clear c4
   obtain ⟨y251,hy251⟩ : ∃ y_ : List Int,y_ = (([] : List Int)):=⟨_,rfl⟩
   replace H : (impl_hashBits.l0 k a0 y251 (a0.size : Int) 0) = some r:=by first|(rw [hy251];with_reducible exact H)|(have H2_:=(Option.bind_some _ _).symm.trans H;rw [hy251];with_reducible exact H2_)|(have H2_:=(Option.bind_some _ _).symm.trans H;with_reducible exact H2_)|with_reducible exact H|(rw [hy251];exact H)|exact H
   have Ny251:=Aside0.mk hy251
   clear hy251
   have H':=Aside0.mk H
   clear H
   go_enter Tryd.func55,Tryd.ntmps55
   go_wp2_with (first|((with_reducible refine gate_dst (N:=9) rfl ?_);refine R_makecap (Kd.int .u8) _ 5 rfl (N:=9) rfl 22 _ _ rfl ji2 rfl rfl Tryd.underlying22 (.int .u8 0) 1 info5 (by decide) (ok:=fun _ => True) trivial (of_decide_eq_true (by first|(with_reducible assumption)|assumption)) (Nat.le_trans (Nat.mul_le_mul_right _ (of_decide_eq_true (by first|(with_reducible assumption)|assumption) : ji2.toNat ≤ 281474976710656)) (by omega)) (Below.refl _ _) (Nat.le_refl _) ?_;intro v252 w5 ho6 hb hg_ hnew_;clear hg_ hnew_;(first|rw [← Ny251.out] at ho6|(simp only [Int.reduceToNat] at ho6;rw [← Ny251.out] at ho6));have n0_:=Aside0.mk (Kd.R_lower ho6 (below_size (by repeat (first|(with_reducible first|exact HB.out|apply below_alloc|apply pw_below_drewN|apply below_drew1)|exact HB.out))));have n1_:=Aside0.mk (below_step (by repeat (first|(with_reducible first|exact HB.out|apply below_alloc|apply pw_below_drewN|apply below_drew1)|exact HB.out)) hb);clear HB;have HO253:=n0_;have HB:=n1_;clear n0_ n1_;clear hb ho6))
   go_loopg [3,12] k (fun kq v3 v12 w' => ∃ (x3_1 : List Int) (x12_1 : Int),v12 = .int .i64 x12_1 ∧ Aside0 (impl_hashBits.l0 kq a0 x3_1 (a0.size : Int) x12_1 = some r) ∧ Aside0 (kq ≤ k) ∧ Aside0 (Kd.R (Kd.int .u8) 5 w' w.heap.size (fun _ => True) v3 x3_1) ∧ Aside0 (Below w.heap.size w w'))
   case atStart => exact ⟨(y251),(0),(by first|rfl|(simp;done)|(simp [*];done)),H',⟨Nat.le_refl _⟩,⟨by (with_reducible repeat (first|apply Kd.R_alloc|apply Kd.R_drewN|apply Kd.R_drew));exact HO253.out⟩,⟨by repeat (first|(with_reducible first|exact HB.out|apply below_alloc|apply pw_below_drewN|apply below_drew1)|exact HB.out)⟩⟩
   case round =>
    clear H'
    try clear p2
    try clear c3
    try clear c3b0
    try clear c3b1
    try clear c4
    try clear c4b0
    try clear c4b1
    try clear c5
    try clear p6
    obtain ⟨x3_1,x12_1,rfl,HA,HK1,HO_3,HB⟩:=hrel
    cases gk with
    | zero => exact absurd HA.out (by simp [impl_hashBits.l0])
    | succ k1 =>
     have H:=HA.out
     clear HA
     simp only [impl_hashBits.l0] at H
     by_cases c7 : x12_1 < (a0.size : Int)
     ·
      rw [if_pos c7] at H
      have c7b0 : decide (x12_1 < (a0.size : Int)) = true:=decide_eq_true c7
      clear c7
      have H':=Aside0.mk H
      clear H
      go_wp2
      go_loopg [3,5] k1 (fun kq v3 v5 w' => ∃ (x3_2 : List Int) (x5_2 : Int),v5 = .int .i64 x5_2 ∧ Aside0 (impl_hashBits.l1 kq a0 x3_2 x12_1 x5_2 (a0.size : Int) x12_1 = some r) ∧ Aside0 (kq ≤ k1) ∧ Aside0 (Kd.R (Kd.int .u8) 5 w' w.heap.size (fun _ => True) v3 x3_2) ∧ Aside0 (Below w.heap.size w w'))
      case atStart => exact ⟨(x3_1),(7),(by first|rfl|(simp;done)|(simp [*];done)),H',⟨Nat.le_refl _⟩,⟨by (with_reducible repeat (first|apply Kd.R_alloc|apply Kd.R_drewN|apply Kd.R_drew));exact HO_3.out⟩,⟨by repeat (first|(with_reducible first|exact HB.out|apply below_alloc|apply pw_below_drewN|apply below_drew1)|exact HB.out)⟩⟩
      case round =>
       clear H'
       try clear p2
       try clear c3
       try clear c3b0
       try clear c3b1
       try clear c4
       try clear c4b0
       try clear c4b1
       try clear c5
       try clear p6
       try clear c7
       try clear c7b0
       try clear p2
       try clear p6
       obtain ⟨x3_2,x5_2,rfl,HA,HK2,HO_3,HB⟩:=hrel
       cases gk with
       | zero => exact absurd HA.out (by simp [impl_hashBits.l1])
       | succ k2 =>
        have H:=HA.out
        clear HA
        simp only [impl_hashBits.l1] at H
        by_cases c8 : x5_2 ≥ 0
        ·
         rw [if_pos c8] at H
         have c8b0 : decide (0 ≤ x5_2) = true:=decide_eq_true c8
         clear c8
         by_cases c9 : 0 ≤ x12_1
         ·
          rw [if_pos c9] at H
          have c9b0 : decide (0 ≤ x12_1) = true:=decide_eq_true c9
          clear c9
          by_cases c10 : x12_1 < (a0.size : Int)
          ·
           rw [if_pos c10] at H
           have c10b0 : decide (x12_1 < (a0.size : Int)) = true:=decide_eq_true c10
           clear c10
           by_cases c12 : 0 ≤ x5_2
           ·
            rw [if_pos c12] at H
            have c12b0:=eq_true c12
            have c12b1 : decide (0 ≤ x5_2) = true:=decide_eq_true c12
            clear c12
            obtain ⟨ji13,hji13⟩ : ∃ j_ : Int,(shr .u8 (bt a0 x12_1) x5_2) = j_:=⟨_,rfl⟩
            replace H : (if x3_2.length < 140737488355328 then (impl_hashBits.l1 k2 a0 (x3_2 ++ [(48 + (Go.bits .and .u8 (ji13) 1)) % 256]) x12_1 (wrap64 (x5_2 - 1)) (a0.size : Int) x12_1) else (none)) = some r:=by first|(rw [hji13] at H;exact H)|(simp only [hji13] at H ⊢;exact H)
            have hji13_ : ((bt a0 x12_1) / 2 ^ min x5_2.toNat 8) = ji13:=hji13
            have hji13z : x5_2 ≤ 8 → ((bt a0 x12_1) / 2 ^ x5_2.toNat) = ji13:=shr_small hji13
            by_cases c14 : x3_2.length < 140737488355328
            ·
             rw [if_pos c14] at H
             have LMc14:=Aside0.mk c14
             clear c14
             obtain ⟨y254,hy254⟩ : ∃ y_ : List Int,y_ = (x3_2 ++ [(48 + (Go.bits .and .u8 (ji13) 1)) % 256]):=⟨_,rfl⟩
             replace H : (impl_hashBits.l1 k2 a0 y254 x12_1 (wrap64 (x5_2 - 1)) (a0.size : Int) x12_1) = some r:=by first|(rw [hy254];with_reducible exact H)|(have H2_:=(Option.bind_some _ _).symm.trans H;rw [hy254];with_reducible exact H2_)|(have H2_:=(Option.bind_some _ _).symm.trans H;with_reducible exact H2_)|with_reducible exact H|(rw [hy254];exact H)|exact H
             have Ny254:=Aside0.mk hy254
             clear hy254
             have H':=Aside0.mk H
             clear H
             have p11 : 0 ≤ (x12_1 : Int):=of_decide_eq_true (by first|(with_reducible assumption)|assumption)
             have q11 : x12_1 < (a0.size : Int):=of_decide_eq_true (by first|(with_reducible assumption)|assumption)
             have hx11:=bt_at a0 x12_1
             have bl11:=(bt_range a0 x12_1).1
             have bh11:=(bt_range a0 x12_1).2
             replace p11:=eq_true p11
             replace q11:=eq_true q11
             go_wp2_with (first|((with_reducible refine gate_builtin (b:=.append) (xs:=#[.tmp 19,.tmp 27]) rfl ?_);at_builtin;refine Kd.R_append (Kd.int .u8) (w0:=w) w.heap.size rfl (.tmp 19) (.tmp 27) 22 5 (.int .u8 0) 1 rfl Tryd.underlying22 info5 rfl (by decide) (by omega) u3 x3_2 ((48 + (Go.bits .and .u8 (ji13) 1)) % 256) [.int .u8 ((48 + (Go.bits .and .u8 (ji13) 1)) % 256)] (fun _ => True) (fun _ => False) rfl rfl ?aP (fun _ hk => hk.elim) ?aF ?aO ?aB ?aS ?aL ?_;(case aP => exact rfl);(case aB => exact (by repeat (first|(with_reducible first|exact HB.out|apply below_alloc|apply pw_below_drewN|apply below_drew1)|exact HB.out)));(case aF => exact (fun _ _ => trivial));(case aO => exact (by (with_reducible repeat (first|apply Kd.R_alloc|apply Kd.R_drewN|apply Kd.R_drew));exact HO_3.out));(case aS => exact (below_size (by repeat (first|(with_reducible first|exact HB.out|apply below_alloc|apply pw_below_drewN|apply below_drew1)|exact HB.out))));(case aL => have:=LMc14.out;omega);intro v255 w15 ho hb hg hat;rw [← Ny254.out] at ho;have n0_:=Aside0.mk (hb);have n1_:=Aside0.mk (ho);clear HB;clear HO_3;have HB:=n0_;have HO256:=n1_;clear n0_ n1_;clear ho hb hg hat))
             go_roundg k2
             case measure => have:=HK1.out;have:=HK2.out;omega
             case rel => exact ⟨(y254),(wrap64 (x5_2 - 1)),(by first|rfl|(simp;done)|(simp [*];done)),H',⟨by have:=HK1.out;have:=HK2.out;omega⟩,⟨by (with_reducible repeat (first|apply Kd.R_alloc|apply Kd.R_drewN|apply Kd.R_drew));exact HO256.out⟩,⟨by repeat (first|(with_reducible first|exact HB.out|apply below_alloc|apply pw_below_drewN|apply below_drew1)|exact HB.out)⟩⟩
            ·
             rw [if_neg c14] at H
             exact absurd H (by simp)
           ·
            rw [if_neg c12] at H
            exact absurd H (by simp)
          ·
           rw [if_neg c10] at H
           exact absurd H (by simp)
         ·
          rw [if_neg c9] at H
          exact absurd H (by simp)
        ·
         rw [if_neg c8] at H
         have c8b0 : decide (0 ≤ x5_2) = false:=decide_eq_false c8
         clear c8
         have H':=Aside0.mk H
         clear H
         go_wp2
         go_roundg k2
         case measure => have:=HK1.out;have:=HK2.out;omega
         case rel => exact ⟨(x3_2),(wrap64 (x12_1 + 1)),(by first|rfl|(simp;done)|(simp [*];done)),H',⟨by have:=HK1.out;have:=HK2.out;omega⟩,⟨by (with_reducible repeat (first|apply Kd.R_alloc|apply Kd.R_drewN|apply Kd.R_drew));exact HO_3.out⟩,⟨by repeat (first|(with_reducible first|exact HB.out|apply below_alloc|apply pw_below_drewN|apply below_drew1)|exact HB.out)⟩⟩
     ·
      rw [if_neg c7] at H
      have c7b0 : decide (x12_1 < (a0.size : Int)) = false:=decide_eq_false c7
      clear c7
      obtain rfl:=Option.some.inj H
      have hcv16:=own_string (P:=Tryd.prog) Tryd.underlying22 Tryd.underlying5 Tryd.underlying9 (Kd.own_of_R HO_3.out)
      go_wp2
      go_ret
      exact ⟨by first|rfl|(simp [errW_none,errW_some] <;> rfl)|(simp only [← hji2];first|rfl|(simp [errW_none,errW_some] <;> rfl))|(simp [*,errW_none,errW_some] <;> rfl),by repeat (first|(with_reducible first|exact HB.out|apply below_alloc|apply pw_below_drewN|apply below_drew1)|exact HB.out)⟩
  ·
   rw [if_neg c4] at H
   exact absurd H (by simp)
 ·
  rw [if_neg c3] at H
  exact absurd H (by simp)

/-! ### impl_messageBits: function 73 -/
def impl_messageBits.f (k : Nat) (a0 : ByteArray) : Option (ByteArray):=if 6 + a0.size ≤ 9223372036854775807 then ((impl_hash.f ((⟨#[100,105,103,101,115,116]⟩ : ByteArray) ++ a0)).bind fun t257 => ((impl_hashBits.f k t257).bind fun t258 => (if 0 ≤ 32 then (if 32 ≤ (t258.size : Int) then (some (t258.extract 0 32)) else (none)) else (none)))) else (none)
theorem impl_messageBits.mono : ∀ a0 k,LeO (impl_messageBits.f k a0) (impl_messageBits.f (k + 1) a0):=by
 intro a0 k
 unfold impl_messageBits.f
 repeat' first
   | (with_reducible exact impl_hashBits.mono _ _)
   | (with_reducible exact LeO.refl _)
   | (with_reducible exact LeO.none _)
   | (with_reducible refine LeO.ite ?_ ?_)
   | (with_reducible refine LeO.bind ?_ (fun _ => ?_))
   | exact impl_hashBits.mono _ _
   | exact LeO.none _
   | refine LeO.ite ?_ ?_
   | refine LeO.bind ?_ (fun _ => ?_)
set_option maxHeartbeats 8000000 in
set_option maxRecDepth 100000 in
theorem impl_messageBits.calls (k : Nat) (a0 : ByteArray) (r : ByteArray) (w : World) (hG_ : Go.Proofs.YtmkaknegjahjaaaDoor.Sha.GlobA w) (h : impl_messageBits.f k a0 = some r) :
  Calls Tryd.prog 73 #[.string a0] w fun e w' => e = .returned (.string r) ∧ Below w.heap.size w w':=by
 have HB:=Aside0.mk (Below.refl w.heap.size w)
 have H : (if 6 + a0.size ≤ 9223372036854775807 then ((impl_hash.f ((⟨#[100,105,103,101,115,116]⟩ : ByteArray) ++ a0)).bind fun t257 => ((impl_hashBits.f k t257).bind fun t258 => (if 0 ≤ 32 then (if 32 ≤ (t258.size : Int) then (some (t258.extract 0 32)) else (none)) else (none)))) else (none)) = some r:=h
 clear h
 by_cases c2 : 6 + a0.size ≤ 9223372036854775807
 ·
  rw [if_pos c2] at H
  have c2b0:=eq_true c2
  have c2b1 : decide (6 + a0.size ≤ 9223372036854775807) = true:=decide_eq_true c2
  try have c2b2 : (9223372036854775807 < 6 + a0.size) = False:=eq_false (Nat.not_lt.2 c2)
  replace H:=Option.bind_eq_some_iff.mp H
  obtain ⟨t257,A30,H⟩:=H
  replace H : ((impl_hashBits.f k t257).bind fun t258 => (if 0 ≤ 32 then (if 32 ≤ (t258.size : Int) then (some (t258.extract 0 32)) else (none)) else (none))) = some r:=H
  have A3:=Aside0.mk A30
  clear A30
  replace H:=Option.bind_eq_some_iff.mp H
  obtain ⟨t258,A40,H⟩:=H
  replace H : (if 0 ≤ 32 then (if 32 ≤ (t258.size : Int) then (some (t258.extract 0 32)) else (none)) else (none)) = some r:=H
  have A4:=Aside0.mk A40
  clear A40
  by_cases c5 : 0 ≤ 32
  ·
   rw [if_pos c5] at H
   have c5b0:=eq_true c5
   have c5b1 : decide (0 ≤ 32) = true:=decide_eq_true c5
   clear c5
   by_cases c6 : 32 ≤ (t258.size : Int)
   ·
    rw [if_pos c6] at H
    have c6b0:=eq_true c6
    have c6b1 : decide (32 ≤ (t258.size : Int)) = true:=decide_eq_true c6
    clear c6
    obtain rfl:=Option.some.inj H
    go_enter Tryd.func73,Tryd.ntmps73
    go_wp2_with (first|((with_reducible refine gate_callee (f:=50) rfl ?_);refine goesL_ (some 5) rfl rfl Tryd.func50 (by kernel_rfl) rfl #[.string ((⟨#[100,105,103,101,115,116]⟩ : ByteArray) ++ a0)] rfl (by (try simp only [List.map_toArray,List.map_cons,List.map_nil]);first|done|rfl|(simp only [List.length_drop,List.length_take];rfl)) ?_;(with_reducible refine (impl_hash.calls ((⟨#[100,105,103,101,115,116]⟩ : ByteArray) ++ a0) t257 _ ?side1 A3.out).mono ?_);(case side1 => exact Go.Proofs.YtmkaknegjahjaaaDoor.Sha.glob_below hG_ (by repeat (first|(with_reducible first|exact HB.out|apply below_alloc|apply pw_below_drewN|apply below_drew1)|exact HB.out)));rintro e w7 ⟨rfl,hb⟩;refine ⟨_,rfl,?_⟩;have n0_:=Aside0.mk (below_step (by repeat (first|(with_reducible first|exact HB.out|apply below_alloc|apply pw_below_drewN|apply below_drew1)|exact HB.out)) hb);clear HB;have HB:=n0_;clear n0_;(try clear hb);(try clear hb2);(try clear hk);(try clear hi))|((with_reducible refine gate_callee (f:=55) rfl ?_);refine goesL_ (some 6) rfl rfl Tryd.func55 (by kernel_rfl) rfl #[.string t257] rfl (by (try simp only [List.map_toArray,List.map_cons,List.map_nil]);first|done|rfl|(simp only [List.length_drop,List.length_take];rfl)) ?_;(with_reducible refine (impl_hashBits.calls k t257 t258 _ A4.out).mono ?_);rintro e w8 ⟨rfl,hb⟩;refine ⟨_,rfl,?_⟩;have n0_:=Aside0.mk (below_step (by repeat (first|(with_reducible first|exact HB.out|apply below_alloc|apply pw_below_drewN|apply below_drew1)|exact HB.out)) hb);clear HB;have HB:=n0_;clear n0_;(try clear hb);(try clear hb2);(try clear hk);(try clear hi)))
    go_ret
    exact ⟨by first|rfl|(simp [errW_none,errW_some] <;> rfl)|(simp [*,errW_none,errW_some] <;> rfl),by repeat (first|(with_reducible first|exact HB.out|apply below_alloc|apply pw_below_drewN|apply below_drew1)|exact HB.out)⟩
   ·
    rw [if_neg c6] at H
    exact absurd H (by simp)
  ·
   rw [if_neg c5] at H
   exact absurd H (by simp)
 ·
  rw [if_neg c2] at H
  exact absurd H (by simp)

end Go.Proofs.YtmkaknegjahjaaaDoor.PFnLamport
