-- laid by this session's program myprint.py over the kit's printer
-- squeezed
-- aliased
import Derived.Test.YtmkaknegjahjaaaDoorPFnAgreedx0
namespace Go.Proofs.YtmkaknegjahjaaaDoor.PFnAgreed
open Go.RowKit Go.Proofs.YtmkaknegjahjaaaDoorV.PrintWords Go.Proofs.YtmkaknegjahjaaaDoorV.PrintLast Go.Proofs.YtmkaknegjahjaaaDoorV.PrintMore
attribute [local go_sem] max2_int min2_int max_two min_two max_three min_three max_four min_four u8_wm u32_wm   -- for this text's walks alone
set_option linter.unusedVariables false
set_option linter.unusedSimpArgs false

/-! ### laws_at: function 18 -/
theorem qa1 : type_of% @Kd.R_alloc:=@Kd.R_alloc
theorem qb1 : type_of% @Kd.R_drewN:=@Kd.R_drewN
theorem qc1 : type_of% @below_alloc:=@below_alloc
theorem qd1 : type_of% @pw_below_drewN:=@pw_below_drewN
theorem qe1 : type_of% @below_drew1:=@below_drew1
theorem qf1 : type_of% @Aside0.mk:=@Aside0.mk
def laws_at.f (l0 : List Int) (a1 : Int) (a2 : Int) : Option (Int):=if a2 ≤ 1 then (some 0) else (if (l0.length : Int) = 0 then (if a2 = 0 then (none) else (some (Int.tmod (wrap64 (a1 * 7)) a2))) else (if 0 ≤ (Int.tmod a1 (l0.length : Int)) then (if (Int.tmod a1 (l0.length : Int)) < (l0.length : Int) then (if 0 ≤ (Int.tmod (wrap64 (a1 + 1)) (l0.length : Int)) then (if (Int.tmod (wrap64 (a1 + 1)) (l0.length : Int)) < (l0.length : Int) then (if a2 = 0 then (none) else (some (Int.tmod (wrap64 ((wrap64 ((wrap64 ((wrap64 (rd l0 (Int.tmod a1 (l0.length : Int)))) * 31)) + (wrap64 (rd l0 (Int.tmod (wrap64 (a1 + 1)) (l0.length : Int)))))) + (wrap64 (Int.tdiv a1 (l0.length : Int))))) a2))) else (none)) else (none)) else (none)) else (none)))
set_option maxHeartbeats 8000000 in
set_option maxRecDepth 100000 in
theorem laws_at.calls (A0 : Option Addr) (c0 : Nat) (l0 : List Int) (a1 : Int) (a2 : Int) (r : Int) (w : World) (hr0 : Kd.C (Kd.int .u8) w A0 l0.length l0) (hc0 : l0.length ≤ c0) (h : laws_at.f l0 a1 a2 = some r) :
  Calls Tryd.prog 18 #[.slice A0 l0.length c0,.int .i64 a1,.int .i64 a2] w fun e w' => e = .returned (.int .i64 r) ∧ Drawn0 w w':=by
 have HR0:=qf1 hr0
 have HC0:=qf1 hc0
 clear hr0 hc0
 have H : (if a2 ≤ 1 then (some 0) else (if (l0.length : Int) = 0 then (if a2 = 0 then (none) else (some (Int.tmod (wrap64 (a1 * 7)) a2))) else (if 0 ≤ (Int.tmod a1 (l0.length : Int)) then (if (Int.tmod a1 (l0.length : Int)) < (l0.length : Int) then (if 0 ≤ (Int.tmod (wrap64 (a1 + 1)) (l0.length : Int)) then (if (Int.tmod (wrap64 (a1 + 1)) (l0.length : Int)) < (l0.length : Int) then (if a2 = 0 then (none) else (some (Int.tmod (wrap64 ((wrap64 ((wrap64 ((wrap64 (rd l0 (Int.tmod a1 (l0.length : Int)))) * 31)) + (wrap64 (rd l0 (Int.tmod (wrap64 (a1 + 1)) (l0.length : Int)))))) + (wrap64 (Int.tdiv a1 (l0.length : Int))))) a2))) else (none)) else (none)) else (none)) else (none)))) = some r:=h
 clear h
 by_cases c4 : a2 ≤ 1
 ·
  rw [if_pos c4] at H
  have c4b0 : decide (a2 ≤ 1) = true:=decide_eq_true c4
  clear c4
  obtain rfl:=Option.some.inj H
  go_enter Tryd.func18,Tryd.ntmps18
  go_wp2
  repeat (go_quiet (fail);try go_wp2)
  go_ret
  exact ⟨by first|rfl|(simp;done)|(simp [*];done),by repeat (first|exact Drawn0.refl _|apply Drawn0.step)⟩
 ·
  rw [if_neg c4] at H
  have c4b0 : decide (a2 ≤ 1) = false:=decide_eq_false c4
  clear c4
  by_cases c5 : (l0.length : Int) = 0
  ·
   rw [if_pos c5] at H
   have c5b0 : ((l0.length : Int) == 0) = true:=beq_iff_eq.mpr c5
   have c5b1 : ((l0.length : Int) != 0) = false:=bne_eq_false_iff_eq.mpr c5
   clear c5
   by_cases c6 : a2 = 0
   ·
    rw [if_pos c6] at H
    exact absurd H (by simp)
   ·
    rw [if_neg c6] at H
    have c6b0 : (a2 == 0) = false:=beq_eq_false_iff_ne.mpr c6
    have c6b1 : (a2 != 0) = true:=bne_iff_ne.mpr c6
    obtain rfl:=Option.some.inj H
    go_enter Tryd.func18,Tryd.ntmps18
    go_wp2
    repeat (go_quiet (fail);try go_wp2)
    go_ret
    exact ⟨by first|rfl|(simp;done)|(simp [*];done),by repeat (first|exact Drawn0.refl _|apply Drawn0.step)⟩
  ·
   rw [if_neg c5] at H
   have c5b0 : ((l0.length : Int) == 0) = false:=beq_eq_false_iff_ne.mpr c5
   have c5b1 : ((l0.length : Int) != 0) = true:=bne_iff_ne.mpr c5
   have c5b2 : ¬ (l0 = []):=fun h_ => c5 (by rw [h_];rfl)
   obtain ⟨ji7,hji7⟩ : ∃ j_ : Int,(Int.tmod a1 (l0.length : Int)) = j_:=⟨_,rfl⟩
   replace H : (if 0 ≤ (ji7) then (if (ji7) < (l0.length : Int) then (if 0 ≤ (Int.tmod (wrap64 (a1 + 1)) (l0.length : Int)) then (if (Int.tmod (wrap64 (a1 + 1)) (l0.length : Int)) < (l0.length : Int) then (if a2 = 0 then (none) else (some (Int.tmod (wrap64 ((wrap64 ((wrap64 ((wrap64 (rd l0 (ji7))) * 31)) + (wrap64 (rd l0 (Int.tmod (wrap64 (a1 + 1)) (l0.length : Int)))))) + (wrap64 (Int.tdiv a1 (l0.length : Int))))) a2))) else (none)) else (none)) else (none)) else (none)) = some r:=by first|(rw [hji7] at H;exact H)|(simp only [hji7] at H ⊢;exact H)
   by_cases c8 : 0 ≤ (ji7)
   ·
    rw [if_pos c8] at H
    have c8b0 : decide (0 ≤ (ji7)) = true:=decide_eq_true c8
    clear c8
    by_cases c9 : (ji7) < (l0.length : Int)
    ·
     rw [if_pos c9] at H
     have c9b0 : decide ((ji7) < (l0.length : Int)) = true:=decide_eq_true c9
     clear c9
     obtain ⟨ji10,hji10⟩ : ∃ j_ : Int,(Int.tmod (wrap64 (a1 + 1)) (l0.length : Int)) = j_:=⟨_,rfl⟩
     replace H : (if 0 ≤ (ji10) then (if (ji10) < (l0.length : Int) then (if a2 = 0 then (none) else (some (Int.tmod (wrap64 ((wrap64 ((wrap64 ((wrap64 (rd l0 (ji7))) * 31)) + (wrap64 (rd l0 (ji10))))) + (wrap64 (Int.tdiv a1 (l0.length : Int))))) a2))) else (none)) else (none)) = some r:=by first|(rw [hji10] at H;exact H)|(simp only [hji10] at H ⊢;exact H)
     by_cases c11 : 0 ≤ (ji10)
     ·
      rw [if_pos c11] at H
      have c11b0 : decide (0 ≤ (ji10)) = true:=decide_eq_true c11
      clear c11
      by_cases c12 : (ji10) < (l0.length : Int)
      ·
       rw [if_pos c12] at H
       have c12b0 : decide ((ji10) < (l0.length : Int)) = true:=decide_eq_true c12
       clear c12
       by_cases c13 : a2 = 0
       ·
        rw [if_pos c13] at H
        exact absurd H (by simp)
       ·
        rw [if_neg c13] at H
        have c13b0 : (a2 == 0) = false:=beq_eq_false_iff_ne.mpr c13
        have c13b1 : (a2 != 0) = true:=bne_iff_ne.mpr c13
        obtain rfl:=Option.some.inj H
        have p101 : 0 ≤ ((ji7) : Int):=of_decide_eq_true (by first|(with_reducible assumption)|assumption)
        have q101 : (ji7) < (l0.length : Int):=of_decide_eq_true (by first|(with_reducible assumption)|assumption)
        obtain ⟨ad101,e101,hx101_0⟩:=Kd.at_int HR0.out (ji7) p101 q101
        cases e101
        replace p101:=eq_true p101
        replace q101:=eq_true q101
        have p102 : 0 ≤ ((ji10) : Int):=of_decide_eq_true (by first|(with_reducible assumption)|assumption)
        have q102 : (ji10) < (l0.length : Int):=of_decide_eq_true (by first|(with_reducible assumption)|assumption)
        obtain ⟨ad102,e102,hx102_0⟩:=Kd.at_int HR0.out (ji10) p102 q102
        obtain rfl : ad101 = ad102:=(by injection e102)
        replace p102:=eq_true p102
        replace q102:=eq_true q102
        go_enter Tryd.func18,Tryd.ntmps18
        go_wp2
        repeat (go_quiet (fail);try go_wp2)
        go_ret
        exact ⟨by first|rfl|(simp;done)|(simp only [← hji7,← hji10] <;> (first|rfl|simp))|(simp [*];done),by repeat (first|exact Drawn0.refl _|apply Drawn0.step)⟩
      ·
       rw [if_neg c12] at H
       exact absurd H (by simp)
     ·
      rw [if_neg c11] at H
      exact absurd H (by simp)
    ·
     rw [if_neg c9] at H
     exact absurd H (by simp)
   ·
    rw [if_neg c8] at H
    exact absurd H (by simp)

/-! ### spec_l04Nodes: function 89 -/
def spec_l04Nodes.f (a0 : Int) : Option (Bool):=if a0 = 1 then (some true) else (if a0 = 4 then (some true) else (some (a0 == 7)))
set_option maxHeartbeats 8000000 in
set_option maxRecDepth 100000 in
theorem spec_l04Nodes.calls (a0 : Int) (r : Bool) (w : World) (h : spec_l04Nodes.f a0 = some r) :
  Calls Tryd.prog 89 #[.int .i64 a0] w fun e w' => e = .returned (.bool r) ∧ Drawn0 w w':=by
 have H : (if a0 = 1 then (some true) else (if a0 = 4 then (some true) else (some (a0 == 7)))) = some r:=h
 clear h
 by_cases c2 : a0 = 1
 ·
  rw [if_pos c2] at H
  have c2b0 : (a0 == 1) = true:=beq_iff_eq.mpr c2
  have c2b1 : (a0 != 1) = false:=bne_eq_false_iff_eq.mpr c2
  clear c2
  obtain rfl:=Option.some.inj H
  go_enter Tryd.func89,Tryd.ntmps89
  go_wp2
  go_ret
  exact ⟨by first|rfl|(simp;done)|(simp [*];done),by repeat (first|exact Drawn0.refl _|apply Drawn0.step)⟩
 ·
  rw [if_neg c2] at H
  have c2b0 : (a0 == 1) = false:=beq_eq_false_iff_ne.mpr c2
  have c2b1 : (a0 != 1) = true:=bne_iff_ne.mpr c2
  by_cases c3 : a0 = 4
  ·
   rw [if_pos c3] at H
   have c3b0 : (a0 == 4) = true:=beq_iff_eq.mpr c3
   have c3b1 : (a0 != 4) = false:=bne_eq_false_iff_eq.mpr c3
   clear c3
   obtain rfl:=Option.some.inj H
   go_enter Tryd.func89,Tryd.ntmps89
   go_wp2
   go_ret
   exact ⟨by first|rfl|(simp;done)|(simp [*];done),by repeat (first|exact Drawn0.refl _|apply Drawn0.step)⟩
  ·
   rw [if_neg c3] at H
   have c3b0 : (a0 == 4) = false:=beq_eq_false_iff_ne.mpr c3
   have c3b1 : (a0 != 4) = true:=bne_iff_ne.mpr c3
   obtain rfl:=Option.some.inj H
   go_enter Tryd.func89,Tryd.ntmps89
   go_wp2
   go_ret
   exact ⟨by first|rfl|(simp;done)|(simp [*];done),by repeat (first|exact Drawn0.refl _|apply Drawn0.step)⟩

/-! ### spec_l02Number: function 117 -/
def spec_l02Number.l0 : Nat → Int → List Int → Int → Option (List Int)
 | 0,_,_,_ => none
 | k + 1,x0,x5,x6 => if x6 ≥ 0 then (if 0 ≤ (IntKind.u64.wrap (wrap64 (8 * x6))) then (if x5.length < 140737488355328 then (spec_l02Number.l0 k x0 (x5 ++ [(shr .i64 x0 (IntKind.u64.wrap (wrap64 (8 * x6)))) % 256]) (wrap64 (x6 - 1))) else (none)) else (none)) else (some x5)
def spec_l02Number.f (k : Nat) (a0 : Int) (a1 : Int) : Option (List Int):=spec_l02Number.l0 k a0 (([] : List Int)) (wrap64 (a1 - 1))
theorem spec_l02Number.mono_l : ∀ k,(∀ y0 y1 y2,LeO (spec_l02Number.l0 k y0 y1 y2) (spec_l02Number.l0 (k + 1) y0 y1 y2))
 | 0 => fun _ _ _ r h => by simp [spec_l02Number.l0] at h
 | k + 1 => by
  have ih0:=spec_l02Number.mono_l k
  ·
   intro y0 y1 y2
   unfold spec_l02Number.l0
   repeat' first
   | (with_reducible exact ih0 _ _ _)
   | (with_reducible exact LeO.refl _)
   | (with_reducible exact LeO.none _)
   | (with_reducible refine LeO.ite ?_ ?_)
   | (with_reducible refine LeO.bind ?_ (fun _ => ?_))
   | exact ih0 _ _ _
   | exact LeO.none _
   | refine LeO.ite ?_ ?_
   | refine LeO.bind ?_ (fun _ => ?_)
theorem spec_l02Number.mono : ∀ a0 a1 k,LeO (spec_l02Number.f k a0 a1) (spec_l02Number.f (k + 1) a0 a1):=by
 intro a0 a1 k
 have ih0:=spec_l02Number.mono_l k
 unfold spec_l02Number.f
 repeat' first
   | (with_reducible exact ih0 _ _ _)
   | (with_reducible exact LeO.refl _)
   | (with_reducible exact LeO.none _)
   | (with_reducible refine LeO.ite ?_ ?_)
   | (with_reducible refine LeO.bind ?_ (fun _ => ?_))
   | exact ih0 _ _ _
   | exact LeO.none _
   | refine LeO.ite ?_ ?_
   | refine LeO.bind ?_ (fun _ => ?_)
set_option maxHeartbeats 8000000 in
set_option maxRecDepth 100000 in
theorem spec_l02Number.calls (k : Nat) (a0 : Int) (a1 : Int) (r : List Int) (w : World) (h : spec_l02Number.f k a0 a1 = some r) :
  Calls Tryd.prog 117 #[.int .i64 a0,.int .i64 a1] w fun e w' => ∃ v0_ : Value,e = .returned (v0_) ∧ Kd.R (Kd.int .u8) 5 w' w.heap.size (fun _ => True) v0_ r ∧ Below w.heap.size w w':=by
 have HB:=qf1 (Below.refl w.heap.size w)
 have H : (spec_l02Number.l0 k a0 (([] : List Int)) (wrap64 (a1 - 1))) = some r:=h
 clear h
 obtain ⟨y103,hy103⟩ : ∃ y_ : List Int,y_ = (([] : List Int)):=⟨_,rfl⟩
 replace H : (spec_l02Number.l0 k a0 y103 (wrap64 (a1 - 1))) = some r:=by first|(rw [hy103];with_reducible exact H)|(have H2_:=(Option.bind_some _ _).symm.trans H;rw [hy103];with_reducible exact H2_)|(have H2_:=(Option.bind_some _ _).symm.trans H;with_reducible exact H2_)|with_reducible exact H|(rw [hy103];exact H)|exact H
 have Ny103:=qf1 hy103
 clear hy103
 have H':=qf1 H
 clear H
 go_enter Tryd.func117,Tryd.ntmps117
 go_wp2_with (first|((with_reducible refine gate_dst (N:=7) rfl ?_);refine Kd.R_lit (Kd.int .u8) _ 5 ?hg (N:=7) ?hd (xs:=([] : List Int)) (inner:=[]) (ok:=fun _ => True) (okp:=fun _ => True) ?hr ?hp (fun _ hk => hk) trivial (Below.refl _ _) (Nat.le_refl _) (by simp) ?_;(case hd => rfl);(case hg => rfl);(case hr => first|(go_simp;done)|(go_simp;rfl));(case hp => exact (Reps.none _ _));intro v104 w3 ho4 hb hg_ hnew_;clear hg_ hnew_;(first|rw [← Ny103.out] at ho4|(simp only [Int.reduceToNat] at ho4;rw [← Ny103.out] at ho4));have n0_:=qf1 (Kd.R_lower ho4 (below_size (by repeat (first|(with_reducible first|exact HB.out|apply qc1|apply qd1|apply qe1)|exact HB.out))));have n1_:=qf1 (below_step (by repeat (first|(with_reducible first|exact HB.out|apply qc1|apply qd1|apply qe1)|exact HB.out)) hb);clear HB;have HO105:=n0_;have HB:=n1_;clear n0_ n1_;clear hb ho4))
 go_loopg [5,6] k (fun kq v5 v6 w' => ∃ (x5_1 : List Int) (x6_1 : Int),v6 = .int .i64 x6_1 ∧ Aside0 (spec_l02Number.l0 kq a0 x5_1 x6_1 = some r) ∧ Aside0 (kq ≤ k) ∧ Aside0 (Kd.R (Kd.int .u8) 5 w' w.heap.size (fun _ => True) v5 x5_1) ∧ Aside0 (Below w.heap.size w w'))
 case atStart => exact ⟨(y103),(wrap64 (a1 - 1)),(by first|rfl|(simp;done)|(simp [*];done)),H',⟨Nat.le_refl _⟩,⟨by (with_reducible repeat (first|apply qa1|apply qb1|apply Kd.R_drew));exact HO105.out⟩,⟨by repeat (first|(with_reducible first|exact HB.out|apply qc1|apply qd1|apply qe1)|exact HB.out)⟩⟩
 case round =>
  clear H'
  try clear c1
  try clear p2
  obtain ⟨x5_1,x6_1,rfl,HA,HK1,HO_5,HB⟩:=hrel
  cases gk with
  | zero => exact absurd HA.out (by simp [spec_l02Number.l0])
  | succ k1 =>
   have H:=HA.out
   clear HA
   simp only [spec_l02Number.l0] at H
   by_cases c5 : x6_1 ≥ 0
   ·
    rw [if_pos c5] at H
    have c5b0 : decide (0 ≤ x6_1) = true:=decide_eq_true c5
    clear c5
    obtain ⟨ji6,hji6⟩ : ∃ j_ : Int,(IntKind.u64.wrap (wrap64 (8 * x6_1))) = j_:=⟨_,rfl⟩
    replace H : (if 0 ≤ (ji6) then (if x5_1.length < 140737488355328 then (spec_l02Number.l0 k1 a0 (x5_1 ++ [(shr .i64 a0 (ji6)) % 256]) (wrap64 (x6_1 - 1))) else (none)) else (none)) = some r:=by first|(rw [hji6] at H;exact H)|(simp only [hji6] at H ⊢;exact H)
    by_cases c7 : 0 ≤ (ji6)
    ·
     rw [if_pos c7] at H
     have c7b0:=eq_true c7
     have c7b1 : decide (0 ≤ (ji6)) = true:=decide_eq_true c7
     clear c7
     obtain ⟨ji8,hji8⟩ : ∃ j_ : Int,(shr .i64 a0 (ji6)) = j_:=⟨_,rfl⟩
     replace H : (if x5_1.length < 140737488355328 then (spec_l02Number.l0 k1 a0 (x5_1 ++ [(ji8) % 256]) (wrap64 (x6_1 - 1))) else (none)) = some r:=by first|(rw [hji8] at H;exact H)|(simp only [hji8] at H ⊢;exact H)
     have hji8_ : (a0 / 2 ^ min (ji6).toNat 64) = ji8:=hji8
     have hji8z : (ji6) ≤ 64 → (a0 / 2 ^ (ji6).toNat) = ji8:=shr_small hji8
     by_cases c9 : x5_1.length < 140737488355328
     ·
      rw [if_pos c9] at H
      have LMc9:=qf1 c9
      clear c9
      obtain ⟨y106,hy106⟩ : ∃ y_ : List Int,y_ = (x5_1 ++ [(ji8) % 256]):=⟨_,rfl⟩
      replace H : (spec_l02Number.l0 k1 a0 y106 (wrap64 (x6_1 - 1))) = some r:=by first|(rw [hy106];with_reducible exact H)|(have H2_:=(Option.bind_some _ _).symm.trans H;rw [hy106];with_reducible exact H2_)|(have H2_:=(Option.bind_some _ _).symm.trans H;with_reducible exact H2_)|with_reducible exact H|(rw [hy106];exact H)|exact H
      have Ny106:=qf1 hy106
      clear hy106
      have H':=qf1 H
      clear H
      go_wp2_with (first|((with_reducible refine gate_builtin (b:=.append) (xs:=#[.tmp 14,.tmp 21]) rfl ?_);at_builtin;refine Kd.R_append (Kd.int .u8) (w0:=w) w.heap.size rfl (.tmp 14) (.tmp 21) 22 5 (.int .u8 0) 1 rfl Tryd.underlying22 info5 rfl (by decide) (by omega) u5 x5_1 ((ji8) % 256) [.int .u8 ((ji8) % 256)] (fun _ => True) (fun _ => False) rfl rfl ?aP (fun _ hk => hk.elim) ?aF ?aO ?aB ?aS ?aL ?_;(case aP => exact rfl);(case aB => exact (by repeat (first|(with_reducible first|exact HB.out|apply qc1|apply qd1|apply qe1)|exact HB.out)));(case aF => exact (fun _ _ => trivial));(case aO => exact (by (with_reducible repeat (first|apply qa1|apply qb1|apply Kd.R_drew));exact HO_5.out));(case aS => exact (below_size (by repeat (first|(with_reducible first|exact HB.out|apply qc1|apply qd1|apply qe1)|exact HB.out))));(case aL => have:=LMc9.out;omega);intro v107 w10 ho hb hg hat;rw [← Ny106.out] at ho;have n0_:=qf1 (hb);have n1_:=qf1 (ho);clear HB;clear HO_5;have HB:=n0_;have HO108:=n1_;clear n0_ n1_;clear ho hb hg hat))
      go_roundg k1
      case measure => have:=HK1.out;omega
      case rel => exact ⟨(y106),(wrap64 (x6_1 - 1)),(by first|rfl|(simp;done)|(simp [*];done)),H',⟨by have:=HK1.out;omega⟩,⟨by (with_reducible repeat (first|apply qa1|apply qb1|apply Kd.R_drew));exact HO108.out⟩,⟨by repeat (first|(with_reducible first|exact HB.out|apply qc1|apply qd1|apply qe1)|exact HB.out)⟩⟩
     ·
      rw [if_neg c9] at H
      exact absurd H (by simp)
    ·
     rw [if_neg c7] at H
     exact absurd H (by simp)
   ·
    rw [if_neg c5] at H
    have c5b0 : decide (0 ≤ x6_1) = false:=decide_eq_false c5
    clear c5
    obtain rfl:=Option.some.inj H
    go_wp2
    go_ret
    exact ⟨_,by first|rfl|(simp [errW_none,errW_some] <;> rfl)|(simp [*,errW_none,errW_some] <;> rfl),by (with_reducible repeat (first|apply qa1|apply qb1|apply Kd.R_drew));exact HO_5.out,by repeat (first|(with_reducible first|exact HB.out|apply qc1|apply qd1|apply qe1)|exact HB.out)⟩

/-! ### spec_l01Hash: function 54, given -/
def spec_l01Hash.f (l0 : List Int) : Option ByteArray:=if l0.length ≤ 1099511627776 then some (Go.Proofs.YtmkaknegjahjaaaDoor.Sha.shaB l0) else none
theorem spec_l01Hash.calls (A0 : Option Addr) (c0 : Nat) (l0 : List Int) (r : ByteArray) (w : World) (hr0 : Kd.C (Kd.int .u8) w A0 l0.length l0) (hc0 : l0.length ≤ c0) (h : spec_l01Hash.f l0 = some r) :
  Calls Tryd.prog 54 #[.slice A0 l0.length c0] w fun e w' => e = .returned (.string r) ∧ Below w.heap.size w w':=by
 have hs : l0.length ≤ 1099511627776:=by
  rcases Nat.lt_or_ge 1099511627776 l0.length with hl|hl
  ·
   rw [spec_l01Hash.f,if_neg (by omega)] at h;cases h
  ·
   exact hl
 rw [spec_l01Hash.f,if_pos hs] at h
 injection h with h
 subst h
 exact Go.Proofs.YtmkaknegjahjaaaDoor.Sha.hashS_calls A0 c0 l0 w hr0 hs


/-! ### spec_l04Secret: function 145 -/
def spec_l04Secret.f (a0 : Int) : Option (ByteArray):=(some (([(a0) % 256] : List Int) : List Int)).bind fun y109 => (if 8 + (strOfNums y109).size ≤ 9223372036854775807 then (if ((⟨#[110,111,100,101,32,107,101,121]⟩ : ByteArray) ++ (strOfNums y109)).size ≤ 9223372036854775807 then ((spec_l01Hash.f (bytesOf ((⟨#[110,111,100,101,32,107,101,121]⟩ : ByteArray) ++ (strOfNums y109)))).bind fun t115 => (some t115)) else (none)) else (none))
set_option maxHeartbeats 8000000 in
set_option maxRecDepth 100000 in
theorem spec_l04Secret.calls (a0 : Int) (r : ByteArray) (w : World) (h : spec_l04Secret.f a0 = some r) :
  Calls Tryd.prog 145 #[.int .i64 a0] w fun e w' => e = .returned (.string r) ∧ Below w.heap.size w w':=by
 have HB:=qf1 (Below.refl w.heap.size w)
 have H : ((some (([(a0) % 256] : List Int) : List Int)).bind fun y109 => (if 8 + (strOfNums y109).size ≤ 9223372036854775807 then (if ((⟨#[110,111,100,101,32,107,101,121]⟩ : ByteArray) ++ (strOfNums y109)).size ≤ 9223372036854775807 then ((spec_l01Hash.f (bytesOf ((⟨#[110,111,100,101,32,107,101,121]⟩ : ByteArray) ++ (strOfNums y109)))).bind fun t115 => (some t115)) else (none)) else (none))) = some r:=h
 clear h
 obtain ⟨y109,hy109⟩ : ∃ y_ : List Int,y_ = (([(a0) % 256] : List Int)):=⟨_,rfl⟩
 replace H : (if 8 + (strOfNums y109).size ≤ 9223372036854775807 then (if ((⟨#[110,111,100,101,32,107,101,121]⟩ : ByteArray) ++ (strOfNums y109)).size ≤ 9223372036854775807 then ((spec_l01Hash.f (bytesOf ((⟨#[110,111,100,101,32,107,101,121]⟩ : ByteArray) ++ (strOfNums y109)))).bind fun t115 => (some t115)) else (none)) else (none)) = some r:=by first|(rw [hy109];with_reducible exact H)|(have H2_:=(Option.bind_some _ _).symm.trans H;rw [hy109];with_reducible exact H2_)|(have H2_:=(Option.bind_some _ _).symm.trans H;with_reducible exact H2_)|with_reducible exact H|(rw [hy109];exact H)|exact H
 have Ny109:=qf1 hy109
 clear hy109
 by_cases c2 : 8 + (strOfNums y109).size ≤ 9223372036854775807
 ·
  rw [if_pos c2] at H
  have c2b0:=eq_true c2
  have c2b1 : decide (8 + (strOfNums y109).size ≤ 9223372036854775807) = true:=decide_eq_true c2
  try have c2b2 : (9223372036854775807 < 8 + (strOfNums y109).size) = False:=eq_false (Nat.not_lt.2 c2)
  by_cases c3 : ((⟨#[110,111,100,101,32,107,101,121]⟩ : ByteArray) ++ (strOfNums y109)).size ≤ 9223372036854775807
  ·
   rw [if_pos c3] at H
   have c3b0:=eq_true c3
   have c3b1 : decide (((⟨#[110,111,100,101,32,107,101,121]⟩ : ByteArray) ++ (strOfNums y109)).size ≤ 9223372036854775807) = true:=decide_eq_true c3
   try have c3b2 : (9223372036854775807 < ((⟨#[110,111,100,101,32,107,101,121]⟩ : ByteArray) ++ (strOfNums y109)).size) = False:=eq_false (Nat.not_lt.2 c3)
   (try (have c3b3:=c3;simp only [ByteArray.size_append] at c3b3;have c3b4:=eq_false (Nat.not_lt.2 c3b3)))
   obtain ⟨y112,hy112⟩ : ∃ y_ : List Int,y_ = (bytesOf ((⟨#[110,111,100,101,32,107,101,121]⟩ : ByteArray) ++ (strOfNums y109))):=⟨_,rfl⟩
   replace H : ((spec_l01Hash.f y112).bind fun t115 => (some t115)) = some r:=by first|(rw [hy112];with_reducible exact H)|(have H2_:=(Option.bind_some _ _).symm.trans H;rw [hy112];with_reducible exact H2_)|(have H2_:=(Option.bind_some _ _).symm.trans H;with_reducible exact H2_)|with_reducible exact H|(rw [hy112];exact H)|exact H
   have Ny112:=qf1 hy112
   clear hy112
   replace H:=Option.bind_eq_some_iff.mp H
   obtain ⟨t115,A40,H⟩:=H
   replace H : (some t115) = some r:=H
   have A4:=qf1 A40
   clear A40
   obtain rfl:=Option.some.inj H
   go_enter Tryd.func145,Tryd.ntmps145
   go_wp2_with (first|((with_reducible refine gate_dst (N:=5) rfl ?_);refine Kd.R_lit (Kd.int .u8) _ 5 ?hg (N:=5) ?hd (xs:=([(a0) % 256] : List Int)) (inner:=[.int .u8 ((a0) % 256)]) (ok:=fun _ => True) (okp:=fun _ => True) ?hr ?hp (fun _ hk => hk) trivial (Below.refl _ _) (Nat.le_refl _) (by simp) ?_;(case hd => rfl);(case hg => rfl);(case hr => first|(go_simp;done)|(go_simp;rfl));(case hp => exact (Reps.one (show Kd.M (Kd.int .u8) _ _ _ ((a0) % 256) [.int .u8 ((a0) % 256)] from rfl) (Reps.none _ _)));intro v110 w5 ho6 hb hg_ hnew_;clear hg_ hnew_;(first|rw [← Ny109.out] at ho6|(simp only [Int.reduceToNat] at ho6;rw [← Ny109.out] at ho6));have n0_:=qf1 (Kd.R_lower ho6 (below_size (by repeat (first|(with_reducible first|exact HB.out|apply qc1|apply qd1|apply qe1)|exact HB.out))));have n1_:=qf1 (below_step (by repeat (first|(with_reducible first|exact HB.out|apply qc1|apply qd1|apply qe1)|exact HB.out)) hb);clear HB;have HO111:=n0_;have HB:=n1_;clear n0_ n1_;clear hb ho6;have hcv7:=own_string (P:=Tryd.prog) Tryd.underlying22 Tryd.underlying5 Tryd.underlying9 (Kd.own_of_R HO111.out))|((with_reducible refine gate_dst (N:=8) rfl ?_);refine R_bytes _ 5 rfl (N:=8) rfl 9 22 _ rfl ((⟨#[110,111,100,101,32,107,101,121]⟩ : ByteArray) ++ (strOfNums y109)) rfl Tryd.underlying9 Tryd.underlying22 Tryd.underlying5 (ok:=fun _ => True) trivial (of_decide_eq_true (by first|(with_reducible assumption)|assumption)) (Below.refl _ _) (Nat.le_refl _) ?_;intro v113 w8 ho9 hb hg_ hnew_;clear hg_ hnew_;(first|rw [← Ny112.out] at ho9|(simp only [Int.reduceToNat] at ho9;rw [← Ny112.out] at ho9));have n0_:=qf1 (Kd.R_elder' (by (with_reducible repeat (first|apply qa1|apply qb1|apply Kd.R_drew));exact HO111.out) (Kd.R_base ho9) hb);have n1_:=qf1 (Kd.R_lower (Kd.R_new' ho9 (Kd.R_lt (by (with_reducible repeat (first|apply qa1|apply qb1|apply Kd.R_drew));exact HO111.out))) (below_size (by repeat (first|(with_reducible first|exact HB.out|apply qc1|apply qd1|apply qe1)|exact HB.out))));have n2_:=qf1 (below_step (by repeat (first|(with_reducible first|exact HB.out|apply qc1|apply qd1|apply qe1)|exact HB.out)) hb);clear HO111;clear HB;have HO111:=n0_;have HO114:=n1_;have HB:=n2_;clear n0_ n1_ n2_;clear hb ho9;obtain ⟨Ao10,co10,eo10⟩:=Kd.R_slice HO114.out;subst eo10)|((with_reducible refine gate_callee (f:=54) rfl ?_);refine goesL_ (some 9) rfl rfl Tryd.func54 (by kernel_rfl) rfl #[.slice Ao10 y112.length co10] rfl (by (try simp only [List.map_toArray,List.map_cons,List.map_nil]);first|done|rfl|(simp only [List.length_drop,List.length_take];rfl)) ?_;(with_reducible refine (spec_l01Hash.calls _ _ y112 t115 _ ?side1 ?side2 A4.out).mono ?_);(case side1 => repeat (first|exact (Kd.R_reads' HO114.out).2.2|(with_reducible refine Kd.C_alloc ?_ _)|(with_reducible refine Kd.C_drewN ?_ _)|(with_reducible refine Kd.C_drew ?_)));(case side2 => exact (Kd.R_reads' HO114.out).2.1);rintro e w11 ⟨rfl,hb⟩;refine ⟨_,rfl,?_⟩;have n0_:=qf1 (Kd.R_below (by (with_reducible repeat (first|apply qa1|apply qb1|apply Kd.R_drew));exact HO111.out) hb);have n1_:=qf1 (Kd.R_below (by (with_reducible repeat (first|apply qa1|apply qb1|apply Kd.R_drew));exact HO114.out) hb);have n2_:=qf1 (below_step (by repeat (first|(with_reducible first|exact HB.out|apply qc1|apply qd1|apply qe1)|exact HB.out)) hb);clear HO111;clear HO114;clear HB;have HO111:=n0_;have HO114:=n1_;have HB:=n2_;clear n0_ n1_ n2_;(try clear hb);(try clear hb2);(try clear hk);(try clear hi)))
   go_ret
   exact ⟨by first|rfl|(simp [errW_none,errW_some] <;> rfl)|(simp [*,errW_none,errW_some] <;> rfl),by repeat (first|(with_reducible first|exact HB.out|apply qc1|apply qd1|apply qe1)|exact HB.out)⟩
  ·
   rw [if_neg c3] at H
   exact absurd H (by simp)
 ·
  rw [if_neg c2] at H
  exact absurd H (by simp)

/-! ### spec_l04Mac: function 131 -/
def spec_l04Mac.f (a0 : Int) (l1 : List Int) : Option (ByteArray):=(spec_l04Secret.f a0).bind fun t116 => (if t116.size ≤ 9223372036854775807 then ((some (bytesOf t116 : List Int)).bind fun y117 => (if y117.length + l1.length < 140737488355328 then ((spec_l01Hash.f (y117 ++ l1)).bind fun t123 => (if 0 ≤ 8 then (if 8 ≤ (t123.size : Int) then (some (t123.extract 0 8)) else (none)) else (none))) else (none))) else (none))
set_option maxHeartbeats 8000000 in
set_option maxRecDepth 100000 in
theorem spec_l04Mac.calls (a0 : Int) (A1 : Option Addr) (c1 : Nat) (l1 : List Int) (r : ByteArray) (w : World) (hr1 : Kd.C (Kd.int .u8) w A1 l1.length l1) (hc1 : l1.length ≤ c1) (h : spec_l04Mac.f a0 l1 = some r) :
  Calls Tryd.prog 131 #[.int .i64 a0,.slice A1 l1.length c1] w fun e w' => e = .returned (.string r) ∧ Below w.heap.size w w':=by
 have HR1:=qf1 hr1
 have HC1:=qf1 hc1
 clear hr1 hc1
 have HB:=qf1 (Below.refl w.heap.size w)
 have H : ((spec_l04Secret.f a0).bind fun t116 => (if t116.size ≤ 9223372036854775807 then ((some (bytesOf t116 : List Int)).bind fun y117 => (if y117.length + l1.length < 140737488355328 then ((spec_l01Hash.f (y117 ++ l1)).bind fun t123 => (if 0 ≤ 8 then (if 8 ≤ (t123.size : Int) then (some (t123.extract 0 8)) else (none)) else (none))) else (none))) else (none))) = some r:=h
 clear h
 replace H:=Option.bind_eq_some_iff.mp H
 obtain ⟨t116,A30,H⟩:=H
 replace H : (if t116.size ≤ 9223372036854775807 then ((some (bytesOf t116 : List Int)).bind fun y117 => (if y117.length + l1.length < 140737488355328 then ((spec_l01Hash.f (y117 ++ l1)).bind fun t123 => (if 0 ≤ 8 then (if 8 ≤ (t123.size : Int) then (some (t123.extract 0 8)) else (none)) else (none))) else (none))) else (none)) = some r:=H
 have A3:=qf1 A30
 clear A30
 by_cases c4 : t116.size ≤ 9223372036854775807
 ·
  rw [if_pos c4] at H
  have c4b0:=eq_true c4
  have c4b1 : decide (t116.size ≤ 9223372036854775807) = true:=decide_eq_true c4
  try have c4b2 : (9223372036854775807 < t116.size) = False:=eq_false (Nat.not_lt.2 c4)
  clear c4
  obtain ⟨y117,hy117⟩ : ∃ y_ : List Int,y_ = (bytesOf t116):=⟨_,rfl⟩
  replace H : (if y117.length + l1.length < 140737488355328 then ((spec_l01Hash.f (y117 ++ l1)).bind fun t123 => (if 0 ≤ 8 then (if 8 ≤ (t123.size : Int) then (some (t123.extract 0 8)) else (none)) else (none))) else (none)) = some r:=by first|(rw [hy117];with_reducible exact H)|(have H2_:=(Option.bind_some _ _).symm.trans H;rw [hy117];with_reducible exact H2_)|(have H2_:=(Option.bind_some _ _).symm.trans H;with_reducible exact H2_)|with_reducible exact H|(rw [hy117];exact H)|exact H
  have Ny117:=qf1 hy117
  clear hy117
  by_cases c5 : y117.length + l1.length < 140737488355328
  ·
   rw [if_pos c5] at H
   have LMc5:=qf1 c5
   clear c5
   obtain ⟨y120,hy120⟩ : ∃ y_ : List Int,y_ = (y117 ++ l1):=⟨_,rfl⟩
   replace H : ((spec_l01Hash.f y120).bind fun t123 => (if 0 ≤ 8 then (if 8 ≤ (t123.size : Int) then (some (t123.extract 0 8)) else (none)) else (none))) = some r:=by first|(rw [hy120];with_reducible exact H)|(have H2_:=(Option.bind_some _ _).symm.trans H;rw [hy120];with_reducible exact H2_)|(have H2_:=(Option.bind_some _ _).symm.trans H;with_reducible exact H2_)|with_reducible exact H|(rw [hy120];exact H)|exact H
   have Ny120:=qf1 hy120
   clear hy120
   replace H:=Option.bind_eq_some_iff.mp H
   obtain ⟨t123,A60,H⟩:=H
   replace H : (if 0 ≤ 8 then (if 8 ≤ (t123.size : Int) then (some (t123.extract 0 8)) else (none)) else (none)) = some r:=H
   have A6:=qf1 A60
   clear A60
   by_cases c7 : 0 ≤ 8
   ·
    rw [if_pos c7] at H
    have c7b0:=eq_true c7
    have c7b1 : decide (0 ≤ 8) = true:=decide_eq_true c7
    clear c7
    by_cases c8 : 8 ≤ (t123.size : Int)
    ·
     rw [if_pos c8] at H
     have c8b0:=eq_true c8
     have c8b1 : decide (8 ≤ (t123.size : Int)) = true:=decide_eq_true c8
     clear c8
     obtain rfl:=Option.some.inj H
     go_enter Tryd.func131,Tryd.ntmps131
     go_wp2_with (first|((with_reducible refine gate_callee (f:=145) rfl ?_);refine goesL_ (some 6) rfl rfl Tryd.func145 (by kernel_rfl) rfl #[.int .i64 a0] rfl (by (try simp only [List.map_toArray,List.map_cons,List.map_nil]);first|done|rfl|(simp only [List.length_drop,List.length_take];rfl)) ?_;(with_reducible refine (spec_l04Secret.calls a0 t116 _ A3.out).mono ?_);rintro e w9 ⟨rfl,hb⟩;refine ⟨_,rfl,?_⟩;have n0_:=qf1 (below_step (by repeat (first|(with_reducible first|exact HB.out|apply qc1|apply qd1|apply qe1)|exact HB.out)) hb);clear HB;have HB:=n0_;clear n0_;(try clear hb);(try clear hb2);(try clear hk);(try clear hi))|((with_reducible refine gate_dst (N:=7) rfl ?_);refine R_bytes _ 5 rfl (N:=7) rfl 9 22 _ rfl t116 rfl Tryd.underlying9 Tryd.underlying22 Tryd.underlying5 (ok:=fun _ => True) trivial (of_decide_eq_true (by first|(with_reducible assumption)|assumption)) (Below.refl _ _) (Nat.le_refl _) ?_;intro v118 w10 ho11 hb hg_ hnew_;clear hg_ hnew_;(first|rw [← Ny117.out] at ho11|(simp only [Int.reduceToNat] at ho11;rw [← Ny117.out] at ho11));have n0_:=qf1 (Kd.R_lower ho11 (below_size (by repeat (first|(with_reducible first|exact HB.out|apply qc1|apply qd1|apply qe1)|exact HB.out))));have n1_:=qf1 (below_step (by repeat (first|(with_reducible first|exact HB.out|apply qc1|apply qd1|apply qe1)|exact HB.out)) hb);clear HB;have HO119:=n0_;have HB:=n1_;clear n0_ n1_;clear hb ho11)|((with_reducible refine gate_builtin (b:=.append) (xs:=#[.tmp 7,.tmp 8]) rfl ?_);at_builtin;refine Kd.R_append_rows (Kd.int .u8) (w0:=w) w.heap.size rfl (.tmp 7) (.tmp 8) 22 5 (.int .u8 0) 1 rfl Tryd.underlying22 info5 rfl (by decide) (by omega) v118 y117 l1 _ _ _ (fun _ => True) (fun _ => False) rfl rfl ?aO ?aR (fun _ _ h => h) (fun _ h => h.elim) ?aF ?aB ?aS ?aL ?_;(case aR => repeat (first|exact (Kd.C_below HR1.out HB.out)|(with_reducible refine Kd.C_alloc ?_ _)|(with_reducible refine Kd.C_drewN ?_ _)|(with_reducible refine Kd.C_drew ?_)));(case aB => exact (by repeat (first|(with_reducible first|exact HB.out|apply qc1|apply qd1|apply qe1)|exact HB.out)));(case aF => exact (fun _ _ => trivial));(case aO => exact (by (with_reducible repeat (first|apply qa1|apply qb1|apply Kd.R_drew));exact HO119.out));(case aS => exact (below_size (by repeat (first|(with_reducible first|exact HB.out|apply qc1|apply qd1|apply qe1)|exact HB.out))));(case aL => have:=LMc5.out;omega);intro v121 w12 ho hb hg hat;rw [← Ny120.out] at ho;have n0_:=qf1 (hb);have n1_:=qf1 (ho);clear HB;clear HO119;have HB:=n0_;have HO122:=n1_;clear n0_ n1_;clear ho hb hg hat;obtain ⟨Ao13,co13,eo13⟩:=Kd.R_slice HO122.out;subst eo13)|((with_reducible refine gate_callee (f:=54) rfl ?_);refine goesL_ (some 10) rfl rfl Tryd.func54 (by kernel_rfl) rfl #[.slice Ao13 y120.length co13] rfl (by (try simp only [List.map_toArray,List.map_cons,List.map_nil]);first|done|rfl|(simp only [List.length_drop,List.length_take];rfl)) ?_;(with_reducible refine (spec_l01Hash.calls _ _ y120 t123 _ ?side1 ?side2 A6.out).mono ?_);(case side1 => repeat (first|exact (Kd.R_reads' HO122.out).2.2|(with_reducible refine Kd.C_alloc ?_ _)|(with_reducible refine Kd.C_drewN ?_ _)|(with_reducible refine Kd.C_drew ?_)));(case side2 => exact (Kd.R_reads' HO122.out).2.1);rintro e w14 ⟨rfl,hb⟩;refine ⟨_,rfl,?_⟩;have n0_:=qf1 (Kd.R_below (by (with_reducible repeat (first|apply qa1|apply qb1|apply Kd.R_drew));exact HO122.out) hb);have n1_:=qf1 (below_step (by repeat (first|(with_reducible first|exact HB.out|apply qc1|apply qd1|apply qe1)|exact HB.out)) hb);clear HO122;clear HB;have HO122:=n0_;have HB:=n1_;clear n0_ n1_;(try clear hb);(try clear hb2);(try clear hk);(try clear hi)))
     go_ret
     exact ⟨by first|rfl|(simp [errW_none,errW_some] <;> rfl)|(simp [*,errW_none,errW_some] <;> rfl),by repeat (first|(with_reducible first|exact HB.out|apply qc1|apply qd1|apply qe1)|exact HB.out)⟩
    ·
     rw [if_neg c8] at H
     exact absurd H (by simp)
   ·
    rw [if_neg c7] at H
    exact absurd H (by simp)
  ·
   rw [if_neg c5] at H
   exact absurd H (by simp)
 ·
  rw [if_neg c4] at H
  exact absurd H (by simp)

/-! ### spec_l04Reading: function 98 -/
def spec_l04Reading.f (k : Nat) (a0 : Int) (a1 : Int) : Option (ByteArray):=(some (([99,108,111,99,107] : List Int) : List Int)).bind fun y124 => ((spec_l02Number.f k a1 4).bind fun t127 => (if y124.length + t127.length < 140737488355328 then ((spec_l04Mac.f a0 (y124 ++ t127)).bind fun t133 => (some t133)) else (none)))
theorem spec_l04Reading.mono : ∀ a0 a1 k,LeO (spec_l04Reading.f k a0 a1) (spec_l04Reading.f (k + 1) a0 a1):=by
 intro a0 a1 k
 unfold spec_l04Reading.f
 repeat' first
   | (with_reducible exact spec_l02Number.mono _ _ _)
   | (with_reducible exact LeO.refl _)
   | (with_reducible exact LeO.none _)
   | (with_reducible refine LeO.ite ?_ ?_)
   | (with_reducible refine LeO.bind ?_ (fun _ => ?_))
   | exact spec_l02Number.mono _ _ _
   | exact LeO.none _
   | refine LeO.ite ?_ ?_
   | refine LeO.bind ?_ (fun _ => ?_)
set_option maxHeartbeats 8000000 in
set_option maxRecDepth 100000 in
theorem spec_l04Reading.calls (k : Nat) (a0 : Int) (a1 : Int) (r : ByteArray) (w : World) (h : spec_l04Reading.f k a0 a1 = some r) :
  Calls Tryd.prog 98 #[.int .i64 a0,.int .i64 a1] w fun e w' => e = .returned (.string r) ∧ Below w.heap.size w w':=by
 have HB:=qf1 (Below.refl w.heap.size w)
 have H : ((some (([99,108,111,99,107] : List Int) : List Int)).bind fun y124 => ((spec_l02Number.f k a1 4).bind fun t127 => (if y124.length + t127.length < 140737488355328 then ((spec_l04Mac.f a0 (y124 ++ t127)).bind fun t133 => (some t133)) else (none)))) = some r:=h
 clear h
 obtain ⟨y124,hy124⟩ : ∃ y_ : List Int,y_ = (([99,108,111,99,107] : List Int)):=⟨_,rfl⟩
 replace H : ((spec_l02Number.f k a1 4).bind fun t127 => (if y124.length + t127.length < 140737488355328 then ((spec_l04Mac.f a0 (y124 ++ t127)).bind fun t133 => (some t133)) else (none))) = some r:=by first|(rw [hy124];with_reducible exact H)|(have H2_:=(Option.bind_some _ _).symm.trans H;rw [hy124];with_reducible exact H2_)|(have H2_:=(Option.bind_some _ _).symm.trans H;with_reducible exact H2_)|with_reducible exact H|(rw [hy124];exact H)|exact H
 have Ny124:=qf1 hy124
 clear hy124
 replace H:=Option.bind_eq_some_iff.mp H
 obtain ⟨t127,A30,H⟩:=H
 replace H : (if y124.length + t127.length < 140737488355328 then ((spec_l04Mac.f a0 (y124 ++ t127)).bind fun t133 => (some t133)) else (none)) = some r:=H
 have A3:=qf1 A30
 clear A30
 by_cases c4 : y124.length + t127.length < 140737488355328
 ·
  rw [if_pos c4] at H
  have LMc4:=qf1 c4
  clear c4
  obtain ⟨y130,hy130⟩ : ∃ y_ : List Int,y_ = (y124 ++ t127):=⟨_,rfl⟩
  replace H : ((spec_l04Mac.f a0 y130).bind fun t133 => (some t133)) = some r:=by first|(rw [hy130];with_reducible exact H)|(have H2_:=(Option.bind_some _ _).symm.trans H;rw [hy130];with_reducible exact H2_)|(have H2_:=(Option.bind_some _ _).symm.trans H;with_reducible exact H2_)|with_reducible exact H|(rw [hy130];exact H)|exact H
  have Ny130:=qf1 hy130
  clear hy130
  replace H:=Option.bind_eq_some_iff.mp H
  obtain ⟨t133,A50,H⟩:=H
  replace H : (some t133) = some r:=H
  have A5:=qf1 A50
  clear A50
  obtain rfl:=Option.some.inj H
  go_enter Tryd.func98,Tryd.ntmps98
  go_wp2_with (first|((with_reducible refine gate_dst (N:=7) rfl ?_);refine R_litbytes _ 5 rfl (N:=7) rfl 22 _ rfl #[.int .u8 99,.int .u8 108,.int .u8 111,.int .u8 99,.int .u8 107] [99,108,111,99,107] rfl rfl Tryd.underlying22 Tryd.underlying5 (ok:=fun _ => True) (by decide) trivial (Below.refl _ _) (Nat.le_refl _) ?_;intro v125 w6 ho7 hb hg_ hnew_;clear hg_ hnew_;(first|rw [← Ny124.out] at ho7|(simp only [Int.reduceToNat] at ho7;rw [← Ny124.out] at ho7));have n0_:=qf1 (Kd.R_lower ho7 (below_size (by repeat (first|(with_reducible first|exact HB.out|apply qc1|apply qd1|apply qe1)|exact HB.out))));have n1_:=qf1 (below_step (by repeat (first|(with_reducible first|exact HB.out|apply qc1|apply qd1|apply qe1)|exact HB.out)) hb);clear HB;have HO126:=n0_;have HB:=n1_;clear n0_ n1_;clear hb ho7)|((with_reducible refine gate_callee (f:=117) rfl ?_);refine goesL_ (some 9) rfl rfl Tryd.func117 (by kernel_rfl) rfl #[.int .i64 a1,.int .i64 4] rfl (by (try simp only [List.map_toArray,List.map_cons,List.map_nil]);first|done|rfl|(simp only [List.length_drop,List.length_take];rfl)) ?_;(with_reducible refine (spec_l02Number.calls k a1 4 t127 _ A3.out).mono ?_);rintro e w8 ⟨v128,rfl,ho0,hb⟩;refine ⟨_,rfl,?_⟩;have n0_:=qf1 (Kd.R_elder' (by (with_reducible repeat (first|apply qa1|apply qb1|apply Kd.R_drew));exact HO126.out) (Kd.R_base ho0) hb);have n1_:=qf1 (Kd.R_lower (Kd.R_new' ho0 (Kd.R_lt (by (with_reducible repeat (first|apply qa1|apply qb1|apply Kd.R_drew));exact HO126.out))) (below_size (by repeat (first|(with_reducible first|exact HB.out|apply qc1|apply qd1|apply qe1)|exact HB.out))));have n2_:=qf1 (below_step (by repeat (first|(with_reducible first|exact HB.out|apply qc1|apply qd1|apply qe1)|exact HB.out)) hb);clear HO126;clear HB;have HO126:=n0_;have HO129:=n1_;have HB:=n2_;clear n0_ n1_ n2_;(try clear hb);(try clear hb2);(try clear hk);(try clear hi);(try clear ho0);obtain ⟨Ao10,co10,eo10⟩:=Kd.R_slice HO129.out;subst eo10)|((with_reducible refine gate_builtin (b:=.append) (xs:=#[.tmp 7,.tmp 9]) rfl ?_);at_builtin;refine Kd.R_append_rows (Kd.int .u8) (w0:=w) w.heap.size rfl (.tmp 7) (.tmp 9) 22 5 (.int .u8 0) 1 rfl Tryd.underlying22 info5 rfl (by decide) (by omega) v125 y124 t127 _ _ _ (fun k_ => some k_ ≠ (.slice Ao10 t127.length co10 : Value).ownBlock) (fun _ => False) rfl rfl ?aO ?aR (fun _ _ h => h) (fun _ h => h.elim) ?aF ?aB ?aS ?aL ?_;(case aR => repeat (first|exact (Kd.R_reads' HO129.out).2.2|(with_reducible refine Kd.C_alloc ?_ _)|(with_reducible refine Kd.C_drewN ?_ _)|(with_reducible refine Kd.C_drew ?_)));(case aB => exact (by repeat (first|(with_reducible first|exact HB.out|apply qc1|apply qd1|apply qe1)|exact HB.out)));(case aF => exact (fun k_ hk => Kd.fresh' (Kd.R_lt (by (with_reducible repeat (first|apply qa1|apply qb1|apply Kd.R_drew));exact HO129.out)) k_ hk));(case aO => exact (by (with_reducible repeat (first|apply qa1|apply qb1|apply Kd.R_drew));exact Kd.R_mono HO126.out (fun _ hk => hk.2)));(case aS => exact (below_size (by repeat (first|(with_reducible first|exact HB.out|apply qc1|apply qd1|apply qe1)|exact HB.out))));(case aL => have:=LMc4.out;omega);intro v131 w9 ho hb hg hat;rw [← Ny130.out] at ho;have n0_:=qf1 (Kd.R_after (ok:=(fun _ => True)) (by (with_reducible repeat (first|apply qa1|apply qb1|apply Kd.R_drew));exact HO129.out) hg hat);have n1_:=qf1 (hb);have n2_:=qf1 (ho);clear HO129;clear HB;clear HO126;have HO129:=n0_;have HB:=n1_;have HO132:=n2_;clear n0_ n1_ n2_;clear ho hb hg hat;obtain ⟨Ao11,co11,eo11⟩:=Kd.R_slice HO132.out;subst eo11)|((with_reducible refine gate_callee (f:=131) rfl ?_);refine goesL_ (some 11) rfl rfl Tryd.func131 (by kernel_rfl) rfl #[.int .i64 a0,.slice Ao11 y130.length co11] rfl (by (try simp only [List.map_toArray,List.map_cons,List.map_nil]);first|done|rfl|(simp only [List.length_drop,List.length_take];rfl)) ?_;(with_reducible refine (spec_l04Mac.calls a0 _ _ y130 t133 _ ?side1 ?side2 A5.out).mono ?_);(case side1 => repeat (first|exact (Kd.R_reads' HO132.out).2.2|(with_reducible refine Kd.C_alloc ?_ _)|(with_reducible refine Kd.C_drewN ?_ _)|(with_reducible refine Kd.C_drew ?_)));(case side2 => exact (Kd.R_reads' HO132.out).2.1);rintro e w12 ⟨rfl,hb⟩;refine ⟨_,rfl,?_⟩;have n0_:=qf1 (Kd.R_below (by (with_reducible repeat (first|apply qa1|apply qb1|apply Kd.R_drew));exact HO129.out) hb);have n1_:=qf1 (Kd.R_below (by (with_reducible repeat (first|apply qa1|apply qb1|apply Kd.R_drew));exact HO132.out) hb);have n2_:=qf1 (below_step (by repeat (first|(with_reducible first|exact HB.out|apply qc1|apply qd1|apply qe1)|exact HB.out)) hb);clear HO129;clear HO132;clear HB;have HO129:=n0_;have HO132:=n1_;have HB:=n2_;clear n0_ n1_ n2_;(try clear hb);(try clear hb2);(try clear hk);(try clear hi)))
  go_ret
  exact ⟨by first|rfl|(simp [errW_none,errW_some] <;> rfl)|(simp [*,errW_none,errW_some] <;> rfl),by repeat (first|(with_reducible first|exact HB.out|apply qc1|apply qd1|apply qe1)|exact HB.out)⟩
 ·
  rw [if_neg c4] at H
  exact absurd H (by simp)

/-! ### spec_l01In: function 60 -/
def spec_l01In.f (a0 : Int) (a1 : Int) (a2 : Int) : Option (Bool):=if a0 ≥ a1 then (some (decide (a0 ≤ a2))) else (some false)
set_option maxHeartbeats 8000000 in
set_option maxRecDepth 100000 in
theorem spec_l01In.calls (a0 : Int) (a1 : Int) (a2 : Int) (r : Bool) (w : World) (h : spec_l01In.f a0 a1 a2 = some r) :
  Calls Tryd.prog 60 #[.int .i64 a0,.int .i64 a1,.int .i64 a2] w fun e w' => e = .returned (.bool r) ∧ Drawn0 w w':=by
 have H : (if a0 ≥ a1 then (some (decide (a0 ≤ a2))) else (some false)) = some r:=h
 clear h
 by_cases c4 : a0 ≥ a1
 ·
  rw [if_pos c4] at H
  have c4b0 : decide (a1 ≤ a0) = true:=decide_eq_true c4
  clear c4
  obtain rfl:=Option.some.inj H
  go_enter Tryd.func60,Tryd.ntmps60
  go_wp2
  go_ret
  exact ⟨by first|rfl|(simp;done)|(simp [*];done),by repeat (first|exact Drawn0.refl _|apply Drawn0.step)⟩
 ·
  rw [if_neg c4] at H
  have c4b0 : decide (a1 ≤ a0) = false:=decide_eq_false c4
  clear c4
  obtain rfl:=Option.some.inj H
  go_enter Tryd.func60,Tryd.ntmps60
  go_wp2
  go_ret
  exact ⟨by first|rfl|(simp;done)|(simp [*];done),by repeat (first|exact Drawn0.refl _|apply Drawn0.step)⟩

/-! ### spec_l02Reading: function 125 -/
def spec_l02Reading.f (a0_0 : Int) (a0_1 : Int) (a0_2 : ByteArray) : Option (Bool):=(spec_l01In.f a0_0 0 6).bind fun t135 => (if t135 = true then ((spec_l01In.f a0_1 0 1000000000).bind fun t136 => (if t136 = true then (some ((a0_2.size : Int) == 8)) else (some false))) else (some false))
set_option maxHeartbeats 8000000 in
set_option maxRecDepth 100000 in
theorem spec_l02Reading.calls (a0_0 : Int) (a0_1 : Int) (a0_2 : ByteArray) (r : Bool) (w : World) (h : spec_l02Reading.f a0_0 a0_1 a0_2 = some r) :
  Calls Tryd.prog 125 #[.agg #[.int .i64 a0_0,.int .i64 a0_1,.string a0_2]] w fun e w' => e = .returned (.bool r) ∧ Below w.heap.size w w':=by
 have hu72:=Tryd.underlying72
 have HB:=qf1 (Below.refl w.heap.size w)
 have H : ((spec_l01In.f a0_0 0 6).bind fun t135 => (if t135 = true then ((spec_l01In.f a0_1 0 1000000000).bind fun t136 => (if t136 = true then (some ((a0_2.size : Int) == 8)) else (some false))) else (some false))) = some r:=h
 clear h
 replace H:=Option.bind_eq_some_iff.mp H
 obtain ⟨t135,A20,H⟩:=H
 replace H : (if t135 = true then ((spec_l01In.f a0_1 0 1000000000).bind fun t136 => (if t136 = true then (some ((a0_2.size : Int) == 8)) else (some false))) else (some false)) = some r:=H
 have A2:=qf1 A20
 clear A20
 by_cases c3 : t135 = true
 ·
  subst c3
  have H1 : ((spec_l01In.f a0_1 0 1000000000).bind fun t136 => (if t136 = true then (some ((a0_2.size : Int) == 8)) else (some false))) = some r:=by rw [if_pos rfl] at H;exact H
  clear H
  have H:=H1
  clear H1
  replace H:=Option.bind_eq_some_iff.mp H
  obtain ⟨t136,A40,H⟩:=H
  replace H : (if t136 = true then (some ((a0_2.size : Int) == 8)) else (some false)) = some r:=H
  have A4:=qf1 A40
  clear A40
  by_cases c5 : t136 = true
  ·
   subst c5
   have H1 : (some ((a0_2.size : Int) == 8)) = some r:=by rw [if_pos rfl] at H;exact H
   clear H
   have H:=H1
   clear H1
   obtain rfl:=Option.some.inj H
   go_enter Tryd.func125,Tryd.ntmps125
   go_wp2_with (first|((with_reducible refine gate_dst (N:=1) rfl ?_);refine box_event ?hg (N:=1) ?hd (cs:=#[.int .i64 a0_0,.int .i64 a0_1,.string a0_2]) (t:=72) ?hr ?_;(case hd => rfl);(case hg => rfl);(case hr => first|(go_simp;done)|(go_simp;rfl));intro gb134 hg w6 hbox hb;have n0_:=qf1 (below_step (by repeat (first|(with_reducible first|exact HB.out|apply qc1|apply qd1|apply qe1)|exact HB.out)) hb);have n1_:=qf1 (hbox);have n2_:=qf1 ((by rw [hg];exact (below_size (by repeat (first|(with_reducible first|exact HB.out|apply qc1|apply qd1|apply qe1)|exact HB.out))) : w.heap.size ≤ gb134));have n3_:=qf1 ((by rw [hg];exact (below_size (by repeat (first|(with_reducible first|exact HB.out|apply qc1|apply qd1|apply qe1)|exact HB.out))) : w.heap.size ≤ gb134));clear HB;have HB:=n0_;have BK134:=n1_;have GW134:=n2_;have GE134:=n3_;clear n0_ n1_ n2_ n3_;clear hb hbox hg;have hcz7_0 : w6.cell? ⟨gb134,0,none⟩ = some (.int .i64 a0_0):=(blk_cell BK134.out 0).trans rfl;have hcz7_1 : w6.cell? ⟨gb134,1,none⟩ = some (.int .i64 a0_1):=(blk_cell BK134.out 1).trans rfl;have hcz7_2 : w6.cell? ⟨gb134,2,none⟩ = some (.string a0_2):=(blk_cell BK134.out 2).trans rfl;have hfz7_0:=blk_frozen BK134.out 0;have hfz7_1:=blk_frozen BK134.out 1;have hfz7_2:=blk_frozen BK134.out 2)|((with_reducible refine gate_callee (f:=60) rfl ?_);refine goesL_ (some 5) rfl rfl Tryd.func60 (by kernel_rfl) rfl #[.int .i64 a0_0,.int .i64 0,.int .i64 6] rfl (by (try simp only [List.map_toArray,List.map_cons,List.map_nil]);first|done|rfl|(simp only [List.length_drop,List.length_take];rfl)) ?_;(with_reducible refine (spec_l01In.calls a0_0 0 6 true _ A2.out).mono ?_);rintro e w' ⟨rfl,⟨nd,rfl⟩⟩;refine ⟨_,rfl,?_⟩)|(go_at_call 60;(with_reducible refine (spec_l01In.calls a0_1 0 1000000000 true _ A4.out).mono ?_);rintro e w' ⟨rfl,⟨nd,rfl⟩⟩))
   go_ret
   exact ⟨by first|rfl|(simp [errW_none,errW_some] <;> rfl)|(simp [*,errW_none,errW_some] <;> rfl),by repeat (first|(with_reducible first|exact HB.out|apply qc1|apply qd1|apply qe1|refine below_set ?_ GE134.out)|exact HB.out)⟩
  ·
   replace c5:=Bool.eq_false_iff.mpr c5
   subst c5
   have H1 : (some false) = some r:=by rw [if_neg (show ¬ (false = true) by decide)] at H;exact H
   clear H
   have H:=H1
   clear H1
   obtain rfl:=Option.some.inj H
   go_enter Tryd.func125,Tryd.ntmps125
   go_wp2_with (first|((with_reducible refine gate_dst (N:=1) rfl ?_);refine box_event ?hg (N:=1) ?hd (cs:=#[.int .i64 a0_0,.int .i64 a0_1,.string a0_2]) (t:=72) ?hr ?_;(case hd => rfl);(case hg => rfl);(case hr => first|(go_simp;done)|(go_simp;rfl));intro gb134 hg w8 hbox hb;have n0_:=qf1 (below_step (by repeat (first|(with_reducible first|exact HB.out|apply qc1|apply qd1|apply qe1)|exact HB.out)) hb);have n1_:=qf1 (hbox);have n2_:=qf1 ((by rw [hg];exact (below_size (by repeat (first|(with_reducible first|exact HB.out|apply qc1|apply qd1|apply qe1)|exact HB.out))) : w.heap.size ≤ gb134));have n3_:=qf1 ((by rw [hg];exact (below_size (by repeat (first|(with_reducible first|exact HB.out|apply qc1|apply qd1|apply qe1)|exact HB.out))) : w.heap.size ≤ gb134));clear HB;have HB:=n0_;have BK134:=n1_;have GW134:=n2_;have GE134:=n3_;clear n0_ n1_ n2_ n3_;clear hb hbox hg;have hcz9_0 : w8.cell? ⟨gb134,0,none⟩ = some (.int .i64 a0_0):=(blk_cell BK134.out 0).trans rfl;have hcz9_1 : w8.cell? ⟨gb134,1,none⟩ = some (.int .i64 a0_1):=(blk_cell BK134.out 1).trans rfl;have hcz9_2 : w8.cell? ⟨gb134,2,none⟩ = some (.string a0_2):=(blk_cell BK134.out 2).trans rfl;have hfz9_0:=blk_frozen BK134.out 0;have hfz9_1:=blk_frozen BK134.out 1;have hfz9_2:=blk_frozen BK134.out 2)|((with_reducible refine gate_callee (f:=60) rfl ?_);refine goesL_ (some 5) rfl rfl Tryd.func60 (by kernel_rfl) rfl #[.int .i64 a0_0,.int .i64 0,.int .i64 6] rfl (by (try simp only [List.map_toArray,List.map_cons,List.map_nil]);first|done|rfl|(simp only [List.length_drop,List.length_take];rfl)) ?_;(with_reducible refine (spec_l01In.calls a0_0 0 6 true _ A2.out).mono ?_);rintro e w' ⟨rfl,⟨nd,rfl⟩⟩;refine ⟨_,rfl,?_⟩)|(go_at_call 60;(with_reducible refine (spec_l01In.calls a0_1 0 1000000000 false _ A4.out).mono ?_);rintro e w' ⟨rfl,⟨nd,rfl⟩⟩))
   go_ret
   exact ⟨by first|rfl|(simp [errW_none,errW_some] <;> rfl)|(simp [*,errW_none,errW_some] <;> rfl),by repeat (first|(with_reducible first|exact HB.out|apply qc1|apply qd1|apply qe1|refine below_set ?_ GE134.out)|exact HB.out)⟩
 ·
  replace c3:=Bool.eq_false_iff.mpr c3
  subst c3
  have H1 : (some false) = some r:=by rw [if_neg (show ¬ (false = true) by decide)] at H;exact H
  clear H
  have H:=H1
  clear H1
  obtain rfl:=Option.some.inj H
  go_enter Tryd.func125,Tryd.ntmps125
  go_wp2_with (first|((with_reducible refine gate_dst (N:=1) rfl ?_);refine box_event ?hg (N:=1) ?hd (cs:=#[.int .i64 a0_0,.int .i64 a0_1,.string a0_2]) (t:=72) ?hr ?_;(case hd => rfl);(case hg => rfl);(case hr => first|(go_simp;done)|(go_simp;rfl));intro gb134 hg w10 hbox hb;have n0_:=qf1 (below_step (by repeat (first|(with_reducible first|exact HB.out|apply qc1|apply qd1|apply qe1)|exact HB.out)) hb);have n1_:=qf1 (hbox);have n2_:=qf1 ((by rw [hg];exact (below_size (by repeat (first|(with_reducible first|exact HB.out|apply qc1|apply qd1|apply qe1)|exact HB.out))) : w.heap.size ≤ gb134));have n3_:=qf1 ((by rw [hg];exact (below_size (by repeat (first|(with_reducible first|exact HB.out|apply qc1|apply qd1|apply qe1)|exact HB.out))) : w.heap.size ≤ gb134));clear HB;have HB:=n0_;have BK134:=n1_;have GW134:=n2_;have GE134:=n3_;clear n0_ n1_ n2_ n3_;clear hb hbox hg;have hcz11_0 : w10.cell? ⟨gb134,0,none⟩ = some (.int .i64 a0_0):=(blk_cell BK134.out 0).trans rfl;have hcz11_1 : w10.cell? ⟨gb134,1,none⟩ = some (.int .i64 a0_1):=(blk_cell BK134.out 1).trans rfl;have hcz11_2 : w10.cell? ⟨gb134,2,none⟩ = some (.string a0_2):=(blk_cell BK134.out 2).trans rfl;have hfz11_0:=blk_frozen BK134.out 0;have hfz11_1:=blk_frozen BK134.out 1;have hfz11_2:=blk_frozen BK134.out 2)|((with_reducible refine gate_callee (f:=60) rfl ?_);refine goesL_ (some 5) rfl rfl Tryd.func60 (by kernel_rfl) rfl #[.int .i64 a0_0,.int .i64 0,.int .i64 6] rfl (by (try simp only [List.map_toArray,List.map_cons,List.map_nil]);first|done|rfl|(simp only [List.length_drop,List.length_take];rfl)) ?_;(with_reducible refine (spec_l01In.calls a0_0 0 6 false _ A2.out).mono ?_);rintro e w' ⟨rfl,⟨nd,rfl⟩⟩;refine ⟨_,rfl,?_⟩))
  go_ret
  exact ⟨by first|rfl|(simp [errW_none,errW_some] <;> rfl)|(simp [*,errW_none,errW_some] <;> rfl),by repeat (first|(with_reducible first|exact HB.out|apply qc1|apply qd1|apply qe1|refine below_set ?_ GE134.out)|exact HB.out)⟩

/-! ### spec_l04Sorted: function 126 -/
mutual
def spec_l04Sorted.l0 : Nat → List Int → Int → Option (List Int)
 | 0,_,_ => none
 | k + 1,x3,x4 => if x4 < (x3.length : Int) then (spec_l04Sorted.l1 k x3 x4 x4) else (some x3)
def spec_l04Sorted.l1 : Nat → List Int → Int → Int → Option (List Int)
 | 0,_,_,_ => none
 | k + 1,x3,x4,x5 => if x5 > 0 then (if 0 ≤ (wrap64 (x5 - 1)) then (if (wrap64 (x5 - 1)) < (x3.length : Int) then (if 0 ≤ x5 then (if x5 < (x3.length : Int) then (if (rd x3 (wrap64 (x5 - 1))) > (rd x3 x5) then (spec_l04Sorted.l1 k ((x3.set (x5 : Int).toNat (rd x3 (wrap64 (x5 - 1)))).set ((wrap64 (x5 - 1)) : Int).toNat (rd x3 x5)) x4 (wrap64 (x5 - 1))) else (spec_l04Sorted.l0 k x3 (wrap64 (x4 + 1)))) else (none)) else (none)) else (none)) else (none)) else (spec_l04Sorted.l0 k x3 (wrap64 (x4 + 1)))
end
def spec_l04Sorted.f (k : Nat) (l0 : List Int) : Option (List Int):=(some (([] : List Int) : List Int)).bind fun y137 => (if y137.length + l0.length < 17592186044416 then (spec_l04Sorted.l0 k (y137 ++ l0) 1) else (none))
theorem spec_l04Sorted.mono_l : ∀ k,(∀ y0 y1,LeO (spec_l04Sorted.l0 k y0 y1) (spec_l04Sorted.l0 (k + 1) y0 y1)) ∧ (∀ y0 y1 y2,LeO (spec_l04Sorted.l1 k y0 y1 y2) (spec_l04Sorted.l1 (k + 1) y0 y1 y2))
 | 0 => ⟨fun _ _ r h => by simp [spec_l04Sorted.l0] at h,fun _ _ _ r h => by simp [spec_l04Sorted.l1] at h⟩
 | k + 1 => by
  obtain ⟨ih0,ih1⟩:=spec_l04Sorted.mono_l k
  refine ⟨?_,?_⟩
  ·
   intro y0 y1
   unfold spec_l04Sorted.l0
   repeat' first
   | (with_reducible exact ih0 _ _)
   | (with_reducible exact ih1 _ _ _)
   | (with_reducible exact LeO.refl _)
   | (with_reducible exact LeO.none _)
   | (with_reducible refine LeO.ite ?_ ?_)
   | (with_reducible refine LeO.bind ?_ (fun _ => ?_))
   | exact ih0 _ _
   | exact ih1 _ _ _
   | exact LeO.none _
   | refine LeO.ite ?_ ?_
   | refine LeO.bind ?_ (fun _ => ?_)
  ·
   intro y0 y1 y2
   unfold spec_l04Sorted.l1
   repeat' first
   | (with_reducible exact ih0 _ _)
   | (with_reducible exact ih1 _ _ _)
   | (with_reducible exact LeO.refl _)
   | (with_reducible exact LeO.none _)
   | (with_reducible refine LeO.ite ?_ ?_)
   | (with_reducible refine LeO.bind ?_ (fun _ => ?_))
   | exact ih0 _ _
   | exact ih1 _ _ _
   | exact LeO.none _
   | refine LeO.ite ?_ ?_
   | refine LeO.bind ?_ (fun _ => ?_)
theorem spec_l04Sorted.mono : ∀ a0 k,LeO (spec_l04Sorted.f k a0) (spec_l04Sorted.f (k + 1) a0):=by
 intro a0 k
 obtain ⟨ih0,ih1⟩:=spec_l04Sorted.mono_l k
 unfold spec_l04Sorted.f
 repeat' first
   | (with_reducible exact ih0 _ _)
   | (with_reducible exact ih1 _ _ _)
   | (with_reducible exact LeO.refl _)
   | (with_reducible exact LeO.none _)
   | (with_reducible refine LeO.ite ?_ ?_)
   | (with_reducible refine LeO.bind ?_ (fun _ => ?_))
   | exact ih0 _ _
   | exact ih1 _ _ _
   | exact LeO.none _
   | refine LeO.ite ?_ ?_
   | refine LeO.bind ?_ (fun _ => ?_)
set_option maxHeartbeats 8000000 in
set_option maxRecDepth 100000 in
theorem spec_l04Sorted.calls (k : Nat) (A0 : Option Addr) (c0 : Nat) (l0 : List Int) (r : List Int) (w : World) (hr0 : Kd.C (Kd.int .i64) w A0 l0.length l0) (hc0 : l0.length ≤ c0) (h : spec_l04Sorted.f k l0 = some r) :
  Calls Tryd.prog 126 #[.slice A0 l0.length c0] w fun e w' => ∃ v0_ : Value,e = .returned (v0_) ∧ Kd.R (Kd.int .i64) 3 w' w.heap.size (fun _ => True) v0_ r ∧ Below w.heap.size w w':=by
 have HR0:=qf1 hr0
 have HC0:=qf1 hc0
 clear hr0 hc0
 have HB:=qf1 (Below.refl w.heap.size w)
 have H : ((some (([] : List Int) : List Int)).bind fun y137 => (if y137.length + l0.length < 17592186044416 then (spec_l04Sorted.l0 k (y137 ++ l0) 1) else (none))) = some r:=h
 clear h
 obtain ⟨y137,hy137⟩ : ∃ y_ : List Int,y_ = (([] : List Int)):=⟨_,rfl⟩
 replace H : (if y137.length + l0.length < 17592186044416 then (spec_l04Sorted.l0 k (y137 ++ l0) 1) else (none)) = some r:=by first|(rw [hy137];with_reducible exact H)|(have H2_:=(Option.bind_some _ _).symm.trans H;rw [hy137];with_reducible exact H2_)|(have H2_:=(Option.bind_some _ _).symm.trans H;with_reducible exact H2_)|with_reducible exact H|(rw [hy137];exact H)|exact H
 have Ny137:=qf1 hy137
 clear hy137
 by_cases c2 : y137.length + l0.length < 17592186044416
 ·
  rw [if_pos c2] at H
  have LMc2:=qf1 c2
  clear c2
  obtain ⟨y140,hy140⟩ : ∃ y_ : List Int,y_ = (y137 ++ l0):=⟨_,rfl⟩
  replace H : (spec_l04Sorted.l0 k y140 1) = some r:=by first|(rw [hy140];with_reducible exact H)|(have H2_:=(Option.bind_some _ _).symm.trans H;rw [hy140];with_reducible exact H2_)|(have H2_:=(Option.bind_some _ _).symm.trans H;with_reducible exact H2_)|with_reducible exact H|(rw [hy140];exact H)|exact H
  have Ny140:=qf1 hy140
  clear hy140
  have H':=qf1 H
  clear H
  go_enter Tryd.func126,Tryd.ntmps126
  go_wp2_with (first|((with_reducible refine gate_dst (N:=7) rfl ?_);refine Kd.R_lit (Kd.int .i64) _ 3 ?hg (N:=7) ?hd (xs:=([] : List Int)) (inner:=[]) (ok:=fun _ => True) (okp:=fun _ => True) ?hr ?hp (fun _ hk => hk) trivial (Below.refl _ _) (Nat.le_refl _) (by simp) ?_;(case hd => rfl);(case hg => rfl);(case hr => first|(go_simp;done)|(go_simp;rfl));(case hp => exact (Reps.none _ _));intro v138 w3 ho4 hb hg_ hnew_;clear hg_ hnew_;(first|rw [← Ny137.out] at ho4|(simp only [Int.reduceToNat] at ho4;rw [← Ny137.out] at ho4));have n0_:=qf1 (Kd.R_lower ho4 (below_size (by repeat (first|(with_reducible first|exact HB.out|apply qc1|apply qd1|apply qe1)|exact HB.out))));have n1_:=qf1 (below_step (by repeat (first|(with_reducible first|exact HB.out|apply qc1|apply qd1|apply qe1)|exact HB.out)) hb);clear HB;have HO139:=n0_;have HB:=n1_;clear n0_ n1_;clear hb ho4)|((with_reducible refine gate_builtin (b:=.append) (xs:=#[.tmp 7,.tmp 8]) rfl ?_);at_builtin;refine Kd.R_append_rows (Kd.int .i64) (w0:=w) w.heap.size rfl (.tmp 7) (.tmp 8) 67 3 (.int .i64 0) 8 rfl Tryd.underlying67 info3 rfl (by decide) (by omega) v138 y137 l0 _ _ _ (fun _ => True) (fun _ => False) rfl rfl ?aO ?aR (fun _ _ h => h) (fun _ h => h.elim) ?aF ?aB ?aS ?aL ?_;(case aR => repeat (first|exact (Kd.C_below HR0.out HB.out)|(with_reducible refine Kd.C_alloc ?_ _)|(with_reducible refine Kd.C_drewN ?_ _)|(with_reducible refine Kd.C_drew ?_)));(case aB => exact (by repeat (first|(with_reducible first|exact HB.out|apply qc1|apply qd1|apply qe1)|exact HB.out)));(case aF => exact (fun _ _ => trivial));(case aO => exact (by (with_reducible repeat (first|apply qa1|apply qb1|apply Kd.R_drew));exact HO139.out));(case aS => exact (below_size (by repeat (first|(with_reducible first|exact HB.out|apply qc1|apply qd1|apply qe1)|exact HB.out))));(case aL => have:=LMc2.out;omega);intro v141 w5 ho hb hg hat;rw [← Ny140.out] at ho;have n0_:=qf1 (hb);have n1_:=qf1 (ho);clear HB;clear HO139;have HB:=n0_;have HO142:=n1_;clear n0_ n1_;clear ho hb hg hat))
  repeat (go_quiet (first|((with_reducible refine gate_dst (N:=7) rfl ?_);refine Kd.R_lit (Kd.int .i64) _ 3 ?hg (N:=7) ?hd (xs:=([] : List Int)) (inner:=[]) (ok:=fun _ => True) (okp:=fun _ => True) ?hr ?hp (fun _ hk => hk) trivial (Below.refl _ _) (Nat.le_refl _) (by simp) ?_;(case hd => rfl);(case hg => rfl);(case hr => first|(go_simp;done)|(go_simp;rfl));(case hp => exact (Reps.none _ _));intro v138 w3 ho4 hb hg_ hnew_;clear hg_ hnew_;(first|rw [← Ny137.out] at ho4|(simp only [Int.reduceToNat] at ho4;rw [← Ny137.out] at ho4));have n0_:=qf1 (Kd.R_lower ho4 (below_size (by repeat (first|(with_reducible first|exact HB.out|apply qc1|apply qd1|apply qe1)|exact HB.out))));have n1_:=qf1 (below_step (by repeat (first|(with_reducible first|exact HB.out|apply qc1|apply qd1|apply qe1)|exact HB.out)) hb);clear HB;have HO139:=n0_;have HB:=n1_;clear n0_ n1_;clear hb ho4)|((with_reducible refine gate_builtin (b:=.append) (xs:=#[.tmp 7,.tmp 8]) rfl ?_);at_builtin;refine Kd.R_append_rows (Kd.int .i64) (w0:=w) w.heap.size rfl (.tmp 7) (.tmp 8) 67 3 (.int .i64 0) 8 rfl Tryd.underlying67 info3 rfl (by decide) (by omega) v138 y137 l0 _ _ _ (fun _ => True) (fun _ => False) rfl rfl ?aO ?aR (fun _ _ h => h) (fun _ h => h.elim) ?aF ?aB ?aS ?aL ?_;(case aR => repeat (first|exact (Kd.C_below HR0.out HB.out)|(with_reducible refine Kd.C_alloc ?_ _)|(with_reducible refine Kd.C_drewN ?_ _)|(with_reducible refine Kd.C_drew ?_)));(case aB => exact (by repeat (first|(with_reducible first|exact HB.out|apply qc1|apply qd1|apply qe1)|exact HB.out)));(case aF => exact (fun _ _ => trivial));(case aO => exact (by (with_reducible repeat (first|apply qa1|apply qb1|apply Kd.R_drew));exact HO139.out));(case aS => exact (below_size (by repeat (first|(with_reducible first|exact HB.out|apply qc1|apply qd1|apply qe1)|exact HB.out))));(case aL => have:=LMc2.out;omega);intro v141 w5 ho hb hg hat;rw [← Ny140.out] at ho;have n0_:=qf1 (hb);have n1_:=qf1 (ho);clear HB;clear HO139;have HB:=n0_;have HO142:=n1_;clear n0_ n1_;clear ho hb hg hat));try go_wp2_with (first|((with_reducible refine gate_dst (N:=7) rfl ?_);refine Kd.R_lit (Kd.int .i64) _ 3 ?hg (N:=7) ?hd (xs:=([] : List Int)) (inner:=[]) (ok:=fun _ => True) (okp:=fun _ => True) ?hr ?hp (fun _ hk => hk) trivial (Below.refl _ _) (Nat.le_refl _) (by simp) ?_;(case hd => rfl);(case hg => rfl);(case hr => first|(go_simp;done)|(go_simp;rfl));(case hp => exact (Reps.none _ _));intro v138 w3 ho4 hb hg_ hnew_;clear hg_ hnew_;(first|rw [← Ny137.out] at ho4|(simp only [Int.reduceToNat] at ho4;rw [← Ny137.out] at ho4));have n0_:=qf1 (Kd.R_lower ho4 (below_size (by repeat (first|(with_reducible first|exact HB.out|apply qc1|apply qd1|apply qe1)|exact HB.out))));have n1_:=qf1 (below_step (by repeat (first|(with_reducible first|exact HB.out|apply qc1|apply qd1|apply qe1)|exact HB.out)) hb);clear HB;have HO139:=n0_;have HB:=n1_;clear n0_ n1_;clear hb ho4)|((with_reducible refine gate_builtin (b:=.append) (xs:=#[.tmp 7,.tmp 8]) rfl ?_);at_builtin;refine Kd.R_append_rows (Kd.int .i64) (w0:=w) w.heap.size rfl (.tmp 7) (.tmp 8) 67 3 (.int .i64 0) 8 rfl Tryd.underlying67 info3 rfl (by decide) (by omega) v138 y137 l0 _ _ _ (fun _ => True) (fun _ => False) rfl rfl ?aO ?aR (fun _ _ h => h) (fun _ h => h.elim) ?aF ?aB ?aS ?aL ?_;(case aR => repeat (first|exact (Kd.C_below HR0.out HB.out)|(with_reducible refine Kd.C_alloc ?_ _)|(with_reducible refine Kd.C_drewN ?_ _)|(with_reducible refine Kd.C_drew ?_)));(case aB => exact (by repeat (first|(with_reducible first|exact HB.out|apply qc1|apply qd1|apply qe1)|exact HB.out)));(case aF => exact (fun _ _ => trivial));(case aO => exact (by (with_reducible repeat (first|apply qa1|apply qb1|apply Kd.R_drew));exact HO139.out));(case aS => exact (below_size (by repeat (first|(with_reducible first|exact HB.out|apply qc1|apply qd1|apply qe1)|exact HB.out))));(case aL => have:=LMc2.out;omega);intro v141 w5 ho hb hg hat;rw [← Ny140.out] at ho;have n0_:=qf1 (hb);have n1_:=qf1 (ho);clear HB;clear HO139;have HB:=n0_;have HO142:=n1_;clear n0_ n1_;clear ho hb hg hat)))
  go_loopg [4] k (fun kq v4 w' => ∃ (x3_1 : List Int) (x4_1 : Int),v4 = .int .i64 x4_1 ∧ Aside0 (spec_l04Sorted.l0 kq x3_1 x4_1 = some r) ∧ Aside0 (kq ≤ k) ∧ Aside0 (Kd.R (Kd.int .i64) 3 w' w.heap.size (fun _ => True) v141 x3_1) ∧ Aside0 (Below w.heap.size w w'))
  case atStart => exact ⟨(y140),(1),(by first|rfl|(simp;done)|(simp [*];done)),H',⟨Nat.le_refl _⟩,⟨by (with_reducible repeat (first|apply qa1|apply qb1|apply Kd.R_drew));exact HO142.out⟩,⟨by repeat (first|(with_reducible first|exact HB.out|apply qc1|apply qd1|apply qe1)|exact HB.out)⟩⟩
  case round =>
   clear H'
   try clear c1
   try clear c2
   try clear p2
   obtain ⟨x3_1,x4_1,rfl,HA,HK1,HO_3,HB⟩:=hrel
   cases gk with
   | zero => exact absurd HA.out (by simp [spec_l04Sorted.l0])
   | succ k1 =>
    have H:=HA.out
    clear HA
    simp only [spec_l04Sorted.l0] at H
    by_cases c6 : x4_1 < (x3_1.length : Int)
    ·
     rw [if_pos c6] at H
     have c6b0 : decide (x4_1 < (x3_1.length : Int)) = true:=decide_eq_true c6
     clear c6
     have H':=qf1 H
     clear H
     obtain ⟨Ao7,co7,eo7⟩:=Kd.R_slice HO_3.out
     subst eo7
     go_wp2
     repeat (go_quiet (fail);try go_wp2)
     go_loopg [5] k1 (fun kq v5 w' => ∃ (x3_2 : List Int) (x5_2 : Int),v5 = .int .i64 x5_2 ∧ Aside0 (spec_l04Sorted.l1 kq x3_2 x4_1 x5_2 = some r) ∧ Aside0 (kq ≤ k1) ∧ Aside0 (Kd.R (Kd.int .i64) 3 w' w.heap.size (fun _ => True) (.slice Ao7 x3_1.length co7) x3_2) ∧ Aside0 (Below w.heap.size w w'))
     case atStart => exact ⟨(x3_1),(x4_1),(by first|rfl|(simp;done)|(simp [*];done)),H',⟨Nat.le_refl _⟩,⟨by (with_reducible repeat (first|apply qa1|apply qb1|apply Kd.R_drew));exact HO_3.out⟩,⟨by repeat (first|(with_reducible first|exact HB.out|apply qc1|apply qd1|apply qe1)|exact HB.out)⟩⟩
     case round =>
      clear H'
      try clear c1
      try clear c2
      try clear p2
      try clear c6
      try clear c6b0
      try clear p2
      obtain ⟨x3_2,x5_2,rfl,HA,HK2,HO_3,HB⟩:=hrel
      have hl3_2:=(Kd.R_reads' HO_3.out).1
      rw [hl3_2] at HO_3
      (try simp only [hl3_2])
      cases gk with
      | zero => exact absurd HA.out (by simp [spec_l04Sorted.l1])
      | succ k2 =>
       have H:=HA.out
       clear HA
       simp only [spec_l04Sorted.l1] at H
       by_cases c8 : x5_2 > 0
       ·
        rw [if_pos c8] at H
        have c8b0 : decide (0 < x5_2) = true:=decide_eq_true c8
        clear c8
        obtain ⟨ji9,hji9⟩ : ∃ j_ : Int,(wrap64 (x5_2 - 1)) = j_:=⟨_,rfl⟩
        replace H : (if 0 ≤ (ji9) then (if (ji9) < (x3_2.length : Int) then (if 0 ≤ x5_2 then (if x5_2 < (x3_2.length : Int) then (if (rd x3_2 (ji9)) > (rd x3_2 x5_2) then (spec_l04Sorted.l1 k2 ((x3_2.set (x5_2 : Int).toNat (rd x3_2 (ji9))).set ((ji9) : Int).toNat (rd x3_2 x5_2)) x4_1 ji9) else (spec_l04Sorted.l0 k2 x3_2 (wrap64 (x4_1 + 1)))) else (none)) else (none)) else (none)) else (none)) = some r:=by first|(rw [hji9] at H;exact H)|(simp only [hji9] at H ⊢;exact H)
        have hji9w : (IntKind.i64.wrap (x5_2 - 1)) = ji9:=(i64_w _).trans hji9
        by_cases c10 : 0 ≤ (ji9)
        ·
         rw [if_pos c10] at H
         have c10b0 : decide (0 ≤ (ji9)) = true:=decide_eq_true c10
         clear c10
         by_cases c11 : (ji9) < (x3_2.length : Int)
         ·
          rw [if_pos c11] at H
          have c11b0 : decide ((ji9) < (x3_2.length : Int)) = true:=decide_eq_true c11
          (try (have c11b0r0:=c11b0;simp only [hl3_2] at c11b0r0))
          clear c11
          by_cases c12 : 0 ≤ x5_2
          ·
           rw [if_pos c12] at H
           have c12b0 : decide (0 ≤ x5_2) = true:=decide_eq_true c12
           clear c12
           by_cases c13 : x5_2 < (x3_2.length : Int)
           ·
            rw [if_pos c13] at H
            have c13b0 : decide (x5_2 < (x3_2.length : Int)) = true:=decide_eq_true c13
            (try (have c13b0r0:=c13b0;simp only [hl3_2] at c13b0r0))
            clear c13
            by_cases c14 : (rd x3_2 (ji9)) > (rd x3_2 x5_2)
            ·
             rw [if_pos c14] at H
             have c14b0 : decide ((rd x3_2 x5_2) < (rd x3_2 (ji9))) = true:=decide_eq_true c14
             clear c14
             obtain ⟨y147,hy147⟩ : ∃ y_ : List Int,y_ = (x3_2.set (x5_2 : Int).toNat (rd x3_2 (ji9))):=⟨_,rfl⟩
             replace H : (spec_l04Sorted.l1 k2 (y147.set ((ji9) : Int).toNat (rd x3_2 x5_2)) x4_1 ji9) = some r:=by first|(rw [hy147];with_reducible exact H)|(have H2_:=(Option.bind_some _ _).symm.trans H;rw [hy147];with_reducible exact H2_)|(have H2_:=(Option.bind_some _ _).symm.trans H;with_reducible exact H2_)|with_reducible exact H|(rw [hy147];exact H)|exact H
             have Ny147:=qf1 hy147
             clear hy147
             obtain ⟨y148,hy148⟩ : ∃ y_ : List Int,y_ = (y147.set ((ji9) : Int).toNat (rd x3_2 x5_2)):=⟨_,rfl⟩
             replace H : (spec_l04Sorted.l1 k2 y148 x4_1 ji9) = some r:=by first|(rw [hy148];with_reducible exact H)|(have H2_:=(Option.bind_some _ _).symm.trans H;rw [hy148];with_reducible exact H2_)|(have H2_:=(Option.bind_some _ _).symm.trans H;with_reducible exact H2_)|with_reducible exact H|(rw [hy148];exact H)|exact H
             have Ny148:=qf1 hy148
             clear hy148
             have H':=qf1 H
             clear H
             have p143 : 0 ≤ ((ji9) : Int):=of_decide_eq_true (by first|(with_reducible assumption)|assumption)
             have q143 : (ji9) < (x3_2.length : Int):=of_decide_eq_true (by first|(with_reducible assumption)|assumption)
             obtain ⟨ad143,e143,hx143_0⟩:=Kd.at_int (Kd.R_reads' HO_3.out).2.2 (ji9) p143 q143
             cases e143
             replace p143:=eq_true p143
             replace q143:=eq_true q143
             have p144 : 0 ≤ (x5_2 : Int):=of_decide_eq_true (by first|(with_reducible assumption)|assumption)
             have q144 : x5_2 < (x3_2.length : Int):=of_decide_eq_true (by first|(with_reducible assumption)|assumption)
             obtain ⟨ad144,e144,hx144_0⟩:=Kd.at_int (Kd.R_reads' HO_3.out).2.2 x5_2 p144 q144
             obtain rfl : ad143 = ad144:=(by injection e144)
             replace p144:=eq_true p144
             replace q144:=eq_true q144
             have p145 : 0 ≤ (x5_2 : Int):=of_decide_eq_true (by first|(with_reducible assumption)|assumption)
             have q145 : x5_2 < (x3_2.length : Int):=of_decide_eq_true (by first|(with_reducible assumption)|assumption)
             obtain ⟨ad145,e145,hx145_0⟩:=Kd.at_int (Kd.R_reads' HO_3.out).2.2 x5_2 p145 q145
             obtain rfl : ad143 = ad145:=(by injection e145)
             replace p145:=eq_true p145
             replace q145:=eq_true q145
             have p146 : 0 ≤ ((ji9) : Int):=of_decide_eq_true (by first|(with_reducible assumption)|assumption)
             have q146 : (ji9) < (x3_2.length : Int):=of_decide_eq_true (by first|(with_reducible assumption)|assumption)
             obtain ⟨ad146,e146,hx146_0⟩:=Kd.at_int (Kd.R_reads' HO_3.out).2.2 (ji9) p146 q146
             obtain rfl : ad143 = ad146:=(by injection e146)
             replace p146:=eq_true p146
             replace q146:=eq_true q146
             have p15 : 0 ≤ (x5_2 : Int):=of_decide_eq_true (by first|(with_reducible assumption)|assumption)
             have q15 : (x5_2 : Int) < ((x3_2.length : Int) : Int):=of_decide_eq_true (by first|(with_reducible assumption)|assumption)
             obtain ⟨go15,co15,eo15,gb15,gl15,cl15,HG15⟩:=Kd.R_form HO_3.out (by omega)
             (first|cases eo15|(injection eo15 with ea_ en_ ec_;(first|subst ea_|(injection ea_ with ea_;subst ea_));subst ec_;clear en_))
             have GB15:=qf1 gb15
             have GG15:=qf1 HG15
             clear gb15 gl15 HG15
             (first|simp only [add_plain] at hx143_0|skip)
             (first|simp only [add_plain] at hx144_0|skip)
             (first|simp only [add_plain] at hx145_0|skip)
             (first|simp only [add_plain] at hx146_0|skip)
             obtain ⟨hx15_0,hf15_0⟩:=Kd.R_celln 0 HO_3.out (x5_2 : Int) p15 q15
             replace p15:=eq_true p15
             replace q15:=eq_true q15
             have HP17:=Kd.R_putg HO_3.out (x5_2 : Int) (rd x3_2 (ji9))
             go_wp2_with (first|((with_reducible refine gate_store (t:=3) (p:=44) rfl ?_);(try (rw [drewN_self wr];generalize hq_ : World.drewN wr _ = wr;have n0_:=qf1 (Kd.R_at hq_ HO_3.out);have n1_:=qf1 (below_at hq_ HB.out);clear hq_ HO_3 HB;have HO_3:=n0_;have HB:=n1_;clear n0_ n1_;(try (have HP17:=Kd.R_putg HO_3.out (x5_2 : Int) (rd x3_2 (ji9))));(try (obtain ⟨hx15_0,hf15_0⟩:=Kd.R_celln 0 HO_3.out (x5_2 : Int) (of_eq_true p15) (of_eq_true q15)))));refine store_event (t:=3) (p:=44) (v:=?vo_w18) (w1:=(wr.setCell ⟨go15,(x5_2 : Int).toNat,none⟩ (.int .i64 (rd x3_2 (ji9))))) ?hg ?ho ?hn ?hr ?_;(case ho => rfl);(case hg => rfl);(case hn => rfl);(case hr => first|(go_simp;done)|(go_simp;rfl));intro w18 hw;have hg : wr.grownBy w18 (some go15):=(by rw [hw];exact HP17.2);have hp_ : Kd.R (Kd.int .i64) 3 w18 w.heap.size (fun _ => True) (.slice (some ⟨go15,0,none⟩) x3_2.length co7) y147:=(by rw [hw,Ny147.out];exact HP17.1);clear HP17;have n0_:=qf1 (hp_);have n1_:=qf1 ((by rw [hw];exact below_set (HB.out) GB15.out : Below w.heap.size w w18));clear HO_3;clear HB;have HO_3:=n0_;have HB:=n1_;clear n0_ n1_;clear hg hw hp_;have p16 : 0 ≤ ((ji9) : Int):=of_decide_eq_true (by first|(with_reducible assumption)|assumption);have q16 : ((ji9) : Int) < ((x3_2.length : Int) : Int):=of_decide_eq_true (by first|(with_reducible assumption)|assumption);obtain ⟨hx16_0,hf16_0⟩:=Kd.R_celln 0 HO_3.out ((ji9) : Int) p16 q16;replace p16:=eq_true p16;replace q16:=eq_true q16;obtain ⟨hy19_,hz19_⟩:=Kd.R_celln 0 HO_3.out ((ji9) : Int) (of_decide_eq_true (by first|(with_reducible assumption)|assumption)) (of_decide_eq_true (by first|(with_reducible assumption)|assumption));have HP19:=Kd.R_putg HO_3.out ((ji9) : Int) (rd x3_2 x5_2))|((with_reducible refine gate_store (t:=3) (p:=49) rfl ?_);(try (rw [drewN_self w18];generalize hq_ : World.drewN w18 _ = w18;have n0_:=qf1 (Kd.R_at hq_ HO_3.out);have n1_:=qf1 (below_at hq_ HB.out);clear hq_ HO_3 HB;have HO_3:=n0_;have HB:=n1_;clear n0_ n1_;(try (obtain ⟨hy19_,hz19_⟩:=Kd.R_celln 0 HO_3.out ((ji9) : Int) (of_decide_eq_true (by first|(with_reducible assumption)|assumption)) (of_decide_eq_true (by first|(with_reducible assumption)|assumption))));(try (have HP19:=Kd.R_putg HO_3.out ((ji9) : Int) (rd x3_2 x5_2)))));refine store_event (t:=3) (p:=49) (v:=?vo_w20) (w1:=(w18.setCell ⟨go15,((ji9) : Int).toNat,none⟩ (.int .i64 (rd x3_2 x5_2)))) ?hg ?ho ?hn ?hr ?_;(case ho => rfl);(case hg => rfl);(case hn => rfl);(case hr => first|(go_simp;done)|(go_simp;rfl));intro w20 hw;have hg : w18.grownBy w20 (some go15):=(by rw [hw];exact HP19.2);have hp_ : Kd.R (Kd.int .i64) 3 w20 w.heap.size (fun _ => True) (.slice (some ⟨go15,0,none⟩) x3_2.length co7) y148:=(by rw [hw,Ny148.out];exact HP19.1);clear HP19;have n0_:=qf1 (hp_);have n1_:=qf1 ((by rw [hw];exact below_set (HB.out) GB15.out : Below w.heap.size w w20));clear HO_3;clear HB;have HO_3:=n0_;have HB:=n1_;clear n0_ n1_;clear hg hw hp_))
             repeat (go_quiet (first|((with_reducible refine gate_store (t:=3) (p:=44) rfl ?_);(try (rw [drewN_self wr];generalize hq_ : World.drewN wr _ = wr;have n0_:=qf1 (Kd.R_at hq_ HO_3.out);have n1_:=qf1 (below_at hq_ HB.out);clear hq_ HO_3 HB;have HO_3:=n0_;have HB:=n1_;clear n0_ n1_;(try (have HP17:=Kd.R_putg HO_3.out (x5_2 : Int) (rd x3_2 (ji9))));(try (obtain ⟨hx15_0,hf15_0⟩:=Kd.R_celln 0 HO_3.out (x5_2 : Int) (of_eq_true p15) (of_eq_true q15)))));refine store_event (t:=3) (p:=44) (v:=?vo_w18) (w1:=(wr.setCell ⟨go15,(x5_2 : Int).toNat,none⟩ (.int .i64 (rd x3_2 (ji9))))) ?hg ?ho ?hn ?hr ?_;(case ho => rfl);(case hg => rfl);(case hn => rfl);(case hr => first|(go_simp;done)|(go_simp;rfl));intro w18 hw;have hg : wr.grownBy w18 (some go15):=(by rw [hw];exact HP17.2);have hp_ : Kd.R (Kd.int .i64) 3 w18 w.heap.size (fun _ => True) (.slice (some ⟨go15,0,none⟩) x3_2.length co7) y147:=(by rw [hw,Ny147.out];exact HP17.1);clear HP17;have n0_:=qf1 (hp_);have n1_:=qf1 ((by rw [hw];exact below_set (HB.out) GB15.out : Below w.heap.size w w18));clear HO_3;clear HB;have HO_3:=n0_;have HB:=n1_;clear n0_ n1_;clear hg hw hp_;have p16 : 0 ≤ ((ji9) : Int):=of_decide_eq_true (by first|(with_reducible assumption)|assumption);have q16 : ((ji9) : Int) < ((x3_2.length : Int) : Int):=of_decide_eq_true (by first|(with_reducible assumption)|assumption);obtain ⟨hx16_0,hf16_0⟩:=Kd.R_celln 0 HO_3.out ((ji9) : Int) p16 q16;replace p16:=eq_true p16;replace q16:=eq_true q16;obtain ⟨hy19_,hz19_⟩:=Kd.R_celln 0 HO_3.out ((ji9) : Int) (of_decide_eq_true (by first|(with_reducible assumption)|assumption)) (of_decide_eq_true (by first|(with_reducible assumption)|assumption));have HP19:=Kd.R_putg HO_3.out ((ji9) : Int) (rd x3_2 x5_2))|((with_reducible refine gate_store (t:=3) (p:=49) rfl ?_);(try (rw [drewN_self w18];generalize hq_ : World.drewN w18 _ = w18;have n0_:=qf1 (Kd.R_at hq_ HO_3.out);have n1_:=qf1 (below_at hq_ HB.out);clear hq_ HO_3 HB;have HO_3:=n0_;have HB:=n1_;clear n0_ n1_;(try (obtain ⟨hy19_,hz19_⟩:=Kd.R_celln 0 HO_3.out ((ji9) : Int) (of_decide_eq_true (by first|(with_reducible assumption)|assumption)) (of_decide_eq_true (by first|(with_reducible assumption)|assumption))));(try (have HP19:=Kd.R_putg HO_3.out ((ji9) : Int) (rd x3_2 x5_2)))));refine store_event (t:=3) (p:=49) (v:=?vo_w20) (w1:=(w18.setCell ⟨go15,((ji9) : Int).toNat,none⟩ (.int .i64 (rd x3_2 x5_2)))) ?hg ?ho ?hn ?hr ?_;(case ho => rfl);(case hg => rfl);(case hn => rfl);(case hr => first|(go_simp;done)|(go_simp;rfl));intro w20 hw;have hg : w18.grownBy w20 (some go15):=(by rw [hw];exact HP19.2);have hp_ : Kd.R (Kd.int .i64) 3 w20 w.heap.size (fun _ => True) (.slice (some ⟨go15,0,none⟩) x3_2.length co7) y148:=(by rw [hw,Ny148.out];exact HP19.1);clear HP19;have n0_:=qf1 (hp_);have n1_:=qf1 ((by rw [hw];exact below_set (HB.out) GB15.out : Below w.heap.size w w20));clear HO_3;clear HB;have HO_3:=n0_;have HB:=n1_;clear n0_ n1_;clear hg hw hp_));try go_wp2_with (first|((with_reducible refine gate_store (t:=3) (p:=44) rfl ?_);(try (rw [drewN_self wr];generalize hq_ : World.drewN wr _ = wr;have n0_:=qf1 (Kd.R_at hq_ HO_3.out);have n1_:=qf1 (below_at hq_ HB.out);clear hq_ HO_3 HB;have HO_3:=n0_;have HB:=n1_;clear n0_ n1_;(try (have HP17:=Kd.R_putg HO_3.out (x5_2 : Int) (rd x3_2 (ji9))));(try (obtain ⟨hx15_0,hf15_0⟩:=Kd.R_celln 0 HO_3.out (x5_2 : Int) (of_eq_true p15) (of_eq_true q15)))));refine store_event (t:=3) (p:=44) (v:=?vo_w18) (w1:=(wr.setCell ⟨go15,(x5_2 : Int).toNat,none⟩ (.int .i64 (rd x3_2 (ji9))))) ?hg ?ho ?hn ?hr ?_;(case ho => rfl);(case hg => rfl);(case hn => rfl);(case hr => first|(go_simp;done)|(go_simp;rfl));intro w18 hw;have hg : wr.grownBy w18 (some go15):=(by rw [hw];exact HP17.2);have hp_ : Kd.R (Kd.int .i64) 3 w18 w.heap.size (fun _ => True) (.slice (some ⟨go15,0,none⟩) x3_2.length co7) y147:=(by rw [hw,Ny147.out];exact HP17.1);clear HP17;have n0_:=qf1 (hp_);have n1_:=qf1 ((by rw [hw];exact below_set (HB.out) GB15.out : Below w.heap.size w w18));clear HO_3;clear HB;have HO_3:=n0_;have HB:=n1_;clear n0_ n1_;clear hg hw hp_;have p16 : 0 ≤ ((ji9) : Int):=of_decide_eq_true (by first|(with_reducible assumption)|assumption);have q16 : ((ji9) : Int) < ((x3_2.length : Int) : Int):=of_decide_eq_true (by first|(with_reducible assumption)|assumption);obtain ⟨hx16_0,hf16_0⟩:=Kd.R_celln 0 HO_3.out ((ji9) : Int) p16 q16;replace p16:=eq_true p16;replace q16:=eq_true q16;obtain ⟨hy19_,hz19_⟩:=Kd.R_celln 0 HO_3.out ((ji9) : Int) (of_decide_eq_true (by first|(with_reducible assumption)|assumption)) (of_decide_eq_true (by first|(with_reducible assumption)|assumption));have HP19:=Kd.R_putg HO_3.out ((ji9) : Int) (rd x3_2 x5_2))|((with_reducible refine gate_store (t:=3) (p:=49) rfl ?_);(try (rw [drewN_self w18];generalize hq_ : World.drewN w18 _ = w18;have n0_:=qf1 (Kd.R_at hq_ HO_3.out);have n1_:=qf1 (below_at hq_ HB.out);clear hq_ HO_3 HB;have HO_3:=n0_;have HB:=n1_;clear n0_ n1_;(try (obtain ⟨hy19_,hz19_⟩:=Kd.R_celln 0 HO_3.out ((ji9) : Int) (of_decide_eq_true (by first|(with_reducible assumption)|assumption)) (of_decide_eq_true (by first|(with_reducible assumption)|assumption))));(try (have HP19:=Kd.R_putg HO_3.out ((ji9) : Int) (rd x3_2 x5_2)))));refine store_event (t:=3) (p:=49) (v:=?vo_w20) (w1:=(w18.setCell ⟨go15,((ji9) : Int).toNat,none⟩ (.int .i64 (rd x3_2 x5_2)))) ?hg ?ho ?hn ?hr ?_;(case ho => rfl);(case hg => rfl);(case hn => rfl);(case hr => first|(go_simp;done)|(go_simp;rfl));intro w20 hw;have hg : w18.grownBy w20 (some go15):=(by rw [hw];exact HP19.2);have hp_ : Kd.R (Kd.int .i64) 3 w20 w.heap.size (fun _ => True) (.slice (some ⟨go15,0,none⟩) x3_2.length co7) y148:=(by rw [hw,Ny148.out];exact HP19.1);clear HP19;have n0_:=qf1 (hp_);have n1_:=qf1 ((by rw [hw];exact below_set (HB.out) GB15.out : Below w.heap.size w w20));clear HO_3;clear HB;have HO_3:=n0_;have HB:=n1_;clear n0_ n1_;clear hg hw hp_)))
             (try simp only [← hl3_2])
             go_roundg k2
             case measure => have:=HK1.out;have:=HK2.out;omega
             case rel => exact ⟨(y148),(ji9),(by first|rfl|(simp;done)|(simp only [← hji9] <;> (first|rfl|simp))|(simp [*];done)),H',⟨by have:=HK1.out;have:=HK2.out;omega⟩,⟨by (try simp only [hl3_2]);(with_reducible repeat (first|apply qa1|apply qb1|apply Kd.R_drew));exact HO_3.out⟩,⟨by repeat (first|(with_reducible first|exact HB.out|apply qc1|apply qd1|apply qe1)|exact HB.out)⟩⟩
            ·
             rw [if_neg c14] at H
             have c14b0 : decide ((rd x3_2 x5_2) < (rd x3_2 (ji9))) = false:=decide_eq_false c14
             clear c14
             have H':=qf1 H
             clear H
             have p143 : 0 ≤ ((ji9) : Int):=of_decide_eq_true (by first|(with_reducible assumption)|assumption)
             have q143 : (ji9) < (x3_2.length : Int):=of_decide_eq_true (by first|(with_reducible assumption)|assumption)
             obtain ⟨ad143,e143,hx143_0⟩:=Kd.at_int (Kd.R_reads' HO_3.out).2.2 (ji9) p143 q143
             cases e143
             replace p143:=eq_true p143
             replace q143:=eq_true q143
             have p144 : 0 ≤ (x5_2 : Int):=of_decide_eq_true (by first|(with_reducible assumption)|assumption)
             have q144 : x5_2 < (x3_2.length : Int):=of_decide_eq_true (by first|(with_reducible assumption)|assumption)
             obtain ⟨ad144,e144,hx144_0⟩:=Kd.at_int (Kd.R_reads' HO_3.out).2.2 x5_2 p144 q144
             obtain rfl : ad143 = ad144:=(by injection e144)
             replace p144:=eq_true p144
             replace q144:=eq_true q144
             go_wp2
             repeat (go_quiet (fail);try go_wp2)
             (try simp only [← hl3_2])
             go_roundg k2
             case measure => have:=HK1.out;have:=HK2.out;omega
             case rel => exact ⟨(x3_2),(wrap64 (x4_1 + 1)),(by first|rfl|(simp;done)|(simp [*];done)),H',⟨by have:=HK1.out;have:=HK2.out;omega⟩,⟨by (try simp only [hl3_2]);(with_reducible repeat (first|apply qa1|apply qb1|apply Kd.R_drew));exact HO_3.out⟩,⟨by repeat (first|(with_reducible first|exact HB.out|apply qc1|apply qd1|apply qe1)|exact HB.out)⟩⟩
           ·
            rw [if_neg c13] at H
            exact absurd H (by simp)
          ·
           rw [if_neg c12] at H
           exact absurd H (by simp)
         ·
          rw [if_neg c11] at H
          exact absurd H (by simp)
        ·
         rw [if_neg c10] at H
         exact absurd H (by simp)
       ·
        rw [if_neg c8] at H
        have c8b0 : decide (0 < x5_2) = false:=decide_eq_false c8
        clear c8
        have H':=qf1 H
        clear H
        go_wp2
        repeat (go_quiet (fail);try go_wp2)
        (try simp only [← hl3_2])
        go_roundg k2
        case measure => have:=HK1.out;have:=HK2.out;omega
        case rel => exact ⟨(x3_2),(wrap64 (x4_1 + 1)),(by first|rfl|(simp;done)|(simp [*];done)),H',⟨by have:=HK1.out;have:=HK2.out;omega⟩,⟨by (try simp only [hl3_2]);(with_reducible repeat (first|apply qa1|apply qb1|apply Kd.R_drew));exact HO_3.out⟩,⟨by repeat (first|(with_reducible first|exact HB.out|apply qc1|apply qd1|apply qe1)|exact HB.out)⟩⟩
    ·
     rw [if_neg c6] at H
     have c6b0 : decide (x4_1 < (x3_1.length : Int)) = false:=decide_eq_false c6
     clear c6
     obtain rfl:=Option.some.inj H
     obtain ⟨Ao21,co21,eo21⟩:=Kd.R_slice HO_3.out
     subst eo21
     go_wp2
     repeat (go_quiet (fail);try go_wp2)
     go_ret
     exact ⟨_,by first|rfl|(simp [errW_none,errW_some] <;> rfl)|(simp [*,errW_none,errW_some] <;> rfl),by (with_reducible repeat (first|apply qa1|apply qb1|apply Kd.R_drew));exact HO_3.out,by repeat (first|(with_reducible first|exact HB.out|apply qc1|apply qd1|apply qe1)|exact HB.out)⟩
 ·
  rw [if_neg c2] at H
  exact absurd H (by simp)

end Go.Proofs.YtmkaknegjahjaaaDoor.PFnAgreed
