-- squeezed
-- aliased
import Derived.Test.YtjkanhjapddhnaaPFnExactRunRequestsx0
namespace Go.Proofs.Ytjkanhjapddhnaa.PFnExactRunRequests
open Go.RowKit Go.Proofs.YtjkanhjapddhnaaV.PrintWords Go.Proofs.YtjkanhjapddhnaaV.PrintLast Go.Proofs.YtjkanhjapddhnaaV.PrintMore
attribute [local go_sem] max2_int min2_int max_two min_two max_three min_three max_four min_four u8_wm u32_wm   -- for this text's walks alone
set_option linter.unusedVariables false
set_option linter.unusedSimpArgs false
theorem qa2 : type_of% @below_alloc:=@below_alloc
theorem qb2 : type_of% @pw_below_drewN:=@pw_below_drewN
theorem qc2 : type_of% @below_drew1:=@below_drew1
theorem qd2 : type_of% @below_set:=@below_set
theorem qe2 : type_of% @Aside0.mk:=@Aside0.mk
theorem qf2 : type_of% @below_size:=@below_size
def laws_toIntS.l0 : Nat → List Int → List Int → Int → Option (List Int)
 | 0,_,_,_ => none
 | k + 1,x0,x3,x4 => if x4 < (x0.length : Int) then (if 0 ≤ x4 then (if x4 < (x3.length : Int) then (laws_toIntS.l0 k x0 (x3.set (x4 : Int).toNat (rd x0 x4)) (wrap64 (x4 + 1))) else (none)) else (none)) else (some x3)
def laws_toIntS.f (k : Nat) (l0 : List Int) : Option (List Int):=if 0 ≤ (l0.length : Int) then (if ((l0.length : Int) : Int).toNat ≤ 35184372088832 then (laws_toIntS.l0 k l0 (List.replicate ((l0.length : Int) : Int).toNat 0) 0) else (none)) else (none)
set_option maxHeartbeats 8000000 in
set_option maxRecDepth 100000 in
theorem laws_toIntS.calls (k : Nat) (A0 : Option Addr) (c0 : Nat) (l0 : List Int) (r : List Int) (w : World) (hr0 : Kd.C (Kd.int .i64) w A0 l0.length l0) (hc0 : l0.length ≤ c0) (h : laws_toIntS.f k l0 = some r) :
  Calls Try.prog 24 #[.slice A0 l0.length c0] w fun e w' => ∃ v0_ : Value,e = .returned (v0_) ∧ Kd.R (Kd.int .i64) 3 w' w.heap.size (fun _ => True) v0_ r ∧ Below w.heap.size w w':=by
 have HR0:=qe2 hr0
 have HC0:=qe2 hc0
 clear hr0 hc0
 have HB:=qe2 (Below.refl w.heap.size w)
 have H : (if 0 ≤ (l0.length : Int) then (if ((l0.length : Int) : Int).toNat ≤ 35184372088832 then (laws_toIntS.l0 k l0 (List.replicate ((l0.length : Int) : Int).toNat 0) 0) else (none)) else (none)) = some r:=h
 clear h
 by_cases c2 : 0 ≤ (l0.length : Int)
 ·
  rw [if_pos c2] at H
  have c2b0:=eq_true c2
  have c2b1 : decide (0 ≤ (l0.length : Int)) = true:=decide_eq_true c2
  clear c2
  by_cases c3 : ((l0.length : Int) : Int).toNat ≤ 35184372088832
  ·
   rw [if_pos c3] at H
   have c3b0:=eq_true c3
   have c3b1 : decide (((l0.length : Int) : Int).toNat ≤ 35184372088832) = true:=decide_eq_true c3
   clear c3
   obtain ⟨y127,hy127⟩ : ∃ y_ : List Int,y_ = (List.replicate ((l0.length : Int) : Int).toNat 0):=⟨_,rfl⟩
   replace H : (laws_toIntS.l0 k l0 y127 0) = some r:=by first|(rw [hy127];with_reducible exact H)|(have H2_:=(Option.bind_some _ _).symm.trans H;rw [hy127];with_reducible exact H2_)|(have H2_:=(Option.bind_some _ _).symm.trans H;with_reducible exact H2_)|with_reducible exact H|(rw [hy127];exact H)|exact H
   have Ny127:=qe2 hy127
   clear hy127
   have H':=qe2 H
   clear H
   go_enter Try.func24,Try.ntmps24
   go_wp2_with (first|((with_reducible refine gate_dst (N:=7) rfl ?_);refine Kd.R_make (Kd.int .i64) _ 3 rfl (N:=7) rfl 45 _ _ rfl (l0.length : Int) rfl rfl Try.underlying45 (.int .i64 0) 8 info3 rfl (by decide) (by omega) 0 (ok:=fun _ => True) (okp:=fun _ => True) rfl (fun _ hk => hk) trivial (sM (by first|(with_reducible assumption)|assumption)) (Nat.le_trans (Nat.mul_le_mul_right _ (sM (by first|(with_reducible assumption)|assumption) : (l0.length : Int).toNat ≤ 35184372088832)) (by omega)) (Below.refl _ _) (Nat.le_refl _) ?_;intro v128 w4 ho5 hb hg_ hnew_;clear hg_ hnew_;(first|rw [← Ny127.out] at ho5|(simp only [Int.reduceToNat] at ho5;rw [← Ny127.out] at ho5));have n0_:=qe2 (Kd.R_lower ho5 (qf2 (by repeat (first|(with_reducible first|exact HB.out|apply qa2|apply qb2|apply qc2)|exact HB.out))));have n1_:=qe2 (sN (by repeat (first|(with_reducible first|exact HB.out|apply qa2|apply qb2|apply qc2)|exact HB.out)) hb);clear HB;have HO129:=n0_;have HB:=n1_;clear n0_ n1_;clear hb ho5))
   go_loopg [4] k (fun kq v4 w' => ∃ (x3_1 : List Int) (x4_1 : Int),v4 = .int .i64 x4_1 ∧ Aside0 (laws_toIntS.l0 kq l0 x3_1 x4_1 = some r) ∧ Aside0 (kq ≤ k) ∧ Aside0 (Kd.R (Kd.int .i64) 3 w' w.heap.size (fun _ => True) v128 x3_1) ∧ Aside0 (Below w.heap.size w w'))
   case atStart => exact ⟨(y127),(0),(by first|rfl|(simp;done)|(simp [*];done)),H',⟨Nat.le_refl _⟩,⟨by (with_reducible repeat (first|apply Kd.R_alloc|apply Kd.R_drewN|apply Kd.R_drew));exact HO129.out⟩,⟨by repeat (first|(with_reducible first|exact HB.out|apply qa2|apply qb2|apply qc2)|exact HB.out)⟩⟩
   case round =>
    clear H'
    try clear c2
    try clear c2b0
    try clear c2b1
    try clear p2
    try clear c3
    try clear c3b0
    try clear c3b1
    obtain ⟨x3_1,x4_1,rfl,HA,HK1,HO_3,HB⟩:=hrel
    cases gk with
    | zero => exact absurd HA.out (by simp [laws_toIntS.l0])
    | succ k1 =>
     have H:=HA.out
     clear HA
     simp only [laws_toIntS.l0] at H
     by_cases c6 : x4_1 < (l0.length : Int)
     ·
      rw [if_pos c6] at H
      have c6b0 : decide (x4_1 < (l0.length : Int)) = true:=decide_eq_true c6
      clear c6
      by_cases c7 : 0 ≤ x4_1
      ·
       rw [if_pos c7] at H
       have c7b0 : decide (0 ≤ x4_1) = true:=decide_eq_true c7
       clear c7
       by_cases c8 : x4_1 < (x3_1.length : Int)
       ·
        rw [if_pos c8] at H
        have c8b0 : decide (x4_1 < (x3_1.length : Int)) = true:=decide_eq_true c8
        clear c8
        obtain ⟨y131,hy131⟩ : ∃ y_ : List Int,y_ = (x3_1.set (x4_1 : Int).toNat (rd l0 x4_1)):=⟨_,rfl⟩
        replace H : (laws_toIntS.l0 k1 l0 y131 (wrap64 (x4_1 + 1))) = some r:=by first|(rw [hy131];with_reducible exact H)|(have H2_:=(Option.bind_some _ _).symm.trans H;rw [hy131];with_reducible exact H2_)|(have H2_:=(Option.bind_some _ _).symm.trans H;with_reducible exact H2_)|with_reducible exact H|(rw [hy131];exact H)|exact H
        have Ny131:=qe2 hy131
        clear hy131
        have H':=qe2 H
        clear H
        have p130 : 0 ≤ (x4_1 : Int):=sM (by first|(with_reducible assumption)|assumption)
        have q130 : x4_1 < (l0.length : Int):=sM (by first|(with_reducible assumption)|assumption)
        obtain ⟨ad130,e130,hx130_0⟩:=Kd.at_int HR0.out x4_1 p130 q130
        cases e130
        replace hx130_0:=(HB.out.cell (sD w _ hx130_0)).trans hx130_0
        replace p130:=eq_true p130
        replace q130:=eq_true q130
        have p9 : 0 ≤ (x4_1 : Int):=sM (by first|(with_reducible assumption)|assumption)
        have q9 : (x4_1 : Int) < ((x3_1.length : Int) : Int):=sM (by first|(with_reducible assumption)|assumption)
        obtain ⟨go9,co9,eo9,gb9,gl9,cl9,HG9⟩:=Kd.R_form HO_3.out (by omega)
        (first|cases eo9|(injection eo9 with ea_ en_ ec_;(first|subst ea_|(injection ea_ with ea_;subst ea_));subst ec_;clear en_))
        have GB9:=qe2 gb9
        have GG9:=qe2 HG9
        clear gb9 gl9 HG9
        obtain ⟨hx9_0,hf9_0⟩:=Kd.R_celln 0 HO_3.out (x4_1 : Int) p9 q9
        replace p9:=eq_true p9
        replace q9:=eq_true q9
        have HP10:=Kd.R_putg HO_3.out (x4_1 : Int) (rd l0 x4_1)
        go_wp2_with (first|((with_reducible refine gate_store (t:=3) (p:=20) rfl ?_);refine store_event (t:=3) (p:=20) (v:=?vo_w11) (w1:=(wr.setCell ⟨go9,(x4_1 : Int).toNat,none⟩ (.int .i64 (rd l0 x4_1)))) ?hg ?ho ?hn ?hr ?_;(case ho => rfl);(case hg => rfl);(case hn => rfl);(case hr => first|(go_simp;done)|(go_simp;rfl));intro w11 hw;have hg : wr.grownBy w11 (some go9):=(by rw [hw];exact HP10.2);have hp_ : Kd.R (Kd.int .i64) 3 w11 w.heap.size (fun _ => True) (.slice (some ⟨go9,0,none⟩) x3_1.length co9) y131:=(by rw [hw,Ny131.out];exact HP10.1);clear HP10;have n0_:=qe2 (hp_);have n1_:=qe2 ((by rw [hw];exact qd2 (HB.out) GB9.out : Below w.heap.size w w11));clear HO_3;clear HB;have HO_3:=n0_;have HB:=n1_;clear n0_ n1_;clear hg hw hp_))
        go_roundg k1
        case measure => have:=HK1.out;omega
        case rel => exact ⟨(y131),(wrap64 (x4_1 + 1)),(by first|rfl|(simp;done)|(simp [*];done)),H',⟨by have:=HK1.out;omega⟩,⟨by (with_reducible repeat (first|apply Kd.R_alloc|apply Kd.R_drewN|apply Kd.R_drew));exact HO_3.out⟩,⟨by repeat (first|(with_reducible first|exact HB.out|apply qa2|apply qb2|apply qc2)|exact HB.out)⟩⟩
       ·
        rw [if_neg c8] at H
        exact absurd H (by simp)
      ·
       rw [if_neg c7] at H
       exact absurd H (by simp)
     ·
      rw [if_neg c6] at H
      have c6b0 : decide (x4_1 < (l0.length : Int)) = false:=decide_eq_false c6
      clear c6
      obtain rfl:=sO H
      go_wp2
      go_ret
      exact ⟨_,by first|rfl|(simp [errW_none,errW_some] <;> rfl)|(simp [*,errW_none,errW_some] <;> rfl),by (with_reducible repeat (first|apply Kd.R_alloc|apply Kd.R_drewN|apply Kd.R_drew));exact HO_3.out,by repeat (first|(with_reducible first|exact HB.out|apply qa2|apply qb2|apply qc2)|exact HB.out)⟩
  ·
   rw [if_neg c3] at H
   exact absurd H (by simp)
 ·
  rw [if_neg c2] at H
  exact absurd H (by simp)
def laws_eqRequest.f (a0_0 : Int) (a0_1 : Int) (a0_2 : Int) (a0_3 : Int) (a0_4 : ByteArray) (a1_0 : Int) (a1_1 : Int) (a1_2 : Int) (a1_3 : Int) (a1_4 : ByteArray) : Option (Bool):=if a0_0 = a1_0 then (if a0_1 = a1_1 then (if a0_2 = a1_2 then (if a0_3 = a1_3 then (if a0_4.toList = a1_4.toList then (some true) else (some false)) else (some false)) else (some false)) else (some false)) else (some false)
set_option maxHeartbeats 8000000 in
set_option maxRecDepth 100000 in
theorem laws_eqRequest.calls (a0_0 : Int) (a0_1 : Int) (a0_2 : Int) (a0_3 : Int) (a0_4 : ByteArray) (a1_0 : Int) (a1_1 : Int) (a1_2 : Int) (a1_3 : Int) (a1_4 : ByteArray) (r : Bool) (w : World) (h : laws_eqRequest.f a0_0 a0_1 a0_2 a0_3 a0_4 a1_0 a1_1 a1_2 a1_3 a1_4 = some r) :
  Calls Try.prog 62 #[.agg #[.int .i64 a0_0,.int .i64 a0_1,.int .i64 a0_2,.int .i64 a0_3,.string a0_4],.agg #[.int .i64 a1_0,.int .i64 a1_1,.int .i64 a1_2,.int .i64 a1_3,.string a1_4]] w fun e w' => e = .returned (.bool r) ∧ Below w.heap.size w w':=by
 have hu94:=Try.underlying94
 have HB:=qe2 (Below.refl w.heap.size w)
 have H : (if a0_0 = a1_0 then (if a0_1 = a1_1 then (if a0_2 = a1_2 then (if a0_3 = a1_3 then (if a0_4.toList = a1_4.toList then (some true) else (some false)) else (some false)) else (some false)) else (some false)) else (some false)) = some r:=h
 clear h
 by_cases c3 : a0_0 = a1_0
 ·
  rw [if_pos c3] at H
  have c3b0 : (a0_0 == a1_0) = true:=beq_iff_eq.mpr c3
  have c3b1 : (a0_0 != a1_0) = false:=bne_eq_false_iff_eq.mpr c3
  clear c3
  by_cases c4 : a0_1 = a1_1
  ·
   rw [if_pos c4] at H
   have c4b0 : (a0_1 == a1_1) = true:=beq_iff_eq.mpr c4
   have c4b1 : (a0_1 != a1_1) = false:=bne_eq_false_iff_eq.mpr c4
   clear c4
   by_cases c5 : a0_2 = a1_2
   ·
    rw [if_pos c5] at H
    have c5b0 : (a0_2 == a1_2) = true:=beq_iff_eq.mpr c5
    have c5b1 : (a0_2 != a1_2) = false:=bne_eq_false_iff_eq.mpr c5
    clear c5
    by_cases c6 : a0_3 = a1_3
    ·
     rw [if_pos c6] at H
     have c6b0 : (a0_3 == a1_3) = true:=beq_iff_eq.mpr c6
     have c6b1 : (a0_3 != a1_3) = false:=bne_eq_false_iff_eq.mpr c6
     clear c6
     by_cases c7 : a0_4.toList = a1_4.toList
     ·
      rw [if_pos c7] at H
      have c7b0 : (a0_4.toList == a1_4.toList) = true:=beq_iff_eq.mpr c7
      have c7b1 : (a0_4.toList != a1_4.toList) = false:=bne_eq_false_iff_eq.mpr c7
      clear c7
      obtain rfl:=sO H
      go_enter Try.func62,Try.ntmps62
      go_wp2_with (first|((with_reducible refine gate_dst (N:=2) rfl ?_);refine box_event ?hg (N:=2) ?hd (cs:=#[.int .i64 a0_0,.int .i64 a0_1,.int .i64 a0_2,.int .i64 a0_3,.string a0_4]) (t:=94) ?hr ?_;(case hd => rfl);(case hg => rfl);(case hr => first|(go_simp;done)|(go_simp;rfl));intro gb132 hg w8 hbox hb;have n0_:=qe2 (sN (by repeat (first|(with_reducible first|exact HB.out|apply qa2|apply qb2|apply qc2)|exact HB.out)) hb);have n1_:=qe2 (hbox);have n2_:=qe2 ((by rw [hg];exact (qf2 (by repeat (first|(with_reducible first|exact HB.out|apply qa2|apply qb2|apply qc2)|exact HB.out))) : w.heap.size ≤ gb132));have n3_:=qe2 ((by rw [hg];exact (qf2 (by repeat (first|(with_reducible first|exact HB.out|apply qa2|apply qb2|apply qc2)|exact HB.out))) : w.heap.size ≤ gb132));clear HB;have HB:=n0_;have BK132:=n1_;have GW132:=n2_;have GE132:=n3_;clear n0_ n1_ n2_ n3_;clear hb hbox hg)|((with_reducible refine gate_dst (N:=3) rfl ?_);refine box_event ?hg (N:=3) ?hd (cs:=#[.int .i64 a1_0,.int .i64 a1_1,.int .i64 a1_2,.int .i64 a1_3,.string a1_4]) (t:=94) ?hr ?_;(case hd => rfl);(case hg => rfl);(case hr => first|(go_simp;done)|(go_simp;rfl));intro gb133 hg w9 hbox hb;have n0_:=qe2 (blk_below (g:=gb132) (o:=.cells #[.int .i64 a0_0,.int .i64 a0_1,.int .i64 a0_2,.int .i64 a0_3,.string a0_4] 94 (0,0)) (by (with_reducible repeat (first|apply blk_drewN|apply blk_drew|apply blk_alloc));exact BK132.out) hb);have n1_:=qe2 (sN (by repeat (first|(with_reducible first|exact HB.out|apply qa2|apply qb2|apply qc2|refine qd2 ?_ GE132.out)|exact HB.out)) hb);have n2_:=qe2 (hbox);have n3_:=qe2 ((by rw [hg];exact (qf2 (by repeat (first|(with_reducible first|exact HB.out|apply qa2|apply qb2|apply qc2|refine qd2 ?_ GE132.out)|exact HB.out))) : w.heap.size ≤ gb133));have n4_:=qe2 ((by rw [hg];exact (qf2 (by repeat (first|(with_reducible first|exact HB.out|apply qa2|apply qb2|apply qc2|refine qd2 ?_ GE132.out)|exact HB.out))) : w.heap.size ≤ gb133));have n5_:=qe2 ((by rw [hg];exact Nat.ne_of_lt (blk_lt (g:=gb132) (o:=.cells #[.int .i64 a0_0,.int .i64 a0_1,.int .i64 a0_2,.int .i64 a0_3,.string a0_4] 94 (0,0)) (by (with_reducible repeat (first|apply blk_drewN|apply blk_drew|apply blk_alloc));exact BK132.out)) : gb132 ≠ gb133));have n6_:=qe2 ((by rw [hg];exact Nat.ne_of_gt (blk_lt (g:=gb132) (o:=.cells #[.int .i64 a0_0,.int .i64 a0_1,.int .i64 a0_2,.int .i64 a0_3,.string a0_4] 94 (0,0)) (by (with_reducible repeat (first|apply blk_drewN|apply blk_drew|apply blk_alloc));exact BK132.out)) : gb133 ≠ gb132));clear BK132;clear HB;have BK132:=n0_;have HB:=n1_;have BK133:=n2_;have GW133:=n3_;have GE133:=n4_;have NB132_133:=n5_;have NB133_132:=n6_;clear n0_ n1_ n2_ n3_ n4_ n5_ n6_;clear hb hbox hg;have hnb10:=NB132_133.out;have hnc10:=NB133_132.out;have hcz11_0 : w9.cell? ⟨gb132,0,none⟩ = some (.int .i64 a0_0):=(blk_cell BK132.out 0).trans rfl;have hcz11_1 : w9.cell? ⟨gb132,1,none⟩ = some (.int .i64 a0_1):=(blk_cell BK132.out 1).trans rfl;have hcz11_2 : w9.cell? ⟨gb132,2,none⟩ = some (.int .i64 a0_2):=(blk_cell BK132.out 2).trans rfl;have hcz11_3 : w9.cell? ⟨gb132,3,none⟩ = some (.int .i64 a0_3):=(blk_cell BK132.out 3).trans rfl;have hcz11_4 : w9.cell? ⟨gb132,4,none⟩ = some (.string a0_4):=(blk_cell BK132.out 4).trans rfl;have hfz11_0:=sJ BK132.out 0;have hfz11_1:=sJ BK132.out 1;have hfz11_2:=sJ BK132.out 2;have hfz11_3:=sJ BK132.out 3;have hfz11_4:=sJ BK132.out 4;have hcz12_0 : w9.cell? ⟨gb133,0,none⟩ = some (.int .i64 a1_0):=(blk_cell BK133.out 0).trans rfl;have hcz12_1 : w9.cell? ⟨gb133,1,none⟩ = some (.int .i64 a1_1):=(blk_cell BK133.out 1).trans rfl;have hcz12_2 : w9.cell? ⟨gb133,2,none⟩ = some (.int .i64 a1_2):=(blk_cell BK133.out 2).trans rfl;have hcz12_3 : w9.cell? ⟨gb133,3,none⟩ = some (.int .i64 a1_3):=(blk_cell BK133.out 3).trans rfl;have hcz12_4 : w9.cell? ⟨gb133,4,none⟩ = some (.string a1_4):=(blk_cell BK133.out 4).trans rfl;have hfz12_0:=sJ BK133.out 0;have hfz12_1:=sJ BK133.out 1;have hfz12_2:=sJ BK133.out 2;have hfz12_3:=sJ BK133.out 3;have hfz12_4:=sJ BK133.out 4))
      go_ret
      exact ⟨by first|rfl|(simp [errW_none,errW_some] <;> rfl)|(simp [*,errW_none,errW_some] <;> rfl),by repeat (first|(with_reducible first|exact HB.out|apply qa2|apply qb2|apply qc2|refine qd2 ?_ GE132.out|refine qd2 ?_ GE133.out)|exact HB.out)⟩
     ·
      rw [if_neg c7] at H
      have c7b0 : (a0_4.toList == a1_4.toList) = false:=beq_eq_false_iff_ne.mpr c7
      have c7b1 : (a0_4.toList != a1_4.toList) = true:=bne_iff_ne.mpr c7
      obtain rfl:=sO H
      go_enter Try.func62,Try.ntmps62
      go_wp2_with (first|((with_reducible refine gate_dst (N:=2) rfl ?_);refine box_event ?hg (N:=2) ?hd (cs:=#[.int .i64 a0_0,.int .i64 a0_1,.int .i64 a0_2,.int .i64 a0_3,.string a0_4]) (t:=94) ?hr ?_;(case hd => rfl);(case hg => rfl);(case hr => first|(go_simp;done)|(go_simp;rfl));intro gb132 hg w13 hbox hb;have n0_:=qe2 (sN (by repeat (first|(with_reducible first|exact HB.out|apply qa2|apply qb2|apply qc2)|exact HB.out)) hb);have n1_:=qe2 (hbox);have n2_:=qe2 ((by rw [hg];exact (qf2 (by repeat (first|(with_reducible first|exact HB.out|apply qa2|apply qb2|apply qc2)|exact HB.out))) : w.heap.size ≤ gb132));have n3_:=qe2 ((by rw [hg];exact (qf2 (by repeat (first|(with_reducible first|exact HB.out|apply qa2|apply qb2|apply qc2)|exact HB.out))) : w.heap.size ≤ gb132));clear HB;have HB:=n0_;have BK132:=n1_;have GW132:=n2_;have GE132:=n3_;clear n0_ n1_ n2_ n3_;clear hb hbox hg)|((with_reducible refine gate_dst (N:=3) rfl ?_);refine box_event ?hg (N:=3) ?hd (cs:=#[.int .i64 a1_0,.int .i64 a1_1,.int .i64 a1_2,.int .i64 a1_3,.string a1_4]) (t:=94) ?hr ?_;(case hd => rfl);(case hg => rfl);(case hr => first|(go_simp;done)|(go_simp;rfl));intro gb133 hg w14 hbox hb;have n0_:=qe2 (blk_below (g:=gb132) (o:=.cells #[.int .i64 a0_0,.int .i64 a0_1,.int .i64 a0_2,.int .i64 a0_3,.string a0_4] 94 (0,0)) (by (with_reducible repeat (first|apply blk_drewN|apply blk_drew|apply blk_alloc));exact BK132.out) hb);have n1_:=qe2 (sN (by repeat (first|(with_reducible first|exact HB.out|apply qa2|apply qb2|apply qc2|refine qd2 ?_ GE132.out)|exact HB.out)) hb);have n2_:=qe2 (hbox);have n3_:=qe2 ((by rw [hg];exact (qf2 (by repeat (first|(with_reducible first|exact HB.out|apply qa2|apply qb2|apply qc2|refine qd2 ?_ GE132.out)|exact HB.out))) : w.heap.size ≤ gb133));have n4_:=qe2 ((by rw [hg];exact (qf2 (by repeat (first|(with_reducible first|exact HB.out|apply qa2|apply qb2|apply qc2|refine qd2 ?_ GE132.out)|exact HB.out))) : w.heap.size ≤ gb133));have n5_:=qe2 ((by rw [hg];exact Nat.ne_of_lt (blk_lt (g:=gb132) (o:=.cells #[.int .i64 a0_0,.int .i64 a0_1,.int .i64 a0_2,.int .i64 a0_3,.string a0_4] 94 (0,0)) (by (with_reducible repeat (first|apply blk_drewN|apply blk_drew|apply blk_alloc));exact BK132.out)) : gb132 ≠ gb133));have n6_:=qe2 ((by rw [hg];exact Nat.ne_of_gt (blk_lt (g:=gb132) (o:=.cells #[.int .i64 a0_0,.int .i64 a0_1,.int .i64 a0_2,.int .i64 a0_3,.string a0_4] 94 (0,0)) (by (with_reducible repeat (first|apply blk_drewN|apply blk_drew|apply blk_alloc));exact BK132.out)) : gb133 ≠ gb132));clear BK132;clear HB;have BK132:=n0_;have HB:=n1_;have BK133:=n2_;have GW133:=n3_;have GE133:=n4_;have NB132_133:=n5_;have NB133_132:=n6_;clear n0_ n1_ n2_ n3_ n4_ n5_ n6_;clear hb hbox hg;have hnb15:=NB132_133.out;have hnc15:=NB133_132.out;have hcz16_0 : w14.cell? ⟨gb132,0,none⟩ = some (.int .i64 a0_0):=(blk_cell BK132.out 0).trans rfl;have hcz16_1 : w14.cell? ⟨gb132,1,none⟩ = some (.int .i64 a0_1):=(blk_cell BK132.out 1).trans rfl;have hcz16_2 : w14.cell? ⟨gb132,2,none⟩ = some (.int .i64 a0_2):=(blk_cell BK132.out 2).trans rfl;have hcz16_3 : w14.cell? ⟨gb132,3,none⟩ = some (.int .i64 a0_3):=(blk_cell BK132.out 3).trans rfl;have hcz16_4 : w14.cell? ⟨gb132,4,none⟩ = some (.string a0_4):=(blk_cell BK132.out 4).trans rfl;have hfz16_0:=sJ BK132.out 0;have hfz16_1:=sJ BK132.out 1;have hfz16_2:=sJ BK132.out 2;have hfz16_3:=sJ BK132.out 3;have hfz16_4:=sJ BK132.out 4;have hcz17_0 : w14.cell? ⟨gb133,0,none⟩ = some (.int .i64 a1_0):=(blk_cell BK133.out 0).trans rfl;have hcz17_1 : w14.cell? ⟨gb133,1,none⟩ = some (.int .i64 a1_1):=(blk_cell BK133.out 1).trans rfl;have hcz17_2 : w14.cell? ⟨gb133,2,none⟩ = some (.int .i64 a1_2):=(blk_cell BK133.out 2).trans rfl;have hcz17_3 : w14.cell? ⟨gb133,3,none⟩ = some (.int .i64 a1_3):=(blk_cell BK133.out 3).trans rfl;have hcz17_4 : w14.cell? ⟨gb133,4,none⟩ = some (.string a1_4):=(blk_cell BK133.out 4).trans rfl;have hfz17_0:=sJ BK133.out 0;have hfz17_1:=sJ BK133.out 1;have hfz17_2:=sJ BK133.out 2;have hfz17_3:=sJ BK133.out 3;have hfz17_4:=sJ BK133.out 4))
      go_ret
      exact ⟨by first|rfl|(simp [errW_none,errW_some] <;> rfl)|(simp [*,errW_none,errW_some] <;> rfl),by repeat (first|(with_reducible first|exact HB.out|apply qa2|apply qb2|apply qc2|refine qd2 ?_ GE132.out|refine qd2 ?_ GE133.out)|exact HB.out)⟩
    ·
     rw [if_neg c6] at H
     have c6b0 : (a0_3 == a1_3) = false:=beq_eq_false_iff_ne.mpr c6
     have c6b1 : (a0_3 != a1_3) = true:=bne_iff_ne.mpr c6
     obtain rfl:=sO H
     go_enter Try.func62,Try.ntmps62
     go_wp2_with (first|((with_reducible refine gate_dst (N:=2) rfl ?_);refine box_event ?hg (N:=2) ?hd (cs:=#[.int .i64 a0_0,.int .i64 a0_1,.int .i64 a0_2,.int .i64 a0_3,.string a0_4]) (t:=94) ?hr ?_;(case hd => rfl);(case hg => rfl);(case hr => first|(go_simp;done)|(go_simp;rfl));intro gb132 hg w18 hbox hb;have n0_:=qe2 (sN (by repeat (first|(with_reducible first|exact HB.out|apply qa2|apply qb2|apply qc2)|exact HB.out)) hb);have n1_:=qe2 (hbox);have n2_:=qe2 ((by rw [hg];exact (qf2 (by repeat (first|(with_reducible first|exact HB.out|apply qa2|apply qb2|apply qc2)|exact HB.out))) : w.heap.size ≤ gb132));have n3_:=qe2 ((by rw [hg];exact (qf2 (by repeat (first|(with_reducible first|exact HB.out|apply qa2|apply qb2|apply qc2)|exact HB.out))) : w.heap.size ≤ gb132));clear HB;have HB:=n0_;have BK132:=n1_;have GW132:=n2_;have GE132:=n3_;clear n0_ n1_ n2_ n3_;clear hb hbox hg)|((with_reducible refine gate_dst (N:=3) rfl ?_);refine box_event ?hg (N:=3) ?hd (cs:=#[.int .i64 a1_0,.int .i64 a1_1,.int .i64 a1_2,.int .i64 a1_3,.string a1_4]) (t:=94) ?hr ?_;(case hd => rfl);(case hg => rfl);(case hr => first|(go_simp;done)|(go_simp;rfl));intro gb133 hg w19 hbox hb;have n0_:=qe2 (blk_below (g:=gb132) (o:=.cells #[.int .i64 a0_0,.int .i64 a0_1,.int .i64 a0_2,.int .i64 a0_3,.string a0_4] 94 (0,0)) (by (with_reducible repeat (first|apply blk_drewN|apply blk_drew|apply blk_alloc));exact BK132.out) hb);have n1_:=qe2 (sN (by repeat (first|(with_reducible first|exact HB.out|apply qa2|apply qb2|apply qc2|refine qd2 ?_ GE132.out)|exact HB.out)) hb);have n2_:=qe2 (hbox);have n3_:=qe2 ((by rw [hg];exact (qf2 (by repeat (first|(with_reducible first|exact HB.out|apply qa2|apply qb2|apply qc2|refine qd2 ?_ GE132.out)|exact HB.out))) : w.heap.size ≤ gb133));have n4_:=qe2 ((by rw [hg];exact (qf2 (by repeat (first|(with_reducible first|exact HB.out|apply qa2|apply qb2|apply qc2|refine qd2 ?_ GE132.out)|exact HB.out))) : w.heap.size ≤ gb133));have n5_:=qe2 ((by rw [hg];exact Nat.ne_of_lt (blk_lt (g:=gb132) (o:=.cells #[.int .i64 a0_0,.int .i64 a0_1,.int .i64 a0_2,.int .i64 a0_3,.string a0_4] 94 (0,0)) (by (with_reducible repeat (first|apply blk_drewN|apply blk_drew|apply blk_alloc));exact BK132.out)) : gb132 ≠ gb133));have n6_:=qe2 ((by rw [hg];exact Nat.ne_of_gt (blk_lt (g:=gb132) (o:=.cells #[.int .i64 a0_0,.int .i64 a0_1,.int .i64 a0_2,.int .i64 a0_3,.string a0_4] 94 (0,0)) (by (with_reducible repeat (first|apply blk_drewN|apply blk_drew|apply blk_alloc));exact BK132.out)) : gb133 ≠ gb132));clear BK132;clear HB;have BK132:=n0_;have HB:=n1_;have BK133:=n2_;have GW133:=n3_;have GE133:=n4_;have NB132_133:=n5_;have NB133_132:=n6_;clear n0_ n1_ n2_ n3_ n4_ n5_ n6_;clear hb hbox hg;have hnb20:=NB132_133.out;have hnc20:=NB133_132.out;have hcz21_0 : w19.cell? ⟨gb132,0,none⟩ = some (.int .i64 a0_0):=(blk_cell BK132.out 0).trans rfl;have hcz21_1 : w19.cell? ⟨gb132,1,none⟩ = some (.int .i64 a0_1):=(blk_cell BK132.out 1).trans rfl;have hcz21_2 : w19.cell? ⟨gb132,2,none⟩ = some (.int .i64 a0_2):=(blk_cell BK132.out 2).trans rfl;have hcz21_3 : w19.cell? ⟨gb132,3,none⟩ = some (.int .i64 a0_3):=(blk_cell BK132.out 3).trans rfl;have hcz21_4 : w19.cell? ⟨gb132,4,none⟩ = some (.string a0_4):=(blk_cell BK132.out 4).trans rfl;have hfz21_0:=sJ BK132.out 0;have hfz21_1:=sJ BK132.out 1;have hfz21_2:=sJ BK132.out 2;have hfz21_3:=sJ BK132.out 3;have hfz21_4:=sJ BK132.out 4;have hcz22_0 : w19.cell? ⟨gb133,0,none⟩ = some (.int .i64 a1_0):=(blk_cell BK133.out 0).trans rfl;have hcz22_1 : w19.cell? ⟨gb133,1,none⟩ = some (.int .i64 a1_1):=(blk_cell BK133.out 1).trans rfl;have hcz22_2 : w19.cell? ⟨gb133,2,none⟩ = some (.int .i64 a1_2):=(blk_cell BK133.out 2).trans rfl;have hcz22_3 : w19.cell? ⟨gb133,3,none⟩ = some (.int .i64 a1_3):=(blk_cell BK133.out 3).trans rfl;have hcz22_4 : w19.cell? ⟨gb133,4,none⟩ = some (.string a1_4):=(blk_cell BK133.out 4).trans rfl;have hfz22_0:=sJ BK133.out 0;have hfz22_1:=sJ BK133.out 1;have hfz22_2:=sJ BK133.out 2;have hfz22_3:=sJ BK133.out 3;have hfz22_4:=sJ BK133.out 4))
     go_ret
     exact ⟨by first|rfl|(simp [errW_none,errW_some] <;> rfl)|(simp [*,errW_none,errW_some] <;> rfl),by repeat (first|(with_reducible first|exact HB.out|apply qa2|apply qb2|apply qc2|refine qd2 ?_ GE132.out|refine qd2 ?_ GE133.out)|exact HB.out)⟩
   ·
    rw [if_neg c5] at H
    have c5b0 : (a0_2 == a1_2) = false:=beq_eq_false_iff_ne.mpr c5
    have c5b1 : (a0_2 != a1_2) = true:=bne_iff_ne.mpr c5
    obtain rfl:=sO H
    go_enter Try.func62,Try.ntmps62
    go_wp2_with (first|((with_reducible refine gate_dst (N:=2) rfl ?_);refine box_event ?hg (N:=2) ?hd (cs:=#[.int .i64 a0_0,.int .i64 a0_1,.int .i64 a0_2,.int .i64 a0_3,.string a0_4]) (t:=94) ?hr ?_;(case hd => rfl);(case hg => rfl);(case hr => first|(go_simp;done)|(go_simp;rfl));intro gb132 hg w23 hbox hb;have n0_:=qe2 (sN (by repeat (first|(with_reducible first|exact HB.out|apply qa2|apply qb2|apply qc2)|exact HB.out)) hb);have n1_:=qe2 (hbox);have n2_:=qe2 ((by rw [hg];exact (qf2 (by repeat (first|(with_reducible first|exact HB.out|apply qa2|apply qb2|apply qc2)|exact HB.out))) : w.heap.size ≤ gb132));have n3_:=qe2 ((by rw [hg];exact (qf2 (by repeat (first|(with_reducible first|exact HB.out|apply qa2|apply qb2|apply qc2)|exact HB.out))) : w.heap.size ≤ gb132));clear HB;have HB:=n0_;have BK132:=n1_;have GW132:=n2_;have GE132:=n3_;clear n0_ n1_ n2_ n3_;clear hb hbox hg)|((with_reducible refine gate_dst (N:=3) rfl ?_);refine box_event ?hg (N:=3) ?hd (cs:=#[.int .i64 a1_0,.int .i64 a1_1,.int .i64 a1_2,.int .i64 a1_3,.string a1_4]) (t:=94) ?hr ?_;(case hd => rfl);(case hg => rfl);(case hr => first|(go_simp;done)|(go_simp;rfl));intro gb133 hg w24 hbox hb;have n0_:=qe2 (blk_below (g:=gb132) (o:=.cells #[.int .i64 a0_0,.int .i64 a0_1,.int .i64 a0_2,.int .i64 a0_3,.string a0_4] 94 (0,0)) (by (with_reducible repeat (first|apply blk_drewN|apply blk_drew|apply blk_alloc));exact BK132.out) hb);have n1_:=qe2 (sN (by repeat (first|(with_reducible first|exact HB.out|apply qa2|apply qb2|apply qc2|refine qd2 ?_ GE132.out)|exact HB.out)) hb);have n2_:=qe2 (hbox);have n3_:=qe2 ((by rw [hg];exact (qf2 (by repeat (first|(with_reducible first|exact HB.out|apply qa2|apply qb2|apply qc2|refine qd2 ?_ GE132.out)|exact HB.out))) : w.heap.size ≤ gb133));have n4_:=qe2 ((by rw [hg];exact (qf2 (by repeat (first|(with_reducible first|exact HB.out|apply qa2|apply qb2|apply qc2|refine qd2 ?_ GE132.out)|exact HB.out))) : w.heap.size ≤ gb133));have n5_:=qe2 ((by rw [hg];exact Nat.ne_of_lt (blk_lt (g:=gb132) (o:=.cells #[.int .i64 a0_0,.int .i64 a0_1,.int .i64 a0_2,.int .i64 a0_3,.string a0_4] 94 (0,0)) (by (with_reducible repeat (first|apply blk_drewN|apply blk_drew|apply blk_alloc));exact BK132.out)) : gb132 ≠ gb133));have n6_:=qe2 ((by rw [hg];exact Nat.ne_of_gt (blk_lt (g:=gb132) (o:=.cells #[.int .i64 a0_0,.int .i64 a0_1,.int .i64 a0_2,.int .i64 a0_3,.string a0_4] 94 (0,0)) (by (with_reducible repeat (first|apply blk_drewN|apply blk_drew|apply blk_alloc));exact BK132.out)) : gb133 ≠ gb132));clear BK132;clear HB;have BK132:=n0_;have HB:=n1_;have BK133:=n2_;have GW133:=n3_;have GE133:=n4_;have NB132_133:=n5_;have NB133_132:=n6_;clear n0_ n1_ n2_ n3_ n4_ n5_ n6_;clear hb hbox hg;have hnb25:=NB132_133.out;have hnc25:=NB133_132.out;have hcz26_0 : w24.cell? ⟨gb132,0,none⟩ = some (.int .i64 a0_0):=(blk_cell BK132.out 0).trans rfl;have hcz26_1 : w24.cell? ⟨gb132,1,none⟩ = some (.int .i64 a0_1):=(blk_cell BK132.out 1).trans rfl;have hcz26_2 : w24.cell? ⟨gb132,2,none⟩ = some (.int .i64 a0_2):=(blk_cell BK132.out 2).trans rfl;have hcz26_3 : w24.cell? ⟨gb132,3,none⟩ = some (.int .i64 a0_3):=(blk_cell BK132.out 3).trans rfl;have hcz26_4 : w24.cell? ⟨gb132,4,none⟩ = some (.string a0_4):=(blk_cell BK132.out 4).trans rfl;have hfz26_0:=sJ BK132.out 0;have hfz26_1:=sJ BK132.out 1;have hfz26_2:=sJ BK132.out 2;have hfz26_3:=sJ BK132.out 3;have hfz26_4:=sJ BK132.out 4;have hcz27_0 : w24.cell? ⟨gb133,0,none⟩ = some (.int .i64 a1_0):=(blk_cell BK133.out 0).trans rfl;have hcz27_1 : w24.cell? ⟨gb133,1,none⟩ = some (.int .i64 a1_1):=(blk_cell BK133.out 1).trans rfl;have hcz27_2 : w24.cell? ⟨gb133,2,none⟩ = some (.int .i64 a1_2):=(blk_cell BK133.out 2).trans rfl;have hcz27_3 : w24.cell? ⟨gb133,3,none⟩ = some (.int .i64 a1_3):=(blk_cell BK133.out 3).trans rfl;have hcz27_4 : w24.cell? ⟨gb133,4,none⟩ = some (.string a1_4):=(blk_cell BK133.out 4).trans rfl;have hfz27_0:=sJ BK133.out 0;have hfz27_1:=sJ BK133.out 1;have hfz27_2:=sJ BK133.out 2;have hfz27_3:=sJ BK133.out 3;have hfz27_4:=sJ BK133.out 4))
    go_ret
    exact ⟨by first|rfl|(simp [errW_none,errW_some] <;> rfl)|(simp [*,errW_none,errW_some] <;> rfl),by repeat (first|(with_reducible first|exact HB.out|apply qa2|apply qb2|apply qc2|refine qd2 ?_ GE132.out|refine qd2 ?_ GE133.out)|exact HB.out)⟩
  ·
   rw [if_neg c4] at H
   have c4b0 : (a0_1 == a1_1) = false:=beq_eq_false_iff_ne.mpr c4
   have c4b1 : (a0_1 != a1_1) = true:=bne_iff_ne.mpr c4
   obtain rfl:=sO H
   go_enter Try.func62,Try.ntmps62
   go_wp2_with (first|((with_reducible refine gate_dst (N:=2) rfl ?_);refine box_event ?hg (N:=2) ?hd (cs:=#[.int .i64 a0_0,.int .i64 a0_1,.int .i64 a0_2,.int .i64 a0_3,.string a0_4]) (t:=94) ?hr ?_;(case hd => rfl);(case hg => rfl);(case hr => first|(go_simp;done)|(go_simp;rfl));intro gb132 hg w28 hbox hb;have n0_:=qe2 (sN (by repeat (first|(with_reducible first|exact HB.out|apply qa2|apply qb2|apply qc2)|exact HB.out)) hb);have n1_:=qe2 (hbox);have n2_:=qe2 ((by rw [hg];exact (qf2 (by repeat (first|(with_reducible first|exact HB.out|apply qa2|apply qb2|apply qc2)|exact HB.out))) : w.heap.size ≤ gb132));have n3_:=qe2 ((by rw [hg];exact (qf2 (by repeat (first|(with_reducible first|exact HB.out|apply qa2|apply qb2|apply qc2)|exact HB.out))) : w.heap.size ≤ gb132));clear HB;have HB:=n0_;have BK132:=n1_;have GW132:=n2_;have GE132:=n3_;clear n0_ n1_ n2_ n3_;clear hb hbox hg)|((with_reducible refine gate_dst (N:=3) rfl ?_);refine box_event ?hg (N:=3) ?hd (cs:=#[.int .i64 a1_0,.int .i64 a1_1,.int .i64 a1_2,.int .i64 a1_3,.string a1_4]) (t:=94) ?hr ?_;(case hd => rfl);(case hg => rfl);(case hr => first|(go_simp;done)|(go_simp;rfl));intro gb133 hg w29 hbox hb;have n0_:=qe2 (blk_below (g:=gb132) (o:=.cells #[.int .i64 a0_0,.int .i64 a0_1,.int .i64 a0_2,.int .i64 a0_3,.string a0_4] 94 (0,0)) (by (with_reducible repeat (first|apply blk_drewN|apply blk_drew|apply blk_alloc));exact BK132.out) hb);have n1_:=qe2 (sN (by repeat (first|(with_reducible first|exact HB.out|apply qa2|apply qb2|apply qc2|refine qd2 ?_ GE132.out)|exact HB.out)) hb);have n2_:=qe2 (hbox);have n3_:=qe2 ((by rw [hg];exact (qf2 (by repeat (first|(with_reducible first|exact HB.out|apply qa2|apply qb2|apply qc2|refine qd2 ?_ GE132.out)|exact HB.out))) : w.heap.size ≤ gb133));have n4_:=qe2 ((by rw [hg];exact (qf2 (by repeat (first|(with_reducible first|exact HB.out|apply qa2|apply qb2|apply qc2|refine qd2 ?_ GE132.out)|exact HB.out))) : w.heap.size ≤ gb133));have n5_:=qe2 ((by rw [hg];exact Nat.ne_of_lt (blk_lt (g:=gb132) (o:=.cells #[.int .i64 a0_0,.int .i64 a0_1,.int .i64 a0_2,.int .i64 a0_3,.string a0_4] 94 (0,0)) (by (with_reducible repeat (first|apply blk_drewN|apply blk_drew|apply blk_alloc));exact BK132.out)) : gb132 ≠ gb133));have n6_:=qe2 ((by rw [hg];exact Nat.ne_of_gt (blk_lt (g:=gb132) (o:=.cells #[.int .i64 a0_0,.int .i64 a0_1,.int .i64 a0_2,.int .i64 a0_3,.string a0_4] 94 (0,0)) (by (with_reducible repeat (first|apply blk_drewN|apply blk_drew|apply blk_alloc));exact BK132.out)) : gb133 ≠ gb132));clear BK132;clear HB;have BK132:=n0_;have HB:=n1_;have BK133:=n2_;have GW133:=n3_;have GE133:=n4_;have NB132_133:=n5_;have NB133_132:=n6_;clear n0_ n1_ n2_ n3_ n4_ n5_ n6_;clear hb hbox hg;have hnb30:=NB132_133.out;have hnc30:=NB133_132.out;have hcz31_0 : w29.cell? ⟨gb132,0,none⟩ = some (.int .i64 a0_0):=(blk_cell BK132.out 0).trans rfl;have hcz31_1 : w29.cell? ⟨gb132,1,none⟩ = some (.int .i64 a0_1):=(blk_cell BK132.out 1).trans rfl;have hcz31_2 : w29.cell? ⟨gb132,2,none⟩ = some (.int .i64 a0_2):=(blk_cell BK132.out 2).trans rfl;have hcz31_3 : w29.cell? ⟨gb132,3,none⟩ = some (.int .i64 a0_3):=(blk_cell BK132.out 3).trans rfl;have hcz31_4 : w29.cell? ⟨gb132,4,none⟩ = some (.string a0_4):=(blk_cell BK132.out 4).trans rfl;have hfz31_0:=sJ BK132.out 0;have hfz31_1:=sJ BK132.out 1;have hfz31_2:=sJ BK132.out 2;have hfz31_3:=sJ BK132.out 3;have hfz31_4:=sJ BK132.out 4;have hcz32_0 : w29.cell? ⟨gb133,0,none⟩ = some (.int .i64 a1_0):=(blk_cell BK133.out 0).trans rfl;have hcz32_1 : w29.cell? ⟨gb133,1,none⟩ = some (.int .i64 a1_1):=(blk_cell BK133.out 1).trans rfl;have hcz32_2 : w29.cell? ⟨gb133,2,none⟩ = some (.int .i64 a1_2):=(blk_cell BK133.out 2).trans rfl;have hcz32_3 : w29.cell? ⟨gb133,3,none⟩ = some (.int .i64 a1_3):=(blk_cell BK133.out 3).trans rfl;have hcz32_4 : w29.cell? ⟨gb133,4,none⟩ = some (.string a1_4):=(blk_cell BK133.out 4).trans rfl;have hfz32_0:=sJ BK133.out 0;have hfz32_1:=sJ BK133.out 1;have hfz32_2:=sJ BK133.out 2;have hfz32_3:=sJ BK133.out 3;have hfz32_4:=sJ BK133.out 4))
   go_ret
   exact ⟨by first|rfl|(simp [errW_none,errW_some] <;> rfl)|(simp [*,errW_none,errW_some] <;> rfl),by repeat (first|(with_reducible first|exact HB.out|apply qa2|apply qb2|apply qc2|refine qd2 ?_ GE132.out|refine qd2 ?_ GE133.out)|exact HB.out)⟩
 ·
  rw [if_neg c3] at H
  have c3b0 : (a0_0 == a1_0) = false:=beq_eq_false_iff_ne.mpr c3
  have c3b1 : (a0_0 != a1_0) = true:=bne_iff_ne.mpr c3
  obtain rfl:=sO H
  go_enter Try.func62,Try.ntmps62
  go_wp2_with (first|((with_reducible refine gate_dst (N:=2) rfl ?_);refine box_event ?hg (N:=2) ?hd (cs:=#[.int .i64 a0_0,.int .i64 a0_1,.int .i64 a0_2,.int .i64 a0_3,.string a0_4]) (t:=94) ?hr ?_;(case hd => rfl);(case hg => rfl);(case hr => first|(go_simp;done)|(go_simp;rfl));intro gb132 hg w33 hbox hb;have n0_:=qe2 (sN (by repeat (first|(with_reducible first|exact HB.out|apply qa2|apply qb2|apply qc2)|exact HB.out)) hb);have n1_:=qe2 (hbox);have n2_:=qe2 ((by rw [hg];exact (qf2 (by repeat (first|(with_reducible first|exact HB.out|apply qa2|apply qb2|apply qc2)|exact HB.out))) : w.heap.size ≤ gb132));have n3_:=qe2 ((by rw [hg];exact (qf2 (by repeat (first|(with_reducible first|exact HB.out|apply qa2|apply qb2|apply qc2)|exact HB.out))) : w.heap.size ≤ gb132));clear HB;have HB:=n0_;have BK132:=n1_;have GW132:=n2_;have GE132:=n3_;clear n0_ n1_ n2_ n3_;clear hb hbox hg)|((with_reducible refine gate_dst (N:=3) rfl ?_);refine box_event ?hg (N:=3) ?hd (cs:=#[.int .i64 a1_0,.int .i64 a1_1,.int .i64 a1_2,.int .i64 a1_3,.string a1_4]) (t:=94) ?hr ?_;(case hd => rfl);(case hg => rfl);(case hr => first|(go_simp;done)|(go_simp;rfl));intro gb133 hg w34 hbox hb;have n0_:=qe2 (blk_below (g:=gb132) (o:=.cells #[.int .i64 a0_0,.int .i64 a0_1,.int .i64 a0_2,.int .i64 a0_3,.string a0_4] 94 (0,0)) (by (with_reducible repeat (first|apply blk_drewN|apply blk_drew|apply blk_alloc));exact BK132.out) hb);have n1_:=qe2 (sN (by repeat (first|(with_reducible first|exact HB.out|apply qa2|apply qb2|apply qc2|refine qd2 ?_ GE132.out)|exact HB.out)) hb);have n2_:=qe2 (hbox);have n3_:=qe2 ((by rw [hg];exact (qf2 (by repeat (first|(with_reducible first|exact HB.out|apply qa2|apply qb2|apply qc2|refine qd2 ?_ GE132.out)|exact HB.out))) : w.heap.size ≤ gb133));have n4_:=qe2 ((by rw [hg];exact (qf2 (by repeat (first|(with_reducible first|exact HB.out|apply qa2|apply qb2|apply qc2|refine qd2 ?_ GE132.out)|exact HB.out))) : w.heap.size ≤ gb133));have n5_:=qe2 ((by rw [hg];exact Nat.ne_of_lt (blk_lt (g:=gb132) (o:=.cells #[.int .i64 a0_0,.int .i64 a0_1,.int .i64 a0_2,.int .i64 a0_3,.string a0_4] 94 (0,0)) (by (with_reducible repeat (first|apply blk_drewN|apply blk_drew|apply blk_alloc));exact BK132.out)) : gb132 ≠ gb133));have n6_:=qe2 ((by rw [hg];exact Nat.ne_of_gt (blk_lt (g:=gb132) (o:=.cells #[.int .i64 a0_0,.int .i64 a0_1,.int .i64 a0_2,.int .i64 a0_3,.string a0_4] 94 (0,0)) (by (with_reducible repeat (first|apply blk_drewN|apply blk_drew|apply blk_alloc));exact BK132.out)) : gb133 ≠ gb132));clear BK132;clear HB;have BK132:=n0_;have HB:=n1_;have BK133:=n2_;have GW133:=n3_;have GE133:=n4_;have NB132_133:=n5_;have NB133_132:=n6_;clear n0_ n1_ n2_ n3_ n4_ n5_ n6_;clear hb hbox hg;have hnb35:=NB132_133.out;have hnc35:=NB133_132.out;have hcz36_0 : w34.cell? ⟨gb132,0,none⟩ = some (.int .i64 a0_0):=(blk_cell BK132.out 0).trans rfl;have hcz36_1 : w34.cell? ⟨gb132,1,none⟩ = some (.int .i64 a0_1):=(blk_cell BK132.out 1).trans rfl;have hcz36_2 : w34.cell? ⟨gb132,2,none⟩ = some (.int .i64 a0_2):=(blk_cell BK132.out 2).trans rfl;have hcz36_3 : w34.cell? ⟨gb132,3,none⟩ = some (.int .i64 a0_3):=(blk_cell BK132.out 3).trans rfl;have hcz36_4 : w34.cell? ⟨gb132,4,none⟩ = some (.string a0_4):=(blk_cell BK132.out 4).trans rfl;have hfz36_0:=sJ BK132.out 0;have hfz36_1:=sJ BK132.out 1;have hfz36_2:=sJ BK132.out 2;have hfz36_3:=sJ BK132.out 3;have hfz36_4:=sJ BK132.out 4;have hcz37_0 : w34.cell? ⟨gb133,0,none⟩ = some (.int .i64 a1_0):=(blk_cell BK133.out 0).trans rfl;have hcz37_1 : w34.cell? ⟨gb133,1,none⟩ = some (.int .i64 a1_1):=(blk_cell BK133.out 1).trans rfl;have hcz37_2 : w34.cell? ⟨gb133,2,none⟩ = some (.int .i64 a1_2):=(blk_cell BK133.out 2).trans rfl;have hcz37_3 : w34.cell? ⟨gb133,3,none⟩ = some (.int .i64 a1_3):=(blk_cell BK133.out 3).trans rfl;have hcz37_4 : w34.cell? ⟨gb133,4,none⟩ = some (.string a1_4):=(blk_cell BK133.out 4).trans rfl;have hfz37_0:=sJ BK133.out 0;have hfz37_1:=sJ BK133.out 1;have hfz37_2:=sJ BK133.out 2;have hfz37_3:=sJ BK133.out 3;have hfz37_4:=sJ BK133.out 4))
  go_ret
  exact ⟨by first|rfl|(simp [errW_none,errW_some] <;> rfl)|(simp [*,errW_none,errW_some] <;> rfl),by repeat (first|(with_reducible first|exact HB.out|apply qa2|apply qb2|apply qc2|refine qd2 ?_ GE132.out|refine qd2 ?_ GE133.out)|exact HB.out)⟩
def laws_eqRequestS.l0 : Nat → List (S94) → List (S94) → Int → Option (Bool)
 | 0,_,_,_ => none
 | k + 1,x0,x1,x5 => if x5 < (x0.length : Int) then (if 0 ≤ x5 then (if x5 < (x1.length : Int) then ((laws_eqRequest.f ((rd_T94 x0 x5).f0) ((rd_T94 x0 x5).f1) ((rd_T94 x0 x5).f2) ((rd_T94 x0 x5).f3) ((rd_T94 x0 x5).f4) ((rd_T94 x1 x5).f0) ((rd_T94 x1 x5).f1) ((rd_T94 x1 x5).f2) ((rd_T94 x1 x5).f3) ((rd_T94 x1 x5).f4)).bind fun t136 => (if t136 = true then (laws_eqRequestS.l0 k x0 x1 (wrap64 (x5 + 1))) else (some false))) else (none)) else (none)) else (some true)
def laws_eqRequestS.f (k : Nat) (l0 : List (S94)) (l1 : List (S94)) : Option (Bool):=if (l0.length : Int) = (l1.length : Int) then (laws_eqRequestS.l0 k l0 l1 0) else (some false)
def laws_eqRequestS.T6 : Bool × List (List Nat × List Nat):=(true,[([],[]),([],[]),([0,1],[0,1]),([2],[2]),([],[]),([],[]),([4,5],[4,5]),([6],[6]),([3,7],[3,7]),([8],[8])])
def laws_eqRequestS.B6 : List Nat:=[0,0,3,7,0,0,48,112,255,511]
theorem laws_eqRequestS.tab6 : rtab .any (opsOf Try.f27 6) = laws_eqRequestS.T6:=by kernel_rfl
theorem laws_eqRequestS.bits6 : waitsOk laws_eqRequestS.T6.2 laws_eqRequestS.B6 = true:=by kernel_rfl
set_option maxHeartbeats 8000000 in
set_option maxRecDepth 100000 in
theorem laws_eqRequestS.calls (k : Nat) (A0 : Option Addr) (c0 : Nat) (l0 : List (S94)) (A1 : Option Addr) (c1 : Nat) (l1 : List (S94)) (r : Bool) (w : World) (hr0 : Kd.C k94 w A0 l0.length l0) (hc0 : l0.length ≤ c0) (hr1 : Kd.C k94 w A1 l1.length l1) (hc1 : l1.length ≤ c1) (h : laws_eqRequestS.f k l0 l1 = some r) :
  Calls Try.prog 27 #[.slice A0 l0.length c0,.slice A1 l1.length c1] w fun e w' => e = .returned (.bool r) ∧ Below w.heap.size w w':=by
 have hu94:=Try.underlying94
 have HR0:=qe2 hr0
 have HC0:=qe2 hc0
 clear hr0 hc0
 have HR1:=qe2 hr1
 have HC1:=qe2 hc1
 clear hr1 hc1
 have HB:=qe2 (Below.refl w.heap.size w)
 have H : (if (l0.length : Int) = (l1.length : Int) then (laws_eqRequestS.l0 k l0 l1 0) else (some false)) = some r:=h
 clear h
 by_cases c3 : (l0.length : Int) = (l1.length : Int)
 ·
  rw [if_pos c3] at H
  have c3b0 : ((l0.length : Int) == (l1.length : Int)) = true:=beq_iff_eq.mpr c3
  have c3b1 : ((l0.length : Int) != (l1.length : Int)) = false:=bne_eq_false_iff_eq.mpr c3
  have c3b2 : (l0.length == l1.length) = true:=by first|simpa using c3|(simp at c3 ⊢;omega)
  clear c3
  have H':=qe2 H
  clear H
  go_enter Try.func27,Try.ntmps27
  go_wp2
  go_loopg [5] k (fun kq v5 w' => ∃ (x5_1 : Int),v5 = .int .i64 x5_1 ∧ Aside0 (laws_eqRequestS.l0 kq l0 l1 x5_1 = some r) ∧ Aside0 (kq ≤ k) ∧ Aside0 (Below w.heap.size w w'))
  case atStart => exact ⟨(0),(by first|rfl|(simp;done)|(simp [*];done)),H',⟨Nat.le_refl _⟩,⟨by repeat (first|(with_reducible first|exact HB.out|apply qa2|apply qb2|apply qc2)|exact HB.out)⟩⟩
  case round =>
   clear H'
   try clear c1
   try clear c2
   try clear p2
   try clear c3
   try clear c3b0
   try clear c3b1
   try clear c3b2
   obtain ⟨x5_1,rfl,HA,HK1,HB⟩:=hrel
   cases gk with
   | zero => exact absurd HA.out (by simp [laws_eqRequestS.l0])
   | succ k1 =>
    have H:=HA.out
    clear HA
    simp only [laws_eqRequestS.l0] at H
    by_cases c4 : x5_1 < (l0.length : Int)
    ·
     rw [if_pos c4] at H
     have c4b0 : decide (x5_1 < (l0.length : Int)) = true:=decide_eq_true c4
     clear c4
     by_cases c5 : 0 ≤ x5_1
     ·
      rw [if_pos c5] at H
      have c5b0 : decide (0 ≤ x5_1) = true:=decide_eq_true c5
      clear c5
      by_cases c6 : x5_1 < (l1.length : Int)
      ·
       rw [if_pos c6] at H
       have c6b0 : decide (x5_1 < (l1.length : Int)) = true:=decide_eq_true c6
       clear c6
       replace H:=Option.bind_eq_some_iff.mp H
       obtain ⟨t136,A70,H⟩:=H
       replace H : (if t136 = true then (laws_eqRequestS.l0 k1 l0 l1 (wrap64 (x5_1 + 1))) else (some false)) = some r:=H
       have A7:=qe2 A70
       clear A70
       by_cases c8 : t136 = true
       ·
        subst c8
        have H1 : (laws_eqRequestS.l0 k1 l0 l1 (wrap64 (x5_1 + 1))) = some r:=by rw [if_pos rfl] at H;exact H
        clear H
        have H:=H1
        clear H1
        have H':=qe2 H
        clear H
        try go_wp2
        have n0_:=qe2 (qc2 HB.out)
        clear HB
        have HB:=n0_
        clear n0_
        have p134 : 0 ≤ (x5_1 : Int):=sM (by first|(with_reducible assumption)|assumption)
        have q134 : x5_1 < (l0.length : Int):=sM (by first|(with_reducible assumption)|assumption)
        obtain ⟨ad134,e134,hx134_0,hx134_1,hx134_2,hx134_3,hx134_4⟩:=at_T94 HR0.out x5_1 p134 q134
        have hw134_4:=hx134_4
        have hw134_3:=hx134_3
        have hw134_2:=hx134_2
        have hw134_1:=hx134_1
        have hw134_0:=hx134_0
        cases e134
        replace hx134_0:=(HB.out.cell (sD w _ hx134_0)).trans hx134_0
        replace hx134_1:=(HB.out.cell (sD w _ hx134_1)).trans hx134_1
        replace hx134_2:=(HB.out.cell (sD w _ hx134_2)).trans hx134_2
        replace hx134_3:=(HB.out.cell (sD w _ hx134_3)).trans hx134_3
        replace hx134_4:=(HB.out.cell (sD w _ hx134_4)).trans hx134_4
        replace p134:=eq_true p134
        replace q134:=eq_true q134
        have p135 : 0 ≤ (x5_1 : Int):=sM (by first|(with_reducible assumption)|assumption)
        have q135 : x5_1 < (l1.length : Int):=sM (by first|(with_reducible assumption)|assumption)
        obtain ⟨ad135,e135,hx135_0,hx135_1,hx135_2,hx135_3,hx135_4⟩:=at_T94 HR1.out x5_1 p135 q135
        have hw135_4:=hx135_4
        have hw135_3:=hx135_3
        have hw135_2:=hx135_2
        have hw135_1:=hx135_1
        have hw135_0:=hx135_0
        cases e135
        replace hx135_0:=(HB.out.cell (sD w _ hx135_0)).trans hx135_0
        replace hx135_1:=(HB.out.cell (sD w _ hx135_1)).trans hx135_1
        replace hx135_2:=(HB.out.cell (sD w _ hx135_2)).trans hx135_2
        replace hx135_3:=(HB.out.cell (sD w _ hx135_3)).trans hx135_3
        replace hx135_4:=(HB.out.cell (sD w _ hx135_4)).trans hx135_4
        replace p135:=eq_true p135
        replace q135:=eq_true q135
        refine start_ (n:=10) (S:=fun w' => w'.cell? (ad134.add ((x5_1).toNat * 5)) = some (.int .i64 ((rd_T94 l0 x5_1).f0)) ∧ w'.cell? ⟨(ad134.add ((x5_1).toNat * 5)).block,(ad134.add ((x5_1).toNat * 5)).off + 1,none⟩ = some (.int .i64 ((rd_T94 l0 x5_1).f1)) ∧ w'.cell? ⟨(ad134.add ((x5_1).toNat * 5)).block,(ad134.add ((x5_1).toNat * 5)).off + 2,none⟩ = some (.int .i64 ((rd_T94 l0 x5_1).f2)) ∧ w'.cell? ⟨(ad134.add ((x5_1).toNat * 5)).block,(ad134.add ((x5_1).toNat * 5)).off + 3,none⟩ = some (.int .i64 ((rd_T94 l0 x5_1).f3)) ∧ w'.cell? ⟨(ad134.add ((x5_1).toNat * 5)).block,(ad134.add ((x5_1).toNat * 5)).off + 4,none⟩ = some (.string ((rd_T94 l0 x5_1).f4)) ∧ w'.cell? (ad135.add ((x5_1).toNat * 5)) = some (.int .i64 ((rd_T94 l1 x5_1).f0)) ∧ w'.cell? ⟨(ad135.add ((x5_1).toNat * 5)).block,(ad135.add ((x5_1).toNat * 5)).off + 1,none⟩ = some (.int .i64 ((rd_T94 l1 x5_1).f1)) ∧ w'.cell? ⟨(ad135.add ((x5_1).toNat * 5)).block,(ad135.add ((x5_1).toNat * 5)).off + 2,none⟩ = some (.int .i64 ((rd_T94 l1 x5_1).f2)) ∧ w'.cell? ⟨(ad135.add ((x5_1).toNat * 5)).block,(ad135.add ((x5_1).toNat * 5)).off + 3,none⟩ = some (.int .i64 ((rd_T94 l1 x5_1).f3)) ∧ w'.cell? ⟨(ad135.add ((x5_1).toNat * 5)).block,(ad135.add ((x5_1).toNat * 5)).off + 4,none⟩ = some (.string ((rd_T94 l1 x5_1).f4))) (ds:=[]) #[false,false,false,false,false,false,false,false,false,false] (by kernel_rfl) rfl rfl ⟨((HB.out.cell (sD w _ hw134_0)).trans hw134_0),((HB.out.cell (sD w _ hw134_1)).trans hw134_1),((HB.out.cell (sD w _ hw134_2)).trans hw134_2),((HB.out.cell (sD w _ hw134_3)).trans hw134_3),((HB.out.cell (sD w _ hw134_4)).trans hw134_4),((HB.out.cell (sD w _ hw135_0)).trans hw135_0),((HB.out.cell (sD w _ hw135_1)).trans hw135_1),((HB.out.cell (sD w _ hw135_2)).trans hw135_2),((HB.out.cell (sD w _ hw135_3)).trans hw135_3),((HB.out.cell (sD w _ hw135_4)).trans hw135_4)⟩ (fun hHeld => ?_);refine with_tabW laws_eqRequestS.tab6 laws_eqRequestS.bits6 (fun HT_ HW_ => ?_)
        generalize wr.drew = w9 at HB hx134_0 hx134_1 hx134_2 hx134_3 hx134_4 hx135_0 hx135_1 hx135_2 hx135_3 hx135_4 hHeld ⊢
        refine pure_ (i:=0) (N:=some 17) (v:=?_) (a':=?_) #[true,false,false,false,false,false,false,false,false,false] rfl rfl (any_of HT_.out (by kernel_rfl)) (fun _ _ _ h => h) (Or.inl ⟨by rfl,?_⟩) ?_ ?_
        rotate_left
        ·
         intro w'
         go_simp
         with_reducible rfl
        rotate_left
        ·
         simp only [Act.put,sA,sB,sC,i64_w,i32_w]
         rfl
        refine pure_ (i:=1) (N:=some 18) (v:=?_) (a':=?_) #[true,true,false,false,false,false,false,false,false,false] rfl rfl (any_of HT_.out (by kernel_rfl)) (fun _ _ _ h => h) (Or.inl ⟨by rfl,?_⟩) ?_ ?_
        rotate_left
        ·
         intro w'
         go_simp
         with_reducible rfl
        rotate_left
        ·
         simp only [Act.put,sA,sB,sC,i64_w,i32_w]
         rfl
        refine pure_ (i:=2) (N:=some 19) (v:=?_) (a':=?_) #[true,true,true,false,false,false,false,false,false,false] rfl rfl (any_of HT_.out (by kernel_rfl)) (fun _ _ _ h => h) (Or.inl ⟨by rfl,?_⟩) ?_ ?_
        rotate_left
        ·
         intro w'
         go_simp
         with_reducible rfl
        rotate_left
        ·
         simp only [Act.put,sA,sB,sC,i64_w,i32_w]
         rfl
        refine pure_ (i:=4) (N:=some 21) (v:=?_) (a':=?_) #[true,true,true,false,true,false,false,false,false,false] rfl rfl (any_of HT_.out (by kernel_rfl)) (fun _ _ _ h => h) (Or.inl ⟨by rfl,?_⟩) ?_ ?_
        rotate_left
        ·
         intro w'
         go_simp
         with_reducible rfl
        rotate_left
        ·
         simp only [Act.put,sA,sB,sC,i64_w,i32_w]
         rfl
        refine pure_ (i:=5) (N:=some 22) (v:=?_) (a':=?_) #[true,true,true,false,true,true,false,false,false,false] rfl rfl (any_of HT_.out (by kernel_rfl)) (fun _ _ _ h => h) (Or.inl ⟨by rfl,?_⟩) ?_ ?_
        rotate_left
        ·
         intro w'
         go_simp
         with_reducible rfl
        rotate_left
        ·
         simp only [Act.put,sA,sB,sC,i64_w,i32_w]
         rfl
        refine pure_ (i:=6) (N:=some 23) (v:=?_) (a':=?_) #[true,true,true,false,true,true,true,false,false,false] rfl rfl (any_of HT_.out (by kernel_rfl)) (fun _ _ _ h => h) (Or.inl ⟨by rfl,?_⟩) ?_ ?_
        rotate_left
        ·
         intro w'
         go_simp
         with_reducible rfl
        rotate_left
        ·
         simp only [Act.put,sA,sB,sC,i64_w,i32_w]
         rfl
        refine take_ (i:=3) (N:=some 20) (v:=?_) (a':=?_) #[true,true,true,true,true,true,true,false,false,false] rfl rfl (take_ofW HT_.out HW_.out (by kernel_rfl)) (fun _ _ _ h => h) (Or.inl ⟨by rfl,?_⟩) hHeld ?_ ?_
        rotate_left
        ·
         rintro w' ⟨s0,s1,s2,s3,s4,s5,s6,s7,s8,s9⟩
         go_simp
         with_reducible rfl
        rotate_left
        ·
         simp only [Act.put,sA,sB,sC,i64_w,i32_w]
         rfl
        refine take_ (i:=7) (N:=some 24) (v:=?_) (a':=?_) #[true,true,true,true,true,true,true,true,false,false] rfl rfl (take_ofW HT_.out HW_.out (by kernel_rfl)) (fun _ _ _ h => h) (Or.inl ⟨by rfl,?_⟩) hHeld ?_ ?_
        rotate_left
        ·
         rintro w' ⟨s0,s1,s2,s3,s4,s5,s6,s7,s8,s9⟩
         go_simp
         with_reducible rfl
        rotate_left
        ·
         simp only [Act.put,sA,sB,sC,i64_w,i32_w]
         rfl
        refine one_ (i:=8) (N:=some 25) #[true,true,true,true,true,true,true,true,true,false] rfl rfl (one_of HT_.out (by kernel_rfl)) (by decide) (fun K hK => ?_)
        refine goes_ Try.func62 (by kernel_rfl) rfl #[.agg #[.int .i64 ((rd_T94 l0 x5_1).f0),.int .i64 ((rd_T94 l0 x5_1).f1),.int .i64 ((rd_T94 l0 x5_1).f2),.int .i64 ((rd_T94 l0 x5_1).f3),.string ((rd_T94 l0 x5_1).f4)],.agg #[.int .i64 ((rd_T94 l1 x5_1).f0),.int .i64 ((rd_T94 l1 x5_1).f1),.int .i64 ((rd_T94 l1 x5_1).f2),.int .i64 ((rd_T94 l1 x5_1).f3),.string ((rd_T94 l1 x5_1).f4)]] (by rfl) rfl rfl (by (try simp only [sE,sH,sI]);first|done|rfl|(simp only [sG,sF];rfl)) ?_
        with_reducible refine (laws_eqRequest.calls ((rd_T94 l0 x5_1).f0) ((rd_T94 l0 x5_1).f1) ((rd_T94 l0 x5_1).f2) ((rd_T94 l0 x5_1).f3) ((rd_T94 l0 x5_1).f4) ((rd_T94 l1 x5_1).f0) ((rd_T94 l1 x5_1).f1) ((rd_T94 l1 x5_1).f2) ((rd_T94 l1 x5_1).f3) ((rd_T94 l1 x5_1).f4) true _ A7.out).mono ?_
        rintro e w10 ⟨rfl,hb⟩
        refine ⟨_,rfl,?_⟩
        have n0_:=qe2 (sN (by repeat (first|(with_reducible first|exact HB.out|apply qa2|apply qb2|apply qc2)|exact HB.out)) hb)
        clear HB
        have HB:=n0_
        clear n0_
        (try clear hb)
        (try clear hb2)
        (try clear hk)
        (try clear hi)
        refine hK.out _ _ ⟨((HB.out.cell (sD w _ hw134_0)).trans hw134_0),((HB.out.cell (sD w _ hw134_1)).trans hw134_1),((HB.out.cell (sD w _ hw134_2)).trans hw134_2),((HB.out.cell (sD w _ hw134_3)).trans hw134_3),((HB.out.cell (sD w _ hw134_4)).trans hw134_4),((HB.out.cell (sD w _ hw135_0)).trans hw135_0),((HB.out.cell (sD w _ hw135_1)).trans hw135_1),((HB.out.cell (sD w _ hw135_2)).trans hw135_2),((HB.out.cell (sD w _ hw135_3)).trans hw135_3),((HB.out.cell (sD w _ hw135_4)).trans hw135_4)⟩ (fun hHeld => ?_)
        clear hK K
        refine norm_ (a':=?_) ?_ ?_
        rotate_left
        ·
         show Act.put _ (some 25) _ = _
         simp only [Act.put,sA,sB,sC,i64_w,i32_w]
         rfl
        refine pure_ (i:=9) (N:=some 26) (v:=?_) (a':=?_) #[true,true,true,true,true,true,true,true,true,true] rfl rfl (any_of HT_.out (by kernel_rfl)) (fun _ _ _ h => h) (Or.inl ⟨by rfl,?_⟩) ?_ ?_
        rotate_left
        ·
         intro w'
         go_simp
         with_reducible rfl
        rotate_left
        ·
         simp only [Act.put,sA,sB,sC,i64_w,i32_w]
         rfl
        refine done_ (done_of HT_.out (by kernel_rfl)) ?_
        try go_wp2
        go_roundg k1
        case measure => have:=HK1.out;omega
        case rel => exact ⟨(wrap64 (x5_1 + 1)),(by first|rfl|(simp;done)|(simp [*];done)),H',⟨by have:=HK1.out;omega⟩,⟨by repeat (first|(with_reducible first|exact HB.out|apply qa2|apply qb2|apply qc2)|exact HB.out)⟩⟩
       ·
        replace c8:=Bool.eq_false_iff.mpr c8
        subst c8
        have H1 : (some false) = some r:=by rw [if_neg (show ¬ (false = true) by decide)] at H;exact H
        clear H
        have H:=H1
        clear H1
        obtain rfl:=sO H
        try go_wp2
        have n0_:=qe2 (qc2 HB.out)
        clear HB
        have HB:=n0_
        clear n0_
        have p134 : 0 ≤ (x5_1 : Int):=sM (by first|(with_reducible assumption)|assumption)
        have q134 : x5_1 < (l0.length : Int):=sM (by first|(with_reducible assumption)|assumption)
        obtain ⟨ad134,e134,hx134_0,hx134_1,hx134_2,hx134_3,hx134_4⟩:=at_T94 HR0.out x5_1 p134 q134
        have hw134_4:=hx134_4
        have hw134_3:=hx134_3
        have hw134_2:=hx134_2
        have hw134_1:=hx134_1
        have hw134_0:=hx134_0
        cases e134
        replace hx134_0:=(HB.out.cell (sD w _ hx134_0)).trans hx134_0
        replace hx134_1:=(HB.out.cell (sD w _ hx134_1)).trans hx134_1
        replace hx134_2:=(HB.out.cell (sD w _ hx134_2)).trans hx134_2
        replace hx134_3:=(HB.out.cell (sD w _ hx134_3)).trans hx134_3
        replace hx134_4:=(HB.out.cell (sD w _ hx134_4)).trans hx134_4
        replace p134:=eq_true p134
        replace q134:=eq_true q134
        have p135 : 0 ≤ (x5_1 : Int):=sM (by first|(with_reducible assumption)|assumption)
        have q135 : x5_1 < (l1.length : Int):=sM (by first|(with_reducible assumption)|assumption)
        obtain ⟨ad135,e135,hx135_0,hx135_1,hx135_2,hx135_3,hx135_4⟩:=at_T94 HR1.out x5_1 p135 q135
        have hw135_4:=hx135_4
        have hw135_3:=hx135_3
        have hw135_2:=hx135_2
        have hw135_1:=hx135_1
        have hw135_0:=hx135_0
        cases e135
        replace hx135_0:=(HB.out.cell (sD w _ hx135_0)).trans hx135_0
        replace hx135_1:=(HB.out.cell (sD w _ hx135_1)).trans hx135_1
        replace hx135_2:=(HB.out.cell (sD w _ hx135_2)).trans hx135_2
        replace hx135_3:=(HB.out.cell (sD w _ hx135_3)).trans hx135_3
        replace hx135_4:=(HB.out.cell (sD w _ hx135_4)).trans hx135_4
        replace p135:=eq_true p135
        replace q135:=eq_true q135
        refine start_ (n:=10) (S:=fun w' => w'.cell? (ad134.add ((x5_1).toNat * 5)) = some (.int .i64 ((rd_T94 l0 x5_1).f0)) ∧ w'.cell? ⟨(ad134.add ((x5_1).toNat * 5)).block,(ad134.add ((x5_1).toNat * 5)).off + 1,none⟩ = some (.int .i64 ((rd_T94 l0 x5_1).f1)) ∧ w'.cell? ⟨(ad134.add ((x5_1).toNat * 5)).block,(ad134.add ((x5_1).toNat * 5)).off + 2,none⟩ = some (.int .i64 ((rd_T94 l0 x5_1).f2)) ∧ w'.cell? ⟨(ad134.add ((x5_1).toNat * 5)).block,(ad134.add ((x5_1).toNat * 5)).off + 3,none⟩ = some (.int .i64 ((rd_T94 l0 x5_1).f3)) ∧ w'.cell? ⟨(ad134.add ((x5_1).toNat * 5)).block,(ad134.add ((x5_1).toNat * 5)).off + 4,none⟩ = some (.string ((rd_T94 l0 x5_1).f4)) ∧ w'.cell? (ad135.add ((x5_1).toNat * 5)) = some (.int .i64 ((rd_T94 l1 x5_1).f0)) ∧ w'.cell? ⟨(ad135.add ((x5_1).toNat * 5)).block,(ad135.add ((x5_1).toNat * 5)).off + 1,none⟩ = some (.int .i64 ((rd_T94 l1 x5_1).f1)) ∧ w'.cell? ⟨(ad135.add ((x5_1).toNat * 5)).block,(ad135.add ((x5_1).toNat * 5)).off + 2,none⟩ = some (.int .i64 ((rd_T94 l1 x5_1).f2)) ∧ w'.cell? ⟨(ad135.add ((x5_1).toNat * 5)).block,(ad135.add ((x5_1).toNat * 5)).off + 3,none⟩ = some (.int .i64 ((rd_T94 l1 x5_1).f3)) ∧ w'.cell? ⟨(ad135.add ((x5_1).toNat * 5)).block,(ad135.add ((x5_1).toNat * 5)).off + 4,none⟩ = some (.string ((rd_T94 l1 x5_1).f4))) (ds:=[]) #[false,false,false,false,false,false,false,false,false,false] (by kernel_rfl) rfl rfl ⟨((HB.out.cell (sD w _ hw134_0)).trans hw134_0),((HB.out.cell (sD w _ hw134_1)).trans hw134_1),((HB.out.cell (sD w _ hw134_2)).trans hw134_2),((HB.out.cell (sD w _ hw134_3)).trans hw134_3),((HB.out.cell (sD w _ hw134_4)).trans hw134_4),((HB.out.cell (sD w _ hw135_0)).trans hw135_0),((HB.out.cell (sD w _ hw135_1)).trans hw135_1),((HB.out.cell (sD w _ hw135_2)).trans hw135_2),((HB.out.cell (sD w _ hw135_3)).trans hw135_3),((HB.out.cell (sD w _ hw135_4)).trans hw135_4)⟩ (fun hHeld => ?_);refine with_tabW laws_eqRequestS.tab6 laws_eqRequestS.bits6 (fun HT_ HW_ => ?_)
        generalize wr.drew = w11 at HB hx134_0 hx134_1 hx134_2 hx134_3 hx134_4 hx135_0 hx135_1 hx135_2 hx135_3 hx135_4 hHeld ⊢
        refine pure_ (i:=0) (N:=some 17) (v:=?_) (a':=?_) #[true,false,false,false,false,false,false,false,false,false] rfl rfl (any_of HT_.out (by kernel_rfl)) (fun _ _ _ h => h) (Or.inl ⟨by rfl,?_⟩) ?_ ?_
        rotate_left
        ·
         intro w'
         go_simp
         with_reducible rfl
        rotate_left
        ·
         simp only [Act.put,sA,sB,sC,i64_w,i32_w]
         rfl
        refine pure_ (i:=1) (N:=some 18) (v:=?_) (a':=?_) #[true,true,false,false,false,false,false,false,false,false] rfl rfl (any_of HT_.out (by kernel_rfl)) (fun _ _ _ h => h) (Or.inl ⟨by rfl,?_⟩) ?_ ?_
        rotate_left
        ·
         intro w'
         go_simp
         with_reducible rfl
        rotate_left
        ·
         simp only [Act.put,sA,sB,sC,i64_w,i32_w]
         rfl
        refine pure_ (i:=2) (N:=some 19) (v:=?_) (a':=?_) #[true,true,true,false,false,false,false,false,false,false] rfl rfl (any_of HT_.out (by kernel_rfl)) (fun _ _ _ h => h) (Or.inl ⟨by rfl,?_⟩) ?_ ?_
        rotate_left
        ·
         intro w'
         go_simp
         with_reducible rfl
        rotate_left
        ·
         simp only [Act.put,sA,sB,sC,i64_w,i32_w]
         rfl
        refine pure_ (i:=4) (N:=some 21) (v:=?_) (a':=?_) #[true,true,true,false,true,false,false,false,false,false] rfl rfl (any_of HT_.out (by kernel_rfl)) (fun _ _ _ h => h) (Or.inl ⟨by rfl,?_⟩) ?_ ?_
        rotate_left
        ·
         intro w'
         go_simp
         with_reducible rfl
        rotate_left
        ·
         simp only [Act.put,sA,sB,sC,i64_w,i32_w]
         rfl
        refine pure_ (i:=5) (N:=some 22) (v:=?_) (a':=?_) #[true,true,true,false,true,true,false,false,false,false] rfl rfl (any_of HT_.out (by kernel_rfl)) (fun _ _ _ h => h) (Or.inl ⟨by rfl,?_⟩) ?_ ?_
        rotate_left
        ·
         intro w'
         go_simp
         with_reducible rfl
        rotate_left
        ·
         simp only [Act.put,sA,sB,sC,i64_w,i32_w]
         rfl
        refine pure_ (i:=6) (N:=some 23) (v:=?_) (a':=?_) #[true,true,true,false,true,true,true,false,false,false] rfl rfl (any_of HT_.out (by kernel_rfl)) (fun _ _ _ h => h) (Or.inl ⟨by rfl,?_⟩) ?_ ?_
        rotate_left
        ·
         intro w'
         go_simp
         with_reducible rfl
        rotate_left
        ·
         simp only [Act.put,sA,sB,sC,i64_w,i32_w]
         rfl
        refine take_ (i:=3) (N:=some 20) (v:=?_) (a':=?_) #[true,true,true,true,true,true,true,false,false,false] rfl rfl (take_ofW HT_.out HW_.out (by kernel_rfl)) (fun _ _ _ h => h) (Or.inl ⟨by rfl,?_⟩) hHeld ?_ ?_
        rotate_left
        ·
         rintro w' ⟨s0,s1,s2,s3,s4,s5,s6,s7,s8,s9⟩
         go_simp
         with_reducible rfl
        rotate_left
        ·
         simp only [Act.put,sA,sB,sC,i64_w,i32_w]
         rfl
        refine take_ (i:=7) (N:=some 24) (v:=?_) (a':=?_) #[true,true,true,true,true,true,true,true,false,false] rfl rfl (take_ofW HT_.out HW_.out (by kernel_rfl)) (fun _ _ _ h => h) (Or.inl ⟨by rfl,?_⟩) hHeld ?_ ?_
        rotate_left
        ·
         rintro w' ⟨s0,s1,s2,s3,s4,s5,s6,s7,s8,s9⟩
         go_simp
         with_reducible rfl
        rotate_left
        ·
         simp only [Act.put,sA,sB,sC,i64_w,i32_w]
         rfl
        refine one_ (i:=8) (N:=some 25) #[true,true,true,true,true,true,true,true,true,false] rfl rfl (one_of HT_.out (by kernel_rfl)) (by decide) (fun K hK => ?_)
        refine goes_ Try.func62 (by kernel_rfl) rfl #[.agg #[.int .i64 ((rd_T94 l0 x5_1).f0),.int .i64 ((rd_T94 l0 x5_1).f1),.int .i64 ((rd_T94 l0 x5_1).f2),.int .i64 ((rd_T94 l0 x5_1).f3),.string ((rd_T94 l0 x5_1).f4)],.agg #[.int .i64 ((rd_T94 l1 x5_1).f0),.int .i64 ((rd_T94 l1 x5_1).f1),.int .i64 ((rd_T94 l1 x5_1).f2),.int .i64 ((rd_T94 l1 x5_1).f3),.string ((rd_T94 l1 x5_1).f4)]] (by rfl) rfl rfl (by (try simp only [sE,sH,sI]);first|done|rfl|(simp only [sG,sF];rfl)) ?_
        with_reducible refine (laws_eqRequest.calls ((rd_T94 l0 x5_1).f0) ((rd_T94 l0 x5_1).f1) ((rd_T94 l0 x5_1).f2) ((rd_T94 l0 x5_1).f3) ((rd_T94 l0 x5_1).f4) ((rd_T94 l1 x5_1).f0) ((rd_T94 l1 x5_1).f1) ((rd_T94 l1 x5_1).f2) ((rd_T94 l1 x5_1).f3) ((rd_T94 l1 x5_1).f4) false _ A7.out).mono ?_
        rintro e w12 ⟨rfl,hb⟩
        refine ⟨_,rfl,?_⟩
        have n0_:=qe2 (sN (by repeat (first|(with_reducible first|exact HB.out|apply qa2|apply qb2|apply qc2)|exact HB.out)) hb)
        clear HB
        have HB:=n0_
        clear n0_
        (try clear hb)
        (try clear hb2)
        (try clear hk)
        (try clear hi)
        refine hK.out _ _ ⟨((HB.out.cell (sD w _ hw134_0)).trans hw134_0),((HB.out.cell (sD w _ hw134_1)).trans hw134_1),((HB.out.cell (sD w _ hw134_2)).trans hw134_2),((HB.out.cell (sD w _ hw134_3)).trans hw134_3),((HB.out.cell (sD w _ hw134_4)).trans hw134_4),((HB.out.cell (sD w _ hw135_0)).trans hw135_0),((HB.out.cell (sD w _ hw135_1)).trans hw135_1),((HB.out.cell (sD w _ hw135_2)).trans hw135_2),((HB.out.cell (sD w _ hw135_3)).trans hw135_3),((HB.out.cell (sD w _ hw135_4)).trans hw135_4)⟩ (fun hHeld => ?_)
        clear hK K
        refine norm_ (a':=?_) ?_ ?_
        rotate_left
        ·
         show Act.put _ (some 25) _ = _
         simp only [Act.put,sA,sB,sC,i64_w,i32_w]
         rfl
        refine pure_ (i:=9) (N:=some 26) (v:=?_) (a':=?_) #[true,true,true,true,true,true,true,true,true,true] rfl rfl (any_of HT_.out (by kernel_rfl)) (fun _ _ _ h => h) (Or.inl ⟨by rfl,?_⟩) ?_ ?_
        rotate_left
        ·
         intro w'
         go_simp
         with_reducible rfl
        rotate_left
        ·
         simp only [Act.put,sA,sB,sC,i64_w,i32_w]
         rfl
        refine done_ (done_of HT_.out (by kernel_rfl)) ?_
        try go_wp2
        go_ret
        exact ⟨by first|rfl|(simp [errW_none,errW_some] <;> rfl)|(simp [*,errW_none,errW_some] <;> rfl),by repeat (first|(with_reducible first|exact HB.out|apply qa2|apply qb2|apply qc2)|exact HB.out)⟩
      ·
       rw [if_neg c6] at H
       exact absurd H (by simp)
     ·
      rw [if_neg c5] at H
      exact absurd H (by simp)
    ·
     rw [if_neg c4] at H
     have c4b0 : decide (x5_1 < (l0.length : Int)) = false:=decide_eq_false c4
     clear c4
     obtain rfl:=sO H
     go_wp2
     go_ret
     exact ⟨by first|rfl|(simp [errW_none,errW_some] <;> rfl)|(simp [*,errW_none,errW_some] <;> rfl),by repeat (first|(with_reducible first|exact HB.out|apply qa2|apply qb2|apply qc2)|exact HB.out)⟩
 ·
  rw [if_neg c3] at H
  have c3b0 : ((l0.length : Int) == (l1.length : Int)) = false:=beq_eq_false_iff_ne.mpr c3
  have c3b1 : ((l0.length : Int) != (l1.length : Int)) = true:=bne_iff_ne.mpr c3
  have c3b2 : (l0.length == l1.length) = false:=by first|simpa using c3|(simp at c3 ⊢;omega)
  obtain rfl:=sO H
  go_enter Try.func27,Try.ntmps27
  go_wp2
  go_ret
  exact ⟨by first|rfl|(simp [errW_none,errW_some] <;> rfl)|(simp [*,errW_none,errW_some] <;> rfl),by repeat (first|(with_reducible first|exact HB.out|apply qa2|apply qb2|apply qc2)|exact HB.out)⟩
def laws_eqIntS.l0 : Nat → List Int → List Int → Int → Option (Bool)
 | 0,_,_,_ => none
 | k + 1,x0,x1,x5 => if x5 < (x0.length : Int) then (if 0 ≤ x5 then (if x5 < (x1.length : Int) then (if (rd x0 x5) = (rd x1 x5) then (laws_eqIntS.l0 k x0 x1 (wrap64 (x5 + 1))) else (some false)) else (none)) else (none)) else (some true)
def laws_eqIntS.f (k : Nat) (l0 : List Int) (l1 : List Int) : Option (Bool):=if (l0.length : Int) = (l1.length : Int) then (laws_eqIntS.l0 k l0 l1 0) else (some false)
set_option maxHeartbeats 8000000 in
set_option maxRecDepth 100000 in
theorem laws_eqIntS.calls (k : Nat) (A0 : Option Addr) (c0 : Nat) (l0 : List Int) (A1 : Option Addr) (c1 : Nat) (l1 : List Int) (r : Bool) (w : World) (hr0 : Kd.C (Kd.int .i64) w A0 l0.length l0) (hc0 : l0.length ≤ c0) (hr1 : Kd.C (Kd.int .i64) w A1 l1.length l1) (hc1 : l1.length ≤ c1) (h : laws_eqIntS.f k l0 l1 = some r) :
  Calls Try.prog 28 #[.slice A0 l0.length c0,.slice A1 l1.length c1] w fun e w' => e = .returned (.bool r) ∧ Drawn0 w w':=by
 have HR0:=qe2 hr0
 have HC0:=qe2 hc0
 clear hr0 hc0
 have HR1:=qe2 hr1
 have HC1:=qe2 hc1
 clear hr1 hc1
 have H : (if (l0.length : Int) = (l1.length : Int) then (laws_eqIntS.l0 k l0 l1 0) else (some false)) = some r:=h
 clear h
 by_cases c3 : (l0.length : Int) = (l1.length : Int)
 ·
  rw [if_pos c3] at H
  have c3b0 : ((l0.length : Int) == (l1.length : Int)) = true:=beq_iff_eq.mpr c3
  have c3b1 : ((l0.length : Int) != (l1.length : Int)) = false:=bne_eq_false_iff_eq.mpr c3
  have c3b2 : (l0.length == l1.length) = true:=by first|simpa using c3|(simp at c3 ⊢;omega)
  clear c3
  have H':=qe2 H
  clear H
  go_enter Try.func28,Try.ntmps28
  go_wp2
  repeat (go_quiet (fail);try go_wp2)
  go_loopg [5] k (fun kq v5 w' => ∃ (x5_1 : Int),v5 = .int .i64 x5_1 ∧ Aside0 (laws_eqIntS.l0 kq l0 l1 x5_1 = some r) ∧ Aside0 (kq ≤ k) ∧ Drawn0 w w')
  case atStart => exact ⟨(0),(by first|rfl|(simp;done)|(simp [*];done)),H',⟨Nat.le_refl _⟩,by repeat (first|exact Drawn0.refl _|apply Drawn0.step)⟩
  case round =>
   clear H'
   try clear c1
   try clear c2
   try clear p2
   try clear c3
   try clear c3b0
   try clear c3b1
   try clear c3b2
   obtain ⟨x5_1,rfl,HA,HK1,⟨m1,rfl⟩⟩:=hrel
   cases gk with
   | zero => exact absurd HA.out (by simp [laws_eqIntS.l0])
   | succ k1 =>
    have H:=HA.out
    clear HA
    simp only [laws_eqIntS.l0] at H
    by_cases c4 : x5_1 < (l0.length : Int)
    ·
     rw [if_pos c4] at H
     have c4b0 : decide (x5_1 < (l0.length : Int)) = true:=decide_eq_true c4
     clear c4
     by_cases c5 : 0 ≤ x5_1
     ·
      rw [if_pos c5] at H
      have c5b0 : decide (0 ≤ x5_1) = true:=decide_eq_true c5
      clear c5
      by_cases c6 : x5_1 < (l1.length : Int)
      ·
       rw [if_pos c6] at H
       have c6b0 : decide (x5_1 < (l1.length : Int)) = true:=decide_eq_true c6
       clear c6
       by_cases c7 : (rd l0 x5_1) = (rd l1 x5_1)
       ·
        rw [if_pos c7] at H
        have c7b0 : ((rd l0 x5_1) == (rd l1 x5_1)) = true:=beq_iff_eq.mpr c7
        have c7b1 : ((rd l0 x5_1) != (rd l1 x5_1)) = false:=bne_eq_false_iff_eq.mpr c7
        clear c7
        have H':=qe2 H
        clear H
        have p137 : 0 ≤ (x5_1 : Int):=sM (by first|(with_reducible assumption)|assumption)
        have q137 : x5_1 < (l0.length : Int):=sM (by first|(with_reducible assumption)|assumption)
        obtain ⟨ad137,e137,hx137_0⟩:=Kd.at_int HR0.out x5_1 p137 q137
        cases e137
        replace p137:=eq_true p137
        replace q137:=eq_true q137
        have p138 : 0 ≤ (x5_1 : Int):=sM (by first|(with_reducible assumption)|assumption)
        have q138 : x5_1 < (l1.length : Int):=sM (by first|(with_reducible assumption)|assumption)
        obtain ⟨ad138,e138,hx138_0⟩:=Kd.at_int HR1.out x5_1 p138 q138
        cases e138
        replace p138:=eq_true p138
        replace q138:=eq_true q138
        go_wp2
        repeat (go_quiet (fail);try go_wp2)
        go_roundg k1
        case measure => have:=HK1.out;omega
        case rel => exact ⟨(wrap64 (x5_1 + 1)),(by first|rfl|(simp;done)|(simp [*];done)),H',⟨by have:=HK1.out;omega⟩,by repeat (first|exact Drawn0.refl _|apply Drawn0.step)⟩
       ·
        rw [if_neg c7] at H
        have c7b0 : ((rd l0 x5_1) == (rd l1 x5_1)) = false:=beq_eq_false_iff_ne.mpr c7
        have c7b1 : ((rd l0 x5_1) != (rd l1 x5_1)) = true:=bne_iff_ne.mpr c7
        obtain rfl:=sO H
        have p137 : 0 ≤ (x5_1 : Int):=sM (by first|(with_reducible assumption)|assumption)
        have q137 : x5_1 < (l0.length : Int):=sM (by first|(with_reducible assumption)|assumption)
        obtain ⟨ad137,e137,hx137_0⟩:=Kd.at_int HR0.out x5_1 p137 q137
        cases e137
        replace p137:=eq_true p137
        replace q137:=eq_true q137
        have p138 : 0 ≤ (x5_1 : Int):=sM (by first|(with_reducible assumption)|assumption)
        have q138 : x5_1 < (l1.length : Int):=sM (by first|(with_reducible assumption)|assumption)
        obtain ⟨ad138,e138,hx138_0⟩:=Kd.at_int HR1.out x5_1 p138 q138
        cases e138
        replace p138:=eq_true p138
        replace q138:=eq_true q138
        go_wp2
        repeat (go_quiet (fail);try go_wp2)
        go_ret
        exact ⟨by first|rfl|(simp;done)|(simp [*];done),by repeat (first|exact Drawn0.refl _|apply Drawn0.step)⟩
      ·
       rw [if_neg c6] at H
       exact absurd H (by simp)
     ·
      rw [if_neg c5] at H
      exact absurd H (by simp)
    ·
     rw [if_neg c4] at H
     have c4b0 : decide (x5_1 < (l0.length : Int)) = false:=decide_eq_false c4
     clear c4
     obtain rfl:=sO H
     go_wp2
     repeat (go_quiet (fail);try go_wp2)
     go_ret
     exact ⟨by first|rfl|(simp;done)|(simp [*];done),by repeat (first|exact Drawn0.refl _|apply Drawn0.step)⟩
 ·
  rw [if_neg c3] at H
  have c3b0 : ((l0.length : Int) == (l1.length : Int)) = false:=beq_eq_false_iff_ne.mpr c3
  have c3b1 : ((l0.length : Int) != (l1.length : Int)) = true:=bne_iff_ne.mpr c3
  have c3b2 : (l0.length == l1.length) = false:=by first|simpa using c3|(simp at c3 ⊢;omega)
  obtain rfl:=sO H
  go_enter Try.func28,Try.ntmps28
  go_wp2
  repeat (go_quiet (fail);try go_wp2)
  go_ret
  exact ⟨by first|rfl|(simp;done)|(simp [*];done),by repeat (first|exact Drawn0.refl _|apply Drawn0.step)⟩
end Go.Proofs.Ytjkanhjapddhnaa.PFnExactRunRequests
