-- laid by this session's program myprint.py over the kit's printer
-- squeezed
-- aliased
import Derived.Test.YtmkaknegjahjaaaDoorPFnLamportx0
import Derived.Test.YtmkaknegjahjaaaDoorPFnLamportx4
import Derived.Test.YtmkaknegjahjaaaDoorPFnLamportx6
import Derived.Test.YtmkaknegjahjaaaDoorPFnLamportx8
import Derived.Test.YtmkaknegjahjaaaDoorPFnLamportx9
namespace Go.Proofs.YtmkaknegjahjaaaDoor.PFnLamport
open Go.RowKit Go.Proofs.YtmkaknegjahjaaaDoorV.PrintWords Go.Proofs.YtmkaknegjahjaaaDoorV.PrintLast Go.Proofs.YtmkaknegjahjaaaDoorV.PrintMore
attribute [local go_sem] max2_int min2_int max_two min_two max_three min_three max_four min_four u8_wm u32_wm   -- for this text's walks alone
set_option linter.unusedVariables false
set_option linter.unusedSimpArgs false

/-! ### impl_CheckSignature: function 29 -/
theorem qa10 : type_of% @below_alloc:=@below_alloc
theorem qb10 : type_of% @pw_below_drewN:=@pw_below_drewN
theorem qc10 : type_of% @below_drew1:=@below_drew1
theorem qd10 : type_of% @below_set:=@below_set
theorem qe10 : type_of% @Aside0.mk:=@Aside0.mk
mutual
def impl_CheckSignature.j0 : Nat → ByteArray → ByteArray → Bool → Int → List ByteArray → List ByteArray → List ByteArray → Option (Int)
 | 0,_,_,_,_,_,_,_ => none
 | k + 1,x0,x1,x7,x320000,x320001,x320002,x320003 => if x7 = true then (some 2) else ((impl_isHash.f x0).bind fun t324 => (if t324 = true then ((impl_areHashes.f x320001 32).bind fun t325 => (if t325 = true then ((impl_areHashes.f x320002 32).bind fun t326 => (if t326 = true then ((impl_areHashes.f x320003 3).bind fun t327 => (impl_CheckSignature.j1 k x0 x1 (!t327) x320000 x320001 x320002 x320003)) else (impl_CheckSignature.j1 k x0 x1 true x320000 x320001 x320002 x320003))) else (impl_CheckSignature.j1 k x0 x1 true x320000 x320001 x320002 x320003))) else (impl_CheckSignature.j1 k x0 x1 true x320000 x320001 x320002 x320003)))
def impl_CheckSignature.j1 : Nat → ByteArray → ByteArray → Bool → Int → List ByteArray → List ByteArray → List ByteArray → Option (Int)
 | 0,_,_,_,_,_,_,_ => none
 | k + 1,x0,x1,x16,x320000,x320001,x320002,x320003 => if x16 = true then (some 1) else ((impl_isIndex.f x320000).bind fun t328 => (if t328 = true then ((impl_KeySignature_leads.f k x320000 x320001 x320002 x320003 x1).bind fun t329 => (if t329.toList = x0.toList then (some 0) else (some 12))) else (some 4)))
end
def impl_CheckSignature.f (k : Nat) (a0 : ByteArray) (a1 : ByteArray) (a2_0 : Int) (l2_1 : List ByteArray) (l2_2 : List ByteArray) (l2_3 : List ByteArray) : Option (Int):=(impl_areLong.f (([a0] : List ByteArray))).bind fun t323 => (if t323 = true then (impl_CheckSignature.j0 k a0 a1 true a2_0 l2_1 l2_2 l2_3) else (impl_CheckSignature.j0 k a0 a1 (decide ((a1.size : Int) > 65530)) a2_0 l2_1 l2_2 l2_3))
theorem impl_CheckSignature.mono_l : ∀ k,(∀ y0 y1 y2 y3 y4 y5 y6,LeO (impl_CheckSignature.j0 k y0 y1 y2 y3 y4 y5 y6) (impl_CheckSignature.j0 (k + 1) y0 y1 y2 y3 y4 y5 y6)) ∧ (∀ y0 y1 y2 y3 y4 y5 y6,LeO (impl_CheckSignature.j1 k y0 y1 y2 y3 y4 y5 y6) (impl_CheckSignature.j1 (k + 1) y0 y1 y2 y3 y4 y5 y6))
 | 0 => ⟨fun _ _ _ _ _ _ _ r h => by simp [impl_CheckSignature.j0] at h,fun _ _ _ _ _ _ _ r h => by simp [impl_CheckSignature.j1] at h⟩
 | k + 1 => by
  obtain ⟨ih0,ih1⟩:=impl_CheckSignature.mono_l k
  refine ⟨?_,?_⟩
  ·
   intro y0 y1 y2 y3 y4 y5 y6
   unfold impl_CheckSignature.j0
   repeat' first
   | (with_reducible exact ih0 _ _ _ _ _ _ _)
   | (with_reducible exact ih1 _ _ _ _ _ _ _)
   | (with_reducible exact impl_KeySignature_leads.mono _ _ _ _ _ _)
   | (with_reducible exact LeO.refl _)
   | (with_reducible exact LeO.none _)
   | (with_reducible refine LeO.ite ?_ ?_)
   | (with_reducible refine LeO.bind ?_ (fun _ => ?_))
   | exact ih0 _ _ _ _ _ _ _
   | exact ih1 _ _ _ _ _ _ _
   | exact impl_KeySignature_leads.mono _ _ _ _ _ _
   | exact LeO.none _
   | refine LeO.ite ?_ ?_
   | refine LeO.bind ?_ (fun _ => ?_)
  ·
   intro y0 y1 y2 y3 y4 y5 y6
   unfold impl_CheckSignature.j1
   repeat' first
   | (with_reducible exact ih0 _ _ _ _ _ _ _)
   | (with_reducible exact ih1 _ _ _ _ _ _ _)
   | (with_reducible exact impl_KeySignature_leads.mono _ _ _ _ _ _)
   | (with_reducible exact LeO.refl _)
   | (with_reducible exact LeO.none _)
   | (with_reducible refine LeO.ite ?_ ?_)
   | (with_reducible refine LeO.bind ?_ (fun _ => ?_))
   | exact ih0 _ _ _ _ _ _ _
   | exact ih1 _ _ _ _ _ _ _
   | exact impl_KeySignature_leads.mono _ _ _ _ _ _
   | exact LeO.none _
   | refine LeO.ite ?_ ?_
   | refine LeO.bind ?_ (fun _ => ?_)
theorem impl_CheckSignature.mono : ∀ a0 a1 a2 a3 a4 a5 k,LeO (impl_CheckSignature.f k a0 a1 a2 a3 a4 a5) (impl_CheckSignature.f (k + 1) a0 a1 a2 a3 a4 a5):=by
 intro a0 a1 a2 a3 a4 a5 k
 obtain ⟨ih0,ih1⟩:=impl_CheckSignature.mono_l k
 unfold impl_CheckSignature.f
 repeat' first
   | (with_reducible exact ih0 _ _ _ _ _ _ _)
   | (with_reducible exact ih1 _ _ _ _ _ _ _)
   | (with_reducible exact impl_KeySignature_leads.mono _ _ _ _ _ _)
   | (with_reducible exact LeO.refl _)
   | (with_reducible exact LeO.none _)
   | (with_reducible refine LeO.ite ?_ ?_)
   | (with_reducible refine LeO.bind ?_ (fun _ => ?_))
   | exact ih0 _ _ _ _ _ _ _
   | exact ih1 _ _ _ _ _ _ _
   | exact impl_KeySignature_leads.mono _ _ _ _ _ _
   | exact LeO.none _
   | refine LeO.ite ?_ ?_
   | refine LeO.bind ?_ (fun _ => ?_)
set_option maxHeartbeats 8000000 in
set_option maxRecDepth 100000 in
theorem impl_CheckSignature.calls (k : Nat) (a0 : ByteArray) (a1 : ByteArray) (a2_0 : Int) (A2_1 : Option Addr) (c2_1 : Nat) (l2_1 : List ByteArray) (A2_2 : Option Addr) (c2_2 : Nat) (l2_2 : List ByteArray) (A2_3 : Option Addr) (c2_3 : Nat) (l2_3 : List ByteArray) (r : Int) (w : World) (hr2_1 : Kd.C Kd.string w A2_1 l2_1.length l2_1) (hc2_1 : l2_1.length ≤ c2_1) (hr2_2 : Kd.C Kd.string w A2_2 l2_2.length l2_2) (hc2_2 : l2_2.length ≤ c2_2) (hr2_3 : Kd.C Kd.string w A2_3 l2_3.length l2_3) (hc2_3 : l2_3.length ≤ c2_3) (hG_ : Go.Proofs.YtmkaknegjahjaaaDoor.Sha.GlobA w) (h : impl_CheckSignature.f k a0 a1 a2_0 l2_1 l2_2 l2_3 = some r) :
  Calls Tryd.prog 29 #[.string a0,.string a1,.agg #[.int .i64 a2_0,.slice A2_1 l2_1.length c2_1,.slice A2_2 l2_2.length c2_2,.slice A2_3 l2_3.length c2_3]] w fun e w' => e = .returned (.int .i64 r) ∧ Below w.heap.size w w':=by
 have hu33:=Tryd.underlying33
 have HR2_1:=qe10 hr2_1
 have HC2_1:=qe10 hc2_1
 clear hr2_1 hc2_1
 have HR2_2:=qe10 hr2_2
 have HC2_2:=qe10 hc2_2
 clear hr2_2 hc2_2
 have HR2_3:=qe10 hr2_3
 have HC2_3:=qe10 hc2_3
 clear hr2_3 hc2_3
 have HB:=qe10 (Below.refl w.heap.size w)
 have H : ((impl_areLong.f (([a0] : List ByteArray))).bind fun t323 => (if t323 = true then (impl_CheckSignature.j0 k a0 a1 true a2_0 l2_1 l2_2 l2_3) else (impl_CheckSignature.j0 k a0 a1 (decide ((a1.size : Int) > 65530)) a2_0 l2_1 l2_2 l2_3))) = some r:=h
 clear h
 have HC4:=qe10 H
 clear H
 go_enter Tryd.func29,Tryd.ntmps29
 go_upto_region 1 with (first|((with_reducible refine gate_dst (N:=5) rfl ?_);refine box_event ?hg (N:=5) ?hd (cs:=#[.int .i64 a2_0,.slice A2_1 l2_1.length c2_1,.slice A2_2 l2_2.length c2_2,.slice A2_3 l2_3.length c2_3]) (t:=33) ?hr ?_;(case hd => rfl);(case hg => rfl);(case hr => first|(go_simp;done)|(go_simp;rfl));intro gb319 hg w5 hbox hb;have n0_:=qe10 (below_step (by repeat (first|(with_reducible first|exact HB.out|apply qa10|apply qb10|apply qc10)|exact HB.out)) hb);have n1_:=qe10 (hbox);have n2_:=qe10 ((by rw [hg];exact (below_size (by repeat (first|(with_reducible first|exact HB.out|apply qa10|apply qb10|apply qc10)|exact HB.out))) : w.heap.size ≤ gb319));have n3_:=qe10 ((by rw [hg];exact (below_size (by repeat (first|(with_reducible first|exact HB.out|apply qa10|apply qb10|apply qc10)|exact HB.out))) : w.heap.size ≤ gb319));clear HB;have HB:=n0_;have BK319:=n1_;have GW319:=n2_;have GE319:=n3_;clear n0_ n1_ n2_ n3_;clear hb hbox hg))
 (try simp only [Act.put,List.setIfInBounds_toArray,List.set_cons_zero,List.set_cons_succ])
 go_cut [7] (fun v7 wc => ∃ (kq : Nat) (x7_3 : Bool),v7 = .bool x7_3 ∧ Aside0 (impl_CheckSignature.j0 kq a0 a1 x7_3 a2_0 l2_1 l2_2 l2_3 = some r) ∧ Aside0 (kq ≤ k) ∧ Aside0 (wc.heap[gb319]? = some (.cells #[.int .i64 a2_0,(.slice A2_1 l2_1.length c2_1),(.slice A2_2 l2_2.length c2_2),(.slice A2_3 l2_3.length c2_3)] 33 (0,0))) ∧ Aside0 (Below w.heap.size w wc))
 case first =>
  have H:=HC4.out
  clear HC4
  obtain ⟨y320,hy320⟩ : ∃ y_ : List ByteArray,y_ = (([a0] : List ByteArray)):=⟨_,rfl⟩
  replace H : ((impl_areLong.f y320).bind fun t323 => (if t323 = true then (impl_CheckSignature.j0 k a0 a1 true a2_0 l2_1 l2_2 l2_3) else (impl_CheckSignature.j0 k a0 a1 (decide ((a1.size : Int) > 65530)) a2_0 l2_1 l2_2 l2_3))) = some r:=by first|(rw [hy320];with_reducible exact H)|(have H2_:=(Option.bind_some _ _).symm.trans H;rw [hy320];with_reducible exact H2_)|(have H2_:=(Option.bind_some _ _).symm.trans H;with_reducible exact H2_)|with_reducible exact H|(rw [hy320];exact H)|exact H
  have Ny320:=qe10 hy320
  clear hy320
  replace H:=Option.bind_eq_some_iff.mp H
  obtain ⟨t323,A60,H⟩:=H
  replace H : (if t323 = true then (impl_CheckSignature.j0 k a0 a1 true a2_0 l2_1 l2_2 l2_3) else (impl_CheckSignature.j0 k a0 a1 (decide ((a1.size : Int) > 65530)) a2_0 l2_1 l2_2 l2_3)) = some r:=H
  have A6:=qe10 A60
  clear A60
  by_cases c7 : t323 = true
  ·
   subst c7
   have H1 : (impl_CheckSignature.j0 k a0 a1 true a2_0 l2_1 l2_2 l2_3) = some r:=by rw [if_pos rfl] at H;exact H
   clear H
   have H:=H1
   clear H1
   have H':=qe10 H
   clear H
   go_wp2_with (first|((with_reducible refine gate_dst (N:=9) rfl ?_);refine Kd.R_lit Kd.string _ 9 ?hg (N:=9) ?hd (xs:=([a0] : List ByteArray)) (inner:=[.string a0]) (ok:=fun _ => True) (okp:=fun _ => True) ?hr ?hp (fun _ hk => hk) trivial (Below.refl _ _) (Nat.le_refl _) (by simp) ?_;(case hd => rfl);(case hg => rfl);(case hr => first|(go_simp;done)|(go_simp;rfl));(case hp => exact (Reps.one (show Kd.M Kd.string _ _ _ a0 [.string a0] from rfl) (Reps.none _ _)));intro v321 w8 ho9 hb hg_ hnew_;clear hg_ hnew_;(first|rw [← Ny320.out] at ho9|(simp only [Int.reduceToNat] at ho9;rw [← Ny320.out] at ho9));have n0_:=qe10 (Kd.R_lower ho9 (below_size (by repeat (first|(with_reducible first|exact HB.out|apply qa10|apply qb10|apply qc10|refine qd10 ?_ GE319.out)|exact HB.out))));have n1_:=qe10 (blk_below (g:=gb319) (o:=.cells #[.int .i64 a2_0,.slice A2_1 l2_1.length c2_1,.slice A2_2 l2_2.length c2_2,.slice A2_3 l2_3.length c2_3] 33 (0,0)) (by (with_reducible repeat (first|apply blk_drewN|apply blk_drew|apply blk_alloc));exact BK319.out) hb);have n2_:=qe10 (below_step (by repeat (first|(with_reducible first|exact HB.out|apply qa10|apply qb10|apply qc10|refine qd10 ?_ GE319.out)|exact HB.out)) hb);clear BK319;clear HB;have HO322:=n0_;have BK319:=n1_;have HB:=n2_;clear n0_ n1_ n2_;clear hb ho9;obtain ⟨Ao10,co10,eo10⟩:=Kd.R_slice HO322.out;subst eo10)|((with_reducible refine gate_callee (f:=51) rfl ?_);refine goesL_ (some 10) rfl rfl Tryd.func51 (by kernel_rfl) rfl #[.slice Ao10 y320.length co10] rfl (by (try simp only [List.map_toArray,List.map_cons,List.map_nil]);first|done|rfl|(simp only [List.length_drop,List.length_take];rfl)) ?_;(with_reducible refine (impl_areLong.calls _ _ y320 true _ ?side1 ?side2 A6.out).mono ?_);(case side1 => repeat (first|exact (Kd.R_reads' HO322.out).2.2|(with_reducible refine Kd.C_alloc ?_ _)|(with_reducible refine Kd.C_drewN ?_ _)|(with_reducible refine Kd.C_drew ?_)));(case side2 => exact (Kd.R_reads' HO322.out).2.1);rintro e w' ⟨rfl,⟨nd,rfl⟩⟩;refine ⟨_,rfl,?_⟩))
   go_meet
   case rel => exact ⟨_,(true),(by first|rfl|(simp;done)|(simp [*];done)),H',⟨by first|omega|exact Nat.le_refl _⟩,⟨by (with_reducible repeat (first|apply blk_drewN|apply blk_drew|apply blk_alloc));exact BK319.out⟩,⟨by repeat (first|(with_reducible first|exact HB.out|apply qa10|apply qb10|apply qc10|refine qd10 ?_ GE319.out)|exact HB.out)⟩⟩
  ·
   replace c7:=Bool.eq_false_iff.mpr c7
   subst c7
   have H1 : (impl_CheckSignature.j0 k a0 a1 (decide ((a1.size : Int) > 65530)) a2_0 l2_1 l2_2 l2_3) = some r:=by rw [if_neg (show ¬ (false = true) by decide)] at H;exact H
   clear H
   have H:=H1
   clear H1
   have H':=qe10 H
   clear H
   go_wp2_with (first|((with_reducible refine gate_dst (N:=9) rfl ?_);refine Kd.R_lit Kd.string _ 9 ?hg (N:=9) ?hd (xs:=([a0] : List ByteArray)) (inner:=[.string a0]) (ok:=fun _ => True) (okp:=fun _ => True) ?hr ?hp (fun _ hk => hk) trivial (Below.refl _ _) (Nat.le_refl _) (by simp) ?_;(case hd => rfl);(case hg => rfl);(case hr => first|(go_simp;done)|(go_simp;rfl));(case hp => exact (Reps.one (show Kd.M Kd.string _ _ _ a0 [.string a0] from rfl) (Reps.none _ _)));intro v321 w11 ho12 hb hg_ hnew_;clear hg_ hnew_;(first|rw [← Ny320.out] at ho12|(simp only [Int.reduceToNat] at ho12;rw [← Ny320.out] at ho12));have n0_:=qe10 (Kd.R_lower ho12 (below_size (by repeat (first|(with_reducible first|exact HB.out|apply qa10|apply qb10|apply qc10|refine qd10 ?_ GE319.out)|exact HB.out))));have n1_:=qe10 (blk_below (g:=gb319) (o:=.cells #[.int .i64 a2_0,.slice A2_1 l2_1.length c2_1,.slice A2_2 l2_2.length c2_2,.slice A2_3 l2_3.length c2_3] 33 (0,0)) (by (with_reducible repeat (first|apply blk_drewN|apply blk_drew|apply blk_alloc));exact BK319.out) hb);have n2_:=qe10 (below_step (by repeat (first|(with_reducible first|exact HB.out|apply qa10|apply qb10|apply qc10|refine qd10 ?_ GE319.out)|exact HB.out)) hb);clear BK319;clear HB;have HO322:=n0_;have BK319:=n1_;have HB:=n2_;clear n0_ n1_ n2_;clear hb ho12;obtain ⟨Ao13,co13,eo13⟩:=Kd.R_slice HO322.out;subst eo13)|((with_reducible refine gate_callee (f:=51) rfl ?_);refine goesL_ (some 10) rfl rfl Tryd.func51 (by kernel_rfl) rfl #[.slice Ao13 y320.length co13] rfl (by (try simp only [List.map_toArray,List.map_cons,List.map_nil]);first|done|rfl|(simp only [List.length_drop,List.length_take];rfl)) ?_;(with_reducible refine (impl_areLong.calls _ _ y320 false _ ?side1 ?side2 A6.out).mono ?_);(case side1 => repeat (first|exact (Kd.R_reads' HO322.out).2.2|(with_reducible refine Kd.C_alloc ?_ _)|(with_reducible refine Kd.C_drewN ?_ _)|(with_reducible refine Kd.C_drew ?_)));(case side2 => exact (Kd.R_reads' HO322.out).2.1);rintro e w' ⟨rfl,⟨nd,rfl⟩⟩;refine ⟨_,rfl,?_⟩))
   go_meet
   case rel => exact ⟨_,(decide ((a1.size : Int) > 65530)),(by first|rfl|(simp;done)|(simp [*];done)),H',⟨by first|omega|exact Nat.le_refl _⟩,⟨by (with_reducible repeat (first|apply blk_drewN|apply blk_drew|apply blk_alloc));exact BK319.out⟩,⟨by repeat (first|(with_reducible first|exact HB.out|apply qa10|apply qb10|apply qc10|refine qd10 ?_ GE319.out)|exact HB.out)⟩⟩
 case rest =>
  clear HC4
  try clear c2
  try clear p2
  try clear c5
  try clear c7
  obtain ⟨kq,x7_3,rfl,HA,HJ3,BK319,HB⟩:=hcut
  cases kq with
  | zero => exact absurd HA.out (by simp [impl_CheckSignature.j0])
  | succ kj3 =>
   have H:=HA.out
   clear HA
   simp only [impl_CheckSignature.j0] at H
   by_cases c14 : x7_3 = true
   ·
    subst c14
    have H1 : (some 2) = some r:=by rw [if_pos rfl] at H;exact H
    clear H
    have H:=H1
    clear H1
    obtain rfl:=Option.some.inj H
    go_wp2
    go_ret
    exact ⟨by first|rfl|(simp [errW_none,errW_some] <;> rfl)|(simp [*,errW_none,errW_some] <;> rfl),by repeat (first|(with_reducible first|exact HB.out|apply qa10|apply qb10|apply qc10|refine qd10 ?_ GE319.out)|exact HB.out)⟩
   ·
    replace c14:=Bool.eq_false_iff.mpr c14
    subst c14
    have H1 : ((impl_isHash.f a0).bind fun t324 => (if t324 = true then ((impl_areHashes.f l2_1 32).bind fun t325 => (if t325 = true then ((impl_areHashes.f l2_2 32).bind fun t326 => (if t326 = true then ((impl_areHashes.f l2_3 3).bind fun t327 => (impl_CheckSignature.j1 kj3 a0 a1 (!t327) a2_0 l2_1 l2_2 l2_3)) else (impl_CheckSignature.j1 kj3 a0 a1 true a2_0 l2_1 l2_2 l2_3))) else (impl_CheckSignature.j1 kj3 a0 a1 true a2_0 l2_1 l2_2 l2_3))) else (impl_CheckSignature.j1 kj3 a0 a1 true a2_0 l2_1 l2_2 l2_3))) = some r:=by rw [if_neg (show ¬ (false = true) by decide)] at H;exact H
    clear H
    have H:=H1
    clear H1
    have HC15:=qe10 H
    clear H
    go_upto_region 3 with (fail)
    go_cut [16] (fun v16 wc => ∃ (kq : Nat) (x16_14 : Bool),v16 = .bool x16_14 ∧ Aside0 (impl_CheckSignature.j1 kq a0 a1 x16_14 a2_0 l2_1 l2_2 l2_3 = some r) ∧ Aside0 (kq ≤ kj3) ∧ Aside0 (wc.heap[gb319]? = some (.cells #[.int .i64 a2_0,(.slice A2_1 l2_1.length c2_1),(.slice A2_2 l2_2.length c2_2),(.slice A2_3 l2_3.length c2_3)] 33 (0,0))) ∧ Aside0 (Below w.heap.size w wc))
    case first =>
     have H:=HC15.out
     clear HC15
     replace H:=Option.bind_eq_some_iff.mp H
     obtain ⟨t324,A160,H⟩:=H
     replace H : (if t324 = true then ((impl_areHashes.f l2_1 32).bind fun t325 => (if t325 = true then ((impl_areHashes.f l2_2 32).bind fun t326 => (if t326 = true then ((impl_areHashes.f l2_3 3).bind fun t327 => (impl_CheckSignature.j1 kj3 a0 a1 (!t327) a2_0 l2_1 l2_2 l2_3)) else (impl_CheckSignature.j1 kj3 a0 a1 true a2_0 l2_1 l2_2 l2_3))) else (impl_CheckSignature.j1 kj3 a0 a1 true a2_0 l2_1 l2_2 l2_3))) else (impl_CheckSignature.j1 kj3 a0 a1 true a2_0 l2_1 l2_2 l2_3)) = some r:=H
     have A16:=qe10 A160
     clear A160
     by_cases c17 : t324 = true
     ·
      subst c17
      have H1 : ((impl_areHashes.f l2_1 32).bind fun t325 => (if t325 = true then ((impl_areHashes.f l2_2 32).bind fun t326 => (if t326 = true then ((impl_areHashes.f l2_3 3).bind fun t327 => (impl_CheckSignature.j1 kj3 a0 a1 (!t327) a2_0 l2_1 l2_2 l2_3)) else (impl_CheckSignature.j1 kj3 a0 a1 true a2_0 l2_1 l2_2 l2_3))) else (impl_CheckSignature.j1 kj3 a0 a1 true a2_0 l2_1 l2_2 l2_3))) = some r:=by rw [if_pos rfl] at H;exact H
      clear H
      have H:=H1
      clear H1
      replace H:=Option.bind_eq_some_iff.mp H
      obtain ⟨t325,A180,H⟩:=H
      replace H : (if t325 = true then ((impl_areHashes.f l2_2 32).bind fun t326 => (if t326 = true then ((impl_areHashes.f l2_3 3).bind fun t327 => (impl_CheckSignature.j1 kj3 a0 a1 (!t327) a2_0 l2_1 l2_2 l2_3)) else (impl_CheckSignature.j1 kj3 a0 a1 true a2_0 l2_1 l2_2 l2_3))) else (impl_CheckSignature.j1 kj3 a0 a1 true a2_0 l2_1 l2_2 l2_3)) = some r:=H
      have A18:=qe10 A180
      clear A180
      by_cases c19 : t325 = true
      ·
       subst c19
       have H1 : ((impl_areHashes.f l2_2 32).bind fun t326 => (if t326 = true then ((impl_areHashes.f l2_3 3).bind fun t327 => (impl_CheckSignature.j1 kj3 a0 a1 (!t327) a2_0 l2_1 l2_2 l2_3)) else (impl_CheckSignature.j1 kj3 a0 a1 true a2_0 l2_1 l2_2 l2_3))) = some r:=by rw [if_pos rfl] at H;exact H
       clear H
       have H:=H1
       clear H1
       replace H:=Option.bind_eq_some_iff.mp H
       obtain ⟨t326,A200,H⟩:=H
       replace H : (if t326 = true then ((impl_areHashes.f l2_3 3).bind fun t327 => (impl_CheckSignature.j1 kj3 a0 a1 (!t327) a2_0 l2_1 l2_2 l2_3)) else (impl_CheckSignature.j1 kj3 a0 a1 true a2_0 l2_1 l2_2 l2_3)) = some r:=H
       have A20:=qe10 A200
       clear A200
       by_cases c21 : t326 = true
       ·
        subst c21
        have H1 : ((impl_areHashes.f l2_3 3).bind fun t327 => (impl_CheckSignature.j1 kj3 a0 a1 (!t327) a2_0 l2_1 l2_2 l2_3)) = some r:=by rw [if_pos rfl] at H;exact H
        clear H
        have H:=H1
        clear H1
        replace H:=Option.bind_eq_some_iff.mp H
        obtain ⟨t327,A220,H⟩:=H
        replace H : (impl_CheckSignature.j1 kj3 a0 a1 (!t327) a2_0 l2_1 l2_2 l2_3) = some r:=H
        have A22:=qe10 A220
        clear A220
        have H':=qe10 H
        clear H
        go_wp2_with (first|((with_reducible refine gate_callee (f:=52) rfl ?_);refine goesL_ (some 18) rfl rfl Tryd.func52 (by kernel_rfl) rfl #[.string a0] rfl (by (try simp only [List.map_toArray,List.map_cons,List.map_nil]);first|done|rfl|(simp only [List.length_drop,List.length_take];rfl)) ?_;(with_reducible refine (impl_isHash.calls a0 true _ A16.out).mono ?_);rintro e w' ⟨rfl,⟨nd,rfl⟩⟩;refine ⟨_,rfl,?_⟩;have hcz23_0 : wc.cell? ⟨gb319,0,none⟩ = some (.int .i64 a2_0):=(blk_cell BK319.out 0).trans rfl;have hcz23_1 : wc.cell? ⟨gb319,1,none⟩ = some (.slice A2_1 l2_1.length c2_1):=(blk_cell BK319.out 1).trans rfl;have hcz23_2 : wc.cell? ⟨gb319,2,none⟩ = some (.slice A2_2 l2_2.length c2_2):=(blk_cell BK319.out 2).trans rfl;have hcz23_3 : wc.cell? ⟨gb319,3,none⟩ = some (.slice A2_3 l2_3.length c2_3):=(blk_cell BK319.out 3).trans rfl;have hfz23_0:=blk_frozen BK319.out 0;have hfz23_1:=blk_frozen BK319.out 1;have hfz23_2:=blk_frozen BK319.out 2;have hfz23_3:=blk_frozen BK319.out 3)|(go_at_call 71;(with_reducible refine (impl_areHashes.calls _ _ l2_1 32 true _ ?side1 ?side2 A18.out).mono ?_);(case side1 => repeat (first|exact (Kd.C_below HR2_1.out (by repeat (first|(with_reducible first|exact HB.out|apply qa10|apply qb10|apply qc10|refine qd10 ?_ GE319.out)|exact HB.out)))|(with_reducible refine Kd.C_alloc ?_ _)|(with_reducible refine Kd.C_drewN ?_ _)|(with_reducible refine Kd.C_drew ?_)));(case side2 => exact HC2_1.out);rintro e w' ⟨rfl,⟨nd,rfl⟩⟩)|(go_at_call 71;(with_reducible refine (impl_areHashes.calls _ _ l2_2 32 true _ ?side1 ?side2 A20.out).mono ?_);(case side1 => repeat (first|exact (Kd.C_below HR2_2.out (by repeat (first|(with_reducible first|exact HB.out|apply qa10|apply qb10|apply qc10|refine qd10 ?_ GE319.out)|exact HB.out)))|(with_reducible refine Kd.C_alloc ?_ _)|(with_reducible refine Kd.C_drewN ?_ _)|(with_reducible refine Kd.C_drew ?_)));(case side2 => exact HC2_2.out);rintro e w' ⟨rfl,⟨nd,rfl⟩⟩)|(go_at_call 71;(with_reducible refine (impl_areHashes.calls _ _ l2_3 3 t327 _ ?side1 ?side2 A22.out).mono ?_);(case side1 => repeat (first|exact (Kd.C_below HR2_3.out (by repeat (first|(with_reducible first|exact HB.out|apply qa10|apply qb10|apply qc10|refine qd10 ?_ GE319.out)|exact HB.out)))|(with_reducible refine Kd.C_alloc ?_ _)|(with_reducible refine Kd.C_drewN ?_ _)|(with_reducible refine Kd.C_drew ?_)));(case side2 => exact HC2_3.out);rintro e w' ⟨rfl,⟨nd,rfl⟩⟩))
        go_meet
        case rel => exact ⟨_,(!t327),(by first|rfl|(simp;done)|(simp [*];done)),H',⟨by have:=HJ3.out;first|omega|exact Nat.le_refl _⟩,⟨by (with_reducible repeat (first|apply blk_drewN|apply blk_drew|apply blk_alloc));exact BK319.out⟩,⟨by repeat (first|(with_reducible first|exact HB.out|apply qa10|apply qb10|apply qc10|refine qd10 ?_ GE319.out)|exact HB.out)⟩⟩
       ·
        replace c21:=Bool.eq_false_iff.mpr c21
        subst c21
        have H1 : (impl_CheckSignature.j1 kj3 a0 a1 true a2_0 l2_1 l2_2 l2_3) = some r:=by rw [if_neg (show ¬ (false = true) by decide)] at H;exact H
        clear H
        have H:=H1
        clear H1
        have H':=qe10 H
        clear H
        go_wp2_with (first|((with_reducible refine gate_callee (f:=52) rfl ?_);refine goesL_ (some 18) rfl rfl Tryd.func52 (by kernel_rfl) rfl #[.string a0] rfl (by (try simp only [List.map_toArray,List.map_cons,List.map_nil]);first|done|rfl|(simp only [List.length_drop,List.length_take];rfl)) ?_;(with_reducible refine (impl_isHash.calls a0 true _ A16.out).mono ?_);rintro e w' ⟨rfl,⟨nd,rfl⟩⟩;refine ⟨_,rfl,?_⟩;have hcz24_0 : wc.cell? ⟨gb319,0,none⟩ = some (.int .i64 a2_0):=(blk_cell BK319.out 0).trans rfl;have hcz24_1 : wc.cell? ⟨gb319,1,none⟩ = some (.slice A2_1 l2_1.length c2_1):=(blk_cell BK319.out 1).trans rfl;have hcz24_2 : wc.cell? ⟨gb319,2,none⟩ = some (.slice A2_2 l2_2.length c2_2):=(blk_cell BK319.out 2).trans rfl;have hcz24_3 : wc.cell? ⟨gb319,3,none⟩ = some (.slice A2_3 l2_3.length c2_3):=(blk_cell BK319.out 3).trans rfl;have hfz24_0:=blk_frozen BK319.out 0;have hfz24_1:=blk_frozen BK319.out 1;have hfz24_2:=blk_frozen BK319.out 2;have hfz24_3:=blk_frozen BK319.out 3)|(go_at_call 71;(with_reducible refine (impl_areHashes.calls _ _ l2_1 32 true _ ?side1 ?side2 A18.out).mono ?_);(case side1 => repeat (first|exact (Kd.C_below HR2_1.out (by repeat (first|(with_reducible first|exact HB.out|apply qa10|apply qb10|apply qc10|refine qd10 ?_ GE319.out)|exact HB.out)))|(with_reducible refine Kd.C_alloc ?_ _)|(with_reducible refine Kd.C_drewN ?_ _)|(with_reducible refine Kd.C_drew ?_)));(case side2 => exact HC2_1.out);rintro e w' ⟨rfl,⟨nd,rfl⟩⟩)|(go_at_call 71;(with_reducible refine (impl_areHashes.calls _ _ l2_2 32 false _ ?side1 ?side2 A20.out).mono ?_);(case side1 => repeat (first|exact (Kd.C_below HR2_2.out (by repeat (first|(with_reducible first|exact HB.out|apply qa10|apply qb10|apply qc10|refine qd10 ?_ GE319.out)|exact HB.out)))|(with_reducible refine Kd.C_alloc ?_ _)|(with_reducible refine Kd.C_drewN ?_ _)|(with_reducible refine Kd.C_drew ?_)));(case side2 => exact HC2_2.out);rintro e w' ⟨rfl,⟨nd,rfl⟩⟩))
        go_meet
        case rel => exact ⟨_,(true),(by first|rfl|(simp;done)|(simp [*];done)),H',⟨by have:=HJ3.out;first|omega|exact Nat.le_refl _⟩,⟨by (with_reducible repeat (first|apply blk_drewN|apply blk_drew|apply blk_alloc));exact BK319.out⟩,⟨by repeat (first|(with_reducible first|exact HB.out|apply qa10|apply qb10|apply qc10|refine qd10 ?_ GE319.out)|exact HB.out)⟩⟩
      ·
       replace c19:=Bool.eq_false_iff.mpr c19
       subst c19
       have H1 : (impl_CheckSignature.j1 kj3 a0 a1 true a2_0 l2_1 l2_2 l2_3) = some r:=by rw [if_neg (show ¬ (false = true) by decide)] at H;exact H
       clear H
       have H:=H1
       clear H1
       have H':=qe10 H
       clear H
       go_wp2_with (first|((with_reducible refine gate_callee (f:=52) rfl ?_);refine goesL_ (some 18) rfl rfl Tryd.func52 (by kernel_rfl) rfl #[.string a0] rfl (by (try simp only [List.map_toArray,List.map_cons,List.map_nil]);first|done|rfl|(simp only [List.length_drop,List.length_take];rfl)) ?_;(with_reducible refine (impl_isHash.calls a0 true _ A16.out).mono ?_);rintro e w' ⟨rfl,⟨nd,rfl⟩⟩;refine ⟨_,rfl,?_⟩;have hcz25_0 : wc.cell? ⟨gb319,0,none⟩ = some (.int .i64 a2_0):=(blk_cell BK319.out 0).trans rfl;have hcz25_1 : wc.cell? ⟨gb319,1,none⟩ = some (.slice A2_1 l2_1.length c2_1):=(blk_cell BK319.out 1).trans rfl;have hcz25_2 : wc.cell? ⟨gb319,2,none⟩ = some (.slice A2_2 l2_2.length c2_2):=(blk_cell BK319.out 2).trans rfl;have hcz25_3 : wc.cell? ⟨gb319,3,none⟩ = some (.slice A2_3 l2_3.length c2_3):=(blk_cell BK319.out 3).trans rfl;have hfz25_0:=blk_frozen BK319.out 0;have hfz25_1:=blk_frozen BK319.out 1;have hfz25_2:=blk_frozen BK319.out 2;have hfz25_3:=blk_frozen BK319.out 3)|(go_at_call 71;(with_reducible refine (impl_areHashes.calls _ _ l2_1 32 false _ ?side1 ?side2 A18.out).mono ?_);(case side1 => repeat (first|exact (Kd.C_below HR2_1.out (by repeat (first|(with_reducible first|exact HB.out|apply qa10|apply qb10|apply qc10|refine qd10 ?_ GE319.out)|exact HB.out)))|(with_reducible refine Kd.C_alloc ?_ _)|(with_reducible refine Kd.C_drewN ?_ _)|(with_reducible refine Kd.C_drew ?_)));(case side2 => exact HC2_1.out);rintro e w' ⟨rfl,⟨nd,rfl⟩⟩))
       go_meet
       case rel => exact ⟨_,(true),(by first|rfl|(simp;done)|(simp [*];done)),H',⟨by have:=HJ3.out;first|omega|exact Nat.le_refl _⟩,⟨by (with_reducible repeat (first|apply blk_drewN|apply blk_drew|apply blk_alloc));exact BK319.out⟩,⟨by repeat (first|(with_reducible first|exact HB.out|apply qa10|apply qb10|apply qc10|refine qd10 ?_ GE319.out)|exact HB.out)⟩⟩
     ·
      replace c17:=Bool.eq_false_iff.mpr c17
      subst c17
      have H1 : (impl_CheckSignature.j1 kj3 a0 a1 true a2_0 l2_1 l2_2 l2_3) = some r:=by rw [if_neg (show ¬ (false = true) by decide)] at H;exact H
      clear H
      have H:=H1
      clear H1
      have H':=qe10 H
      clear H
      go_wp2_with (first|((with_reducible refine gate_callee (f:=52) rfl ?_);refine goesL_ (some 18) rfl rfl Tryd.func52 (by kernel_rfl) rfl #[.string a0] rfl (by (try simp only [List.map_toArray,List.map_cons,List.map_nil]);first|done|rfl|(simp only [List.length_drop,List.length_take];rfl)) ?_;(with_reducible refine (impl_isHash.calls a0 false _ A16.out).mono ?_);rintro e w' ⟨rfl,⟨nd,rfl⟩⟩;refine ⟨_,rfl,?_⟩))
      go_meet
      case rel => exact ⟨_,(true),(by first|rfl|(simp;done)|(simp [*];done)),H',⟨by have:=HJ3.out;first|omega|exact Nat.le_refl _⟩,⟨by (with_reducible repeat (first|apply blk_drewN|apply blk_drew|apply blk_alloc));exact BK319.out⟩,⟨by repeat (first|(with_reducible first|exact HB.out|apply qa10|apply qb10|apply qc10|refine qd10 ?_ GE319.out)|exact HB.out)⟩⟩
    case rest =>
     clear HC15
     try clear c1
     try clear c2
     try clear p2
     try clear c5
     try clear c7
     try clear c14
     try clear c17
     try clear c19
     try clear c21
     try clear hcz23_0
     try clear hcz23_1
     try clear hcz23_2
     try clear hcz23_3
     try clear hcz24_0
     try clear hcz24_1
     try clear hcz24_2
     try clear hcz24_3
     try clear hcz25_0
     try clear hcz25_1
     try clear hcz25_2
     try clear hcz25_3
     try clear hfz23_0
     try clear hfz23_1
     try clear hfz23_2
     try clear hfz23_3
     try clear hfz24_0
     try clear hfz24_1
     try clear hfz24_2
     try clear hfz24_3
     try clear hfz25_0
     try clear hfz25_1
     try clear hfz25_2
     try clear hfz25_3
     try clear p2
     obtain ⟨kq,x16_14,rfl,HA,HJ14,BK319,HB⟩:=hcut
     cases kq with
     | zero => exact absurd HA.out (by simp [impl_CheckSignature.j1])
     | succ kj14 =>
      have H:=HA.out
      clear HA
      simp only [impl_CheckSignature.j1] at H
      by_cases c26 : x16_14 = true
      ·
       subst c26
       have H1 : (some 1) = some r:=by rw [if_pos rfl] at H;exact H
       clear H
       have H:=H1
       clear H1
       obtain rfl:=Option.some.inj H
       go_wp2
       go_ret
       exact ⟨by first|rfl|(simp [errW_none,errW_some] <;> rfl)|(simp [*,errW_none,errW_some] <;> rfl),by repeat (first|(with_reducible first|exact HB.out|apply qa10|apply qb10|apply qc10|refine qd10 ?_ GE319.out)|exact HB.out)⟩
      ·
       replace c26:=Bool.eq_false_iff.mpr c26
       subst c26
       have H1 : ((impl_isIndex.f a2_0).bind fun t328 => (if t328 = true then ((impl_KeySignature_leads.f kj14 a2_0 l2_1 l2_2 l2_3 a1).bind fun t329 => (if t329.toList = a0.toList then (some 0) else (some 12))) else (some 4))) = some r:=by rw [if_neg (show ¬ (false = true) by decide)] at H;exact H
       clear H
       have H:=H1
       clear H1
       replace H:=Option.bind_eq_some_iff.mp H
       obtain ⟨t328,A270,H⟩:=H
       replace H : (if t328 = true then ((impl_KeySignature_leads.f kj14 a2_0 l2_1 l2_2 l2_3 a1).bind fun t329 => (if t329.toList = a0.toList then (some 0) else (some 12))) else (some 4)) = some r:=H
       have A27:=qe10 A270
       clear A270
       by_cases c28 : t328 = true
       ·
        subst c28
        have H1 : ((impl_KeySignature_leads.f kj14 a2_0 l2_1 l2_2 l2_3 a1).bind fun t329 => (if t329.toList = a0.toList then (some 0) else (some 12))) = some r:=by rw [if_pos rfl] at H;exact H
        clear H
        have H:=H1
        clear H1
        replace H:=Option.bind_eq_some_iff.mp H
        obtain ⟨t329,A290,H⟩:=H
        replace H : (if t329.toList = a0.toList then (some 0) else (some 12)) = some r:=H
        have A29:=qe10 A290
        clear A290
        by_cases c30 : t329.toList = a0.toList
        ·
         rw [if_pos c30] at H
         have c30b0 : (t329.toList == a0.toList) = true:=beq_iff_eq.mpr c30
         have c30b1 : (t329.toList != a0.toList) = false:=bne_eq_false_iff_eq.mpr c30
         clear c30
         obtain rfl:=Option.some.inj H
         have hcz31_0 : wc.cell? ⟨gb319,0,none⟩ = some (.int .i64 a2_0):=(blk_cell BK319.out 0).trans rfl
         have hcz31_1 : wc.cell? ⟨gb319,1,none⟩ = some (.slice A2_1 l2_1.length c2_1):=(blk_cell BK319.out 1).trans rfl
         have hcz31_2 : wc.cell? ⟨gb319,2,none⟩ = some (.slice A2_2 l2_2.length c2_2):=(blk_cell BK319.out 2).trans rfl
         have hcz31_3 : wc.cell? ⟨gb319,3,none⟩ = some (.slice A2_3 l2_3.length c2_3):=(blk_cell BK319.out 3).trans rfl
         have hfz31_0:=blk_frozen BK319.out 0
         have hfz31_1:=blk_frozen BK319.out 1
         have hfz31_2:=blk_frozen BK319.out 2
         have hfz31_3:=blk_frozen BK319.out 3
         go_wp2_with (first|((with_reducible refine gate_callee (f:=64) rfl ?_);refine goesL_ (some 41) rfl rfl Tryd.func64 (by kernel_rfl) rfl #[.int .i64 a2_0] rfl (by (try simp only [List.map_toArray,List.map_cons,List.map_nil]);first|done|rfl|(simp only [List.length_drop,List.length_take];rfl)) ?_;(with_reducible refine (impl_isIndex.calls a2_0 true _ A27.out).mono ?_);rintro e w' ⟨rfl,⟨nd,rfl⟩⟩;refine ⟨_,rfl,?_⟩)|((with_reducible refine gate_callee (f:=72) rfl ?_);refine goesL_ (some 46) rfl rfl Tryd.func72 (by kernel_rfl) rfl #[.agg #[.int .i64 a2_0,.slice A2_1 l2_1.length c2_1,.slice A2_2 l2_2.length c2_2,.slice A2_3 l2_3.length c2_3],.string a1] rfl (by (try simp only [List.map_toArray,List.map_cons,List.map_nil]);first|done|rfl|(simp only [List.length_drop,List.length_take];rfl)) ?_;(with_reducible refine (impl_KeySignature_leads.calls kj14 a2_0 _ _ l2_1 _ _ l2_2 _ _ l2_3 a1 t329 _ ?side1 ?side2 ?side3 ?side4 ?side5 ?side6 ?side7 A29.out).mono ?_);(case side1 => repeat (first|exact (Kd.C_below HR2_1.out (by repeat (first|(with_reducible first|exact HB.out|apply qa10|apply qb10|apply qc10|refine qd10 ?_ GE319.out)|exact HB.out)))|(with_reducible refine Kd.C_alloc ?_ _)|(with_reducible refine Kd.C_drewN ?_ _)|(with_reducible refine Kd.C_drew ?_)));(case side2 => exact HC2_1.out);(case side3 => repeat (first|exact (Kd.C_below HR2_2.out (by repeat (first|(with_reducible first|exact HB.out|apply qa10|apply qb10|apply qc10|refine qd10 ?_ GE319.out)|exact HB.out)))|(with_reducible refine Kd.C_alloc ?_ _)|(with_reducible refine Kd.C_drewN ?_ _)|(with_reducible refine Kd.C_drew ?_)));(case side4 => exact HC2_2.out);(case side5 => repeat (first|exact (Kd.C_below HR2_3.out (by repeat (first|(with_reducible first|exact HB.out|apply qa10|apply qb10|apply qc10|refine qd10 ?_ GE319.out)|exact HB.out)))|(with_reducible refine Kd.C_alloc ?_ _)|(with_reducible refine Kd.C_drewN ?_ _)|(with_reducible refine Kd.C_drew ?_)));(case side6 => exact HC2_3.out);(case side7 => exact Go.Proofs.YtmkaknegjahjaaaDoor.Sha.glob_below hG_ (by repeat (first|(with_reducible first|exact HB.out|apply qa10|apply qb10|apply qc10|refine qd10 ?_ GE319.out)|exact HB.out)));rintro e w32 ⟨rfl,hb⟩;refine ⟨_,rfl,?_⟩;have n0_:=qe10 (blk_below (g:=gb319) (o:=.cells #[.int .i64 a2_0,.slice A2_1 l2_1.length c2_1,.slice A2_2 l2_2.length c2_2,.slice A2_3 l2_3.length c2_3] 33 (0,0)) (by (with_reducible repeat (first|apply blk_drewN|apply blk_drew|apply blk_alloc));exact BK319.out) hb);have n1_:=qe10 (below_step (by repeat (first|(with_reducible first|exact HB.out|apply qa10|apply qb10|apply qc10|refine qd10 ?_ GE319.out)|exact HB.out)) hb);clear BK319;clear HB;have BK319:=n0_;have HB:=n1_;clear n0_ n1_;(try clear hb);(try clear hb2);(try clear hk);(try clear hi)))
         go_ret
         exact ⟨by first|rfl|(simp [errW_none,errW_some] <;> rfl)|(simp [*,errW_none,errW_some] <;> rfl),by repeat (first|(with_reducible first|exact HB.out|apply qa10|apply qb10|apply qc10|refine qd10 ?_ GE319.out)|exact HB.out)⟩
        ·
         rw [if_neg c30] at H
         have c30b0 : (t329.toList == a0.toList) = false:=beq_eq_false_iff_ne.mpr c30
         have c30b1 : (t329.toList != a0.toList) = true:=bne_iff_ne.mpr c30
         obtain rfl:=Option.some.inj H
         have hcz33_0 : wc.cell? ⟨gb319,0,none⟩ = some (.int .i64 a2_0):=(blk_cell BK319.out 0).trans rfl
         have hcz33_1 : wc.cell? ⟨gb319,1,none⟩ = some (.slice A2_1 l2_1.length c2_1):=(blk_cell BK319.out 1).trans rfl
         have hcz33_2 : wc.cell? ⟨gb319,2,none⟩ = some (.slice A2_2 l2_2.length c2_2):=(blk_cell BK319.out 2).trans rfl
         have hcz33_3 : wc.cell? ⟨gb319,3,none⟩ = some (.slice A2_3 l2_3.length c2_3):=(blk_cell BK319.out 3).trans rfl
         have hfz33_0:=blk_frozen BK319.out 0
         have hfz33_1:=blk_frozen BK319.out 1
         have hfz33_2:=blk_frozen BK319.out 2
         have hfz33_3:=blk_frozen BK319.out 3
         go_wp2_with (first|((with_reducible refine gate_callee (f:=64) rfl ?_);refine goesL_ (some 41) rfl rfl Tryd.func64 (by kernel_rfl) rfl #[.int .i64 a2_0] rfl (by (try simp only [List.map_toArray,List.map_cons,List.map_nil]);first|done|rfl|(simp only [List.length_drop,List.length_take];rfl)) ?_;(with_reducible refine (impl_isIndex.calls a2_0 true _ A27.out).mono ?_);rintro e w' ⟨rfl,⟨nd,rfl⟩⟩;refine ⟨_,rfl,?_⟩)|((with_reducible refine gate_callee (f:=72) rfl ?_);refine goesL_ (some 46) rfl rfl Tryd.func72 (by kernel_rfl) rfl #[.agg #[.int .i64 a2_0,.slice A2_1 l2_1.length c2_1,.slice A2_2 l2_2.length c2_2,.slice A2_3 l2_3.length c2_3],.string a1] rfl (by (try simp only [List.map_toArray,List.map_cons,List.map_nil]);first|done|rfl|(simp only [List.length_drop,List.length_take];rfl)) ?_;(with_reducible refine (impl_KeySignature_leads.calls kj14 a2_0 _ _ l2_1 _ _ l2_2 _ _ l2_3 a1 t329 _ ?side1 ?side2 ?side3 ?side4 ?side5 ?side6 ?side7 A29.out).mono ?_);(case side1 => repeat (first|exact (Kd.C_below HR2_1.out (by repeat (first|(with_reducible first|exact HB.out|apply qa10|apply qb10|apply qc10|refine qd10 ?_ GE319.out)|exact HB.out)))|(with_reducible refine Kd.C_alloc ?_ _)|(with_reducible refine Kd.C_drewN ?_ _)|(with_reducible refine Kd.C_drew ?_)));(case side2 => exact HC2_1.out);(case side3 => repeat (first|exact (Kd.C_below HR2_2.out (by repeat (first|(with_reducible first|exact HB.out|apply qa10|apply qb10|apply qc10|refine qd10 ?_ GE319.out)|exact HB.out)))|(with_reducible refine Kd.C_alloc ?_ _)|(with_reducible refine Kd.C_drewN ?_ _)|(with_reducible refine Kd.C_drew ?_)));(case side4 => exact HC2_2.out);(case side5 => repeat (first|exact (Kd.C_below HR2_3.out (by repeat (first|(with_reducible first|exact HB.out|apply qa10|apply qb10|apply qc10|refine qd10 ?_ GE319.out)|exact HB.out)))|(with_reducible refine Kd.C_alloc ?_ _)|(with_reducible refine Kd.C_drewN ?_ _)|(with_reducible refine Kd.C_drew ?_)));(case side6 => exact HC2_3.out);(case side7 => exact Go.Proofs.YtmkaknegjahjaaaDoor.Sha.glob_below hG_ (by repeat (first|(with_reducible first|exact HB.out|apply qa10|apply qb10|apply qc10|refine qd10 ?_ GE319.out)|exact HB.out)));rintro e w34 ⟨rfl,hb⟩;refine ⟨_,rfl,?_⟩;have n0_:=qe10 (blk_below (g:=gb319) (o:=.cells #[.int .i64 a2_0,.slice A2_1 l2_1.length c2_1,.slice A2_2 l2_2.length c2_2,.slice A2_3 l2_3.length c2_3] 33 (0,0)) (by (with_reducible repeat (first|apply blk_drewN|apply blk_drew|apply blk_alloc));exact BK319.out) hb);have n1_:=qe10 (below_step (by repeat (first|(with_reducible first|exact HB.out|apply qa10|apply qb10|apply qc10|refine qd10 ?_ GE319.out)|exact HB.out)) hb);clear BK319;clear HB;have BK319:=n0_;have HB:=n1_;clear n0_ n1_;(try clear hb);(try clear hb2);(try clear hk);(try clear hi)))
         go_ret
         exact ⟨by first|rfl|(simp [errW_none,errW_some] <;> rfl)|(simp [*,errW_none,errW_some] <;> rfl),by repeat (first|(with_reducible first|exact HB.out|apply qa10|apply qb10|apply qc10|refine qd10 ?_ GE319.out)|exact HB.out)⟩
       ·
        replace c28:=Bool.eq_false_iff.mpr c28
        subst c28
        have H1 : (some 4) = some r:=by rw [if_neg (show ¬ (false = true) by decide)] at H;exact H
        clear H
        have H:=H1
        clear H1
        obtain rfl:=Option.some.inj H
        have hcz35_0 : wc.cell? ⟨gb319,0,none⟩ = some (.int .i64 a2_0):=(blk_cell BK319.out 0).trans rfl
        have hcz35_1 : wc.cell? ⟨gb319,1,none⟩ = some (.slice A2_1 l2_1.length c2_1):=(blk_cell BK319.out 1).trans rfl
        have hcz35_2 : wc.cell? ⟨gb319,2,none⟩ = some (.slice A2_2 l2_2.length c2_2):=(blk_cell BK319.out 2).trans rfl
        have hcz35_3 : wc.cell? ⟨gb319,3,none⟩ = some (.slice A2_3 l2_3.length c2_3):=(blk_cell BK319.out 3).trans rfl
        have hfz35_0:=blk_frozen BK319.out 0
        have hfz35_1:=blk_frozen BK319.out 1
        have hfz35_2:=blk_frozen BK319.out 2
        have hfz35_3:=blk_frozen BK319.out 3
        go_wp2_with (first|((with_reducible refine gate_callee (f:=64) rfl ?_);refine goesL_ (some 41) rfl rfl Tryd.func64 (by kernel_rfl) rfl #[.int .i64 a2_0] rfl (by (try simp only [List.map_toArray,List.map_cons,List.map_nil]);first|done|rfl|(simp only [List.length_drop,List.length_take];rfl)) ?_;(with_reducible refine (impl_isIndex.calls a2_0 false _ A27.out).mono ?_);rintro e w' ⟨rfl,⟨nd,rfl⟩⟩;refine ⟨_,rfl,?_⟩))
        go_ret
        exact ⟨by first|rfl|(simp [errW_none,errW_some] <;> rfl)|(simp [*,errW_none,errW_some] <;> rfl),by repeat (first|(with_reducible first|exact HB.out|apply qa10|apply qb10|apply qc10|refine qd10 ?_ GE319.out)|exact HB.out)⟩

/-! ### impl_MessageBits: function 30 -/
def impl_MessageBits.f (k : Nat) (a0 : ByteArray) : Option (ByteArray × Int):=if (a0.size : Int) > 65530 then (some ((⟨#[]⟩ : ByteArray),2)) else ((impl_messageBits.f k a0).bind fun t330 => (some (t330,0)))
theorem impl_MessageBits.mono : ∀ a0 k,LeO (impl_MessageBits.f k a0) (impl_MessageBits.f (k + 1) a0):=by
 intro a0 k
 unfold impl_MessageBits.f
 repeat' first
   | (with_reducible exact impl_messageBits.mono _ _)
   | (with_reducible exact LeO.refl _)
   | (with_reducible exact LeO.none _)
   | (with_reducible refine LeO.ite ?_ ?_)
   | (with_reducible refine LeO.bind ?_ (fun _ => ?_))
   | exact impl_messageBits.mono _ _
   | exact LeO.none _
   | refine LeO.ite ?_ ?_
   | refine LeO.bind ?_ (fun _ => ?_)
set_option maxHeartbeats 8000000 in
set_option maxRecDepth 100000 in
theorem impl_MessageBits.calls (k : Nat) (a0 : ByteArray) (r1 : ByteArray) (r2 : Int) (w : World) (hG_ : Go.Proofs.YtmkaknegjahjaaaDoor.Sha.GlobA w) (h : impl_MessageBits.f k a0 = some (r1,r2)) :
  Calls Tryd.prog 30 #[.string a0] w fun e w' => e = .returned (.tuple #[.string r1,.int .i64 r2]) ∧ Below w.heap.size w w':=by
 have HB:=qe10 (Below.refl w.heap.size w)
 have H : (if (a0.size : Int) > 65530 then (some ((⟨#[]⟩ : ByteArray),2)) else ((impl_messageBits.f k a0).bind fun t330 => (some (t330,0)))) = some (r1,r2):=h
 clear h
 by_cases c2 : (a0.size : Int) > 65530
 ·
  rw [if_pos c2] at H
  have c2b0 : decide (65530 < (a0.size : Int)) = true:=decide_eq_true c2
  have c2b1 : decide (65530 < a0.size) = true:=decide_eq_true (by omega)
  clear c2
  simp only [Option.some.injEq,Prod.mk.injEq] at H
  obtain ⟨rfl,rfl⟩:=H
  go_enter Tryd.func30,Tryd.ntmps30
  go_wp2
  go_ret2
  exact ⟨by first|rfl|(simp [errW_none,errW_some] <;> rfl)|(simp [*,errW_none,errW_some] <;> rfl),by repeat (first|(with_reducible first|exact HB.out|apply qa10|apply qb10|apply qc10)|exact HB.out)⟩
 ·
  rw [if_neg c2] at H
  have c2b0 : decide (65530 < (a0.size : Int)) = false:=decide_eq_false c2
  have c2b1 : decide (65530 < a0.size) = false:=decide_eq_false (by omega)
  clear c2
  replace H:=Option.bind_eq_some_iff.mp H
  obtain ⟨t330,A30,H⟩:=H
  replace H : (some (t330,0)) = some (r1,r2):=H
  have A3:=qe10 A30
  clear A30
  simp only [Option.some.injEq,Prod.mk.injEq] at H
  obtain ⟨rfl,rfl⟩:=H
  go_enter Tryd.func30,Tryd.ntmps30
  go_wp2_with (first|((with_reducible refine gate_callee (f:=73) rfl ?_);refine goesL_ (some 8) rfl rfl Tryd.func73 (by kernel_rfl) rfl #[.string a0] rfl (by (try simp only [List.map_toArray,List.map_cons,List.map_nil]);first|done|rfl|(simp only [List.length_drop,List.length_take];rfl)) ?_;(with_reducible refine (impl_messageBits.calls k a0 t330 _ ?side1 A3.out).mono ?_);(case side1 => exact Go.Proofs.YtmkaknegjahjaaaDoor.Sha.glob_below hG_ (by repeat (first|(with_reducible first|exact HB.out|apply qa10|apply qb10|apply qc10)|exact HB.out)));rintro e w4 ⟨rfl,hb⟩;refine ⟨_,rfl,?_⟩;have n0_:=qe10 (below_step (by repeat (first|(with_reducible first|exact HB.out|apply qa10|apply qb10|apply qc10)|exact HB.out)) hb);clear HB;have HB:=n0_;clear n0_;(try clear hb);(try clear hb2);(try clear hk);(try clear hi)))
  go_ret2
  exact ⟨by first|rfl|(simp [errW_none,errW_some] <;> rfl)|(simp [*,errW_none,errW_some] <;> rfl),by repeat (first|(with_reducible first|exact HB.out|apply qa10|apply qb10|apply qc10)|exact HB.out)⟩

/-! ### impl_SecretAt: function 31 -/
def impl_SecretAt.f (k : Nat) (a0 : ByteArray) (a1 : Int) (a2 : Int) (a3 : Int) : Option (ByteArray × Int):=(impl_areLong.f (([a0] : List ByteArray))).bind fun t334 => (if t334 = true then (some ((⟨#[]⟩ : ByteArray),2)) else ((impl_isHash.f a0).bind fun t335 => (if t335 = true then ((impl_isIndex.f a1).bind fun t336 => (if t336 = true then ((impl_within.f a2 0 31).bind fun t337 => (if t337 = true then ((impl_within.f a3 0 1).bind fun t338 => (if t338 = true then ((impl_secret.f k a0 a1 a2 a3).bind fun t339 => (some (t339,0))) else (some ((⟨#[]⟩ : ByteArray),4)))) else (some ((⟨#[]⟩ : ByteArray),4)))) else (some ((⟨#[]⟩ : ByteArray),4)))) else (some ((⟨#[]⟩ : ByteArray),1)))))
theorem impl_SecretAt.mono : ∀ a0 a1 a2 a3 k,LeO (impl_SecretAt.f k a0 a1 a2 a3) (impl_SecretAt.f (k + 1) a0 a1 a2 a3):=by
 intro a0 a1 a2 a3 k
 unfold impl_SecretAt.f
 repeat' first
   | (with_reducible exact impl_secret.mono _ _ _ _ _)
   | (with_reducible exact LeO.refl _)
   | (with_reducible exact LeO.none _)
   | (with_reducible refine LeO.ite ?_ ?_)
   | (with_reducible refine LeO.bind ?_ (fun _ => ?_))
   | exact impl_secret.mono _ _ _ _ _
   | exact LeO.none _
   | refine LeO.ite ?_ ?_
   | refine LeO.bind ?_ (fun _ => ?_)
set_option maxHeartbeats 8000000 in
set_option maxRecDepth 100000 in
theorem impl_SecretAt.calls (k : Nat) (a0 : ByteArray) (a1 : Int) (a2 : Int) (a3 : Int) (r1 : ByteArray) (r2 : Int) (w : World) (hG_ : Go.Proofs.YtmkaknegjahjaaaDoor.Sha.GlobA w) (h : impl_SecretAt.f k a0 a1 a2 a3 = some (r1,r2)) :
  Calls Tryd.prog 31 #[.string a0,.int .i64 a1,.int .i64 a2,.int .i64 a3] w fun e w' => e = .returned (.tuple #[.string r1,.int .i64 r2]) ∧ Below w.heap.size w w':=by
 have HB:=qe10 (Below.refl w.heap.size w)
 have H : ((impl_areLong.f (([a0] : List ByteArray))).bind fun t334 => (if t334 = true then (some ((⟨#[]⟩ : ByteArray),2)) else ((impl_isHash.f a0).bind fun t335 => (if t335 = true then ((impl_isIndex.f a1).bind fun t336 => (if t336 = true then ((impl_within.f a2 0 31).bind fun t337 => (if t337 = true then ((impl_within.f a3 0 1).bind fun t338 => (if t338 = true then ((impl_secret.f k a0 a1 a2 a3).bind fun t339 => (some (t339,0))) else (some ((⟨#[]⟩ : ByteArray),4)))) else (some ((⟨#[]⟩ : ByteArray),4)))) else (some ((⟨#[]⟩ : ByteArray),4)))) else (some ((⟨#[]⟩ : ByteArray),1)))))) = some (r1,r2):=h
 clear h
 obtain ⟨y331,hy331⟩ : ∃ y_ : List ByteArray,y_ = (([a0] : List ByteArray)):=⟨_,rfl⟩
 replace H : ((impl_areLong.f y331).bind fun t334 => (if t334 = true then (some ((⟨#[]⟩ : ByteArray),2)) else ((impl_isHash.f a0).bind fun t335 => (if t335 = true then ((impl_isIndex.f a1).bind fun t336 => (if t336 = true then ((impl_within.f a2 0 31).bind fun t337 => (if t337 = true then ((impl_within.f a3 0 1).bind fun t338 => (if t338 = true then ((impl_secret.f k a0 a1 a2 a3).bind fun t339 => (some (t339,0))) else (some ((⟨#[]⟩ : ByteArray),4)))) else (some ((⟨#[]⟩ : ByteArray),4)))) else (some ((⟨#[]⟩ : ByteArray),4)))) else (some ((⟨#[]⟩ : ByteArray),1)))))) = some (r1,r2):=by first|(rw [hy331];with_reducible exact H)|(have H2_:=(Option.bind_some _ _).symm.trans H;rw [hy331];with_reducible exact H2_)|(have H2_:=(Option.bind_some _ _).symm.trans H;with_reducible exact H2_)|with_reducible exact H|(rw [hy331];exact H)|exact H
 have Ny331:=qe10 hy331
 clear hy331
 replace H:=Option.bind_eq_some_iff.mp H
 obtain ⟨t334,A50,H⟩:=H
 replace H : (if t334 = true then (some ((⟨#[]⟩ : ByteArray),2)) else ((impl_isHash.f a0).bind fun t335 => (if t335 = true then ((impl_isIndex.f a1).bind fun t336 => (if t336 = true then ((impl_within.f a2 0 31).bind fun t337 => (if t337 = true then ((impl_within.f a3 0 1).bind fun t338 => (if t338 = true then ((impl_secret.f k a0 a1 a2 a3).bind fun t339 => (some (t339,0))) else (some ((⟨#[]⟩ : ByteArray),4)))) else (some ((⟨#[]⟩ : ByteArray),4)))) else (some ((⟨#[]⟩ : ByteArray),4)))) else (some ((⟨#[]⟩ : ByteArray),1))))) = some (r1,r2):=H
 have A5:=qe10 A50
 clear A50
 by_cases c6 : t334 = true
 ·
  subst c6
  have H1 : (some ((⟨#[]⟩ : ByteArray),2)) = some (r1,r2):=by rw [if_pos rfl] at H;exact H
  clear H
  have H:=H1
  clear H1
  simp only [Option.some.injEq,Prod.mk.injEq] at H
  obtain ⟨rfl,rfl⟩:=H
  go_enter Tryd.func31,Tryd.ntmps31
  go_wp2_with (first|((with_reducible refine gate_dst (N:=12) rfl ?_);refine Kd.R_lit Kd.string _ 9 ?hg (N:=12) ?hd (xs:=([a0] : List ByteArray)) (inner:=[.string a0]) (ok:=fun _ => True) (okp:=fun _ => True) ?hr ?hp (fun _ hk => hk) trivial (Below.refl _ _) (Nat.le_refl _) (by simp) ?_;(case hd => rfl);(case hg => rfl);(case hr => first|(go_simp;done)|(go_simp;rfl));(case hp => exact (Reps.one (show Kd.M Kd.string _ _ _ a0 [.string a0] from rfl) (Reps.none _ _)));intro v332 w7 ho8 hb hg_ hnew_;clear hg_ hnew_;(first|rw [← Ny331.out] at ho8|(simp only [Int.reduceToNat] at ho8;rw [← Ny331.out] at ho8));have n0_:=qe10 (Kd.R_lower ho8 (below_size (by repeat (first|(with_reducible first|exact HB.out|apply qa10|apply qb10|apply qc10)|exact HB.out))));have n1_:=qe10 (below_step (by repeat (first|(with_reducible first|exact HB.out|apply qa10|apply qb10|apply qc10)|exact HB.out)) hb);clear HB;have HO333:=n0_;have HB:=n1_;clear n0_ n1_;clear hb ho8;obtain ⟨Ao9,co9,eo9⟩:=Kd.R_slice HO333.out;subst eo9)|((with_reducible refine gate_callee (f:=51) rfl ?_);refine goesL_ (some 13) rfl rfl Tryd.func51 (by kernel_rfl) rfl #[.slice Ao9 y331.length co9] rfl (by (try simp only [List.map_toArray,List.map_cons,List.map_nil]);first|done|rfl|(simp only [List.length_drop,List.length_take];rfl)) ?_;(with_reducible refine (impl_areLong.calls _ _ y331 true _ ?side1 ?side2 A5.out).mono ?_);(case side1 => repeat (first|exact (Kd.R_reads' HO333.out).2.2|(with_reducible refine Kd.C_alloc ?_ _)|(with_reducible refine Kd.C_drewN ?_ _)|(with_reducible refine Kd.C_drew ?_)));(case side2 => exact (Kd.R_reads' HO333.out).2.1);rintro e w' ⟨rfl,⟨nd,rfl⟩⟩;refine ⟨_,rfl,?_⟩))
  go_ret2
  exact ⟨by first|rfl|(simp [errW_none,errW_some] <;> rfl)|(simp [*,errW_none,errW_some] <;> rfl),by repeat (first|(with_reducible first|exact HB.out|apply qa10|apply qb10|apply qc10)|exact HB.out)⟩
 ·
  replace c6:=Bool.eq_false_iff.mpr c6
  subst c6
  have H1 : ((impl_isHash.f a0).bind fun t335 => (if t335 = true then ((impl_isIndex.f a1).bind fun t336 => (if t336 = true then ((impl_within.f a2 0 31).bind fun t337 => (if t337 = true then ((impl_within.f a3 0 1).bind fun t338 => (if t338 = true then ((impl_secret.f k a0 a1 a2 a3).bind fun t339 => (some (t339,0))) else (some ((⟨#[]⟩ : ByteArray),4)))) else (some ((⟨#[]⟩ : ByteArray),4)))) else (some ((⟨#[]⟩ : ByteArray),4)))) else (some ((⟨#[]⟩ : ByteArray),1)))) = some (r1,r2):=by rw [if_neg (show ¬ (false = true) by decide)] at H;exact H
  clear H
  have H:=H1
  clear H1
  replace H:=Option.bind_eq_some_iff.mp H
  obtain ⟨t335,A100,H⟩:=H
  replace H : (if t335 = true then ((impl_isIndex.f a1).bind fun t336 => (if t336 = true then ((impl_within.f a2 0 31).bind fun t337 => (if t337 = true then ((impl_within.f a3 0 1).bind fun t338 => (if t338 = true then ((impl_secret.f k a0 a1 a2 a3).bind fun t339 => (some (t339,0))) else (some ((⟨#[]⟩ : ByteArray),4)))) else (some ((⟨#[]⟩ : ByteArray),4)))) else (some ((⟨#[]⟩ : ByteArray),4)))) else (some ((⟨#[]⟩ : ByteArray),1))) = some (r1,r2):=H
  have A10:=qe10 A100
  clear A100
  by_cases c11 : t335 = true
  ·
   subst c11
   have H1 : ((impl_isIndex.f a1).bind fun t336 => (if t336 = true then ((impl_within.f a2 0 31).bind fun t337 => (if t337 = true then ((impl_within.f a3 0 1).bind fun t338 => (if t338 = true then ((impl_secret.f k a0 a1 a2 a3).bind fun t339 => (some (t339,0))) else (some ((⟨#[]⟩ : ByteArray),4)))) else (some ((⟨#[]⟩ : ByteArray),4)))) else (some ((⟨#[]⟩ : ByteArray),4)))) = some (r1,r2):=by rw [if_pos rfl] at H;exact H
   clear H
   have H:=H1
   clear H1
   replace H:=Option.bind_eq_some_iff.mp H
   obtain ⟨t336,A120,H⟩:=H
   replace H : (if t336 = true then ((impl_within.f a2 0 31).bind fun t337 => (if t337 = true then ((impl_within.f a3 0 1).bind fun t338 => (if t338 = true then ((impl_secret.f k a0 a1 a2 a3).bind fun t339 => (some (t339,0))) else (some ((⟨#[]⟩ : ByteArray),4)))) else (some ((⟨#[]⟩ : ByteArray),4)))) else (some ((⟨#[]⟩ : ByteArray),4))) = some (r1,r2):=H
   have A12:=qe10 A120
   clear A120
   by_cases c13 : t336 = true
   ·
    subst c13
    have H1 : ((impl_within.f a2 0 31).bind fun t337 => (if t337 = true then ((impl_within.f a3 0 1).bind fun t338 => (if t338 = true then ((impl_secret.f k a0 a1 a2 a3).bind fun t339 => (some (t339,0))) else (some ((⟨#[]⟩ : ByteArray),4)))) else (some ((⟨#[]⟩ : ByteArray),4)))) = some (r1,r2):=by rw [if_pos rfl] at H;exact H
    clear H
    have H:=H1
    clear H1
    replace H:=Option.bind_eq_some_iff.mp H
    obtain ⟨t337,A140,H⟩:=H
    replace H : (if t337 = true then ((impl_within.f a3 0 1).bind fun t338 => (if t338 = true then ((impl_secret.f k a0 a1 a2 a3).bind fun t339 => (some (t339,0))) else (some ((⟨#[]⟩ : ByteArray),4)))) else (some ((⟨#[]⟩ : ByteArray),4))) = some (r1,r2):=H
    have A14:=qe10 A140
    clear A140
    by_cases c15 : t337 = true
    ·
     subst c15
     have H1 : ((impl_within.f a3 0 1).bind fun t338 => (if t338 = true then ((impl_secret.f k a0 a1 a2 a3).bind fun t339 => (some (t339,0))) else (some ((⟨#[]⟩ : ByteArray),4)))) = some (r1,r2):=by rw [if_pos rfl] at H;exact H
     clear H
     have H:=H1
     clear H1
     replace H:=Option.bind_eq_some_iff.mp H
     obtain ⟨t338,A160,H⟩:=H
     replace H : (if t338 = true then ((impl_secret.f k a0 a1 a2 a3).bind fun t339 => (some (t339,0))) else (some ((⟨#[]⟩ : ByteArray),4))) = some (r1,r2):=H
     have A16:=qe10 A160
     clear A160
     by_cases c17 : t338 = true
     ·
      subst c17
      have H1 : ((impl_secret.f k a0 a1 a2 a3).bind fun t339 => (some (t339,0))) = some (r1,r2):=by rw [if_pos rfl] at H;exact H
      clear H
      have H:=H1
      clear H1
      replace H:=Option.bind_eq_some_iff.mp H
      obtain ⟨t339,A180,H⟩:=H
      replace H : (some (t339,0)) = some (r1,r2):=H
      have A18:=qe10 A180
      clear A180
      simp only [Option.some.injEq,Prod.mk.injEq] at H
      obtain ⟨rfl,rfl⟩:=H
      go_enter Tryd.func31,Tryd.ntmps31
      go_wp2_with (first|((with_reducible refine gate_dst (N:=12) rfl ?_);refine Kd.R_lit Kd.string _ 9 ?hg (N:=12) ?hd (xs:=([a0] : List ByteArray)) (inner:=[.string a0]) (ok:=fun _ => True) (okp:=fun _ => True) ?hr ?hp (fun _ hk => hk) trivial (Below.refl _ _) (Nat.le_refl _) (by simp) ?_;(case hd => rfl);(case hg => rfl);(case hr => first|(go_simp;done)|(go_simp;rfl));(case hp => exact (Reps.one (show Kd.M Kd.string _ _ _ a0 [.string a0] from rfl) (Reps.none _ _)));intro v332 w19 ho20 hb hg_ hnew_;clear hg_ hnew_;(first|rw [← Ny331.out] at ho20|(simp only [Int.reduceToNat] at ho20;rw [← Ny331.out] at ho20));have n0_:=qe10 (Kd.R_lower ho20 (below_size (by repeat (first|(with_reducible first|exact HB.out|apply qa10|apply qb10|apply qc10)|exact HB.out))));have n1_:=qe10 (below_step (by repeat (first|(with_reducible first|exact HB.out|apply qa10|apply qb10|apply qc10)|exact HB.out)) hb);clear HB;have HO333:=n0_;have HB:=n1_;clear n0_ n1_;clear hb ho20;obtain ⟨Ao21,co21,eo21⟩:=Kd.R_slice HO333.out;subst eo21)|((with_reducible refine gate_callee (f:=51) rfl ?_);refine goesL_ (some 13) rfl rfl Tryd.func51 (by kernel_rfl) rfl #[.slice Ao21 y331.length co21] rfl (by (try simp only [List.map_toArray,List.map_cons,List.map_nil]);first|done|rfl|(simp only [List.length_drop,List.length_take];rfl)) ?_;(with_reducible refine (impl_areLong.calls _ _ y331 false _ ?side1 ?side2 A5.out).mono ?_);(case side1 => repeat (first|exact (Kd.R_reads' HO333.out).2.2|(with_reducible refine Kd.C_alloc ?_ _)|(with_reducible refine Kd.C_drewN ?_ _)|(with_reducible refine Kd.C_drew ?_)));(case side2 => exact (Kd.R_reads' HO333.out).2.1);rintro e w' ⟨rfl,⟨nd,rfl⟩⟩;refine ⟨_,rfl,?_⟩)|((with_reducible refine gate_callee (f:=52) rfl ?_);refine goesL_ (some 16) rfl rfl Tryd.func52 (by kernel_rfl) rfl #[.string a0] rfl (by (try simp only [List.map_toArray,List.map_cons,List.map_nil]);first|done|rfl|(simp only [List.length_drop,List.length_take];rfl)) ?_;(with_reducible refine (impl_isHash.calls a0 true _ A10.out).mono ?_);rintro e w' ⟨rfl,⟨nd,rfl⟩⟩;refine ⟨_,rfl,?_⟩)|((with_reducible refine gate_callee (f:=64) rfl ?_);refine goesL_ (some 20) rfl rfl Tryd.func64 (by kernel_rfl) rfl #[.int .i64 a1] rfl (by (try simp only [List.map_toArray,List.map_cons,List.map_nil]);first|done|rfl|(simp only [List.length_drop,List.length_take];rfl)) ?_;(with_reducible refine (impl_isIndex.calls a1 true _ A12.out).mono ?_);rintro e w' ⟨rfl,⟨nd,rfl⟩⟩;refine ⟨_,rfl,?_⟩)|(go_at_call 63;(with_reducible refine (impl_within.calls a2 0 31 true _ A14.out).mono ?_);rintro e w' ⟨rfl,⟨nd,rfl⟩⟩)|(go_at_call 63;(with_reducible refine (impl_within.calls a3 0 1 true _ A16.out).mono ?_);rintro e w' ⟨rfl,⟨nd,rfl⟩⟩)|((with_reducible refine gate_callee (f:=74) rfl ?_);refine goesL_ (some 36) rfl rfl Tryd.func74 (by kernel_rfl) rfl #[.string a0,.int .i64 a1,.int .i64 a2,.int .i64 a3] rfl (by (try simp only [List.map_toArray,List.map_cons,List.map_nil]);first|done|rfl|(simp only [List.length_drop,List.length_take];rfl)) ?_;(with_reducible refine (impl_secret.calls k a0 a1 a2 a3 t339 _ ?side1 A18.out).mono ?_);(case side1 => exact Go.Proofs.YtmkaknegjahjaaaDoor.Sha.glob_below hG_ (by repeat (first|(with_reducible first|exact HB.out|apply qa10|apply qb10|apply qc10)|exact HB.out)));rintro e w22 ⟨rfl,hb⟩;refine ⟨_,rfl,?_⟩;have n0_:=qe10 (Kd.R_below (by (with_reducible repeat (first|apply Kd.R_alloc|apply Kd.R_drewN|apply Kd.R_drew));exact HO333.out) hb);have n1_:=qe10 (below_step (by repeat (first|(with_reducible first|exact HB.out|apply qa10|apply qb10|apply qc10)|exact HB.out)) hb);clear HO333;clear HB;have HO333:=n0_;have HB:=n1_;clear n0_ n1_;(try clear hb);(try clear hb2);(try clear hk);(try clear hi)))
      go_ret2
      exact ⟨by first|rfl|(simp [errW_none,errW_some] <;> rfl)|(simp [*,errW_none,errW_some] <;> rfl),by repeat (first|(with_reducible first|exact HB.out|apply qa10|apply qb10|apply qc10)|exact HB.out)⟩
     ·
      replace c17:=Bool.eq_false_iff.mpr c17
      subst c17
      have H1 : (some ((⟨#[]⟩ : ByteArray),4)) = some (r1,r2):=by rw [if_neg (show ¬ (false = true) by decide)] at H;exact H
      clear H
      have H:=H1
      clear H1
      simp only [Option.some.injEq,Prod.mk.injEq] at H
      obtain ⟨rfl,rfl⟩:=H
      go_enter Tryd.func31,Tryd.ntmps31
      go_wp2_with (first|((with_reducible refine gate_dst (N:=12) rfl ?_);refine Kd.R_lit Kd.string _ 9 ?hg (N:=12) ?hd (xs:=([a0] : List ByteArray)) (inner:=[.string a0]) (ok:=fun _ => True) (okp:=fun _ => True) ?hr ?hp (fun _ hk => hk) trivial (Below.refl _ _) (Nat.le_refl _) (by simp) ?_;(case hd => rfl);(case hg => rfl);(case hr => first|(go_simp;done)|(go_simp;rfl));(case hp => exact (Reps.one (show Kd.M Kd.string _ _ _ a0 [.string a0] from rfl) (Reps.none _ _)));intro v332 w23 ho24 hb hg_ hnew_;clear hg_ hnew_;(first|rw [← Ny331.out] at ho24|(simp only [Int.reduceToNat] at ho24;rw [← Ny331.out] at ho24));have n0_:=qe10 (Kd.R_lower ho24 (below_size (by repeat (first|(with_reducible first|exact HB.out|apply qa10|apply qb10|apply qc10)|exact HB.out))));have n1_:=qe10 (below_step (by repeat (first|(with_reducible first|exact HB.out|apply qa10|apply qb10|apply qc10)|exact HB.out)) hb);clear HB;have HO333:=n0_;have HB:=n1_;clear n0_ n1_;clear hb ho24;obtain ⟨Ao25,co25,eo25⟩:=Kd.R_slice HO333.out;subst eo25)|((with_reducible refine gate_callee (f:=51) rfl ?_);refine goesL_ (some 13) rfl rfl Tryd.func51 (by kernel_rfl) rfl #[.slice Ao25 y331.length co25] rfl (by (try simp only [List.map_toArray,List.map_cons,List.map_nil]);first|done|rfl|(simp only [List.length_drop,List.length_take];rfl)) ?_;(with_reducible refine (impl_areLong.calls _ _ y331 false _ ?side1 ?side2 A5.out).mono ?_);(case side1 => repeat (first|exact (Kd.R_reads' HO333.out).2.2|(with_reducible refine Kd.C_alloc ?_ _)|(with_reducible refine Kd.C_drewN ?_ _)|(with_reducible refine Kd.C_drew ?_)));(case side2 => exact (Kd.R_reads' HO333.out).2.1);rintro e w' ⟨rfl,⟨nd,rfl⟩⟩;refine ⟨_,rfl,?_⟩)|((with_reducible refine gate_callee (f:=52) rfl ?_);refine goesL_ (some 16) rfl rfl Tryd.func52 (by kernel_rfl) rfl #[.string a0] rfl (by (try simp only [List.map_toArray,List.map_cons,List.map_nil]);first|done|rfl|(simp only [List.length_drop,List.length_take];rfl)) ?_;(with_reducible refine (impl_isHash.calls a0 true _ A10.out).mono ?_);rintro e w' ⟨rfl,⟨nd,rfl⟩⟩;refine ⟨_,rfl,?_⟩)|((with_reducible refine gate_callee (f:=64) rfl ?_);refine goesL_ (some 20) rfl rfl Tryd.func64 (by kernel_rfl) rfl #[.int .i64 a1] rfl (by (try simp only [List.map_toArray,List.map_cons,List.map_nil]);first|done|rfl|(simp only [List.length_drop,List.length_take];rfl)) ?_;(with_reducible refine (impl_isIndex.calls a1 true _ A12.out).mono ?_);rintro e w' ⟨rfl,⟨nd,rfl⟩⟩;refine ⟨_,rfl,?_⟩)|(go_at_call 63;(with_reducible refine (impl_within.calls a2 0 31 true _ A14.out).mono ?_);rintro e w' ⟨rfl,⟨nd,rfl⟩⟩)|(go_at_call 63;(with_reducible refine (impl_within.calls a3 0 1 false _ A16.out).mono ?_);rintro e w' ⟨rfl,⟨nd,rfl⟩⟩))
      go_ret2
      exact ⟨by first|rfl|(simp [errW_none,errW_some] <;> rfl)|(simp [*,errW_none,errW_some] <;> rfl),by repeat (first|(with_reducible first|exact HB.out|apply qa10|apply qb10|apply qc10)|exact HB.out)⟩
    ·
     replace c15:=Bool.eq_false_iff.mpr c15
     subst c15
     have H1 : (some ((⟨#[]⟩ : ByteArray),4)) = some (r1,r2):=by rw [if_neg (show ¬ (false = true) by decide)] at H;exact H
     clear H
     have H:=H1
     clear H1
     simp only [Option.some.injEq,Prod.mk.injEq] at H
     obtain ⟨rfl,rfl⟩:=H
     go_enter Tryd.func31,Tryd.ntmps31
     go_wp2_with (first|((with_reducible refine gate_dst (N:=12) rfl ?_);refine Kd.R_lit Kd.string _ 9 ?hg (N:=12) ?hd (xs:=([a0] : List ByteArray)) (inner:=[.string a0]) (ok:=fun _ => True) (okp:=fun _ => True) ?hr ?hp (fun _ hk => hk) trivial (Below.refl _ _) (Nat.le_refl _) (by simp) ?_;(case hd => rfl);(case hg => rfl);(case hr => first|(go_simp;done)|(go_simp;rfl));(case hp => exact (Reps.one (show Kd.M Kd.string _ _ _ a0 [.string a0] from rfl) (Reps.none _ _)));intro v332 w26 ho27 hb hg_ hnew_;clear hg_ hnew_;(first|rw [← Ny331.out] at ho27|(simp only [Int.reduceToNat] at ho27;rw [← Ny331.out] at ho27));have n0_:=qe10 (Kd.R_lower ho27 (below_size (by repeat (first|(with_reducible first|exact HB.out|apply qa10|apply qb10|apply qc10)|exact HB.out))));have n1_:=qe10 (below_step (by repeat (first|(with_reducible first|exact HB.out|apply qa10|apply qb10|apply qc10)|exact HB.out)) hb);clear HB;have HO333:=n0_;have HB:=n1_;clear n0_ n1_;clear hb ho27;obtain ⟨Ao28,co28,eo28⟩:=Kd.R_slice HO333.out;subst eo28)|((with_reducible refine gate_callee (f:=51) rfl ?_);refine goesL_ (some 13) rfl rfl Tryd.func51 (by kernel_rfl) rfl #[.slice Ao28 y331.length co28] rfl (by (try simp only [List.map_toArray,List.map_cons,List.map_nil]);first|done|rfl|(simp only [List.length_drop,List.length_take];rfl)) ?_;(with_reducible refine (impl_areLong.calls _ _ y331 false _ ?side1 ?side2 A5.out).mono ?_);(case side1 => repeat (first|exact (Kd.R_reads' HO333.out).2.2|(with_reducible refine Kd.C_alloc ?_ _)|(with_reducible refine Kd.C_drewN ?_ _)|(with_reducible refine Kd.C_drew ?_)));(case side2 => exact (Kd.R_reads' HO333.out).2.1);rintro e w' ⟨rfl,⟨nd,rfl⟩⟩;refine ⟨_,rfl,?_⟩)|((with_reducible refine gate_callee (f:=52) rfl ?_);refine goesL_ (some 16) rfl rfl Tryd.func52 (by kernel_rfl) rfl #[.string a0] rfl (by (try simp only [List.map_toArray,List.map_cons,List.map_nil]);first|done|rfl|(simp only [List.length_drop,List.length_take];rfl)) ?_;(with_reducible refine (impl_isHash.calls a0 true _ A10.out).mono ?_);rintro e w' ⟨rfl,⟨nd,rfl⟩⟩;refine ⟨_,rfl,?_⟩)|((with_reducible refine gate_callee (f:=64) rfl ?_);refine goesL_ (some 20) rfl rfl Tryd.func64 (by kernel_rfl) rfl #[.int .i64 a1] rfl (by (try simp only [List.map_toArray,List.map_cons,List.map_nil]);first|done|rfl|(simp only [List.length_drop,List.length_take];rfl)) ?_;(with_reducible refine (impl_isIndex.calls a1 true _ A12.out).mono ?_);rintro e w' ⟨rfl,⟨nd,rfl⟩⟩;refine ⟨_,rfl,?_⟩)|(go_at_call 63;(with_reducible refine (impl_within.calls a2 0 31 false _ A14.out).mono ?_);rintro e w' ⟨rfl,⟨nd,rfl⟩⟩))
     go_ret2
     exact ⟨by first|rfl|(simp [errW_none,errW_some] <;> rfl)|(simp [*,errW_none,errW_some] <;> rfl),by repeat (first|(with_reducible first|exact HB.out|apply qa10|apply qb10|apply qc10)|exact HB.out)⟩
   ·
    replace c13:=Bool.eq_false_iff.mpr c13
    subst c13
    have H1 : (some ((⟨#[]⟩ : ByteArray),4)) = some (r1,r2):=by rw [if_neg (show ¬ (false = true) by decide)] at H;exact H
    clear H
    have H:=H1
    clear H1
    simp only [Option.some.injEq,Prod.mk.injEq] at H
    obtain ⟨rfl,rfl⟩:=H
    go_enter Tryd.func31,Tryd.ntmps31
    go_wp2_with (first|((with_reducible refine gate_dst (N:=12) rfl ?_);refine Kd.R_lit Kd.string _ 9 ?hg (N:=12) ?hd (xs:=([a0] : List ByteArray)) (inner:=[.string a0]) (ok:=fun _ => True) (okp:=fun _ => True) ?hr ?hp (fun _ hk => hk) trivial (Below.refl _ _) (Nat.le_refl _) (by simp) ?_;(case hd => rfl);(case hg => rfl);(case hr => first|(go_simp;done)|(go_simp;rfl));(case hp => exact (Reps.one (show Kd.M Kd.string _ _ _ a0 [.string a0] from rfl) (Reps.none _ _)));intro v332 w29 ho30 hb hg_ hnew_;clear hg_ hnew_;(first|rw [← Ny331.out] at ho30|(simp only [Int.reduceToNat] at ho30;rw [← Ny331.out] at ho30));have n0_:=qe10 (Kd.R_lower ho30 (below_size (by repeat (first|(with_reducible first|exact HB.out|apply qa10|apply qb10|apply qc10)|exact HB.out))));have n1_:=qe10 (below_step (by repeat (first|(with_reducible first|exact HB.out|apply qa10|apply qb10|apply qc10)|exact HB.out)) hb);clear HB;have HO333:=n0_;have HB:=n1_;clear n0_ n1_;clear hb ho30;obtain ⟨Ao31,co31,eo31⟩:=Kd.R_slice HO333.out;subst eo31)|((with_reducible refine gate_callee (f:=51) rfl ?_);refine goesL_ (some 13) rfl rfl Tryd.func51 (by kernel_rfl) rfl #[.slice Ao31 y331.length co31] rfl (by (try simp only [List.map_toArray,List.map_cons,List.map_nil]);first|done|rfl|(simp only [List.length_drop,List.length_take];rfl)) ?_;(with_reducible refine (impl_areLong.calls _ _ y331 false _ ?side1 ?side2 A5.out).mono ?_);(case side1 => repeat (first|exact (Kd.R_reads' HO333.out).2.2|(with_reducible refine Kd.C_alloc ?_ _)|(with_reducible refine Kd.C_drewN ?_ _)|(with_reducible refine Kd.C_drew ?_)));(case side2 => exact (Kd.R_reads' HO333.out).2.1);rintro e w' ⟨rfl,⟨nd,rfl⟩⟩;refine ⟨_,rfl,?_⟩)|((with_reducible refine gate_callee (f:=52) rfl ?_);refine goesL_ (some 16) rfl rfl Tryd.func52 (by kernel_rfl) rfl #[.string a0] rfl (by (try simp only [List.map_toArray,List.map_cons,List.map_nil]);first|done|rfl|(simp only [List.length_drop,List.length_take];rfl)) ?_;(with_reducible refine (impl_isHash.calls a0 true _ A10.out).mono ?_);rintro e w' ⟨rfl,⟨nd,rfl⟩⟩;refine ⟨_,rfl,?_⟩)|((with_reducible refine gate_callee (f:=64) rfl ?_);refine goesL_ (some 20) rfl rfl Tryd.func64 (by kernel_rfl) rfl #[.int .i64 a1] rfl (by (try simp only [List.map_toArray,List.map_cons,List.map_nil]);first|done|rfl|(simp only [List.length_drop,List.length_take];rfl)) ?_;(with_reducible refine (impl_isIndex.calls a1 false _ A12.out).mono ?_);rintro e w' ⟨rfl,⟨nd,rfl⟩⟩;refine ⟨_,rfl,?_⟩))
    go_ret2
    exact ⟨by first|rfl|(simp [errW_none,errW_some] <;> rfl)|(simp [*,errW_none,errW_some] <;> rfl),by repeat (first|(with_reducible first|exact HB.out|apply qa10|apply qb10|apply qc10)|exact HB.out)⟩
  ·
   replace c11:=Bool.eq_false_iff.mpr c11
   subst c11
   have H1 : (some ((⟨#[]⟩ : ByteArray),1)) = some (r1,r2):=by rw [if_neg (show ¬ (false = true) by decide)] at H;exact H
   clear H
   have H:=H1
   clear H1
   simp only [Option.some.injEq,Prod.mk.injEq] at H
   obtain ⟨rfl,rfl⟩:=H
   go_enter Tryd.func31,Tryd.ntmps31
   go_wp2_with (first|((with_reducible refine gate_dst (N:=12) rfl ?_);refine Kd.R_lit Kd.string _ 9 ?hg (N:=12) ?hd (xs:=([a0] : List ByteArray)) (inner:=[.string a0]) (ok:=fun _ => True) (okp:=fun _ => True) ?hr ?hp (fun _ hk => hk) trivial (Below.refl _ _) (Nat.le_refl _) (by simp) ?_;(case hd => rfl);(case hg => rfl);(case hr => first|(go_simp;done)|(go_simp;rfl));(case hp => exact (Reps.one (show Kd.M Kd.string _ _ _ a0 [.string a0] from rfl) (Reps.none _ _)));intro v332 w32 ho33 hb hg_ hnew_;clear hg_ hnew_;(first|rw [← Ny331.out] at ho33|(simp only [Int.reduceToNat] at ho33;rw [← Ny331.out] at ho33));have n0_:=qe10 (Kd.R_lower ho33 (below_size (by repeat (first|(with_reducible first|exact HB.out|apply qa10|apply qb10|apply qc10)|exact HB.out))));have n1_:=qe10 (below_step (by repeat (first|(with_reducible first|exact HB.out|apply qa10|apply qb10|apply qc10)|exact HB.out)) hb);clear HB;have HO333:=n0_;have HB:=n1_;clear n0_ n1_;clear hb ho33;obtain ⟨Ao34,co34,eo34⟩:=Kd.R_slice HO333.out;subst eo34)|((with_reducible refine gate_callee (f:=51) rfl ?_);refine goesL_ (some 13) rfl rfl Tryd.func51 (by kernel_rfl) rfl #[.slice Ao34 y331.length co34] rfl (by (try simp only [List.map_toArray,List.map_cons,List.map_nil]);first|done|rfl|(simp only [List.length_drop,List.length_take];rfl)) ?_;(with_reducible refine (impl_areLong.calls _ _ y331 false _ ?side1 ?side2 A5.out).mono ?_);(case side1 => repeat (first|exact (Kd.R_reads' HO333.out).2.2|(with_reducible refine Kd.C_alloc ?_ _)|(with_reducible refine Kd.C_drewN ?_ _)|(with_reducible refine Kd.C_drew ?_)));(case side2 => exact (Kd.R_reads' HO333.out).2.1);rintro e w' ⟨rfl,⟨nd,rfl⟩⟩;refine ⟨_,rfl,?_⟩)|((with_reducible refine gate_callee (f:=52) rfl ?_);refine goesL_ (some 16) rfl rfl Tryd.func52 (by kernel_rfl) rfl #[.string a0] rfl (by (try simp only [List.map_toArray,List.map_cons,List.map_nil]);first|done|rfl|(simp only [List.length_drop,List.length_take];rfl)) ?_;(with_reducible refine (impl_isHash.calls a0 false _ A10.out).mono ?_);rintro e w' ⟨rfl,⟨nd,rfl⟩⟩;refine ⟨_,rfl,?_⟩))
   go_ret2
   exact ⟨by first|rfl|(simp [errW_none,errW_some] <;> rfl)|(simp [*,errW_none,errW_some] <;> rfl),by repeat (first|(with_reducible first|exact HB.out|apply qa10|apply qb10|apply qc10)|exact HB.out)⟩

/-! ### spec_l03Hashes: function 75 -/
def spec_l03Hashes.l0 : Nat → List ByteArray → Int → Int → Option (Bool)
 | 0,_,_,_ => none
 | k + 1,x0,x1,x5 => if x5 < x1 then (if 0 ≤ x5 then (if x5 < (x0.length : Int) then (if ((rdOf ByteArray.empty x0 x5).size : Int) = 32 then (spec_l03Hashes.l0 k x0 x1 (wrap64 (x5 + 1))) else (some false)) else (none)) else (none)) else (some true)
def spec_l03Hashes.f (k : Nat) (l0 : List ByteArray) (a1 : Int) : Option (Bool):=if (l0.length : Int) = a1 then (spec_l03Hashes.l0 k l0 a1 0) else (some false)
theorem spec_l03Hashes.mono_l : ∀ k,(∀ y0 y1 y2,LeO (spec_l03Hashes.l0 k y0 y1 y2) (spec_l03Hashes.l0 (k + 1) y0 y1 y2))
 | 0 => fun _ _ _ r h => by simp [spec_l03Hashes.l0] at h
 | k + 1 => by
  have ih0:=spec_l03Hashes.mono_l k
  ·
   intro y0 y1 y2
   unfold spec_l03Hashes.l0
   repeat' first
   | (with_reducible exact ih0 _ _ _)
   | (with_reducible exact LeO.refl _)
   | (with_reducible exact LeO.none _)
   | (with_reducible refine LeO.ite ?_ ?_)
   | (with_reducible refine LeO.bind ?_ (fun _ => ?_))
   | exact ih0 _ _ _
   | exact LeO.none _
   | refine LeO.ite ?_ ?_
   | refine LeO.bind ?_ (fun _ => ?_)
theorem spec_l03Hashes.mono : ∀ a0 a1 k,LeO (spec_l03Hashes.f k a0 a1) (spec_l03Hashes.f (k + 1) a0 a1):=by
 intro a0 a1 k
 have ih0:=spec_l03Hashes.mono_l k
 unfold spec_l03Hashes.f
 repeat' first
   | (with_reducible exact ih0 _ _ _)
   | (with_reducible exact LeO.refl _)
   | (with_reducible exact LeO.none _)
   | (with_reducible refine LeO.ite ?_ ?_)
   | (with_reducible refine LeO.bind ?_ (fun _ => ?_))
   | exact ih0 _ _ _
   | exact LeO.none _
   | refine LeO.ite ?_ ?_
   | refine LeO.bind ?_ (fun _ => ?_)
set_option maxHeartbeats 8000000 in
set_option maxRecDepth 100000 in
theorem spec_l03Hashes.calls (k : Nat) (A0 : Option Addr) (c0 : Nat) (l0 : List ByteArray) (a1 : Int) (r : Bool) (w : World) (hr0 : Kd.C Kd.string w A0 l0.length l0) (hc0 : l0.length ≤ c0) (h : spec_l03Hashes.f k l0 a1 = some r) :
  Calls Tryd.prog 75 #[.slice A0 l0.length c0,.int .i64 a1] w fun e w' => e = .returned (.bool r) ∧ Drawn0 w w':=by
 have HR0:=qe10 hr0
 have HC0:=qe10 hc0
 clear hr0 hc0
 have H : (if (l0.length : Int) = a1 then (spec_l03Hashes.l0 k l0 a1 0) else (some false)) = some r:=h
 clear h
 by_cases c3 : (l0.length : Int) = a1
 ·
  rw [if_pos c3] at H
  have c3b0 : ((l0.length : Int) == a1) = true:=beq_iff_eq.mpr c3
  have c3b1 : ((l0.length : Int) != a1) = false:=bne_eq_false_iff_eq.mpr c3
  clear c3
  have H':=qe10 H
  clear H
  go_enter Tryd.func75,Tryd.ntmps75
  go_wp2
  go_loopg [5] k (fun kq v5 w' => ∃ (x5_1 : Int),v5 = .int .i64 x5_1 ∧ Aside0 (spec_l03Hashes.l0 kq l0 a1 x5_1 = some r) ∧ Aside0 (kq ≤ k) ∧ Drawn0 w w')
  case atStart => exact ⟨(0),(by first|rfl|(simp;done)|(simp [*];done)),H',⟨Nat.le_refl _⟩,by repeat (first|exact Drawn0.refl _|apply Drawn0.step)⟩
  case round =>
   clear H'
   try clear p2
   try clear c3
   try clear c3b0
   try clear c3b1
   obtain ⟨x5_1,rfl,HA,HK1,⟨m1,rfl⟩⟩:=hrel
   cases gk with
   | zero => exact absurd HA.out (by simp [spec_l03Hashes.l0])
   | succ k1 =>
    have H:=HA.out
    clear HA
    simp only [spec_l03Hashes.l0] at H
    by_cases c4 : x5_1 < a1
    ·
     rw [if_pos c4] at H
     have c4b0 : decide (x5_1 < a1) = true:=decide_eq_true c4
     clear c4
     by_cases c5 : 0 ≤ x5_1
     ·
      rw [if_pos c5] at H
      have c5b0 : decide (0 ≤ x5_1) = true:=decide_eq_true c5
      clear c5
      by_cases c6 : x5_1 < (l0.length : Int)
      ·
       rw [if_pos c6] at H
       have c6b0 : decide (x5_1 < (l0.length : Int)) = true:=decide_eq_true c6
       clear c6
       by_cases c7 : ((rdOf ByteArray.empty l0 x5_1).size : Int) = 32
       ·
        rw [if_pos c7] at H
        have c7b0 : (((rdOf ByteArray.empty l0 x5_1).size : Int) == 32) = true:=beq_iff_eq.mpr c7
        have c7b1 : (((rdOf ByteArray.empty l0 x5_1).size : Int) != 32) = false:=bne_eq_false_iff_eq.mpr c7
        clear c7
        have H':=qe10 H
        clear H
        have p340 : 0 ≤ (x5_1 : Int):=of_decide_eq_true (by first|(with_reducible assumption)|assumption)
        have q340 : x5_1 < (l0.length : Int):=of_decide_eq_true (by first|(with_reducible assumption)|assumption)
        obtain ⟨ad340,e340,hx340_0⟩:=Kd.at_string HR0.out x5_1 p340 q340
        cases e340
        replace p340:=eq_true p340
        replace q340:=eq_true q340
        go_wp2
        go_roundg k1
        case measure => have:=HK1.out;omega
        case rel => exact ⟨(wrap64 (x5_1 + 1)),(by first|rfl|(simp;done)|(simp [*];done)),H',⟨by have:=HK1.out;omega⟩,by repeat (first|exact Drawn0.refl _|apply Drawn0.step)⟩
       ·
        rw [if_neg c7] at H
        have c7b0 : (((rdOf ByteArray.empty l0 x5_1).size : Int) == 32) = false:=beq_eq_false_iff_ne.mpr c7
        have c7b1 : (((rdOf ByteArray.empty l0 x5_1).size : Int) != 32) = true:=bne_iff_ne.mpr c7
        obtain rfl:=Option.some.inj H
        have p340 : 0 ≤ (x5_1 : Int):=of_decide_eq_true (by first|(with_reducible assumption)|assumption)
        have q340 : x5_1 < (l0.length : Int):=of_decide_eq_true (by first|(with_reducible assumption)|assumption)
        obtain ⟨ad340,e340,hx340_0⟩:=Kd.at_string HR0.out x5_1 p340 q340
        cases e340
        replace p340:=eq_true p340
        replace q340:=eq_true q340
        go_wp2
        go_ret
        exact ⟨by first|rfl|(simp;done)|(simp [*];done),by repeat (first|exact Drawn0.refl _|apply Drawn0.step)⟩
      ·
       rw [if_neg c6] at H
       exact absurd H (by simp)
     ·
      rw [if_neg c5] at H
      exact absurd H (by simp)
    ·
     rw [if_neg c4] at H
     have c4b0 : decide (x5_1 < a1) = false:=decide_eq_false c4
     clear c4
     obtain rfl:=Option.some.inj H
     go_wp2
     go_ret
     exact ⟨by first|rfl|(simp;done)|(simp [*];done),by repeat (first|exact Drawn0.refl _|apply Drawn0.step)⟩
 ·
  rw [if_neg c3] at H
  have c3b0 : ((l0.length : Int) == a1) = false:=beq_eq_false_iff_ne.mpr c3
  have c3b1 : ((l0.length : Int) != a1) = true:=bne_iff_ne.mpr c3
  obtain rfl:=Option.some.inj H
  go_enter Tryd.func75,Tryd.ntmps75
  go_wp2
  go_ret
  exact ⟨by first|rfl|(simp;done)|(simp [*];done),by repeat (first|exact Drawn0.refl _|apply Drawn0.step)⟩

end Go.Proofs.YtmkaknegjahjaaaDoor.PFnLamport
