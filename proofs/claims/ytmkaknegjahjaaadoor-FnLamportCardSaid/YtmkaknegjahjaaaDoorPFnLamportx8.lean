-- laid by this session's program myprint.py over the kit's printer
-- squeezed
-- aliased
import Derived.Test.YtmkaknegjahjaaaDoorPFnLamportx0
import Derived.Test.YtmkaknegjahjaaaDoorPFnLamportx4
import Derived.Test.YtmkaknegjahjaaaDoorPFnLamportx7
namespace Go.Proofs.YtmkaknegjahjaaaDoor.PFnLamport
open Go.RowKit Go.Proofs.YtmkaknegjahjaaaDoorV.PrintWords Go.Proofs.YtmkaknegjahjaaaDoorV.PrintLast Go.Proofs.YtmkaknegjahjaaaDoorV.PrintMore
attribute [local go_sem] max2_int min2_int max_two min_two max_three min_three max_four min_four u8_wm u32_wm   -- for this text's walks alone
set_option linter.unusedVariables false
set_option linter.unusedSimpArgs false

/-! ### impl_within: function 63 -/
theorem qa8 : type_of% @blk_drewN:=@blk_drewN
theorem qb8 : type_of% @blk_alloc:=@blk_alloc
theorem qc8 : type_of% @below_alloc:=@below_alloc
theorem qd8 : type_of% @pw_below_drewN:=@pw_below_drewN
theorem qe8 : type_of% @below_drew1:=@below_drew1
theorem qf8 : type_of% @Aside0.mk:=@Aside0.mk
def impl_within.f (a0 : Int) (a1 : Int) (a2 : Int) : Option (Bool):=if a0 ≥ a1 then (some (decide (a0 ≤ a2))) else (some false)
set_option maxHeartbeats 8000000 in
set_option maxRecDepth 100000 in
theorem impl_within.calls (a0 : Int) (a1 : Int) (a2 : Int) (r : Bool) (w : World) (h : impl_within.f a0 a1 a2 = some r) :
  Calls Tryd.prog 63 #[.int .i64 a0,.int .i64 a1,.int .i64 a2] w fun e w' => e = .returned (.bool r) ∧ Drawn0 w w':=by
 have H : (if a0 ≥ a1 then (some (decide (a0 ≤ a2))) else (some false)) = some r:=h
 clear h
 by_cases c4 : a0 ≥ a1
 ·
  rw [if_pos c4] at H
  have c4b0 : decide (a1 ≤ a0) = true:=decide_eq_true c4
  clear c4
  obtain rfl:=Option.some.inj H
  go_enter Tryd.func63,Tryd.ntmps63
  go_wp2
  go_ret
  exact ⟨by first|rfl|(simp;done)|(simp [*];done),by repeat (first|exact Drawn0.refl _|apply Drawn0.step)⟩
 ·
  rw [if_neg c4] at H
  have c4b0 : decide (a1 ≤ a0) = false:=decide_eq_false c4
  clear c4
  obtain rfl:=Option.some.inj H
  go_enter Tryd.func63,Tryd.ntmps63
  go_wp2
  go_ret
  exact ⟨by first|rfl|(simp;done)|(simp [*];done),by repeat (first|exact Drawn0.refl _|apply Drawn0.step)⟩

/-! ### impl_isIndex: function 64 -/
def impl_isIndex.f (a0 : Int) : Option (Bool):=(impl_within.f a0 0 7).bind fun t285 => (some t285)
set_option maxHeartbeats 8000000 in
set_option maxRecDepth 100000 in
theorem impl_isIndex.calls (a0 : Int) (r : Bool) (w : World) (h : impl_isIndex.f a0 = some r) :
  Calls Tryd.prog 64 #[.int .i64 a0] w fun e w' => e = .returned (.bool r) ∧ Drawn0 w w':=by
 have H : ((impl_within.f a0 0 7).bind fun t285 => (some t285)) = some r:=h
 clear h
 replace H:=Option.bind_eq_some_iff.mp H
 obtain ⟨t285,A20,H⟩:=H
 replace H : (some t285) = some r:=H
 have A2:=qf8 A20
 clear A20
 obtain rfl:=Option.some.inj H
 go_enter Tryd.func64,Tryd.ntmps64
 go_wp2_with (first|((with_reducible refine gate_callee (f:=63) rfl ?_);refine goesL_ (some 4) rfl rfl Tryd.func63 (by kernel_rfl) rfl #[.int .i64 a0,.int .i64 0,.int .i64 7] rfl (by (try simp only [List.map_toArray,List.map_cons,List.map_nil]);first|done|rfl|(simp only [List.length_drop,List.length_take];rfl)) ?_;(with_reducible refine (impl_within.calls a0 0 7 t285 _ A2.out).mono ?_);rintro e w' ⟨rfl,⟨nd,rfl⟩⟩;refine ⟨_,rfl,?_⟩))
 go_ret
 exact ⟨by first|rfl|(simp;done)|(simp [*];done),by repeat (first|exact Drawn0.refl _|apply Drawn0.step)⟩

/-! ### impl_SignAt: function 28 -/
def impl_SignAt.j0 : Nat → ByteArray → Int → ByteArray → Bool → Option (Int × List ByteArray × List ByteArray × List ByteArray × Int)
 | 0,_,_,_,_ => none
 | k + 1,x0,x1,x2,x8 => if x8 = true then (some (0,([] : List ByteArray),([] : List ByteArray),([] : List ByteArray),2)) else ((impl_isHash.f x0).bind fun t291 => (if t291 = true then ((impl_isIndex.f x1).bind fun t292 => (if t292 = true then ((impl_signAt.f k x0 x1 x2).bind fun bt293 => (some (bt293.1,bt293.2.1,bt293.2.2.1,bt293.2.2.2,0))) else (some (0,([] : List ByteArray),([] : List ByteArray),([] : List ByteArray),4)))) else (some (0,([] : List ByteArray),([] : List ByteArray),([] : List ByteArray),1))))
def impl_SignAt.f (k : Nat) (a0 : ByteArray) (a1 : Int) (a2 : ByteArray) : Option (Int × List ByteArray × List ByteArray × List ByteArray × Int):=(impl_areLong.f (([a0] : List ByteArray))).bind fun t290 => (if t290 = true then (impl_SignAt.j0 k a0 a1 a2 true) else (impl_SignAt.j0 k a0 a1 a2 (decide ((a2.size : Int) > 65530))))
theorem impl_SignAt.mono_l : ∀ k,(∀ y0 y1 y2 y3,LeO (impl_SignAt.j0 k y0 y1 y2 y3) (impl_SignAt.j0 (k + 1) y0 y1 y2 y3))
 | 0 => fun _ _ _ _ r h => by simp [impl_SignAt.j0] at h
 | k + 1 => by
  have ih0:=impl_SignAt.mono_l k
  ·
   intro y0 y1 y2 y3
   unfold impl_SignAt.j0
   repeat' first
   | (with_reducible exact ih0 _ _ _ _)
   | (with_reducible exact impl_signAt.mono _ _ _ _)
   | (with_reducible exact LeO.refl _)
   | (with_reducible exact LeO.none _)
   | (with_reducible refine LeO.ite ?_ ?_)
   | (with_reducible refine LeO.bind ?_ (fun _ => ?_))
   | exact ih0 _ _ _ _
   | exact impl_signAt.mono _ _ _ _
   | exact LeO.none _
   | refine LeO.ite ?_ ?_
   | refine LeO.bind ?_ (fun _ => ?_)
theorem impl_SignAt.mono : ∀ a0 a1 a2 k,LeO (impl_SignAt.f k a0 a1 a2) (impl_SignAt.f (k + 1) a0 a1 a2):=by
 intro a0 a1 a2 k
 have ih0:=impl_SignAt.mono_l k
 unfold impl_SignAt.f
 repeat' first
   | (with_reducible exact ih0 _ _ _ _)
   | (with_reducible exact impl_signAt.mono _ _ _ _)
   | (with_reducible exact LeO.refl _)
   | (with_reducible exact LeO.none _)
   | (with_reducible refine LeO.ite ?_ ?_)
   | (with_reducible refine LeO.bind ?_ (fun _ => ?_))
   | exact ih0 _ _ _ _
   | exact impl_signAt.mono _ _ _ _
   | exact LeO.none _
   | refine LeO.ite ?_ ?_
   | refine LeO.bind ?_ (fun _ => ?_)
set_option maxHeartbeats 8000000 in
set_option maxRecDepth 100000 in
theorem impl_SignAt.calls (k : Nat) (a0 : ByteArray) (a1 : Int) (a2 : ByteArray) (r1 : Int) (r2 : List ByteArray) (r3 : List ByteArray) (r4 : List ByteArray) (r5 : Int) (w : World) (hG_ : Go.Proofs.YtmkaknegjahjaaaDoor.Sha.GlobA w) (h : impl_SignAt.f k a0 a1 a2 = some (r1,r2,r3,r4,r5)) :
  Calls Tryd.prog 28 #[.string a0,.int .i64 a1,.string a2] w fun e w' => ∃ v1_ v2_ v3_ : Value,e = .returned (.tuple #[.agg #[.int .i64 r1,v1_,v2_,v3_],.int .i64 r5]) ∧ Kd.R Kd.string 9 w' w.heap.size (fun k_ => some k_ ≠ (v2_ : Value).ownBlock ∧ some k_ ≠ (v3_ : Value).ownBlock) v1_ r2 ∧ Kd.R Kd.string 9 w' w.heap.size (fun k_ => some k_ ≠ (v1_ : Value).ownBlock ∧ some k_ ≠ (v3_ : Value).ownBlock) v2_ r3 ∧ Kd.R Kd.string 9 w' w.heap.size (fun k_ => some k_ ≠ (v1_ : Value).ownBlock ∧ some k_ ≠ (v2_ : Value).ownBlock) v3_ r4 ∧ Below w.heap.size w w':=by
 have hu33:=Tryd.underlying33
 have HB:=qf8 (Below.refl w.heap.size w)
 have H : ((impl_areLong.f (([a0] : List ByteArray))).bind fun t290 => (if t290 = true then (impl_SignAt.j0 k a0 a1 a2 true) else (impl_SignAt.j0 k a0 a1 a2 (decide ((a2.size : Int) > 65530))))) = some (r1,r2,r3,r4,r5):=h
 clear h
 have HC4:=qf8 H
 clear H
 go_enter Tryd.func28,Tryd.ntmps28
 go_upto_region 1 with (first|((with_reducible refine gate_dst (N:=6) rfl ?_);refine box_event ?hg (N:=6) ?hd (cs:=#[.int .i64 0,.slice none 0 0,.slice none 0 0,.slice none 0 0]) (t:=33) ?hr ?_;(case hd => rfl);(case hg => rfl);(case hr => first|(go_simp;done)|(go_simp;rfl));intro gb286 hg w5 hbox hb;have n0_:=qf8 (below_step (by repeat (first|(with_reducible first|exact HB.out|apply qc8|apply qd8|apply qe8)|exact HB.out)) hb);have n1_:=qf8 (hbox);have n2_:=qf8 ((by rw [hg];exact (below_size (by repeat (first|(with_reducible first|exact HB.out|apply qc8|apply qd8|apply qe8)|exact HB.out))) : w.heap.size ≤ gb286));have n3_:=qf8 ((by rw [hg];exact (below_size (by repeat (first|(with_reducible first|exact HB.out|apply qc8|apply qd8|apply qe8)|exact HB.out))) : w.heap.size ≤ gb286));clear HB;have HB:=n0_;have BK286:=n1_;have GW286:=n2_;have GE286:=n3_;clear n0_ n1_ n2_ n3_;clear hb hbox hg))
 (try simp only [Act.put,List.setIfInBounds_toArray,List.set_cons_zero,List.set_cons_succ])
 go_cut [8] (fun v8 wc => ∃ (kq : Nat) (x8_3 : Bool),v8 = .bool x8_3 ∧ Aside0 (impl_SignAt.j0 kq a0 a1 a2 x8_3 = some (r1,r2,r3,r4,r5)) ∧ Aside0 (kq ≤ k) ∧ Aside0 (wc.heap[gb286]? = some (.cells #[.int .i64 0,(.slice none 0 0),(.slice none 0 0),(.slice none 0 0)] 33 (0,0))) ∧ Aside0 (Below w.heap.size w wc))
 case first =>
  have H:=HC4.out
  clear HC4
  obtain ⟨y287,hy287⟩ : ∃ y_ : List ByteArray,y_ = (([a0] : List ByteArray)):=⟨_,rfl⟩
  replace H : ((impl_areLong.f y287).bind fun t290 => (if t290 = true then (impl_SignAt.j0 k a0 a1 a2 true) else (impl_SignAt.j0 k a0 a1 a2 (decide ((a2.size : Int) > 65530))))) = some (r1,r2,r3,r4,r5):=by first|(rw [hy287];with_reducible exact H)|(have H2_:=(Option.bind_some _ _).symm.trans H;rw [hy287];with_reducible exact H2_)|(have H2_:=(Option.bind_some _ _).symm.trans H;with_reducible exact H2_)|with_reducible exact H|(rw [hy287];exact H)|exact H
  have Ny287:=qf8 hy287
  clear hy287
  replace H:=Option.bind_eq_some_iff.mp H
  obtain ⟨t290,A60,H⟩:=H
  replace H : (if t290 = true then (impl_SignAt.j0 k a0 a1 a2 true) else (impl_SignAt.j0 k a0 a1 a2 (decide ((a2.size : Int) > 65530)))) = some (r1,r2,r3,r4,r5):=H
  have A6:=qf8 A60
  clear A60
  by_cases c7 : t290 = true
  ·
   subst c7
   have H1 : (impl_SignAt.j0 k a0 a1 a2 true) = some (r1,r2,r3,r4,r5):=by rw [if_pos rfl] at H;exact H
   clear H
   have H:=H1
   clear H1
   have H':=qf8 H
   clear H
   go_wp2_with (first|((with_reducible refine gate_dst (N:=10) rfl ?_);refine Kd.R_lit Kd.string _ 9 ?hg (N:=10) ?hd (xs:=([a0] : List ByteArray)) (inner:=[.string a0]) (ok:=fun _ => True) (okp:=fun _ => True) ?hr ?hp (fun _ hk => hk) trivial (Below.refl _ _) (Nat.le_refl _) (by simp) ?_;(case hd => rfl);(case hg => rfl);(case hr => first|(go_simp;done)|(go_simp;rfl));(case hp => exact (Reps.one (show Kd.M Kd.string _ _ _ a0 [.string a0] from rfl) (Reps.none _ _)));intro v288 w8 ho9 hb hg_ hnew_;clear hg_ hnew_;(first|rw [← Ny287.out] at ho9|(simp only [Int.reduceToNat] at ho9;rw [← Ny287.out] at ho9));have n0_:=qf8 (Kd.R_lower ho9 (below_size (by repeat (first|(with_reducible first|exact HB.out|apply qc8|apply qd8|apply qe8|refine below_set ?_ GE286.out)|exact HB.out))));have n1_:=qf8 (blk_below (g:=gb286) (o:=.cells #[.int .i64 0,.slice none 0 0,.slice none 0 0,.slice none 0 0] 33 (0,0)) (by (with_reducible repeat (first|apply qa8|apply blk_drew|apply qb8));exact BK286.out) hb);have n2_:=qf8 (below_step (by repeat (first|(with_reducible first|exact HB.out|apply qc8|apply qd8|apply qe8|refine below_set ?_ GE286.out)|exact HB.out)) hb);clear BK286;clear HB;have HO289:=n0_;have BK286:=n1_;have HB:=n2_;clear n0_ n1_ n2_;clear hb ho9;obtain ⟨Ao10,co10,eo10⟩:=Kd.R_slice HO289.out;subst eo10)|((with_reducible refine gate_callee (f:=51) rfl ?_);refine goesL_ (some 11) rfl rfl Tryd.func51 (by kernel_rfl) rfl #[.slice Ao10 y287.length co10] rfl (by (try simp only [List.map_toArray,List.map_cons,List.map_nil]);first|done|rfl|(simp only [List.length_drop,List.length_take];rfl)) ?_;(with_reducible refine (impl_areLong.calls _ _ y287 true _ ?side1 ?side2 A6.out).mono ?_);(case side1 => repeat (first|exact (Kd.R_reads' HO289.out).2.2|(with_reducible refine Kd.C_alloc ?_ _)|(with_reducible refine Kd.C_drewN ?_ _)|(with_reducible refine Kd.C_drew ?_)));(case side2 => exact (Kd.R_reads' HO289.out).2.1);rintro e w' ⟨rfl,⟨nd,rfl⟩⟩;refine ⟨_,rfl,?_⟩))
   go_meet
   case rel => exact ⟨_,(true),(by first|rfl|(simp;done)|(simp [*];done)),H',⟨by first|omega|exact Nat.le_refl _⟩,⟨by (with_reducible repeat (first|apply qa8|apply blk_drew|apply qb8));exact BK286.out⟩,⟨by repeat (first|(with_reducible first|exact HB.out|apply qc8|apply qd8|apply qe8|refine below_set ?_ GE286.out)|exact HB.out)⟩⟩
  ·
   replace c7:=Bool.eq_false_iff.mpr c7
   subst c7
   have H1 : (impl_SignAt.j0 k a0 a1 a2 (decide ((a2.size : Int) > 65530))) = some (r1,r2,r3,r4,r5):=by rw [if_neg (show ¬ (false = true) by decide)] at H;exact H
   clear H
   have H:=H1
   clear H1
   have H':=qf8 H
   clear H
   go_wp2_with (first|((with_reducible refine gate_dst (N:=10) rfl ?_);refine Kd.R_lit Kd.string _ 9 ?hg (N:=10) ?hd (xs:=([a0] : List ByteArray)) (inner:=[.string a0]) (ok:=fun _ => True) (okp:=fun _ => True) ?hr ?hp (fun _ hk => hk) trivial (Below.refl _ _) (Nat.le_refl _) (by simp) ?_;(case hd => rfl);(case hg => rfl);(case hr => first|(go_simp;done)|(go_simp;rfl));(case hp => exact (Reps.one (show Kd.M Kd.string _ _ _ a0 [.string a0] from rfl) (Reps.none _ _)));intro v288 w11 ho12 hb hg_ hnew_;clear hg_ hnew_;(first|rw [← Ny287.out] at ho12|(simp only [Int.reduceToNat] at ho12;rw [← Ny287.out] at ho12));have n0_:=qf8 (Kd.R_lower ho12 (below_size (by repeat (first|(with_reducible first|exact HB.out|apply qc8|apply qd8|apply qe8|refine below_set ?_ GE286.out)|exact HB.out))));have n1_:=qf8 (blk_below (g:=gb286) (o:=.cells #[.int .i64 0,.slice none 0 0,.slice none 0 0,.slice none 0 0] 33 (0,0)) (by (with_reducible repeat (first|apply qa8|apply blk_drew|apply qb8));exact BK286.out) hb);have n2_:=qf8 (below_step (by repeat (first|(with_reducible first|exact HB.out|apply qc8|apply qd8|apply qe8|refine below_set ?_ GE286.out)|exact HB.out)) hb);clear BK286;clear HB;have HO289:=n0_;have BK286:=n1_;have HB:=n2_;clear n0_ n1_ n2_;clear hb ho12;obtain ⟨Ao13,co13,eo13⟩:=Kd.R_slice HO289.out;subst eo13)|((with_reducible refine gate_callee (f:=51) rfl ?_);refine goesL_ (some 11) rfl rfl Tryd.func51 (by kernel_rfl) rfl #[.slice Ao13 y287.length co13] rfl (by (try simp only [List.map_toArray,List.map_cons,List.map_nil]);first|done|rfl|(simp only [List.length_drop,List.length_take];rfl)) ?_;(with_reducible refine (impl_areLong.calls _ _ y287 false _ ?side1 ?side2 A6.out).mono ?_);(case side1 => repeat (first|exact (Kd.R_reads' HO289.out).2.2|(with_reducible refine Kd.C_alloc ?_ _)|(with_reducible refine Kd.C_drewN ?_ _)|(with_reducible refine Kd.C_drew ?_)));(case side2 => exact (Kd.R_reads' HO289.out).2.1);rintro e w' ⟨rfl,⟨nd,rfl⟩⟩;refine ⟨_,rfl,?_⟩))
   go_meet
   case rel => exact ⟨_,(decide ((a2.size : Int) > 65530)),(by first|rfl|(simp;done)|(simp [*];done)),H',⟨by first|omega|exact Nat.le_refl _⟩,⟨by (with_reducible repeat (first|apply qa8|apply blk_drew|apply qb8));exact BK286.out⟩,⟨by repeat (first|(with_reducible first|exact HB.out|apply qc8|apply qd8|apply qe8|refine below_set ?_ GE286.out)|exact HB.out)⟩⟩
 case rest =>
  clear HC4
  try clear c2
  try clear p2
  try clear c5
  try clear c7
  obtain ⟨kq,x8_3,rfl,HA,HJ3,BK286,HB⟩:=hcut
  cases kq with
  | zero => exact absurd HA.out (by simp [impl_SignAt.j0])
  | succ kj3 =>
   have H:=HA.out
   clear HA
   simp only [impl_SignAt.j0] at H
   by_cases c14 : x8_3 = true
   ·
    subst c14
    have H1 : (some (0,([] : List ByteArray),([] : List ByteArray),([] : List ByteArray),2)) = some (r1,r2,r3,r4,r5):=by rw [if_pos rfl] at H;exact H
    clear H
    have H:=H1
    clear H1
    simp only [Option.some.injEq,Prod.mk.injEq] at H
    obtain ⟨rfl,rfl,rfl,rfl,rfl⟩:=H
    have hcz15_0 : wc.cell? ⟨gb286,0,none⟩ = some (.int .i64 0):=(blk_cell BK286.out 0).trans rfl
    have hcz15_1 : wc.cell? ⟨gb286,1,none⟩ = some (.slice none 0 0):=(blk_cell BK286.out 1).trans rfl
    have hcz15_2 : wc.cell? ⟨gb286,2,none⟩ = some (.slice none 0 0):=(blk_cell BK286.out 2).trans rfl
    have hcz15_3 : wc.cell? ⟨gb286,3,none⟩ = some (.slice none 0 0):=(blk_cell BK286.out 3).trans rfl
    have hfz15_0:=blk_frozen BK286.out 0
    have hfz15_1:=blk_frozen BK286.out 1
    have hfz15_2:=blk_frozen BK286.out 2
    have hfz15_3:=blk_frozen BK286.out 3
    go_wp2
    refine bodyPost_ret (results_ct rfl _ _ gb286 33 #[.int .i64 0,.slice none 0 0,.slice none 0 0,.slice none 0 0] (0,0) _ rfl (by (with_reducible repeat (first|apply qa8|apply blk_drew|apply qb8));refine blk_put (cs:=#[.int .i64 0,.slice none 0 0,.slice none 0 0,.slice none 0 0]) ?_ 3 _ rfl;(with_reducible repeat (first|apply qa8|apply blk_drew|apply qb8));refine blk_put (cs:=#[.int .i64 0,.slice none 0 0,.slice none 0 0,.slice none 0 0]) ?_ 2 _ rfl;(with_reducible repeat (first|apply qa8|apply blk_drew|apply qb8));refine blk_put (cs:=#[.int .i64 0,.slice none 0 0,.slice none 0 0,.slice none 0 0]) ?_ 1 _ rfl;(with_reducible repeat (first|apply qa8|apply blk_drew|apply qb8));refine blk_put (cs:=#[.int .i64 0,.slice none 0 0,.slice none 0 0,.slice none 0 0]) ?_ 0 _ rfl;(with_reducible repeat (first|apply qa8|apply blk_drew|apply qb8));exact BK286.out) Tryd.underlying33 rfl (by kernel_rfl)) rfl ?_
    exact ⟨_,_,_,by first|rfl|(simp [errW_none,errW_some] <;> rfl)|(simp [*,errW_none,errW_some] <;> rfl),by first|exact Kd.R_nil _ _ _ _ _|exact Kd.N_nil _ _ _ _ _|exact Kd.V_nil _ _ _ _ _|exact Kd.Q_nil _ _ _ _ _|exact Kd.S_nil _ _ _ _ _,by first|exact Kd.R_nil _ _ _ _ _|exact Kd.N_nil _ _ _ _ _|exact Kd.V_nil _ _ _ _ _|exact Kd.Q_nil _ _ _ _ _|exact Kd.S_nil _ _ _ _ _,by first|exact Kd.R_nil _ _ _ _ _|exact Kd.N_nil _ _ _ _ _|exact Kd.V_nil _ _ _ _ _|exact Kd.Q_nil _ _ _ _ _|exact Kd.S_nil _ _ _ _ _,by repeat (first|(with_reducible first|exact HB.out|apply qc8|apply qd8|apply qe8|refine below_set ?_ GE286.out)|exact HB.out)⟩
   ·
    replace c14:=Bool.eq_false_iff.mpr c14
    subst c14
    have H1 : ((impl_isHash.f a0).bind fun t291 => (if t291 = true then ((impl_isIndex.f a1).bind fun t292 => (if t292 = true then ((impl_signAt.f kj3 a0 a1 a2).bind fun bt293 => (some (bt293.1,bt293.2.1,bt293.2.2.1,bt293.2.2.2,0))) else (some (0,([] : List ByteArray),([] : List ByteArray),([] : List ByteArray),4)))) else (some (0,([] : List ByteArray),([] : List ByteArray),([] : List ByteArray),1)))) = some (r1,r2,r3,r4,r5):=by rw [if_neg (show ¬ (false = true) by decide)] at H;exact H
    clear H
    have H:=H1
    clear H1
    replace H:=Option.bind_eq_some_iff.mp H
    obtain ⟨t291,A160,H⟩:=H
    replace H : (if t291 = true then ((impl_isIndex.f a1).bind fun t292 => (if t292 = true then ((impl_signAt.f kj3 a0 a1 a2).bind fun bt293 => (some (bt293.1,bt293.2.1,bt293.2.2.1,bt293.2.2.2,0))) else (some (0,([] : List ByteArray),([] : List ByteArray),([] : List ByteArray),4)))) else (some (0,([] : List ByteArray),([] : List ByteArray),([] : List ByteArray),1))) = some (r1,r2,r3,r4,r5):=H
    have A16:=qf8 A160
    clear A160
    by_cases c17 : t291 = true
    ·
     subst c17
     have H1 : ((impl_isIndex.f a1).bind fun t292 => (if t292 = true then ((impl_signAt.f kj3 a0 a1 a2).bind fun bt293 => (some (bt293.1,bt293.2.1,bt293.2.2.1,bt293.2.2.2,0))) else (some (0,([] : List ByteArray),([] : List ByteArray),([] : List ByteArray),4)))) = some (r1,r2,r3,r4,r5):=by rw [if_pos rfl] at H;exact H
     clear H
     have H:=H1
     clear H1
     replace H:=Option.bind_eq_some_iff.mp H
     obtain ⟨t292,A180,H⟩:=H
     replace H : (if t292 = true then ((impl_signAt.f kj3 a0 a1 a2).bind fun bt293 => (some (bt293.1,bt293.2.1,bt293.2.2.1,bt293.2.2.2,0))) else (some (0,([] : List ByteArray),([] : List ByteArray),([] : List ByteArray),4))) = some (r1,r2,r3,r4,r5):=H
     have A18:=qf8 A180
     clear A180
     by_cases c19 : t292 = true
     ·
      subst c19
      have H1 : ((impl_signAt.f kj3 a0 a1 a2).bind fun bt293 => (some (bt293.1,bt293.2.1,bt293.2.2.1,bt293.2.2.2,0))) = some (r1,r2,r3,r4,r5):=by rw [if_pos rfl] at H;exact H
      clear H
      have H:=H1
      clear H1
      replace H:=Option.bind_eq_some_iff.mp H
      obtain ⟨⟨t293,t294,t297,t300⟩,A200,H⟩:=H
      replace H : (some (t293,t294,t297,t300,0)) = some (r1,r2,r3,r4,r5):=H
      have A20:=qf8 A200
      clear A200
      simp only [Option.some.injEq,Prod.mk.injEq] at H
      obtain ⟨rfl,rfl,rfl,rfl,rfl⟩:=H
      go_wp2_with (first|((with_reducible refine gate_callee (f:=52) rfl ?_);refine goesL_ (some 20) rfl rfl Tryd.func52 (by kernel_rfl) rfl #[.string a0] rfl (by (try simp only [List.map_toArray,List.map_cons,List.map_nil]);first|done|rfl|(simp only [List.length_drop,List.length_take];rfl)) ?_;(with_reducible refine (impl_isHash.calls a0 true _ A16.out).mono ?_);rintro e w' ⟨rfl,⟨nd,rfl⟩⟩;refine ⟨_,rfl,?_⟩;(try (rw [drewN_self wc];generalize hq_ : World.drewN wc _ = wc;have n0_ : Aside0 (wc.heap[gb286]? = some (.cells #[.int .i64 0,.slice none 0 0,.slice none 0 0,.slice none 0 0] 33 (0,0))):=⟨by rw [← hq_];exact (by (with_reducible repeat (first|apply qa8|apply blk_drew|apply qb8));exact BK286.out)⟩;have n1_ : Aside0 (Below w.heap.size w wc):=⟨by rw [← hq_];exact (by repeat (first|(with_reducible first|exact HB.out|apply qc8|apply qd8|apply qe8|refine below_set ?_ GE286.out)|exact HB.out))⟩;clear BK286 HB hq_;have BK286:=n0_;have HB:=n1_;clear n0_ n1_)))|((with_reducible refine gate_callee (f:=64) rfl ?_);refine goesL_ (some 25) rfl rfl Tryd.func64 (by kernel_rfl) rfl #[.int .i64 a1] rfl (by (try simp only [List.map_toArray,List.map_cons,List.map_nil]);first|done|rfl|(simp only [List.length_drop,List.length_take];rfl)) ?_;(with_reducible refine (impl_isIndex.calls a1 true _ A18.out).mono ?_);rintro e w' ⟨rfl,⟨nd,rfl⟩⟩;refine ⟨_,rfl,?_⟩;(try (rw [drewN_self wc];generalize hq_ : World.drewN wc _ = wc;have n0_ : Aside0 (wc.heap[gb286]? = some (.cells #[.int .i64 0,.slice none 0 0,.slice none 0 0,.slice none 0 0] 33 (0,0))):=⟨by rw [← hq_];exact (by (with_reducible repeat (first|apply qa8|apply blk_drew|apply qb8));exact BK286.out)⟩;have n1_ : Aside0 (Below w.heap.size w wc):=⟨by rw [← hq_];exact (by repeat (first|(with_reducible first|exact HB.out|apply qc8|apply qd8|apply qe8|refine below_set ?_ GE286.out)|exact HB.out))⟩;clear BK286 HB hq_;have BK286:=n0_;have HB:=n1_;clear n0_ n1_)))|((with_reducible refine gate_callee (f:=59) rfl ?_);refine goesL_ (some 31) rfl rfl Tryd.func59 (by kernel_rfl) rfl #[.string a0,.int .i64 a1,.string a2] rfl (by (try simp only [List.map_toArray,List.map_cons,List.map_nil]);first|done|rfl|(simp only [List.length_drop,List.length_take];rfl)) ?_;(with_reducible refine (impl_signAt.calls kj3 a0 a1 a2 t293 t294 t297 t300 _ ?side1 A20.out).mono ?_);(case side1 => exact Go.Proofs.YtmkaknegjahjaaaDoor.Sha.glob_below hG_ (by repeat (first|(with_reducible first|exact HB.out|apply qc8|apply qd8|apply qe8|refine below_set ?_ GE286.out)|exact HB.out)));rintro e w21 ⟨v295,v298,v301,rfl,ho0,ho1,ho2,hb⟩;refine ⟨_,rfl,?_⟩;have n0_:=qf8 (Kd.R_lower ho0 (below_size (by repeat (first|(with_reducible first|exact HB.out|apply qc8|apply qd8|apply qe8|refine below_set ?_ GE286.out)|exact HB.out))));have n1_:=qf8 (Kd.R_lower ho1 (below_size (by repeat (first|(with_reducible first|exact HB.out|apply qc8|apply qd8|apply qe8|refine below_set ?_ GE286.out)|exact HB.out))));have n2_:=qf8 (Kd.R_lower ho2 (below_size (by repeat (first|(with_reducible first|exact HB.out|apply qc8|apply qd8|apply qe8|refine below_set ?_ GE286.out)|exact HB.out))));have n3_:=qf8 (blk_below (g:=gb286) (o:=.cells #[.int .i64 0,.slice none 0 0,.slice none 0 0,.slice none 0 0] 33 (0,0)) (by (with_reducible repeat (first|apply qa8|apply blk_drew|apply qb8));exact BK286.out) hb);have n4_:=qf8 (below_step (by repeat (first|(with_reducible first|exact HB.out|apply qc8|apply qd8|apply qe8|refine below_set ?_ GE286.out)|exact HB.out)) hb);clear BK286;clear HB;have HO296:=n0_;have HO299:=n1_;have HO302:=n2_;have BK286:=n3_;have HB:=n4_;clear n0_ n1_ n2_ n3_ n4_;(try clear hb);(try clear hb2);(try clear hk);(try clear hi);(try clear ho0);(try clear ho1);(try clear ho2);have hcz22_0 : w21.cell? ⟨gb286,0,none⟩ = some (.int .i64 0):=(blk_cell BK286.out 0).trans rfl;have hcz22_1 : w21.cell? ⟨gb286,1,none⟩ = some (.slice none 0 0):=(blk_cell BK286.out 1).trans rfl;have hcz22_2 : w21.cell? ⟨gb286,2,none⟩ = some (.slice none 0 0):=(blk_cell BK286.out 2).trans rfl;have hcz22_3 : w21.cell? ⟨gb286,3,none⟩ = some (.slice none 0 0):=(blk_cell BK286.out 3).trans rfl;have hfz22_0:=blk_frozen BK286.out 0;have hfz22_1:=blk_frozen BK286.out 1;have hfz22_2:=blk_frozen BK286.out 2;have hfz22_3:=blk_frozen BK286.out 3;obtain ⟨Ao23,co23,eo23⟩:=Kd.R_slice HO296.out;subst eo23;obtain ⟨Ao24,co24,eo24⟩:=Kd.R_slice HO299.out;subst eo24;obtain ⟨Ao25,co25,eo25⟩:=Kd.R_slice HO302.out;subst eo25))
      refine bodyPost_ret (results_ct rfl _ _ gb286 33 #[.int .i64 t293,.slice Ao23 t294.length co23,.slice Ao24 t297.length co24,.slice Ao25 t300.length co25] (0,0) _ rfl (by (with_reducible repeat (first|apply qa8|apply blk_drew|apply qb8));refine blk_put (cs:=#[.int .i64 t293,.slice Ao23 t294.length co23,.slice Ao24 t297.length co24,.slice none 0 0]) ?_ 3 _ rfl;(with_reducible repeat (first|apply qa8|apply blk_drew|apply qb8));refine blk_put (cs:=#[.int .i64 t293,.slice Ao23 t294.length co23,.slice none 0 0,.slice none 0 0]) ?_ 2 _ rfl;(with_reducible repeat (first|apply qa8|apply blk_drew|apply qb8));refine blk_put (cs:=#[.int .i64 t293,.slice none 0 0,.slice none 0 0,.slice none 0 0]) ?_ 1 _ rfl;(with_reducible repeat (first|apply qa8|apply blk_drew|apply qb8));refine blk_put (cs:=#[.int .i64 0,.slice none 0 0,.slice none 0 0,.slice none 0 0]) ?_ 0 _ rfl;(with_reducible repeat (first|apply qa8|apply blk_drew|apply qb8));exact BK286.out) Tryd.underlying33 rfl (by kernel_rfl)) rfl ?_
      exact ⟨_,_,_,by first|rfl|(simp [errW_none,errW_some] <;> rfl)|(simp [*,errW_none,errW_some] <;> rfl),by (with_reducible repeat (first|apply Kd.R_alloc|apply Kd.R_drewN|apply Kd.R_drew));exact Kd.R_mono (Kd.R_far (p:=⟨gb286,3,none⟩) (Kd.R_far (p:=⟨gb286,2,none⟩) (Kd.R_far (p:=⟨gb286,1,none⟩) (Kd.R_far (p:=⟨gb286,0,none⟩) (Kd.R_types HO296.out BK286.out (by decide)) (fun _ hk => hk.2) (.int .i64 t293)) (fun _ hk => hk.2) (.slice Ao23 t294.length co23)) (fun _ hk => hk.2) (.slice Ao24 t297.length co24)) (fun _ hk => hk.2) (.slice Ao25 t300.length co25)) (fun _ hk => ⟨hk.1.1,hk.1.2⟩),by (with_reducible repeat (first|apply Kd.R_alloc|apply Kd.R_drewN|apply Kd.R_drew));exact Kd.R_mono (Kd.R_far (p:=⟨gb286,3,none⟩) (Kd.R_far (p:=⟨gb286,2,none⟩) (Kd.R_far (p:=⟨gb286,1,none⟩) (Kd.R_far (p:=⟨gb286,0,none⟩) (Kd.R_types HO299.out BK286.out (by decide)) (fun _ hk => hk.2) (.int .i64 t293)) (fun _ hk => hk.2) (.slice Ao23 t294.length co23)) (fun _ hk => hk.2) (.slice Ao24 t297.length co24)) (fun _ hk => hk.2) (.slice Ao25 t300.length co25)) (fun _ hk => ⟨hk.1.1,hk.1.2⟩),by (with_reducible repeat (first|apply Kd.R_alloc|apply Kd.R_drewN|apply Kd.R_drew));exact Kd.R_mono (Kd.R_far (p:=⟨gb286,3,none⟩) (Kd.R_far (p:=⟨gb286,2,none⟩) (Kd.R_far (p:=⟨gb286,1,none⟩) (Kd.R_far (p:=⟨gb286,0,none⟩) (Kd.R_types HO302.out BK286.out (by decide)) (fun _ hk => hk.2) (.int .i64 t293)) (fun _ hk => hk.2) (.slice Ao23 t294.length co23)) (fun _ hk => hk.2) (.slice Ao24 t297.length co24)) (fun _ hk => hk.2) (.slice Ao25 t300.length co25)) (fun _ hk => ⟨hk.1.1,hk.1.2⟩),by repeat (first|(with_reducible first|exact HB.out|apply qc8|apply qd8|apply qe8|refine below_set ?_ GE286.out)|exact HB.out)⟩
     ·
      replace c19:=Bool.eq_false_iff.mpr c19
      subst c19
      have H1 : (some (0,([] : List ByteArray),([] : List ByteArray),([] : List ByteArray),4)) = some (r1,r2,r3,r4,r5):=by rw [if_neg (show ¬ (false = true) by decide)] at H;exact H
      clear H
      have H:=H1
      clear H1
      simp only [Option.some.injEq,Prod.mk.injEq] at H
      obtain ⟨rfl,rfl,rfl,rfl,rfl⟩:=H
      go_wp2_with (first|((with_reducible refine gate_callee (f:=52) rfl ?_);refine goesL_ (some 20) rfl rfl Tryd.func52 (by kernel_rfl) rfl #[.string a0] rfl (by (try simp only [List.map_toArray,List.map_cons,List.map_nil]);first|done|rfl|(simp only [List.length_drop,List.length_take];rfl)) ?_;(with_reducible refine (impl_isHash.calls a0 true _ A16.out).mono ?_);rintro e w' ⟨rfl,⟨nd,rfl⟩⟩;refine ⟨_,rfl,?_⟩;(try (rw [drewN_self wc];generalize hq_ : World.drewN wc _ = wc;have n0_ : Aside0 (wc.heap[gb286]? = some (.cells #[.int .i64 0,.slice none 0 0,.slice none 0 0,.slice none 0 0] 33 (0,0))):=⟨by rw [← hq_];exact (by (with_reducible repeat (first|apply qa8|apply blk_drew|apply qb8));exact BK286.out)⟩;have n1_ : Aside0 (Below w.heap.size w wc):=⟨by rw [← hq_];exact (by repeat (first|(with_reducible first|exact HB.out|apply qc8|apply qd8|apply qe8|refine below_set ?_ GE286.out)|exact HB.out))⟩;clear BK286 HB hq_;have BK286:=n0_;have HB:=n1_;clear n0_ n1_)))|((with_reducible refine gate_callee (f:=64) rfl ?_);refine goesL_ (some 25) rfl rfl Tryd.func64 (by kernel_rfl) rfl #[.int .i64 a1] rfl (by (try simp only [List.map_toArray,List.map_cons,List.map_nil]);first|done|rfl|(simp only [List.length_drop,List.length_take];rfl)) ?_;(with_reducible refine (impl_isIndex.calls a1 false _ A18.out).mono ?_);rintro e w' ⟨rfl,⟨nd,rfl⟩⟩;refine ⟨_,rfl,?_⟩;(try (rw [drewN_self wc];generalize hq_ : World.drewN wc _ = wc;have n0_ : Aside0 (wc.heap[gb286]? = some (.cells #[.int .i64 0,.slice none 0 0,.slice none 0 0,.slice none 0 0] 33 (0,0))):=⟨by rw [← hq_];exact (by (with_reducible repeat (first|apply qa8|apply blk_drew|apply qb8));exact BK286.out)⟩;have n1_ : Aside0 (Below w.heap.size w wc):=⟨by rw [← hq_];exact (by repeat (first|(with_reducible first|exact HB.out|apply qc8|apply qd8|apply qe8|refine below_set ?_ GE286.out)|exact HB.out))⟩;clear BK286 HB hq_;have BK286:=n0_;have HB:=n1_;clear n0_ n1_));have hcz26_0 : wc.cell? ⟨gb286,0,none⟩ = some (.int .i64 0):=(blk_cell BK286.out 0).trans rfl;have hcz26_1 : wc.cell? ⟨gb286,1,none⟩ = some (.slice none 0 0):=(blk_cell BK286.out 1).trans rfl;have hcz26_2 : wc.cell? ⟨gb286,2,none⟩ = some (.slice none 0 0):=(blk_cell BK286.out 2).trans rfl;have hcz26_3 : wc.cell? ⟨gb286,3,none⟩ = some (.slice none 0 0):=(blk_cell BK286.out 3).trans rfl;have hfz26_0:=blk_frozen BK286.out 0;have hfz26_1:=blk_frozen BK286.out 1;have hfz26_2:=blk_frozen BK286.out 2;have hfz26_3:=blk_frozen BK286.out 3))
      refine bodyPost_ret (results_ct rfl _ _ gb286 33 #[.int .i64 0,.slice none 0 0,.slice none 0 0,.slice none 0 0] (0,0) _ rfl (by (with_reducible repeat (first|apply qa8|apply blk_drew|apply qb8));refine blk_put (cs:=#[.int .i64 0,.slice none 0 0,.slice none 0 0,.slice none 0 0]) ?_ 3 _ rfl;(with_reducible repeat (first|apply qa8|apply blk_drew|apply qb8));refine blk_put (cs:=#[.int .i64 0,.slice none 0 0,.slice none 0 0,.slice none 0 0]) ?_ 2 _ rfl;(with_reducible repeat (first|apply qa8|apply blk_drew|apply qb8));refine blk_put (cs:=#[.int .i64 0,.slice none 0 0,.slice none 0 0,.slice none 0 0]) ?_ 1 _ rfl;(with_reducible repeat (first|apply qa8|apply blk_drew|apply qb8));refine blk_put (cs:=#[.int .i64 0,.slice none 0 0,.slice none 0 0,.slice none 0 0]) ?_ 0 _ rfl;(with_reducible repeat (first|apply qa8|apply blk_drew|apply qb8));exact BK286.out) Tryd.underlying33 rfl (by kernel_rfl)) rfl ?_
      exact ⟨_,_,_,by first|rfl|(simp [errW_none,errW_some] <;> rfl)|(simp [*,errW_none,errW_some] <;> rfl),by first|exact Kd.R_nil _ _ _ _ _|exact Kd.N_nil _ _ _ _ _|exact Kd.V_nil _ _ _ _ _|exact Kd.Q_nil _ _ _ _ _|exact Kd.S_nil _ _ _ _ _,by first|exact Kd.R_nil _ _ _ _ _|exact Kd.N_nil _ _ _ _ _|exact Kd.V_nil _ _ _ _ _|exact Kd.Q_nil _ _ _ _ _|exact Kd.S_nil _ _ _ _ _,by first|exact Kd.R_nil _ _ _ _ _|exact Kd.N_nil _ _ _ _ _|exact Kd.V_nil _ _ _ _ _|exact Kd.Q_nil _ _ _ _ _|exact Kd.S_nil _ _ _ _ _,by repeat (first|(with_reducible first|exact HB.out|apply qc8|apply qd8|apply qe8|refine below_set ?_ GE286.out)|exact HB.out)⟩
    ·
     replace c17:=Bool.eq_false_iff.mpr c17
     subst c17
     have H1 : (some (0,([] : List ByteArray),([] : List ByteArray),([] : List ByteArray),1)) = some (r1,r2,r3,r4,r5):=by rw [if_neg (show ¬ (false = true) by decide)] at H;exact H
     clear H
     have H:=H1
     clear H1
     simp only [Option.some.injEq,Prod.mk.injEq] at H
     obtain ⟨rfl,rfl,rfl,rfl,rfl⟩:=H
     go_wp2_with (first|((with_reducible refine gate_callee (f:=52) rfl ?_);refine goesL_ (some 20) rfl rfl Tryd.func52 (by kernel_rfl) rfl #[.string a0] rfl (by (try simp only [List.map_toArray,List.map_cons,List.map_nil]);first|done|rfl|(simp only [List.length_drop,List.length_take];rfl)) ?_;(with_reducible refine (impl_isHash.calls a0 false _ A16.out).mono ?_);rintro e w' ⟨rfl,⟨nd,rfl⟩⟩;refine ⟨_,rfl,?_⟩;(try (rw [drewN_self wc];generalize hq_ : World.drewN wc _ = wc;have n0_ : Aside0 (wc.heap[gb286]? = some (.cells #[.int .i64 0,.slice none 0 0,.slice none 0 0,.slice none 0 0] 33 (0,0))):=⟨by rw [← hq_];exact (by (with_reducible repeat (first|apply qa8|apply blk_drew|apply qb8));exact BK286.out)⟩;have n1_ : Aside0 (Below w.heap.size w wc):=⟨by rw [← hq_];exact (by repeat (first|(with_reducible first|exact HB.out|apply qc8|apply qd8|apply qe8|refine below_set ?_ GE286.out)|exact HB.out))⟩;clear BK286 HB hq_;have BK286:=n0_;have HB:=n1_;clear n0_ n1_));have hcz27_0 : wc.cell? ⟨gb286,0,none⟩ = some (.int .i64 0):=(blk_cell BK286.out 0).trans rfl;have hcz27_1 : wc.cell? ⟨gb286,1,none⟩ = some (.slice none 0 0):=(blk_cell BK286.out 1).trans rfl;have hcz27_2 : wc.cell? ⟨gb286,2,none⟩ = some (.slice none 0 0):=(blk_cell BK286.out 2).trans rfl;have hcz27_3 : wc.cell? ⟨gb286,3,none⟩ = some (.slice none 0 0):=(blk_cell BK286.out 3).trans rfl;have hfz27_0:=blk_frozen BK286.out 0;have hfz27_1:=blk_frozen BK286.out 1;have hfz27_2:=blk_frozen BK286.out 2;have hfz27_3:=blk_frozen BK286.out 3))
     refine bodyPost_ret (results_ct rfl _ _ gb286 33 #[.int .i64 0,.slice none 0 0,.slice none 0 0,.slice none 0 0] (0,0) _ rfl (by (with_reducible repeat (first|apply qa8|apply blk_drew|apply qb8));refine blk_put (cs:=#[.int .i64 0,.slice none 0 0,.slice none 0 0,.slice none 0 0]) ?_ 3 _ rfl;(with_reducible repeat (first|apply qa8|apply blk_drew|apply qb8));refine blk_put (cs:=#[.int .i64 0,.slice none 0 0,.slice none 0 0,.slice none 0 0]) ?_ 2 _ rfl;(with_reducible repeat (first|apply qa8|apply blk_drew|apply qb8));refine blk_put (cs:=#[.int .i64 0,.slice none 0 0,.slice none 0 0,.slice none 0 0]) ?_ 1 _ rfl;(with_reducible repeat (first|apply qa8|apply blk_drew|apply qb8));refine blk_put (cs:=#[.int .i64 0,.slice none 0 0,.slice none 0 0,.slice none 0 0]) ?_ 0 _ rfl;(with_reducible repeat (first|apply qa8|apply blk_drew|apply qb8));exact BK286.out) Tryd.underlying33 rfl (by kernel_rfl)) rfl ?_
     exact ⟨_,_,_,by first|rfl|(simp [errW_none,errW_some] <;> rfl)|(simp [*,errW_none,errW_some] <;> rfl),by first|exact Kd.R_nil _ _ _ _ _|exact Kd.N_nil _ _ _ _ _|exact Kd.V_nil _ _ _ _ _|exact Kd.Q_nil _ _ _ _ _|exact Kd.S_nil _ _ _ _ _,by first|exact Kd.R_nil _ _ _ _ _|exact Kd.N_nil _ _ _ _ _|exact Kd.V_nil _ _ _ _ _|exact Kd.Q_nil _ _ _ _ _|exact Kd.S_nil _ _ _ _ _,by first|exact Kd.R_nil _ _ _ _ _|exact Kd.N_nil _ _ _ _ _|exact Kd.V_nil _ _ _ _ _|exact Kd.Q_nil _ _ _ _ _|exact Kd.S_nil _ _ _ _ _,by repeat (first|(with_reducible first|exact HB.out|apply qc8|apply qd8|apply qe8|refine below_set ?_ GE286.out)|exact HB.out)⟩

/-! ### impl_areHashes: function 71, given -/
def firstOther : List ByteArray → Int → Int
 | [],_ => -1
 | s :: l,i => if (s.size : Int) = 32 then firstOther l (i + 1) else i
theorem firstOther_any (l : List ByteArray) : ∀ i : Int,0 ≤ i → decide (0 ≤ firstOther l i) = !(l.all (fun s => decide ((s.size : Int) = 32))):=by
 induction l with
 | nil => intro i _;rfl
 | cons s l ih =>
  intro i hi
  rw [firstOther,List.all_cons]
  by_cases h : (s.size : Int) = 32
  ·
   rw [if_pos h,decide_eq_true h,ih (i + 1) (by omega)];simp
  ·
   rw [if_neg h,decide_eq_false h,decide_eq_true hi];rfl
theorem isHash0_calls (s : ByteArray) (w : World) : Calls Tryd.prog 52 #[.string s] w fun e w' => e = .returned (.bool ((s.size : Int) == 32)) ∧ w = w':=by
 go_enter Tryd.func52,Tryd.ntmps52
 go_wp2
 go_ret
 exact ⟨rfl,rfl⟩
theorem isOther_calls (s : ByteArray) (w : World) : Calls Tryd.prog 112 #[.string s] w fun e w' => e = .returned (.bool (!((s.size : Int) == 32))) ∧ w = w':=by
 go_enter Tryd.func112,Tryd.ntmps112
 go_wp2_with (go_at_call 52;refine (isHash0_calls _ _).mono ?_;rintro e w' ⟨rfl,rfl⟩)
 go_ret
 exact ⟨by first|rfl|simp,rfl⟩
set_option maxHeartbeats 400000 in
theorem indexOther_calls (A0 : Option Addr) (c0 : Nat) (l0 : List ByteArray) (w : World) (hr0 : Kd.C Kd.string w A0 l0.length l0) :
  Calls Tryd.prog 133 #[.slice A0 l0.length c0,.func (.func 112) #[] #[]] w fun e w' => e = .returned (.int .i64 (firstOther l0 0)) ∧ w = w':=by
 have hn : l0.length ≤ 9223372036854775807:=hr0.2.1
 have HR:=qf8 hr0
 clear hr0
 go_enter Tryd.func133,Tryd.ntmps133
 go_wp2
 go_loop [8] (fun c => ∃ k : Nat,k ≤ l0.length ∧ c = .int .i64 k ∧ Aside0 (firstOther l0 0 = firstOther (l0.drop k) k)) (fun c => l0.length - (intOf c).toNat)
 case atStart => exact ⟨0,Nat.zero_le _,rfl,⟨rfl⟩⟩
 case round =>
  obtain ⟨k,hk,rfl,hf⟩:=hrel
  by_cases hlt : k < l0.length
  ·
   obtain ⟨ad,c,rfl,hcl,hK,hcell⟩:=Kd.C_get HR.out ByteArray.empty k (by omega) (by omega)
   have hc : w.cell? (ad.add k) = some (.string l0[k]):=by
    have h2 : c = [.string (l0.getD k ByteArray.empty)]:=hK
    subst h2
    have:=hcell 0 _ rfl
    simpa [hlt,Kd.string,Kd.scalar] using this
   have hd : Aside0 (l0.drop k = l0[k] :: l0.drop (k + 1)):=⟨List.drop_eq_getElem_cons hlt⟩
   clear hcell hK hcl
   by_cases hp : (l0[k].size : Int) = 32
   ·
    have hb : (!((l0[k].size : Int) == 32)) = false:=by rw [beq_iff_eq.2 hp];rfl
    have hfin : Aside0 (firstOther l0 0 = firstOther (l0.drop (k + 1)) ((k + 1 : Nat) : Int)):=⟨by rw [hf.out,hd.out,firstOther,if_pos hp];rfl⟩
    generalize hbb : (!((l0[k].size : Int) == 32)) = b at hb
    subst hb
    clear hp
    go_wp2_with (go_at_call 112;refine (isOther_calls _ _).mono ?_;rintro e w' ⟨rfl,rfl⟩;rw [hbb])
    go_round
    case rel => exact ⟨k + 1,by omega,by go_num,hfin⟩
    case measure => simp [intOf];omega
   ·
    have hb : (!((l0[k].size : Int) == 32)) = true:=by rw [beq_eq_false_iff_ne.2 hp];rfl
    have hfin : Aside0 ((k : Int) = firstOther l0 0):=⟨by rw [hf.out,hd.out,firstOther,if_neg hp]⟩
    generalize hbb : (!((l0[k].size : Int) == 32)) = b at hb
    subst hb
    clear hp
    go_wp2_with (go_at_call 112;refine (isOther_calls _ _).mono ?_;rintro e w' ⟨rfl,rfl⟩;rw [hbb])
    go_ret
    exact ⟨congrArg (fun x => Ending.returned (.int .i64 x)) hfin.out,rfl⟩
  ·
   have hfin : Aside0 ((-1 : Int) = firstOther l0 0):=⟨by rw [hf.out,List.drop_eq_nil_of_le (by omega)];rfl⟩
   go_wp2
   go_ret
   exact ⟨congrArg (fun x => Ending.returned (.int .i64 x)) hfin.out,rfl⟩
theorem containsOther_calls (A0 : Option Addr) (c0 : Nat) (l0 : List ByteArray) (w : World) (hr0 : Kd.C Kd.string w A0 l0.length l0) :
  Calls Tryd.prog 101 #[.slice A0 l0.length c0,.func (.func 112) #[] #[]] w fun e w' => e = .returned (.bool (!(l0.all (fun s => decide ((s.size : Int) = 32))))) ∧ w = w':=by
 have HR:=qf8 hr0
 have hfin:=qf8 (firstOther_any l0 0 (Int.le_refl _))
 clear hr0
 go_enter Tryd.func101,Tryd.ntmps101
 go_wp2_with (go_at_call 133;refine (indexOther_calls _ _ _ _ HR.out).mono ?_;rintro e w' ⟨rfl,rfl⟩)
 go_ret
 exact ⟨congrArg (fun x => Ending.returned (.bool x)) hfin.out,rfl⟩
def impl_areHashes.f (l0 : List ByteArray) (a1 : Int) : Option Bool:=some (decide ((l0.length : Int) = a1) && l0.all (fun s => decide ((s.size : Int) = 32)))
theorem impl_areHashes.calls (A0 : Option Addr) (c0 : Nat) (l0 : List ByteArray) (a1 : Int) (r : Bool) (w : World) (hr0 : Kd.C Kd.string w A0 l0.length l0) (hc0 : l0.length ≤ c0) (h : impl_areHashes.f l0 a1 = some r) :
  Calls Tryd.prog 71 #[.slice A0 l0.length c0,.int .i64 a1] w fun e w' => e = .returned (.bool r) ∧ Drawn0 w w':=by
 have HR:=qf8 hr0
 have hq:=Option.some.inj h
 clear hr0 h
 by_cases hl : (l0.length : Int) = a1
 ·
  have hfin : Aside0 ((l0.all (fun s => decide ((s.size : Int) = 32))) = r):=⟨by rw [← hq,decide_eq_true hl];simp⟩
  clear hq
  have hb : ((l0.length : Int) == a1) = true:=beq_iff_eq.2 hl
  clear hl
  go_enter Tryd.func71,Tryd.ntmps71
  go_wp2_with (go_at_call 101;refine (containsOther_calls _ _ _ _ HR.out).mono ?_;rintro e w' ⟨rfl,rfl⟩)
  go_ret
  exact ⟨congrArg (fun x => Ending.returned (.bool x)) hfin.out,Drawn0.refl _⟩
 ·
  have hfin : Aside0 (false = r):=⟨by rw [← hq,decide_eq_false hl];rfl⟩
  clear hq
  have hb : ((l0.length : Int) == a1) = false:=beq_eq_false_iff_ne.2 hl
  clear hl
  go_enter Tryd.func71,Tryd.ntmps71
  go_wp2
  go_ret
  exact ⟨congrArg (fun x => Ending.returned (.bool x)) hfin.out,Drawn0.refl _⟩


end Go.Proofs.YtmkaknegjahjaaaDoor.PFnLamport
