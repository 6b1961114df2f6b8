-- laid by this session's program myprint.py over the kit's printer
-- squeezed
-- aliased
import Derived.Test.YtmkaknegjahjaaaDoorPFnLamportx0
import Derived.Test.YtmkaknegjahjaaaDoorPFnLamportx1
import Derived.Test.YtmkaknegjahjaaaDoorPFnLamportx4
import Derived.Test.YtmkaknegjahjaaaDoorPFnLamportx5
import Derived.Test.YtmkaknegjahjaaaDoorPFnLamportx6
namespace Go.Proofs.YtmkaknegjahjaaaDoor.PFnLamport
open Go.RowKit Go.Proofs.YtmkaknegjahjaaaDoorV.PrintWords Go.Proofs.YtmkaknegjahjaaaDoorV.PrintLast Go.Proofs.YtmkaknegjahjaaaDoorV.PrintMore
attribute [local go_sem] max2_int min2_int max_two min_two max_three min_three max_four min_four u8_wm u32_wm   -- for this text's walks alone
set_option linter.unusedVariables false
set_option linter.unusedSimpArgs false

/-! ### impl_signAt: function 59 -/
theorem qa7 : type_of% @blk_drewN:=@blk_drewN
theorem qb7 : type_of% @blk_drew:=@blk_drew
theorem qc7 : type_of% @blk_alloc:=@blk_alloc
theorem qd7 : type_of% @Kd.R_alloc:=@Kd.R_alloc
theorem qe7 : type_of% @Kd.R_drewN:=@Kd.R_drewN
theorem qf7 : type_of% @Kd.R_drew:=@Kd.R_drew
theorem qg7 : type_of% @below_alloc:=@below_alloc
theorem qh7 : type_of% @pw_below_drewN:=@pw_below_drewN
theorem qi7 : type_of% @below_drew1:=@below_drew1
theorem qj7 : type_of% @below_set:=@below_set
theorem qk7 : type_of% @Aside0.mk:=@Aside0.mk
theorem ql7 : type_of% @Kd.R_mono:=@Kd.R_mono
mutual
def impl_signAt.l0 : Nat → ByteArray → Int → List Int → Int → Int → Int → List ByteArray → List ByteArray → Option (Int × List ByteArray × List ByteArray × List ByteArray)
 | 0,_,_,_,_,_,_,_,_ => none
 | k + 1,x0,x1,x16,x17,x18,x261000,x261001,x261002 => if x18 < x17 then (if 0 ≤ x18 then (if x18 < (x16.length : Int) then ((impl_secret.f k x0 x1 x18 (((rd x16 x18) - 48) % 256)).bind fun t266 => (if x261001.length < 8796093022208 then ((impl_secret.f k x0 x1 x18 (wrap64 (1 - (((rd x16 x18) - 48) % 256)))).bind fun t270 => ((impl_hash.f t270).bind fun t271 => (if x261002.length < 8796093022208 then (impl_signAt.l0 k x0 x1 x16 x17 (wrap64 (x18 + 1)) x261000 (x261001 ++ [t266]) (x261002 ++ [t271])) else (none)))) else (none))) else (none)) else (none)) else ((impl_keys.f k x0).bind fun t275 => (impl_signAt.l1 k x1 t275 x261000 x261001 x261002 ([] : List ByteArray)))
def impl_signAt.l1 : Nat → Int → List ByteArray → Int → List ByteArray → List ByteArray → List ByteArray → Option (Int × List ByteArray × List ByteArray × List ByteArray)
 | 0,_,_,_,_,_,_ => none
 | k + 1,x1,x11,x261000,x261001,x261002,x261003 => if (x11.length : Int) > 1 then (if 0 ≤ (Go.bits .xor .i64 x1 1) then (if (Go.bits .xor .i64 x1 1) < (x11.length : Int) then (if x261003.length < 8796093022208 then ((impl_above.f k x11).bind fun t282 => (impl_signAt.l1 k (wrap64 (Int.tdiv x1 2)) t282 x261000 x261001 x261002 (x261003 ++ [rdOf ByteArray.empty x11 (Go.bits .xor .i64 x1 1)]))) else (none)) else (none)) else (none)) else (some (x261000,x261001,x261002,x261003))
end
def impl_signAt.f (k : Nat) (a0 : ByteArray) (a1 : Int) (a2 : ByteArray) : Option (Int × List ByteArray × List ByteArray × List ByteArray):=(impl_messageBits.f k a2).bind fun t261 => (if t261.size ≤ 9223372036854775807 then ((some (bytesOf t261 : List Int)).bind fun y262 => (impl_signAt.l0 k a0 a1 y262 (y262.length : Int) 0 a1 ([] : List ByteArray) ([] : List ByteArray))) else (none))
theorem impl_signAt.mono_l : ∀ k,(∀ y0 y1 y2 y3 y4 y5 y6 y7,LeO (impl_signAt.l0 k y0 y1 y2 y3 y4 y5 y6 y7) (impl_signAt.l0 (k + 1) y0 y1 y2 y3 y4 y5 y6 y7)) ∧ (∀ y0 y1 y2 y3 y4 y5,LeO (impl_signAt.l1 k y0 y1 y2 y3 y4 y5) (impl_signAt.l1 (k + 1) y0 y1 y2 y3 y4 y5))
 | 0 => ⟨fun _ _ _ _ _ _ _ _ r h => by simp [impl_signAt.l0] at h,fun _ _ _ _ _ _ r h => by simp [impl_signAt.l1] at h⟩
 | k + 1 => by
  obtain ⟨ih0,ih1⟩:=impl_signAt.mono_l k
  refine ⟨?_,?_⟩
  ·
   intro y0 y1 y2 y3 y4 y5 y6 y7
   unfold impl_signAt.l0
   repeat' first
   | (with_reducible exact ih0 _ _ _ _ _ _ _ _)
   | (with_reducible exact ih1 _ _ _ _ _ _)
   | (with_reducible exact impl_above.mono _ _)
   | (with_reducible exact impl_keys.mono _ _)
   | (with_reducible exact impl_messageBits.mono _ _)
   | (with_reducible exact impl_secret.mono _ _ _ _ _)
   | (with_reducible exact LeO.refl _)
   | (with_reducible exact LeO.none _)
   | (with_reducible refine LeO.ite ?_ ?_)
   | (with_reducible refine LeO.bind ?_ (fun _ => ?_))
   | exact ih0 _ _ _ _ _ _ _ _
   | exact ih1 _ _ _ _ _ _
   | exact impl_above.mono _ _
   | exact impl_keys.mono _ _
   | exact impl_messageBits.mono _ _
   | exact impl_secret.mono _ _ _ _ _
   | exact LeO.none _
   | refine LeO.ite ?_ ?_
   | refine LeO.bind ?_ (fun _ => ?_)
  ·
   intro y0 y1 y2 y3 y4 y5
   unfold impl_signAt.l1
   repeat' first
   | (with_reducible exact ih0 _ _ _ _ _ _ _ _)
   | (with_reducible exact ih1 _ _ _ _ _ _)
   | (with_reducible exact impl_above.mono _ _)
   | (with_reducible exact impl_keys.mono _ _)
   | (with_reducible exact impl_messageBits.mono _ _)
   | (with_reducible exact impl_secret.mono _ _ _ _ _)
   | (with_reducible exact LeO.refl _)
   | (with_reducible exact LeO.none _)
   | (with_reducible refine LeO.ite ?_ ?_)
   | (with_reducible refine LeO.bind ?_ (fun _ => ?_))
   | exact ih0 _ _ _ _ _ _ _ _
   | exact ih1 _ _ _ _ _ _
   | exact impl_above.mono _ _
   | exact impl_keys.mono _ _
   | exact impl_messageBits.mono _ _
   | exact impl_secret.mono _ _ _ _ _
   | exact LeO.none _
   | refine LeO.ite ?_ ?_
   | refine LeO.bind ?_ (fun _ => ?_)
theorem impl_signAt.mono : ∀ a0 a1 a2 k,LeO (impl_signAt.f k a0 a1 a2) (impl_signAt.f (k + 1) a0 a1 a2):=by
 intro a0 a1 a2 k
 obtain ⟨ih0,ih1⟩:=impl_signAt.mono_l k
 unfold impl_signAt.f
 repeat' first
   | (with_reducible exact ih0 _ _ _ _ _ _ _ _)
   | (with_reducible exact ih1 _ _ _ _ _ _)
   | (with_reducible exact impl_above.mono _ _)
   | (with_reducible exact impl_keys.mono _ _)
   | (with_reducible exact impl_messageBits.mono _ _)
   | (with_reducible exact impl_secret.mono _ _ _ _ _)
   | (with_reducible exact LeO.refl _)
   | (with_reducible exact LeO.none _)
   | (with_reducible refine LeO.ite ?_ ?_)
   | (with_reducible refine LeO.bind ?_ (fun _ => ?_))
   | exact ih0 _ _ _ _ _ _ _ _
   | exact ih1 _ _ _ _ _ _
   | exact impl_above.mono _ _
   | exact impl_keys.mono _ _
   | exact impl_messageBits.mono _ _
   | exact impl_secret.mono _ _ _ _ _
   | exact LeO.none _
   | refine LeO.ite ?_ ?_
   | refine LeO.bind ?_ (fun _ => ?_)
def impl_signAt.T6 : Bool × List (List Nat × List Nat):=(true,[([],[]),([0],[0]),([],[]),([],[]),([],[]),([],[]),([2,3,4,5],[2,3,4,5]),([6],[6]),([1,7,6],[1,7]),([0,1,2,3,4,5,6,7,8],[]),([9,8,8,0,1,2,3,4,5,6,7,8],[8,9])])
def impl_signAt.B6 : List Nat:=[0,1,0,0,0,0,60,124,255,511,1023]
theorem impl_signAt.tab6 : rtab .any (opsOf Tryd.f59 6) = impl_signAt.T6:=by kernel_rfl
theorem impl_signAt.bits6 : waitsOk impl_signAt.T6.2 impl_signAt.B6 = true:=by kernel_rfl
def impl_signAt.T7 : Bool × List (List Nat × List Nat):=(true,[([],[]),([0],[0]),([],[]),([],[]),([],[]),([],[]),([5],[5]),([2,3,4,6],[2,3,4,6]),([7,7],[7]),([8],[8]),([1,9,8],[1,9]),([0,1,2,3,4,5,6,7,8,9,10],[]),([11,10,10,0,1,2,3,4,5,6,7,8,9,10],[10,11])])
def impl_signAt.B7 : List Nat:=[0,1,0,0,0,0,32,124,252,508,1023,2047,4095]
theorem impl_signAt.tab7 : rtab .any (opsOf Tryd.f59 7) = impl_signAt.T7:=by kernel_rfl
theorem impl_signAt.bits7 : waitsOk impl_signAt.T7.2 impl_signAt.B7 = true:=by kernel_rfl
def impl_signAt.T12 : Bool × List (List Nat × List Nat):=(true,[([],[]),([0],[0]),([],[]),([],[]),([3],[3]),([2,4],[2,4]),([5],[5]),([6],[6]),([1,7],[1,7]),([0,1,2,3,4,5,6,7,8],[]),([9,8,8,0,1,2,3,4,5,6,7,8],[8,9])])
def impl_signAt.B12 : List Nat:=[0,1,0,0,8,28,60,124,255,511,1023]
theorem impl_signAt.tab12 : rtab .any (opsOf Tryd.f59 12) = impl_signAt.T12:=by kernel_rfl
theorem impl_signAt.bits12 : waitsOk impl_signAt.T12.2 impl_signAt.B12 = true:=by kernel_rfl
set_option maxHeartbeats 8000000 in
set_option maxRecDepth 100000 in
theorem impl_signAt.calls (k : Nat) (a0 : ByteArray) (a1 : Int) (a2 : ByteArray) (r1 : Int) (r2 : List ByteArray) (r3 : List ByteArray) (r4 : List ByteArray) (w : World) (hG_ : Go.Proofs.YtmkaknegjahjaaaDoor.Sha.GlobA w) (h : impl_signAt.f k a0 a1 a2 = some (r1,r2,r3,r4)) :
  Calls Tryd.prog 59 #[.string a0,.int .i64 a1,.string a2] w fun e w' => ∃ v1_ v2_ v3_ : Value,e = .returned (.agg #[.int .i64 r1,v1_,v2_,v3_]) ∧ Kd.R Kd.string 9 w' w.heap.size (fun k_ => some k_ ≠ (v2_ : Value).ownBlock ∧ some k_ ≠ (v3_ : Value).ownBlock) v1_ r2 ∧ Kd.R Kd.string 9 w' w.heap.size (fun k_ => some k_ ≠ (v1_ : Value).ownBlock ∧ some k_ ≠ (v3_ : Value).ownBlock) v2_ r3 ∧ Kd.R Kd.string 9 w' w.heap.size (fun k_ => some k_ ≠ (v1_ : Value).ownBlock ∧ some k_ ≠ (v2_ : Value).ownBlock) v3_ r4 ∧ Below w.heap.size w w':=by
 have hu33:=Tryd.underlying33
 have HB:=qk7 (Below.refl w.heap.size w)
 have H : ((impl_messageBits.f k a2).bind fun t261 => (if t261.size ≤ 9223372036854775807 then ((some (bytesOf t261 : List Int)).bind fun y262 => (impl_signAt.l0 k a0 a1 y262 (y262.length : Int) 0 a1 ([] : List ByteArray) ([] : List ByteArray))) else (none))) = some (r1,r2,r3,r4):=h
 clear h
 replace H:=Option.bind_eq_some_iff.mp H
 obtain ⟨t261,A40,H⟩:=H
 replace H : (if t261.size ≤ 9223372036854775807 then ((some (bytesOf t261 : List Int)).bind fun y262 => (impl_signAt.l0 k a0 a1 y262 (y262.length : Int) 0 a1 ([] : List ByteArray) ([] : List ByteArray))) else (none)) = some (r1,r2,r3,r4):=H
 have A4:=qk7 A40
 clear A40
 by_cases c5 : t261.size ≤ 9223372036854775807
 ·
  rw [if_pos c5] at H
  have c5b0:=eq_true c5
  have c5b1 : decide (t261.size ≤ 9223372036854775807) = true:=decide_eq_true c5
  try have c5b2 : (9223372036854775807 < t261.size) = False:=eq_false (Nat.not_lt.2 c5)
  clear c5
  obtain ⟨y262,hy262⟩ : ∃ y_ : List Int,y_ = (bytesOf t261):=⟨_,rfl⟩
  replace H : (impl_signAt.l0 k a0 a1 y262 (y262.length : Int) 0 a1 ([] : List ByteArray) ([] : List ByteArray)) = some (r1,r2,r3,r4):=by first|(rw [hy262];with_reducible exact H)|(have H2_:=(Option.bind_some _ _).symm.trans H;rw [hy262];with_reducible exact H2_)|(have H2_:=(Option.bind_some _ _).symm.trans H;with_reducible exact H2_)|with_reducible exact H|(rw [hy262];exact H)|exact H
  have Ny262:=qk7 hy262
  clear hy262
  have H':=qk7 H
  clear H
  go_enter Tryd.func59,Tryd.ntmps59
  go_wp2_with (first|((with_reducible refine gate_dst (N:=6) rfl ?_);refine box_event ?hg (N:=6) ?hd (cs:=#[.int .i64 0,.slice none 0 0,.slice none 0 0,.slice none 0 0]) (t:=33) ?hr ?_;(case hd => rfl);(case hg => rfl);(case hr => first|(go_simp;done)|(go_simp;rfl));intro gb259 hg w6 hbox hb;have n0_:=qk7 (below_step (by repeat (first|(with_reducible first|exact HB.out|apply qg7|apply qh7|apply qi7)|exact HB.out)) hb);have n1_:=qk7 (hbox);have n2_:=qk7 ((by rw [hg];exact (below_size (by repeat (first|(with_reducible first|exact HB.out|apply qg7|apply qh7|apply qi7)|exact HB.out))) : w.heap.size ≤ gb259));have n3_:=qk7 ((by rw [hg];exact (below_size (by repeat (first|(with_reducible first|exact HB.out|apply qg7|apply qh7|apply qi7)|exact HB.out))) : w.heap.size ≤ gb259));clear HB;have HB:=n0_;have BK259:=n1_;have GW259:=n2_;have GE259:=n3_;clear n0_ n1_ n2_ n3_;clear hb hbox hg)|((with_reducible refine gate_dst (N:=7) rfl ?_);refine box_event ?hg (N:=7) ?hd (cs:=#[.int .i64 0,.slice none 0 0,.slice none 0 0,.slice none 0 0]) (t:=33) ?hr ?_;(case hd => rfl);(case hg => rfl);(case hr => first|(go_simp;done)|(go_simp;rfl));intro gb260 hg w7 hbox hb;have n0_:=qk7 (blk_below (g:=gb259) (o:=.cells #[.int .i64 0,.slice none 0 0,.slice none 0 0,.slice none 0 0] 33 (0,0)) (by (with_reducible repeat (first|apply qa7|apply qb7|apply qc7));exact BK259.out) hb);have n1_:=qk7 (below_step (by repeat (first|(with_reducible first|exact HB.out|apply qg7|apply qh7|apply qi7|refine qj7 ?_ GE259.out)|exact HB.out)) hb);have n2_:=qk7 (hbox);have n3_:=qk7 ((by rw [hg];exact (below_size (by repeat (first|(with_reducible first|exact HB.out|apply qg7|apply qh7|apply qi7|refine qj7 ?_ GE259.out)|exact HB.out))) : w.heap.size ≤ gb260));have n4_:=qk7 ((by rw [hg];exact (below_size (by repeat (first|(with_reducible first|exact HB.out|apply qg7|apply qh7|apply qi7|refine qj7 ?_ GE259.out)|exact HB.out))) : w.heap.size ≤ gb260));have n5_:=qk7 ((by rw [hg];exact Nat.ne_of_lt (blk_lt (g:=gb259) (o:=.cells #[.int .i64 0,.slice none 0 0,.slice none 0 0,.slice none 0 0] 33 (0,0)) (by (with_reducible repeat (first|apply qa7|apply qb7|apply qc7));exact BK259.out)) : gb259 ≠ gb260));have n6_:=qk7 ((by rw [hg];exact Nat.ne_of_gt (blk_lt (g:=gb259) (o:=.cells #[.int .i64 0,.slice none 0 0,.slice none 0 0,.slice none 0 0] 33 (0,0)) (by (with_reducible repeat (first|apply qa7|apply qb7|apply qc7));exact BK259.out)) : gb260 ≠ gb259));clear BK259;clear HB;have BK259:=n0_;have HB:=n1_;have BK260:=n2_;have GW260:=n3_;have GE260:=n4_;have NB259_260:=n5_;have NB260_259:=n6_;clear n0_ n1_ n2_ n3_ n4_ n5_ n6_;clear hb hbox hg;have hnb8:=NB260_259.out;have hnc8:=NB259_260.out;have hcz9_0 : w7.cell? ⟨gb260,0,none⟩ = some (.int .i64 0):=(blk_cell BK260.out 0).trans rfl;have hcz9_1 : w7.cell? ⟨gb260,1,none⟩ = some (.slice none 0 0):=(blk_cell BK260.out 1).trans rfl;have hcz9_2 : w7.cell? ⟨gb260,2,none⟩ = some (.slice none 0 0):=(blk_cell BK260.out 2).trans rfl;have hcz9_3 : w7.cell? ⟨gb260,3,none⟩ = some (.slice none 0 0):=(blk_cell BK260.out 3).trans rfl;have hfz9_0:=blk_frozen BK260.out 0;have hfz9_1:=blk_frozen BK260.out 1;have hfz9_2:=blk_frozen BK260.out 2;have hfz9_3:=blk_frozen BK260.out 3)|((with_reducible refine gate_callee (f:=73) rfl ?_);refine goesL_ (some 15) rfl rfl Tryd.func73 (by kernel_rfl) rfl #[.string a2] rfl (by (try simp only [List.map_toArray,List.map_cons,List.map_nil]);first|done|rfl|(simp only [List.length_drop,List.length_take];rfl)) ?_;(with_reducible refine (impl_messageBits.calls k a2 t261 _ ?side1 A4.out).mono ?_);(case side1 => exact Go.Proofs.YtmkaknegjahjaaaDoor.Sha.glob_below hG_ (by repeat (first|(with_reducible first|exact HB.out|apply qg7|apply qh7|apply qi7|refine qj7 ?_ GE259.out|refine qj7 ?_ GE260.out)|exact HB.out)));rintro e w10 ⟨rfl,hb⟩;refine ⟨_,rfl,?_⟩;have n0_:=qk7 (blk_below (g:=gb259) (o:=.cells #[.int .i64 0,.slice none 0 0,.slice none 0 0,.slice none 0 0] 33 (0,0)) (by (with_reducible repeat (first|apply qa7|apply qb7|apply qc7));refine blk_far ?_ NB259_260.out _;(with_reducible repeat (first|apply qa7|apply qb7|apply qc7));refine blk_far ?_ NB259_260.out _;(with_reducible repeat (first|apply qa7|apply qb7|apply qc7));refine blk_far ?_ NB259_260.out _;(with_reducible repeat (first|apply qa7|apply qb7|apply qc7));refine blk_far ?_ NB259_260.out _;(with_reducible repeat (first|apply qa7|apply qb7|apply qc7));exact BK259.out) hb);have n1_:=qk7 (blk_below (g:=gb260) (o:=.cells #[.int .i64 a1,.slice none 0 0,.slice none 0 0,.slice none 0 0] 33 (0,0)) (by (with_reducible repeat (first|apply qa7|apply qb7|apply qc7));refine blk_put (cs:=#[.int .i64 a1,.slice none 0 0,.slice none 0 0,.slice none 0 0]) ?_ 3 _ rfl;(with_reducible repeat (first|apply qa7|apply qb7|apply qc7));refine blk_put (cs:=#[.int .i64 a1,.slice none 0 0,.slice none 0 0,.slice none 0 0]) ?_ 2 _ rfl;(with_reducible repeat (first|apply qa7|apply qb7|apply qc7));refine blk_put (cs:=#[.int .i64 a1,.slice none 0 0,.slice none 0 0,.slice none 0 0]) ?_ 1 _ rfl;(with_reducible repeat (first|apply qa7|apply qb7|apply qc7));refine blk_put (cs:=#[.int .i64 0,.slice none 0 0,.slice none 0 0,.slice none 0 0]) ?_ 0 _ rfl;(with_reducible repeat (first|apply qa7|apply qb7|apply qc7));exact BK260.out) hb);have n2_:=qk7 (below_step (by repeat (first|(with_reducible first|exact HB.out|apply qg7|apply qh7|apply qi7|refine qj7 ?_ GE259.out|refine qj7 ?_ GE260.out)|exact HB.out)) hb);clear BK259;clear BK260;clear HB;have BK259:=n0_;have BK260:=n1_;have HB:=n2_;clear n0_ n1_ n2_;(try clear hb);(try clear hb2);(try clear hk);(try clear hi))|((with_reducible refine gate_dst (N:=16) rfl ?_);refine R_bytes _ 5 rfl (N:=16) rfl 9 22 _ rfl t261 rfl Tryd.underlying9 Tryd.underlying22 Tryd.underlying5 (ok:=fun _ => True) trivial (of_decide_eq_true (by first|(with_reducible assumption)|assumption)) (Below.refl _ _) (Nat.le_refl _) ?_;intro v263 w11 ho12 hb hg_ hnew_;clear hg_ hnew_;(first|rw [← Ny262.out] at ho12|(simp only [Int.reduceToNat] at ho12;rw [← Ny262.out] at ho12));have n0_:=qk7 (Kd.R_lower ho12 (below_size (by repeat (first|(with_reducible first|exact HB.out|apply qg7|apply qh7|apply qi7|refine qj7 ?_ GE259.out|refine qj7 ?_ GE260.out)|exact HB.out))));have n1_:=qk7 (blk_below (g:=gb259) (o:=.cells #[.int .i64 0,.slice none 0 0,.slice none 0 0,.slice none 0 0] 33 (0,0)) (by (with_reducible repeat (first|apply qa7|apply qb7|apply qc7));exact BK259.out) hb);have n2_:=qk7 (blk_below (g:=gb260) (o:=.cells #[.int .i64 a1,.slice none 0 0,.slice none 0 0,.slice none 0 0] 33 (0,0)) (by (with_reducible repeat (first|apply qa7|apply qb7|apply qc7));exact BK260.out) hb);have n3_:=qk7 (below_step (by repeat (first|(with_reducible first|exact HB.out|apply qg7|apply qh7|apply qi7|refine qj7 ?_ GE259.out|refine qj7 ?_ GE260.out)|exact HB.out)) hb);clear BK259;clear BK260;clear HB;have HO264:=n0_;have BK259:=n1_;have BK260:=n2_;have HB:=n3_;clear n0_ n1_ n2_ n3_;clear hb ho12;obtain ⟨Ao13,co13,eo13⟩:=Kd.R_slice HO264.out;subst eo13))
  go_loopg [18] k (fun kq v18 w' => ∃ (x18_1 : Int) (x261001_1 : List ByteArray) (x261002_1 : List ByteArray) (u261001 : Value) (u261002 : Value),v18 = .int .i64 x18_1 ∧ Aside0 (impl_signAt.l0 kq a0 a1 y262 (y262.length : Int) x18_1 a1 x261001_1 x261002_1 = some (r1,r2,r3,r4)) ∧ Aside0 (kq ≤ k) ∧ Aside0 (Kd.R (Kd.int .u8) 5 w' w.heap.size (fun _ => True) (.slice Ao13 y262.length co13) y262) ∧ Aside0 (Kd.R Kd.string 9 w' w.heap.size (fun k_ => some k_ ≠ (u261002 : Value).ownBlock) u261001 x261001_1) ∧ Aside0 (Kd.R Kd.string 9 w' w.heap.size (fun k_ => some k_ ≠ (u261001 : Value).ownBlock) u261002 x261002_1) ∧ Aside0 (w'.heap[gb259]? = some (.cells #[.int .i64 0,(.slice none 0 0),(.slice none 0 0),(.slice none 0 0)] 33 (0,0))) ∧ Aside0 (w'.heap[gb260]? = some (.cells #[.int .i64 a1,u261001,u261002,(.slice none 0 0)] 33 (0,0))) ∧ Aside0 (Below w.heap.size w w'))
  case atStart => exact ⟨(0),(([] : List ByteArray)),(([] : List ByteArray)),(.slice none 0 0),(.slice none 0 0),(by first|rfl|(simp;done)|(simp [*];done)),H',⟨Nat.le_refl _⟩,⟨by (with_reducible repeat (first|apply qd7|apply qe7|apply qf7));exact HO264.out⟩,⟨by first|exact Kd.R_nil _ _ _ _ _|exact Kd.N_nil _ _ _ _ _|exact Kd.V_nil _ _ _ _ _|exact Kd.Q_nil _ _ _ _ _|exact Kd.S_nil _ _ _ _ _⟩,⟨by first|exact Kd.R_nil _ _ _ _ _|exact Kd.N_nil _ _ _ _ _|exact Kd.V_nil _ _ _ _ _|exact Kd.Q_nil _ _ _ _ _|exact Kd.S_nil _ _ _ _ _⟩,⟨by (with_reducible repeat (first|apply qa7|apply qb7|apply qc7));exact BK259.out⟩,⟨by (with_reducible repeat (first|apply qa7|apply qb7|apply qc7));exact BK260.out⟩,⟨by repeat (first|(with_reducible first|exact HB.out|apply qg7|apply qh7|apply qi7|refine qj7 ?_ GE259.out|refine qj7 ?_ GE260.out)|exact HB.out)⟩⟩
  case round =>
   clear H'
   try clear p2
   try clear c5
   try clear c5b0
   try clear c5b1
   try clear c5b2
   try clear c7
   try clear c8
   try clear hcz9_0
   try clear hcz9_1
   try clear hcz9_2
   try clear hcz9_3
   try clear hfz9_0
   try clear hfz9_1
   try clear hfz9_2
   try clear hfz9_3
   obtain ⟨x18_1,x261001_1,x261002_1,u261001,u261002,rfl,HA,HK1,HO_16,HO_261001,HO_261002,BK259,BK260,HB⟩:=hrel
   cases gk with
   | zero => exact absurd HA.out (by simp [impl_signAt.l0])
   | succ k1 =>
    have H:=HA.out
    clear HA
    simp only [impl_signAt.l0] at H
    by_cases c14 : x18_1 < (y262.length : Int)
    ·
     rw [if_pos c14] at H
     have c14b0 : decide (x18_1 < (y262.length : Int)) = true:=decide_eq_true c14
     clear c14
     by_cases c15 : 0 ≤ x18_1
     ·
      rw [if_pos c15] at H
      have c15b0 : decide (0 ≤ x18_1) = true:=decide_eq_true c15
      clear c15
      by_cases c16 : x18_1 < (y262.length : Int)
      ·
       rw [if_pos c16] at H
       have c16b0 : decide (x18_1 < (y262.length : Int)) = true:=decide_eq_true c16
       clear c16
       replace H:=Option.bind_eq_some_iff.mp H
       obtain ⟨t266,A170,H⟩:=H
       replace H : (if x261001_1.length < 8796093022208 then ((impl_secret.f k1 a0 a1 x18_1 (wrap64 (1 - (((rd y262 x18_1) - 48) % 256)))).bind fun t270 => ((impl_hash.f t270).bind fun t271 => (if x261002_1.length < 8796093022208 then (impl_signAt.l0 k1 a0 a1 y262 (y262.length : Int) (wrap64 (x18_1 + 1)) a1 (x261001_1 ++ [t266]) (x261002_1 ++ [t271])) else (none)))) else (none)) = some (r1,r2,r3,r4):=H
       have A17:=qk7 A170
       clear A170
       by_cases c18 : x261001_1.length < 8796093022208
       ·
        rw [if_pos c18] at H
        have LMc18:=qk7 c18
        clear c18
        obtain ⟨y267,hy267⟩ : ∃ y_ : List ByteArray,y_ = (x261001_1 ++ [t266]):=⟨_,rfl⟩
        replace H : ((impl_secret.f k1 a0 a1 x18_1 (wrap64 (1 - (((rd y262 x18_1) - 48) % 256)))).bind fun t270 => ((impl_hash.f t270).bind fun t271 => (if x261002_1.length < 8796093022208 then (impl_signAt.l0 k1 a0 a1 y262 (y262.length : Int) (wrap64 (x18_1 + 1)) a1 y267 (x261002_1 ++ [t271])) else (none)))) = some (r1,r2,r3,r4):=by first|(rw [hy267];with_reducible exact H)|(have H2_:=(Option.bind_some _ _).symm.trans H;rw [hy267];with_reducible exact H2_)|(have H2_:=(Option.bind_some _ _).symm.trans H;with_reducible exact H2_)|with_reducible exact H|(rw [hy267];exact H)|exact H
        have Ny267:=qk7 hy267
        clear hy267
        replace H:=Option.bind_eq_some_iff.mp H
        obtain ⟨t270,A190,H⟩:=H
        replace H : ((impl_hash.f t270).bind fun t271 => (if x261002_1.length < 8796093022208 then (impl_signAt.l0 k1 a0 a1 y262 (y262.length : Int) (wrap64 (x18_1 + 1)) a1 y267 (x261002_1 ++ [t271])) else (none))) = some (r1,r2,r3,r4):=H
        have A19:=qk7 A190
        clear A190
        replace H:=Option.bind_eq_some_iff.mp H
        obtain ⟨t271,A200,H⟩:=H
        replace H : (if x261002_1.length < 8796093022208 then (impl_signAt.l0 k1 a0 a1 y262 (y262.length : Int) (wrap64 (x18_1 + 1)) a1 y267 (x261002_1 ++ [t271])) else (none)) = some (r1,r2,r3,r4):=H
        have A20:=qk7 A200
        clear A200
        by_cases c21 : x261002_1.length < 8796093022208
        ·
         rw [if_pos c21] at H
         have LMc21:=qk7 c21
         clear c21
         obtain ⟨y272,hy272⟩ : ∃ y_ : List ByteArray,y_ = (x261002_1 ++ [t271]):=⟨_,rfl⟩
         replace H : (impl_signAt.l0 k1 a0 a1 y262 (y262.length : Int) (wrap64 (x18_1 + 1)) a1 y267 y272) = some (r1,r2,r3,r4):=by first|(rw [hy272];with_reducible exact H)|(have H2_:=(Option.bind_some _ _).symm.trans H;rw [hy272];with_reducible exact H2_)|(have H2_:=(Option.bind_some _ _).symm.trans H;with_reducible exact H2_)|with_reducible exact H|(rw [hy272];exact H)|exact H
         have Ny272:=qk7 hy272
         clear hy272
         have H':=qk7 H
         clear H
         have p265 : 0 ≤ (x18_1 : Int):=of_decide_eq_true (by first|(with_reducible assumption)|assumption)
         have q265 : x18_1 < (y262.length : Int):=of_decide_eq_true (by first|(with_reducible assumption)|assumption)
         obtain ⟨ad265,e265,hx265_0⟩:=Kd.at_int (Kd.R_reads' HO_16.out).2.2 x18_1 p265 q265
         cases e265
         replace p265:=eq_true p265
         replace q265:=eq_true q265
         try go_wp2
         have n0_:=qk7 (qf7 HO_16.out)
         have n1_:=qk7 (qf7 HO_261001.out)
         have n2_:=qk7 (qf7 HO_261002.out)
         have n3_:=qk7 (qb7 BK259.out)
         have n4_:=qk7 (qb7 BK260.out)
         have n5_:=qk7 (qi7 HB.out)
         clear HO_16
         clear HO_261001
         clear HO_261002
         clear BK259
         clear BK260
         clear HB
         have HO_16:=n0_
         have HO_261001:=n1_
         have HO_261002:=n2_
         have BK259:=n3_
         have BK260:=n4_
         have HB:=n5_
         clear n0_ n1_ n2_ n3_ n4_ n5_
         refine start_ (n:=11) (S:=fun w' => w'.cell? ⟨gb260,0,none⟩ = some (.int .i64 a1) ∧ w'.cell? ⟨gb260,1,none⟩ = some (u261001) ∧ w'.cell? ⟨gb260,2,none⟩ = some (u261002) ∧ w'.cell? ⟨gb260,3,none⟩ = some (.slice none 0 0)) (ds:=[10]) #[false,false,false,false,false,false,false,false,false,false,false] (by kernel_rfl) rfl rfl ⟨(blk_cell BK260.out 0).trans rfl,(blk_cell BK260.out 1).trans rfl,(blk_cell BK260.out 2).trans rfl,(blk_cell BK260.out 3).trans rfl⟩ (fun hHeld => ?_);refine with_tabW impl_signAt.tab6 impl_signAt.bits6 (fun HT_ HW_ => ?_)
         generalize wr.drew = w22 at HO_16 HO_261001 HO_261002 BK259 BK260 HB hHeld ⊢
         refine pure_ (i:=0) (N:=some 26) (v:=?_) (a':=?_) #[true,false,false,false,false,false,false,false,false,false,false] rfl rfl (any_of HT_.out (by kernel_rfl)) (fun _ _ _ h => h) (Or.inl ⟨by rfl,?_⟩) ?_ ?_
         rotate_left
         ·
          intro w'
          go_simp
          with_reducible rfl
         rotate_left
         ·
          simp only [Act.put,List.setIfInBounds_toArray,List.set_cons_zero,List.set_cons_succ,i64_w,i32_w]
          rfl
         refine pure_ (i:=2) (N:=some 28) (v:=?_) (a':=?_) #[true,false,true,false,false,false,false,false,false,false,false] rfl rfl (any_of HT_.out (by kernel_rfl)) (fun _ _ _ h => h) (Or.inl ⟨by rfl,?_⟩) ?_ ?_
         rotate_left
         ·
          intro w'
          go_simp
          with_reducible rfl
         rotate_left
         ·
          simp only [Act.put,List.setIfInBounds_toArray,List.set_cons_zero,List.set_cons_succ,i64_w,i32_w]
          rfl
         refine pure_ (i:=3) (N:=some 29) (v:=?_) (a':=?_) #[true,false,true,true,false,false,false,false,false,false,false] rfl rfl (any_of HT_.out (by kernel_rfl)) (fun _ _ _ h => h) (Or.inl ⟨by rfl,?_⟩) ?_ ?_
         rotate_left
         ·
          intro w'
          go_simp
          with_reducible rfl
         rotate_left
         ·
          simp only [Act.put,List.setIfInBounds_toArray,List.set_cons_zero,List.set_cons_succ,i64_w,i32_w]
          rfl
         refine pure_ (i:=4) (N:=some 30) (v:=?_) (a':=?_) #[true,false,true,true,true,false,false,false,false,false,false] rfl rfl (any_of HT_.out (by kernel_rfl)) (fun _ _ _ h => h) (Or.inl ⟨by rfl,?_⟩) ?_ ?_
         rotate_left
         ·
          intro w'
          go_simp
          with_reducible rfl
         rotate_left
         ·
          simp only [Act.put,List.setIfInBounds_toArray,List.set_cons_zero,List.set_cons_succ,i64_w,i32_w]
          rfl
         refine pure_ (i:=5) (N:=some 31) (v:=?_) (a':=?_) #[true,false,true,true,true,true,false,false,false,false,false] rfl rfl (any_of HT_.out (by kernel_rfl)) (fun _ _ _ h => h) (Or.inl ⟨by rfl,?_⟩) ?_ ?_
         rotate_left
         ·
          intro w'
          go_simp
          with_reducible rfl
         rotate_left
         ·
          simp only [Act.put,List.setIfInBounds_toArray,List.set_cons_zero,List.set_cons_succ,i64_w,i32_w]
          rfl
         refine take_ (i:=1) (N:=some 27) (v:=?_) (a':=?_) #[true,true,true,true,true,true,false,false,false,false,false] rfl rfl (take_ofW HT_.out HW_.out (by kernel_rfl)) (fun _ _ _ h => h) (Or.inl ⟨by rfl,?_⟩) hHeld ?_ ?_
         rotate_left
         ·
          rintro w' ⟨s0,s1,s2,s3⟩
          go_simp
          with_reducible rfl
         rotate_left
         ·
          simp only [Act.put,List.setIfInBounds_toArray,List.set_cons_zero,List.set_cons_succ,i64_w,i32_w]
          rfl
         refine one_ (i:=6) (N:=some 32) #[true,true,true,true,true,true,true,false,false,false,false] rfl rfl (one_of HT_.out (by kernel_rfl)) (by decide) (fun K hK => ?_)
         refine goes_ Tryd.func74 (by kernel_rfl) rfl #[.string a0,.int .i64 a1,.int .i64 x18_1,.int .i64 (((rd y262 x18_1) - 48) % 256)] (by rfl) rfl rfl (by (try simp only [List.map_toArray,List.map_cons,List.map_nil]);first|done|rfl|(simp only [List.length_drop,List.length_take];rfl)) ?_
         with_reducible refine (impl_secret.calls k1 a0 a1 x18_1 (((rd y262 x18_1) - 48) % 256) t266 _ ?side1 A17.out).mono ?_
         (case side1 => exact Go.Proofs.YtmkaknegjahjaaaDoor.Sha.glob_below hG_ (by repeat (first|(with_reducible first|exact HB.out|apply qg7|apply qh7|apply qi7|refine qj7 ?_ GE259.out|refine qj7 ?_ GE260.out)|exact HB.out)))
         rintro e w23 ⟨rfl,hb⟩
         refine ⟨_,rfl,?_⟩
         have n0_:=qk7 (Kd.R_below (by (with_reducible repeat (first|apply qd7|apply qe7|apply qf7));exact HO_16.out) hb)
         have n1_:=qk7 (Kd.R_below (by (with_reducible repeat (first|apply qd7|apply qe7|apply qf7));exact HO_261001.out) hb)
         have n2_:=qk7 (Kd.R_below (by (with_reducible repeat (first|apply qd7|apply qe7|apply qf7));exact HO_261002.out) hb)
         have n3_:=qk7 (blk_below (g:=gb259) (o:=.cells #[.int .i64 0,.slice none 0 0,.slice none 0 0,.slice none 0 0] 33 (0,0)) (by (with_reducible repeat (first|apply qa7|apply qb7|apply qc7));exact BK259.out) hb)
         have n4_:=qk7 (blk_below (g:=gb260) (o:=.cells #[.int .i64 a1,u261001,u261002,.slice none 0 0] 33 (0,0)) (by (with_reducible repeat (first|apply qa7|apply qb7|apply qc7));exact BK260.out) hb)
         have n5_:=qk7 (below_step (by repeat (first|(with_reducible first|exact HB.out|apply qg7|apply qh7|apply qi7|refine qj7 ?_ GE259.out|refine qj7 ?_ GE260.out)|exact HB.out)) hb)
         clear HO_16
         clear HO_261001
         clear HO_261002
         clear BK259
         clear BK260
         clear HB
         have HO_16:=n0_
         have HO_261001:=n1_
         have HO_261002:=n2_
         have BK259:=n3_
         have BK260:=n4_
         have HB:=n5_
         clear n0_ n1_ n2_ n3_ n4_ n5_
         (try clear hb)
         (try clear hb2)
         (try clear hk)
         (try clear hi)
         refine hK.out _ _ ⟨(blk_cell BK260.out 0).trans rfl,(blk_cell BK260.out 1).trans rfl,(blk_cell BK260.out 2).trans rfl,(blk_cell BK260.out 3).trans rfl⟩ (fun hHeld => ?_)
         clear hK K
         refine norm_ (a':=?_) ?_ ?_
         rotate_left
         ·
          show Act.put _ (some 32) _ = _
          simp only [Act.put,List.setIfInBounds_toArray,List.set_cons_zero,List.set_cons_succ,i64_w,i32_w]
          rfl
         refine one_ (i:=7) (N:=some 33) #[true,true,true,true,true,true,true,true,false,false,false] rfl rfl (one_of HT_.out (by kernel_rfl)) (by decide) (fun K hK => ?_)
         refine value_ (w1:=?_) (v:=?_) (by rfl) rfl ?_ ?_
         rotate_left 2
         ·
          go_simp
          constructor
          ·
           rfl
          ·
           rfl
         refine hK.out _ _ ⟨(blk_cell (qc7 BK260.out _) 0).trans rfl,(blk_cell (qc7 BK260.out _) 1).trans rfl,(blk_cell (qc7 BK260.out _) 2).trans rfl,(blk_cell (qc7 BK260.out _) 3).trans rfl⟩ (fun hHeld => ?_)
         clear hK K
         refine norm_ (a':=?_) ?_ ?_
         rotate_left
         ·
          show Act.put _ (some 33) _ = _
          simp only [Act.put,List.setIfInBounds_toArray,List.set_cons_zero,List.set_cons_succ,i64_w,i32_w]
          rfl
         refine one_ (i:=8) (N:=some 34) #[true,true,true,true,true,true,true,true,true,false,false] rfl rfl (one_of HT_.out (by kernel_rfl)) (by decide) (fun K hK => ?_)
         refine Kd.R_append_step Kd.string (w0:=w) w.heap.size (by rfl) (.tmp 27) (.tmp 33) 31 9 (.string ⟨#[]⟩) 16 rfl Tryd.underlying31 info9 rfl (by decide) (by omega) u261001 x261001_1 t266 [.string t266] (fun k_ => some k_ ≠ (u261002 : Value).ownBlock) (fun _ => False) rfl rfl ?aP (fun _ hk => hk.elim) ?aF ?aO ?aB ?aS ?aL ?_
         (case aP => exact rfl)
         (case aB => exact (by repeat (first|(with_reducible first|exact HB.out|apply qg7|apply qh7|apply qi7|refine qj7 ?_ GE259.out|refine qj7 ?_ GE260.out)|exact HB.out)))
         (case aF => exact (fun k_ hk => Kd.fresh' (Kd.R_lt (by (with_reducible repeat (first|apply qd7|apply qe7|apply qf7));exact HO_261002.out)) k_ hk))
         (case aO => exact (by (with_reducible repeat (first|apply qd7|apply qe7|apply qf7));exact HO_261001.out))
         (case aS => exact (below_size (by repeat (first|(with_reducible first|exact HB.out|apply qg7|apply qh7|apply qi7|refine qj7 ?_ GE259.out|refine qj7 ?_ GE260.out)|exact HB.out))))
         (case aL => have:=LMc18.out;omega)
         intro v268 w24 ho hb hg hat
         rw [← Ny267.out] at ho
         have n0_:=qk7 (Kd.R_over' (by (with_reducible repeat (first|apply qd7|apply qe7|apply qf7));exact HO_16.out) (Kd.R_typed (by (with_reducible repeat (first|apply qd7|apply qe7|apply qf7));exact HO_261001.out)) (by decide) hg)
         have n1_:=qk7 (Kd.R_after (ok:=(fun _ => True)) (by (with_reducible repeat (first|apply qd7|apply qe7|apply qf7));exact ql7 HO_261002.out (fun _ hk => ⟨trivial,hk⟩)) hg hat)
         have n2_:=qk7 (blk_grown (g:=gb259) (o:=.cells #[.int .i64 0,.slice none 0 0,.slice none 0 0,.slice none 0 0] 33 (0,0)) (by (with_reducible repeat (first|apply qa7|apply qb7|apply qc7));exact BK259.out) hg (Kd.R_ne HO_261001.out BK259.out (by decide)))
         have n3_:=qk7 (blk_grown (g:=gb260) (o:=.cells #[.int .i64 a1,u261001,u261002,.slice none 0 0] 33 (0,0)) (by (with_reducible repeat (first|apply qa7|apply qb7|apply qc7));exact BK260.out) hg (Kd.R_ne HO_261001.out BK260.out (by decide)))
         have n4_:=qk7 (hb)
         have n5_:=qk7 (ho)
         clear HO_16
         clear HO_261002
         clear BK259
         clear BK260
         clear HB
         clear HO_261001
         have HO_16:=n0_
         have HO_261002:=n1_
         have BK259:=n2_
         have BK260:=n3_
         have HB:=n4_
         have HO269:=n5_
         clear n0_ n1_ n2_ n3_ n4_ n5_
         clear ho hb hg hat
         obtain ⟨Ao25,co25,eo25⟩:=Kd.R_slice HO269.out
         (first|subst eo25|(injection eo25 with f1_ f2_ f3_;have f4_:=f1_.symm;have f5_:=f3_.symm;clear f1_ f2_ f3_;subst f4_;subst f5_))
         refine hK.out _ _ ⟨(blk_cell BK260.out 0).trans rfl,(blk_cell BK260.out 1).trans rfl,(blk_cell BK260.out 2).trans rfl,(blk_cell BK260.out 3).trans rfl⟩ (fun hHeld => ?_)
         clear hK K
         refine norm_ (a':=?_) ?_ ?_
         rotate_left
         ·
          show Act.put _ (some 34) _ = _
          simp only [Act.put,List.setIfInBounds_toArray,List.set_cons_zero,List.set_cons_succ,i64_w,i32_w]
          rfl
         refine pure_ (i:=9) (N:=some 35) (v:=?_) (a':=?_) #[true,true,true,true,true,true,true,true,true,true,false] rfl rfl (any_of HT_.out (by kernel_rfl)) (fun _ _ _ h => h) (Or.inl ⟨by rfl,?_⟩) ?_ ?_
         rotate_left
         ·
          intro w'
          go_simp
          with_reducible rfl
         rotate_left
         ·
          simp only [Act.put,List.setIfInBounds_toArray,List.set_cons_zero,List.set_cons_succ,i64_w,i32_w]
          rfl
         refine last_ (i:=10) (N:=none) #[true,true,true,true,true,true,true,true,true,true,true] rfl rfl (one_of HT_.out (by kernel_rfl)) (by decide) (fun K hK => ?_)
         have hs26 : w24.cell? ⟨gb260,1,none⟩ = some (u261001):=(blk_cell BK260.out 1).trans rfl
         have hfs26:=blk_frozen BK260.out 1
         have hns26_0:=NB259_260.out
         have hms26_0:=NB260_259.out
         refine skip_ (w1:=?_) (by rfl) rfl ?_ ?_
         rotate_left
         ·
          go_simp
          rfl
         refine hK.out _ _ ?_
         clear hK K
         refine done_ (done_of HT_.out (by kernel_rfl)) ?_
         try go_wp2
         have n0_ : Aside0 (Kd.R (Kd.int .u8) 5 (w24.setCell ⟨gb260,1,none⟩ (.slice Ao25 y267.length co25)) w.heap.size (fun _ => True) (.slice (some ad265) y262.length co13) y262):=⟨by (with_reducible repeat (first|apply qd7|apply qe7|apply qf7));exact ql7 (Kd.R_far (p:=⟨gb260,1,none⟩) (Kd.R_types HO_16.out BK260.out (by decide)) (fun _ hk => hk.2) (.slice Ao25 y267.length co25)) (fun _ hk => trivial)⟩
         have n1_ : Aside0 (Kd.R Kd.string 9 (w24.setCell ⟨gb260,1,none⟩ (.slice Ao25 y267.length co25)) w.heap.size (fun k_ => some k_ ≠ (.slice Ao25 y267.length co25 : Value).ownBlock) u261002 x261002_1):=⟨by (with_reducible repeat (first|apply qd7|apply qe7|apply qf7));exact ql7 (Kd.R_far (p:=⟨gb260,1,none⟩) (Kd.R_types HO_261002.out BK260.out (by decide)) (fun _ hk => hk.2) (.slice Ao25 y267.length co25)) (fun _ hk => hk.1.2)⟩
         have n2_ : Aside0 (Kd.R Kd.string 9 (w24.setCell ⟨gb260,1,none⟩ (.slice Ao25 y267.length co25)) w.heap.size (fun k_ => some k_ ≠ (u261002 : Value).ownBlock) (.slice Ao25 y267.length co25) y267):=⟨by (with_reducible repeat (first|apply qd7|apply qe7|apply qf7));exact ql7 (Kd.R_far (p:=⟨gb260,1,none⟩) (Kd.R_types HO269.out BK260.out (by decide)) (fun _ hk => hk.2) (.slice Ao25 y267.length co25)) (fun _ hk => hk.1)⟩
         have n3_ : Aside0 ((w24.setCell ⟨gb260,1,none⟩ (.slice Ao25 y267.length co25)).heap[gb259]? = some (.cells #[.int .i64 0,.slice none 0 0,.slice none 0 0,.slice none 0 0] 33 (0,0))):=⟨by (with_reducible repeat (first|apply qa7|apply qb7|apply qc7));refine blk_far ?_ NB259_260.out _;(with_reducible repeat (first|apply qa7|apply qb7|apply qc7));exact BK259.out⟩
         have n4_ : Aside0 ((w24.setCell ⟨gb260,1,none⟩ (.slice Ao25 y267.length co25)).heap[gb260]? = some (.cells #[.int .i64 a1,.slice Ao25 y267.length co25,u261002,.slice none 0 0] 33 (0,0))):=⟨by (with_reducible repeat (first|apply qa7|apply qb7|apply qc7));refine blk_put (cs:=#[.int .i64 a1,u261001,u261002,.slice none 0 0]) ?_ 1 _ rfl;(with_reducible repeat (first|apply qa7|apply qb7|apply qc7));exact BK260.out⟩
         have n5_ : Aside0 (Below w.heap.size w (w24.setCell ⟨gb260,1,none⟩ (.slice Ao25 y267.length co25))):=⟨by repeat (first|(with_reducible first|exact HB.out|apply qg7|apply qh7|apply qi7|refine qj7 ?_ GE259.out|refine qj7 ?_ GE260.out)|exact HB.out)⟩
         (try clear HO_16)
         (try clear HO_261002)
         (try clear HO269)
         (try clear BK259)
         (try clear BK260)
         (try clear HB)
         generalize (w24.setCell ⟨gb260,1,none⟩ (.slice Ao25 y267.length co25)) = w27 at n0_ n1_ n2_ n3_ n4_ n5_ ⊢
         have HO_16:=n0_
         have HO_261002:=n1_
         have HO269:=n2_
         have BK259:=n3_
         have BK260:=n4_
         have HB:=n5_
         clear n0_ n1_ n2_ n3_ n4_ n5_
         have n0_:=qk7 (qf7 HO_16.out)
         have n1_:=qk7 (qf7 HO_261002.out)
         have n2_:=qk7 (qf7 HO269.out)
         have n3_:=qk7 (qb7 BK259.out)
         have n4_:=qk7 (qb7 BK260.out)
         have n5_:=qk7 (qi7 HB.out)
         clear HO_16
         clear HO_261002
         clear HO269
         clear BK259
         clear BK260
         clear HB
         have HO_16:=n0_
         have HO_261002:=n1_
         have HO269:=n2_
         have BK259:=n3_
         have BK260:=n4_
         have HB:=n5_
         clear n0_ n1_ n2_ n3_ n4_ n5_
         refine start_ (n:=13) (S:=fun w' => w'.cell? ⟨gb260,0,none⟩ = some (.int .i64 a1) ∧ w'.cell? ⟨gb260,1,none⟩ = some (.slice Ao25 y267.length co25) ∧ w'.cell? ⟨gb260,2,none⟩ = some (u261002) ∧ w'.cell? ⟨gb260,3,none⟩ = some (.slice none 0 0)) (ds:=[12]) #[false,false,false,false,false,false,false,false,false,false,false,false,false] (by kernel_rfl) rfl rfl ⟨(blk_cell BK260.out 0).trans rfl,(blk_cell BK260.out 1).trans rfl,(blk_cell BK260.out 2).trans rfl,(blk_cell BK260.out 3).trans rfl⟩ (fun hHeld => ?_);refine with_tabW impl_signAt.tab7 impl_signAt.bits7 (fun HT_ HW_ => ?_)
         generalize w27.drew = w28 at HO_16 HO_261002 HO269 BK259 BK260 HB hHeld ⊢
         refine pure_ (i:=0) (N:=some 36) (v:=?_) (a':=?_) #[true,false,false,false,false,false,false,false,false,false,false,false,false] rfl rfl (any_of HT_.out (by kernel_rfl)) (fun _ _ _ h => h) (Or.inl ⟨by rfl,?_⟩) ?_ ?_
         rotate_left
         ·
          intro w'
          go_simp
          with_reducible rfl
         rotate_left
         ·
          simp only [Act.put,List.setIfInBounds_toArray,List.set_cons_zero,List.set_cons_succ,i64_w,i32_w]
          rfl
         refine pure_ (i:=2) (N:=some 38) (v:=?_) (a':=?_) #[true,false,true,false,false,false,false,false,false,false,false,false,false] rfl rfl (any_of HT_.out (by kernel_rfl)) (fun _ _ _ h => h) (Or.inl ⟨by rfl,?_⟩) ?_ ?_
         rotate_left
         ·
          intro w'
          go_simp
          with_reducible rfl
         rotate_left
         ·
          simp only [Act.put,List.setIfInBounds_toArray,List.set_cons_zero,List.set_cons_succ,i64_w,i32_w]
          rfl
         refine pure_ (i:=3) (N:=some 39) (v:=?_) (a':=?_) #[true,false,true,true,false,false,false,false,false,false,false,false,false] rfl rfl (any_of HT_.out (by kernel_rfl)) (fun _ _ _ h => h) (Or.inl ⟨by rfl,?_⟩) ?_ ?_
         rotate_left
         ·
          intro w'
          go_simp
          with_reducible rfl
         rotate_left
         ·
          simp only [Act.put,List.setIfInBounds_toArray,List.set_cons_zero,List.set_cons_succ,i64_w,i32_w]
          rfl
         refine pure_ (i:=4) (N:=some 40) (v:=?_) (a':=?_) #[true,false,true,true,true,false,false,false,false,false,false,false,false] rfl rfl (any_of HT_.out (by kernel_rfl)) (fun _ _ _ h => h) (Or.inl ⟨by rfl,?_⟩) ?_ ?_
         rotate_left
         ·
          intro w'
          go_simp
          with_reducible rfl
         rotate_left
         ·
          simp only [Act.put,List.setIfInBounds_toArray,List.set_cons_zero,List.set_cons_succ,i64_w,i32_w]
          rfl
         refine pure_ (i:=5) (N:=some 41) (v:=?_) (a':=?_) #[true,false,true,true,true,true,false,false,false,false,false,false,false] rfl rfl (any_of HT_.out (by kernel_rfl)) (fun _ _ _ h => h) (Or.inl ⟨by rfl,?_⟩) ?_ ?_
         rotate_left
         ·
          intro w'
          go_simp
          with_reducible rfl
         rotate_left
         ·
          simp only [Act.put,List.setIfInBounds_toArray,List.set_cons_zero,List.set_cons_succ,i64_w,i32_w]
          rfl
         refine pure_ (i:=6) (N:=some 42) (v:=?_) (a':=?_) #[true,false,true,true,true,true,true,false,false,false,false,false,false] rfl rfl (any_of HT_.out (by kernel_rfl)) (fun _ _ _ h => h) (Or.inl ⟨by rfl,?_⟩) ?_ ?_
         rotate_left
         ·
          intro w'
          go_simp
          with_reducible rfl
         rotate_left
         ·
          simp only [Act.put,List.setIfInBounds_toArray,List.set_cons_zero,List.set_cons_succ,i64_w,i32_w]
          rfl
         refine take_ (i:=1) (N:=some 37) (v:=?_) (a':=?_) #[true,true,true,true,true,true,true,false,false,false,false,false,false] rfl rfl (take_ofW HT_.out HW_.out (by kernel_rfl)) (fun _ _ _ h => h) (Or.inl ⟨by rfl,?_⟩) hHeld ?_ ?_
         rotate_left
         ·
          rintro w' ⟨s0,s1,s2,s3⟩
          go_simp
          with_reducible rfl
         rotate_left
         ·
          simp only [Act.put,List.setIfInBounds_toArray,List.set_cons_zero,List.set_cons_succ,i64_w,i32_w]
          rfl
         refine one_ (i:=7) (N:=some 43) #[true,true,true,true,true,true,true,true,false,false,false,false,false] rfl rfl (one_of HT_.out (by kernel_rfl)) (by decide) (fun K hK => ?_)
         refine goes_ Tryd.func74 (by kernel_rfl) rfl #[.string a0,.int .i64 a1,.int .i64 x18_1,.int .i64 (wrap64 (1 - (((rd y262 x18_1) - 48) % 256)))] (by rfl) rfl rfl (by (try simp only [List.map_toArray,List.map_cons,List.map_nil]);first|done|rfl|(simp only [List.length_drop,List.length_take];rfl)) ?_
         with_reducible refine (impl_secret.calls k1 a0 a1 x18_1 (wrap64 (1 - (((rd y262 x18_1) - 48) % 256))) t270 _ ?side1 A19.out).mono ?_
         (case side1 => exact Go.Proofs.YtmkaknegjahjaaaDoor.Sha.glob_below hG_ (by repeat (first|(with_reducible first|exact HB.out|apply qg7|apply qh7|apply qi7|refine qj7 ?_ GE259.out|refine qj7 ?_ GE260.out)|exact HB.out)))
         rintro e w29 ⟨rfl,hb⟩
         refine ⟨_,rfl,?_⟩
         have n0_:=qk7 (Kd.R_below (by (with_reducible repeat (first|apply qd7|apply qe7|apply qf7));exact HO_16.out) hb)
         have n1_:=qk7 (Kd.R_below (by (with_reducible repeat (first|apply qd7|apply qe7|apply qf7));exact HO_261002.out) hb)
         have n2_:=qk7 (Kd.R_below (by (with_reducible repeat (first|apply qd7|apply qe7|apply qf7));exact HO269.out) hb)
         have n3_:=qk7 (blk_below (g:=gb259) (o:=.cells #[.int .i64 0,.slice none 0 0,.slice none 0 0,.slice none 0 0] 33 (0,0)) (by (with_reducible repeat (first|apply qa7|apply qb7|apply qc7));exact BK259.out) hb)
         have n4_:=qk7 (blk_below (g:=gb260) (o:=.cells #[.int .i64 a1,.slice Ao25 y267.length co25,u261002,.slice none 0 0] 33 (0,0)) (by (with_reducible repeat (first|apply qa7|apply qb7|apply qc7));exact BK260.out) hb)
         have n5_:=qk7 (below_step (by repeat (first|(with_reducible first|exact HB.out|apply qg7|apply qh7|apply qi7|refine qj7 ?_ GE259.out|refine qj7 ?_ GE260.out)|exact HB.out)) hb)
         clear HO_16
         clear HO_261002
         clear HO269
         clear BK259
         clear BK260
         clear HB
         have HO_16:=n0_
         have HO_261002:=n1_
         have HO269:=n2_
         have BK259:=n3_
         have BK260:=n4_
         have HB:=n5_
         clear n0_ n1_ n2_ n3_ n4_ n5_
         (try clear hb)
         (try clear hb2)
         (try clear hk)
         (try clear hi)
         refine hK.out _ _ ⟨(blk_cell BK260.out 0).trans rfl,(blk_cell BK260.out 1).trans rfl,(blk_cell BK260.out 2).trans rfl,(blk_cell BK260.out 3).trans rfl⟩ (fun hHeld => ?_)
         clear hK K
         refine norm_ (a':=?_) ?_ ?_
         rotate_left
         ·
          show Act.put _ (some 43) _ = _
          simp only [Act.put,List.setIfInBounds_toArray,List.set_cons_zero,List.set_cons_succ,i64_w,i32_w]
          rfl
         refine one_ (i:=8) (N:=some 44) #[true,true,true,true,true,true,true,true,true,false,false,false,false] rfl rfl (one_of HT_.out (by kernel_rfl)) (by decide) (fun K hK => ?_)
         refine goes_ Tryd.func50 (by kernel_rfl) rfl #[.string t270] (by rfl) rfl rfl (by (try simp only [List.map_toArray,List.map_cons,List.map_nil]);first|done|rfl|(simp only [List.length_drop,List.length_take];rfl)) ?_
         with_reducible refine (impl_hash.calls t270 t271 _ ?side1 A20.out).mono ?_
         (case side1 => exact Go.Proofs.YtmkaknegjahjaaaDoor.Sha.glob_below hG_ (by repeat (first|(with_reducible first|exact HB.out|apply qg7|apply qh7|apply qi7|refine qj7 ?_ GE259.out|refine qj7 ?_ GE260.out)|exact HB.out)))
         rintro e w30 ⟨rfl,hb⟩
         refine ⟨_,rfl,?_⟩
         have n0_:=qk7 (Kd.R_below (by (with_reducible repeat (first|apply qd7|apply qe7|apply qf7));exact HO_16.out) hb)
         have n1_:=qk7 (Kd.R_below (by (with_reducible repeat (first|apply qd7|apply qe7|apply qf7));exact HO_261002.out) hb)
         have n2_:=qk7 (Kd.R_below (by (with_reducible repeat (first|apply qd7|apply qe7|apply qf7));exact HO269.out) hb)
         have n3_:=qk7 (blk_below (g:=gb259) (o:=.cells #[.int .i64 0,.slice none 0 0,.slice none 0 0,.slice none 0 0] 33 (0,0)) (by (with_reducible repeat (first|apply qa7|apply qb7|apply qc7));exact BK259.out) hb)
         have n4_:=qk7 (blk_below (g:=gb260) (o:=.cells #[.int .i64 a1,.slice Ao25 y267.length co25,u261002,.slice none 0 0] 33 (0,0)) (by (with_reducible repeat (first|apply qa7|apply qb7|apply qc7));exact BK260.out) hb)
         have n5_:=qk7 (below_step (by repeat (first|(with_reducible first|exact HB.out|apply qg7|apply qh7|apply qi7|refine qj7 ?_ GE259.out|refine qj7 ?_ GE260.out)|exact HB.out)) hb)
         clear HO_16
         clear HO_261002
         clear HO269
         clear BK259
         clear BK260
         clear HB
         have HO_16:=n0_
         have HO_261002:=n1_
         have HO269:=n2_
         have BK259:=n3_
         have BK260:=n4_
         have HB:=n5_
         clear n0_ n1_ n2_ n3_ n4_ n5_
         (try clear hb)
         (try clear hb2)
         (try clear hk)
         (try clear hi)
         refine hK.out _ _ ⟨(blk_cell BK260.out 0).trans rfl,(blk_cell BK260.out 1).trans rfl,(blk_cell BK260.out 2).trans rfl,(blk_cell BK260.out 3).trans rfl⟩ (fun hHeld => ?_)
         clear hK K
         refine norm_ (a':=?_) ?_ ?_
         rotate_left
         ·
          show Act.put _ (some 44) _ = _
          simp only [Act.put,List.setIfInBounds_toArray,List.set_cons_zero,List.set_cons_succ,i64_w,i32_w]
          rfl
         refine one_ (i:=9) (N:=some 45) #[true,true,true,true,true,true,true,true,true,true,false,false,false] rfl rfl (one_of HT_.out (by kernel_rfl)) (by decide) (fun K hK => ?_)
         refine value_ (w1:=?_) (v:=?_) (by rfl) rfl ?_ ?_
         rotate_left 2
         ·
          go_simp
          constructor
          ·
           rfl
          ·
           rfl
         refine hK.out _ _ ⟨(blk_cell (qc7 BK260.out _) 0).trans rfl,(blk_cell (qc7 BK260.out _) 1).trans rfl,(blk_cell (qc7 BK260.out _) 2).trans rfl,(blk_cell (qc7 BK260.out _) 3).trans rfl⟩ (fun hHeld => ?_)
         clear hK K
         refine norm_ (a':=?_) ?_ ?_
         rotate_left
         ·
          show Act.put _ (some 45) _ = _
          simp only [Act.put,List.setIfInBounds_toArray,List.set_cons_zero,List.set_cons_succ,i64_w,i32_w]
          rfl
         refine one_ (i:=10) (N:=some 46) #[true,true,true,true,true,true,true,true,true,true,true,false,false] rfl rfl (one_of HT_.out (by kernel_rfl)) (by decide) (fun K hK => ?_)
         refine Kd.R_append_step Kd.string (w0:=w) w.heap.size (by rfl) (.tmp 37) (.tmp 45) 31 9 (.string ⟨#[]⟩) 16 rfl Tryd.underlying31 info9 rfl (by decide) (by omega) u261002 x261002_1 t271 [.string t271] (fun k_ => some k_ ≠ (.slice Ao25 y267.length co25 : Value).ownBlock) (fun _ => False) rfl rfl ?aP (fun _ hk => hk.elim) ?aF ?aO ?aB ?aS ?aL ?_
         (case aP => exact rfl)
         (case aB => exact (by repeat (first|(with_reducible first|exact HB.out|apply qg7|apply qh7|apply qi7|refine qj7 ?_ GE259.out|refine qj7 ?_ GE260.out)|exact HB.out)))
         (case aF => exact (fun k_ hk => Kd.fresh' (Kd.R_lt (by (with_reducible repeat (first|apply qd7|apply qe7|apply qf7));exact HO269.out)) k_ hk))
         (case aO => exact (by (with_reducible repeat (first|apply qd7|apply qe7|apply qf7));exact HO_261002.out))
         (case aS => exact (below_size (by repeat (first|(with_reducible first|exact HB.out|apply qg7|apply qh7|apply qi7|refine qj7 ?_ GE259.out|refine qj7 ?_ GE260.out)|exact HB.out))))
         (case aL => have:=LMc21.out;omega)
         intro v273 w31 ho hb hg hat
         rw [← Ny272.out] at ho
         have n0_:=qk7 (Kd.R_over' (by (with_reducible repeat (first|apply qd7|apply qe7|apply qf7));exact HO_16.out) (Kd.R_typed (by (with_reducible repeat (first|apply qd7|apply qe7|apply qf7));exact HO_261002.out)) (by decide) hg)
         have n1_:=qk7 (blk_grown (g:=gb259) (o:=.cells #[.int .i64 0,.slice none 0 0,.slice none 0 0,.slice none 0 0] 33 (0,0)) (by (with_reducible repeat (first|apply qa7|apply qb7|apply qc7));exact BK259.out) hg (Kd.R_ne HO_261002.out BK259.out (by decide)))
         have n2_:=qk7 (blk_grown (g:=gb260) (o:=.cells #[.int .i64 a1,.slice Ao25 y267.length co25,u261002,.slice none 0 0] 33 (0,0)) (by (with_reducible repeat (first|apply qa7|apply qb7|apply qc7));exact BK260.out) hg (Kd.R_ne HO_261002.out BK260.out (by decide)))
         have n3_:=qk7 (Kd.R_after (ok:=(fun _ => True)) (by (with_reducible repeat (first|apply qd7|apply qe7|apply qf7));exact ql7 HO269.out (fun _ hk => ⟨trivial,hk⟩)) hg hat)
         have n4_:=qk7 (hb)
         have n5_:=qk7 (ho)
         clear HO_16
         clear BK259
         clear BK260
         clear HO269
         clear HB
         clear HO_261002
         have HO_16:=n0_
         have BK259:=n1_
         have BK260:=n2_
         have HO269:=n3_
         have HB:=n4_
         have HO274:=n5_
         clear n0_ n1_ n2_ n3_ n4_ n5_
         clear ho hb hg hat
         obtain ⟨Ao32,co32,eo32⟩:=Kd.R_slice HO274.out
         (first|subst eo32|(injection eo32 with f1_ f2_ f3_;have f4_:=f1_.symm;have f5_:=f3_.symm;clear f1_ f2_ f3_;subst f4_;subst f5_))
         refine hK.out _ _ ⟨(blk_cell BK260.out 0).trans rfl,(blk_cell BK260.out 1).trans rfl,(blk_cell BK260.out 2).trans rfl,(blk_cell BK260.out 3).trans rfl⟩ (fun hHeld => ?_)
         clear hK K
         refine norm_ (a':=?_) ?_ ?_
         rotate_left
         ·
          show Act.put _ (some 46) _ = _
          simp only [Act.put,List.setIfInBounds_toArray,List.set_cons_zero,List.set_cons_succ,i64_w,i32_w]
          rfl
         refine pure_ (i:=11) (N:=some 47) (v:=?_) (a':=?_) #[true,true,true,true,true,true,true,true,true,true,true,true,false] rfl rfl (any_of HT_.out (by kernel_rfl)) (fun _ _ _ h => h) (Or.inl ⟨by rfl,?_⟩) ?_ ?_
         rotate_left
         ·
          intro w'
          go_simp
          with_reducible rfl
         rotate_left
         ·
          simp only [Act.put,List.setIfInBounds_toArray,List.set_cons_zero,List.set_cons_succ,i64_w,i32_w]
          rfl
         refine last_ (i:=12) (N:=none) #[true,true,true,true,true,true,true,true,true,true,true,true,true] rfl rfl (one_of HT_.out (by kernel_rfl)) (by decide) (fun K hK => ?_)
         have hs33 : w31.cell? ⟨gb260,2,none⟩ = some (u261002):=(blk_cell BK260.out 2).trans rfl
         have hfs33:=blk_frozen BK260.out 2
         have hns33_0:=NB259_260.out
         have hms33_0:=NB260_259.out
         refine skip_ (w1:=?_) (by rfl) rfl ?_ ?_
         rotate_left
         ·
          go_simp
          rfl
         refine hK.out _ _ ?_
         clear hK K
         refine done_ (done_of HT_.out (by kernel_rfl)) ?_
         try go_wp2
         go_roundg k1
         case measure => have:=HK1.out;omega
         case rel => exact ⟨(wrap64 (x18_1 + 1)),(y267),(y272),(.slice Ao25 y267.length co25),(.slice Ao32 y272.length co32),(by first|rfl|(simp;done)|(simp [*];done)),H',⟨by have:=HK1.out;omega⟩,⟨by (with_reducible repeat (first|apply qd7|apply qe7|apply qf7));exact ql7 (Kd.R_far (p:=⟨gb260,2,none⟩) (Kd.R_types HO_16.out BK260.out (by decide)) (fun _ hk => hk.2) (.slice Ao32 y272.length co32)) (fun _ hk => trivial)⟩,⟨by (with_reducible repeat (first|apply qd7|apply qe7|apply qf7));exact ql7 (Kd.R_far (p:=⟨gb260,2,none⟩) (Kd.R_types HO269.out BK260.out (by decide)) (fun _ hk => hk.2) (.slice Ao32 y272.length co32)) (fun _ hk => hk.1.2)⟩,⟨by (with_reducible repeat (first|apply qd7|apply qe7|apply qf7));exact ql7 (Kd.R_far (p:=⟨gb260,2,none⟩) (Kd.R_types HO274.out BK260.out (by decide)) (fun _ hk => hk.2) (.slice Ao32 y272.length co32)) (fun _ hk => hk.1)⟩,⟨by (with_reducible repeat (first|apply qa7|apply qb7|apply qc7));refine blk_far ?_ NB259_260.out _;(with_reducible repeat (first|apply qa7|apply qb7|apply qc7));exact BK259.out⟩,⟨by (with_reducible repeat (first|apply qa7|apply qb7|apply qc7));refine blk_put (cs:=#[.int .i64 a1,.slice Ao25 y267.length co25,u261002,.slice none 0 0]) ?_ 2 _ rfl;(with_reducible repeat (first|apply qa7|apply qb7|apply qc7));exact BK260.out⟩,⟨by repeat (first|(with_reducible first|exact HB.out|apply qg7|apply qh7|apply qi7|refine qj7 ?_ GE259.out|refine qj7 ?_ GE260.out)|exact HB.out)⟩⟩
        ·
         rw [if_neg c21] at H
         exact absurd H (by simp)
       ·
        rw [if_neg c18] at H
        exact absurd H (by simp)
      ·
       rw [if_neg c16] at H
       exact absurd H (by simp)
     ·
      rw [if_neg c15] at H
      exact absurd H (by simp)
    ·
     rw [if_neg c14] at H
     have c14b0 : decide (x18_1 < (y262.length : Int)) = false:=decide_eq_false c14
     clear c14
     replace H:=Option.bind_eq_some_iff.mp H
     obtain ⟨t275,A340,H⟩:=H
     replace H : (impl_signAt.l1 k1 a1 t275 a1 x261001_1 x261002_1 ([] : List ByteArray)) = some (r1,r2,r3,r4):=H
     have A34:=qk7 A340
     clear A340
     have H':=qk7 H
     clear H
     go_wp2_with (first|((with_reducible refine gate_callee (f:=106) rfl ?_);refine goesL_ (some 50) rfl rfl Tryd.func106 (by kernel_rfl) rfl #[.string a0] rfl (by (try simp only [List.map_toArray,List.map_cons,List.map_nil]);first|done|rfl|(simp only [List.length_drop,List.length_take];rfl)) ?_;(with_reducible refine (impl_keys.calls k1 a0 t275 _ ?side1 A34.out).mono ?_);(case side1 => exact Go.Proofs.YtmkaknegjahjaaaDoor.Sha.glob_below hG_ (by repeat (first|(with_reducible first|exact HB.out|apply qg7|apply qh7|apply qi7|refine qj7 ?_ GE259.out|refine qj7 ?_ GE260.out)|exact HB.out)));rintro e w35 ⟨v276,rfl,ho0,hb⟩;refine ⟨_,rfl,?_⟩;have n0_:=qk7 (Kd.R_below (by (with_reducible repeat (first|apply qd7|apply qe7|apply qf7));exact HO_16.out) hb);have n1_:=qk7 (Kd.R_elder' (by (with_reducible repeat (first|apply qd7|apply qe7|apply qf7));exact HO_261001.out) (Kd.R_base ho0) hb);have n2_:=qk7 (Kd.R_elder' (by (with_reducible repeat (first|apply qd7|apply qe7|apply qf7));exact HO_261002.out) (Kd.R_base ho0) hb);have n3_:=qk7 (Kd.R_lower (Kd.R_new' (Kd.R_new' ho0 (Kd.R_lt (by (with_reducible repeat (first|apply qd7|apply qe7|apply qf7));exact HO_261001.out))) (Kd.R_lt (by (with_reducible repeat (first|apply qd7|apply qe7|apply qf7));exact HO_261002.out))) (below_size (by repeat (first|(with_reducible first|exact HB.out|apply qg7|apply qh7|apply qi7|refine qj7 ?_ GE259.out|refine qj7 ?_ GE260.out)|exact HB.out))));have n4_:=qk7 (blk_below (g:=gb259) (o:=.cells #[.int .i64 0,.slice none 0 0,.slice none 0 0,.slice none 0 0] 33 (0,0)) (by (with_reducible repeat (first|apply qa7|apply qb7|apply qc7));exact BK259.out) hb);have n5_:=qk7 (blk_below (g:=gb260) (o:=.cells #[.int .i64 a1,u261001,u261002,.slice none 0 0] 33 (0,0)) (by (with_reducible repeat (first|apply qa7|apply qb7|apply qc7));exact BK260.out) hb);have n6_:=qk7 (below_step (by repeat (first|(with_reducible first|exact HB.out|apply qg7|apply qh7|apply qi7|refine qj7 ?_ GE259.out|refine qj7 ?_ GE260.out)|exact HB.out)) hb);clear HO_16;clear HO_261001;clear HO_261002;clear BK259;clear BK260;clear HB;have HO_16:=n0_;have HO_261001:=n1_;have HO_261002:=n2_;have HO277:=n3_;have BK259:=n4_;have BK260:=n5_;have HB:=n6_;clear n0_ n1_ n2_ n3_ n4_ n5_ n6_;(try clear hb);(try clear hb2);(try clear hk);(try clear hi);(try clear ho0)))
     go_loopg [1,11] k1 (fun kq v1 v11 w' => ∃ (x1_2 : Int) (x11_2 : List ByteArray) (x261003_2 : List ByteArray) (u261003 : Value),v1 = .int .i64 x1_2 ∧ Aside0 (impl_signAt.l1 kq x1_2 x11_2 a1 x261001_1 x261002_1 x261003_2 = some (r1,r2,r3,r4)) ∧ Aside0 (kq ≤ k1) ∧ Aside0 (Kd.R Kd.string 9 w' w.heap.size (fun k_ => some k_ ≠ (u261001 : Value).ownBlock ∧ some k_ ≠ (u261002 : Value).ownBlock ∧ some k_ ≠ (u261003 : Value).ownBlock) v11 x11_2) ∧ Aside0 (Kd.R Kd.string 9 w' w.heap.size (fun k_ => some k_ ≠ (v11 : Value).ownBlock ∧ some k_ ≠ (u261002 : Value).ownBlock ∧ some k_ ≠ (u261003 : Value).ownBlock) u261001 x261001_1) ∧ Aside0 (Kd.R Kd.string 9 w' w.heap.size (fun k_ => some k_ ≠ (v11 : Value).ownBlock ∧ some k_ ≠ (u261001 : Value).ownBlock ∧ some k_ ≠ (u261003 : Value).ownBlock) u261002 x261002_1) ∧ Aside0 (Kd.R Kd.string 9 w' w.heap.size (fun k_ => some k_ ≠ (v11 : Value).ownBlock ∧ some k_ ≠ (u261001 : Value).ownBlock ∧ some k_ ≠ (u261002 : Value).ownBlock) u261003 x261003_2) ∧ Aside0 (w'.heap[gb259]? = some (.cells #[.int .i64 0,(.slice none 0 0),(.slice none 0 0),(.slice none 0 0)] 33 (0,0))) ∧ Aside0 (w'.heap[gb260]? = some (.cells #[.int .i64 a1,u261001,u261002,u261003] 33 (0,0))) ∧ Aside0 (Below w.heap.size w w'))
     case atStart => exact ⟨(a1),(t275),(([] : List ByteArray)),(.slice none 0 0),(by first|rfl|(simp;done)|(simp [*];done)),H',⟨Nat.le_refl _⟩,⟨by (with_reducible repeat (first|apply qd7|apply qe7|apply qf7));exact ql7 HO277.out (fun _ hk => ⟨hk.1.2,⟨hk.2,(by simp [Value.ownBlock])⟩⟩)⟩,⟨by (with_reducible repeat (first|apply qd7|apply qe7|apply qf7));exact ql7 HO_261001.out (fun _ hk => ⟨hk.2,⟨hk.1,(by simp [Value.ownBlock])⟩⟩)⟩,⟨by (with_reducible repeat (first|apply qd7|apply qe7|apply qf7));exact ql7 HO_261002.out (fun _ hk => ⟨hk.2,⟨hk.1,(by simp [Value.ownBlock])⟩⟩)⟩,⟨by first|exact Kd.R_nil _ _ _ _ _|exact Kd.N_nil _ _ _ _ _|exact Kd.V_nil _ _ _ _ _|exact Kd.Q_nil _ _ _ _ _|exact Kd.S_nil _ _ _ _ _⟩,⟨by (with_reducible repeat (first|apply qa7|apply qb7|apply qc7));exact BK259.out⟩,⟨by (with_reducible repeat (first|apply qa7|apply qb7|apply qc7));exact BK260.out⟩,⟨by repeat (first|(with_reducible first|exact HB.out|apply qg7|apply qh7|apply qi7|refine qj7 ?_ GE259.out|refine qj7 ?_ GE260.out)|exact HB.out)⟩⟩
     case round =>
      clear H'
      try clear c1
      try clear c2
      try clear p2
      try clear q2
      try clear hx2
      try clear c5
      try clear c5b0
      try clear c5b1
      try clear c5b2
      try clear p6
      try clear c7
      try clear c8
      try clear c10
      try clear c14
      try clear c14b0
      try clear c15
      try clear c15b0
      try clear c16
      try clear c16b0
      try clear c18
      try clear c21
      try clear p26
      try clear q26
      try clear hx26
      try clear hcz9_0
      try clear hcz9_1
      try clear hcz9_2
      try clear hcz9_3
      try clear hfz9_0
      try clear hfz9_1
      try clear hfz9_2
      try clear hfz9_3
      try clear hx265_0
      try clear p2
      try clear p265
      try clear q265
      obtain ⟨x1_2,x11_2,x261003_2,u261003,rfl,HA,HK2,HO_11,HO_261001,HO_261002,HO_261003,BK259,BK260,HB⟩:=hrel
      cases gk with
      | zero => exact absurd HA.out (by simp [impl_signAt.l1])
      | succ k2 =>
       have H:=HA.out
       clear HA
       simp only [impl_signAt.l1] at H
       by_cases c36 : (x11_2.length : Int) > 1
       ·
        rw [if_pos c36] at H
        have c36b0 : decide (1 < (x11_2.length : Int)) = true:=decide_eq_true c36
        have c36b1 : decide (1 < x11_2.length) = true:=decide_eq_true (by omega)
        clear c36
        by_cases c37 : 0 ≤ (Go.bits .xor .i64 x1_2 1)
        ·
         rw [if_pos c37] at H
         have c37b0 : decide (0 ≤ (Go.bits .xor .i64 x1_2 1)) = true:=decide_eq_true c37
         clear c37
         by_cases c38 : (Go.bits .xor .i64 x1_2 1) < (x11_2.length : Int)
         ·
          rw [if_pos c38] at H
          have c38b0 : decide ((Go.bits .xor .i64 x1_2 1) < (x11_2.length : Int)) = true:=decide_eq_true c38
          clear c38
          by_cases c39 : x261003_2.length < 8796093022208
          ·
           rw [if_pos c39] at H
           have LMc39:=qk7 c39
           clear c39
           obtain ⟨y279,hy279⟩ : ∃ y_ : List ByteArray,y_ = (x261003_2 ++ [rdOf ByteArray.empty x11_2 (Go.bits .xor .i64 x1_2 1)]):=⟨_,rfl⟩
           replace H : ((impl_above.f k2 x11_2).bind fun t282 => (impl_signAt.l1 k2 (wrap64 (Int.tdiv x1_2 2)) t282 a1 x261001_1 x261002_1 y279)) = some (r1,r2,r3,r4):=by first|(rw [hy279];with_reducible exact H)|(have H2_:=(Option.bind_some _ _).symm.trans H;rw [hy279];with_reducible exact H2_)|(have H2_:=(Option.bind_some _ _).symm.trans H;with_reducible exact H2_)|with_reducible exact H|(rw [hy279];exact H)|exact H
           have Ny279:=qk7 hy279
           clear hy279
           replace H:=Option.bind_eq_some_iff.mp H
           obtain ⟨t282,A400,H⟩:=H
           replace H : (impl_signAt.l1 k2 (wrap64 (Int.tdiv x1_2 2)) t282 a1 x261001_1 x261002_1 y279) = some (r1,r2,r3,r4):=H
           have A40:=qk7 A400
           clear A400
           have H':=qk7 H
           clear H
           obtain ⟨Ao41,co41,eo41⟩:=Kd.R_slice HO_11.out
           subst eo41
           try go_wp2
           have n0_:=qk7 (qf7 HO_11.out)
           have n1_:=qk7 (qf7 HO_261001.out)
           have n2_:=qk7 (qf7 HO_261002.out)
           have n3_:=qk7 (qf7 HO_261003.out)
           have n4_:=qk7 (qb7 BK259.out)
           have n5_:=qk7 (qb7 BK260.out)
           have n6_:=qk7 (qi7 HB.out)
           clear HO_11
           clear HO_261001
           clear HO_261002
           clear HO_261003
           clear BK259
           clear BK260
           clear HB
           have HO_11:=n0_
           have HO_261001:=n1_
           have HO_261002:=n2_
           have HO_261003:=n3_
           have BK259:=n4_
           have BK260:=n5_
           have HB:=n6_
           clear n0_ n1_ n2_ n3_ n4_ n5_ n6_
           have p278 : 0 ≤ ((Go.bits .xor .i64 x1_2 1) : Int):=of_decide_eq_true (by first|(with_reducible assumption)|assumption)
           have q278 : (Go.bits .xor .i64 x1_2 1) < (x11_2.length : Int):=of_decide_eq_true (by first|(with_reducible assumption)|assumption)
           obtain ⟨ad278,e278,hx278_0⟩:=Kd.at_string (Kd.R_reads' HO_11.out).2.2 (Go.bits .xor .i64 x1_2 1) p278 q278
           cases e278
           replace p278:=eq_true p278
           replace q278:=eq_true q278
           refine start_ (n:=11) (S:=fun w' => w'.cell? ⟨gb260,0,none⟩ = some (.int .i64 a1) ∧ w'.cell? ⟨gb260,1,none⟩ = some (u261001) ∧ w'.cell? ⟨gb260,2,none⟩ = some (u261002) ∧ w'.cell? ⟨gb260,3,none⟩ = some (u261003) ∧ w'.cell? (ad278.add ((Go.bits .xor .i64 x1_2 1)).toNat) = some (.string (rdOf ByteArray.empty x11_2 (Go.bits .xor .i64 x1_2 1)))) (ds:=[8,10]) #[false,false,false,false,false,false,false,false,false,false,false] (by kernel_rfl) rfl rfl ⟨(blk_cell BK260.out 0).trans rfl,(blk_cell BK260.out 1).trans rfl,(blk_cell BK260.out 2).trans rfl,(blk_cell BK260.out 3).trans rfl,hx278_0⟩ (fun hHeld => ?_);refine with_tabW impl_signAt.tab12 impl_signAt.bits12 (fun HT_ HW_ => ?_)
           generalize wr.drew = w42 at HO_11 HO_261001 HO_261002 HO_261003 BK259 BK260 HB hx278_0 hHeld ⊢
           refine pure_ (i:=0) (N:=some 56) (v:=?_) (a':=?_) #[true,false,false,false,false,false,false,false,false,false,false] rfl rfl (any_of HT_.out (by kernel_rfl)) (fun _ _ _ h => h) (Or.inl ⟨by rfl,?_⟩) ?_ ?_
           rotate_left
           ·
            intro w'
            go_simp
            with_reducible rfl
           rotate_left
           ·
            simp only [Act.put,List.setIfInBounds_toArray,List.set_cons_zero,List.set_cons_succ,i64_w,i32_w]
            rfl
           refine pure_ (i:=2) (N:=some 58) (v:=?_) (a':=?_) #[true,false,true,false,false,false,false,false,false,false,false] rfl rfl (any_of HT_.out (by kernel_rfl)) (fun _ _ _ h => h) (Or.inl ⟨by rfl,?_⟩) ?_ ?_
           rotate_left
           ·
            intro w'
            go_simp
            with_reducible rfl
           rotate_left
           ·
            simp only [Act.put,List.setIfInBounds_toArray,List.set_cons_zero,List.set_cons_succ,i64_w,i32_w]
            rfl
           refine pure_ (i:=3) (N:=some 59) (v:=?_) (a':=?_) #[true,false,true,true,false,false,false,false,false,false,false] rfl rfl (any_of HT_.out (by kernel_rfl)) (fun _ _ _ h => h) (Or.inl ⟨by rfl,?_⟩) ?_ ?_
           rotate_left
           ·
            intro w'
            go_simp
            with_reducible rfl
           rotate_left
           ·
            simp only [Act.put,List.setIfInBounds_toArray,List.set_cons_zero,List.set_cons_succ,i64_w,i32_w]
            rfl
           refine pure_ (i:=4) (N:=some 60) (v:=?_) (a':=?_) #[true,false,true,true,true,false,false,false,false,false,false] rfl rfl (any_of HT_.out (by kernel_rfl)) (fun _ _ _ h => h) (Or.inl ⟨by rfl,?_⟩) ?_ ?_
           rotate_left
           ·
            intro w'
            go_simp
            with_reducible rfl
           rotate_left
           ·
            simp only [Act.put,List.setIfInBounds_toArray,List.set_cons_zero,List.set_cons_succ,i64_w,i32_w]
            rfl
           refine pure_ (i:=5) (N:=some 61) (v:=?_) (a':=?_) #[true,false,true,true,true,true,false,false,false,false,false] rfl rfl (any_of HT_.out (by kernel_rfl)) (fun _ _ _ h => h) (Or.inl ⟨by rfl,?_⟩) ?_ ?_
           rotate_left
           ·
            intro w'
            go_simp
            with_reducible rfl
           rotate_left
           ·
            simp only [Act.put,List.setIfInBounds_toArray,List.set_cons_zero,List.set_cons_succ,i64_w,i32_w]
            rfl
           refine take_ (i:=1) (N:=some 57) (v:=?_) (a':=?_) #[true,true,true,true,true,true,false,false,false,false,false] rfl rfl (take_ofW HT_.out HW_.out (by kernel_rfl)) (fun _ _ _ h => h) (Or.inl ⟨by rfl,?_⟩) hHeld ?_ ?_
           rotate_left
           ·
            rintro w' ⟨s0,s1,s2,s3,s4⟩
            go_simp
            with_reducible rfl
           rotate_left
           ·
            simp only [Act.put,List.setIfInBounds_toArray,List.set_cons_zero,List.set_cons_succ,i64_w,i32_w]
            rfl
           refine take_ (i:=6) (N:=some 62) (v:=?_) (a':=?_) #[true,true,true,true,true,true,true,false,false,false,false] rfl rfl (take_ofW HT_.out HW_.out (by kernel_rfl)) (fun _ _ _ h => h) (Or.inl ⟨by rfl,?_⟩) hHeld ?_ ?_
           rotate_left
           ·
            rintro w' ⟨s0,s1,s2,s3,s4⟩
            go_simp
            with_reducible rfl
           rotate_left
           ·
            simp only [Act.put,List.setIfInBounds_toArray,List.set_cons_zero,List.set_cons_succ,i64_w,i32_w]
            rfl
           refine one_ (i:=7) (N:=some 63) #[true,true,true,true,true,true,true,true,false,false,false] rfl rfl (one_of HT_.out (by kernel_rfl)) (by decide) (fun K hK => ?_)
           refine value_ (w1:=?_) (v:=?_) (by rfl) rfl ?_ ?_
           rotate_left 2
           ·
            go_simp
            constructor
            ·
             rfl
            ·
             rfl
           refine hK.out _ _ ⟨(blk_cell (qc7 BK260.out _) 0).trans rfl,(blk_cell (qc7 BK260.out _) 1).trans rfl,(blk_cell (qc7 BK260.out _) 2).trans rfl,(blk_cell (qc7 BK260.out _) 3).trans rfl,(World.cell?_alloc_lt _ _ _ (World.block_lt_of_cell? _ _ (hHeld.2.2.2.2))).trans (hHeld.2.2.2.2)⟩ (fun hHeld => ?_)
           clear hK K
           refine norm_ (a':=?_) ?_ ?_
           rotate_left
           ·
            show Act.put _ (some 63) _ = _
            simp only [Act.put,List.setIfInBounds_toArray,List.set_cons_zero,List.set_cons_succ,i64_w,i32_w]
            rfl
           refine last_ (i:=8) (N:=some 64) #[true,true,true,true,true,true,true,true,true,false,false] rfl rfl (one_of HT_.out (by kernel_rfl)) (by decide) (fun K hK => ?_)
           refine Kd.R_append_step Kd.string (w0:=w) w.heap.size (by rfl) (.tmp 57) (.tmp 63) 31 9 (.string ⟨#[]⟩) 16 rfl Tryd.underlying31 info9 rfl (by decide) (by omega) u261003 x261003_2 (rdOf ByteArray.empty x11_2 (Go.bits .xor .i64 x1_2 1)) [.string (rdOf ByteArray.empty x11_2 (Go.bits .xor .i64 x1_2 1))] (fun k_ => some k_ ≠ (.slice (some ad278) x11_2.length co41 : Value).ownBlock ∧ some k_ ≠ (u261001 : Value).ownBlock ∧ some k_ ≠ (u261002 : Value).ownBlock) (fun _ => False) rfl rfl ?aP (fun _ hk => hk.elim) ?aF ?aO ?aB ?aS ?aL ?_
           (case aP => exact rfl)
           (case aB => exact (by repeat (first|(with_reducible first|exact HB.out|apply qg7|apply qh7|apply qi7|refine qj7 ?_ GE259.out|refine qj7 ?_ GE260.out)|exact HB.out)))
           (case aF => exact (fun k_ hk => ⟨Kd.fresh' (Kd.R_lt (by (with_reducible repeat (first|apply qd7|apply qe7|apply qf7));exact HO_11.out)) k_ hk,Kd.fresh' (Kd.R_lt (by (with_reducible repeat (first|apply qd7|apply qe7|apply qf7));exact HO_261001.out)) k_ hk,Kd.fresh' (Kd.R_lt (by (with_reducible repeat (first|apply qd7|apply qe7|apply qf7));exact HO_261002.out)) k_ hk⟩))
           (case aO => exact (by (with_reducible repeat (first|apply qd7|apply qe7|apply qf7));exact HO_261003.out))
           (case aS => exact (below_size (by repeat (first|(with_reducible first|exact HB.out|apply qg7|apply qh7|apply qi7|refine qj7 ?_ GE259.out|refine qj7 ?_ GE260.out)|exact HB.out))))
           (case aL => have:=LMc39.out;omega)
           intro v280 w43 ho hb hg hat
           rw [← Ny279.out] at ho
           have n0_:=qk7 (Kd.R_after (ok:=(fun k_ => some k_ ≠ (u261001 : Value).ownBlock ∧ some k_ ≠ (u261002 : Value).ownBlock)) (by (with_reducible repeat (first|apply qd7|apply qe7|apply qf7));exact ql7 HO_11.out (fun _ hk => ⟨⟨hk.1,hk.2.1⟩,hk.2.2⟩)) hg hat)
           have n1_:=qk7 (Kd.R_after (ok:=(fun k_ => some k_ ≠ (.slice (some ad278) x11_2.length co41 : Value).ownBlock ∧ some k_ ≠ (u261002 : Value).ownBlock)) (by (with_reducible repeat (first|apply qd7|apply qe7|apply qf7));exact ql7 HO_261001.out (fun _ hk => ⟨⟨hk.1,hk.2.1⟩,hk.2.2⟩)) hg hat)
           have n2_:=qk7 (Kd.R_after (ok:=(fun k_ => some k_ ≠ (.slice (some ad278) x11_2.length co41 : Value).ownBlock ∧ some k_ ≠ (u261001 : Value).ownBlock)) (by (with_reducible repeat (first|apply qd7|apply qe7|apply qf7));exact ql7 HO_261002.out (fun _ hk => ⟨⟨hk.1,hk.2.1⟩,hk.2.2⟩)) hg hat)
           have n3_:=qk7 (blk_grown (g:=gb259) (o:=.cells #[.int .i64 0,.slice none 0 0,.slice none 0 0,.slice none 0 0] 33 (0,0)) (by (with_reducible repeat (first|apply qa7|apply qb7|apply qc7));exact BK259.out) hg (Kd.R_ne HO_261003.out BK259.out (by decide)))
           have n4_:=qk7 (blk_grown (g:=gb260) (o:=.cells #[.int .i64 a1,u261001,u261002,u261003] 33 (0,0)) (by (with_reducible repeat (first|apply qa7|apply qb7|apply qc7));exact BK260.out) hg (Kd.R_ne HO_261003.out BK260.out (by decide)))
           have n5_:=qk7 (hb)
           have n6_:=qk7 (ho)
           clear HO_11
           clear HO_261001
           clear HO_261002
           clear BK259
           clear BK260
           clear HB
           clear HO_261003
           have HO_11:=n0_
           have HO_261001:=n1_
           have HO_261002:=n2_
           have BK259:=n3_
           have BK260:=n4_
           have HB:=n5_
           have HO281:=n6_
           clear n0_ n1_ n2_ n3_ n4_ n5_ n6_
           clear ho hb hg hat
           obtain ⟨Ao44,co44,eo44⟩:=Kd.R_slice HO281.out
           (first|subst eo44|(injection eo44 with f1_ f2_ f3_;have f4_:=f1_.symm;have f5_:=f3_.symm;clear f1_ f2_ f3_;subst f4_;subst f5_))
           refine hK.out _ _ ?_
           clear hK K
           refine norm_ (a':=?_) ?_ ?_
           rotate_left
           ·
            show Act.put _ (some 64) _ = _
            simp only [Act.put,List.setIfInBounds_toArray,List.set_cons_zero,List.set_cons_succ,i64_w,i32_w]
            rfl
           refine pure_ (i:=9) (N:=some 65) (v:=?_) (a':=?_) #[true,true,true,true,true,true,true,true,true,true,false] rfl rfl (any_of HT_.out (by kernel_rfl)) (fun _ _ _ h => h) (Or.inl ⟨by rfl,?_⟩) ?_ ?_
           rotate_left
           ·
            intro w'
            go_simp
            with_reducible rfl
           rotate_left
           ·
            simp only [Act.put,List.setIfInBounds_toArray,List.set_cons_zero,List.set_cons_succ,i64_w,i32_w]
            rfl
           refine last_ (i:=10) (N:=none) #[true,true,true,true,true,true,true,true,true,true,true] rfl rfl (one_of HT_.out (by kernel_rfl)) (by decide) (fun K hK => ?_)
           have hs45 : w43.cell? ⟨gb260,3,none⟩ = some (u261003):=(blk_cell BK260.out 3).trans rfl
           have hfs45:=blk_frozen BK260.out 3
           have hns45_0:=NB259_260.out
           have hms45_0:=NB260_259.out
           refine skip_ (w1:=?_) (by rfl) rfl ?_ ?_
           rotate_left
           ·
            go_simp
            rfl
           refine hK.out _ _ ?_
           clear hK K
           refine done_ (done_of HT_.out (by kernel_rfl)) ?_
           try go_wp2_with (first|((with_reducible refine gate_callee (f:=107) rfl ?_);refine goesL_ (some 55) rfl rfl Tryd.func107 (by kernel_rfl) rfl #[.slice (some ad278) x11_2.length co41] rfl (by (try simp only [List.map_toArray,List.map_cons,List.map_nil]);first|done|rfl|(simp only [List.length_drop,List.length_take];rfl)) ?_;(with_reducible refine (impl_above.calls k2 _ _ x11_2 t282 _ ?side1 ?side2 ?side3 A40.out).mono ?_);(case side1 => refine (Kd.R_reads' (e:=9) (base:=w.heap.size) (ok:=fun k_ => ((some k_ ≠ (u261001 : Value).ownBlock ∧ some k_ ≠ (u261002 : Value).ownBlock) ∧ some k_ ≠ (.slice Ao44 y279.length co44 : Value).ownBlock)) (n:=x11_2.length) (c:=co41) ?_).2.2;exact (by (with_reducible repeat (first|apply qd7|apply qe7|apply qf7));exact (ql7 (Kd.R_far (p:=⟨gb260,3,none⟩) (Kd.R_types HO_11.out BK260.out (by decide)) (fun _ hk => hk.2) (.slice Ao44 y279.length co44)) (fun _ h_ => h_.1))));(case side2 => exact (Kd.R_reads' HO_11.out).2.1);(case side3 => exact Go.Proofs.YtmkaknegjahjaaaDoor.Sha.glob_below hG_ (by repeat (first|(with_reducible first|exact HB.out|apply qg7|apply qh7|apply qi7|refine qj7 ?_ GE259.out|refine qj7 ?_ GE260.out)|exact HB.out)));rintro e w46 ⟨v283,rfl,ho0,hb⟩;refine ⟨_,rfl,?_⟩;have n0_:=qk7 (Kd.R_elder' (by (with_reducible repeat (first|apply qd7|apply qe7|apply qf7));exact (ql7 (Kd.R_far (p:=⟨gb260,3,none⟩) (Kd.R_types HO_11.out BK260.out (by decide)) (fun _ hk => hk.2) (.slice Ao44 y279.length co44)) (fun _ h_ => h_.1))) (Kd.R_base ho0) hb);have n1_:=qk7 (Kd.R_elder' (by (with_reducible repeat (first|apply qd7|apply qe7|apply qf7));exact (ql7 (Kd.R_far (p:=⟨gb260,3,none⟩) (Kd.R_types HO_261001.out BK260.out (by decide)) (fun _ hk => hk.2) (.slice Ao44 y279.length co44)) (fun _ h_ => h_.1))) (Kd.R_base ho0) hb);have n2_:=qk7 (Kd.R_elder' (by (with_reducible repeat (first|apply qd7|apply qe7|apply qf7));exact (ql7 (Kd.R_far (p:=⟨gb260,3,none⟩) (Kd.R_types HO_261002.out BK260.out (by decide)) (fun _ hk => hk.2) (.slice Ao44 y279.length co44)) (fun _ h_ => h_.1))) (Kd.R_base ho0) hb);have n3_:=qk7 (Kd.R_elder' (by (with_reducible repeat (first|apply qd7|apply qe7|apply qf7));exact (ql7 (Kd.R_far (p:=⟨gb260,3,none⟩) (Kd.R_types HO281.out BK260.out (by decide)) (fun _ hk => hk.2) (.slice Ao44 y279.length co44)) (fun _ h_ => h_.1))) (Kd.R_base ho0) hb);have n4_:=qk7 (Kd.R_lower (Kd.R_new' (Kd.R_new' (Kd.R_new' (Kd.R_new' ho0 (Kd.R_lt (by (with_reducible repeat (first|apply qd7|apply qe7|apply qf7));exact (ql7 (Kd.R_far (p:=⟨gb260,3,none⟩) (Kd.R_types HO_11.out BK260.out (by decide)) (fun _ hk => hk.2) (.slice Ao44 y279.length co44)) (fun _ h_ => h_.1))))) (Kd.R_lt (by (with_reducible repeat (first|apply qd7|apply qe7|apply qf7));exact (ql7 (Kd.R_far (p:=⟨gb260,3,none⟩) (Kd.R_types HO_261001.out BK260.out (by decide)) (fun _ hk => hk.2) (.slice Ao44 y279.length co44)) (fun _ h_ => h_.1))))) (Kd.R_lt (by (with_reducible repeat (first|apply qd7|apply qe7|apply qf7));exact (ql7 (Kd.R_far (p:=⟨gb260,3,none⟩) (Kd.R_types HO_261002.out BK260.out (by decide)) (fun _ hk => hk.2) (.slice Ao44 y279.length co44)) (fun _ h_ => h_.1))))) (Kd.R_lt (by (with_reducible repeat (first|apply qd7|apply qe7|apply qf7));exact (ql7 (Kd.R_far (p:=⟨gb260,3,none⟩) (Kd.R_types HO281.out BK260.out (by decide)) (fun _ hk => hk.2) (.slice Ao44 y279.length co44)) (fun _ h_ => h_.1))))) (below_size (by repeat (first|(with_reducible first|exact HB.out|apply qg7|apply qh7|apply qi7|refine qj7 ?_ GE259.out|refine qj7 ?_ GE260.out)|exact HB.out))));have n5_:=qk7 (blk_below (g:=gb259) (o:=.cells #[.int .i64 0,.slice none 0 0,.slice none 0 0,.slice none 0 0] 33 (0,0)) (by (with_reducible repeat (first|apply qa7|apply qb7|apply qc7));refine blk_far ?_ NB259_260.out _;(with_reducible repeat (first|apply qa7|apply qb7|apply qc7));exact BK259.out) hb);have n6_:=qk7 (blk_below (g:=gb260) (o:=.cells #[.int .i64 a1,u261001,u261002,.slice Ao44 y279.length co44] 33 (0,0)) (by (with_reducible repeat (first|apply qa7|apply qb7|apply qc7));refine blk_put (cs:=#[.int .i64 a1,u261001,u261002,u261003]) ?_ 3 _ rfl;(with_reducible repeat (first|apply qa7|apply qb7|apply qc7));exact BK260.out) hb);have n7_:=qk7 (below_step (by repeat (first|(with_reducible first|exact HB.out|apply qg7|apply qh7|apply qi7|refine qj7 ?_ GE259.out|refine qj7 ?_ GE260.out)|exact HB.out)) hb);clear HO_11;clear HO_261001;clear HO_261002;clear HO281;clear BK259;clear BK260;clear HB;have HO_11:=n0_;have HO_261001:=n1_;have HO_261002:=n2_;have HO281:=n3_;have HO284:=n4_;have BK259:=n5_;have BK260:=n6_;have HB:=n7_;clear n0_ n1_ n2_ n3_ n4_ n5_ n6_ n7_;(try clear hb);(try clear hb2);(try clear hk);(try clear hi);(try clear ho0)))
           go_roundg k2
           case measure => have:=HK1.out;have:=HK2.out;omega
           case rel => exact ⟨(wrap64 (Int.tdiv x1_2 2)),(t282),(y279),(.slice Ao44 y279.length co44),(by first|rfl|(simp;done)|(simp [*];done)),H',⟨by have:=HK1.out;have:=HK2.out;omega⟩,⟨by (with_reducible repeat (first|apply qd7|apply qe7|apply qf7));exact ql7 HO284.out (fun _ hk => ⟨hk.1.1.2,⟨hk.1.2,hk.2⟩⟩)⟩,⟨by (with_reducible repeat (first|apply qd7|apply qe7|apply qf7));exact ql7 HO_261001.out (fun _ hk => ⟨hk.2,⟨hk.1.1.2,hk.1.2⟩⟩)⟩,⟨by (with_reducible repeat (first|apply qd7|apply qe7|apply qf7));exact ql7 HO_261002.out (fun _ hk => ⟨hk.2,⟨hk.1.1.2,hk.1.2⟩⟩)⟩,⟨by (with_reducible repeat (first|apply qd7|apply qe7|apply qf7));exact ql7 HO281.out (fun _ hk => ⟨hk.2,⟨hk.1.2.1,hk.1.2.2⟩⟩)⟩,⟨by (with_reducible repeat (first|apply qa7|apply qb7|apply qc7));exact BK259.out⟩,⟨by (with_reducible repeat (first|apply qa7|apply qb7|apply qc7));exact BK260.out⟩,⟨by repeat (first|(with_reducible first|exact HB.out|apply qg7|apply qh7|apply qi7|refine qj7 ?_ GE259.out|refine qj7 ?_ GE260.out)|exact HB.out)⟩⟩
          ·
           rw [if_neg c39] at H
           exact absurd H (by simp)
         ·
          rw [if_neg c38] at H
          exact absurd H (by simp)
        ·
         rw [if_neg c37] at H
         exact absurd H (by simp)
       ·
        rw [if_neg c36] at H
        have c36b0 : decide (1 < (x11_2.length : Int)) = false:=decide_eq_false c36
        have c36b1 : decide (1 < x11_2.length) = false:=decide_eq_false (by omega)
        clear c36
        simp only [Option.some.injEq,Prod.mk.injEq] at H
        obtain ⟨rfl,rfl,rfl,rfl⟩:=H
        obtain ⟨Ao47,co47,eo47⟩:=Kd.R_slice HO_11.out
        subst eo47
        have hnb48:=NB260_259.out
        have hnc48:=NB259_260.out
        have hcz49_0 : wr.cell? ⟨gb260,0,none⟩ = some (.int .i64 a1):=(blk_cell BK260.out 0).trans rfl
        have hcz49_1 : wr.cell? ⟨gb260,1,none⟩ = some (u261001):=(blk_cell BK260.out 1).trans rfl
        have hcz49_2 : wr.cell? ⟨gb260,2,none⟩ = some (u261002):=(blk_cell BK260.out 2).trans rfl
        have hcz49_3 : wr.cell? ⟨gb260,3,none⟩ = some (u261003):=(blk_cell BK260.out 3).trans rfl
        have hfz49_0:=blk_frozen BK260.out 0
        have hfz49_1:=blk_frozen BK260.out 1
        have hfz49_2:=blk_frozen BK260.out 2
        have hfz49_3:=blk_frozen BK260.out 3
        have hcz50_0 : wr.cell? ⟨gb259,0,none⟩ = some (.int .i64 0):=(blk_cell BK259.out 0).trans rfl
        have hcz50_1 : wr.cell? ⟨gb259,1,none⟩ = some (.slice none 0 0):=(blk_cell BK259.out 1).trans rfl
        have hcz50_2 : wr.cell? ⟨gb259,2,none⟩ = some (.slice none 0 0):=(blk_cell BK259.out 2).trans rfl
        have hcz50_3 : wr.cell? ⟨gb259,3,none⟩ = some (.slice none 0 0):=(blk_cell BK259.out 3).trans rfl
        have hfz50_0:=blk_frozen BK259.out 0
        have hfz50_1:=blk_frozen BK259.out 1
        have hfz50_2:=blk_frozen BK259.out 2
        have hfz50_3:=blk_frozen BK259.out 3
        obtain ⟨Ao51,co51,eo51⟩:=Kd.R_slice HO_261001.out
        subst eo51
        obtain ⟨Ao52,co52,eo52⟩:=Kd.R_slice HO_261002.out
        subst eo52
        obtain ⟨Ao53,co53,eo53⟩:=Kd.R_slice HO_261003.out
        subst eo53
        go_wp2
        refine bodyPost_ret (results_cell_row rfl _ _ gb259 33 #[.int .i64 a1,.slice Ao51 x261001_1.length co51,.slice Ao52 x261002_1.length co52,.slice Ao53 x261003_2.length co53] (0,0) _ rfl (by (with_reducible repeat (first|apply qa7|apply qb7|apply qc7));refine blk_put (cs:=#[.int .i64 a1,.slice Ao51 x261001_1.length co51,.slice Ao52 x261002_1.length co52,.slice none 0 0]) ?_ 3 _ rfl;(with_reducible repeat (first|apply qa7|apply qb7|apply qc7));refine blk_put (cs:=#[.int .i64 a1,.slice Ao51 x261001_1.length co51,.slice none 0 0,.slice none 0 0]) ?_ 2 _ rfl;(with_reducible repeat (first|apply qa7|apply qb7|apply qc7));refine blk_put (cs:=#[.int .i64 a1,.slice none 0 0,.slice none 0 0,.slice none 0 0]) ?_ 1 _ rfl;(with_reducible repeat (first|apply qa7|apply qb7|apply qc7));refine blk_put (cs:=#[.int .i64 0,.slice none 0 0,.slice none 0 0,.slice none 0 0]) ?_ 0 _ rfl;(with_reducible repeat (first|apply qa7|apply qb7|apply qc7));exact BK259.out) Tryd.underlying33 rfl (by kernel_rfl)) rfl ?_
        exact ⟨_,_,_,by first|rfl|(simp [errW_none,errW_some] <;> rfl)|(simp [*,errW_none,errW_some] <;> rfl),by (with_reducible repeat (first|apply qd7|apply qe7|apply qf7));exact ql7 (Kd.R_far (p:=⟨gb259,3,none⟩) (Kd.R_far (p:=⟨gb259,2,none⟩) (Kd.R_far (p:=⟨gb259,1,none⟩) (Kd.R_far (p:=⟨gb259,0,none⟩) (Kd.R_types HO_261001.out BK259.out (by decide)) (fun _ hk => hk.2) (.int .i64 a1)) (fun _ hk => hk.2) (.slice Ao51 x261001_1.length co51)) (fun _ hk => hk.2) (.slice Ao52 x261002_1.length co52)) (fun _ hk => hk.2) (.slice Ao53 x261003_2.length co53)) (fun _ hk => ⟨hk.1.2.1,hk.1.2.2⟩),by (with_reducible repeat (first|apply qd7|apply qe7|apply qf7));exact ql7 (Kd.R_far (p:=⟨gb259,3,none⟩) (Kd.R_far (p:=⟨gb259,2,none⟩) (Kd.R_far (p:=⟨gb259,1,none⟩) (Kd.R_far (p:=⟨gb259,0,none⟩) (Kd.R_types HO_261002.out BK259.out (by decide)) (fun _ hk => hk.2) (.int .i64 a1)) (fun _ hk => hk.2) (.slice Ao51 x261001_1.length co51)) (fun _ hk => hk.2) (.slice Ao52 x261002_1.length co52)) (fun _ hk => hk.2) (.slice Ao53 x261003_2.length co53)) (fun _ hk => ⟨hk.1.2.1,hk.1.2.2⟩),by (with_reducible repeat (first|apply qd7|apply qe7|apply qf7));exact ql7 (Kd.R_far (p:=⟨gb259,3,none⟩) (Kd.R_far (p:=⟨gb259,2,none⟩) (Kd.R_far (p:=⟨gb259,1,none⟩) (Kd.R_far (p:=⟨gb259,0,none⟩) (Kd.R_types HO_261003.out BK259.out (by decide)) (fun _ hk => hk.2) (.int .i64 a1)) (fun _ hk => hk.2) (.slice Ao51 x261001_1.length co51)) (fun _ hk => hk.2) (.slice Ao52 x261002_1.length co52)) (fun _ hk => hk.2) (.slice Ao53 x261003_2.length co53)) (fun _ hk => ⟨hk.1.2.1,hk.1.2.2⟩),by repeat (first|(with_reducible first|exact HB.out|apply qg7|apply qh7|apply qi7|refine qj7 ?_ GE259.out|refine qj7 ?_ GE260.out)|exact HB.out)⟩
 ·
  rw [if_neg c5] at H
  exact absurd H (by simp)

end Go.Proofs.YtmkaknegjahjaaaDoor.PFnLamport
