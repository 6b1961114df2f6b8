-- laid by this session's program myprint.py over the kit's printer
-- squeezed
-- aliased
import Derived.Test.YtmkaknegjahjaaaDoorPFnLamportx0
import Derived.Test.YtmkaknegjahjaaaDoorPFnLamportx1
import Derived.Test.YtmkaknegjahjaaaDoorPFnLamportx2
namespace Go.Proofs.YtmkaknegjahjaaaDoor.PFnLamport
open Go.RowKit Go.Proofs.YtmkaknegjahjaaaDoorV.PrintWords Go.Proofs.YtmkaknegjahjaaaDoorV.PrintLast Go.Proofs.YtmkaknegjahjaaaDoorV.PrintMore
attribute [local go_sem] max2_int min2_int max_two min_two max_three min_three max_four min_four u8_wm u32_wm   -- for this text's walks alone
set_option linter.unusedVariables false
set_option linter.unusedSimpArgs false

/-! ### spec_l03Sign: function 61 -/
theorem qa3 : type_of% @blk_drewN:=@blk_drewN
theorem qb3 : type_of% @blk_drew:=@blk_drew
theorem qc3 : type_of% @blk_alloc:=@blk_alloc
theorem qd3 : type_of% @Kd.R_alloc:=@Kd.R_alloc
theorem qe3 : type_of% @Kd.R_drewN:=@Kd.R_drewN
theorem qf3 : type_of% @Kd.R_drew:=@Kd.R_drew
theorem qg3 : type_of% @below_alloc:=@below_alloc
theorem qh3 : type_of% @pw_below_drewN:=@pw_below_drewN
theorem qi3 : type_of% @below_drew1:=@below_drew1
theorem qj3 : type_of% @below_set:=@below_set
theorem qk3 : type_of% @Aside0.mk:=@Aside0.mk
theorem ql3 : type_of% @Kd.R_far:=@Kd.R_far
theorem qm3 : type_of% @Kd.R_mono:=@Kd.R_mono
mutual
def spec_l03Sign.l0 : Nat → ByteArray → Int → ByteArray → Int → Int → List ByteArray → List ByteArray → List ByteArray → Option (Int × List ByteArray × List ByteArray × List ByteArray)
 | 0,_,_,_,_,_,_,_,_ => none
 | k + 1,x0,x1,x7,x9,x165000,x165001,x165002,x165003 => if x9 < 32 then (if 0 ≤ x9 then (if x9 < (x7.size : Int) then ((spec_l03Secret.f x0 x1 x9 (((bt x7 x9) - 48) % 256)).bind fun t165 => (if x165001.length < 8796093022208 then ((spec_l03Secret.f x0 x1 x9 (wrap64 (1 - (((bt x7 x9) - 48) % 256)))).bind fun t169 => (if t169.size ≤ 9223372036854775807 then ((spec_l01Hash.f (bytesOf t169)).bind fun t173 => (if x165002.length < 8796093022208 then (spec_l03Sign.l0 k x0 x1 x7 (wrap64 (x9 + 1)) x165000 (x165001 ++ [t165]) (x165002 ++ [t173]) x165003) else (none))) else (none))) else (none))) else (none)) else (none)) else ((spec_l03Keys.f k x0).bind fun t177 => (spec_l03Sign.l1 k x1 t177 x165000 x165001 x165002 x165003))
def spec_l03Sign.l1 : Nat → Int → List ByteArray → Int → List ByteArray → List ByteArray → List ByteArray → Option (Int × List ByteArray × List ByteArray × List ByteArray)
 | 0,_,_,_,_,_,_ => none
 | k + 1,x11,x12,x165000,x165001,x165002,x165003 => if (x12.length : Int) > 1 then (if 0 ≤ (Go.bits .xor .i64 x11 1) then (if (Go.bits .xor .i64 x11 1) < (x12.length : Int) then (if x165003.length < 8796093022208 then ((spec_l03Level.f k x12).bind fun t184 => (spec_l03Sign.l1 k (wrap64 (Int.tdiv x11 2)) t184 x165000 x165001 x165002 (x165003 ++ [rdOf ByteArray.empty x12 (Go.bits .xor .i64 x11 1)]))) else (none)) else (none)) else (none)) else (some (x165000,x165001,x165002,x165003))
end
def spec_l03Sign.f (k : Nat) (a0 : ByteArray) (a1 : Int) (a2 : ByteArray) : Option (Int × List ByteArray × List ByteArray × List ByteArray):=(spec_l03Bits.f k a2).bind fun t154 => (spec_l03Sign.l0 k a0 a1 t154 0 a1 (([] : List ByteArray)) (([] : List ByteArray)) (([] : List ByteArray)))
theorem spec_l03Sign.mono_l : ∀ k,(∀ y0 y1 y2 y3 y4 y5 y6 y7,LeO (spec_l03Sign.l0 k y0 y1 y2 y3 y4 y5 y6 y7) (spec_l03Sign.l0 (k + 1) y0 y1 y2 y3 y4 y5 y6 y7)) ∧ (∀ y0 y1 y2 y3 y4 y5,LeO (spec_l03Sign.l1 k y0 y1 y2 y3 y4 y5) (spec_l03Sign.l1 (k + 1) y0 y1 y2 y3 y4 y5))
 | 0 => ⟨fun _ _ _ _ _ _ _ _ r h => by simp [spec_l03Sign.l0] at h,fun _ _ _ _ _ _ r h => by simp [spec_l03Sign.l1] at h⟩
 | k + 1 => by
  obtain ⟨ih0,ih1⟩:=spec_l03Sign.mono_l k
  refine ⟨?_,?_⟩
  ·
   intro y0 y1 y2 y3 y4 y5 y6 y7
   unfold spec_l03Sign.l0
   repeat' first
   | (with_reducible exact ih0 _ _ _ _ _ _ _ _)
   | (with_reducible exact ih1 _ _ _ _ _ _)
   | (with_reducible exact spec_l03Bits.mono _ _)
   | (with_reducible exact spec_l03Keys.mono _ _)
   | (with_reducible exact spec_l03Level.mono _ _)
   | (with_reducible exact LeO.refl _)
   | (with_reducible exact LeO.none _)
   | (with_reducible refine LeO.ite ?_ ?_)
   | (with_reducible refine LeO.bind ?_ (fun _ => ?_))
   | exact ih0 _ _ _ _ _ _ _ _
   | exact ih1 _ _ _ _ _ _
   | exact spec_l03Bits.mono _ _
   | exact spec_l03Keys.mono _ _
   | exact spec_l03Level.mono _ _
   | exact LeO.none _
   | refine LeO.ite ?_ ?_
   | refine LeO.bind ?_ (fun _ => ?_)
  ·
   intro y0 y1 y2 y3 y4 y5
   unfold spec_l03Sign.l1
   repeat' first
   | (with_reducible exact ih0 _ _ _ _ _ _ _ _)
   | (with_reducible exact ih1 _ _ _ _ _ _)
   | (with_reducible exact spec_l03Bits.mono _ _)
   | (with_reducible exact spec_l03Keys.mono _ _)
   | (with_reducible exact spec_l03Level.mono _ _)
   | (with_reducible exact LeO.refl _)
   | (with_reducible exact LeO.none _)
   | (with_reducible refine LeO.ite ?_ ?_)
   | (with_reducible refine LeO.bind ?_ (fun _ => ?_))
   | exact ih0 _ _ _ _ _ _ _ _
   | exact ih1 _ _ _ _ _ _
   | exact spec_l03Bits.mono _ _
   | exact spec_l03Keys.mono _ _
   | exact spec_l03Level.mono _ _
   | exact LeO.none _
   | refine LeO.ite ?_ ?_
   | refine LeO.bind ?_ (fun _ => ?_)
theorem spec_l03Sign.mono : ∀ a0 a1 a2 k,LeO (spec_l03Sign.f k a0 a1 a2) (spec_l03Sign.f (k + 1) a0 a1 a2):=by
 intro a0 a1 a2 k
 obtain ⟨ih0,ih1⟩:=spec_l03Sign.mono_l k
 unfold spec_l03Sign.f
 repeat' first
   | (with_reducible exact ih0 _ _ _ _ _ _ _ _)
   | (with_reducible exact ih1 _ _ _ _ _ _)
   | (with_reducible exact spec_l03Bits.mono _ _)
   | (with_reducible exact spec_l03Keys.mono _ _)
   | (with_reducible exact spec_l03Level.mono _ _)
   | (with_reducible exact LeO.refl _)
   | (with_reducible exact LeO.none _)
   | (with_reducible refine LeO.ite ?_ ?_)
   | (with_reducible refine LeO.bind ?_ (fun _ => ?_))
   | exact ih0 _ _ _ _ _ _ _ _
   | exact ih1 _ _ _ _ _ _
   | exact spec_l03Bits.mono _ _
   | exact spec_l03Keys.mono _ _
   | exact spec_l03Level.mono _ _
   | exact LeO.none _
   | refine LeO.ite ?_ ?_
   | refine LeO.bind ?_ (fun _ => ?_)
def spec_l03Sign.T7 : Bool × List (List Nat × List Nat):=(true,[([],[]),([0],[0]),([],[]),([],[]),([],[]),([],[]),([2,3,4,5],[2,3,4,5]),([6],[6]),([1,7,6],[1,7]),([0,1,2,3,4,5,6,7,8],[]),([9,8,8,0,1,2,3,4,5,6,7,8],[8,9])])
def spec_l03Sign.B7 : List Nat:=[0,1,0,0,0,0,60,124,255,511,1023]
theorem spec_l03Sign.tab7 : rtab .any (opsOf Tryd.f61 7) = spec_l03Sign.T7:=by kernel_rfl
theorem spec_l03Sign.bits7 : waitsOk spec_l03Sign.T7.2 spec_l03Sign.B7 = true:=by kernel_rfl
def spec_l03Sign.T8 : Bool × List (List Nat × List Nat):=(true,[([],[]),([0],[0]),([],[]),([],[]),([],[]),([],[]),([5],[5]),([2,3,4,6],[2,3,4,6]),([7],[7]),([8,7],[8]),([9],[9]),([1,10,9],[1,10]),([0,1,2,3,4,5,6,7,8,9,10,11],[]),([12,11,11,0,1,2,3,4,5,6,7,8,9,10,11],[11,12])])
def spec_l03Sign.B8 : List Nat:=[0,1,0,0,0,0,32,124,252,508,1020,2047,4095,8191]
theorem spec_l03Sign.tab8 : rtab .any (opsOf Tryd.f61 8) = spec_l03Sign.T8:=by kernel_rfl
theorem spec_l03Sign.bits8 : waitsOk spec_l03Sign.T8.2 spec_l03Sign.B8 = true:=by kernel_rfl
def spec_l03Sign.T13 : Bool × List (List Nat × List Nat):=(true,[([],[]),([0],[0]),([],[]),([],[]),([3],[3]),([2,4],[2,4]),([5],[5]),([6],[6]),([1,7],[1,7]),([0,1,2,3,4,5,6,7,8],[]),([9,8,8,0,1,2,3,4,5,6,7,8],[8,9])])
def spec_l03Sign.B13 : List Nat:=[0,1,0,0,8,28,60,124,255,511,1023]
theorem spec_l03Sign.tab13 : rtab .any (opsOf Tryd.f61 13) = spec_l03Sign.T13:=by kernel_rfl
theorem spec_l03Sign.bits13 : waitsOk spec_l03Sign.T13.2 spec_l03Sign.B13 = true:=by kernel_rfl
set_option maxHeartbeats 8000000 in
set_option maxRecDepth 100000 in
theorem spec_l03Sign.calls (k : Nat) (a0 : ByteArray) (a1 : Int) (a2 : ByteArray) (r1 : Int) (r2 : List ByteArray) (r3 : List ByteArray) (r4 : List ByteArray) (w : World) (h : spec_l03Sign.f k a0 a1 a2 = some (r1,r2,r3,r4)) :
  Calls Tryd.prog 61 #[.string a0,.int .i64 a1,.string a2] w fun e w' => ∃ v1_ v2_ v3_ : Value,e = .returned (.agg #[.int .i64 r1,v1_,v2_,v3_]) ∧ Kd.R Kd.string 9 w' w.heap.size (fun k_ => some k_ ≠ (v2_ : Value).ownBlock ∧ some k_ ≠ (v3_ : Value).ownBlock) v1_ r2 ∧ Kd.R Kd.string 9 w' w.heap.size (fun k_ => some k_ ≠ (v1_ : Value).ownBlock ∧ some k_ ≠ (v3_ : Value).ownBlock) v2_ r3 ∧ Kd.R Kd.string 9 w' w.heap.size (fun k_ => some k_ ≠ (v1_ : Value).ownBlock ∧ some k_ ≠ (v2_ : Value).ownBlock) v3_ r4 ∧ Below w.heap.size w w':=by
 have hu33:=Tryd.underlying33
 have HB:=qk3 (Below.refl w.heap.size w)
 have H : ((spec_l03Bits.f k a2).bind fun t154 => (spec_l03Sign.l0 k a0 a1 t154 0 a1 (([] : List ByteArray)) (([] : List ByteArray)) (([] : List ByteArray)))) = some (r1,r2,r3,r4):=h
 clear h
 replace H:=Option.bind_eq_some_iff.mp H
 obtain ⟨t154,A40,H⟩:=H
 replace H : (spec_l03Sign.l0 k a0 a1 t154 0 a1 (([] : List ByteArray)) (([] : List ByteArray)) (([] : List ByteArray))) = some (r1,r2,r3,r4):=H
 have A4:=qk3 A40
 clear A40
 obtain ⟨y155,hy155⟩ : ∃ y_ : List ByteArray,y_ = (([] : List ByteArray)):=⟨_,rfl⟩
 replace H : (spec_l03Sign.l0 k a0 a1 t154 0 a1 y155 (([] : List ByteArray)) (([] : List ByteArray))) = some (r1,r2,r3,r4):=by first|(rw [hy155];with_reducible exact H)|(have H2_:=(Option.bind_some _ _).symm.trans H;rw [hy155];with_reducible exact H2_)|(have H2_:=(Option.bind_some _ _).symm.trans H;with_reducible exact H2_)|with_reducible exact H|(rw [hy155];exact H)|exact H
 have Ny155:=qk3 hy155
 clear hy155
 obtain ⟨y158,hy158⟩ : ∃ y_ : List ByteArray,y_ = (([] : List ByteArray)):=⟨_,rfl⟩
 replace H : (spec_l03Sign.l0 k a0 a1 t154 0 a1 y155 y158 (([] : List ByteArray))) = some (r1,r2,r3,r4):=by first|(rw [hy158];with_reducible exact H)|(have H2_:=(Option.bind_some _ _).symm.trans H;rw [hy158];with_reducible exact H2_)|(have H2_:=(Option.bind_some _ _).symm.trans H;with_reducible exact H2_)|with_reducible exact H|(rw [hy158];exact H)|exact H
 have Ny158:=qk3 hy158
 clear hy158
 obtain ⟨y161,hy161⟩ : ∃ y_ : List ByteArray,y_ = (([] : List ByteArray)):=⟨_,rfl⟩
 replace H : (spec_l03Sign.l0 k a0 a1 t154 0 a1 y155 y158 y161) = some (r1,r2,r3,r4):=by first|(rw [hy161];with_reducible exact H)|(have H2_:=(Option.bind_some _ _).symm.trans H;rw [hy161];with_reducible exact H2_)|(have H2_:=(Option.bind_some _ _).symm.trans H;with_reducible exact H2_)|with_reducible exact H|(rw [hy161];exact H)|exact H
 have Ny161:=qk3 hy161
 clear hy161
 have H':=qk3 H
 clear H
 go_enter Tryd.func61,Tryd.ntmps61
 go_wp2_with (first|((with_reducible refine gate_dst (N:=6) rfl ?_);refine box_event ?hg (N:=6) ?hd (cs:=#[.int .i64 0,.slice none 0 0,.slice none 0 0,.slice none 0 0]) (t:=33) ?hr ?_;(case hd => rfl);(case hg => rfl);(case hr => first|(go_simp;done)|(go_simp;rfl));intro gb153 hg w5 hbox hb;have n0_:=qk3 (below_step (by repeat (first|(with_reducible first|exact HB.out|apply qg3|apply qh3|apply qi3)|exact HB.out)) hb);have n1_:=qk3 (hbox);have n2_:=qk3 ((by rw [hg];exact (below_size (by repeat (first|(with_reducible first|exact HB.out|apply qg3|apply qh3|apply qi3)|exact HB.out))) : w.heap.size ≤ gb153));have n3_:=qk3 ((by rw [hg];exact (below_size (by repeat (first|(with_reducible first|exact HB.out|apply qg3|apply qh3|apply qi3)|exact HB.out))) : w.heap.size ≤ gb153));clear HB;have HB:=n0_;have BK153:=n1_;have GW153:=n2_;have GE153:=n3_;clear n0_ n1_ n2_ n3_;clear hb hbox hg)|((with_reducible refine gate_callee (f:=76) rfl ?_);refine goesL_ (some 14) rfl rfl Tryd.func76 (by kernel_rfl) rfl #[.string a2] rfl (by (try simp only [List.map_toArray,List.map_cons,List.map_nil]);first|done|rfl|(simp only [List.length_drop,List.length_take];rfl)) ?_;(with_reducible refine (spec_l03Bits.calls k a2 t154 _ A4.out).mono ?_);rintro e w6 ⟨rfl,hb⟩;refine ⟨_,rfl,?_⟩;have n0_:=qk3 (blk_below (g:=gb153) (o:=.cells #[.int .i64 0,.slice none 0 0,.slice none 0 0,.slice none 0 0] 33 (0,0)) (by (with_reducible repeat (first|apply qa3|apply qb3|apply qc3));exact BK153.out) hb);have n1_:=qk3 (below_step (by repeat (first|(with_reducible first|exact HB.out|apply qg3|apply qh3|apply qi3|refine qj3 ?_ GE153.out)|exact HB.out)) hb);clear BK153;clear HB;have BK153:=n0_;have HB:=n1_;clear n0_ n1_;(try clear hb);(try clear hb2);(try clear hk);(try clear hi))|((with_reducible refine gate_dst (N:=16) rfl ?_);refine Kd.R_lit Kd.string _ 9 ?hg (N:=16) ?hd (xs:=([] : List ByteArray)) (inner:=[]) (ok:=fun _ => True) (okp:=fun _ => True) ?hr ?hp (fun _ hk => hk) trivial (Below.refl _ _) (Nat.le_refl _) (by simp) ?_;(case hd => rfl);(case hg => rfl);(case hr => first|(go_simp;done)|(go_simp;rfl));(case hp => exact (Reps.none _ _));intro v156 w7 ho8 hb hg_ hnew_;clear hg_ hnew_;(first|rw [← Ny155.out] at ho8|(simp only [Int.reduceToNat] at ho8;rw [← Ny155.out] at ho8));have n0_:=qk3 (Kd.R_lower ho8 (below_size (by repeat (first|(with_reducible first|exact HB.out|apply qg3|apply qh3|apply qi3|refine qj3 ?_ GE153.out)|exact HB.out))));have n1_:=qk3 (blk_below (g:=gb153) (o:=.cells #[.int .i64 0,.slice none 0 0,.slice none 0 0,.slice none 0 0] 33 (0,0)) (by (with_reducible repeat (first|apply qa3|apply qb3|apply qc3));exact BK153.out) hb);have n2_:=qk3 (below_step (by repeat (first|(with_reducible first|exact HB.out|apply qg3|apply qh3|apply qi3|refine qj3 ?_ GE153.out)|exact HB.out)) hb);clear BK153;clear HB;have HO157:=n0_;have BK153:=n1_;have HB:=n2_;clear n0_ n1_ n2_;clear hb ho8)|((with_reducible refine gate_dst (N:=17) rfl ?_);refine Kd.R_lit Kd.string _ 9 ?hg (N:=17) ?hd (xs:=([] : List ByteArray)) (inner:=[]) (ok:=fun _ => True) (okp:=fun _ => True) ?hr ?hp (fun _ hk => hk) trivial (Below.refl _ _) (Nat.le_refl _) (by simp) ?_;(case hd => rfl);(case hg => rfl);(case hr => first|(go_simp;done)|(go_simp;rfl));(case hp => exact (Reps.none _ _));intro v159 w9 ho10 hb hg_ hnew_;clear hg_ hnew_;(first|rw [← Ny158.out] at ho10|(simp only [Int.reduceToNat] at ho10;rw [← Ny158.out] at ho10));have n0_:=qk3 (Kd.R_elder' (by (with_reducible repeat (first|apply qd3|apply qe3|apply qf3));exact HO157.out) (Kd.R_base ho10) hb);have n1_:=qk3 (Kd.R_lower (Kd.R_new' ho10 (Kd.R_lt (by (with_reducible repeat (first|apply qd3|apply qe3|apply qf3));exact HO157.out))) (below_size (by repeat (first|(with_reducible first|exact HB.out|apply qg3|apply qh3|apply qi3|refine qj3 ?_ GE153.out)|exact HB.out))));have n2_:=qk3 (blk_below (g:=gb153) (o:=.cells #[.int .i64 0,.slice none 0 0,.slice none 0 0,.slice none 0 0] 33 (0,0)) (by (with_reducible repeat (first|apply qa3|apply qb3|apply qc3));exact BK153.out) hb);have n3_:=qk3 (below_step (by repeat (first|(with_reducible first|exact HB.out|apply qg3|apply qh3|apply qi3|refine qj3 ?_ GE153.out)|exact HB.out)) hb);clear HO157;clear BK153;clear HB;have HO157:=n0_;have HO160:=n1_;have BK153:=n2_;have HB:=n3_;clear n0_ n1_ n2_ n3_;clear hb ho10)|((with_reducible refine gate_dst (N:=18) rfl ?_);refine Kd.R_lit Kd.string _ 9 ?hg (N:=18) ?hd (xs:=([] : List ByteArray)) (inner:=[]) (ok:=fun _ => True) (okp:=fun _ => True) ?hr ?hp (fun _ hk => hk) trivial (Below.refl _ _) (Nat.le_refl _) (by simp) ?_;(case hd => rfl);(case hg => rfl);(case hr => first|(go_simp;done)|(go_simp;rfl));(case hp => exact (Reps.none _ _));intro v162 w11 ho12 hb hg_ hnew_;clear hg_ hnew_;(first|rw [← Ny161.out] at ho12|(simp only [Int.reduceToNat] at ho12;rw [← Ny161.out] at ho12));have n0_:=qk3 (Kd.R_elder' (by (with_reducible repeat (first|apply qd3|apply qe3|apply qf3));exact HO157.out) (Kd.R_base ho12) hb);have n1_:=qk3 (Kd.R_elder' (by (with_reducible repeat (first|apply qd3|apply qe3|apply qf3));exact HO160.out) (Kd.R_base ho12) hb);have n2_:=qk3 (Kd.R_lower (Kd.R_new' (Kd.R_new' ho12 (Kd.R_lt (by (with_reducible repeat (first|apply qd3|apply qe3|apply qf3));exact HO157.out))) (Kd.R_lt (by (with_reducible repeat (first|apply qd3|apply qe3|apply qf3));exact HO160.out))) (below_size (by repeat (first|(with_reducible first|exact HB.out|apply qg3|apply qh3|apply qi3|refine qj3 ?_ GE153.out)|exact HB.out))));have n3_:=qk3 (blk_below (g:=gb153) (o:=.cells #[.int .i64 0,.slice none 0 0,.slice none 0 0,.slice none 0 0] 33 (0,0)) (by (with_reducible repeat (first|apply qa3|apply qb3|apply qc3));exact BK153.out) hb);have n4_:=qk3 (below_step (by repeat (first|(with_reducible first|exact HB.out|apply qg3|apply qh3|apply qi3|refine qj3 ?_ GE153.out)|exact HB.out)) hb);clear HO157;clear HO160;clear BK153;clear HB;have HO157:=n0_;have HO160:=n1_;have HO163:=n2_;have BK153:=n3_;have HB:=n4_;clear n0_ n1_ n2_ n3_ n4_;clear hb ho12;obtain ⟨Ao13,co13,eo13⟩:=Kd.R_slice HO163.out;subst eo13;obtain ⟨Ao14,co14,eo14⟩:=Kd.R_slice HO160.out;subst eo14;obtain ⟨Ao15,co15,eo15⟩:=Kd.R_slice HO157.out;subst eo15)|((with_reducible refine gate_dst (N:=8) rfl ?_);refine box_event ?hg (N:=8) ?hd (cs:=#[.int .i64 0,.slice none 0 0,.slice none 0 0,.slice none 0 0]) (t:=33) ?hr ?_;(case hd => rfl);(case hg => rfl);(case hr => first|(go_simp;done)|(go_simp;rfl));intro gb164 hg w16 hbox hb;have n0_:=qk3 (Kd.R_below (by (with_reducible repeat (first|apply qd3|apply qe3|apply qf3));exact HO157.out) hb);have n1_:=qk3 (Kd.R_below (by (with_reducible repeat (first|apply qd3|apply qe3|apply qf3));exact HO160.out) hb);have n2_:=qk3 (Kd.R_below (by (with_reducible repeat (first|apply qd3|apply qe3|apply qf3));exact HO163.out) hb);have n3_:=qk3 (blk_below (g:=gb153) (o:=.cells #[.int .i64 0,.slice none 0 0,.slice none 0 0,.slice none 0 0] 33 (0,0)) (by (with_reducible repeat (first|apply qa3|apply qb3|apply qc3));exact BK153.out) hb);have n4_:=qk3 (below_step (by repeat (first|(with_reducible first|exact HB.out|apply qg3|apply qh3|apply qi3|refine qj3 ?_ GE153.out)|exact HB.out)) hb);have n5_:=qk3 (hbox);have n6_:=qk3 ((by rw [hg];exact (below_size (by repeat (first|(with_reducible first|exact HB.out|apply qg3|apply qh3|apply qi3|refine qj3 ?_ GE153.out)|exact HB.out))) : w.heap.size ≤ gb164));have n7_:=qk3 ((by rw [hg];exact (below_size (by repeat (first|(with_reducible first|exact HB.out|apply qg3|apply qh3|apply qi3|refine qj3 ?_ GE153.out)|exact HB.out))) : w.heap.size ≤ gb164));have n8_:=qk3 ((by rw [hg];exact Nat.ne_of_lt (blk_lt (g:=gb153) (o:=.cells #[.int .i64 0,.slice none 0 0,.slice none 0 0,.slice none 0 0] 33 (0,0)) (by (with_reducible repeat (first|apply qa3|apply qb3|apply qc3));exact BK153.out)) : gb153 ≠ gb164));have n9_:=qk3 ((by rw [hg];exact Nat.ne_of_gt (blk_lt (g:=gb153) (o:=.cells #[.int .i64 0,.slice none 0 0,.slice none 0 0,.slice none 0 0] 33 (0,0)) (by (with_reducible repeat (first|apply qa3|apply qb3|apply qc3));exact BK153.out)) : gb164 ≠ gb153));clear HO157;clear HO160;clear HO163;clear BK153;clear HB;have HO157:=n0_;have HO160:=n1_;have HO163:=n2_;have BK153:=n3_;have HB:=n4_;have BK164:=n5_;have GW164:=n6_;have GE164:=n7_;have NB153_164:=n8_;have NB164_153:=n9_;clear n0_ n1_ n2_ n3_ n4_ n5_ n6_ n7_ n8_ n9_;clear hb hbox hg;have hnb17:=NB164_153.out;have hnc17:=NB153_164.out;have hcz18_0 : w16.cell? ⟨gb164,0,none⟩ = some (.int .i64 0):=(blk_cell BK164.out 0).trans rfl;have hcz18_1 : w16.cell? ⟨gb164,1,none⟩ = some (.slice none 0 0):=(blk_cell BK164.out 1).trans rfl;have hcz18_2 : w16.cell? ⟨gb164,2,none⟩ = some (.slice none 0 0):=(blk_cell BK164.out 2).trans rfl;have hcz18_3 : w16.cell? ⟨gb164,3,none⟩ = some (.slice none 0 0):=(blk_cell BK164.out 3).trans rfl;have hfz18_0:=blk_frozen BK164.out 0;have hfz18_1:=blk_frozen BK164.out 1;have hfz18_2:=blk_frozen BK164.out 2;have hfz18_3:=blk_frozen BK164.out 3))
 go_loopg [9] k (fun kq v9 w' => ∃ (x9_1 : Int) (x165001_1 : List ByteArray) (x165002_1 : List ByteArray) (u165001 : Value) (u165002 : Value),v9 = .int .i64 x9_1 ∧ Aside0 (spec_l03Sign.l0 kq a0 a1 t154 x9_1 a1 x165001_1 x165002_1 y161 = some (r1,r2,r3,r4)) ∧ Aside0 (kq ≤ k) ∧ Aside0 (Kd.R Kd.string 9 w' w.heap.size (fun k_ => some k_ ≠ (u165002 : Value).ownBlock ∧ some k_ ≠ ((.slice Ao13 y161.length co13) : Value).ownBlock) u165001 x165001_1) ∧ Aside0 (Kd.R Kd.string 9 w' w.heap.size (fun k_ => some k_ ≠ (u165001 : Value).ownBlock ∧ some k_ ≠ ((.slice Ao13 y161.length co13) : Value).ownBlock) u165002 x165002_1) ∧ Aside0 (Kd.R Kd.string 9 w' w.heap.size (fun k_ => some k_ ≠ (u165001 : Value).ownBlock ∧ some k_ ≠ (u165002 : Value).ownBlock) (.slice Ao13 y161.length co13) y161) ∧ Aside0 (w'.heap[gb153]? = some (.cells #[.int .i64 0,(.slice none 0 0),(.slice none 0 0),(.slice none 0 0)] 33 (0,0))) ∧ Aside0 (w'.heap[gb164]? = some (.cells #[.int .i64 a1,u165001,u165002,(.slice Ao13 y161.length co13)] 33 (0,0))) ∧ Aside0 (Below w.heap.size w w'))
 case atStart => exact ⟨(0),(y155),(y158),(.slice Ao15 y155.length co15),(.slice Ao14 y158.length co14),(by first|rfl|(simp;done)|(simp [*];done)),H',⟨Nat.le_refl _⟩,⟨by (with_reducible repeat (first|apply qd3|apply qe3|apply qf3));exact qm3 (ql3 (p:=⟨gb164,3,none⟩) (ql3 (p:=⟨gb164,2,none⟩) (ql3 (p:=⟨gb164,1,none⟩) (ql3 (p:=⟨gb164,0,none⟩) (Kd.R_types HO157.out BK164.out (by decide)) (fun _ hk => hk.2) (.int .i64 a1)) (fun _ hk => hk.2) (.slice Ao15 y155.length co15)) (fun _ hk => hk.2) (.slice Ao14 y158.length co14)) (fun _ hk => hk.2) (.slice Ao13 y161.length co13)) (fun _ hk => ⟨hk.1.1.2,hk.1.2⟩)⟩,⟨by (with_reducible repeat (first|apply qd3|apply qe3|apply qf3));exact qm3 (ql3 (p:=⟨gb164,3,none⟩) (ql3 (p:=⟨gb164,2,none⟩) (ql3 (p:=⟨gb164,1,none⟩) (ql3 (p:=⟨gb164,0,none⟩) (Kd.R_types HO160.out BK164.out (by decide)) (fun _ hk => hk.2) (.int .i64 a1)) (fun _ hk => hk.2) (.slice Ao15 y155.length co15)) (fun _ hk => hk.2) (.slice Ao14 y158.length co14)) (fun _ hk => hk.2) (.slice Ao13 y161.length co13)) (fun _ hk => ⟨hk.1.1.2,hk.1.2⟩)⟩,⟨by (with_reducible repeat (first|apply qd3|apply qe3|apply qf3));exact qm3 (ql3 (p:=⟨gb164,3,none⟩) (ql3 (p:=⟨gb164,2,none⟩) (ql3 (p:=⟨gb164,1,none⟩) (ql3 (p:=⟨gb164,0,none⟩) (Kd.R_types HO163.out BK164.out (by decide)) (fun _ hk => hk.2) (.int .i64 a1)) (fun _ hk => hk.2) (.slice Ao15 y155.length co15)) (fun _ hk => hk.2) (.slice Ao14 y158.length co14)) (fun _ hk => hk.2) (.slice Ao13 y161.length co13)) (fun _ hk => ⟨hk.1.1.2,hk.1.2⟩)⟩,⟨by (with_reducible repeat (first|apply qa3|apply qb3|apply qc3));refine blk_far ?_ NB153_164.out _;(with_reducible repeat (first|apply qa3|apply qb3|apply qc3));refine blk_far ?_ NB153_164.out _;(with_reducible repeat (first|apply qa3|apply qb3|apply qc3));refine blk_far ?_ NB153_164.out _;(with_reducible repeat (first|apply qa3|apply qb3|apply qc3));refine blk_far ?_ NB153_164.out _;(with_reducible repeat (first|apply qa3|apply qb3|apply qc3));exact BK153.out⟩,⟨by (with_reducible repeat (first|apply qa3|apply qb3|apply qc3));refine blk_put (cs:=#[.int .i64 a1,.slice Ao15 y155.length co15,.slice Ao14 y158.length co14,.slice none 0 0]) ?_ 3 _ rfl;(with_reducible repeat (first|apply qa3|apply qb3|apply qc3));refine blk_put (cs:=#[.int .i64 a1,.slice Ao15 y155.length co15,.slice none 0 0,.slice none 0 0]) ?_ 2 _ rfl;(with_reducible repeat (first|apply qa3|apply qb3|apply qc3));refine blk_put (cs:=#[.int .i64 a1,.slice none 0 0,.slice none 0 0,.slice none 0 0]) ?_ 1 _ rfl;(with_reducible repeat (first|apply qa3|apply qb3|apply qc3));refine blk_put (cs:=#[.int .i64 0,.slice none 0 0,.slice none 0 0,.slice none 0 0]) ?_ 0 _ rfl;(with_reducible repeat (first|apply qa3|apply qb3|apply qc3));exact BK164.out⟩,⟨by repeat (first|(with_reducible first|exact HB.out|apply qg3|apply qh3|apply qi3|refine qj3 ?_ GE153.out|refine qj3 ?_ GE164.out)|exact HB.out)⟩⟩
 case round =>
  clear H'
  try clear c1
  try clear p2
  try clear c6
  try clear c7
  try clear c17
  try clear hcz18_0
  try clear hcz18_1
  try clear hcz18_2
  try clear hcz18_3
  try clear hfz18_0
  try clear hfz18_1
  try clear hfz18_2
  try clear hfz18_3
  obtain ⟨x9_1,x165001_1,x165002_1,u165001,u165002,rfl,HA,HK1,HO_165001,HO_165002,HO_165003,BK153,BK164,HB⟩:=hrel
  cases gk with
  | zero => exact absurd HA.out (by simp [spec_l03Sign.l0])
  | succ k1 =>
   have H:=HA.out
   clear HA
   simp only [spec_l03Sign.l0] at H
   by_cases c19 : x9_1 < 32
   ·
    rw [if_pos c19] at H
    have c19b0 : decide (x9_1 < 32) = true:=decide_eq_true c19
    clear c19
    by_cases c20 : 0 ≤ x9_1
    ·
     rw [if_pos c20] at H
     have c20b0 : decide (0 ≤ x9_1) = true:=decide_eq_true c20
     clear c20
     by_cases c21 : x9_1 < (t154.size : Int)
     ·
      rw [if_pos c21] at H
      have c21b0 : decide (x9_1 < (t154.size : Int)) = true:=decide_eq_true c21
      clear c21
      replace H:=Option.bind_eq_some_iff.mp H
      obtain ⟨t165,A230,H⟩:=H
      replace H : (if x165001_1.length < 8796093022208 then ((spec_l03Secret.f a0 a1 x9_1 (wrap64 (1 - (((bt t154 x9_1) - 48) % 256)))).bind fun t169 => (if t169.size ≤ 9223372036854775807 then ((spec_l01Hash.f (bytesOf t169)).bind fun t173 => (if x165002_1.length < 8796093022208 then (spec_l03Sign.l0 k1 a0 a1 t154 (wrap64 (x9_1 + 1)) a1 (x165001_1 ++ [t165]) (x165002_1 ++ [t173]) y161) else (none))) else (none))) else (none)) = some (r1,r2,r3,r4):=H
      have A23:=qk3 A230
      clear A230
      by_cases c24 : x165001_1.length < 8796093022208
      ·
       rw [if_pos c24] at H
       have LMc24:=qk3 c24
       clear c24
       obtain ⟨y166,hy166⟩ : ∃ y_ : List ByteArray,y_ = (x165001_1 ++ [t165]):=⟨_,rfl⟩
       replace H : ((spec_l03Secret.f a0 a1 x9_1 (wrap64 (1 - (((bt t154 x9_1) - 48) % 256)))).bind fun t169 => (if t169.size ≤ 9223372036854775807 then ((spec_l01Hash.f (bytesOf t169)).bind fun t173 => (if x165002_1.length < 8796093022208 then (spec_l03Sign.l0 k1 a0 a1 t154 (wrap64 (x9_1 + 1)) a1 y166 (x165002_1 ++ [t173]) y161) else (none))) else (none))) = some (r1,r2,r3,r4):=by first|(rw [hy166];with_reducible exact H)|(have H2_:=(Option.bind_some _ _).symm.trans H;rw [hy166];with_reducible exact H2_)|(have H2_:=(Option.bind_some _ _).symm.trans H;with_reducible exact H2_)|with_reducible exact H|(rw [hy166];exact H)|exact H
       have Ny166:=qk3 hy166
       clear hy166
       replace H:=Option.bind_eq_some_iff.mp H
       obtain ⟨t169,A250,H⟩:=H
       replace H : (if t169.size ≤ 9223372036854775807 then ((spec_l01Hash.f (bytesOf t169)).bind fun t173 => (if x165002_1.length < 8796093022208 then (spec_l03Sign.l0 k1 a0 a1 t154 (wrap64 (x9_1 + 1)) a1 y166 (x165002_1 ++ [t173]) y161) else (none))) else (none)) = some (r1,r2,r3,r4):=H
       have A25:=qk3 A250
       clear A250
       by_cases c26 : t169.size ≤ 9223372036854775807
       ·
        rw [if_pos c26] at H
        have c26b0:=eq_true c26
        have c26b1 : decide (t169.size ≤ 9223372036854775807) = true:=decide_eq_true c26
        try have c26b2 : (9223372036854775807 < t169.size) = False:=eq_false (Nat.not_lt.2 c26)
        clear c26
        obtain ⟨y170,hy170⟩ : ∃ y_ : List Int,y_ = (bytesOf t169):=⟨_,rfl⟩
        replace H : ((spec_l01Hash.f y170).bind fun t173 => (if x165002_1.length < 8796093022208 then (spec_l03Sign.l0 k1 a0 a1 t154 (wrap64 (x9_1 + 1)) a1 y166 (x165002_1 ++ [t173]) y161) else (none))) = some (r1,r2,r3,r4):=by first|(rw [hy170];with_reducible exact H)|(have H2_:=(Option.bind_some _ _).symm.trans H;rw [hy170];with_reducible exact H2_)|(have H2_:=(Option.bind_some _ _).symm.trans H;with_reducible exact H2_)|with_reducible exact H|(rw [hy170];exact H)|exact H
        have Ny170:=qk3 hy170
        clear hy170
        replace H:=Option.bind_eq_some_iff.mp H
        obtain ⟨t173,A270,H⟩:=H
        replace H : (if x165002_1.length < 8796093022208 then (spec_l03Sign.l0 k1 a0 a1 t154 (wrap64 (x9_1 + 1)) a1 y166 (x165002_1 ++ [t173]) y161) else (none)) = some (r1,r2,r3,r4):=H
        have A27:=qk3 A270
        clear A270
        by_cases c28 : x165002_1.length < 8796093022208
        ·
         rw [if_pos c28] at H
         have LMc28:=qk3 c28
         clear c28
         obtain ⟨y174,hy174⟩ : ∃ y_ : List ByteArray,y_ = (x165002_1 ++ [t173]):=⟨_,rfl⟩
         replace H : (spec_l03Sign.l0 k1 a0 a1 t154 (wrap64 (x9_1 + 1)) a1 y166 y174 y161) = some (r1,r2,r3,r4):=by first|(rw [hy174];with_reducible exact H)|(have H2_:=(Option.bind_some _ _).symm.trans H;rw [hy174];with_reducible exact H2_)|(have H2_:=(Option.bind_some _ _).symm.trans H;with_reducible exact H2_)|with_reducible exact H|(rw [hy174];exact H)|exact H
         have Ny174:=qk3 hy174
         clear hy174
         have H':=qk3 H
         clear H
         have p22 : 0 ≤ (x9_1 : Int):=of_decide_eq_true (by first|(with_reducible assumption)|assumption)
         have q22 : x9_1 < (t154.size : Int):=of_decide_eq_true (by first|(with_reducible assumption)|assumption)
         have hx22:=bt_at t154 x9_1
         have bl22:=(bt_range t154 x9_1).1
         have bh22:=(bt_range t154 x9_1).2
         replace p22:=eq_true p22
         replace q22:=eq_true q22
         try go_wp2
         have n0_:=qk3 (qf3 HO_165001.out)
         have n1_:=qk3 (qf3 HO_165002.out)
         have n2_:=qk3 (qf3 HO_165003.out)
         have n3_:=qk3 (qb3 BK153.out)
         have n4_:=qk3 (qb3 BK164.out)
         have n5_:=qk3 (qi3 HB.out)
         clear HO_165001
         clear HO_165002
         clear HO_165003
         clear BK153
         clear BK164
         clear HB
         have HO_165001:=n0_
         have HO_165002:=n1_
         have HO_165003:=n2_
         have BK153:=n3_
         have BK164:=n4_
         have HB:=n5_
         clear n0_ n1_ n2_ n3_ n4_ n5_
         refine start_ (n:=11) (S:=fun w' => w'.cell? ⟨gb164,0,none⟩ = some (.int .i64 a1) ∧ w'.cell? ⟨gb164,1,none⟩ = some (u165001) ∧ w'.cell? ⟨gb164,2,none⟩ = some (u165002) ∧ w'.cell? ⟨gb164,3,none⟩ = some (.slice Ao13 y161.length co13)) (ds:=[10]) #[false,false,false,false,false,false,false,false,false,false,false] (by kernel_rfl) rfl rfl ⟨(blk_cell BK164.out 0).trans rfl,(blk_cell BK164.out 1).trans rfl,(blk_cell BK164.out 2).trans rfl,(blk_cell BK164.out 3).trans rfl⟩ (fun hHeld => ?_);refine with_tabW spec_l03Sign.tab7 spec_l03Sign.bits7 (fun HT_ HW_ => ?_)
         generalize wr.drew = w29 at HO_165001 HO_165002 HO_165003 BK153 BK164 HB hHeld ⊢
         refine pure_ (i:=0) (N:=some 29) (v:=?_) (a':=?_) #[true,false,false,false,false,false,false,false,false,false,false] rfl rfl (any_of HT_.out (by kernel_rfl)) (fun _ _ _ h => h) (Or.inl ⟨by rfl,?_⟩) ?_ ?_
         rotate_left
         ·
          intro w'
          go_simp
          with_reducible rfl
         rotate_left
         ·
          simp only [Act.put,List.setIfInBounds_toArray,List.set_cons_zero,List.set_cons_succ,i64_w,i32_w]
          rfl
         refine pure_ (i:=2) (N:=some 31) (v:=?_) (a':=?_) #[true,false,true,false,false,false,false,false,false,false,false] rfl rfl (any_of HT_.out (by kernel_rfl)) (fun _ _ _ h => h) (Or.inl ⟨by rfl,?_⟩) ?_ ?_
         rotate_left
         ·
          intro w'
          go_simp
          with_reducible rfl
         rotate_left
         ·
          simp only [Act.put,List.setIfInBounds_toArray,List.set_cons_zero,List.set_cons_succ,i64_w,i32_w]
          rfl
         refine pure_ (i:=3) (N:=some 32) (v:=?_) (a':=?_) #[true,false,true,true,false,false,false,false,false,false,false] rfl rfl (any_of HT_.out (by kernel_rfl)) (fun _ _ _ h => h) (Or.inl ⟨by rfl,?_⟩) ?_ ?_
         rotate_left
         ·
          intro w'
          go_simp
          with_reducible rfl
         rotate_left
         ·
          simp only [Act.put,List.setIfInBounds_toArray,List.set_cons_zero,List.set_cons_succ,i64_w,i32_w]
          rfl
         refine pure_ (i:=4) (N:=some 33) (v:=?_) (a':=?_) #[true,false,true,true,true,false,false,false,false,false,false] rfl rfl (any_of HT_.out (by kernel_rfl)) (fun _ _ _ h => h) (Or.inl ⟨by rfl,?_⟩) ?_ ?_
         rotate_left
         ·
          intro w'
          go_simp
          with_reducible rfl
         rotate_left
         ·
          simp only [Act.put,List.setIfInBounds_toArray,List.set_cons_zero,List.set_cons_succ,i64_w,i32_w]
          rfl
         refine pure_ (i:=5) (N:=some 34) (v:=?_) (a':=?_) #[true,false,true,true,true,true,false,false,false,false,false] rfl rfl (any_of HT_.out (by kernel_rfl)) (fun _ _ _ h => h) (Or.inl ⟨by rfl,?_⟩) ?_ ?_
         rotate_left
         ·
          intro w'
          go_simp
          with_reducible rfl
         rotate_left
         ·
          simp only [Act.put,List.setIfInBounds_toArray,List.set_cons_zero,List.set_cons_succ,i64_w,i32_w]
          rfl
         refine take_ (i:=1) (N:=some 30) (v:=?_) (a':=?_) #[true,true,true,true,true,true,false,false,false,false,false] rfl rfl (take_ofW HT_.out HW_.out (by kernel_rfl)) (fun _ _ _ h => h) (Or.inl ⟨by rfl,?_⟩) hHeld ?_ ?_
         rotate_left
         ·
          rintro w' ⟨s0,s1,s2,s3⟩
          go_simp
          with_reducible rfl
         rotate_left
         ·
          simp only [Act.put,List.setIfInBounds_toArray,List.set_cons_zero,List.set_cons_succ,i64_w,i32_w]
          rfl
         refine one_ (i:=6) (N:=some 35) #[true,true,true,true,true,true,true,false,false,false,false] rfl rfl (one_of HT_.out (by kernel_rfl)) (by decide) (fun K hK => ?_)
         refine goes_ Tryd.func108 (by kernel_rfl) rfl #[.string a0,.int .i64 a1,.int .i64 x9_1,.int .i64 (((bt t154 x9_1) - 48) % 256)] (by rfl) rfl rfl (by (try simp only [List.map_toArray,List.map_cons,List.map_nil]);first|done|rfl|(simp only [List.length_drop,List.length_take];rfl)) ?_
         with_reducible refine (spec_l03Secret.calls a0 a1 x9_1 (((bt t154 x9_1) - 48) % 256) t165 _ A23.out).mono ?_
         rintro e w30 ⟨rfl,hb⟩
         refine ⟨_,rfl,?_⟩
         have n0_:=qk3 (Kd.R_below (by (with_reducible repeat (first|apply qd3|apply qe3|apply qf3));exact HO_165001.out) hb)
         have n1_:=qk3 (Kd.R_below (by (with_reducible repeat (first|apply qd3|apply qe3|apply qf3));exact HO_165002.out) hb)
         have n2_:=qk3 (Kd.R_below (by (with_reducible repeat (first|apply qd3|apply qe3|apply qf3));exact HO_165003.out) hb)
         have n3_:=qk3 (blk_below (g:=gb153) (o:=.cells #[.int .i64 0,.slice none 0 0,.slice none 0 0,.slice none 0 0] 33 (0,0)) (by (with_reducible repeat (first|apply qa3|apply qb3|apply qc3));exact BK153.out) hb)
         have n4_:=qk3 (blk_below (g:=gb164) (o:=.cells #[.int .i64 a1,u165001,u165002,.slice Ao13 y161.length co13] 33 (0,0)) (by (with_reducible repeat (first|apply qa3|apply qb3|apply qc3));exact BK164.out) hb)
         have n5_:=qk3 (below_step (by repeat (first|(with_reducible first|exact HB.out|apply qg3|apply qh3|apply qi3|refine qj3 ?_ GE153.out|refine qj3 ?_ GE164.out)|exact HB.out)) hb)
         clear HO_165001
         clear HO_165002
         clear HO_165003
         clear BK153
         clear BK164
         clear HB
         have HO_165001:=n0_
         have HO_165002:=n1_
         have HO_165003:=n2_
         have BK153:=n3_
         have BK164:=n4_
         have HB:=n5_
         clear n0_ n1_ n2_ n3_ n4_ n5_
         (try clear hb)
         (try clear hb2)
         (try clear hk)
         (try clear hi)
         refine hK.out _ _ ⟨(blk_cell BK164.out 0).trans rfl,(blk_cell BK164.out 1).trans rfl,(blk_cell BK164.out 2).trans rfl,(blk_cell BK164.out 3).trans rfl⟩ (fun hHeld => ?_)
         clear hK K
         refine norm_ (a':=?_) ?_ ?_
         rotate_left
         ·
          show Act.put _ (some 35) _ = _
          simp only [Act.put,List.setIfInBounds_toArray,List.set_cons_zero,List.set_cons_succ,i64_w,i32_w]
          rfl
         refine one_ (i:=7) (N:=some 36) #[true,true,true,true,true,true,true,true,false,false,false] rfl rfl (one_of HT_.out (by kernel_rfl)) (by decide) (fun K hK => ?_)
         refine value_ (w1:=?_) (v:=?_) (by rfl) rfl ?_ ?_
         rotate_left 2
         ·
          go_simp
          constructor
          ·
           rfl
          ·
           rfl
         refine hK.out _ _ ⟨(blk_cell (qc3 BK164.out _) 0).trans rfl,(blk_cell (qc3 BK164.out _) 1).trans rfl,(blk_cell (qc3 BK164.out _) 2).trans rfl,(blk_cell (qc3 BK164.out _) 3).trans rfl⟩ (fun hHeld => ?_)
         clear hK K
         refine norm_ (a':=?_) ?_ ?_
         rotate_left
         ·
          show Act.put _ (some 36) _ = _
          simp only [Act.put,List.setIfInBounds_toArray,List.set_cons_zero,List.set_cons_succ,i64_w,i32_w]
          rfl
         refine one_ (i:=8) (N:=some 37) #[true,true,true,true,true,true,true,true,true,false,false] rfl rfl (one_of HT_.out (by kernel_rfl)) (by decide) (fun K hK => ?_)
         refine Kd.R_append_step Kd.string (w0:=w) w.heap.size (by rfl) (.tmp 30) (.tmp 36) 31 9 (.string ⟨#[]⟩) 16 rfl Tryd.underlying31 info9 rfl (by decide) (by omega) u165001 x165001_1 t165 [.string t165] (fun k_ => some k_ ≠ (u165002 : Value).ownBlock ∧ some k_ ≠ (.slice Ao13 y161.length co13 : Value).ownBlock) (fun _ => False) rfl rfl ?aP (fun _ hk => hk.elim) ?aF ?aO ?aB ?aS ?aL ?_
         (case aP => exact rfl)
         (case aB => exact (by repeat (first|(with_reducible first|exact HB.out|apply qg3|apply qh3|apply qi3|refine qj3 ?_ GE153.out|refine qj3 ?_ GE164.out)|exact HB.out)))
         (case aF => exact (fun k_ hk => ⟨Kd.fresh' (Kd.R_lt (by (with_reducible repeat (first|apply qd3|apply qe3|apply qf3));exact HO_165002.out)) k_ hk,Kd.fresh' (Kd.R_lt (by (with_reducible repeat (first|apply qd3|apply qe3|apply qf3));exact HO_165003.out)) k_ hk⟩))
         (case aO => exact (by (with_reducible repeat (first|apply qd3|apply qe3|apply qf3));exact HO_165001.out))
         (case aS => exact (below_size (by repeat (first|(with_reducible first|exact HB.out|apply qg3|apply qh3|apply qi3|refine qj3 ?_ GE153.out|refine qj3 ?_ GE164.out)|exact HB.out))))
         (case aL => have:=LMc24.out;omega)
         intro v167 w31 ho hb hg hat
         rw [← Ny166.out] at ho
         have n0_:=qk3 (Kd.R_after (ok:=(fun k_ => some k_ ≠ (.slice Ao13 y161.length co13 : Value).ownBlock)) (by (with_reducible repeat (first|apply qd3|apply qe3|apply qf3));exact qm3 HO_165002.out (fun _ hk => ⟨hk.2,hk.1⟩)) hg hat)
         have n1_:=qk3 (Kd.R_after (ok:=(fun k_ => some k_ ≠ (u165002 : Value).ownBlock)) (by (with_reducible repeat (first|apply qd3|apply qe3|apply qf3));exact qm3 HO_165003.out (fun _ hk => ⟨hk.2,hk.1⟩)) hg hat)
         have n2_:=qk3 (blk_grown (g:=gb153) (o:=.cells #[.int .i64 0,.slice none 0 0,.slice none 0 0,.slice none 0 0] 33 (0,0)) (by (with_reducible repeat (first|apply qa3|apply qb3|apply qc3));exact BK153.out) hg (Kd.R_ne HO_165001.out BK153.out (by decide)))
         have n3_:=qk3 (blk_grown (g:=gb164) (o:=.cells #[.int .i64 a1,u165001,u165002,.slice Ao13 y161.length co13] 33 (0,0)) (by (with_reducible repeat (first|apply qa3|apply qb3|apply qc3));exact BK164.out) hg (Kd.R_ne HO_165001.out BK164.out (by decide)))
         have n4_:=qk3 (hb)
         have n5_:=qk3 (ho)
         clear HO_165002
         clear HO_165003
         clear BK153
         clear BK164
         clear HB
         clear HO_165001
         have HO_165002:=n0_
         have HO_165003:=n1_
         have BK153:=n2_
         have BK164:=n3_
         have HB:=n4_
         have HO168:=n5_
         clear n0_ n1_ n2_ n3_ n4_ n5_
         clear ho hb hg hat
         obtain ⟨Ao32,co32,eo32⟩:=Kd.R_slice HO168.out
         (first|subst eo32|(injection eo32 with f1_ f2_ f3_;have f4_:=f1_.symm;have f5_:=f3_.symm;clear f1_ f2_ f3_;subst f4_;subst f5_))
         refine hK.out _ _ ⟨(blk_cell BK164.out 0).trans rfl,(blk_cell BK164.out 1).trans rfl,(blk_cell BK164.out 2).trans rfl,(blk_cell BK164.out 3).trans rfl⟩ (fun hHeld => ?_)
         clear hK K
         refine norm_ (a':=?_) ?_ ?_
         rotate_left
         ·
          show Act.put _ (some 37) _ = _
          simp only [Act.put,List.setIfInBounds_toArray,List.set_cons_zero,List.set_cons_succ,i64_w,i32_w]
          rfl
         refine pure_ (i:=9) (N:=some 38) (v:=?_) (a':=?_) #[true,true,true,true,true,true,true,true,true,true,false] rfl rfl (any_of HT_.out (by kernel_rfl)) (fun _ _ _ h => h) (Or.inl ⟨by rfl,?_⟩) ?_ ?_
         rotate_left
         ·
          intro w'
          go_simp
          with_reducible rfl
         rotate_left
         ·
          simp only [Act.put,List.setIfInBounds_toArray,List.set_cons_zero,List.set_cons_succ,i64_w,i32_w]
          rfl
         refine last_ (i:=10) (N:=none) #[true,true,true,true,true,true,true,true,true,true,true] rfl rfl (one_of HT_.out (by kernel_rfl)) (by decide) (fun K hK => ?_)
         have hs33 : w31.cell? ⟨gb164,1,none⟩ = some (u165001):=(blk_cell BK164.out 1).trans rfl
         have hfs33:=blk_frozen BK164.out 1
         have hns33_0:=NB153_164.out
         have hms33_0:=NB164_153.out
         refine skip_ (w1:=?_) (by rfl) rfl ?_ ?_
         rotate_left
         ·
          go_simp
          rfl
         refine hK.out _ _ ?_
         clear hK K
         refine done_ (done_of HT_.out (by kernel_rfl)) ?_
         try go_wp2
         have n0_ : Aside0 (Kd.R Kd.string 9 (w31.setCell ⟨gb164,1,none⟩ (.slice Ao32 y166.length co32)) w.heap.size (fun k_ => some k_ ≠ (.slice Ao13 y161.length co13 : Value).ownBlock ∧ some k_ ≠ (.slice Ao32 y166.length co32 : Value).ownBlock) u165002 x165002_1):=⟨by (with_reducible repeat (first|apply qd3|apply qe3|apply qf3));exact qm3 (ql3 (p:=⟨gb164,1,none⟩) (Kd.R_types HO_165002.out BK164.out (by decide)) (fun _ hk => hk.2) (.slice Ao32 y166.length co32)) (fun _ hk => ⟨hk.1.1,hk.1.2⟩)⟩
         have n1_ : Aside0 (Kd.R Kd.string 9 (w31.setCell ⟨gb164,1,none⟩ (.slice Ao32 y166.length co32)) w.heap.size (fun k_ => some k_ ≠ (u165002 : Value).ownBlock ∧ some k_ ≠ (.slice Ao32 y166.length co32 : Value).ownBlock) (.slice Ao13 y161.length co13) y161):=⟨by (with_reducible repeat (first|apply qd3|apply qe3|apply qf3));exact qm3 (ql3 (p:=⟨gb164,1,none⟩) (Kd.R_types HO_165003.out BK164.out (by decide)) (fun _ hk => hk.2) (.slice Ao32 y166.length co32)) (fun _ hk => ⟨hk.1.1,hk.1.2⟩)⟩
         have n2_ : Aside0 (Kd.R Kd.string 9 (w31.setCell ⟨gb164,1,none⟩ (.slice Ao32 y166.length co32)) w.heap.size (fun k_ => some k_ ≠ (u165002 : Value).ownBlock ∧ some k_ ≠ (.slice Ao13 y161.length co13 : Value).ownBlock) (.slice Ao32 y166.length co32) y166):=⟨by (with_reducible repeat (first|apply qd3|apply qe3|apply qf3));exact qm3 (ql3 (p:=⟨gb164,1,none⟩) (Kd.R_types HO168.out BK164.out (by decide)) (fun _ hk => hk.2) (.slice Ao32 y166.length co32)) (fun _ hk => ⟨hk.1.1,hk.1.2⟩)⟩
         have n3_ : Aside0 ((w31.setCell ⟨gb164,1,none⟩ (.slice Ao32 y166.length co32)).heap[gb153]? = some (.cells #[.int .i64 0,.slice none 0 0,.slice none 0 0,.slice none 0 0] 33 (0,0))):=⟨by (with_reducible repeat (first|apply qa3|apply qb3|apply qc3));refine blk_far ?_ NB153_164.out _;(with_reducible repeat (first|apply qa3|apply qb3|apply qc3));exact BK153.out⟩
         have n4_ : Aside0 ((w31.setCell ⟨gb164,1,none⟩ (.slice Ao32 y166.length co32)).heap[gb164]? = some (.cells #[.int .i64 a1,.slice Ao32 y166.length co32,u165002,.slice Ao13 y161.length co13] 33 (0,0))):=⟨by (with_reducible repeat (first|apply qa3|apply qb3|apply qc3));refine blk_put (cs:=#[.int .i64 a1,u165001,u165002,.slice Ao13 y161.length co13]) ?_ 1 _ rfl;(with_reducible repeat (first|apply qa3|apply qb3|apply qc3));exact BK164.out⟩
         have n5_ : Aside0 (Below w.heap.size w (w31.setCell ⟨gb164,1,none⟩ (.slice Ao32 y166.length co32))):=⟨by repeat (first|(with_reducible first|exact HB.out|apply qg3|apply qh3|apply qi3|refine qj3 ?_ GE153.out|refine qj3 ?_ GE164.out)|exact HB.out)⟩
         (try clear HO_165002)
         (try clear HO_165003)
         (try clear HO168)
         (try clear BK153)
         (try clear BK164)
         (try clear HB)
         generalize (w31.setCell ⟨gb164,1,none⟩ (.slice Ao32 y166.length co32)) = w34 at n0_ n1_ n2_ n3_ n4_ n5_ ⊢
         have HO_165002:=n0_
         have HO_165003:=n1_
         have HO168:=n2_
         have BK153:=n3_
         have BK164:=n4_
         have HB:=n5_
         clear n0_ n1_ n2_ n3_ n4_ n5_
         have n0_:=qk3 (qf3 HO_165002.out)
         have n1_:=qk3 (qf3 HO_165003.out)
         have n2_:=qk3 (qf3 HO168.out)
         have n3_:=qk3 (qb3 BK153.out)
         have n4_:=qk3 (qb3 BK164.out)
         have n5_:=qk3 (qi3 HB.out)
         clear HO_165002
         clear HO_165003
         clear HO168
         clear BK153
         clear BK164
         clear HB
         have HO_165002:=n0_
         have HO_165003:=n1_
         have HO168:=n2_
         have BK153:=n3_
         have BK164:=n4_
         have HB:=n5_
         clear n0_ n1_ n2_ n3_ n4_ n5_
         refine start_ (n:=14) (S:=fun w' => w'.cell? ⟨gb164,0,none⟩ = some (.int .i64 a1) ∧ w'.cell? ⟨gb164,1,none⟩ = some (.slice Ao32 y166.length co32) ∧ w'.cell? ⟨gb164,2,none⟩ = some (u165002) ∧ w'.cell? ⟨gb164,3,none⟩ = some (.slice Ao13 y161.length co13)) (ds:=[13]) #[false,false,false,false,false,false,false,false,false,false,false,false,false,false] (by kernel_rfl) rfl rfl ⟨(blk_cell BK164.out 0).trans rfl,(blk_cell BK164.out 1).trans rfl,(blk_cell BK164.out 2).trans rfl,(blk_cell BK164.out 3).trans rfl⟩ (fun hHeld => ?_);refine with_tabW spec_l03Sign.tab8 spec_l03Sign.bits8 (fun HT_ HW_ => ?_)
         generalize w34.drew = w35 at HO_165002 HO_165003 HO168 BK153 BK164 HB hHeld ⊢
         refine pure_ (i:=0) (N:=some 39) (v:=?_) (a':=?_) #[true,false,false,false,false,false,false,false,false,false,false,false,false,false] rfl rfl (any_of HT_.out (by kernel_rfl)) (fun _ _ _ h => h) (Or.inl ⟨by rfl,?_⟩) ?_ ?_
         rotate_left
         ·
          intro w'
          go_simp
          with_reducible rfl
         rotate_left
         ·
          simp only [Act.put,List.setIfInBounds_toArray,List.set_cons_zero,List.set_cons_succ,i64_w,i32_w]
          rfl
         refine pure_ (i:=2) (N:=some 41) (v:=?_) (a':=?_) #[true,false,true,false,false,false,false,false,false,false,false,false,false,false] rfl rfl (any_of HT_.out (by kernel_rfl)) (fun _ _ _ h => h) (Or.inl ⟨by rfl,?_⟩) ?_ ?_
         rotate_left
         ·
          intro w'
          go_simp
          with_reducible rfl
         rotate_left
         ·
          simp only [Act.put,List.setIfInBounds_toArray,List.set_cons_zero,List.set_cons_succ,i64_w,i32_w]
          rfl
         refine pure_ (i:=3) (N:=some 42) (v:=?_) (a':=?_) #[true,false,true,true,false,false,false,false,false,false,false,false,false,false] rfl rfl (any_of HT_.out (by kernel_rfl)) (fun _ _ _ h => h) (Or.inl ⟨by rfl,?_⟩) ?_ ?_
         rotate_left
         ·
          intro w'
          go_simp
          with_reducible rfl
         rotate_left
         ·
          simp only [Act.put,List.setIfInBounds_toArray,List.set_cons_zero,List.set_cons_succ,i64_w,i32_w]
          rfl
         refine pure_ (i:=4) (N:=some 43) (v:=?_) (a':=?_) #[true,false,true,true,true,false,false,false,false,false,false,false,false,false] rfl rfl (any_of HT_.out (by kernel_rfl)) (fun _ _ _ h => h) (Or.inl ⟨by rfl,?_⟩) ?_ ?_
         rotate_left
         ·
          intro w'
          go_simp
          with_reducible rfl
         rotate_left
         ·
          simp only [Act.put,List.setIfInBounds_toArray,List.set_cons_zero,List.set_cons_succ,i64_w,i32_w]
          rfl
         refine pure_ (i:=5) (N:=some 44) (v:=?_) (a':=?_) #[true,false,true,true,true,true,false,false,false,false,false,false,false,false] rfl rfl (any_of HT_.out (by kernel_rfl)) (fun _ _ _ h => h) (Or.inl ⟨by rfl,?_⟩) ?_ ?_
         rotate_left
         ·
          intro w'
          go_simp
          with_reducible rfl
         rotate_left
         ·
          simp only [Act.put,List.setIfInBounds_toArray,List.set_cons_zero,List.set_cons_succ,i64_w,i32_w]
          rfl
         refine pure_ (i:=6) (N:=some 45) (v:=?_) (a':=?_) #[true,false,true,true,true,true,true,false,false,false,false,false,false,false] rfl rfl (any_of HT_.out (by kernel_rfl)) (fun _ _ _ h => h) (Or.inl ⟨by rfl,?_⟩) ?_ ?_
         rotate_left
         ·
          intro w'
          go_simp
          with_reducible rfl
         rotate_left
         ·
          simp only [Act.put,List.setIfInBounds_toArray,List.set_cons_zero,List.set_cons_succ,i64_w,i32_w]
          rfl
         refine take_ (i:=1) (N:=some 40) (v:=?_) (a':=?_) #[true,true,true,true,true,true,true,false,false,false,false,false,false,false] rfl rfl (take_ofW HT_.out HW_.out (by kernel_rfl)) (fun _ _ _ h => h) (Or.inl ⟨by rfl,?_⟩) hHeld ?_ ?_
         rotate_left
         ·
          rintro w' ⟨s0,s1,s2,s3⟩
          go_simp
          with_reducible rfl
         rotate_left
         ·
          simp only [Act.put,List.setIfInBounds_toArray,List.set_cons_zero,List.set_cons_succ,i64_w,i32_w]
          rfl
         refine one_ (i:=7) (N:=some 46) #[true,true,true,true,true,true,true,true,false,false,false,false,false,false] rfl rfl (one_of HT_.out (by kernel_rfl)) (by decide) (fun K hK => ?_)
         refine goes_ Tryd.func108 (by kernel_rfl) rfl #[.string a0,.int .i64 a1,.int .i64 x9_1,.int .i64 (wrap64 (1 - (((bt t154 x9_1) - 48) % 256)))] (by rfl) rfl rfl (by (try simp only [List.map_toArray,List.map_cons,List.map_nil]);first|done|rfl|(simp only [List.length_drop,List.length_take];rfl)) ?_
         with_reducible refine (spec_l03Secret.calls a0 a1 x9_1 (wrap64 (1 - (((bt t154 x9_1) - 48) % 256))) t169 _ A25.out).mono ?_
         rintro e w36 ⟨rfl,hb⟩
         refine ⟨_,rfl,?_⟩
         have n0_:=qk3 (Kd.R_below (by (with_reducible repeat (first|apply qd3|apply qe3|apply qf3));exact HO_165002.out) hb)
         have n1_:=qk3 (Kd.R_below (by (with_reducible repeat (first|apply qd3|apply qe3|apply qf3));exact HO_165003.out) hb)
         have n2_:=qk3 (Kd.R_below (by (with_reducible repeat (first|apply qd3|apply qe3|apply qf3));exact HO168.out) hb)
         have n3_:=qk3 (blk_below (g:=gb153) (o:=.cells #[.int .i64 0,.slice none 0 0,.slice none 0 0,.slice none 0 0] 33 (0,0)) (by (with_reducible repeat (first|apply qa3|apply qb3|apply qc3));exact BK153.out) hb)
         have n4_:=qk3 (blk_below (g:=gb164) (o:=.cells #[.int .i64 a1,.slice Ao32 y166.length co32,u165002,.slice Ao13 y161.length co13] 33 (0,0)) (by (with_reducible repeat (first|apply qa3|apply qb3|apply qc3));exact BK164.out) hb)
         have n5_:=qk3 (below_step (by repeat (first|(with_reducible first|exact HB.out|apply qg3|apply qh3|apply qi3|refine qj3 ?_ GE153.out|refine qj3 ?_ GE164.out)|exact HB.out)) hb)
         clear HO_165002
         clear HO_165003
         clear HO168
         clear BK153
         clear BK164
         clear HB
         have HO_165002:=n0_
         have HO_165003:=n1_
         have HO168:=n2_
         have BK153:=n3_
         have BK164:=n4_
         have HB:=n5_
         clear n0_ n1_ n2_ n3_ n4_ n5_
         (try clear hb)
         (try clear hb2)
         (try clear hk)
         (try clear hi)
         refine hK.out _ _ ⟨(blk_cell BK164.out 0).trans rfl,(blk_cell BK164.out 1).trans rfl,(blk_cell BK164.out 2).trans rfl,(blk_cell BK164.out 3).trans rfl⟩ (fun hHeld => ?_)
         clear hK K
         refine norm_ (a':=?_) ?_ ?_
         rotate_left
         ·
          show Act.put _ (some 46) _ = _
          simp only [Act.put,List.setIfInBounds_toArray,List.set_cons_zero,List.set_cons_succ,i64_w,i32_w]
          rfl
         refine one_ (i:=8) (N:=some 47) #[true,true,true,true,true,true,true,true,true,false,false,false,false,false] rfl rfl (one_of HT_.out (by kernel_rfl)) (by decide) (fun K hK => ?_)
         refine R_bytes_step _ 5 (by rfl) (N:=47) rfl 9 22 _ rfl t169 rfl Tryd.underlying9 Tryd.underlying22 Tryd.underlying5 (ok:=fun _ => True) trivial (of_decide_eq_true (by first|(with_reducible assumption)|assumption)) (Below.refl _ _) (Nat.le_refl _) ?_
         intro v171 w37 ho38 hb hg_ hnew_
         clear hg_ hnew_
         (first|rw [← Ny170.out] at ho38|(simp only [Int.reduceToNat] at ho38;rw [← Ny170.out] at ho38))
         have n0_:=qk3 (Kd.R_below (by (with_reducible repeat (first|apply qd3|apply qe3|apply qf3));exact HO_165002.out) hb)
         have n1_:=qk3 (Kd.R_below (by (with_reducible repeat (first|apply qd3|apply qe3|apply qf3));exact HO_165003.out) hb)
         have n2_:=qk3 (Kd.R_below (by (with_reducible repeat (first|apply qd3|apply qe3|apply qf3));exact HO168.out) hb)
         have n3_:=qk3 (Kd.R_lower ho38 (below_size (by repeat (first|(with_reducible first|exact HB.out|apply qg3|apply qh3|apply qi3|refine qj3 ?_ GE153.out|refine qj3 ?_ GE164.out)|exact HB.out))))
         have n4_:=qk3 (blk_below (g:=gb153) (o:=.cells #[.int .i64 0,.slice none 0 0,.slice none 0 0,.slice none 0 0] 33 (0,0)) (by (with_reducible repeat (first|apply qa3|apply qb3|apply qc3));exact BK153.out) hb)
         have n5_:=qk3 (blk_below (g:=gb164) (o:=.cells #[.int .i64 a1,.slice Ao32 y166.length co32,u165002,.slice Ao13 y161.length co13] 33 (0,0)) (by (with_reducible repeat (first|apply qa3|apply qb3|apply qc3));exact BK164.out) hb)
         have n6_:=qk3 (below_step (by repeat (first|(with_reducible first|exact HB.out|apply qg3|apply qh3|apply qi3|refine qj3 ?_ GE153.out|refine qj3 ?_ GE164.out)|exact HB.out)) hb)
         clear HO_165002
         clear HO_165003
         clear HO168
         clear BK153
         clear BK164
         clear HB
         have HO_165002:=n0_
         have HO_165003:=n1_
         have HO168:=n2_
         have HO172:=n3_
         have BK153:=n4_
         have BK164:=n5_
         have HB:=n6_
         clear n0_ n1_ n2_ n3_ n4_ n5_ n6_
         clear hb ho38
         obtain ⟨Ao39,co39,eo39⟩:=Kd.R_slice HO172.out
         (first|subst eo39|(injection eo39 with f1_ f2_ f3_;have f4_:=f1_.symm;have f5_:=f3_.symm;clear f1_ f2_ f3_;subst f4_;subst f5_))
         refine hK.out _ _ ⟨(blk_cell BK164.out 0).trans rfl,(blk_cell BK164.out 1).trans rfl,(blk_cell BK164.out 2).trans rfl,(blk_cell BK164.out 3).trans rfl⟩ (fun hHeld => ?_)
         clear hK K
         refine norm_ (a':=?_) ?_ ?_
         rotate_left
         ·
          show Act.put _ (some 47) _ = _
          simp only [Act.put,List.setIfInBounds_toArray,List.set_cons_zero,List.set_cons_succ,i64_w,i32_w]
          rfl
         refine one_ (i:=9) (N:=some 48) #[true,true,true,true,true,true,true,true,true,true,false,false,false,false] rfl rfl (one_of HT_.out (by kernel_rfl)) (by decide) (fun K hK => ?_)
         refine goes_ Tryd.func54 (by kernel_rfl) rfl #[.slice Ao39 y170.length co39] (by rfl) rfl rfl (by (try simp only [List.map_toArray,List.map_cons,List.map_nil]);first|done|rfl|(simp only [List.length_drop,List.length_take];rfl)) ?_
         with_reducible refine (spec_l01Hash.calls _ _ y170 t173 _ ?side1 ?side2 A27.out).mono ?_
         (case side1 => repeat (first|exact (Kd.R_reads' HO172.out).2.2|(with_reducible refine Kd.C_alloc ?_ _)|(with_reducible refine Kd.C_drewN ?_ _)|(with_reducible refine Kd.C_drew ?_)))
         (case side2 => exact (Kd.R_reads' HO172.out).2.1)
         rintro e w40 ⟨rfl,hb⟩
         refine ⟨_,rfl,?_⟩
         have n0_:=qk3 (Kd.R_below (by (with_reducible repeat (first|apply qd3|apply qe3|apply qf3));exact HO_165002.out) hb)
         have n1_:=qk3 (Kd.R_below (by (with_reducible repeat (first|apply qd3|apply qe3|apply qf3));exact HO_165003.out) hb)
         have n2_:=qk3 (Kd.R_below (by (with_reducible repeat (first|apply qd3|apply qe3|apply qf3));exact HO168.out) hb)
         have n3_:=qk3 (Kd.R_below (by (with_reducible repeat (first|apply qd3|apply qe3|apply qf3));exact HO172.out) hb)
         have n4_:=qk3 (blk_below (g:=gb153) (o:=.cells #[.int .i64 0,.slice none 0 0,.slice none 0 0,.slice none 0 0] 33 (0,0)) (by (with_reducible repeat (first|apply qa3|apply qb3|apply qc3));exact BK153.out) hb)
         have n5_:=qk3 (blk_below (g:=gb164) (o:=.cells #[.int .i64 a1,.slice Ao32 y166.length co32,u165002,.slice Ao13 y161.length co13] 33 (0,0)) (by (with_reducible repeat (first|apply qa3|apply qb3|apply qc3));exact BK164.out) hb)
         have n6_:=qk3 (below_step (by repeat (first|(with_reducible first|exact HB.out|apply qg3|apply qh3|apply qi3|refine qj3 ?_ GE153.out|refine qj3 ?_ GE164.out)|exact HB.out)) hb)
         clear HO_165002
         clear HO_165003
         clear HO168
         clear HO172
         clear BK153
         clear BK164
         clear HB
         have HO_165002:=n0_
         have HO_165003:=n1_
         have HO168:=n2_
         have HO172:=n3_
         have BK153:=n4_
         have BK164:=n5_
         have HB:=n6_
         clear n0_ n1_ n2_ n3_ n4_ n5_ n6_
         (try clear hb)
         (try clear hb2)
         (try clear hk)
         (try clear hi)
         refine hK.out _ _ ⟨(blk_cell BK164.out 0).trans rfl,(blk_cell BK164.out 1).trans rfl,(blk_cell BK164.out 2).trans rfl,(blk_cell BK164.out 3).trans rfl⟩ (fun hHeld => ?_)
         clear hK K
         refine norm_ (a':=?_) ?_ ?_
         rotate_left
         ·
          show Act.put _ (some 48) _ = _
          simp only [Act.put,List.setIfInBounds_toArray,List.set_cons_zero,List.set_cons_succ,i64_w,i32_w]
          rfl
         refine one_ (i:=10) (N:=some 49) #[true,true,true,true,true,true,true,true,true,true,true,false,false,false] rfl rfl (one_of HT_.out (by kernel_rfl)) (by decide) (fun K hK => ?_)
         refine value_ (w1:=?_) (v:=?_) (by rfl) rfl ?_ ?_
         rotate_left 2
         ·
          go_simp
          constructor
          ·
           rfl
          ·
           rfl
         refine hK.out _ _ ⟨(blk_cell (qc3 BK164.out _) 0).trans rfl,(blk_cell (qc3 BK164.out _) 1).trans rfl,(blk_cell (qc3 BK164.out _) 2).trans rfl,(blk_cell (qc3 BK164.out _) 3).trans rfl⟩ (fun hHeld => ?_)
         clear hK K
         refine norm_ (a':=?_) ?_ ?_
         rotate_left
         ·
          show Act.put _ (some 49) _ = _
          simp only [Act.put,List.setIfInBounds_toArray,List.set_cons_zero,List.set_cons_succ,i64_w,i32_w]
          rfl
         refine one_ (i:=11) (N:=some 50) #[true,true,true,true,true,true,true,true,true,true,true,true,false,false] rfl rfl (one_of HT_.out (by kernel_rfl)) (by decide) (fun K hK => ?_)
         refine Kd.R_append_step Kd.string (w0:=w) w.heap.size (by rfl) (.tmp 40) (.tmp 49) 31 9 (.string ⟨#[]⟩) 16 rfl Tryd.underlying31 info9 rfl (by decide) (by omega) u165002 x165002_1 t173 [.string t173] (fun k_ => some k_ ≠ (.slice Ao13 y161.length co13 : Value).ownBlock ∧ some k_ ≠ (.slice Ao32 y166.length co32 : Value).ownBlock) (fun _ => False) rfl rfl ?aP (fun _ hk => hk.elim) ?aF ?aO ?aB ?aS ?aL ?_
         (case aP => exact rfl)
         (case aB => exact (by repeat (first|(with_reducible first|exact HB.out|apply qg3|apply qh3|apply qi3|refine qj3 ?_ GE153.out|refine qj3 ?_ GE164.out)|exact HB.out)))
         (case aF => exact (fun k_ hk => ⟨Kd.fresh' (Kd.R_lt (by (with_reducible repeat (first|apply qd3|apply qe3|apply qf3));exact HO_165003.out)) k_ hk,Kd.fresh' (Kd.R_lt (by (with_reducible repeat (first|apply qd3|apply qe3|apply qf3));exact HO168.out)) k_ hk⟩))
         (case aO => exact (by (with_reducible repeat (first|apply qd3|apply qe3|apply qf3));exact HO_165002.out))
         (case aS => exact (below_size (by repeat (first|(with_reducible first|exact HB.out|apply qg3|apply qh3|apply qi3|refine qj3 ?_ GE153.out|refine qj3 ?_ GE164.out)|exact HB.out))))
         (case aL => have:=LMc28.out;omega)
         intro v175 w41 ho hb hg hat
         rw [← Ny174.out] at ho
         have n0_:=qk3 (Kd.R_after (ok:=(fun k_ => some k_ ≠ (.slice Ao32 y166.length co32 : Value).ownBlock)) (by (with_reducible repeat (first|apply qd3|apply qe3|apply qf3));exact qm3 HO_165003.out (fun _ hk => ⟨hk.2,hk.1⟩)) hg hat)
         have n1_:=qk3 (blk_grown (g:=gb153) (o:=.cells #[.int .i64 0,.slice none 0 0,.slice none 0 0,.slice none 0 0] 33 (0,0)) (by (with_reducible repeat (first|apply qa3|apply qb3|apply qc3));exact BK153.out) hg (Kd.R_ne HO_165002.out BK153.out (by decide)))
         have n2_:=qk3 (blk_grown (g:=gb164) (o:=.cells #[.int .i64 a1,.slice Ao32 y166.length co32,u165002,.slice Ao13 y161.length co13] 33 (0,0)) (by (with_reducible repeat (first|apply qa3|apply qb3|apply qc3));exact BK164.out) hg (Kd.R_ne HO_165002.out BK164.out (by decide)))
         have n3_:=qk3 (Kd.R_after (ok:=(fun k_ => some k_ ≠ (.slice Ao13 y161.length co13 : Value).ownBlock)) (by (with_reducible repeat (first|apply qd3|apply qe3|apply qf3));exact qm3 HO168.out (fun _ hk => ⟨hk.2,hk.1⟩)) hg hat)
         have n4_:=qk3 (Kd.R_over' (by (with_reducible repeat (first|apply qd3|apply qe3|apply qf3));exact HO172.out) (Kd.R_typed (by (with_reducible repeat (first|apply qd3|apply qe3|apply qf3));exact HO_165002.out)) (by decide) hg)
         have n5_:=qk3 (hb)
         have n6_:=qk3 (ho)
         clear HO_165003
         clear BK153
         clear BK164
         clear HO168
         clear HO172
         clear HB
         clear HO_165002
         have HO_165003:=n0_
         have BK153:=n1_
         have BK164:=n2_
         have HO168:=n3_
         have HO172:=n4_
         have HB:=n5_
         have HO176:=n6_
         clear n0_ n1_ n2_ n3_ n4_ n5_ n6_
         clear ho hb hg hat
         obtain ⟨Ao42,co42,eo42⟩:=Kd.R_slice HO176.out
         (first|subst eo42|(injection eo42 with f1_ f2_ f3_;have f4_:=f1_.symm;have f5_:=f3_.symm;clear f1_ f2_ f3_;subst f4_;subst f5_))
         refine hK.out _ _ ⟨(blk_cell BK164.out 0).trans rfl,(blk_cell BK164.out 1).trans rfl,(blk_cell BK164.out 2).trans rfl,(blk_cell BK164.out 3).trans rfl⟩ (fun hHeld => ?_)
         clear hK K
         refine norm_ (a':=?_) ?_ ?_
         rotate_left
         ·
          show Act.put _ (some 50) _ = _
          simp only [Act.put,List.setIfInBounds_toArray,List.set_cons_zero,List.set_cons_succ,i64_w,i32_w]
          rfl
         refine pure_ (i:=12) (N:=some 51) (v:=?_) (a':=?_) #[true,true,true,true,true,true,true,true,true,true,true,true,true,false] rfl rfl (any_of HT_.out (by kernel_rfl)) (fun _ _ _ h => h) (Or.inl ⟨by rfl,?_⟩) ?_ ?_
         rotate_left
         ·
          intro w'
          go_simp
          with_reducible rfl
         rotate_left
         ·
          simp only [Act.put,List.setIfInBounds_toArray,List.set_cons_zero,List.set_cons_succ,i64_w,i32_w]
          rfl
         refine last_ (i:=13) (N:=none) #[true,true,true,true,true,true,true,true,true,true,true,true,true,true] rfl rfl (one_of HT_.out (by kernel_rfl)) (by decide) (fun K hK => ?_)
         have hs43 : w41.cell? ⟨gb164,2,none⟩ = some (u165002):=(blk_cell BK164.out 2).trans rfl
         have hfs43:=blk_frozen BK164.out 2
         have hns43_0:=NB153_164.out
         have hms43_0:=NB164_153.out
         refine skip_ (w1:=?_) (by rfl) rfl ?_ ?_
         rotate_left
         ·
          go_simp
          rfl
         refine hK.out _ _ ?_
         clear hK K
         refine done_ (done_of HT_.out (by kernel_rfl)) ?_
         try go_wp2
         go_roundg k1
         case measure => have:=HK1.out;omega
         case rel => exact ⟨(wrap64 (x9_1 + 1)),(y166),(y174),(.slice Ao32 y166.length co32),(.slice Ao42 y174.length co42),(by first|rfl|(simp;done)|(simp [*];done)),H',⟨by have:=HK1.out;omega⟩,⟨by (with_reducible repeat (first|apply qd3|apply qe3|apply qf3));exact qm3 (ql3 (p:=⟨gb164,2,none⟩) (Kd.R_types HO168.out BK164.out (by decide)) (fun _ hk => hk.2) (.slice Ao42 y174.length co42)) (fun _ hk => ⟨hk.1.2,hk.1.1⟩)⟩,⟨by (with_reducible repeat (first|apply qd3|apply qe3|apply qf3));exact qm3 (ql3 (p:=⟨gb164,2,none⟩) (Kd.R_types HO176.out BK164.out (by decide)) (fun _ hk => hk.2) (.slice Ao42 y174.length co42)) (fun _ hk => ⟨hk.1.2,hk.1.1⟩)⟩,⟨by (with_reducible repeat (first|apply qd3|apply qe3|apply qf3));exact qm3 (ql3 (p:=⟨gb164,2,none⟩) (Kd.R_types HO_165003.out BK164.out (by decide)) (fun _ hk => hk.2) (.slice Ao42 y174.length co42)) (fun _ hk => ⟨hk.1.1,hk.1.2⟩)⟩,⟨by (with_reducible repeat (first|apply qa3|apply qb3|apply qc3));refine blk_far ?_ NB153_164.out _;(with_reducible repeat (first|apply qa3|apply qb3|apply qc3));exact BK153.out⟩,⟨by (with_reducible repeat (first|apply qa3|apply qb3|apply qc3));refine blk_put (cs:=#[.int .i64 a1,.slice Ao32 y166.length co32,u165002,.slice Ao13 y161.length co13]) ?_ 2 _ rfl;(with_reducible repeat (first|apply qa3|apply qb3|apply qc3));exact BK164.out⟩,⟨by repeat (first|(with_reducible first|exact HB.out|apply qg3|apply qh3|apply qi3|refine qj3 ?_ GE153.out|refine qj3 ?_ GE164.out)|exact HB.out)⟩⟩
        ·
         rw [if_neg c28] at H
         exact absurd H (by simp)
       ·
        rw [if_neg c26] at H
        exact absurd H (by simp)
      ·
       rw [if_neg c24] at H
       exact absurd H (by simp)
     ·
      rw [if_neg c21] at H
      exact absurd H (by simp)
    ·
     rw [if_neg c20] at H
     exact absurd H (by simp)
   ·
    rw [if_neg c19] at H
    have c19b0 : decide (x9_1 < 32) = false:=decide_eq_false c19
    clear c19
    replace H:=Option.bind_eq_some_iff.mp H
    obtain ⟨t177,A440,H⟩:=H
    replace H : (spec_l03Sign.l1 k1 a1 t177 a1 x165001_1 x165002_1 y161) = some (r1,r2,r3,r4):=H
    have A44:=qk3 A440
    clear A440
    have H':=qk3 H
    clear H
    go_wp2_with (first|((with_reducible refine gate_callee (f:=70) rfl ?_);refine goesL_ (some 54) rfl rfl Tryd.func70 (by kernel_rfl) rfl #[.string a0] rfl (by (try simp only [List.map_toArray,List.map_cons,List.map_nil]);first|done|rfl|(simp only [List.length_drop,List.length_take];rfl)) ?_;(with_reducible refine (spec_l03Keys.calls k1 a0 t177 _ A44.out).mono ?_);rintro e w45 ⟨v178,rfl,ho0,hb⟩;refine ⟨_,rfl,?_⟩;have n0_:=qk3 (Kd.R_elder' (by (with_reducible repeat (first|apply qd3|apply qe3|apply qf3));exact HO_165001.out) (Kd.R_base ho0) hb);have n1_:=qk3 (Kd.R_elder' (by (with_reducible repeat (first|apply qd3|apply qe3|apply qf3));exact HO_165002.out) (Kd.R_base ho0) hb);have n2_:=qk3 (Kd.R_elder' (by (with_reducible repeat (first|apply qd3|apply qe3|apply qf3));exact HO_165003.out) (Kd.R_base ho0) hb);have n3_:=qk3 (Kd.R_lower (Kd.R_new' (Kd.R_new' (Kd.R_new' ho0 (Kd.R_lt (by (with_reducible repeat (first|apply qd3|apply qe3|apply qf3));exact HO_165001.out))) (Kd.R_lt (by (with_reducible repeat (first|apply qd3|apply qe3|apply qf3));exact HO_165002.out))) (Kd.R_lt (by (with_reducible repeat (first|apply qd3|apply qe3|apply qf3));exact HO_165003.out))) (below_size (by repeat (first|(with_reducible first|exact HB.out|apply qg3|apply qh3|apply qi3|refine qj3 ?_ GE153.out|refine qj3 ?_ GE164.out)|exact HB.out))));have n4_:=qk3 (blk_below (g:=gb153) (o:=.cells #[.int .i64 0,.slice none 0 0,.slice none 0 0,.slice none 0 0] 33 (0,0)) (by (with_reducible repeat (first|apply qa3|apply qb3|apply qc3));exact BK153.out) hb);have n5_:=qk3 (blk_below (g:=gb164) (o:=.cells #[.int .i64 a1,u165001,u165002,.slice Ao13 y161.length co13] 33 (0,0)) (by (with_reducible repeat (first|apply qa3|apply qb3|apply qc3));exact BK164.out) hb);have n6_:=qk3 (below_step (by repeat (first|(with_reducible first|exact HB.out|apply qg3|apply qh3|apply qi3|refine qj3 ?_ GE153.out|refine qj3 ?_ GE164.out)|exact HB.out)) hb);clear HO_165001;clear HO_165002;clear HO_165003;clear BK153;clear BK164;clear HB;have HO_165001:=n0_;have HO_165002:=n1_;have HO_165003:=n2_;have HO179:=n3_;have BK153:=n4_;have BK164:=n5_;have HB:=n6_;clear n0_ n1_ n2_ n3_ n4_ n5_ n6_;(try clear hb);(try clear hb2);(try clear hk);(try clear hi);(try clear ho0)))
    go_loopg [11,12] k1 (fun kq v11 v12 w' => ∃ (x11_2 : Int) (x12_2 : List ByteArray) (x165003_2 : List ByteArray) (u165003 : Value),v11 = .int .i64 x11_2 ∧ Aside0 (spec_l03Sign.l1 kq x11_2 x12_2 a1 x165001_1 x165002_1 x165003_2 = some (r1,r2,r3,r4)) ∧ Aside0 (kq ≤ k1) ∧ Aside0 (Kd.R Kd.string 9 w' w.heap.size (fun k_ => some k_ ≠ (u165001 : Value).ownBlock ∧ some k_ ≠ (u165002 : Value).ownBlock ∧ some k_ ≠ (u165003 : Value).ownBlock) v12 x12_2) ∧ Aside0 (Kd.R Kd.string 9 w' w.heap.size (fun k_ => some k_ ≠ (v12 : Value).ownBlock ∧ some k_ ≠ (u165002 : Value).ownBlock ∧ some k_ ≠ (u165003 : Value).ownBlock) u165001 x165001_1) ∧ Aside0 (Kd.R Kd.string 9 w' w.heap.size (fun k_ => some k_ ≠ (v12 : Value).ownBlock ∧ some k_ ≠ (u165001 : Value).ownBlock ∧ some k_ ≠ (u165003 : Value).ownBlock) u165002 x165002_1) ∧ Aside0 (Kd.R Kd.string 9 w' w.heap.size (fun k_ => some k_ ≠ (v12 : Value).ownBlock ∧ some k_ ≠ (u165001 : Value).ownBlock ∧ some k_ ≠ (u165002 : Value).ownBlock) u165003 x165003_2) ∧ Aside0 (w'.heap[gb153]? = some (.cells #[.int .i64 0,(.slice none 0 0),(.slice none 0 0),(.slice none 0 0)] 33 (0,0))) ∧ Aside0 (w'.heap[gb164]? = some (.cells #[.int .i64 a1,u165001,u165002,u165003] 33 (0,0))) ∧ Aside0 (Below w.heap.size w w'))
    case atStart => exact ⟨(a1),(t177),(y161),(.slice Ao13 y161.length co13),(by first|rfl|(simp;done)|(simp [*];done)),H',⟨Nat.le_refl _⟩,⟨by (with_reducible repeat (first|apply qd3|apply qe3|apply qf3));exact qm3 HO179.out (fun _ hk => ⟨hk.1.1.2,⟨hk.1.2,hk.2⟩⟩)⟩,⟨by (with_reducible repeat (first|apply qd3|apply qe3|apply qf3));exact qm3 HO_165001.out (fun _ hk => ⟨hk.2,⟨hk.1.1,hk.1.2⟩⟩)⟩,⟨by (with_reducible repeat (first|apply qd3|apply qe3|apply qf3));exact qm3 HO_165002.out (fun _ hk => ⟨hk.2,⟨hk.1.1,hk.1.2⟩⟩)⟩,⟨by (with_reducible repeat (first|apply qd3|apply qe3|apply qf3));exact qm3 HO_165003.out (fun _ hk => ⟨hk.2,⟨hk.1.1,hk.1.2⟩⟩)⟩,⟨by (with_reducible repeat (first|apply qa3|apply qb3|apply qc3));exact BK153.out⟩,⟨by (with_reducible repeat (first|apply qa3|apply qb3|apply qc3));exact BK164.out⟩,⟨by repeat (first|(with_reducible first|exact HB.out|apply qg3|apply qh3|apply qi3|refine qj3 ?_ GE153.out|refine qj3 ?_ GE164.out)|exact HB.out)⟩⟩
    case round =>
     clear H'
     try clear c1
     try clear c2
     try clear p2
     try clear q2
     try clear hx2
     try clear c5
     try clear c6
     try clear p6
     try clear c7
     try clear c10
     try clear c17
     try clear c19
     try clear c19b0
     try clear c20
     try clear c20b0
     try clear c21
     try clear c21b0
     try clear p22
     try clear q22
     try clear hx22
     try clear c24
     try clear c26
     try clear c26b0
     try clear c26b1
     try clear c26b2
     try clear c28
     try clear hcz18_0
     try clear hcz18_1
     try clear hcz18_2
     try clear hcz18_3
     try clear hfz18_0
     try clear hfz18_1
     try clear hfz18_2
     try clear hfz18_3
     try clear p2
     try clear p22
     try clear q22
     obtain ⟨x11_2,x12_2,x165003_2,u165003,rfl,HA,HK2,HO_12,HO_165001,HO_165002,HO_165003,BK153,BK164,HB⟩:=hrel
     cases gk with
     | zero => exact absurd HA.out (by simp [spec_l03Sign.l1])
     | succ k2 =>
      have H:=HA.out
      clear HA
      simp only [spec_l03Sign.l1] at H
      by_cases c46 : (x12_2.length : Int) > 1
      ·
       rw [if_pos c46] at H
       have c46b0 : decide (1 < (x12_2.length : Int)) = true:=decide_eq_true c46
       have c46b1 : decide (1 < x12_2.length) = true:=decide_eq_true (by omega)
       clear c46
       by_cases c47 : 0 ≤ (Go.bits .xor .i64 x11_2 1)
       ·
        rw [if_pos c47] at H
        have c47b0 : decide (0 ≤ (Go.bits .xor .i64 x11_2 1)) = true:=decide_eq_true c47
        clear c47
        by_cases c48 : (Go.bits .xor .i64 x11_2 1) < (x12_2.length : Int)
        ·
         rw [if_pos c48] at H
         have c48b0 : decide ((Go.bits .xor .i64 x11_2 1) < (x12_2.length : Int)) = true:=decide_eq_true c48
         clear c48
         by_cases c49 : x165003_2.length < 8796093022208
         ·
          rw [if_pos c49] at H
          have LMc49:=qk3 c49
          clear c49
          obtain ⟨y181,hy181⟩ : ∃ y_ : List ByteArray,y_ = (x165003_2 ++ [rdOf ByteArray.empty x12_2 (Go.bits .xor .i64 x11_2 1)]):=⟨_,rfl⟩
          replace H : ((spec_l03Level.f k2 x12_2).bind fun t184 => (spec_l03Sign.l1 k2 (wrap64 (Int.tdiv x11_2 2)) t184 a1 x165001_1 x165002_1 y181)) = some (r1,r2,r3,r4):=by first|(rw [hy181];with_reducible exact H)|(have H2_:=(Option.bind_some _ _).symm.trans H;rw [hy181];with_reducible exact H2_)|(have H2_:=(Option.bind_some _ _).symm.trans H;with_reducible exact H2_)|with_reducible exact H|(rw [hy181];exact H)|exact H
          have Ny181:=qk3 hy181
          clear hy181
          replace H:=Option.bind_eq_some_iff.mp H
          obtain ⟨t184,A500,H⟩:=H
          replace H : (spec_l03Sign.l1 k2 (wrap64 (Int.tdiv x11_2 2)) t184 a1 x165001_1 x165002_1 y181) = some (r1,r2,r3,r4):=H
          have A50:=qk3 A500
          clear A500
          have H':=qk3 H
          clear H
          obtain ⟨Ao51,co51,eo51⟩:=Kd.R_slice HO_12.out
          subst eo51
          try go_wp2
          have n0_:=qk3 (qf3 HO_12.out)
          have n1_:=qk3 (qf3 HO_165001.out)
          have n2_:=qk3 (qf3 HO_165002.out)
          have n3_:=qk3 (qf3 HO_165003.out)
          have n4_:=qk3 (qb3 BK153.out)
          have n5_:=qk3 (qb3 BK164.out)
          have n6_:=qk3 (qi3 HB.out)
          clear HO_12
          clear HO_165001
          clear HO_165002
          clear HO_165003
          clear BK153
          clear BK164
          clear HB
          have HO_12:=n0_
          have HO_165001:=n1_
          have HO_165002:=n2_
          have HO_165003:=n3_
          have BK153:=n4_
          have BK164:=n5_
          have HB:=n6_
          clear n0_ n1_ n2_ n3_ n4_ n5_ n6_
          have p180 : 0 ≤ ((Go.bits .xor .i64 x11_2 1) : Int):=of_decide_eq_true (by first|(with_reducible assumption)|assumption)
          have q180 : (Go.bits .xor .i64 x11_2 1) < (x12_2.length : Int):=of_decide_eq_true (by first|(with_reducible assumption)|assumption)
          obtain ⟨ad180,e180,hx180_0⟩:=Kd.at_string (Kd.R_reads' HO_12.out).2.2 (Go.bits .xor .i64 x11_2 1) p180 q180
          cases e180
          replace p180:=eq_true p180
          replace q180:=eq_true q180
          refine start_ (n:=11) (S:=fun w' => w'.cell? ⟨gb164,0,none⟩ = some (.int .i64 a1) ∧ w'.cell? ⟨gb164,1,none⟩ = some (u165001) ∧ w'.cell? ⟨gb164,2,none⟩ = some (u165002) ∧ w'.cell? ⟨gb164,3,none⟩ = some (u165003) ∧ w'.cell? (ad180.add ((Go.bits .xor .i64 x11_2 1)).toNat) = some (.string (rdOf ByteArray.empty x12_2 (Go.bits .xor .i64 x11_2 1)))) (ds:=[8,10]) #[false,false,false,false,false,false,false,false,false,false,false] (by kernel_rfl) rfl rfl ⟨(blk_cell BK164.out 0).trans rfl,(blk_cell BK164.out 1).trans rfl,(blk_cell BK164.out 2).trans rfl,(blk_cell BK164.out 3).trans rfl,hx180_0⟩ (fun hHeld => ?_);refine with_tabW spec_l03Sign.tab13 spec_l03Sign.bits13 (fun HT_ HW_ => ?_)
          generalize wr.drew = w52 at HO_12 HO_165001 HO_165002 HO_165003 BK153 BK164 HB hx180_0 hHeld ⊢
          refine pure_ (i:=0) (N:=some 60) (v:=?_) (a':=?_) #[true,false,false,false,false,false,false,false,false,false,false] rfl rfl (any_of HT_.out (by kernel_rfl)) (fun _ _ _ h => h) (Or.inl ⟨by rfl,?_⟩) ?_ ?_
          rotate_left
          ·
           intro w'
           go_simp
           with_reducible rfl
          rotate_left
          ·
           simp only [Act.put,List.setIfInBounds_toArray,List.set_cons_zero,List.set_cons_succ,i64_w,i32_w]
           rfl
          refine pure_ (i:=2) (N:=some 62) (v:=?_) (a':=?_) #[true,false,true,false,false,false,false,false,false,false,false] rfl rfl (any_of HT_.out (by kernel_rfl)) (fun _ _ _ h => h) (Or.inl ⟨by rfl,?_⟩) ?_ ?_
          rotate_left
          ·
           intro w'
           go_simp
           with_reducible rfl
          rotate_left
          ·
           simp only [Act.put,List.setIfInBounds_toArray,List.set_cons_zero,List.set_cons_succ,i64_w,i32_w]
           rfl
          refine pure_ (i:=3) (N:=some 63) (v:=?_) (a':=?_) #[true,false,true,true,false,false,false,false,false,false,false] rfl rfl (any_of HT_.out (by kernel_rfl)) (fun _ _ _ h => h) (Or.inl ⟨by rfl,?_⟩) ?_ ?_
          rotate_left
          ·
           intro w'
           go_simp
           with_reducible rfl
          rotate_left
          ·
           simp only [Act.put,List.setIfInBounds_toArray,List.set_cons_zero,List.set_cons_succ,i64_w,i32_w]
           rfl
          refine pure_ (i:=4) (N:=some 64) (v:=?_) (a':=?_) #[true,false,true,true,true,false,false,false,false,false,false] rfl rfl (any_of HT_.out (by kernel_rfl)) (fun _ _ _ h => h) (Or.inl ⟨by rfl,?_⟩) ?_ ?_
          rotate_left
          ·
           intro w'
           go_simp
           with_reducible rfl
          rotate_left
          ·
           simp only [Act.put,List.setIfInBounds_toArray,List.set_cons_zero,List.set_cons_succ,i64_w,i32_w]
           rfl
          refine pure_ (i:=5) (N:=some 65) (v:=?_) (a':=?_) #[true,false,true,true,true,true,false,false,false,false,false] rfl rfl (any_of HT_.out (by kernel_rfl)) (fun _ _ _ h => h) (Or.inl ⟨by rfl,?_⟩) ?_ ?_
          rotate_left
          ·
           intro w'
           go_simp
           with_reducible rfl
          rotate_left
          ·
           simp only [Act.put,List.setIfInBounds_toArray,List.set_cons_zero,List.set_cons_succ,i64_w,i32_w]
           rfl
          refine take_ (i:=1) (N:=some 61) (v:=?_) (a':=?_) #[true,true,true,true,true,true,false,false,false,false,false] rfl rfl (take_ofW HT_.out HW_.out (by kernel_rfl)) (fun _ _ _ h => h) (Or.inl ⟨by rfl,?_⟩) hHeld ?_ ?_
          rotate_left
          ·
           rintro w' ⟨s0,s1,s2,s3,s4⟩
           go_simp
           with_reducible rfl
          rotate_left
          ·
           simp only [Act.put,List.setIfInBounds_toArray,List.set_cons_zero,List.set_cons_succ,i64_w,i32_w]
           rfl
          refine take_ (i:=6) (N:=some 66) (v:=?_) (a':=?_) #[true,true,true,true,true,true,true,false,false,false,false] rfl rfl (take_ofW HT_.out HW_.out (by kernel_rfl)) (fun _ _ _ h => h) (Or.inl ⟨by rfl,?_⟩) hHeld ?_ ?_
          rotate_left
          ·
           rintro w' ⟨s0,s1,s2,s3,s4⟩
           go_simp
           with_reducible rfl
          rotate_left
          ·
           simp only [Act.put,List.setIfInBounds_toArray,List.set_cons_zero,List.set_cons_succ,i64_w,i32_w]
           rfl
          refine one_ (i:=7) (N:=some 67) #[true,true,true,true,true,true,true,true,false,false,false] rfl rfl (one_of HT_.out (by kernel_rfl)) (by decide) (fun K hK => ?_)
          refine value_ (w1:=?_) (v:=?_) (by rfl) rfl ?_ ?_
          rotate_left 2
          ·
           go_simp
           constructor
           ·
            rfl
           ·
            rfl
          refine hK.out _ _ ⟨(blk_cell (qc3 BK164.out _) 0).trans rfl,(blk_cell (qc3 BK164.out _) 1).trans rfl,(blk_cell (qc3 BK164.out _) 2).trans rfl,(blk_cell (qc3 BK164.out _) 3).trans rfl,(World.cell?_alloc_lt _ _ _ (World.block_lt_of_cell? _ _ (hHeld.2.2.2.2))).trans (hHeld.2.2.2.2)⟩ (fun hHeld => ?_)
          clear hK K
          refine norm_ (a':=?_) ?_ ?_
          rotate_left
          ·
           show Act.put _ (some 67) _ = _
           simp only [Act.put,List.setIfInBounds_toArray,List.set_cons_zero,List.set_cons_succ,i64_w,i32_w]
           rfl
          refine last_ (i:=8) (N:=some 68) #[true,true,true,true,true,true,true,true,true,false,false] rfl rfl (one_of HT_.out (by kernel_rfl)) (by decide) (fun K hK => ?_)
          refine Kd.R_append_step Kd.string (w0:=w) w.heap.size (by rfl) (.tmp 61) (.tmp 67) 31 9 (.string ⟨#[]⟩) 16 rfl Tryd.underlying31 info9 rfl (by decide) (by omega) u165003 x165003_2 (rdOf ByteArray.empty x12_2 (Go.bits .xor .i64 x11_2 1)) [.string (rdOf ByteArray.empty x12_2 (Go.bits .xor .i64 x11_2 1))] (fun k_ => some k_ ≠ (.slice (some ad180) x12_2.length co51 : Value).ownBlock ∧ some k_ ≠ (u165001 : Value).ownBlock ∧ some k_ ≠ (u165002 : Value).ownBlock) (fun _ => False) rfl rfl ?aP (fun _ hk => hk.elim) ?aF ?aO ?aB ?aS ?aL ?_
          (case aP => exact rfl)
          (case aB => exact (by repeat (first|(with_reducible first|exact HB.out|apply qg3|apply qh3|apply qi3|refine qj3 ?_ GE153.out|refine qj3 ?_ GE164.out)|exact HB.out)))
          (case aF => exact (fun k_ hk => ⟨Kd.fresh' (Kd.R_lt (by (with_reducible repeat (first|apply qd3|apply qe3|apply qf3));exact HO_12.out)) k_ hk,Kd.fresh' (Kd.R_lt (by (with_reducible repeat (first|apply qd3|apply qe3|apply qf3));exact HO_165001.out)) k_ hk,Kd.fresh' (Kd.R_lt (by (with_reducible repeat (first|apply qd3|apply qe3|apply qf3));exact HO_165002.out)) k_ hk⟩))
          (case aO => exact (by (with_reducible repeat (first|apply qd3|apply qe3|apply qf3));exact HO_165003.out))
          (case aS => exact (below_size (by repeat (first|(with_reducible first|exact HB.out|apply qg3|apply qh3|apply qi3|refine qj3 ?_ GE153.out|refine qj3 ?_ GE164.out)|exact HB.out))))
          (case aL => have:=LMc49.out;omega)
          intro v182 w53 ho hb hg hat
          rw [← Ny181.out] at ho
          have n0_:=qk3 (Kd.R_after (ok:=(fun k_ => some k_ ≠ (u165001 : Value).ownBlock ∧ some k_ ≠ (u165002 : Value).ownBlock)) (by (with_reducible repeat (first|apply qd3|apply qe3|apply qf3));exact qm3 HO_12.out (fun _ hk => ⟨⟨hk.1,hk.2.1⟩,hk.2.2⟩)) hg hat)
          have n1_:=qk3 (Kd.R_after (ok:=(fun k_ => some k_ ≠ (.slice (some ad180) x12_2.length co51 : Value).ownBlock ∧ some k_ ≠ (u165002 : Value).ownBlock)) (by (with_reducible repeat (first|apply qd3|apply qe3|apply qf3));exact qm3 HO_165001.out (fun _ hk => ⟨⟨hk.1,hk.2.1⟩,hk.2.2⟩)) hg hat)
          have n2_:=qk3 (Kd.R_after (ok:=(fun k_ => some k_ ≠ (.slice (some ad180) x12_2.length co51 : Value).ownBlock ∧ some k_ ≠ (u165001 : Value).ownBlock)) (by (with_reducible repeat (first|apply qd3|apply qe3|apply qf3));exact qm3 HO_165002.out (fun _ hk => ⟨⟨hk.1,hk.2.1⟩,hk.2.2⟩)) hg hat)
          have n3_:=qk3 (blk_grown (g:=gb153) (o:=.cells #[.int .i64 0,.slice none 0 0,.slice none 0 0,.slice none 0 0] 33 (0,0)) (by (with_reducible repeat (first|apply qa3|apply qb3|apply qc3));exact BK153.out) hg (Kd.R_ne HO_165003.out BK153.out (by decide)))
          have n4_:=qk3 (blk_grown (g:=gb164) (o:=.cells #[.int .i64 a1,u165001,u165002,u165003] 33 (0,0)) (by (with_reducible repeat (first|apply qa3|apply qb3|apply qc3));exact BK164.out) hg (Kd.R_ne HO_165003.out BK164.out (by decide)))
          have n5_:=qk3 (hb)
          have n6_:=qk3 (ho)
          clear HO_12
          clear HO_165001
          clear HO_165002
          clear BK153
          clear BK164
          clear HB
          clear HO_165003
          have HO_12:=n0_
          have HO_165001:=n1_
          have HO_165002:=n2_
          have BK153:=n3_
          have BK164:=n4_
          have HB:=n5_
          have HO183:=n6_
          clear n0_ n1_ n2_ n3_ n4_ n5_ n6_
          clear ho hb hg hat
          obtain ⟨Ao54,co54,eo54⟩:=Kd.R_slice HO183.out
          (first|subst eo54|(injection eo54 with f1_ f2_ f3_;have f4_:=f1_.symm;have f5_:=f3_.symm;clear f1_ f2_ f3_;subst f4_;subst f5_))
          refine hK.out _ _ ?_
          clear hK K
          refine norm_ (a':=?_) ?_ ?_
          rotate_left
          ·
           show Act.put _ (some 68) _ = _
           simp only [Act.put,List.setIfInBounds_toArray,List.set_cons_zero,List.set_cons_succ,i64_w,i32_w]
           rfl
          refine pure_ (i:=9) (N:=some 69) (v:=?_) (a':=?_) #[true,true,true,true,true,true,true,true,true,true,false] rfl rfl (any_of HT_.out (by kernel_rfl)) (fun _ _ _ h => h) (Or.inl ⟨by rfl,?_⟩) ?_ ?_
          rotate_left
          ·
           intro w'
           go_simp
           with_reducible rfl
          rotate_left
          ·
           simp only [Act.put,List.setIfInBounds_toArray,List.set_cons_zero,List.set_cons_succ,i64_w,i32_w]
           rfl
          refine last_ (i:=10) (N:=none) #[true,true,true,true,true,true,true,true,true,true,true] rfl rfl (one_of HT_.out (by kernel_rfl)) (by decide) (fun K hK => ?_)
          have hs55 : w53.cell? ⟨gb164,3,none⟩ = some (u165003):=(blk_cell BK164.out 3).trans rfl
          have hfs55:=blk_frozen BK164.out 3
          have hns55_0:=NB153_164.out
          have hms55_0:=NB164_153.out
          refine skip_ (w1:=?_) (by rfl) rfl ?_ ?_
          rotate_left
          ·
           go_simp
           rfl
          refine hK.out _ _ ?_
          clear hK K
          refine done_ (done_of HT_.out (by kernel_rfl)) ?_
          try go_wp2_with (first|((with_reducible refine gate_callee (f:=109) rfl ?_);refine goesL_ (some 59) rfl rfl Tryd.func109 (by kernel_rfl) rfl #[.slice (some ad180) x12_2.length co51] rfl (by (try simp only [List.map_toArray,List.map_cons,List.map_nil]);first|done|rfl|(simp only [List.length_drop,List.length_take];rfl)) ?_;(with_reducible refine (spec_l03Level.calls k2 _ _ x12_2 t184 _ ?side1 ?side2 A50.out).mono ?_);(case side1 => refine (Kd.R_reads' (e:=9) (base:=w.heap.size) (ok:=fun k_ => ((some k_ ≠ (u165001 : Value).ownBlock ∧ some k_ ≠ (u165002 : Value).ownBlock) ∧ some k_ ≠ (.slice Ao54 y181.length co54 : Value).ownBlock)) (n:=x12_2.length) (c:=co51) ?_).2.2;exact (by (with_reducible repeat (first|apply qd3|apply qe3|apply qf3));exact (qm3 (ql3 (p:=⟨gb164,3,none⟩) (Kd.R_types HO_12.out BK164.out (by decide)) (fun _ hk => hk.2) (.slice Ao54 y181.length co54)) (fun _ h_ => h_.1))));(case side2 => exact (Kd.R_reads' HO_12.out).2.1);rintro e w56 ⟨v185,rfl,ho0,hb⟩;refine ⟨_,rfl,?_⟩;have n0_:=qk3 (Kd.R_elder' (by (with_reducible repeat (first|apply qd3|apply qe3|apply qf3));exact (qm3 (ql3 (p:=⟨gb164,3,none⟩) (Kd.R_types HO_12.out BK164.out (by decide)) (fun _ hk => hk.2) (.slice Ao54 y181.length co54)) (fun _ h_ => h_.1))) (Kd.R_base ho0) hb);have n1_:=qk3 (Kd.R_elder' (by (with_reducible repeat (first|apply qd3|apply qe3|apply qf3));exact (qm3 (ql3 (p:=⟨gb164,3,none⟩) (Kd.R_types HO_165001.out BK164.out (by decide)) (fun _ hk => hk.2) (.slice Ao54 y181.length co54)) (fun _ h_ => h_.1))) (Kd.R_base ho0) hb);have n2_:=qk3 (Kd.R_elder' (by (with_reducible repeat (first|apply qd3|apply qe3|apply qf3));exact (qm3 (ql3 (p:=⟨gb164,3,none⟩) (Kd.R_types HO_165002.out BK164.out (by decide)) (fun _ hk => hk.2) (.slice Ao54 y181.length co54)) (fun _ h_ => h_.1))) (Kd.R_base ho0) hb);have n3_:=qk3 (Kd.R_elder' (by (with_reducible repeat (first|apply qd3|apply qe3|apply qf3));exact (qm3 (ql3 (p:=⟨gb164,3,none⟩) (Kd.R_types HO183.out BK164.out (by decide)) (fun _ hk => hk.2) (.slice Ao54 y181.length co54)) (fun _ h_ => h_.1))) (Kd.R_base ho0) hb);have n4_:=qk3 (Kd.R_lower (Kd.R_new' (Kd.R_new' (Kd.R_new' (Kd.R_new' ho0 (Kd.R_lt (by (with_reducible repeat (first|apply qd3|apply qe3|apply qf3));exact (qm3 (ql3 (p:=⟨gb164,3,none⟩) (Kd.R_types HO_12.out BK164.out (by decide)) (fun _ hk => hk.2) (.slice Ao54 y181.length co54)) (fun _ h_ => h_.1))))) (Kd.R_lt (by (with_reducible repeat (first|apply qd3|apply qe3|apply qf3));exact (qm3 (ql3 (p:=⟨gb164,3,none⟩) (Kd.R_types HO_165001.out BK164.out (by decide)) (fun _ hk => hk.2) (.slice Ao54 y181.length co54)) (fun _ h_ => h_.1))))) (Kd.R_lt (by (with_reducible repeat (first|apply qd3|apply qe3|apply qf3));exact (qm3 (ql3 (p:=⟨gb164,3,none⟩) (Kd.R_types HO_165002.out BK164.out (by decide)) (fun _ hk => hk.2) (.slice Ao54 y181.length co54)) (fun _ h_ => h_.1))))) (Kd.R_lt (by (with_reducible repeat (first|apply qd3|apply qe3|apply qf3));exact (qm3 (ql3 (p:=⟨gb164,3,none⟩) (Kd.R_types HO183.out BK164.out (by decide)) (fun _ hk => hk.2) (.slice Ao54 y181.length co54)) (fun _ h_ => h_.1))))) (below_size (by repeat (first|(with_reducible first|exact HB.out|apply qg3|apply qh3|apply qi3|refine qj3 ?_ GE153.out|refine qj3 ?_ GE164.out)|exact HB.out))));have n5_:=qk3 (blk_below (g:=gb153) (o:=.cells #[.int .i64 0,.slice none 0 0,.slice none 0 0,.slice none 0 0] 33 (0,0)) (by (with_reducible repeat (first|apply qa3|apply qb3|apply qc3));refine blk_far ?_ NB153_164.out _;(with_reducible repeat (first|apply qa3|apply qb3|apply qc3));exact BK153.out) hb);have n6_:=qk3 (blk_below (g:=gb164) (o:=.cells #[.int .i64 a1,u165001,u165002,.slice Ao54 y181.length co54] 33 (0,0)) (by (with_reducible repeat (first|apply qa3|apply qb3|apply qc3));refine blk_put (cs:=#[.int .i64 a1,u165001,u165002,u165003]) ?_ 3 _ rfl;(with_reducible repeat (first|apply qa3|apply qb3|apply qc3));exact BK164.out) hb);have n7_:=qk3 (below_step (by repeat (first|(with_reducible first|exact HB.out|apply qg3|apply qh3|apply qi3|refine qj3 ?_ GE153.out|refine qj3 ?_ GE164.out)|exact HB.out)) hb);clear HO_12;clear HO_165001;clear HO_165002;clear HO183;clear BK153;clear BK164;clear HB;have HO_12:=n0_;have HO_165001:=n1_;have HO_165002:=n2_;have HO183:=n3_;have HO186:=n4_;have BK153:=n5_;have BK164:=n6_;have HB:=n7_;clear n0_ n1_ n2_ n3_ n4_ n5_ n6_ n7_;(try clear hb);(try clear hb2);(try clear hk);(try clear hi);(try clear ho0)))
          go_roundg k2
          case measure => have:=HK1.out;have:=HK2.out;omega
          case rel => exact ⟨(wrap64 (Int.tdiv x11_2 2)),(t184),(y181),(.slice Ao54 y181.length co54),(by first|rfl|(simp;done)|(simp [*];done)),H',⟨by have:=HK1.out;have:=HK2.out;omega⟩,⟨by (with_reducible repeat (first|apply qd3|apply qe3|apply qf3));exact qm3 HO186.out (fun _ hk => ⟨hk.1.1.2,⟨hk.1.2,hk.2⟩⟩)⟩,⟨by (with_reducible repeat (first|apply qd3|apply qe3|apply qf3));exact qm3 HO_165001.out (fun _ hk => ⟨hk.2,⟨hk.1.1.2,hk.1.2⟩⟩)⟩,⟨by (with_reducible repeat (first|apply qd3|apply qe3|apply qf3));exact qm3 HO_165002.out (fun _ hk => ⟨hk.2,⟨hk.1.1.2,hk.1.2⟩⟩)⟩,⟨by (with_reducible repeat (first|apply qd3|apply qe3|apply qf3));exact qm3 HO183.out (fun _ hk => ⟨hk.2,⟨hk.1.2.1,hk.1.2.2⟩⟩)⟩,⟨by (with_reducible repeat (first|apply qa3|apply qb3|apply qc3));exact BK153.out⟩,⟨by (with_reducible repeat (first|apply qa3|apply qb3|apply qc3));exact BK164.out⟩,⟨by repeat (first|(with_reducible first|exact HB.out|apply qg3|apply qh3|apply qi3|refine qj3 ?_ GE153.out|refine qj3 ?_ GE164.out)|exact HB.out)⟩⟩
         ·
          rw [if_neg c49] at H
          exact absurd H (by simp)
        ·
         rw [if_neg c48] at H
         exact absurd H (by simp)
       ·
        rw [if_neg c47] at H
        exact absurd H (by simp)
      ·
       rw [if_neg c46] at H
       have c46b0 : decide (1 < (x12_2.length : Int)) = false:=decide_eq_false c46
       have c46b1 : decide (1 < x12_2.length) = false:=decide_eq_false (by omega)
       clear c46
       simp only [Option.some.injEq,Prod.mk.injEq] at H
       obtain ⟨rfl,rfl,rfl,rfl⟩:=H
       obtain ⟨Ao57,co57,eo57⟩:=Kd.R_slice HO_12.out
       subst eo57
       have hnb58:=NB164_153.out
       have hnc58:=NB153_164.out
       have hcz59_0 : wr.cell? ⟨gb164,0,none⟩ = some (.int .i64 a1):=(blk_cell BK164.out 0).trans rfl
       have hcz59_1 : wr.cell? ⟨gb164,1,none⟩ = some (u165001):=(blk_cell BK164.out 1).trans rfl
       have hcz59_2 : wr.cell? ⟨gb164,2,none⟩ = some (u165002):=(blk_cell BK164.out 2).trans rfl
       have hcz59_3 : wr.cell? ⟨gb164,3,none⟩ = some (u165003):=(blk_cell BK164.out 3).trans rfl
       have hfz59_0:=blk_frozen BK164.out 0
       have hfz59_1:=blk_frozen BK164.out 1
       have hfz59_2:=blk_frozen BK164.out 2
       have hfz59_3:=blk_frozen BK164.out 3
       have hcz60_0 : wr.cell? ⟨gb153,0,none⟩ = some (.int .i64 0):=(blk_cell BK153.out 0).trans rfl
       have hcz60_1 : wr.cell? ⟨gb153,1,none⟩ = some (.slice none 0 0):=(blk_cell BK153.out 1).trans rfl
       have hcz60_2 : wr.cell? ⟨gb153,2,none⟩ = some (.slice none 0 0):=(blk_cell BK153.out 2).trans rfl
       have hcz60_3 : wr.cell? ⟨gb153,3,none⟩ = some (.slice none 0 0):=(blk_cell BK153.out 3).trans rfl
       have hfz60_0:=blk_frozen BK153.out 0
       have hfz60_1:=blk_frozen BK153.out 1
       have hfz60_2:=blk_frozen BK153.out 2
       have hfz60_3:=blk_frozen BK153.out 3
       obtain ⟨Ao61,co61,eo61⟩:=Kd.R_slice HO_165001.out
       subst eo61
       obtain ⟨Ao62,co62,eo62⟩:=Kd.R_slice HO_165002.out
       subst eo62
       obtain ⟨Ao63,co63,eo63⟩:=Kd.R_slice HO_165003.out
       subst eo63
       go_wp2
       refine bodyPost_ret (results_cell_row rfl _ _ gb153 33 #[.int .i64 a1,.slice Ao61 x165001_1.length co61,.slice Ao62 x165002_1.length co62,.slice Ao63 x165003_2.length co63] (0,0) _ rfl (by (with_reducible repeat (first|apply qa3|apply qb3|apply qc3));refine blk_put (cs:=#[.int .i64 a1,.slice Ao61 x165001_1.length co61,.slice Ao62 x165002_1.length co62,.slice none 0 0]) ?_ 3 _ rfl;(with_reducible repeat (first|apply qa3|apply qb3|apply qc3));refine blk_put (cs:=#[.int .i64 a1,.slice Ao61 x165001_1.length co61,.slice none 0 0,.slice none 0 0]) ?_ 2 _ rfl;(with_reducible repeat (first|apply qa3|apply qb3|apply qc3));refine blk_put (cs:=#[.int .i64 a1,.slice none 0 0,.slice none 0 0,.slice none 0 0]) ?_ 1 _ rfl;(with_reducible repeat (first|apply qa3|apply qb3|apply qc3));refine blk_put (cs:=#[.int .i64 0,.slice none 0 0,.slice none 0 0,.slice none 0 0]) ?_ 0 _ rfl;(with_reducible repeat (first|apply qa3|apply qb3|apply qc3));exact BK153.out) Tryd.underlying33 rfl (by kernel_rfl)) rfl ?_
       exact ⟨_,_,_,by first|rfl|(simp [errW_none,errW_some] <;> rfl)|(simp [*,errW_none,errW_some] <;> rfl),by (with_reducible repeat (first|apply qd3|apply qe3|apply qf3));exact qm3 (ql3 (p:=⟨gb153,3,none⟩) (ql3 (p:=⟨gb153,2,none⟩) (ql3 (p:=⟨gb153,1,none⟩) (ql3 (p:=⟨gb153,0,none⟩) (Kd.R_types HO_165001.out BK153.out (by decide)) (fun _ hk => hk.2) (.int .i64 a1)) (fun _ hk => hk.2) (.slice Ao61 x165001_1.length co61)) (fun _ hk => hk.2) (.slice Ao62 x165002_1.length co62)) (fun _ hk => hk.2) (.slice Ao63 x165003_2.length co63)) (fun _ hk => ⟨hk.1.2.1,hk.1.2.2⟩),by (with_reducible repeat (first|apply qd3|apply qe3|apply qf3));exact qm3 (ql3 (p:=⟨gb153,3,none⟩) (ql3 (p:=⟨gb153,2,none⟩) (ql3 (p:=⟨gb153,1,none⟩) (ql3 (p:=⟨gb153,0,none⟩) (Kd.R_types HO_165002.out BK153.out (by decide)) (fun _ hk => hk.2) (.int .i64 a1)) (fun _ hk => hk.2) (.slice Ao61 x165001_1.length co61)) (fun _ hk => hk.2) (.slice Ao62 x165002_1.length co62)) (fun _ hk => hk.2) (.slice Ao63 x165003_2.length co63)) (fun _ hk => ⟨hk.1.2.1,hk.1.2.2⟩),by (with_reducible repeat (first|apply qd3|apply qe3|apply qf3));exact qm3 (ql3 (p:=⟨gb153,3,none⟩) (ql3 (p:=⟨gb153,2,none⟩) (ql3 (p:=⟨gb153,1,none⟩) (ql3 (p:=⟨gb153,0,none⟩) (Kd.R_types HO_165003.out BK153.out (by decide)) (fun _ hk => hk.2) (.int .i64 a1)) (fun _ hk => hk.2) (.slice Ao61 x165001_1.length co61)) (fun _ hk => hk.2) (.slice Ao62 x165002_1.length co62)) (fun _ hk => hk.2) (.slice Ao63 x165003_2.length co63)) (fun _ hk => ⟨hk.1.2.1,hk.1.2.2⟩),by repeat (first|(with_reducible first|exact HB.out|apply qg3|apply qh3|apply qi3|refine qj3 ?_ GE153.out|refine qj3 ?_ GE164.out)|exact HB.out)⟩

end Go.Proofs.YtmkaknegjahjaaaDoor.PFnLamport
